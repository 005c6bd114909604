/- prop.list: its walk. -/
import Derived.Test.YtnbgmpfldoaodabList
import Derived.Deep.AppendLies
namespace Go.Proofs.Ytnbgmpfldoaodab
open Go.RowKit Go.Sort
set_option maxHeartbeats 2000000
set_option linter.unusedVariables false
set_option linter.unusedSimpArgs false
theorem heap_new_at {w : World} {o : Obj} {n : Nat} (h : w.heap.size = n) : (w.alloc o).heap[n]? = some o := by rw [← h]; exact heap_alloc_new ..
theorem row_set {ops : Array Oper} {rest : List Oper} {o : Oper} {a : Act} {w : World} {Q : Exit → Act → World → Prop} (g i : Nat) (t : TypeId) (cs cs' : Array Value) (v : Value) (ty : TypeId) (x y : Operand) (hg : w.heap[g]? = some (.cells cs t (0, 0)))
    (hgd : Region.wanted o (yielded ops a.tmps) = true) (ho : o.op = .store ty x y) (hx : a.eval x = .pointer (some ⟨g, i, none⟩)) (hy : a.eval y = v)
    (hi : (Try.prog.info? ty).map (·.size) = some v.cells.size) (h1 : v.cells.all (·.oneCell') = true) (hle : i + v.cells.size ≤ cs.size) (hq : setsAt cs i v.cells.toList = cs')
    (h : ∀ w', w'.heap[g]? = some (.cells cs' t (0, 0)) → w.grownBy w' (some g) → wpList Try.prog ops Q rest (a.put o.dst undef) w') : wpList Try.prog ops Q (o :: rest) a w :=
  wpList_step fun K hK => by
    rw [if_pos hgd]
    unfold Oper.wp execOp
    simp only [ho, hx, hy, Instr.storeAt, Instr.sureAddr, Sem.run_bind, Sem.run_pure, Result.andThen_ok, run_storeVar_cells w g i ty _ cs v hg hi hle h1]
    refine hK _ _ (h _ ?_ (grown_setCells _ _ _))
    rw [← hq]
    exact heap_setCells _ _ _ _ hg
theorem call_reader {sh : Int} (hs : shapeB sh) (v : Value) (w : World) : (callFunc (readFn sh) #[v]).run Try.prog w = .ok (.enter (readFn sh) #[v]) w := by
  rcases hs with rfl | rfl | rfl | rfl | rfl | rfl | rfl <;> kernel_rfl
def ruleC (r : Rule) : Array Value := #[.int .i64 r.shape, .int .i64 r.kinds, .int .u32 r.least, .int .u32 r.most]
theorem own_mono {w : World} {base base' : Nat} {e : TypeId} {size : Nat} {v : Value} {n : Nat} {xs : List Value} (h : w.ownsRow base e size v n xs) (hb : base' ≤ base) : w.ownsRow base' e size v n xs := by
  refine ⟨h.1, ?_⟩
  rcases h.2 with h0 | ⟨g, cap, cur, h1, h2, h3⟩
  · exact .inl h0
  · exact .inr ⟨g, cap, cur, h1, by omega, h3⟩
theorem numN_bd {c : Cu} (ok : CuOK c) {k : Int} (hk : k ≤ 4) : 0 ≤ numN c k ∧ numN c k < 4294967296 := getF_bd (k := 4) (Nat.le_trans (needF_size ok k) (by omega))
theorem readP_prp {sh : Int} (hs : shapeB sh) {c : Cu} (ok : CuOK c) {id : Int} (n0 : 0 ≤ id) (n1 : id < 4294967296) : PrpOK (readP sh (zeroP id) c).1 := by
  obtain ⟨t1, t2⟩ := readP_size hs (p := zeroP id) (Nat.zero_le _) (Nat.zero_le _) ok
  have hn : 0 ≤ (readP sh (zeroP id) c).1.n ∧ (readP sh (zeroP id) c).1.n < 4294967296 := by
    rcases hs with rfl | rfl | rfl | rfl | rfl | rfl | rfl
    · exact numN_bd (k := 1) ok (by decide)
    · exact numN_bd (k := 2) ok (by decide)
    · exact numN_bd (k := 4) ok (by decide)
    · have := (viRead_bd (restF c)).1; exact ⟨this.1, Int.lt_trans this.2 (by decide)⟩
    · exact ⟨Int.le_refl 0, show (0 : Int) < 4294967296 by decide⟩
    · exact ⟨Int.le_refl 0, show (0 : Int) < 4294967296 by decide⟩
    · exact ⟨Int.le_refl 0, show (0 : Int) < 4294967296 by decide⟩
  exact ⟨hn.1, hn.2, Nat.le_trans t1 (by decide), Nat.le_trans t2 (by decide)⟩
set_option maxRecDepth 100000 in
theorem list_t (kind : Int) (s : ByteArray) (w : World) (hs : s.size ≤ 140737488351232) : Calls Try.prog 70 #[.int .i64 kind, .string s] w fun e w' => ∃ v, e = .returned (.tuple #[v, .int .i64 (listF kind s).2]) ∧ Below w.heap.size w w' ∧ w'.ownsRow w.heap.size 25 4 v (listF kind s).1.length (flatP (listF kind s).1) ∧ (∀ p ∈ (listF kind s).1, PrpOK p) := by
  go_enter Try.func70, Try.ntmps70
  go_wp2_with fail
  refine (rules_t _).mono ?_
  rintro e w1 ⟨M, hM, rfl, hw1⟩
  subst hM hw1
  go_wp2_with fail
  refine (readers_t _).mono ?_
  rintro e w2 ⟨rfl, hw2⟩
  have z1 : (w.alloc (.map (ruleEs 27) 27)).heap.size = w.heap.size + 1 := by simp
  have z2 : w2.heap.size = w.heap.size + 2 := by rw [hw2]; simp
  have HR2 : Hid (w2.heap[w.heap.size]? = some (.map (ruleEs 27) 27) ∧ w2.heap[w.heap.size + 1]? = some (.map (readEs 7) 7) ∧ Below w.heap.size w w2) := Lib.hid (by
    refine ⟨?_, ?_, ?_⟩
    · rw [hw2, heap_alloc_old _ _ (by omega)]; exact heap_alloc_new ..
    · rw [hw2, ← z1]; exact heap_alloc_new ..
    · rw [hw2]; exact ((Below.refl _ w).alloc (Nat.le_refl _) _).alloc (by simp) _)
  rw [z1]
  clear hw2 z1
  go_wp2_with fail
  refine (cnew_t s _).mono ?_
  rintro e w3 ⟨rfl, hw3⟩
  go_wp2
  rw [show w.heap.size + 2 + 1 + 1 = w.heap.size + 4 by omega, show w.heap.size + 2 + 1 = w.heap.size + 3 by omega]
  go_loopw [8] (fun v8 wr => ∃ (p : Prp) (c : Cu) (f : Nat → Int) (out : List Prp), out.length ≤ 1000 ∧ CuOK c ∧ (∀ i, 0 ≤ f i ∧ f i ≤ out.length) ∧ LInv w w.heap.size wr p c f v8 out ∧ (∀ q ∈ out, PrpOK q) ∧ listF kind s = listGo (1001 - out.length) kind c f out) (fun v8 _ => 1001 - lenOf v8)
  case atStart =>
    refine ⟨zeroP 0, newCu s, fun _ => 0, [], by simp, ⟨Nat.zero_le _, hs⟩, fun i => ⟨Int.le_refl 0, by simp⟩, ?_, by simp, rfl⟩
    obtain ⟨q1, q2, q3⟩ := HR2.out
    refine ⟨?_, ?_, ?_, ⟨?_, ?_, by omega⟩, World.ownsRow_nil _ _ _ _, ?_⟩
    · rw [heap_alloc_old _ _ (by simp; omega), heap_alloc_old _ _ (by simp; omega), heap_alloc_old _ _ (by omega)]; exact q1
    · rw [heap_alloc_old _ _ (by simp; omega), heap_alloc_old _ _ (by simp; omega), heap_alloc_old _ _ (by omega)]; exact q2
    · unfold Seen; rw [zero64, heap_alloc_old _ _ (by simp; omega), heap_alloc_old _ _ (by simp; omega), ← z2]; exact heap_alloc_new ..
    · exact heap_new_at (by simp; omega)
    · unfold CurAt; rw [heap_alloc_old _ _ (by simp; omega)]; exact heap_new_at (by simp; omega)
    · exact (((q3.alloc (by omega) _).alloc (by simp; omega) _).alloc (by simp; omega) _)
  case round =>
    obtain ⟨p, c, f, out, hlen, hok, hf, hinv, hpk, hgo⟩ := hrel
    obtain ⟨A, cap, rfl⟩ := own_len hinv.own
    obtain ⟨m, hm⟩ : ∃ m, 1001 - out.length = m + 1 := ⟨1000 - out.length, by omega⟩
    rw [hm] at hgo
    have HI := Lib.hid hinv
    have HO := Lib.hid hok
    have HGO := Lib.hid hgo
    have HF := Lib.hid hf
    have HK := Lib.hid hpk
    obtain ⟨s0, -⟩ := src_cells hinv.src
    clear hinv hok hgo hf hpk
    go_wp2_with fail
    refine (left_t (w.heap.size + 3) c _ HI.out.src.2.1 HO.out).mono ?_
    rintro e w5 ⟨rfl, hc, hg⟩
    have HI5 := Lib.hid (HI.out.cur hc hg)
    obtain ⟨s0', -⟩ := src_cells HI5.out.src
    clear s0 hc hg
    cases hl : decide (0 < leftF c)
    · go_wp2_with fail
      refine (lone_t (w.heap.size + 2) f _ HI5.out.seen).mono ?_
      rintro e w6 ⟨rfl, hw⟩
      subst hw
      cases hlo : loneB f
      · have HE : Hid (listF kind s = (out, 0)) := Lib.hid (by rw [HGO.out, listGo, hl, if_neg Bool.false_ne_true, hlo, if_neg Bool.false_ne_true])
        go_wp2
        go_ret2
        exact ⟨_, by rw [HE.out]; rfl, HI5.out.bel, by rw [HE.out]; exact own_mono HI5.out.own (by omega), by rw [HE.out]; exact HK.out⟩
      · have HE : Hid (listF kind s = ([], 9)) := Lib.hid (by rw [HGO.out, listGo, hl, if_neg Bool.false_ne_true, hlo, if_pos rfl])
        go_wp2
        go_ret2
        exact ⟨_, by rw [HE.out]; rfl, HI5.out.bel, by rw [HE.out]; exact World.ownsRow_nil _ _ _ _, by rw [HE.out]; intro q hq; cases hq⟩
    go_wp2_with fail
    refine (number_t (w.heap.size + 3) c 1 _ HI5.out.src.2.1 HO.out (by decide)).mono ?_
    rintro e w6 ⟨rfl, hc, hg⟩
    have HI6 := Lib.hid (HI5.out.cur hc hg)
    have HO6 := Lib.hid (takeF_ok HO.out 1)
    obtain ⟨n0, n1⟩ : 0 ≤ numF c 1 ∧ numF c 1 < 4294967296 := getF_bd (k := 4) (Nat.le_trans (take_size HO.out 1) (by decide))
    have hnw := i64w n0 n1
    have hlook := run_rule w6 w.heap.size (numF c 1) HI6.out.rules
    clear s0' hc hg
    go_wp2_with fail
    refine (rhas_t (ruleOf (numF c 1)) kind _ (ruleOf_kinds _).1 (ruleOf_kinds _).2).mono ?_
    rintro e w7 ⟨rfl, hb⟩
    have hbw : Below w6.heap.size w6 w7 := below_then ((Below.refl _ _).alloc (Nat.le_refl _) _) (by simp) hb
    have HI7 := Lib.hid (HI6.out.below hbw)
    have HR7 : Hid (w7.heap[w6.heap.size]? = some (.cells (ruleC (ruleOf (numF c 1))) 78 (0, 0))) := Lib.hid (by rw [hb.block _ (by simp)]; exact heap_alloc_new ..)
    have HZ7 : Hid (w.heap.size + 4 < w6.heap.size) := Lib.hid HI6.out.size
    have HB7 := Lib.hid hbw
    clear hb hbw hlook
    cases hk : hasK (ruleOf (numF c 1)) kind
    · have HE : Hid (listF kind s = ([], 9)) := Lib.hid (by rw [HGO.out, listGo, hl, if_pos rfl, hk, if_neg Bool.false_ne_true])
      go_wp2
      go_ret2
      exact ⟨_, by rw [HE.out]; rfl, HI7.out.bel, by rw [HE.out]; exact World.ownsRow_nil _ _ _ _, by rw [HE.out]; intro q hq; cases hq⟩
    obtain ⟨hsh, i0, i1⟩ := shape_has hk
    have HSH := Lib.hid hsh
    clear hsh
    have HS7 : Hid (w7.heap[w.heap.size + 4]? = some (.cells (srcC (w.heap.size + 3) p) 127 (0, 0))) := Lib.hid HI7.out.src.1
    go_wp2_with ((with_reducible refine row_set (w.heap.size + 4) 1 127 (srcC (w.heap.size + 3) p) (srcC (w.heap.size + 3) (zeroP (numF c 1))) (.agg #[.int .i64 (numF c 1), .int .u32 0, .string ⟨#[]⟩, .string ⟨#[]⟩]) ?t1 ?x1 ?y1 HS7.out ?a1 ?b1 ?c1 ?d1 ?e1 ?f1 ?g1 ?h1 ?i1); (case a1 => rfl); (case b1 => rfl); (case c1 => rfl); (case d1 => rfl); (case e1 => kernel_rfl); (case f1 => simp [Value.cells, Value.oneCell']); (case g1 => simp [Value.cells, srcC]); (case h1 => rfl))
    intro w8 hr8 hg8
    have HI8 := Lib.hid (HI7.out.two (p' := zeroP (numF c 1)) (c' := (takeF c 1).2) ⟨hr8, by unfold CurAt; rw [hg8.block _ (by have := HI7.out.size; omega) (fun e => by simp only [Option.some.injEq] at e; omega)]; exact HI7.out.src.2.1, by omega⟩ (two_S hg8))
    have HR8 : Hid (w8.heap[w6.heap.size]? = some (.cells (ruleC (ruleOf (numF c 1))) 78 (0, 0))) := Lib.hid (by rw [hg8.block _ (Array.getElem?_eq_some_iff.1 HR7.out).1 (fun e => by simp only [Option.some.injEq] at e; have := HZ7.out; omega)]; exact HR7.out)
    clear hr8 hg8
    obtain ⟨s0, -⟩ := src_cells HI8.out.src
    have r0 : w8.cell? ⟨w6.heap.size, 0, none⟩ = some (.int .i64 (ruleOf (numF c 1)).shape) := by rw [cell_of_row _ _ _ _ _ _ HR8.out]; rfl
    have hlookr := run_lookS w8 (w.heap.size + 1) (ruleOf (numF c 1)).shape HSH.out HI8.out.reads
    have hcall := call_reader HSH.out (.pointer (some ⟨w.heap.size + 4, 0, none⟩)) w8
    go_wp2_with fail
    refine (reader_t (ruleOf (numF c 1)).shape HSH.out (w.heap.size + 4) (w.heap.size + 3) (zeroP (numF c 1)) (takeF c 1).2 _ HI8.out.src HO6.out).mono ?_
    rintro e w9 ⟨rfl, hx9, ht9⟩
    have hpid : (readP (ruleOf (numF c 1)).shape (zeroP (numF c 1)) (takeF c 1).2).1.id = numF c 1 := readP_id HSH.out _ _
    have hpok : PrpOK (readP (ruleOf (numF c 1)).shape (zeroP (numF c 1)) (takeF c 1).2).1 := readP_prp HSH.out HO6.out n0 n1
    have hcok := readP_ok HSH.out (zeroP (numF c 1)) HO6.out
    have hstep : listF kind s = listGo (m + 1) kind c f out := HGO.out
    rw [listGo, hl, if_pos rfl, hk, if_pos rfl] at hstep
    simp only [] at hstep
    obtain ⟨⟨p9, c9⟩, hr9⟩ : ∃ r, readP (ruleOf (numF c 1)).shape (zeroP (numF c 1)) (takeF c 1).2 = r := ⟨_, rfl⟩
    rw [hr9] at hstep hpid hpok hcok hx9
    simp only [] at hstep hpid hpok hcok hx9
    have HI9 := Lib.hid (HI8.out.two hx9 ht9)
    have HR9 : Hid (w9.heap[w6.heap.size]? = some (.cells (ruleC (ruleOf (numF c 1))) 78 (0, 0))) := Lib.hid (by rw [ht9.block _ (Array.getElem?_eq_some_iff.1 HR8.out).1 (by have := HZ7.out; omega) (by have := HZ7.out; omega)]; exact HR8.out)
    have HST := Lib.hid hstep
    have HPI := Lib.hid hpid
    have HPO := Lib.hid hpok
    have HCO := Lib.hid hcok
    clear hstep hpid hpok hcok hx9 ht9 hr9 s0 r0 hlookr hcall
    obtain ⟨s0, s1, s2, s3, s4⟩ := src_cells HI9.out.src
    have r0 : w9.cell? ⟨w6.heap.size, 0, none⟩ = some (.int .i64 (ruleOf (numF c 1)).shape) := by rw [cell_of_row _ _ _ _ _ _ HR9.out]; rfl
    have r1 : w9.cell? ⟨w6.heap.size, 1, none⟩ = some (.int .i64 (ruleOf (numF c 1)).kinds) := by rw [cell_of_row _ _ _ _ _ _ HR9.out]; rfl
    have r2 : w9.cell? ⟨w6.heap.size, 2, none⟩ = some (.int .u32 (ruleOf (numF c 1)).least) := by rw [cell_of_row _ _ _ _ _ _ HR9.out]; rfl
    have r3 : w9.cell? ⟨w6.heap.size, 3, none⟩ = some (.int .u32 (ruleOf (numF c 1)).most) := by rw [cell_of_row _ _ _ _ _ _ HR9.out]; rfl
    go_wp2_with fail
    refine (err_t (w.heap.size + 3) c9 _ HI9.out.src.2.1).mono ?_
    rintro e w10 ⟨rfl, hw⟩
    subst hw
    cases he : (c9.err != 0)
    case true =>
      have HE : Hid (listF kind s = ([], c9.err)) := Lib.hid (by rw [HST.out, if_neg (by simpa using he)])
      go_wp2
      go_ret2
      exact ⟨_, by rw [HE.out]; rfl, HI9.out.bel, by rw [HE.out]; exact World.ownsRow_nil _ _ _ _, by rw [HE.out]; intro q hq; cases hq⟩
    have HST2 := Lib.hid (HST.out.trans (if_pos (by simpa using he)))
    go_wp2_with fail
    refine (check_t (Lib.hid topic_ok) (ruleOf (numF c 1)) kind p9 _ (ruleOf_kinds _).1 (ruleOf_kinds _).2 HPO.out.2.2.1 HPO.out.2.2.2).mono ?_
    rintro e w11 ⟨rfl, hb⟩
    have HI11 := Lib.hid (HI9.out.below hb)
    clear hb s0 s1 s2 s3 s4 r0 r1 r2 r3
    cases hck : (checkC (ruleOf (numF c 1)) kind p9 != 0)
    case true =>
      have HE : Hid (listF kind s = ([], checkC (ruleOf (numF c 1)) kind p9)) := Lib.hid (by rw [HST2.out, if_neg (by simpa using hck)])
      generalize checkC (ruleOf (numF c 1)) kind p9 = ze at *
      go_wp2
      go_ret2
      exact ⟨_, by rw [HE.out]; rfl, HI11.out.bel, by rw [HE.out]; exact World.ownsRow_nil _ _ _ _, by rw [HE.out]; intro q hq; cases hq⟩
    have HST3 := Lib.hid (HST2.out.trans (if_pos (by simpa using hck)))
    go_wp2_with fail
    refine (again_t (w.heap.size + 2) kind (numF c 1) f _ (by omega) (by omega) HI11.out.seen (HF.out _).1 (by have := (HF.out (numF c 1).toNat).2; omega)).mono ?_
    rintro e w12 ⟨rfl, hs12, hg12⟩
    have HI12 : Hid (LInv w w.heap.size w12 p9 c9 (updF f (numF c 1).toNat) (.slice A out.length cap) out) := Lib.hid (HI11.out.sees hs12 hg12)
    clear hs12 hg12
    cases hag : againB kind (numF c 1) (f (numF c 1).toNat)
    case true =>
      have HE : Hid (listF kind s = ([], 9)) := Lib.hid (by rw [HST3.out, if_pos hag])
      go_wp2
      go_ret2
      exact ⟨_, by rw [HE.out]; rfl, HI12.out.bel, by rw [HE.out]; exact World.ownsRow_nil _ _ _ _, by rw [HE.out]; intro q hq; cases hq⟩
    have HST4 := Lib.hid (HST3.out.trans (if_neg (by rw [hag]; decide)))
    by_cases h1000 : out.length = 1000
    · have HE : Hid (listF kind s = ([], 4)) := Lib.hid (by rw [HST4.out, if_pos h1000])
      have hd1 : ((out.length : Int) == 1000) = true := by simp; omega
      go_wp2
      go_ret2
      exact ⟨_, by rw [HE.out]; rfl, HI12.out.bel, by rw [HE.out]; exact World.ownsRow_nil _ _ _ _, by rw [HE.out]; intro q hq; cases hq⟩
    have HST5 := Lib.hid (HST4.out.trans (if_neg h1000))
    have hd1 : ((out.length : Int) == 1000) = false := by simp; omega
    obtain ⟨s0, s1, s2, s3, s4⟩ := src_cells HI12.out.src
    obtain ⟨i0', hif, hz0, hz1, hz2⟩ := info_parts info_prop
    go_wp2_with (at_builtin; refine wpList_append_own_at _ rfl _ _ 26 rfl (w.heap.size + 5) 25 i0' (.agg #[.int .i64 0, .int .u32 0, .string ⟨#[]⟩, .string ⟨#[]⟩]) 4 48 Try.underlying26 hif hz0 hz1 hz2 rfl (by decide) _ out.length (flatP out) rfl (HI12.out.own.alloc _) ⟨w12.heap.size, 0, none⟩ 1 1 (prpC p9) rfl rfl ?c1 ?c2 ?c3 ?c4 ?c5 ?_)
    case c1 =>
      exact World.news_of_block (heap_alloc_new w12 (.cells #[.int .i64 p9.id, .int .u32 p9.n, .string p9.text, .string p9.value] 25))
    case c2 => intro u hu; simp only [prpC, List.mem_cons, List.not_mem_nil, or_false] at hu; rcases hu with rfl | rfl | rfl | rfl <;> rfl
    case c3 => unfold maxLen; omega
    case c4 => omega
    case c5 => have := HI12.out.size; simp; omega
    intro v' w13 hown hgrow _ _
    have HI13 := Lib.hid ((HI12.out.below ((Below.refl _ _).alloc (Nat.le_refl _) (.cells #[.int .i64 p9.id, .int .u32 p9.n, .string p9.text, .string p9.value] 25))).owns (out' := out ++ [p9]) (by rw [flatP_snoc, List.length_append]; exact hown) hgrow)
    obtain ⟨A', cap', rfl⟩ := own_len hown
    clear hown hgrow s0 s1 s2 s3 s4
    go_wp2
    go_roundw
    case rel =>
      refine ⟨p9, c9, updF f (numF c 1).toNat, out ++ [p9], by rw [List.length_append]; simp; omega, HCO.out, ?_, HI13.out, ?_, ?_⟩
      · intro i
        have h1 := HF.out i
        have h2 := HF.out (numF c 1).toNat
        rw [List.length_append]
        unfold updF
        simp only [List.length_cons, List.length_nil]
        split <;> omega
      · intro q hq
        rcases List.mem_append.1 hq with h | h
        · exact HK.out q h
        · simp only [List.mem_cons, List.not_mem_nil, or_false] at h; rw [h]; exact HPO.out
      · rw [HST5.out, show 1001 - (out ++ [p9]).length = m by simp; omega]
    case measure => simp only [lenOf]; omega
end Go.Proofs.Ytnbgmpfldoaodab
