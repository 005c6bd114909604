/- prop.Bytes: the walk. -/
import Derived.Test.YtnbgmpfldoaodabBytesP
import Derived.Deep.RegionHeld3
import Derived.Deep.AppendLies
import Derived.Deep.DrawnRows
import Derived.IntWalk
namespace Go.Proofs.Ytnbgmpfldoaodab
open Go.RowKit
set_option maxHeartbeats 4000000
set_option linter.unusedVariables false
set_option linter.unusedSimpArgs false
theorem wp_append_str {P : Program} {w : World} {o : Oper} {a : Act} {K : Act → World → Prop} {Q : Exit → Act → World → Prop} (sl x : Operand) (t u : TypeId)
    (ho : o.op = .call { callee := .builtin .append, args := #[sl, x], argTypes := #[t, u] })
    (base : Nat) (e : TypeId) (i : TypeInfo) (ht : P.underlying t = some (.slice e)) (hu : P.underlying u = some .string) (hi : P.info? e = some i) (hz : i.zero = some (.int .u8 0))
    (hsize : i.size = 1) (hby : i.bytes = 1)
    (v : Value) (n : Nat) (xs : List Value) (hs : a.eval sl = v) (hown : w.ownsRow base e 1 v n xs) (s : ByteArray) (hx : a.eval x = .string s)
    (h63 : n + s.size ≤ maxLen) (hbytes : n + s.size ≤ 140737488355328) (hbase : base ≤ w.heap.size)
    (h : ∀ v' w', w'.ownsRow base e 1 v' (n + s.size) (xs ++ Lib.strCells s) → w.grownBy w' v.ownBlock → K (a.put o.dst v') w') : o.wp P a w K Q := by
  obtain ⟨v', w', hr, h2, h3, h4⟩ := Lib.run_append_own_string (P := P) w base t u o.type e i ht hu hi hz hsize hby v n xs hown s h63 hbytes hbase
  unfold Oper.wp execOp
  simp only [ho, resolve, invoke, builtin, Sem.run_bind, Sem.run_pure, Result.andThen_ok, List.map_toArray, List.map_cons, List.map_nil, hs, hx, hr]
  exact h v' w' h2 h3
theorem step_append_str {P : Program} {w : World} {ops : Array Oper} {o : Oper} {a : Act} {K : Act → World → Prop} {Q : Exit → Act → World → Prop} {E : Prop} (hgd : o.guard = none) (sl x : Operand) (t u : TypeId)
    (ho : o.op = .call { callee := .builtin .append, args := #[sl, x], argTypes := #[t, u] })
    (base : Nat) (e : TypeId) (i : TypeInfo) (ht : P.underlying t = some (.slice e)) (hu : P.underlying u = some .string) (hi : P.info? e = some i) (hz : i.zero = some (.int .u8 0))
    (hsize : i.size = 1) (hby : i.bytes = 1)
    (v : Value) (n : Nat) (xs : List Value) (hs : a.eval sl = v) (hown : w.ownsRow base e 1 v n xs) (s : ByteArray) (hx : a.eval x = .string s)
    (h63 : n + s.size ≤ maxLen) (hbytes : n + s.size ≤ 140737488355328) (hbase : base ≤ w.heap.size)
    (h : ∀ v' w', w'.ownsRow base e 1 v' (n + s.size) (xs ++ Lib.strCells s) → w.grownBy w' v.ownBlock → K (a.put o.dst v') w') :
    if Region.wanted o (yielded ops a.tmps) = true then Oper.wp P o a w K Q else E := by
  have hw : Region.wanted o (yielded ops a.tmps) = true := by simp [Region.wanted, hgd]
  rw [if_pos hw]
  exact wp_append_str sl x t u ho base e i ht hu hi hz hsize hby v n xs hs hown s hx h63 hbytes hbase h
theorem heap_alloc2_old' (w : World) (A B : Obj) (i : Nat) (h : i < w.heap.size) : ((w.alloc A).alloc B).heap[i]? = w.heap[i]? := by
  rw [heap_alloc_old _ _ (by simp; omega), heap_alloc_old _ _ h]
theorem own_keep {w w1 : World} {b : Nat} {e : TypeId} {s n : Nat} {v : Value} {xs : List Value} (h : w.ownsRow b e s v n xs) (hb : Below w.heap.size w w1) : w1.ownsRow b e s v n xs :=
  h.kept (row := none) ⟨hb.os, hb.tape, hb.output, hb.size, fun i hi _ => hb.block i hi⟩ (by cases v.ownBlock <;> simp)
theorem own_far {u : Value} {g1 H k : Nat} {n c : Nat} (h : u.ownBlock = some g1 ∨ g1 = H) (hu : some k ≠ u.ownBlock) (hk : k < H) : some k ≠ (Value.slice (some ⟨g1, 0, none⟩) n c).ownBlock := by
  intro e
  simp only [Value.ownBlock, Option.some.injEq] at e
  rcases h with h | h
  · exact hu (by rw [h, e])
  · omega
theorem zero64 : cnts (fun _ => 0) = #[Value.int .i64 0, .int .i64 0, .int .i64 0, .int .i64 0, .int .i64 0, .int .i64 0, .int .i64 0, .int .i64 0, .int .i64 0, .int .i64 0, .int .i64 0, .int .i64 0, .int .i64 0, .int .i64 0, .int .i64 0, .int .i64 0, .int .i64 0, .int .i64 0, .int .i64 0, .int .i64 0, .int .i64 0, .int .i64 0, .int .i64 0, .int .i64 0, .int .i64 0, .int .i64 0, .int .i64 0, .int .i64 0, .int .i64 0, .int .i64 0, .int .i64 0, .int .i64 0, .int .i64 0, .int .i64 0, .int .i64 0, .int .i64 0, .int .i64 0, .int .i64 0, .int .i64 0, .int .i64 0, .int .i64 0, .int .i64 0, .int .i64 0, .int .i64 0, .int .i64 0, .int .i64 0, .int .i64 0, .int .i64 0, .int .i64 0, .int .i64 0, .int .i64 0, .int .i64 0, .int .i64 0, .int .i64 0, .int .i64 0, .int .i64 0, .int .i64 0, .int .i64 0, .int .i64 0, .int .i64 0, .int .i64 0, .int .i64 0, .int .i64 0, .int .i64 0] := rfl
set_option maxRecDepth 100000 in
theorem bytes_t (kind : Int) (A : Option Addr) (n cp : Nat) (l : List Prp) (HT : Hid (l ≠ [] → TopicOK)) (w : World) (hr : RP w A n l) :
    Calls Try.prog 21 #[.int .i64 kind, .slice A n cp] w fun e w' => e = .returned (.tuple #[.string (bytesF kind l).1, .int .i64 (bytesF kind l).2]) ∧ Below w.heap.size w w' := by
  obtain ⟨hl, hn, hok, hc⟩ := hr
  by_cases hbig : 1000 < n
  · have HF : Hid (bytesF kind l = (⟨#[]⟩, 4)) := Lib.hid (by rw [bytesF, if_neg (by omega)])
    have hd : decide (1000 < n) = true := by simpa using hbig
    clear hc hok
    go_enter Try.func21, Try.ntmps21
    go_wp2
    go_ret2
    exact ⟨by rw [HF.out]; rfl, Below.refl _ _⟩
  · have HF : Hid (bytesF kind l = bytesGo kind l (fun _ => 0) []) := Lib.hid (by rw [bytesF, if_pos (by omega)])
    have HC := Lib.hid hc
    have HOK := Lib.hid hok
    have HL := Lib.hid hl
    have hn' : n ≤ 1000 := by omega
    have hd : decide (1000 < (n : Int)) = false := by simp; omega
    have hd2 : decide (1000 < n) = false := by simp; omega
    clear hc hok hl hbig
    go_enter Try.func21, Try.ntmps21
    go_wp2_with fail
    refine (rules_t _).mono ?_
    rintro e w1 ⟨M, hM, rfl, rfl⟩
    have hMb : (w.alloc (.map (ruleEs 27) 27)).heap[M]? = some (.map (ruleEs 27) 27) := by rw [hM]; exact heap_alloc_new ..
    have HB1 := Lib.hid ((Below.refl w.heap.size w).alloc (Nat.le_refl _) (.map (ruleEs 27) 27))
    have HM := Lib.hid hMb
    have HMlt : Hid (w.heap.size ≤ M ∧ M < (w.alloc (.map (ruleEs 27) 27)).heap.size) := Lib.hid ⟨by omega, by simp; omega⟩
    clear hMb
    generalize w.alloc (.map (ruleEs 27) 27) = w1 at *
    clear hM
    go_wp2
    go_loopw [8, 21] (fun v8 v21 wr => ∃ (k : Nat) (f : Nat → Int) (out : List Int), k ≤ n ∧ v21 = .int .i64 k ∧ OwnB wr (w1.heap.size + 1) v8 out ∧ Seen wr w1.heap.size f ∧ wr.heap[M]? = some (.map (ruleEs 27) 27) ∧ Below w.heap.size w wr ∧ w1.heap.size + 1 ≤ wr.heap.size ∧ (∀ i, 0 ≤ f i ∧ f i ≤ k) ∧ out.length ≤ k * 131075 ∧ bytesGo kind (l.drop k) f out = bytesGo kind l (fun _ => 0) []) (fun _ v21 _ => n - (intOf v21).toNat)
    case atStart =>
      refine ⟨0, fun _ => 0, [], by omega, rfl, World.ownsRow_nil _ _ _ _, ?_, ?_, ?_, by simp, fun i => ⟨Int.le_refl 0, by simp⟩, by simp, rfl⟩
      · unfold Seen; rw [zero64]; exact heap_alloc_new ..
      · rw [heap_alloc_old _ _ HMlt.out.2]; exact HM.out
      · exact HB1.out.alloc HB1.out.size _
    case round =>
      obtain ⟨k, f, out, hk, rfl, hown, hseen, hmap, hbel, hsz, hf, hlen, hgo⟩ := hrel
      by_cases hlt : k < n
      · obtain ⟨b, off, rfl, hblt, hcell⟩ := HC.out (by omega)
        obtain ⟨p, hp⟩ : ∃ p, l[k]? = some p := ⟨l[k]'(by rw [HL.out]; exact hlt), by simp [HL.out, hlt]⟩
        obtain ⟨c0, c1, c2, c3⟩ := (hcell k p hp).below hbel hblt
        have HT' : Hid TopicOK := Lib.hid (HT.out (by intro e; rw [e] at hp; cases hp))
        have HP : Hid (PrpOK p) := Lib.hid (HOK.out p (List.mem_of_getElem? hp))
        have HG : Hid (bytesGo kind l (fun _ => 0) [] = bytesGo kind (p :: l.drop (k + 1)) f out) := Lib.hid (by
          rw [← hgo, List.drop_eq_getElem_cons (by rw [HL.out]; exact hlt)]
          congr 1
          have := hp
          rw [List.getElem?_eq_getElem (by rw [HL.out]; exact hlt)] at this
          simp only [Option.some.injEq] at this
          rw [this])
        have hlook : ∀ o, (Instr.lookup 73 (.map (some M)) (.int .i64 p.id) false).run Try.prog (wr.alloc o) = _ := fun o => run_rule (wr.alloc o) M p.id (by rw [heap_alloc_old _ _ (by have := (Array.getElem?_eq_some_iff.1 hmap).1; omega)]; exact hmap)
        have HR : Hid ((OwnB wr (w1.heap.size + 1) u8 out ∧ Seen wr w1.heap.size f) ∧ wr.heap[M]? = some (.map (ruleEs 27) 27) ∧ Below w.heap.size w wr ∧ w1.heap.size + 1 ≤ wr.heap.size) := Lib.hid ⟨⟨hown, hseen⟩, hmap, hbel, hsz⟩
        have HFB : Hid ((∀ i, 0 ≤ f i ∧ f i ≤ k) ∧ out.length ≤ k * 131075) := Lib.hid ⟨hf, hlen⟩
        clear hown hseen hmap hbel hsz hf hlen hgo hcell hp
        go_wp2_with fail
        refine (check_t HT' (ruleOf p.id) kind p _ (ruleOf_kinds p.id).1 (ruleOf_kinds p.id).2 HP.out.2.2.1 HP.out.2.2.2).mono ?_
        rintro e w2 ⟨rfl, hb⟩
        have hp2 : w2.heap[wr.heap.size]? = some (.cells #[.int .i64 p.id, .int .u32 p.n, .string p.text, .string p.value] 25 (0, 0)) := by rw [hb.block _ (by simp; omega)]; exact heap_alloc2_old ..
        have hr2 : w2.heap[wr.heap.size + 1]? = some (.cells #[.int .i64 (ruleOf p.id).shape, .int .i64 (ruleOf p.id).kinds, .int .u32 (ruleOf p.id).least, .int .u32 (ruleOf p.id).most] 78 (0, 0)) := by rw [hb.block _ (by simp)]; exact heap_alloc2_new ..
        have hkeep : ∀ i, i < wr.heap.size → w2.heap[i]? = wr.heap[i]? := fun i hi => by rw [hb.block _ (by simp; omega), heap_alloc2_old' _ _ _ _ hi]
        have hbw : Below wr.heap.size wr w2 := below_then (((Below.refl _ _).alloc (Nat.le_refl _) _).alloc (by simp) _) (by simp; omega) hb
        have HR2 : Hid ((OwnB w2 (w1.heap.size + 1) u8 out ∧ Seen w2 w1.heap.size f) ∧ w2.heap[M]? = some (.map (ruleEs 27) 27) ∧ Below w.heap.size w w2 ∧ w1.heap.size + 1 ≤ w2.heap.size) := Lib.hid ⟨⟨ownb_below HR.out.1.1 hbw, HR.out.1.2.below hbw⟩, by rw [hkeep _ (Array.getElem?_eq_some_iff.1 HR.out.2.1).1]; exact HR.out.2.1, ext_then' HR.out.2.2.1 hbw, Nat.le_trans HR.out.2.2.2 hbw.size⟩
        have HPR : Hid (w2.heap[wr.heap.size]? = some (.cells #[.int .i64 p.id, .int .u32 p.n, .string p.text, .string p.value] 25 (0, 0)) ∧ w2.heap[wr.heap.size + 1]? = some (.cells #[.int .i64 (ruleOf p.id).shape, .int .i64 (ruleOf p.id).kinds, .int .u32 (ruleOf p.id).least, .int .u32 (ruleOf p.id).most] 78 (0, 0))) := Lib.hid ⟨hp2, hr2⟩
        have d0 : w2.cell? ⟨wr.heap.size, 0, none⟩ = some (.int .i64 p.id) := by rw [cell_of_row _ _ _ _ _ _ hp2]; rfl
        have HSZ : Hid (w1.heap.size + 1 ≤ wr.heap.size) := Lib.hid HR.out.2.2.2
        have HUL : Hid (∀ g, u8.ownBlock = some g → g < wr.heap.size) := Lib.hid (fun g h => (World.ownsRow.lt HR.out.1.1 g h).2)
        clear hb hp2 hr2 hkeep hbw HR hlook c0 c1 c2 c3
        by_cases hk0 : checkC (ruleOf p.id) kind p = 0
        · rw [hk0]
          obtain ⟨i1, i2, s1, s2, s3, s4, s5⟩ := check_ok hk0
          have HCK := Lib.hid hk0
          have HV := Lib.hid (⟨s3, s4, s5⟩ : _ ∧ _ ∧ _)
          clear hk0 s3 s4 s5
          go_wp2_with fail
          refine (again_t w1.heap.size kind p.id f _ (by omega) (by omega) HR2.out.1.2 (HFB.out.1 _).1 (by have := (HFB.out.1 p.id.toNat).2; omega)).mono ?_
          rintro e w3 ⟨rfl, hs3, hg3⟩
          cases hag : againB kind p.id (f p.id.toNat) with
          | true =>
            have HF2 : Hid (bytesF kind l = (⟨#[]⟩, 9)) := Lib.hid (by rw [HF.out, HG.out, bytesGo, if_pos HCK.out, if_pos hag])
            have HB3 := Lib.hid (HR2.out.2.2.1.grown hg3 HR2.out.2.2.1.size (fun k h => by simp only [Option.some.injEq] at h; have := HB1.out.size; omega))
            clear hs3 hg3 hag
            go_wp2
            go_ret2
            exact ⟨by rw [HF2.out]; rfl, HB3.out⟩
          | false =>
            have hk3 : ∀ i, i < w2.heap.size → i ≠ w1.heap.size → w3.heap[i]? = w2.heap[i]? := fun i hi hne => hg3.block i hi (fun e => hne (by simpa using e))
            have lP := (Array.getElem?_eq_some_iff.1 HPR.out.1).1
            have lR := (Array.getElem?_eq_some_iff.1 HPR.out.2).1
            have hp3 : w3.heap[wr.heap.size]? = some (.cells #[.int .i64 p.id, .int .u32 p.n, .string p.text, .string p.value] 25 (0, 0)) := by rw [hk3 _ lP (by have := HSZ.out; omega)]; exact HPR.out.1
            have hr3 : w3.heap[wr.heap.size + 1]? = some (.cells #[.int .i64 (ruleOf p.id).shape, .int .i64 (ruleOf p.id).kinds, .int .u32 (ruleOf p.id).least, .int .u32 (ruleOf p.id).most] 78 (0, 0)) := by rw [hk3 _ lR (by have := HSZ.out; omega)]; exact HPR.out.2
            have hub : ∀ g, u8.ownBlock = some g → w1.heap.size + 1 ≤ g := ownb_ge HR2.out.1.1
            have hown3 : OwnB w3 (w1.heap.size + 1) u8 out := World.ownsRow.kept HR2.out.1.1 hg3 (by
              cases h : u8.ownBlock with
              | none => exact .inl rfl
              | some g => right; intro e; simp only [Option.some.injEq] at e; have := hub g h; omega)
            have hgo2 : bytesGo kind l (fun _ => 0) [] = bytesGo kind (l.drop (k + 1)) (fun j => if j = p.id.toNat then f p.id.toNat + 1 else f j) ((out ++ [p.id]) ++ bytesN (valueS (ruleOf p.id).shape p)) := by
              rw [HG.out, bytesGo, if_pos HCK.out, if_neg (by rw [hag]; decide)]
            have hvs := valueS_size HCK.out
            have hB3 : Below w.heap.size w w3 := HR2.out.2.2.1.grown hg3 HR2.out.2.2.1.size (fun k h => by simp only [Option.some.injEq] at h; have := HB1.out.size; omega)
            have hM3 : w3.heap[M]? = some (.map (ruleEs 27) 27) := by
              rw [hk3 _ (Array.getElem?_eq_some_iff.1 HR2.out.2.1).1 (fun e => by have := HMlt.out.2; omega)]; exact HR2.out.2.1
            have hsz3 : w2.heap.size ≤ w3.heap.size := hg3.size
            have HX := Lib.hid (⟨hs3, hown3, hgo2, hB3, hM3⟩ : _ ∧ _ ∧ _ ∧ _ ∧ _)
            have HSZ3 : Hid (wr.heap.size + 1 < w3.heap.size ∧ w1.heap.size + 1 ≤ w3.heap.size) := Lib.hid ⟨by omega, by have := HSZ.out; omega⟩
            have HVS := Lib.hid hvs
            have dd0 : w3.cell? ⟨wr.heap.size, 0, none⟩ = some (.int .i64 p.id) := by rw [cell_of_row _ _ _ _ _ _ hp3]; rfl
            have dd1 : w3.cell? ⟨wr.heap.size, 1, none⟩ = some (.int .u32 p.n) := by rw [cell_of_row _ _ _ _ _ _ hp3]; rfl
            have dd2 : w3.cell? ⟨wr.heap.size, 2, none⟩ = some (.string p.text) := by rw [cell_of_row _ _ _ _ _ _ hp3]; rfl
            have dd3 : w3.cell? ⟨wr.heap.size, 3, none⟩ = some (.string p.value) := by rw [cell_of_row _ _ _ _ _ _ hp3]; rfl
            have ee0 : w3.cell? ⟨wr.heap.size + 1, 0, none⟩ = some (.int .i64 (ruleOf p.id).shape) := by rw [cell_of_row _ _ _ _ _ _ hr3]; rfl
            have HNE : Hid (some wr.heap.size ≠ u8.ownBlock ∧ some (wr.heap.size + 1) ≠ u8.ownBlock) := Lib.hid ⟨fun e => by have := HUL.out _ e.symm; omega, fun e => by have := HUL.out _ e.symm; omega⟩
            have HLEN : Hid (out.length + 1 ≤ maxLen ∧ (out.length + 1) * 1 ≤ 140737488355328) := Lib.hid ⟨by have := HFB.out.2; unfold maxLen; omega, by have := HFB.out.2; omega⟩
            have HLEN2 : Hid (out.length + 1 + (valueS (ruleOf p.id).shape p).size ≤ maxLen ∧ out.length + 1 + (valueS (ruleOf p.id).shape p).size ≤ 140737488355328) := Lib.hid ⟨by have := HFB.out.2; unfold maxLen; omega, by have := HFB.out.2; omega⟩
            obtain ⟨i0, hif, hz0, hz1, hz2⟩ := info_parts info_u8
            have hwr : IntKind.u8.wrap p.id = p.id := IntWalk.u8_in _ ⟨by omega, by omega⟩
            clear hs3 hg3 hag hk3 lP lR hp3 hr3 hub hown3 hgo2 hvs hB3 hM3 hsz3 d0 HR2 HPR HUL
            go_wp2_with fail
            go_region_held3 (fun w' => w'.cell? ⟨wr.heap.size, 0, none⟩ = some (.int .i64 p.id) ∧ w'.cell? ⟨wr.heap.size, 1, none⟩ = some (.int .u32 p.n) ∧ w'.cell? ⟨wr.heap.size, 2, none⟩ = some (.string p.text) ∧ w'.cell? ⟨wr.heap.size, 3, none⟩ = some (.string p.value) ∧ w'.cell? ⟨wr.heap.size + 1, 0, none⟩ = some (.int .i64 (ruleOf p.id).shape))
              (first
                | go_keep
                | (go_split_ands
                   refine ⟨?_, ?_, ?_, ?_, ?_⟩
                   · (rw [hgrow4.cell_far _ (by have := HSZ3.out; simp; omega) HNE.out.1]; assumption)
                   · (rw [hgrow4.cell_far _ (by have := HSZ3.out; simp; omega) HNE.out.1]; assumption)
                   · (rw [hgrow4.cell_far _ (by have := HSZ3.out; simp; omega) HNE.out.1]; assumption)
                   · (rw [hgrow4.cell_far _ (by have := HSZ3.out; simp; omega) HNE.out.1]; assumption)
                   · (rw [hgrow4.cell_far _ (by have := HSZ3.out; simp; omega) HNE.out.2]; assumption))
                | (go_split_ands
                   have hsz4 := hgrow4.size
                   refine ⟨?_, ?_, ?_, ?_, ?_⟩
                   · (rw [hb5.cell (by have := HSZ3.out; simp at hsz4; show wr.heap.size < w4.heap.size; omega)]; assumption)
                   · (rw [hb5.cell (by have := HSZ3.out; simp at hsz4; show wr.heap.size < w4.heap.size; omega)]; assumption)
                   · (rw [hb5.cell (by have := HSZ3.out; simp at hsz4; show wr.heap.size < w4.heap.size; omega)]; assumption)
                   · (rw [hb5.cell (by have := HSZ3.out; simp at hsz4; show wr.heap.size < w4.heap.size; omega)]; assumption)
                   · (rw [hb5.cell (by have := HSZ3.out; simp at hsz4; show wr.heap.size + 1 < w4.heap.size; omega)]; assumption))
                | (go_split_ands
                   have hsz4 := hgrow4.size
                   have hsz5 := hb5.size
                   refine ⟨?_, ?_, ?_, ?_, ?_⟩
                   · (rw [hgrow6.cell_far _ (by have := HSZ3.out; simp at hsz4 hsz5; show wr.heap.size < w5.heap.size; omega) (own_far hat4 HNE.out.1 (show wr.heap.size < w3.heap.size + 1 from by have := HSZ3.out; omega))]; assumption)
                   · (rw [hgrow6.cell_far _ (by have := HSZ3.out; simp at hsz4 hsz5; show wr.heap.size < w5.heap.size; omega) (own_far hat4 HNE.out.1 (show wr.heap.size < w3.heap.size + 1 from by have := HSZ3.out; omega))]; assumption)
                   · (rw [hgrow6.cell_far _ (by have := HSZ3.out; simp at hsz4 hsz5; show wr.heap.size < w5.heap.size; omega) (own_far hat4 HNE.out.1 (show wr.heap.size < w3.heap.size + 1 from by have := HSZ3.out; omega))]; assumption)
                   · (rw [hgrow6.cell_far _ (by have := HSZ3.out; simp at hsz4 hsz5; show wr.heap.size < w5.heap.size; omega) (own_far hat4 HNE.out.1 (show wr.heap.size < w3.heap.size + 1 from by have := HSZ3.out; omega))]; assumption)
                   · (rw [hgrow6.cell_far _ (by have := HSZ3.out; simp at hsz4 hsz5; show wr.heap.size + 1 < w5.heap.size; omega) (own_far hat4 HNE.out.2 (show wr.heap.size + 1 < w3.heap.size + 1 from by have := HSZ3.out; omega))]; assumption)))
              (first
                | ((refine step_append_lies _ (by rfl) _ _ _ (by rfl) (w1.heap.size + 1) 5 i0 _ 1 1 Try.underlying71 hif hz0 hz1 hz2 rfl (by omega) u8 out.length (out.map (Value.int .u8)) (by rfl) ((HX.out.2.1.alloc _).drew) ⟨w3.heap.size, 0, none⟩ 1 1 [.int .u8 p.id] (by rfl) (by rfl) (World.news_of_block (cs := #[.int .u8 p.id]) (t := 5) (fr := (0, 0)) (heap_alloc_new w3 _)) (by simp [Value.oneCell']) (by omega) HLEN.out.1 HLEN.out.2 (by have := HSZ3.out; simp; omega) (w3.heap.size + 1) (by simp) ?_; intro g1 cap1 w4 hown4 hgrow4 hat4 hlt4))
                | (go_at_call 43; refine (value_t (ruleOf p.id).shape p _ s1 s2 HP.out.1 HP.out.2.1 HV.out.1 HV.out.2.1 HV.out.2.2).mono ?_; rintro e w5 ⟨rfl, hb5⟩)
                | ((refine step_append_str (by rfl) _ _ _ _ (by rfl) (w1.heap.size + 1) 5 i0 Try.underlying71 Try.underlying9 hif hz0 hz1 hz2 (.slice (some ⟨g1, 0, none⟩) (out.length + 1) cap1) (out.length + 1) (out.map (Value.int .u8) ++ [.int .u8 p.id]) (by rfl) (own_keep hown4 hb5) (valueS (ruleOf p.id).shape p) (by rfl) HLEN2.out.1 HLEN2.out.2 (by have h4 := hgrow4.size; have h5 := hb5.size; have := HSZ3.out; simp at h4; omega) ?_; intro v6 w6 hown6 hgrow6)))
            have hg1 : w1.heap.size + 1 ≤ g1 := (World.ownsRow.lt hown4 g1 rfl).1
            have hsz4 := hgrow4.size
            have hsz5 := hb5.size
            have hsz6 := hgrow6.size
            have hs3' := HSZ3.out
            simp at hsz4
            have hkeep6 : ∀ j, j ≤ w1.heap.size → w6.heap[j]? = w3.heap[j]? := fun j hj => by
              rw [hgrow6.block j (by omega) (fun e => by simp only [Value.ownBlock, Option.some.injEq] at e; omega), hb5.block j (by omega), hgrow4.block j (by simp; omega) (fun e => by have := ownb_ge HX.out.2.1 j e.symm; omega)]
              exact heap_alloc_old _ _ (by omega)
            have hbel6 : Below w.heap.size w w6 := by
              have b3 := HX.out.2.2.2.1
              have e1 := HB1.out.size
              have b4 : Below w.heap.size w w4 := ((b3.alloc b3.size _).drew).grown hgrow4 (by simp; omega) (fun k h => by have := ownb_ge HX.out.2.1 k h; omega)
              exact (below_then b4 (by omega) hb5).grown hgrow6 (by omega) (fun k h => by simp only [Value.ownBlock, Option.some.injEq] at h; omega)
            have hown7 : OwnB w6 (w1.heap.size + 1) v6 ((out ++ [p.id]) ++ bytesN (valueS (ruleOf p.id).shape p)) := by
              refine ownb_join (n := (valueS (ruleOf p.id).shape p).size) (xs := out ++ [p.id]) ?_ (bytesN_len _)
              rw [← strCells_bytesN]
              simpa using hown6
            have HZ : Hid (OwnB w6 (w1.heap.size + 1) v6 ((out ++ [p.id]) ++ bytesN (valueS (ruleOf p.id).shape p)) ∧ Seen w6 w1.heap.size (fun j => if j = p.id.toNat then f p.id.toNat + 1 else f j) ∧ w6.heap[M]? = some (.map (ruleEs 27) 27) ∧ Below w.heap.size w w6 ∧ w1.heap.size + 1 ≤ w6.heap.size) := Lib.hid ⟨hown7, by unfold Seen; rw [hkeep6 _ (Nat.le_refl _)]; exact HX.out.1, by rw [hkeep6 _ (by have := HMlt.out.2; omega)]; exact HX.out.2.2.2.2, hbel6, by omega⟩
            clear hown4 hgrow4 hat4 hlt4 hb5 hown6 hgrow6 hg1 hsz4 hsz5 hsz6 hs3' hkeep6 hbel6 hown7
            go_wp2
            go_roundw
            case rel =>
              obtain ⟨q1, q2, q3, q4, q5⟩ := HZ.out
              refine ⟨k + 1, _, _, by omega, by go_num, q1, q2, q3, q4, q5, ?_, ?_, HX.out.2.2.1.symm⟩
              · intro i
                have h1 := HFB.out.1 i
                have h2 := HFB.out.1 p.id.toNat
                by_cases e : i = p.id.toNat
                · simp only [e, if_true]; omega
                · simp only [e, if_false]; omega
              · have h1 := HFB.out.2
                have h2 := HVS.out
                rw [List.length_append, List.length_append, bytesN_len]
                simp only [List.length_cons, List.length_nil]
                omega
            case measure => simp [intOf]; omega
        · have hne : (checkC (ruleOf p.id) kind p != 0) = true := by simpa using hk0
          have HF2 : Hid (bytesF kind l = (⟨#[]⟩, checkC (ruleOf p.id) kind p)) := Lib.hid (by rw [HF.out, HG.out, bytesGo, if_neg hk0])
          clear hk0
          generalize checkC (ruleOf p.id) kind p = z at *
          go_wp2
          go_ret2
          exact ⟨by rw [HF2.out]; rfl, HR2.out.2.2.1⟩
      · have hkn : k = n := by omega
        have hdrop : l.drop k = [] := List.drop_eq_nil_of_le (by rw [HL.out]; omega)
        rw [hdrop] at hgo
        have HG : Hid (bytesF kind l = if loneB f = true then (⟨#[]⟩, 9) else (viS out.length ++ strOfNums out, 0)) := Lib.hid (by rw [HF.out, ← hgo, bytesGo])
        obtain ⟨A8, c8, hv8⟩ : ∃ A8 c8, u8 = .slice A8 out.length c8 := by
          rcases hown.2 with ⟨rfl, h0⟩ | ⟨g, cap, cur, rfl, _⟩
          · exact ⟨none, 0, by rw [h0]⟩
          · exact ⟨_, cap, rfl⟩
        have hlen2 : out.length ≤ 131075000 := by
          have := Nat.mul_le_mul_right 131075 (show k ≤ 1000 by omega)
          omega
        have HH : Hid ((OwnB wr (w1.heap.size + 1) u8 out ∧ Below w.heap.size w wr)) := Lib.hid ⟨hown, hbel⟩
        have HS := Lib.hid hseen
        subst hv8
        clear hown hseen hmap hbel hsz hf hlen hgo hdrop hkn hk
        go_wp2_with fail
        refine (lone_t w1.heap.size f _ HS.out).mono ?_
        rintro e w2 ⟨rfl, rfl⟩
        cases hlo : loneB f with
        | true =>
          have HF2 : Hid (bytesF kind l = (⟨#[]⟩, 9)) := Lib.hid (by rw [HG.out, if_pos hlo])
          clear hlo
          go_wp2
          go_ret2
          exact ⟨by rw [HF2.out]; rfl, HH.out.2⟩
        | false =>
          have HF2 : Hid (bytesF kind l = (viS out.length ++ strOfNums out, 0)) := Lib.hid (by rw [HG.out, if_neg (by rw [hlo]; decide)])
          clear hlo
          go_wp2_with fail
          refine (vibytes_t (out.length : Int) _ (by omega) (by omega)).mono ?_
          rintro e w2 ⟨rfl, hb⟩
          have hcv := ownb_string (ownb_below HH.out.1 hb)
          have HB2 := Lib.hid (ext_then' HH.out.2 hb)
          have hv4 := viS_le (out.length : Int)
          have hso : (strOfNums out).size = out.length := strOfNums_size out
          have hlt : ¬ 9223372036854775807 < (viS (out.length : Int)).size + (strOfNums out).size := by omega
          clear hb hv4 hso
          generalize viS (out.length : Int) = vs at *
          generalize strOfNums out = so at *
          go_wp2
          go_ret2
          exact ⟨by rw [HF2.out]; rfl, HB2.out⟩
end Go.Proofs.Ytnbgmpfldoaodab
