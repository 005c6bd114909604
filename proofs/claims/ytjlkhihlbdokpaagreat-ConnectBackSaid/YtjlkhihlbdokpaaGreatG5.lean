/- prop.list: its map of readers, what it keeps in memory, and what it answers. -/
import Derived.Test.YtjlkhihlbdokpaaGreatG4
import Derived.Test.YtjlkhihlbdokpaaGreatG1
import Derived.Maps.AppendAt
import Derived.Deep.AppendLies
import Derived.RegionTactic
import Derived.Deep.RegionHeld3
namespace Go.Proofs.YtjlkhihlbdokpaaGreat
open Go.RowKit Go.Sort Go.MapKept
set_option maxHeartbeats 2000000
set_option linter.unusedVariables false
set_option linter.unusedSimpArgs false
def readFn (sh : Int) : Nat := if sh == 1 then 210 else if sh == 2 then 211 else if sh == 3 then 212 else if sh == 4 then 213 else if sh == 5 then 214 else if sh == 6 then 215 else 216
def readP (sh : Int) (p : Prp) (c : Cu) : Prp × Cu :=
  if sh == 1 then ({ p with n := numN c 1 }, (needF c 1).2) else if sh == 2 then ({ p with n := numN c 2 }, (needF c 2).2) else if sh == 3 then ({ p with n := numN c 4 }, (needF c 4).2)
  else if sh == 4 then ({ p with n := varyN c }, varyC c) else if sh == 5 then ({ p with text := (writtenF c).1 }, (writtenF c).2) else if sh == 6 then ({ p with text := (dataF c).1 }, (dataF c).2)
  else ({ p with text := (writtenF c).1, value := (writtenF (writtenF c).2).1 }, (writtenF (writtenF c).2).2)
def shapeB (sh : Int) : Prop := sh = 1 ∨ sh = 2 ∨ sh = 3 ∨ sh = 4 ∨ sh = 5 ∨ sh = 6 ∨ sh = 7
theorem readP_ok {sh : Int} (hs : shapeB sh) (p : Prp) {c : Cu} (ok : CuOK c) : CuOK (readP sh p c).2 := by
  rcases hs with rfl | rfl | rfl | rfl | rfl | rfl | rfl
  · exact needF_ok ok 1
  · exact needF_ok ok 2
  · exact needF_ok ok 4
  · exact varyC_ok ok
  · exact writtenF_ok ok
  · exact dataF_ok ok
  · exact writtenF_ok (writtenF_ok ok)
theorem readP_size {sh : Int} (hs : shapeB sh) {p : Prp} (h1 : p.text.size ≤ 65535) (h2 : p.value.size ≤ 65535) {c : Cu} (ok : CuOK c) : (readP sh p c).1.text.size ≤ 65535 ∧ (readP sh p c).1.value.size ≤ 65535 := by
  rcases hs with rfl | rfl | rfl | rfl | rfl | rfl | rfl
  · exact ⟨h1, h2⟩
  · exact ⟨h1, h2⟩
  · exact ⟨h1, h2⟩
  · exact ⟨h1, h2⟩
  · exact ⟨dataF_size ok, h2⟩
  · exact ⟨dataF_size ok, h2⟩
  · exact ⟨dataF_size ok, dataF_size (writtenF_ok ok)⟩
theorem readP_id {sh : Int} (hs : shapeB sh) (p : Prp) (c : Cu) : (readP sh p c).1.id = p.id := by
  rcases hs with rfl | rfl | rfl | rfl | rfl | rfl | rfl <;> rfl
theorem reader_t (sh : Int) (hs : shapeB sh) (S g : Nat) (p : Prp) (c : Cu) (w : World) (h : SrcAt w S g p c) (ok : CuOK c) : Calls Tryz.prog (readFn sh) #[.pointer (some ⟨S, 0, none⟩)] w fun e w' => e = .returned (.tuple #[]) ∧ SrcAt w' S g (readP sh p c).1 (readP sh p c).2 ∧ TwoBy S g w w' := by
  rcases hs with rfl | rfl | rfl | rfl | rfl | rfl | rfl
  · exact one_t S g p c w h ok
  · exact two_t S g p c w h ok
  · exact four_t S g p c w h ok
  · exact vary_t S g p c w h ok
  · exact srctext_t S g p c w h ok
  · exact srcbinary_t S g p c w h ok
  · exact srcpair_t S g p c w h ok
theorem shape_has {id kind : Int} (h : hasK (ruleOf id) kind = true) : shapeB (ruleOf id).shape ∧ 0 ≤ id ∧ id < 64 := by
  obtain ⟨a, b, c, d, -⟩ := hasK_ok h
  exact ⟨by unfold shapeB; omega, by omega, by omega⟩
def readEs (n : Nat) : Array MapEntry := (#[⟨.int .i64 1, .func (.func 210) #[] #[], 0⟩, ⟨.int .i64 2, .func (.func 211) #[] #[], 1⟩, ⟨.int .i64 3, .func (.func 212) #[] #[], 2⟩, ⟨.int .i64 4, .func (.func 213) #[] #[], 3⟩, ⟨.int .i64 5, .func (.func 214) #[] #[], 4⟩, ⟨.int .i64 6, .func (.func 215) #[] #[], 5⟩, ⟨.int .i64 7, .func (.func 216) #[] #[], 6⟩] : Array MapEntry).extract 0 n
theorem run_insertS (W : World) (es : Array MapEntry) (n : Nat) (k : Int) (v : Value) (hf : Instr.findNow (.int .i64) (.int .i64 k) es.toList 0 = some none) :
    (Instr.mapUpdate 193 (.map (some W.heap.size)) (.int .i64 k) v).run Tryz.prog (W.alloc (.map es n)) = .ok () (W.alloc (.map (es.push ⟨.int .i64 k, v, n⟩) (n + 1))) := by
  have hb := getMap W (.map es n)
  have hc : (Instr.checkKey false 10000 3 (.int .i64 k)).run Tryz.prog (W.alloc (.map es n)) = .ok () (W.alloc (.map es n)) := run_checkKey Tryz.underlying3 (show IsKey (.int .i64) (.int .i64 k) from rfl) false 9999
  have hk : (Instr.findKey 3 (.int .i64 k) es.toList).run Tryz.prog (W.alloc (.map es n)) = .ok none (W.alloc (.map es n)) := run_findKey Tryz.underlying3 hf
  have hs := setMap W (.map es n) (.map (es.push ⟨.int .i64 k, v, n⟩) (n + 1))
  simp only [Instr.mapUpdate, Sem.run_bind, run_underlying Tryz.underlying193, Result.andThen, getObj, setObj, Sem.run, hb, hc, hk, hs]
theorem run_lookS (w : World) (B : Nat) (sh : Int) (hs : shapeB sh) (hb : w.heap[B]? = some (.map (readEs 7) 7)) :
    (Instr.lookup 193 (.map (some B)) (.int .i64 sh) false).run Tryz.prog w = .ok (.func (.func (readFn sh)) #[] #[]) w := by
  have hc : (Instr.checkKey (readEs 7).isEmpty 10000 3 (.int .i64 sh)).run Tryz.prog w = .ok () w := run_checkKey Tryz.underlying3 (show IsKey (.int .i64) (.int .i64 sh) from rfl) _ 9999
  have hf : ∃ m, Instr.findNow (.int .i64) (.int .i64 sh) (readEs 7).toList 0 = some (some (m, .func (.func (readFn sh)) #[] #[])) := by
    rcases hs with rfl | rfl | rfl | rfl | rfl | rfl | rfl
    · exact ⟨0, by kernel_rfl⟩
    · exact ⟨1, by kernel_rfl⟩
    · exact ⟨2, by kernel_rfl⟩
    · exact ⟨3, by kernel_rfl⟩
    · exact ⟨4, by kernel_rfl⟩
    · exact ⟨5, by kernel_rfl⟩
    · exact ⟨6, by kernel_rfl⟩
  obtain ⟨m, hf⟩ := hf
  have hk := run_findKey (P := Tryz.prog) (w := w) Tryz.underlying3 hf
  simp [Instr.lookup, Sem.run_bind, run_underlying Tryz.underlying193, Result.andThen, getObj, Sem.run, hb, hc, hk]
set_option maxRecDepth 100000 in
theorem readers_t (w : World) : Calls Tryz.prog 196 #[] w fun e w' => e = .returned (.map (some w.heap.size)) ∧ w' = w.alloc (.map (readEs 7) 7) := by
  have hmm := @run_makeMap Tryz.prog
  have u0 : (Instr.mapUpdate 193 (.map (some w.heap.size)) (.int .i64 1) (.func (.func 210) #[] #[])).run Tryz.prog (w.alloc (.map #[] 0)) = .ok () (w.alloc (.map (readEs 1) 1)) := (run_insertS w #[] 0 1 _ (by kernel_rfl)).trans (congrArg (fun z => Result.ok () (w.alloc (.map z 1))) (by kernel_rfl))
  have u1 : (Instr.mapUpdate 193 (.map (some w.heap.size)) (.int .i64 2) (.func (.func 211) #[] #[])).run Tryz.prog (w.alloc (.map (readEs 1) 1)) = .ok () (w.alloc (.map (readEs 2) 2)) := (run_insertS w (readEs 1) 1 2 _ (by kernel_rfl)).trans (congrArg (fun z => Result.ok () (w.alloc (.map z 2))) (by kernel_rfl))
  have u2 : (Instr.mapUpdate 193 (.map (some w.heap.size)) (.int .i64 3) (.func (.func 212) #[] #[])).run Tryz.prog (w.alloc (.map (readEs 2) 2)) = .ok () (w.alloc (.map (readEs 3) 3)) := (run_insertS w (readEs 2) 2 3 _ (by kernel_rfl)).trans (congrArg (fun z => Result.ok () (w.alloc (.map z 3))) (by kernel_rfl))
  have u3 : (Instr.mapUpdate 193 (.map (some w.heap.size)) (.int .i64 4) (.func (.func 213) #[] #[])).run Tryz.prog (w.alloc (.map (readEs 3) 3)) = .ok () (w.alloc (.map (readEs 4) 4)) := (run_insertS w (readEs 3) 3 4 _ (by kernel_rfl)).trans (congrArg (fun z => Result.ok () (w.alloc (.map z 4))) (by kernel_rfl))
  have u4 : (Instr.mapUpdate 193 (.map (some w.heap.size)) (.int .i64 5) (.func (.func 214) #[] #[])).run Tryz.prog (w.alloc (.map (readEs 4) 4)) = .ok () (w.alloc (.map (readEs 5) 5)) := (run_insertS w (readEs 4) 4 5 _ (by kernel_rfl)).trans (congrArg (fun z => Result.ok () (w.alloc (.map z 5))) (by kernel_rfl))
  have u5 : (Instr.mapUpdate 193 (.map (some w.heap.size)) (.int .i64 6) (.func (.func 215) #[] #[])).run Tryz.prog (w.alloc (.map (readEs 5) 5)) = .ok () (w.alloc (.map (readEs 6) 6)) := (run_insertS w (readEs 5) 5 6 _ (by kernel_rfl)).trans (congrArg (fun z => Result.ok () (w.alloc (.map z 6))) (by kernel_rfl))
  have u6 : (Instr.mapUpdate 193 (.map (some w.heap.size)) (.int .i64 7) (.func (.func 216) #[] #[])).run Tryz.prog (w.alloc (.map (readEs 6) 6)) = .ok () (w.alloc (.map (readEs 7) 7)) := (run_insertS w (readEs 6) 6 7 _ (by kernel_rfl)).trans (congrArg (fun z => Result.ok () (w.alloc (.map z 7))) (by kernel_rfl))
  go_enter Tryz.func196, Tryz.ntmps196
  go_wp2
  go_ret
  exact ⟨rfl, rfl⟩
def prpC (p : Prp) : List Value := #[.int .i64 p.id, .int .u32 p.n, .string p.text, .string p.value].toList
def flatP : List Prp → List Value
  | [] => []
  | p :: t => prpC p ++ flatP t
theorem flatP_snoc (l : List Prp) (p : Prp) : flatP (l ++ [p]) = flatP l ++ prpC p := by
  induction l with
  | nil => simp [flatP]
  | cons a t ih => simp [flatP, ih]
theorem flatP_len (l : List Prp) : (flatP l).length = l.length * 4 := by
  induction l with
  | nil => rfl
  | cons a t ih => simp only [flatP, List.length_append, ih, List.length_cons]; have : (prpC a).length = 4 := rfl; omega
structure LInv (w : World) (N : Nat) (wr : World) (p : Prp) (c : Cu) (f : Nat → Int) (v8 : Value) (out : List Prp) : Prop where
  rules : wr.heap[N]? = some (.map (ruleEs 27) 27)
  reads : wr.heap[N + 1]? = some (.map (readEs 7) 7)
  seen : Seen wr (N + 2) f
  src : SrcAt wr (N + 4) (N + 3) p c
  own : wr.ownsRow (N + 5) 75 4 v8 out.length (flatP out)
  bel : Below N w wr
theorem LInv.size {w : World} {N : Nat} {wr : World} {p : Prp} {c : Cu} {f : Nat → Int} {v8 : Value} {out : List Prp} (h : LInv w N wr p c f v8 out) : N + 4 < wr.heap.size := (Array.getElem?_eq_some_iff.1 h.src.1).1
theorem own_ge {w : World} {base : Nat} {e : TypeId} {size : Nat} {v : Value} {n : Nat} {xs : List Value} (h : w.ownsRow base e size v n xs) : ∀ k, v.ownBlock = some k → base ≤ k ∧ k < w.heap.size := World.ownsRow.lt h
theorem own_two {w w' : World} {base : Nat} {e : TypeId} {size : Nat} {v : Value} {n : Nat} {xs : List Value} (h : w.ownsRow base e size v n xs) (hb : ∀ i, i < w.heap.size → base ≤ i → w'.heap[i]? = w.heap[i]?) : w'.ownsRow base e size v n xs := by
  refine ⟨h.1, ?_⟩
  rcases h.2 with h0 | ⟨g, cap, cur, h1, h2, h3, h4⟩
  · exact .inl h0
  · exact .inr ⟨g, cap, cur, h1, h2, by rw [hb g (Array.getElem?_eq_some_iff.1 h3).1 h2]; exact h3, h4⟩
theorem LInv.below {w : World} {N : Nat} {wr w2 : World} {p : Prp} {c : Cu} {f : Nat → Int} {v8 : Value} {out : List Prp} (h : LInv w N wr p c f v8 out) (hb : Below wr.heap.size wr w2) : LInv w N w2 p c f v8 out := by
  have hs := h.size
  exact ⟨by rw [hb.block _ (by omega)]; exact h.rules, by rw [hb.block _ (by omega)]; exact h.reads, h.seen.below hb, src_below h.src hb, own_two h.own (fun i hi _ => hb.block i hi), h.bel.trans (hb.mono (by omega))⟩
theorem LInv.two {w : World} {N : Nat} {wr w2 : World} {p p' : Prp} {c c' : Cu} {f : Nat → Int} {v8 : Value} {out : List Prp} (h : LInv w N wr p c f v8 out) (hx : SrcAt w2 (N + 4) (N + 3) p' c') (hb : TwoBy (N + 4) (N + 3) wr w2) : LInv w N w2 p' c' f v8 out := by
  have hs := h.size
  exact ⟨by rw [hb.block _ (by omega) (by omega) (by omega)]; exact h.rules, by rw [hb.block _ (by omega) (by omega) (by omega)]; exact h.reads, by unfold Seen; rw [hb.block _ (by omega) (by omega) (by omega)]; exact h.seen, hx,
    own_two h.own (fun i hi h5 => hb.block i hi (by omega) (by omega)),
    ⟨hb.os.trans h.bel.os, hb.tape.trans h.bel.tape, hb.output.trans h.bel.output, Nat.le_trans h.bel.size hb.size, fun i hi => (hb.block i (by omega) (by omega) (by omega)).trans (h.bel.block i hi)⟩⟩
theorem LInv.cur {w : World} {N : Nat} {wr w2 : World} {p : Prp} {c c' : Cu} {f : Nat → Int} {v8 : Value} {out : List Prp} (h : LInv w N wr p c f v8 out) (hc : CurAt w2 (N + 3) c') (hg : wr.grownBy w2 (some (N + 3))) : LInv w N w2 p c' f v8 out :=
  h.two (src_cur h.src hc hg) (two_g hg)
theorem LInv.sees {w : World} {N : Nat} {wr w2 : World} {p : Prp} {c : Cu} {f f' : Nat → Int} {v8 : Value} {out : List Prp} (h : LInv w N wr p c f v8 out) (hc : Seen w2 (N + 2) f') (hg : wr.grownBy w2 (some (N + 2))) : LInv w N w2 p c f' v8 out := by
  have hs := h.size
  have k : ∀ i, i < wr.heap.size → i ≠ N + 2 → w2.heap[i]? = wr.heap[i]? := fun i hi hne => hg.block i hi (fun e => hne (by simpa using e))
  refine ⟨by rw [k _ (by omega) (by omega)]; exact h.rules, by rw [k _ (by omega) (by omega)]; exact h.reads, hc, ⟨by rw [k _ (by omega) (by omega)]; exact h.src.1, by unfold CurAt; rw [k _ (by omega) (by omega)]; exact h.src.2.1, h.src.2.2⟩, own_two h.own (fun i hi h5 => k i hi (by omega)), h.bel.grown hg (by omega) (fun i e => by simp only [Option.some.injEq] at e; omega)⟩
theorem LInv.owns {w : World} {N : Nat} {wr w2 : World} {p : Prp} {c : Cu} {f : Nat → Int} {v8 v' : Value} {out out' : List Prp} (h : LInv w N wr p c f v8 out) (hc : w2.ownsRow (N + 5) 75 4 v' out'.length (flatP out')) (hg : wr.grownBy w2 v8.ownBlock) : LInv w N w2 p c f v' out' := by
  have hs := h.size
  have ho := own_ge h.own
  have k : ∀ i, i < wr.heap.size → i < N + 5 → w2.heap[i]? = wr.heap[i]? := fun i hi hne => hg.block i hi (fun e => by have := (ho i e.symm).1; omega)
  refine ⟨by rw [k _ (by omega) (by omega)]; exact h.rules, by rw [k _ (by omega) (by omega)]; exact h.reads, by unfold Seen; rw [k _ (by omega) (by omega)]; exact h.seen, ⟨by rw [k _ (by omega) (by omega)]; exact h.src.1, by unfold CurAt; rw [k _ (by omega) (by omega)]; exact h.src.2.1, h.src.2.2⟩, hc, h.bel.grown hg (by omega) (fun i e => by have := (ho i e).1; omega)⟩
def updF (f : Nat → Int) (i : Nat) : Nat → Int := fun j => if j = i then f i + 1 else f j
def zeroP (id : Int) : Prp := ⟨id, 0, ⟨#[]⟩, ⟨#[]⟩⟩
def listGo : Nat → Int → Cu → (Nat → Int) → List Prp → List Prp × Int
  | 0, _, _, _, _ => ([], 4)
  | m + 1, kind, c, f, out =>
    if decide (0 < leftF c) = true then
      (if hasK (ruleOf (numF c 1)) kind = true then
        (let r := readP (ruleOf (numF c 1)).shape (zeroP (numF c 1)) (takeF c 1).2
         if r.2.err = 0 then
           (if checkC (ruleOf (numF c 1)) kind r.1 = 0 then
             (if againB kind (numF c 1) (f (numF c 1).toNat) = true then ([], 9)
              else if out.length = 1000 then ([], 4)
              else listGo m kind r.2 (updF f (numF c 1).toNat) (out ++ [r.1]))
            else ([], checkC (ruleOf (numF c 1)) kind r.1))
         else ([], r.2.err))
       else ([], 9))
    else if loneB f = true then ([], 9) else (out, 0)
def listF (kind : Int) (s : ByteArray) : List Prp × Int := listGo 1001 kind (newCu s) (fun _ => 0) []
def lenOf : Value → Nat
  | .slice _ n _ => n
  | _ => 0
theorem own_len {w : World} {base : Nat} {e : TypeId} {size : Nat} {v : Value} {n : Nat} {xs : List Value} (h : w.ownsRow base e size v n xs) : ∃ A cap, v = .slice A n cap := by
  rcases h.2 with ⟨rfl, rfl⟩ | ⟨g, cap, cur, rfl, _⟩
  · exact ⟨_, _, rfl⟩
  · exact ⟨_, _, rfl⟩
theorem info_prop : (Tryz.prog.info? 75).map (fun i => (i.zero, i.size, i.bytes)) = some (some (.agg #[.int .i64 0, .int .u32 0, .string ⟨#[]⟩, .string ⟨#[]⟩]), 4, 48) := by kernel_rfl
end Go.Proofs.YtjlkhihlbdokpaaGreat
/- prop.list: its walk. -/
namespace Go.Proofs.YtjlkhihlbdokpaaGreat
open Go.RowKit Go.Sort
set_option maxHeartbeats 2000000
set_option linter.unusedVariables false
set_option linter.unusedSimpArgs false
theorem heap_new_at {w : World} {o : Obj} {n : Nat} (h : w.heap.size = n) : (w.alloc o).heap[n]? = some o := by rw [← h]; exact heap_alloc_new ..
theorem row_set {ops : Array Oper} {rest : List Oper} {o : Oper} {a : Act} {w : World} {Q : Exit → Act → World → Prop} (g i : Nat) (t : TypeId) (cs cs' : Array Value) (v : Value) (ty : TypeId) (x y : Operand) (hg : w.heap[g]? = some (.cells cs t (0, 0)))
    (hgd : Region.wanted o (yielded ops a.tmps) = true) (ho : o.op = .store ty x y) (hx : a.eval x = .pointer (some ⟨g, i, none⟩)) (hy : a.eval y = v)
    (hi : (Tryz.prog.info? ty).map (·.size) = some v.cells.size) (h1 : v.cells.all (·.oneCell') = true) (hle : i + v.cells.size ≤ cs.size) (hq : setsAt cs i v.cells.toList = cs')
    (h : ∀ w', w'.heap[g]? = some (.cells cs' t (0, 0)) → w.grownBy w' (some g) → wpList Tryz.prog ops Q rest (a.put o.dst undef) w') : wpList Tryz.prog ops Q (o :: rest) a w :=
  wpList_step fun K hK => by
    rw [if_pos hgd]
    unfold Oper.wp execOp
    simp only [ho, hx, hy, Instr.storeAt, Instr.sureAddr, Sem.run_bind, Sem.run_pure, Result.andThen_ok, run_storeVar_cells w g i ty _ cs v hg hi hle h1]
    refine hK _ _ (h _ ?_ (grown_setCells _ _ _))
    rw [← hq]
    exact heap_setCells _ _ _ _ hg
theorem call_reader {sh : Int} (hs : shapeB sh) (v : Value) (w : World) : (callFunc (readFn sh) #[v]).run Tryz.prog w = .ok (.enter (readFn sh) #[v]) w := by
  rcases hs with rfl | rfl | rfl | rfl | rfl | rfl | rfl <;> kernel_rfl
def ruleC (r : Rule) : Array Value := #[.int .i64 r.shape, .int .i64 r.kinds, .int .u32 r.least, .int .u32 r.most]
theorem own_mono {w : World} {base base' : Nat} {e : TypeId} {size : Nat} {v : Value} {n : Nat} {xs : List Value} (h : w.ownsRow base e size v n xs) (hb : base' ≤ base) : w.ownsRow base' e size v n xs := by
  refine ⟨h.1, ?_⟩
  rcases h.2 with h0 | ⟨g, cap, cur, h1, h2, h3⟩
  · exact .inl h0
  · exact .inr ⟨g, cap, cur, h1, by omega, h3⟩
theorem numN_bd {c : Cu} (ok : CuOK c) {k : Int} (hk : k ≤ 4) : 0 ≤ numN c k ∧ numN c k < 4294967296 := getF_bd (k := 4) (Nat.le_trans (needF_size ok k) (by omega))
theorem readP_prp {sh : Int} (hs : shapeB sh) {c : Cu} (ok : CuOK c) {id : Int} (n0 : 0 ≤ id) (n1 : id < 4294967296) : PrpOK (readP sh (zeroP id) c).1 := by
  obtain ⟨t1, t2⟩ := readP_size hs (p := zeroP id) (Nat.zero_le _) (Nat.zero_le _) ok
  have hn : 0 ≤ (readP sh (zeroP id) c).1.n ∧ (readP sh (zeroP id) c).1.n < 4294967296 := by
    rcases hs with rfl | rfl | rfl | rfl | rfl | rfl | rfl
    · exact numN_bd (k := 1) ok (by decide)
    · exact numN_bd (k := 2) ok (by decide)
    · exact numN_bd (k := 4) ok (by decide)
    · have := (viRead_bd (restF c)).1; exact ⟨this.1, Int.lt_trans this.2 (by decide)⟩
    · exact ⟨Int.le_refl 0, show (0 : Int) < 4294967296 by decide⟩
    · exact ⟨Int.le_refl 0, show (0 : Int) < 4294967296 by decide⟩
    · exact ⟨Int.le_refl 0, show (0 : Int) < 4294967296 by decide⟩
  exact ⟨hn.1, hn.2, Nat.le_trans t1 (by decide), Nat.le_trans t2 (by decide)⟩
set_option maxRecDepth 100000 in
theorem list_t (kind : Int) (s : ByteArray) (w : World) (hs : s.size ≤ 140737488351232) : Calls Tryz.prog 166 #[.int .i64 kind, .string s] w fun e w' => ∃ v, e = .returned (.tuple #[v, .int .i64 (listF kind s).2]) ∧ Below w.heap.size w w' ∧ w'.ownsRow w.heap.size 75 4 v (listF kind s).1.length (flatP (listF kind s).1) ∧ (∀ p ∈ (listF kind s).1, PrpOK p) := by
  go_enter Tryz.func166, Tryz.ntmps166
  go_wp2_with fail
  refine (rules_t _).mono ?_
  rintro e w1 ⟨M, hM, rfl, hw1⟩
  subst hM hw1
  go_wp2_with fail
  refine (readers_t _).mono ?_
  rintro e w2 ⟨rfl, hw2⟩
  have z1 : (w.alloc (.map (ruleEs 27) 27)).heap.size = w.heap.size + 1 := by simp
  have z2 : w2.heap.size = w.heap.size + 2 := by rw [hw2]; simp
  have HR2 : Hid (w2.heap[w.heap.size]? = some (.map (ruleEs 27) 27) ∧ w2.heap[w.heap.size + 1]? = some (.map (readEs 7) 7) ∧ Below w.heap.size w w2) := Lib.hid (by
    refine ⟨?_, ?_, ?_⟩
    · rw [hw2, heap_alloc_old _ _ (by omega)]; exact heap_alloc_new ..
    · rw [hw2, ← z1]; exact heap_alloc_new ..
    · rw [hw2]; exact ((Below.refl _ w).alloc (Nat.le_refl _) _).alloc (by simp) _)
  rw [z1]
  clear hw2 z1
  go_wp2_with fail
  refine (cnew_t s _).mono ?_
  rintro e w3 ⟨rfl, hw3⟩
  go_wp2
  rw [show w.heap.size + 2 + 1 + 1 = w.heap.size + 4 by omega, show w.heap.size + 2 + 1 = w.heap.size + 3 by omega]
  go_loopw [8] (fun v8 wr => ∃ (p : Prp) (c : Cu) (f : Nat → Int) (out : List Prp), out.length ≤ 1000 ∧ CuOK c ∧ (∀ i, 0 ≤ f i ∧ f i ≤ out.length) ∧ LInv w w.heap.size wr p c f v8 out ∧ (∀ q ∈ out, PrpOK q) ∧ listF kind s = listGo (1001 - out.length) kind c f out) (fun v8 _ => 1001 - lenOf v8)
  case atStart =>
    refine ⟨zeroP 0, newCu s, fun _ => 0, [], by simp, ⟨Nat.zero_le _, hs⟩, fun i => ⟨Int.le_refl 0, by simp⟩, ?_, by simp, rfl⟩
    obtain ⟨q1, q2, q3⟩ := HR2.out
    refine ⟨?_, ?_, ?_, ⟨?_, ?_, by omega⟩, World.ownsRow_nil _ _ _ _, ?_⟩
    · rw [heap_alloc_old _ _ (by simp; omega), heap_alloc_old _ _ (by simp; omega), heap_alloc_old _ _ (by omega)]; exact q1
    · rw [heap_alloc_old _ _ (by simp; omega), heap_alloc_old _ _ (by simp; omega), heap_alloc_old _ _ (by omega)]; exact q2
    · unfold Seen; rw [zero64, heap_alloc_old _ _ (by simp; omega), heap_alloc_old _ _ (by simp; omega), ← z2]; exact heap_alloc_new ..
    · exact heap_new_at (by simp; omega)
    · unfold CurAt; rw [heap_alloc_old _ _ (by simp; omega)]; exact heap_new_at (by simp; omega)
    · exact (((q3.alloc (by omega) _).alloc (by simp; omega) _).alloc (by simp; omega) _)
  case round =>
    obtain ⟨p, c, f, out, hlen, hok, hf, hinv, hpk, hgo⟩ := hrel
    obtain ⟨A, cap, rfl⟩ := own_len hinv.own
    obtain ⟨m, hm⟩ : ∃ m, 1001 - out.length = m + 1 := ⟨1000 - out.length, by omega⟩
    rw [hm] at hgo
    have HI := Lib.hid hinv
    have HO := Lib.hid hok
    have HGO := Lib.hid hgo
    have HF := Lib.hid hf
    have HK := Lib.hid hpk
    obtain ⟨s0, -⟩ := src_cells hinv.src
    clear hinv hok hgo hf hpk
    go_wp2_with fail
    refine (left_t (w.heap.size + 3) c _ HI.out.src.2.1 HO.out).mono ?_
    rintro e w5 ⟨rfl, hc, hg⟩
    have HI5 := Lib.hid (HI.out.cur hc hg)
    obtain ⟨s0', -⟩ := src_cells HI5.out.src
    clear s0 hc hg
    cases hl : decide (0 < leftF c)
    · go_wp2_with fail
      refine (lone_t (w.heap.size + 2) f _ HI5.out.seen).mono ?_
      rintro e w6 ⟨rfl, hw⟩
      subst hw
      cases hlo : loneB f
      · have HE : Hid (listF kind s = (out, 0)) := Lib.hid (by rw [HGO.out, listGo, hl, if_neg Bool.false_ne_true, hlo, if_neg Bool.false_ne_true])
        go_wp2
        go_ret2
        exact ⟨_, by rw [HE.out]; rfl, HI5.out.bel, by rw [HE.out]; exact own_mono HI5.out.own (by omega), by rw [HE.out]; exact HK.out⟩
      · have HE : Hid (listF kind s = ([], 9)) := Lib.hid (by rw [HGO.out, listGo, hl, if_neg Bool.false_ne_true, hlo, if_pos rfl])
        go_wp2
        go_ret2
        exact ⟨_, by rw [HE.out]; rfl, HI5.out.bel, by rw [HE.out]; exact World.ownsRow_nil _ _ _ _, by rw [HE.out]; intro q hq; cases hq⟩
    go_wp2_with fail
    refine (number_t (w.heap.size + 3) c 1 _ HI5.out.src.2.1 HO.out (by decide)).mono ?_
    rintro e w6 ⟨rfl, hc, hg⟩
    have HI6 := Lib.hid (HI5.out.cur hc hg)
    have HO6 := Lib.hid (takeF_ok HO.out 1)
    obtain ⟨n0, n1⟩ : 0 ≤ numF c 1 ∧ numF c 1 < 4294967296 := getF_bd (k := 4) (Nat.le_trans (take_size HO.out 1) (by decide))
    have hnw := i64w n0 n1
    have hlook := run_rule w6 w.heap.size (numF c 1) HI6.out.rules
    clear s0' hc hg
    go_wp2_with fail
    refine (rhas_t (ruleOf (numF c 1)) kind _ (ruleOf_kinds _).1 (ruleOf_kinds _).2).mono ?_
    rintro e w7 ⟨rfl, hb⟩
    have hbw : Below w6.heap.size w6 w7 := below_then ((Below.refl _ _).alloc (Nat.le_refl _) _) (by simp) hb
    have HI7 := Lib.hid (HI6.out.below hbw)
    have HR7 : Hid (w7.heap[w6.heap.size]? = some (.cells (ruleC (ruleOf (numF c 1))) 119 (0, 0))) := Lib.hid (by rw [hb.block _ (by simp)]; exact heap_alloc_new ..)
    have HZ7 : Hid (w.heap.size + 4 < w6.heap.size) := Lib.hid HI6.out.size
    have HB7 := Lib.hid hbw
    clear hb hbw hlook
    cases hk : hasK (ruleOf (numF c 1)) kind
    · have HE : Hid (listF kind s = ([], 9)) := Lib.hid (by rw [HGO.out, listGo, hl, if_pos rfl, hk, if_neg Bool.false_ne_true])
      go_wp2
      go_ret2
      exact ⟨_, by rw [HE.out]; rfl, HI7.out.bel, by rw [HE.out]; exact World.ownsRow_nil _ _ _ _, by rw [HE.out]; intro q hq; cases hq⟩
    obtain ⟨hsh, i0, i1⟩ := shape_has hk
    have HSH := Lib.hid hsh
    clear hsh
    have HS7 : Hid (w7.heap[w.heap.size + 4]? = some (.cells (srcC (w.heap.size + 3) p) 196 (0, 0))) := Lib.hid HI7.out.src.1
    go_wp2_with ((with_reducible refine row_set (w.heap.size + 4) 1 196 (srcC (w.heap.size + 3) p) (srcC (w.heap.size + 3) (zeroP (numF c 1))) (.agg #[.int .i64 (numF c 1), .int .u32 0, .string ⟨#[]⟩, .string ⟨#[]⟩]) ?t1 ?x1 ?y1 HS7.out ?a1 ?b1 ?c1 ?d1 ?e1 ?f1 ?g1 ?h1 ?i1); (case a1 => rfl); (case b1 => rfl); (case c1 => rfl); (case d1 => rfl); (case e1 => kernel_rfl); (case f1 => simp [Value.cells, Value.oneCell']); (case g1 => simp [Value.cells, srcC]); (case h1 => rfl))
    intro w8 hr8 hg8
    have HI8 := Lib.hid (HI7.out.two (p' := zeroP (numF c 1)) (c' := (takeF c 1).2) ⟨hr8, by unfold CurAt; rw [hg8.block _ (by have := HI7.out.size; omega) (fun e => by simp only [Option.some.injEq] at e; omega)]; exact HI7.out.src.2.1, by omega⟩ (two_S hg8))
    have HR8 : Hid (w8.heap[w6.heap.size]? = some (.cells (ruleC (ruleOf (numF c 1))) 119 (0, 0))) := Lib.hid (by rw [hg8.block _ (Array.getElem?_eq_some_iff.1 HR7.out).1 (fun e => by simp only [Option.some.injEq] at e; have := HZ7.out; omega)]; exact HR7.out)
    clear hr8 hg8
    obtain ⟨s0, -⟩ := src_cells HI8.out.src
    have r0 : w8.cell? ⟨w6.heap.size, 0, none⟩ = some (.int .i64 (ruleOf (numF c 1)).shape) := by rw [cell_of_row _ _ _ _ _ _ HR8.out]; rfl
    have hlookr := run_lookS w8 (w.heap.size + 1) (ruleOf (numF c 1)).shape HSH.out HI8.out.reads
    have hcall := call_reader HSH.out (.pointer (some ⟨w.heap.size + 4, 0, none⟩)) w8
    go_wp2_with fail
    refine (reader_t (ruleOf (numF c 1)).shape HSH.out (w.heap.size + 4) (w.heap.size + 3) (zeroP (numF c 1)) (takeF c 1).2 _ HI8.out.src HO6.out).mono ?_
    rintro e w9 ⟨rfl, hx9, ht9⟩
    have hpid : (readP (ruleOf (numF c 1)).shape (zeroP (numF c 1)) (takeF c 1).2).1.id = numF c 1 := readP_id HSH.out _ _
    have hpok : PrpOK (readP (ruleOf (numF c 1)).shape (zeroP (numF c 1)) (takeF c 1).2).1 := readP_prp HSH.out HO6.out n0 n1
    have hcok := readP_ok HSH.out (zeroP (numF c 1)) HO6.out
    have hstep : listF kind s = listGo (m + 1) kind c f out := HGO.out
    rw [listGo, hl, if_pos rfl, hk, if_pos rfl] at hstep
    simp only [] at hstep
    obtain ⟨⟨p9, c9⟩, hr9⟩ : ∃ r, readP (ruleOf (numF c 1)).shape (zeroP (numF c 1)) (takeF c 1).2 = r := ⟨_, rfl⟩
    rw [hr9] at hstep hpid hpok hcok hx9
    simp only [] at hstep hpid hpok hcok hx9
    have HI9 := Lib.hid (HI8.out.two hx9 ht9)
    have HR9 : Hid (w9.heap[w6.heap.size]? = some (.cells (ruleC (ruleOf (numF c 1))) 119 (0, 0))) := Lib.hid (by rw [ht9.block _ (Array.getElem?_eq_some_iff.1 HR8.out).1 (by have := HZ7.out; omega) (by have := HZ7.out; omega)]; exact HR8.out)
    have HST := Lib.hid hstep
    have HPI := Lib.hid hpid
    have HPO := Lib.hid hpok
    have HCO := Lib.hid hcok
    clear hstep hpid hpok hcok hx9 ht9 hr9 s0 r0 hlookr hcall
    obtain ⟨s0, s1, s2, s3, s4⟩ := src_cells HI9.out.src
    have r0 : w9.cell? ⟨w6.heap.size, 0, none⟩ = some (.int .i64 (ruleOf (numF c 1)).shape) := by rw [cell_of_row _ _ _ _ _ _ HR9.out]; rfl
    have r1 : w9.cell? ⟨w6.heap.size, 1, none⟩ = some (.int .i64 (ruleOf (numF c 1)).kinds) := by rw [cell_of_row _ _ _ _ _ _ HR9.out]; rfl
    have r2 : w9.cell? ⟨w6.heap.size, 2, none⟩ = some (.int .u32 (ruleOf (numF c 1)).least) := by rw [cell_of_row _ _ _ _ _ _ HR9.out]; rfl
    have r3 : w9.cell? ⟨w6.heap.size, 3, none⟩ = some (.int .u32 (ruleOf (numF c 1)).most) := by rw [cell_of_row _ _ _ _ _ _ HR9.out]; rfl
    go_wp2_with fail
    refine (err_t (w.heap.size + 3) c9 _ HI9.out.src.2.1).mono ?_
    rintro e w10 ⟨rfl, hw⟩
    subst hw
    cases he : (c9.err != 0)
    case true =>
      have HE : Hid (listF kind s = ([], c9.err)) := Lib.hid (by rw [HST.out, if_neg (by simpa using he)])
      go_wp2
      go_ret2
      exact ⟨_, by rw [HE.out]; rfl, HI9.out.bel, by rw [HE.out]; exact World.ownsRow_nil _ _ _ _, by rw [HE.out]; intro q hq; cases hq⟩
    have HST2 := Lib.hid (HST.out.trans (if_pos (by simpa using he)))
    go_wp2_with fail
    refine (check_t (Lib.hid topic_ok) (ruleOf (numF c 1)) kind p9 _ (ruleOf_kinds _).1 (ruleOf_kinds _).2 HPO.out.2.2.1 HPO.out.2.2.2).mono ?_
    rintro e w11 ⟨rfl, hb⟩
    have HI11 := Lib.hid (HI9.out.below hb)
    clear hb s0 s1 s2 s3 s4 r0 r1 r2 r3
    cases hck : (checkC (ruleOf (numF c 1)) kind p9 != 0)
    case true =>
      have HE : Hid (listF kind s = ([], checkC (ruleOf (numF c 1)) kind p9)) := Lib.hid (by rw [HST2.out, if_neg (by simpa using hck)])
      generalize checkC (ruleOf (numF c 1)) kind p9 = ze at *
      go_wp2
      go_ret2
      exact ⟨_, by rw [HE.out]; rfl, HI11.out.bel, by rw [HE.out]; exact World.ownsRow_nil _ _ _ _, by rw [HE.out]; intro q hq; cases hq⟩
    have HST3 := Lib.hid (HST2.out.trans (if_pos (by simpa using hck)))
    go_wp2_with fail
    refine (again_t (w.heap.size + 2) kind (numF c 1) f _ (by omega) (by omega) HI11.out.seen (HF.out _).1 (by have := (HF.out (numF c 1).toNat).2; omega)).mono ?_
    rintro e w12 ⟨rfl, hs12, hg12⟩
    have HI12 : Hid (LInv w w.heap.size w12 p9 c9 (updF f (numF c 1).toNat) (.slice A out.length cap) out) := Lib.hid (HI11.out.sees hs12 hg12)
    clear hs12 hg12
    cases hag : againB kind (numF c 1) (f (numF c 1).toNat)
    case true =>
      have HE : Hid (listF kind s = ([], 9)) := Lib.hid (by rw [HST3.out, if_pos hag])
      go_wp2
      go_ret2
      exact ⟨_, by rw [HE.out]; rfl, HI12.out.bel, by rw [HE.out]; exact World.ownsRow_nil _ _ _ _, by rw [HE.out]; intro q hq; cases hq⟩
    have HST4 := Lib.hid (HST3.out.trans (if_neg (by rw [hag]; decide)))
    by_cases h1000 : out.length = 1000
    · have HE : Hid (listF kind s = ([], 4)) := Lib.hid (by rw [HST4.out, if_pos h1000])
      have hd1 : ((out.length : Int) == 1000) = true := by simp; omega
      go_wp2
      go_ret2
      exact ⟨_, by rw [HE.out]; rfl, HI12.out.bel, by rw [HE.out]; exact World.ownsRow_nil _ _ _ _, by rw [HE.out]; intro q hq; cases hq⟩
    have HST5 := Lib.hid (HST4.out.trans (if_neg h1000))
    have hd1 : ((out.length : Int) == 1000) = false := by simp; omega
    obtain ⟨s0, s1, s2, s3, s4⟩ := src_cells HI12.out.src
    obtain ⟨i0', hif, hz0, hz1, hz2⟩ := info_parts info_prop
    go_wp2_with (at_builtin; refine wpList_append_own_at _ rfl _ _ 22 rfl (w.heap.size + 5) 75 i0' (.agg #[.int .i64 0, .int .u32 0, .string ⟨#[]⟩, .string ⟨#[]⟩]) 4 48 Tryz.underlying22 hif hz0 hz1 hz2 rfl (by decide) _ out.length (flatP out) rfl (HI12.out.own.alloc _) ⟨w12.heap.size, 0, none⟩ 1 1 (prpC p9) rfl rfl ?c1 ?c2 ?c3 ?c4 ?c5 ?_)
    case c1 =>
      exact World.news_of_block (heap_alloc_new w12 (.cells #[.int .i64 p9.id, .int .u32 p9.n, .string p9.text, .string p9.value] 75))
    case c2 => intro u hu; simp only [prpC, List.mem_cons, List.not_mem_nil, or_false] at hu; rcases hu with rfl | rfl | rfl | rfl <;> rfl
    case c3 => unfold maxLen; omega
    case c4 => omega
    case c5 => have := HI12.out.size; simp; omega
    intro v' w13 hown hgrow _ _
    have HI13 := Lib.hid ((HI12.out.below ((Below.refl _ _).alloc (Nat.le_refl _) (.cells #[.int .i64 p9.id, .int .u32 p9.n, .string p9.text, .string p9.value] 75))).owns (out' := out ++ [p9]) (by rw [flatP_snoc, List.length_append]; exact hown) hgrow)
    obtain ⟨A', cap', rfl⟩ := own_len hown
    clear hown hgrow s0 s1 s2 s3 s4
    go_wp2
    go_roundw
    case rel =>
      refine ⟨p9, c9, updF f (numF c 1).toNat, out ++ [p9], by rw [List.length_append]; simp; omega, HCO.out, ?_, HI13.out, ?_, ?_⟩
      · intro i
        have h1 := HF.out i
        have h2 := HF.out (numF c 1).toNat
        rw [List.length_append]
        unfold updF
        simp only [List.length_cons, List.length_nil]
        split <;> omega
      · intro q hq
        rcases List.mem_append.1 hq with h | h
        · exact HK.out q h
        · simp only [List.mem_cons, List.not_mem_nil, or_false] at h; rw [h]; exact HPO.out
      · rw [HST5.out, show 1001 - (out ++ [p9]).length = m by simp; omega]
    case measure => simp only [lenOf]; omega
end Go.Proofs.YtjlkhihlbdokpaaGreat
/- prop.Read: its walk. -/
namespace Go.Proofs.YtjlkhihlbdokpaaGreat
open Go.RowKit Go.Sort
set_option maxHeartbeats 2000000
set_option linter.unusedVariables false
set_option linter.unusedSimpArgs false
theorem viGo_sz : ∀ (f : Nat) (s : ByteArray) (k : Nat) (z : Int), f + k ≤ 4 → 0 ≤ z → z < 128 ^ k → k ≤ s.size → (viGo f s k z).2.1 ≤ (s.size : Int)
  | 0, s, k, z, _, _, _, _ => by rw [viGo]; simp
  | f + 1, s, k, z, hk, z0, z1, hks => by
    by_cases h : k < s.size
    · obtain ⟨x, hx⟩ : ∃ x, s[k]'h = x := ⟨_, rfl⟩
      have hx0 := x.toNat_lt
      rcases pushR_cases (k := k) (by omega) z0 z1 (show (0 : Int) ≤ (x.toNat : Int) by omega) (show (x.toNat : Int) < 256 by omega) with ⟨hk3, hp, hp0, hp1⟩ | ⟨r, hp⟩ | hp
      · rw [viGo_step h (by rw [hx]) hp, if_pos rfl, if_neg Bool.false_ne_true]
        exact viGo_sz f s (k + 1) _ (by omega) hp0 hp1 h
      · rw [viGo_step h (by rw [hx]) hp, if_neg (by decide)]; simp
      · rw [viGo_step h (by rw [hx]) hp, if_pos rfl, if_pos rfl]; show ((k + 1 : Nat) : Int) ≤ _; omega
    · rw [viGo_end h]; simp
theorem viRead_sz (s : ByteArray) : (viRead s).2.1 ≤ (s.size : Int) := viGo_sz 4 s 0 0 (by omega) (by omega) (by decide) (Nat.zero_le _)
def preadF (kind : Int) (s : ByteArray) : List Prp × Int × Int :=
  if (viRead s).2.2 = 0 then
    (if decide ((s.size : Int) - (viRead s).2.1 < (viRead s).1) = true then ([], 0, 3)
     else
      (let r := listF kind (s.extract (viRead s).2.1.toNat ((viRead s).2.1 + (viRead s).1).toNat)
       if r.2 = 0 then (r.1, (viRead s).2.1 + (viRead s).1, 0) else ([], 0, r.2)))
  else ([], 0, (viRead s).2.2)
set_option maxRecDepth 100000 in
theorem pread_t (kind : Int) (s : ByteArray) (w : World) (hs : s.size ≤ 140737488351232) : Calls Tryz.prog 121 #[.int .i64 kind, .string s] w fun e w' => ∃ v, e = .returned (.tuple #[v, .int .i64 (preadF kind s).2.1, .int .i64 (preadF kind s).2.2]) ∧ Below w.heap.size w w' ∧ w'.ownsRow w.heap.size 75 4 v (preadF kind s).1.length (flatP (preadF kind s).1) ∧ (∀ p ∈ (preadF kind s).1, PrpOK p) := by
  have HF : Hid (preadF kind s = _) := Lib.hid (by unfold preadF; rfl)
  go_enter Tryz.func121, Tryz.ntmps121
  go_wp2_with fail
  refine (read_t s _ hs).mono ?_
  rintro e w1 ⟨rfl, hb⟩
  have HB1 := Lib.hid hb
  clear hb
  obtain ⟨⟨n0, n1⟩, z0, z1⟩ := viRead_bd s
  have z2 := viRead_sz s
  generalize (viRead s).1 = n at *
  generalize (viRead s).2.1 = z at *
  generalize (viRead s).2.2 = ze at *
  cases he : (ze != 0)
  case true =>
    have HE : Hid (preadF kind s = ([], 0, ze)) := Lib.hid (HF.out.trans (if_neg (by simpa using he)))
    go_wp2
    go_ret3
    exact ⟨_, by rw [HE.out]; rfl, HB1.out, by rw [HE.out]; exact World.ownsRow_nil _ _ _ _, by rw [HE.out]; intro q hq; cases hq⟩
  have HF2 := Lib.hid (HF.out.trans (if_pos (by simpa using he)))
  cases hl : decide ((s.size : Int) - z < n)
  case true =>
    have HE : Hid (preadF kind s = ([], 0, 3)) := Lib.hid (HF2.out.trans (if_pos hl))
    have hw : IntKind.i64.wrap ((s.size : Int) - z) = (s.size : Int) - z := IntWalk.i64_in _ ⟨by omega, by omega⟩
    clear HF HF2
    go_wp2
    go_ret3
    exact ⟨_, by rw [HE.out]; rfl, HB1.out, by rw [HE.out]; exact World.ownsRow_nil _ _ _ _, by rw [HE.out]; intro q hq; cases hq⟩
  have HF3 := Lib.hid (HF2.out.trans (if_neg (by rw [hl]; decide)))
  have hl2 : z + n ≤ (s.size : Int) := by simp at hl; omega
  have hw : IntKind.i64.wrap ((s.size : Int) - z) = (s.size : Int) - z := IntWalk.i64_in _ ⟨by omega, by omega⟩
  have hw2 : IntKind.i64.wrap (z + n) = z + n := IntWalk.i64_in _ ⟨by omega, by omega⟩
  have hle : z ≤ z + n := by omega
  have h0 : 0 ≤ z + n := by omega
  clear HF HF2
  go_wp2_with fail
  refine (list_t kind (s.extract z.toNat (z + n).toNat) _ (by rw [ByteArray.size_extract]; omega)).mono ?_
  rintro e w2 ⟨v, rfl, hb, hown, hok⟩
  have HX := Lib.hid (⟨hb, hown, hok⟩ : _ ∧ _ ∧ _)
  clear hb hown hok
  generalize listF kind (s.extract z.toNat (z + n).toNat) = r at *
  obtain ⟨l, e2⟩ := r
  simp only [] at HF3 HX ⊢
  cases he2 : (e2 != 0)
  case true =>
    have HE : Hid (preadF kind s = ([], 0, e2)) := Lib.hid (HF3.out.trans (if_neg (by simpa using he2)))
    clear HF3
    go_wp2
    go_ret3
    exact ⟨_, by rw [HE.out]; rfl, ext_then' HB1.out HX.out.1, by rw [HE.out]; exact World.ownsRow_nil _ _ _ _, by rw [HE.out]; intro q hq; cases hq⟩
  have HE : Hid (preadF kind s = (l, z + n, 0)) := Lib.hid (HF3.out.trans (if_pos (by simpa using he2)))
  clear HF3
  go_wp2
  go_ret3
  exact ⟨_, by rw [HE.out]; rfl, ext_then' HB1.out HX.out.1, by rw [HE.out]; exact own_mono HX.out.2.1 HB1.out.size, by rw [HE.out]; exact HX.out.2.2⟩
end Go.Proofs.YtjlkhihlbdokpaaGreat
/- A packet and a cursor, both at work; a list that was read. -/
namespace Go.Proofs.YtjlkhihlbdokpaaGreat
open Go.RowKit Go.Sort
set_option maxHeartbeats 2000000
set_option linter.unusedVariables false
set_option linter.unusedSimpArgs false
structure PcAt (w : World) (P g : Nat) (p : Pk) (c : Cu) : Prop where
  pk : w.heap[P]? = some (.cells (packC p) 28 (0, 0))
  cu : CurAt w g c
  ne : P ≠ g
theorem pc_cur {w w' : World} {P g : Nat} {p : Pk} {c c' : Cu} (h : PcAt w P g p c) (hc : CurAt w' g c') (hg : w.grownBy w' (some g)) : PcAt w' P g p c' :=
  ⟨by rw [hg.block P (Array.getElem?_eq_some_iff.1 h.pk).1 (fun e => h.ne (by simpa using e))]; exact h.pk, hc, h.ne⟩
theorem pc_below {w w' : World} {P g : Nat} {p : Pk} {c : Cu} (h : PcAt w P g p c) (hb : Below w.heap.size w w') : PcAt w' P g p c :=
  ⟨row_then h.pk hb, cur_below h.cu hb, h.ne⟩
theorem pc_pk {w w' : World} {P g : Nat} {p p' : Pk} {c : Cu} (h : PcAt w P g p c) (hp : w'.heap[P]? = some (.cells (packC p') 28 (0, 0))) (hg : w.grownBy w' (some P)) : PcAt w' P g p' c :=
  ⟨hp, by unfold CurAt; rw [hg.block g (Array.getElem?_eq_some_iff.1 h.cu).1 (fun e => h.ne (by simp only [Option.some.injEq] at e; exact e.symm))]; exact h.cu, h.ne⟩
theorem flatP_at : ∀ (l : List Prp) (j : Nat) (p : Prp), l[j]? = some p → ∀ i, i < 4 → (flatP l)[j * 4 + i]? = (prpC p)[i]?
  | a :: t, 0, p, h, i, hi => by
    simp only [List.getElem?_cons_zero, Option.some.injEq] at h
    subst h
    rw [flatP, List.getElem?_append_left (by show 0 * 4 + i < 4; omega)]
    congr 1; omega
  | a :: t, j + 1, p, h, i, hi => by
    have h' : t[j]? = some p := by simpa using h
    rw [flatP, List.getElem?_append_right (by show 4 ≤ (j + 1) * 4 + i; omega), ← flatP_at t j p h' i hi]
    congr 1
    show (j + 1) * 4 + i - 4 = j * 4 + i
    omega
theorem own_RP {w : World} {base : Nat} {v : Value} {l : List Prp} (h : w.ownsRow base 75 4 v l.length (flatP l)) (hok : ∀ p ∈ l, PrpOK p) :
    ∃ A n c, v = .slice A n c ∧ n = l.length ∧ RP w A n l := by
  rcases h.2 with ⟨rfl, h0⟩ | ⟨g, cap, cur, rfl, h2, h3, h4, h5, h6, h7⟩
  · exact ⟨_, _, _, rfl, h0.symm, by rw [h0], by decide, hok, fun hn => absurd hn (by decide)⟩
  · refine ⟨_, _, _, rfl, rfl, rfl, Nat.le_trans h4 (Nat.le_trans h5 (by unfold maxLen; decide)), hok, fun _ => ⟨g, 0, rfl, (Array.getElem?_eq_some_iff.1 h3).1, ?_⟩⟩
    intro j p hj
    have hlt : j < l.length := (List.getElem?_eq_some_iff.1 hj).1
    have key : ∀ i, i < 4 → w.cell? ⟨g, 0 + j * 4 + i, none⟩ = (prpC p)[i]? := by
      intro i hi
      rw [cell_of_row _ _ _ _ _ _ h3, ← flatP_at l j p hj i hi, ← h7, List.getElem?_take_of_lt (by omega), Array.getElem?_toList]
      congr 1; omega
    exact ⟨key 0 (by decide), key 1 (by decide), key 2 (by decide), key 3 (by decide)⟩
def LsAt (w : World) (B : Nat) (s : Sl) (l : List Prp) : Prop := w.ownsRow B 75 4 (.slice s.A s.n s.c) l.length (flatP l) ∧ ∀ p ∈ l, PrpOK p
theorem ls_RP {w : World} {B : Nat} {s : Sl} {l : List Prp} (h : LsAt w B s l) : s.n = l.length ∧ RP w s.A s.n l := by
  obtain ⟨A, n, c, e, hn, hr⟩ := own_RP h.1 h.2
  injection e with e1 e2 e3
  rw [e1, e2]
  exact ⟨hn, hr⟩
theorem ls_two {w w' : World} {B P g : Nat} {s : Sl} {l : List Prp} (h : LsAt w B s l) (hb : TwoBy P g w w') (hP : P < B) (hg : g < B) : LsAt w' B s l :=
  ⟨own_two h.1 (fun i hi hB => hb.block i hi (by omega) (by omega)), h.2⟩
theorem ls_below {w w' : World} {B : Nat} {s : Sl} {l : List Prp} (h : LsAt w B s l) (hb : Below w.heap.size w w') : LsAt w' B s l :=
  ⟨own_two h.1 (fun i hi hB => hb.block i hi), h.2⟩
theorem ls_mono {w : World} {B B' : Nat} {s : Sl} {l : List Prp} (h : LsAt w B s l) (hb : B' ≤ B) : LsAt w B' s l := by
  refine ⟨?_, h.2⟩
  refine ⟨h.1.1, ?_⟩
  rcases h.1.2 with h0 | ⟨g, cap, cur, h1, h2, h3⟩
  · exact .inl h0
  · exact .inr ⟨g, cap, cur, h1, by omega, h3⟩
def nilS : Sl := ⟨none, 0, 0⟩
theorem ls_nil (w : World) (B : Nat) : LsAt w B nilS [] := ⟨World.ownsRow_nil _ _ _ _, by intro q hq; cases hq⟩
theorem ls_of {w : World} {B : Nat} {v : Value} {l : List Prp} (h : w.ownsRow B 75 4 v l.length (flatP l)) (hok : ∀ p ∈ l, PrpOK p) : ∃ s : Sl, v = .slice s.A s.n s.c ∧ s.n = l.length ∧ LsAt w B s l := by
  obtain ⟨A, n, c, rfl, hn, -⟩ := own_RP h hok
  exact ⟨⟨A, n, c⟩, rfl, hn, h, hok⟩
end Go.Proofs.YtjlkhihlbdokpaaGreat
/- Bytes and cursors in plain Lean: what is written is read back, and the other way round. -/
namespace Go.Proofs.YtjlkhihlbdokpaaGreat
open Go.RowKit
set_option maxHeartbeats 2000000
set_option linter.unusedVariables false
set_option linter.unusedSimpArgs false
def bl (s : ByteArray) : List UInt8 := s.data.toList
theorem bl_inj {s t : ByteArray} (h : bl s = bl t) : s = t := by
  cases s; cases t; congr 1; exact Array.ext' h
theorem bl_app (s t : ByteArray) : bl (s ++ t) = bl s ++ bl t := by simp [bl, ByteArray.data_append]
theorem bl_len (s : ByteArray) : (bl s).length = s.size := by unfold bl; rw [Array.length_toList]; rfl
theorem bl_nil : bl ⟨#[]⟩ = [] := rfl
theorem bl_extract (s : ByteArray) (i j : Nat) : bl (s.extract i j) = ((bl s).drop i).take (j - i) := by
  unfold bl
  rw [ByteArray.data_extract, Array.toList_extract, List.extract_eq_take_drop]
theorem bl_nums (xs : List Int) : bl (strOfNums xs) = xs.map fun n => UInt8.ofNat n.toNat := rfl
def Rm (c : Cu) : List UInt8 := (bl c.s).drop c.pos
structure At (c : Cu) (r : List UInt8) : Prop where
  err : c.err = 0
  rm : Rm c = r
  ok : CuOK c
theorem At.len {c : Cu} {r : List UInt8} (h : At c r) : (r.length : Int) = (c.s.size : Int) - (c.pos : Int) := by
  have := h.ok.pos
  rw [← h.rm, Rm, List.length_drop, bl_len]; omega
theorem At.left {c : Cu} {r : List UInt8} (h : At c r) : leftF c = (r.length : Int) := h.len.symm
theorem At.ready {c : Cu} {r : List UInt8} (h : At c r) : readyB c = true := by unfold readyB; rw [h.err]; rfl
theorem At.has {c : Cu} {r : List UInt8} (h : At c r) (n : Nat) : hasB c (n : Int) = decide (n ≤ r.length) := by
  have := h.len
  unfold hasB
  rw [if_pos (by simp), ← h.len]
  simp
theorem take_at {c : Cu} {r : List UInt8} (h : At c r) (n : Nat) (hn : n ≤ r.length) : bl (takeF c n).1 = r.take n ∧ At (takeF c n).2 (r.drop n) := by
  have hp := h.len
  have e : takeF c (n : Int) = (c.s.extract c.pos (c.pos + n), { c with pos := c.pos + n }) := by
    unfold takeF
    rw [if_pos h.ready, if_pos (by rw [h.has]; simpa using hn)]
    rfl
  rw [e]
  refine ⟨?_, ⟨h.err, ?_, ⟨?_, h.ok.size⟩⟩⟩
  · simp only []
    rw [bl_extract, ← h.rm, Rm]
    congr 1; omega
  · simp only [Rm]
    rw [← h.rm, Rm, List.drop_drop]
  · have := h.ok.pos; simp only []; omega
theorem take_sh {c : Cu} {r : List UInt8} (h : At c r) (n : Nat) (hn : r.length < n) : (takeF c n).2.err = 3 := by
  unfold takeF
  rw [if_pos h.ready, if_neg (by rw [h.has]; simp; omega)]
theorem take_err {c : Cu} (h : c.err ≠ 0) (n : Int) : takeF c n = (⟨#[]⟩, c) := by
  unfold takeF
  rw [if_neg (by unfold readyB; simpa using h)]
theorem fail_at {c : Cu} {r : List UInt8} (h : At c r) (e : Int) : (failF c e).err = e := by unfold failF; rw [if_pos h.ready]
theorem fail_0 {c : Cu} {r : List UInt8} (h : At c r) : failF c 0 = c := by
  unfold failF
  rw [if_pos h.ready]
  have := h.err
  cases c
  simp only at this
  rw [this]
theorem fail_err {c : Cu} (h : c.err ≠ 0) (e : Int) : failF c e = c := by unfold failF; rw [if_neg (by unfold readyB; simpa using h)]
theorem need_at {c : Cu} {r : List UInt8} (h : At c r) (n : Nat) (hn : n ≤ r.length) : bl (needF c n).1 = r.take n ∧ At (needF c n).2 (r.drop n) := by
  have hc : cutB c (n : Int) = false := by
    unfold cutB
    rw [h.err, h.left]
    simp; omega
  unfold needF
  rw [hc, if_neg Bool.false_ne_true]
  exact take_at h n hn
theorem need_err {c : Cu} (h : c.err ≠ 0) (n : Int) : needF c n = (⟨#[]⟩, c) := by
  unfold needF
  have hc : cutB c n = false := by unfold cutB; rw [if_neg (by simpa using h)]
  rw [hc, if_neg Bool.false_ne_true]
  exact take_err h n
theorem need_sh {c : Cu} {r : List UInt8} (h : At c r) (n : Nat) (hn : r.length < n) : (needF c n).2.err ≠ 0 := by
  have hc : cutB c (n : Int) = true := by
    unfold cutB
    rw [h.err, h.left]
    simp; omega
  unfold needF
  rw [hc, if_pos rfl]
  have h5 : (failF c 5).err = 5 := fail_at h 5
  rw [take_err (by rw [h5]; decide)]
  rw [h5]; decide
theorem need_ok' {c : Cu} {r : List UInt8} (h : At c r) (n : Nat) (he : (needF c n).2.err = 0) : n ≤ r.length := by
  by_cases hn : n ≤ r.length
  · exact hn
  · exact absurd he (need_sh h n (by omega))
theorem take_ok' {c : Cu} {r : List UInt8} (h : At c r) (n : Nat) (he : (takeF c n).2.err = 0) : n ≤ r.length := by
  by_cases hn : n ≤ r.length
  · exact hn
  · rw [take_sh h n (by omega)] at he; cases he
theorem getF_bl {s : ByteArray} {l : List UInt8} (h : bl s = l) : getF s = getL l := by unfold getF; rw [← h]; rfl
theorem u8_num (b : UInt8) : UInt8.ofNat ((b.toNat : Int)).toNat = b := by simp
theorem bl_be1 {n : Int} (h0 : 0 ≤ n) (h1 : n < 256) : (bl (be1 n)).length = 1 ∧ getL (bl (be1 n)) = n := by
  refine ⟨rfl, ?_⟩
  obtain ⟨m, rfl⟩ := Int.eq_ofNat_of_zero_le h0
  have e : ((m : Int) % 256).toNat = m := by omega
  simp [bl, be1, strOfNums, getL, e]
  omega
theorem be1_get (x : UInt8) : bl (be1 (getL [x])) = [x] := by
  have hx := x.toNat_lt
  have e : ((x.toNat : Int) % 256).toNat = x.toNat := by omega
  simp [bl, be1, strOfNums, getL, e]
theorem bl_be2 {n : Int} (h0 : 0 ≤ n) (h1 : n < 65536) : (bl (be2 n)).length = 2 ∧ getL (bl (be2 n)) = n := by
  refine ⟨rfl, ?_⟩
  obtain ⟨m, rfl⟩ := Int.eq_ofNat_of_zero_le h0
  have e1 : ((m : Int) / 256 % 256).toNat = m / 256 := by omega
  have e2 : ((m : Int) % 256).toNat = m % 256 := by omega
  simp [bl, be2, strOfNums, getL, e1, e2]
  omega
theorem be2_get (x y : UInt8) : bl (be2 (getL [x, y])) = [x, y] := by
  have hx := x.toNat_lt
  have hy := y.toNat_lt
  have e1 : (((x.toNat : Int) * 256 + (y.toNat : Int)) / 256 % 256).toNat = x.toNat := by omega
  have e2 : (((x.toNat : Int) * 256 + (y.toNat : Int)) % 256).toNat = y.toNat := by omega
  simp only [bl, be2, strOfNums, getL, List.foldl_cons, List.foldl_nil, Int.zero_mul, Int.zero_add, List.map_cons, List.map_nil, e1, e2]
  simp
theorem bl_be4 {n : Int} (h0 : 0 ≤ n) (h1 : n < 4294967296) : (bl (be4 n)).length = 4 ∧ getL (bl (be4 n)) = n := by
  refine ⟨rfl, ?_⟩
  obtain ⟨m, rfl⟩ := Int.eq_ofNat_of_zero_le h0
  have e1 : ((m : Int) / 16777216 % 256).toNat = m / 16777216 := by omega
  have e2 : ((m : Int) / 65536 % 256).toNat = m / 65536 % 256 := by omega
  have e3 : ((m : Int) / 256 % 256).toNat = m / 256 % 256 := by omega
  have e4 : ((m : Int) % 256).toNat = m % 256 := by omega
  simp [bl, be4, strOfNums, getL, e1, e2, e3, e4]
  omega
theorem be4_get (x y z u : UInt8) : bl (be4 (getL [x, y, z, u])) = [x, y, z, u] := by
  have hx := x.toNat_lt
  have hy := y.toNat_lt
  have hz := z.toNat_lt
  have hu := u.toNat_lt
  have e1 : (((((x.toNat : Int) * 256 + (y.toNat : Int)) * 256 + (z.toNat : Int)) * 256 + (u.toNat : Int)) / 16777216 % 256).toNat = x.toNat := by omega
  have e2 : (((((x.toNat : Int) * 256 + (y.toNat : Int)) * 256 + (z.toNat : Int)) * 256 + (u.toNat : Int)) / 65536 % 256).toNat = y.toNat := by omega
  have e3 : (((((x.toNat : Int) * 256 + (y.toNat : Int)) * 256 + (z.toNat : Int)) * 256 + (u.toNat : Int)) / 256 % 256).toNat = z.toNat := by omega
  have e4 : (((((x.toNat : Int) * 256 + (y.toNat : Int)) * 256 + (z.toNat : Int)) * 256 + (u.toNat : Int)) % 256).toNat = u.toNat := by omega
  simp only [bl, be4, strOfNums, getL, List.foldl_cons, List.foldl_nil, Int.zero_mul, Int.zero_add, List.map_cons, List.map_nil, e1, e2, e3, e4]
  simp
theorem take1 {r : List UInt8} (h : 1 ≤ r.length) : ∃ x t, r = x :: t := by
  match r, h with
  | x :: t, _ => exact ⟨x, t, rfl⟩
theorem take2 {r : List UInt8} (h : 2 ≤ r.length) : ∃ x y t, r = x :: y :: t := by
  match r, h with
  | x :: y :: t, _ => exact ⟨x, y, t, rfl⟩
theorem take4 {r : List UInt8} (h : 4 ≤ r.length) : ∃ x y z u t, r = x :: y :: z :: u :: t := by
  match r, h with
  | x :: y :: z :: u :: t, _ => exact ⟨x, y, z, u, t, rfl⟩
end Go.Proofs.YtjlkhihlbdokpaaGreat
/- Variable byte integers in plain Lean: both ways. -/
namespace Go.Proofs.YtjlkhihlbdokpaaGreat
open Go.RowKit
set_option maxHeartbeats 2000000
set_option linter.unusedVariables false
set_option linter.unusedSimpArgs false
def viB (f : Nat) (n : Int) : List UInt8 := bl (strOfNums (viL f n))
theorem viB_small (f : Nat) {n : Int} (h0 : 0 ≤ n) (h : n < 128) : viB f n = [UInt8.ofNat n.toNat] := by
  cases f with
  | zero => rfl
  | succ f => rw [viB, viL, if_neg (by omega)]; rfl
theorem viB_big (f : Nat) {n : Int} (h : 128 ≤ n) : viB (f + 1) n = UInt8.ofNat (n % 128 + 128).toNat :: viB f (n / 128) := by
  rw [viB, viL, if_pos h]; rfl
theorem viB_pos (f : Nat) (n : Int) : 1 ≤ (viB f n).length := by
  cases f with
  | zero => exact Nat.le_refl 1
  | succ f =>
    unfold viB viL
    split
    · simp [bl_nums]
    · exact Nat.le_refl 1
theorem drop_cons {s : ByteArray} {k : Nat} {x : UInt8} {t : List UInt8} (h : (bl s).drop k = x :: t) : ∃ hk : k < s.size, s[k]'hk = x ∧ (bl s).drop (k + 1) = t := by
  have hk : k < (bl s).length := by
    by_cases hk : k < (bl s).length
    · exact hk
    · rw [List.drop_eq_nil_of_le (by omega)] at h; cases h
  rw [List.drop_eq_getElem_cons hk] at h
  injection h with h1 h2
  exact ⟨by rw [← bl_len]; exact hk, h1, h2⟩
theorem pow128 (k : Nat) : (0 : Int) < 128 ^ k := Int.pow_pos (by decide)
/-- What was written is read. -/
theorem vi_read : ∀ (f : Nat) (s : ByteArray) (k : Nat) (z n : Int) (rest : List UInt8), f + k = 3 → 0 ≤ n → n < viCap f → (1 ≤ k → 1 ≤ n) → (bl s).drop k = viB f n ++ rest →
    viGo (f + 1) s k z = (z + n * 128 ^ k, ((k + (viB f n).length : Nat) : Int), 0) := by
  intro f
  induction f with
  | zero =>
    intro s k z n rest hfk h0 h1 hk hd
    have h128 : n < 128 := h1
    rw [viB_small 0 h0 h128] at hd ⊢
    obtain ⟨hlt, hx, -⟩ := drop_cons hd
    have e : ((UInt8.ofNat n.toNat).toNat : Int) = n := by simp; omega
    have hp : pushR k z n = (true, 0, ⟨z + n % 128 * 128 ^ k, (k : Int) + 1, true, false⟩) := by
      unfold pushR
      rw [if_neg (by simp; omega), if_neg (by have := hk; simp; omega)]
    rw [viGo_step hlt (by rw [hx]; exact e) hp, if_pos rfl, if_pos rfl]
    rw [show n % 128 = n by omega]
    rfl
  | succ f ih =>
    intro s k z n rest hfk h0 h1 hk hd
    by_cases h : 128 ≤ n
    · rw [viB_big f h] at hd ⊢
      obtain ⟨hlt, hx, hd2⟩ := drop_cons hd
      have e : ((UInt8.ofNat (n % 128 + 128).toNat).toNat : Int) = n % 128 + 128 := by simp; omega
      have hp : pushR k z (n % 128 + 128) = (false, 0, ⟨z + (n % 128 + 128) % 128 * 128 ^ k, (k : Int) + 1, false, k == 3⟩) := by
        unfold pushR
        rw [if_pos (by simp; omega), show (k == 3) = false by simp; omega]
        rfl
      have hcap : n / 128 < viCap f := by have : viCap (f + 1) = viCap f * 128 := rfl; omega
      rw [viGo_step hlt (by rw [hx]; exact e) hp, if_pos rfl, if_neg Bool.false_ne_true]
      simp only []
      rw [ih s (k + 1) _ (n / 128) rest (by omega) (by omega) hcap (by omega) hd2]
      have ee : z + (n % 128 + 128) % 128 * 128 ^ k + n / 128 * 128 ^ (k + 1) = z + n * 128 ^ k := by
        rw [show (n % 128 + 128) % 128 = n % 128 by omega, Int.pow_succ]
        have := Int.emod_add_mul_ediv n 128
        have h2 : n * 128 ^ k = (n % 128 + 128 * (n / 128)) * 128 ^ k := by rw [this]
        rw [h2, Int.add_mul, Int.mul_assoc 128, Int.mul_comm 128, Int.mul_assoc, Int.add_assoc]
      rw [ee, List.length_cons]
      congr 3
      omega
    · have h128 : n < 128 := by omega
      rw [viB_small (f + 1) h0 h128] at hd ⊢
      obtain ⟨hlt, hx, -⟩ := drop_cons hd
      have e : ((UInt8.ofNat n.toNat).toNat : Int) = n := by simp; omega
      have hp : pushR k z n = (true, 0, ⟨z + n % 128 * 128 ^ k, (k : Int) + 1, true, false⟩) := by
        unfold pushR
        rw [if_neg (by simp; omega), if_neg (by have := hk; simp; omega)]
      rw [viGo_step hlt (by rw [hx]; exact e) hp, if_pos rfl, if_pos rfl]
      rw [show n % 128 = n by omega]
      rfl
/-- What was read is what is written. -/
theorem vi_wrote : ∀ (f : Nat) (s : ByteArray) (k : Nat) (z n size : Int), f + k = 3 → viGo (f + 1) s k z = (n, size, 0) →
    ∃ m : Int, n = z + m * 128 ^ k ∧ 0 ≤ m ∧ m < viCap f ∧ (1 ≤ k → 1 ≤ m) ∧ ∃ rest, (bl s).drop k = viB f m ++ rest ∧ size = ((k + (viB f m).length : Nat) : Int) := by
  intro f
  induction f with
  | zero =>
    intro s k z n size hfk hgo
    by_cases hlt : k < s.size
    · obtain ⟨x, hx⟩ : ∃ x, s[k]'hlt = x := ⟨_, rfl⟩
      have hx0 := x.toNat_lt
      have hd : (bl s).drop k = x :: (bl s).drop (k + 1) := by
        rw [List.drop_eq_getElem_cons (by rw [bl_len]; exact hlt)]
        congr 1
      obtain ⟨d, e, r, hp⟩ : ∃ d e r, pushR k z (x.toNat : Int) = (d, e, r) := ⟨_, _, _, rfl⟩
      rw [viGo_step hlt (by rw [hx]) hp] at hgo
      unfold pushR at hp
      split at hp
      · rw [show (k == 3) = true by simp; omega] at hp
        simp only [if_true, Prod.mk.injEq] at hp
        rw [if_neg (by rw [← hp.2.1]; decide)] at hgo
        simp only [Prod.mk.injEq] at hgo
        rw [← hp.2.1] at hgo
        exact absurd hgo.2.2 (by decide)
      · split at hp
        · simp only [Prod.mk.injEq] at hp
          rw [if_neg (by rw [← hp.2.1]; decide)] at hgo
          simp only [Prod.mk.injEq] at hgo
          rw [← hp.2.1] at hgo
          exact absurd hgo.2.2 (by decide)
        · rename_i hb hz
          simp only [Prod.mk.injEq] at hp
          rw [if_pos hp.2.1.symm, if_pos hp.1.symm, ← hp.2.2] at hgo
          simp only [Prod.mk.injEq] at hgo
          have hb' : (x.toNat : Int) < 128 := by simpa using hb
          refine ⟨(x.toNat : Int), ?_, by omega, hb', ?_, (bl s).drop (k + 1), ?_, ?_⟩
          · rw [← hgo.1, show (x.toNat : Int) % 128 = (x.toNat : Int) by omega]
          · intro hk1
            simp only [Bool.and_eq_true, decide_eq_true_eq, not_and] at hz
            by_cases h0 : (x.toNat : Int) = 0
            · exact absurd hk1 (hz h0)
            · omega
          · rw [viB_small 0 (by omega) hb', hd]; simp
          · rw [viB_small 0 (by omega) hb', ← hgo.2.1]; rfl
    · rw [viGo_end hlt] at hgo
      simp only [Prod.mk.injEq] at hgo
      exact absurd hgo.2.2 (by decide)
  | succ f ih =>
    intro s k z n size hfk hgo
    by_cases hlt : k < s.size
    · obtain ⟨x, hx⟩ : ∃ x, s[k]'hlt = x := ⟨_, rfl⟩
      have hx0 := x.toNat_lt
      have hd : (bl s).drop k = x :: (bl s).drop (k + 1) := by
        rw [List.drop_eq_getElem_cons (by rw [bl_len]; exact hlt)]
        congr 1
      obtain ⟨d, e, r, hp⟩ : ∃ d e r, pushR k z (x.toNat : Int) = (d, e, r) := ⟨_, _, _, rfl⟩
      rw [viGo_step hlt (by rw [hx]) hp] at hgo
      unfold pushR at hp
      split at hp
      · rename_i hb
        have hb' : (128 : Int) ≤ (x.toNat : Int) := by simpa using hb
        rw [show (k == 3) = false by simp; omega] at hp
        simp only [if_false, Bool.false_eq_true, Prod.mk.injEq] at hp
        rw [if_pos hp.2.1.symm, if_neg (by rw [← hp.1]; decide), ← hp.2.2] at hgo
        simp only [] at hgo
        obtain ⟨m, h1, h2, h3, h4, rest, h5, h6⟩ := ih s (k + 1) _ n size (by omega) hgo
        have hm1 := h4 (by omega)
        have hcap : viCap (f + 1) = viCap f * 128 := rfl
        refine ⟨(x.toNat : Int) % 128 + m * 128, ?_, by omega, by omega, by omega, rest, ?_, ?_⟩
        · rw [h1, Int.pow_succ, Int.add_mul, Int.mul_assoc m, Int.mul_comm (128 ^ k) 128, Int.add_assoc]
        · have hbig : 128 ≤ (x.toNat : Int) % 128 + m * 128 := by omega
          rw [viB_big f hbig, hd, h5, show ((x.toNat : Int) % 128 + m * 128) / 128 = m by omega, show (((x.toNat : Int) % 128 + m * 128) % 128 + 128).toNat = x.toNat by omega]
          simp
        · have hbig : 128 ≤ (x.toNat : Int) % 128 + m * 128 := by omega
          rw [viB_big f hbig, h6, show ((x.toNat : Int) % 128 + m * 128) / 128 = m by omega, List.length_cons]
          congr 1; omega
      · split at hp
        · simp only [Prod.mk.injEq] at hp
          rw [if_neg (by rw [← hp.2.1]; decide)] at hgo
          simp only [Prod.mk.injEq] at hgo
          rw [← hp.2.1] at hgo
          exact absurd hgo.2.2 (by decide)
        · rename_i hb hz
          simp only [Prod.mk.injEq] at hp
          rw [if_pos hp.2.1.symm, if_pos hp.1.symm, ← hp.2.2] at hgo
          simp only [Prod.mk.injEq] at hgo
          have hb' : (x.toNat : Int) < 128 := by simpa using hb
          have hcap : (128 : Int) ≤ viCap (f + 1) := by
            have : ∀ g, (128 : Int) ≤ viCap g := by intro g; induction g with
              | zero => exact Int.le_refl _
              | succ g ig => rw [viCap]; omega
            exact this _
          refine ⟨(x.toNat : Int), ?_, by omega, by omega, ?_, (bl s).drop (k + 1), ?_, ?_⟩
          · rw [← hgo.1, show (x.toNat : Int) % 128 = (x.toNat : Int) by omega]
          · intro hk1
            simp only [Bool.and_eq_true, decide_eq_true_eq, not_and] at hz
            by_cases h0 : (x.toNat : Int) = 0
            · exact absurd hk1 (hz h0)
            · omega
          · rw [viB_small (f + 1) (by omega) hb', hd]; simp
          · rw [viB_small (f + 1) (by omega) hb', ← hgo.2.1]; rfl
    · rw [viGo_end hlt] at hgo
      simp only [Prod.mk.injEq] at hgo
      exact absurd hgo.2.2 (by decide)
theorem viS_bl (n : Int) : bl (viS n) = viB 3 n := rfl
theorem viRead_viS {s : ByteArray} {n : Int} {rest : List UInt8} (h0 : 0 ≤ n) (h1 : n ≤ 268435455) (h : bl s = bl (viS n) ++ rest) : viRead s = (n, ((bl (viS n)).length : Int), 0) := by
  have := vi_read 3 s 0 0 n rest rfl h0 (show n < 268435456 by omega) (by omega) (by rw [List.drop_zero]; exact h)
  unfold viRead
  rw [this, Int.pow_zero, Int.mul_one, Int.zero_add, Nat.zero_add]
  rfl
theorem viS_viRead {s : ByteArray} {n size : Int} (h : viRead s = (n, size, 0)) : 0 ≤ n ∧ n ≤ 268435455 ∧ ∃ rest, bl s = bl (viS n) ++ rest ∧ size = ((bl (viS n)).length : Int) := by
  obtain ⟨m, h1, h2, h3, -, rest, h5, h6⟩ := vi_wrote 3 s 0 0 n size rfl h
  rw [Int.pow_zero, Int.mul_one, Int.zero_add] at h1
  subst h1
  have h3' : n < 268435456 := h3
  exact ⟨h2, by omega, rest, by rw [List.drop_zero] at h5; exact h5, by rw [h6, Nat.zero_add]; rfl⟩
end Go.Proofs.YtjlkhihlbdokpaaGreat
/- Properties in plain Lean: both ways. -/
namespace Go.Proofs.YtjlkhihlbdokpaaGreat
open Go.RowKit
set_option maxHeartbeats 2000000
set_option linter.unusedVariables false
set_option linter.unusedSimpArgs false
theorem bl_rest {c : Cu} {r : List UInt8} (h : At c r) : bl (restF c) = r := by
  unfold restF
  rw [bl_extract, ← h.rm, Rm]
  apply List.take_of_length_le
  rw [List.length_drop, bl_len]; omega
theorem bl_framed (t : ByteArray) : bl (framedS t) = bl (be2 t.size) ++ bl t := by unfold framedS; rw [bl_app]
theorem num_at {c : Cu} {r : List UInt8} (h : At c r) (k : Nat) (hk : k ≤ r.length) : numN c (k : Int) = getL (r.take k) := getF_bl (need_at h k hk).1
theorem data_at {c : Cu} {t : ByteArray} {rest : List UInt8} (h : At c (bl (framedS t) ++ rest)) (ht : t.size ≤ 65535) : (dataF c).1 = t ∧ At (dataF c).2 rest := by
  rw [bl_framed, List.append_assoc] at h
  obtain ⟨l2, g2⟩ := bl_be2 (n := (t.size : Int)) (by omega) (by omega)
  have hl : 2 ≤ (bl (be2 t.size) ++ (bl t ++ rest)).length := by rw [List.length_append, l2]; omega
  have hn : numN c (2 : Nat) = (t.size : Int) := by rw [num_at h 2 hl, List.take_left' l2, g2]
  have h2 := (need_at h 2 hl).2
  rw [List.drop_left' l2] at h2
  have h3 := need_at h2 t.size (by rw [List.length_append, bl_len]; omega)
  rw [List.take_left' (bl_len t), List.drop_left' (bl_len t)] at h3
  have e : dataF c = needF (needF c (2 : Nat)).2 (numN c (2 : Nat)) := rfl
  rw [e, hn]
  exact ⟨bl_inj h3.1, h3.2⟩
theorem data_back {c : Cu} {r : List UInt8} (h : At c r) (he : (dataF c).2.err = 0) : ∃ rest, r = bl (framedS (dataF c).1) ++ rest ∧ At (dataF c).2 rest := by
  have e : dataF c = needF (needF c (2 : Nat)).2 (numN c (2 : Nat)) := rfl
  rw [e] at he ⊢
  have he1 : (needF c (2 : Nat)).2.err = 0 := by
    by_cases h1 : (needF c (2 : Nat)).2.err = 0
    · exact h1
    · rw [need_err h1] at he; exact absurd he h1
  have hl := need_ok' h 2 he1
  have h2 := (need_at h 2 hl).2
  have hn := num_at h 2 hl
  obtain ⟨x, y, t, rfl⟩ := take2 hl
  have hn' : numN c (2 : Nat) = getL [x, y] := hn
  have h2' : At (needF c (2 : Nat)).2 t := h2
  have hx := x.toNat_lt
  have hy := y.toNat_lt
  obtain ⟨n, hnn⟩ : ∃ n : Nat, getL [x, y] = (n : Int) := ⟨x.toNat * 256 + y.toNat, by simp [getL]⟩
  rw [hn', hnn] at he ⊢
  have hl3 := need_ok' h2' n he
  have h3 := need_at h2' n hl3
  refine ⟨t.drop n, ?_, h3.2⟩
  have hs : (needF (needF c (2 : Nat)).2 (n : Int)).1.size = n := by rw [← bl_len, h3.1, List.length_take]; omega
  rw [bl_framed, hs, h3.1, ← hnn, be2_get]
  simp
theorem written_at {c : Cu} {t : ByteArray} {rest : List UInt8} (h : At c (bl (framedS t) ++ rest)) (hv : validU t = true) : (writtenF c).1 = t ∧ At (writtenF c).2 rest := by
  have ht : t.size ≤ 65535 := by unfold validU at hv; simp only [Bool.and_eq_true, decide_eq_true_eq] at hv; exact hv.1
  obtain ⟨h1, h2⟩ := data_at h ht
  unfold writtenF
  rw [h1, if_pos hv]
  exact ⟨rfl, h2⟩
theorem written_back {c : Cu} {r : List UInt8} (h : At c r) (he : (writtenF c).2.err = 0) : validU (writtenF c).1 = true ∧ ∃ rest, r = bl (framedS (writtenF c).1) ++ rest ∧ At (writtenF c).2 rest := by
  have e1 : (writtenF c).1 = (dataF c).1 := rfl
  have e2 : (writtenF c).2 = if validU (dataF c).1 = true then (dataF c).2 else failF (dataF c).2 6 := rfl
  rw [e2] at he
  by_cases hv : validU (dataF c).1 = true
  · rw [if_pos hv] at he
    obtain ⟨rest, h1, h2⟩ := data_back h he
    exact ⟨by rw [e1]; exact hv, rest, by rw [e1]; exact h1, by rw [e2, if_pos hv]; exact h2⟩
  · rw [if_neg hv] at he
    exfalso
    unfold failF at he
    split at he
    · cases he
    · rename_i hr
      exact hr (by unfold readyB; rw [he]; rfl)
theorem vary_at {c : Cu} {n : Int} {rest : List UInt8} (h : At c (bl (viS n) ++ rest)) (h0 : 0 ≤ n) (h1 : n ≤ 268435455) : varyN c = n ∧ At (varyC c) rest := by
  have hr := viRead_viS h0 h1 (bl_rest h)
  unfold varyN varyC
  rw [hr]
  refine ⟨rfl, ?_⟩
  have h3 := (take_at h (bl (viS n)).length (by rw [List.length_append]; omega)).2
  rw [List.drop_left' rfl] at h3
  exact h3
theorem vary_back {c : Cu} {r : List UInt8} (h : At c r) (he : (varyC c).err = 0) : 0 ≤ varyN c ∧ varyN c ≤ 268435455 ∧ ∃ rest, r = bl (viS (varyN c)) ++ rest ∧ At (varyC c) rest := by
  obtain ⟨⟨n, size, e⟩, hr⟩ : ∃ q, viRead (restF c) = q := ⟨_, rfl⟩
  unfold varyC at he
  rw [hr] at he
  by_cases hz : e = 0
  · subst hz
    obtain ⟨a, b, rest, h1, h2⟩ := viS_viRead hr
    rw [bl_rest h] at h1
    have hn : varyN c = n := by unfold varyN; rw [hr]
    rw [hn]
    refine ⟨a, b, rest, h1, ?_⟩
    subst h1
    have h3 := (vary_at h a b).2
    exact h3
  · exfalso
    have hf : (failF c 5).err = 5 := fail_at h 5
    rw [if_pos (by simpa using hz), take_err (by rw [hf]; decide), hf] at he
    cases he
def mt : ByteArray := ⟨#[]⟩
/-- What a property's value must be, so that it can be written in a shape. -/
def Good (sh : Int) (p : Prp) : Prop :=
  (sh = 1 ∧ p.text = mt ∧ p.value = mt ∧ 0 ≤ p.n ∧ p.n < 256) ∨ (sh = 2 ∧ p.text = mt ∧ p.value = mt ∧ 0 ≤ p.n ∧ p.n < 65536) ∨
  (sh = 3 ∧ p.text = mt ∧ p.value = mt ∧ 0 ≤ p.n ∧ p.n < 4294967296) ∨ (sh = 4 ∧ p.text = mt ∧ p.value = mt ∧ 0 ≤ p.n ∧ p.n ≤ 268435455) ∨
  (sh = 5 ∧ p.n = 0 ∧ p.value = mt ∧ validU p.text = true) ∨ (sh = 6 ∧ p.n = 0 ∧ p.value = mt ∧ p.text.size ≤ 65535) ∨
  (sh = 7 ∧ p.n = 0 ∧ validU p.text = true ∧ validU p.value = true)
theorem prp_eq {p q : Prp} (h1 : p.id = q.id) (h2 : p.n = q.n) (h3 : p.text = q.text) (h4 : p.value = q.value) : p = q := by
  cases p; cases q; simp only at h1 h2 h3 h4; subst h1; subst h2; subst h3; subst h4; rfl
theorem value_at {sh : Int} {p : Prp} (hg : Good sh p) {c : Cu} {rest : List UInt8} (h : At c (bl (valueS sh p) ++ rest)) : (readP sh (zeroP p.id) c).1 = p ∧ At (readP sh (zeroP p.id) c).2 rest := by
  rcases hg with ⟨rfl, t1, t2, n0, n1⟩ | ⟨rfl, t1, t2, n0, n1⟩ | ⟨rfl, t1, t2, n0, n1⟩ | ⟨rfl, t1, t2, n0, n1⟩ | ⟨rfl, hn, t2, hv⟩ | ⟨rfl, hn, t2, hv⟩ | ⟨rfl, hn, hv, hv2⟩
  · have h' : At c (bl (be1 p.n) ++ rest) := h
    obtain ⟨l1, g1⟩ := bl_be1 n0 n1
    have hl : 1 ≤ (bl (be1 p.n) ++ rest).length := by rw [List.length_append, l1]; omega
    have hn := num_at h' 1 hl
    have h2 := (need_at h' 1 hl).2
    rw [List.take_left' l1, g1] at hn
    rw [List.drop_left' l1] at h2
    exact ⟨prp_eq rfl hn t1.symm t2.symm, h2⟩
  · have h' : At c (bl (be2 p.n) ++ rest) := h
    obtain ⟨l1, g1⟩ := bl_be2 n0 n1
    have hl : 2 ≤ (bl (be2 p.n) ++ rest).length := by rw [List.length_append, l1]; omega
    have hn := num_at h' 2 hl
    have h2 := (need_at h' 2 hl).2
    rw [List.take_left' l1, g1] at hn
    rw [List.drop_left' l1] at h2
    exact ⟨prp_eq rfl hn t1.symm t2.symm, h2⟩
  · have h' : At c (bl (be4 p.n) ++ rest) := h
    obtain ⟨l1, g1⟩ := bl_be4 n0 n1
    have hl : 4 ≤ (bl (be4 p.n) ++ rest).length := by rw [List.length_append, l1]; omega
    have hn := num_at h' 4 hl
    have h2 := (need_at h' 4 hl).2
    rw [List.take_left' l1, g1] at hn
    rw [List.drop_left' l1] at h2
    exact ⟨prp_eq rfl hn t1.symm t2.symm, h2⟩
  · obtain ⟨a, b⟩ := vary_at (n := p.n) h n0 n1
    exact ⟨prp_eq rfl a t1.symm t2.symm, b⟩
  · obtain ⟨a, b⟩ := written_at (t := p.text) h hv
    exact ⟨prp_eq rfl hn.symm a t2.symm, b⟩
  · obtain ⟨a, b⟩ := data_at (t := p.text) h hv
    exact ⟨prp_eq rfl hn.symm a t2.symm, b⟩
  · have h' : At c (bl (framedS p.text) ++ (bl (framedS p.value) ++ rest)) := by
      rw [← List.append_assoc, ← bl_app]; exact h
    obtain ⟨a, b⟩ := written_at h' hv
    obtain ⟨a2, b2⟩ := written_at b hv2
    exact ⟨prp_eq rfl hn.symm a a2, b2⟩
theorem value_back {sh : Int} (hs : shapeB sh) (id : Int) {c : Cu} {r : List UInt8} (h : At c r) (he : (readP sh (zeroP id) c).2.err = 0) : ∃ rest, r = bl (valueS sh (readP sh (zeroP id) c).1) ++ rest ∧ At (readP sh (zeroP id) c).2 rest := by
  rcases hs with rfl | rfl | rfl | rfl | rfl | rfl | rfl
  · have he' : (needF c (1 : Nat)).2.err = 0 := he
    have hl := need_ok' h 1 he'
    have hn := num_at h 1 hl
    have h2 := (need_at h 1 hl).2
    obtain ⟨x, t, rfl⟩ := take1 hl
    refine ⟨t, ?_, h2⟩
    show _ = bl (be1 (numN c (1 : Nat))) ++ t
    rw [hn]; show _ = bl (be1 (getL [x])) ++ t
    rw [be1_get]; rfl
  · have he' : (needF c (2 : Nat)).2.err = 0 := he
    have hl := need_ok' h 2 he'
    have hn := num_at h 2 hl
    have h2 := (need_at h 2 hl).2
    obtain ⟨x, y, t, rfl⟩ := take2 hl
    refine ⟨t, ?_, h2⟩
    show _ = bl (be2 (numN c (2 : Nat))) ++ t
    rw [hn]; show _ = bl (be2 (getL [x, y])) ++ t
    rw [be2_get]; rfl
  · have he' : (needF c (4 : Nat)).2.err = 0 := he
    have hl := need_ok' h 4 he'
    have hn := num_at h 4 hl
    have h2 := (need_at h 4 hl).2
    obtain ⟨x, y, z, u, t, rfl⟩ := take4 hl
    refine ⟨t, ?_, h2⟩
    show _ = bl (be4 (numN c (4 : Nat))) ++ t
    rw [hn]; show _ = bl (be4 (getL [x, y, z, u])) ++ t
    rw [be4_get]; rfl
  · obtain ⟨-, -, rest, h1, h2⟩ := vary_back h he
    exact ⟨rest, h1, h2⟩
  · obtain ⟨-, rest, h1, h2⟩ := written_back h he
    exact ⟨rest, h1, h2⟩
  · obtain ⟨rest, h1, h2⟩ := data_back h he
    exact ⟨rest, h1, h2⟩
  · have he' : (writtenF (writtenF c).2).2.err = 0 := he
    have he1 : (writtenF c).2.err = 0 := by
      by_cases h1 : (writtenF c).2.err = 0
      · exact h1
      · exfalso
        have e : dataF (writtenF c).2 = (⟨#[]⟩, (writtenF c).2) := by
          have e0 : dataF (writtenF c).2 = needF (needF (writtenF c).2 2).2 (numN (writtenF c).2 2) := rfl
          rw [e0, need_err h1]
          exact need_err h1 _
        have e2 : (writtenF (writtenF c).2).2 = if validU (dataF (writtenF c).2).1 = true then (dataF (writtenF c).2).2 else failF (dataF (writtenF c).2).2 6 := rfl
        rw [e2, e] at he'
        split at he'
        · exact h1 he'
        · rw [fail_err h1] at he'; exact h1 he'
    obtain ⟨-, rest1, h1, h2⟩ := written_back h he1
    obtain ⟨-, rest2, h3, h4⟩ := written_back h2 he'
    refine ⟨rest2, ?_, h4⟩
    show _ = bl (framedS _ ++ framedS _) ++ rest2
    rw [bl_app, h1, h3, List.append_assoc]
    rfl
theorem ruleL_most : ∀ p ∈ ruleL, (p.2.shape = 1 → p.2.most ≤ 255) ∧ (p.2.shape = 2 → p.2.most ≤ 65535) := by
  simp only [ruleL, List.forall_mem_cons, List.not_mem_nil, false_implies, implies_true, and_true]
  repeat' apply And.intro
  all_goals (first | decide | simp)
theorem rule_most {id kind : Int} (h : hasK (ruleOf id) kind = true) : ((ruleOf id).shape = 1 → (ruleOf id).most ≤ 255) ∧ ((ruleOf id).shape = 2 → (ruleOf id).most ≤ 65535) := by
  unfold ruleOf at h ⊢
  cases hr : ruleIn id ruleL with
  | none => rw [hr] at h; simp only [Option.getD_none] at h; rw [hasK_zero] at h; cases h
  | some r =>
    obtain ⟨p, hp, h1, rfl⟩ := ruleIn_mem id ruleL r hr
    exact ruleL_most p hp
theorem nil_mt {s : ByteArray} (h : s.toList = []) : s = mt := by
  rw [ByteArray.toList_eq] at h
  exact bl_inj h
theorem good_of {kind : Int} {p : Prp} (h : checkC (ruleOf p.id) kind p = 0) (hp : PrpOK p) : Good (ruleOf p.id).shape p := by
  have hk : hasK (ruleOf p.id) kind = true := by
    unfold checkC at h
    split at h
    · rename_i hk; exact hk
    · cases h
  obtain ⟨a, b, c, d, e⟩ := hasK_ok hk
  obtain ⟨m1, m2⟩ := rule_most hk
  unfold checkC at h
  rw [if_pos hk] at h
  by_cases h4 : (ruleOf p.id).shape ≤ 4
  · rw [if_pos h4] at h
    unfold chknF at h
    split at h
    · rename_i ht
      split at h
      · cases h
      · rename_i hv
        split at h
        · cases h
        · split at h
          · cases h
          · rename_i hle hmo
            have t1 := nil_mt ht
            have t2 : p.value = mt := nil_mt (by simpa using hv)
            obtain ⟨p1, p2, -, -⟩ := hp
            rcases (show (ruleOf p.id).shape = 1 ∨ (ruleOf p.id).shape = 2 ∨ (ruleOf p.id).shape = 3 ∨ (ruleOf p.id).shape = 4 by omega) with q | q | q | q
            · exact .inl ⟨q, t1, t2, p1, by have := m1 q; omega⟩
            · exact .inr (.inl ⟨q, t1, t2, p1, by have := m2 q; omega⟩)
            · exact .inr (.inr (.inl ⟨q, t1, t2, p1, p2⟩))
            · exact .inr (.inr (.inr (.inl ⟨q, t1, t2, p1, by have := e q; omega⟩)))
    · cases h
  · rw [if_neg h4] at h
    split at h
    · rename_i hn
      split at h
      · cases h
      · rename_i hv
        have hv' : (ruleOf p.id).shape ≠ 7 → p.value = mt := by
          intro h7
          apply nil_mt
          by_cases hq : p.value.toList = []
          · exact hq
          · exact absurd ⟨by simpa using hq, h7⟩ hv
        split at h
        · rename_i h6
          split at h
          · rename_i hs
            exact .inr (.inr (.inr (.inr (.inr (.inl ⟨h6, hn, hv' (by omega), hs⟩)))))
          · cases h
        · rename_i h6
          split at h
          · rename_i hvt
            split at h
            · rename_i hvv
              rcases (show (ruleOf p.id).shape = 5 ∨ (ruleOf p.id).shape = 7 by omega) with q | q
              · exact .inr (.inr (.inr (.inr (.inl ⟨q, hn, hv' (by omega), hvt⟩))))
              · exact .inr (.inr (.inr (.inr (.inr (.inr ⟨q, hn, hvt, hvv⟩)))))
            · cases h
          · cases h
    · cases h
end Go.Proofs.YtjlkhihlbdokpaaGreat
/- Lists of properties in plain Lean: both ways. -/
namespace Go.Proofs.YtjlkhihlbdokpaaGreat
open Go.RowKit
set_option maxHeartbeats 2000000
set_option linter.unusedVariables false
set_option linter.unusedSimpArgs false
/-- What a list's bytes are, without their number. -/
def bodyL : List Prp → List UInt8
  | [] => []
  | p :: t => UInt8.ofNat p.id.toNat :: bl (valueS (ruleOf p.id).shape p) ++ bodyL t
/-- A list that can be written, from some counts on. -/
def okL (kind : Int) : List Prp → (Nat → Int) → Prop
  | [], f => loneB f = false
  | p :: t, f => checkC (ruleOf p.id) kind p = 0 ∧ againB kind p.id (f p.id.toNat) = false ∧ okL kind t (updF f p.id.toNat)
theorem bl_bytesN (s : ByteArray) : (bytesN s).map (fun n => UInt8.ofNat n.toNat) = bl s := by
  unfold bytesN bl
  rw [List.map_map]
  conv => rhs; rw [← List.map_id s.data.toList]
  apply List.map_congr_left
  intro x _
  simp
theorem go_ok {kind : Int} : ∀ (l : List Prp) (f : Nat → Int) (out : List Int), okL kind l f → ∃ o : List Int, o.map (fun n => UInt8.ofNat n.toNat) = bodyL l ∧ bytesGo kind l f out = (viS (out ++ o).length ++ strOfNums (out ++ o), 0)
  | [], f, out, h => ⟨[], rfl, by rw [bytesGo, if_neg (by rw [show loneB f = false from h]; decide), List.append_nil]⟩
  | p :: t, f, out, ⟨h1, h2, h3⟩ => by
    obtain ⟨o, ho, hg⟩ := go_ok t (updF f p.id.toNat) ((out ++ [p.id]) ++ bytesN (valueS (ruleOf p.id).shape p)) h3
    refine ⟨p.id :: (bytesN (valueS (ruleOf p.id).shape p) ++ o), ?_, ?_⟩
    · rw [List.map_cons, List.map_append, ho, bl_bytesN]; rfl
    · rw [bytesGo, if_pos h1, if_neg (by rw [h2]; decide)]
      have e : out ++ p.id :: (bytesN (valueS (ruleOf p.id).shape p) ++ o) = (out ++ [p.id] ++ bytesN (valueS (ruleOf p.id).shape p)) ++ o := by simp
      rw [e]
      exact hg
theorem go_back {kind : Int} : ∀ (l : List Prp) (f : Nat → Int) (out : List Int), (bytesGo kind l f out).2 = 0 → okL kind l f
  | [], f, out, h => by
    rw [bytesGo] at h
    split at h
    · cases h
    · rename_i hl; simpa [okL] using hl
  | p :: t, f, out, h => by
    rw [bytesGo] at h
    split at h
    · rename_i h1
      split at h
      · cases h
      · rename_i h2
        exact ⟨h1, by simpa using h2, go_back t _ _ h⟩
    · rename_i h1; exact absurd h h1
theorem valueS_le {p : Prp} {kind : Int} (h : checkC (ruleOf p.id) kind p = 0) : (bl (valueS (ruleOf p.id).shape p)).length ≤ 131074 := by rw [bl_len]; exact valueS_size h
theorem bodyL_len {kind : Int} : ∀ (l : List Prp) (f : Nat → Int), okL kind l f → (bodyL l).length ≤ l.length * 131075
  | [], f, h => by simp [bodyL]
  | p :: t, f, ⟨h1, h2, h3⟩ => by
    have := bodyL_len t _ h3
    have h4 := valueS_le h1
    simp only [bodyL, List.length_append, List.length_cons]
    omega
/-- A list that is written: its bytes. -/
theorem bytesF_ok {kind : Int} {l : List Prp} (h : (bytesF kind l).2 = 0) : l.length ≤ 1000 ∧ okL kind l (fun _ => 0) ∧ bl (bytesF kind l).1 = bl (viS (bodyL l).length) ++ bodyL l := by
  unfold bytesF at h ⊢
  split at h
  · rename_i hl
    have hk := go_back _ _ _ h
    obtain ⟨o, ho, hg⟩ := go_ok l (fun _ => 0) [] hk
    refine ⟨hl, hk, ?_⟩
    rw [if_pos hl, hg, List.nil_append, bl_app, bl_nums, ho, ← ho, List.length_map]
  · cases h
theorem bytesF_is {kind : Int} {l : List Prp} (hl : l.length ≤ 1000) (hk : okL kind l (fun _ => 0)) : (bytesF kind l).2 = 0 := by
  unfold bytesF
  rw [if_pos hl]
  obtain ⟨o, ho, hg⟩ := go_ok l (fun _ => 0) [] hk
  rw [hg]
theorem has_of {kind : Int} {p : Prp} (h : checkC (ruleOf p.id) kind p = 0) : hasK (ruleOf p.id) kind = true := by
  unfold checkC at h
  split at h
  · rename_i hk; exact hk
  · cases h
theorem id_byte {p : Prp} (h0 : 0 ≤ p.id) (h1 : p.id < 64) : getL [UInt8.ofNat p.id.toNat] = p.id := by
  simp [getL]; omega
/-- What is written is read. -/
theorem list_read {kind : Int} : ∀ (l : List Prp) (m : Nat) (c : Cu) (f : Nat → Int) (out : List Prp), okL kind l f → (∀ p ∈ l, PrpOK p) → At c (bodyL l) → l.length < m → out.length + l.length ≤ 1000 → listGo m kind c f out = (out ++ l, 0)
  | [], m, c, f, out, h, hp, hc, hm, hn => by
    obtain ⟨m, rfl⟩ : ∃ k, m = k + 1 := ⟨m - 1, by simp at hm; omega⟩
    have hl : leftF c = 0 := by rw [hc.left]; rfl
    rw [listGo, hl, if_neg (by decide), if_neg (by rw [show loneB f = false from h]; decide), List.append_nil]
  | p :: t, m, c, f, out, ⟨h1, h2, h3⟩, hp, hc, hm, hn => by
    simp only [List.length_cons] at hm hn
    obtain ⟨m, rfl⟩ : ∃ k, m = k + 1 := ⟨m - 1, by omega⟩
    have hk := has_of h1
    obtain ⟨hsh, i0, i1⟩ := shape_has hk
    have hb : bodyL (p :: t) = UInt8.ofNat p.id.toNat :: (bl (valueS (ruleOf p.id).shape p) ++ bodyL t) := rfl
    rw [hb] at hc
    have hl : leftF c = ((bl (valueS (ruleOf p.id).shape p) ++ bodyL t).length + 1 : Nat) := by rw [hc.left]; rfl
    have ht := take_at hc 1 (by simp)
    have hnum : numF c (1 : Nat) = p.id := by
      unfold numF
      rw [getF_bl ht.1]
      exact id_byte i0 i1
    have hnum' : numF c 1 = p.id := hnum
    have ha : At (takeF c 1).2 (bl (valueS (ruleOf p.id).shape p) ++ bodyL t) := ht.2
    obtain ⟨hv, hat⟩ := value_at (good_of h1 (hp p (by simp))) ha
    rw [listGo, hl, if_pos (by simp; omega), hnum', if_pos hk]
    simp only []
    rw [hv, if_pos hat.err, if_pos h1, if_neg (by rw [h2]; decide), if_neg (by omega)]
    rw [list_read t m _ _ (out ++ [p]) h3 (fun q hq => hp q (by simp [hq])) hat (by omega) (by simp; omega)]
    simp
/-- What was read is what is written. -/
theorem list_back {kind : Int} : ∀ (m : Nat) (c : Cu) (f : Nat → Int) (out res : List Prp) (r : List UInt8), At c r → out.length ≤ 1000 → listGo m kind c f out = (res, 0) → ∃ l, res = out ++ l ∧ okL kind l f ∧ bodyL l = r ∧ res.length ≤ 1000
  | 0, c, f, out, res, r, hc, hn, h => by rw [listGo] at h; simp only [Prod.mk.injEq] at h; exact absurd h.2 (by decide)
  | m + 1, c, f, out, res, r, hc, hn, h => by
    rw [listGo] at h
    split at h
    · rename_i hl
      rw [hc.left] at hl
      have hlen : 1 ≤ r.length := by simp at hl; omega
      have ht := take_at hc 1 hlen
      obtain ⟨x, t, rfl⟩ := take1 hlen
      have hnum : numF c (1 : Nat) = (x.toNat : Int) := by
        unfold numF
        rw [getF_bl ht.1]
        simp [getL]
      have hnum' : numF c 1 = (x.toNat : Int) := hnum
      have ha : At (takeF c 1).2 t := ht.2
      rw [hnum'] at h
      split at h
      · rename_i hk
        obtain ⟨hsh, i0, i1⟩ := shape_has hk
        simp only [] at h
        have hid := readP_id hsh (zeroP (x.toNat : Int)) (takeF c 1).2
        split at h
        · rename_i he
          obtain ⟨rest, hr, hat⟩ := value_back hsh _ ha he
          generalize hq : readP (ruleOf (x.toNat : Int)).shape (zeroP (x.toNat : Int)) (takeF c 1).2 = q at *
          obtain ⟨p, c2⟩ := q
          have hid' : p.id = (x.toNat : Int) := hid
          split at h
          · rename_i hck
            split at h
            · simp only [Prod.mk.injEq] at h; exact absurd h.2 (by decide)
            · rename_i hag
              split at h
              · simp only [Prod.mk.injEq] at h; exact absurd h.2 (by decide)
              · rename_i h1000
                obtain ⟨l, e1, e2, e3, e4⟩ := list_back m c2 _ (out ++ [p]) res rest hat (by rw [List.length_append]; simp; omega) h
                refine ⟨p :: l, by rw [e1]; simp, ⟨?_, ?_, ?_⟩, ?_, e4⟩
                · rw [hid']; exact hck
                · rw [hid']; simpa using hag
                · rw [hid']; exact e2
                · have hb : bodyL (p :: l) = UInt8.ofNat p.id.toNat :: (bl (valueS (ruleOf p.id).shape p) ++ bodyL l) := rfl
                  rw [hb, hid', e3, hr]
                  simp
          · rename_i hck
            simp only [Prod.mk.injEq] at h; exact absurd h.2 hck
        · rename_i he
          simp only [Prod.mk.injEq] at h; exact absurd h.2 he
      · simp only [Prod.mk.injEq] at h; exact absurd h.2 (by decide)
    · rename_i hl
      rw [hc.left] at hl
      have hr : r = [] := by simpa using hl
      split at h
      · simp only [Prod.mk.injEq] at h; exact absurd h.2 (by decide)
      · rename_i hlo
        simp only [Prod.mk.injEq] at h
        refine ⟨[], by rw [← h.1]; simp, by simpa [okL] using hlo, hr.symm, by rw [← h.1]; exact hn⟩
theorem at_new (s : ByteArray) (hs : s.size ≤ 140737488351232) : At (newCu s) (bl s) := ⟨rfl, List.drop_zero, ⟨Nat.zero_le _, hs⟩⟩
theorem pread_at {kind : Int} {l : List Prp} {s : ByteArray} {rest : List UInt8} (h : (bytesF kind l).2 = 0) (hp : ∀ p ∈ l, PrpOK p) (hs : bl s = bl (bytesF kind l).1 ++ rest) (hz : s.size ≤ 140737488351232) : preadF kind s = (l, ((bl (bytesF kind l).1).length : Int), 0) := by
  obtain ⟨hl, hk, hb⟩ := bytesF_ok h
  rw [hb, List.append_assoc] at hs
  have hlen := bodyL_len _ _ hk
  have hvi := viRead_viS (n := ((bodyL l).length : Int)) (by omega) (by omega) hs
  have hsz : s.size = (bl (viS (bodyL l).length)).length + ((bodyL l).length + rest.length) := by rw [← bl_len, hs]; simp
  have hx : bl (s.extract (bl (viS (bodyL l).length)).length ((bl (viS (bodyL l).length)).length + (bodyL l).length)) = bodyL l := by
    rw [bl_extract, hs, List.drop_left' rfl, show ∀ a b : Nat, a + b - a = b from fun a b => by omega, List.take_left' rfl]
  unfold preadF
  rw [hvi]
  simp only []
  rw [if_pos trivial, if_neg (by simp; omega)]
  have e1 : ((bl (viS (bodyL l).length)).length : Int).toNat = (bl (viS (bodyL l).length)).length := rfl
  have e2 : (((bl (viS (bodyL l).length)).length : Int) + ((bodyL l).length : Int)).toNat = (bl (viS (bodyL l).length)).length + (bodyL l).length := by omega
  rw [e1, e2]
  have hlist : listF kind (s.extract (bl (viS (bodyL l).length)).length ((bl (viS (bodyL l).length)).length + (bodyL l).length)) = (l, 0) := by
    have hA := at_new (s.extract (bl (viS (bodyL l).length)).length ((bl (viS (bodyL l).length)).length + (bodyL l).length)) (by rw [← bl_len, hx]; omega)
    rw [hx] at hA
    generalize s.extract (bl (viS (bodyL l).length)).length ((bl (viS (bodyL l).length)).length + (bodyL l).length) = X at hA
    have := list_read l 1001 _ _ [] hk hp hA (by omega) (by rw [List.length_nil]; omega)
    unfold listF
    rw [this, List.nil_append]
  rw [hlist]
  simp only [if_true]
  rw [hb, List.length_append]
  simp
theorem pread_back {kind : Int} {l : List Prp} {s : ByteArray} {size : Int} (h : preadF kind s = (l, size, 0)) (hz : s.size ≤ 140737488351232) : (bytesF kind l).2 = 0 ∧ ∃ rest, bl s = bl (bytesF kind l).1 ++ rest ∧ size = ((bl (bytesF kind l).1).length : Int) := by
  unfold preadF at h
  obtain ⟨⟨n, sz, e⟩, hr⟩ : ∃ q, viRead s = q := ⟨_, rfl⟩
  rw [hr] at h
  simp only [] at h
  by_cases he : e = 0
  · subst he
    obtain ⟨n0, n1, rest, hs, rfl⟩ := viS_viRead hr
    rw [if_pos rfl] at h
    split at h
    · simp only [Prod.mk.injEq] at h; exact absurd h.2.2 (by decide)
    · rename_i hlt
      obtain ⟨k, rfl⟩ := Int.eq_ofNat_of_zero_le n0
      have hsz : s.size = (bl (viS (k : Int))).length + rest.length := by rw [← bl_len, hs]; simp
      have hk : k ≤ rest.length := by simp at hlt; omega
      have e1 : ((bl (viS (k : Int))).length : Int).toNat = (bl (viS (k : Int))).length := rfl
      have e2 : (((bl (viS (k : Int))).length : Int) + (k : Int)).toNat = (bl (viS (k : Int))).length + k := by omega
      rw [e1, e2] at h
      have hx : bl (s.extract (bl (viS (k : Int))).length ((bl (viS (k : Int))).length + k)) = rest.take k := by
        rw [bl_extract, hs, List.drop_left' rfl, show ∀ a b : Nat, a + b - a = b from fun a b => by omega]
      obtain ⟨⟨l2, e2'⟩, hl⟩ : ∃ q, listF kind (s.extract (bl (viS (k : Int))).length ((bl (viS (k : Int))).length + k)) = q := ⟨_, rfl⟩
      rw [hl] at h
      simp only [] at h
      by_cases hz2 : e2' = 0
      · subst hz2
        rw [if_pos rfl] at h
        simp only [Prod.mk.injEq] at h
        obtain ⟨rfl, rfl, -⟩ := h
        unfold listF at hl
        have hA : At (newCu (s.extract (bl (viS (k : Int))).length ((bl (viS (k : Int))).length + k))) (rest.take k) := by
          have hA := at_new (s.extract (bl (viS (k : Int))).length ((bl (viS (k : Int))).length + k)) (by rw [← bl_len, hx, List.length_take]; omega)
          rw [hx] at hA
          exact hA
        obtain ⟨l3, q1, q2, q3, q4⟩ := list_back 1001 _ _ [] l2 _ hA (by simp) hl
        rw [List.nil_append] at q1
        subst q1
        have hok := bytesF_is q4 q2
        obtain ⟨-, -, hb⟩ := bytesF_ok hok
        have hbl : (bodyL l2).length = k := by rw [q3, List.length_take]; omega
        rw [hbl, q3] at hb
        refine ⟨hok, rest.drop k, ?_, ?_⟩
        · rw [hb, hs, List.append_assoc, List.take_append_drop]
        · rw [hb, List.length_append, List.length_take]; omega
      · rw [if_neg hz2] at h
        simp only [Prod.mk.injEq] at h; exact absurd h.2.2 hz2
  · rw [if_neg he] at h
    simp only [Prod.mk.injEq] at h; exact absurd h.2.2 he
end Go.Proofs.YtjlkhihlbdokpaaGreat
