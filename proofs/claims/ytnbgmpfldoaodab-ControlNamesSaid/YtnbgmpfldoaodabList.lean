/- prop.list: its map of readers, what it keeps in memory, and what it answers. -/
import Derived.Test.YtnbgmpfldoaodabSrcR
import Derived.Test.YtnbgmpfldoaodabBytes
import Derived.Maps.AppendAt
namespace Go.Proofs.Ytnbgmpfldoaodab
open Go.RowKit Go.Sort Go.MapKept
set_option maxHeartbeats 2000000
set_option linter.unusedVariables false
set_option linter.unusedSimpArgs false
def readFn (sh : Int) : Nat := if sh == 1 then 88 else if sh == 2 then 89 else if sh == 3 then 90 else if sh == 4 then 91 else if sh == 5 then 92 else if sh == 6 then 93 else 94
def readP (sh : Int) (p : Prp) (c : Cu) : Prp × Cu :=
  if sh == 1 then ({ p with n := numN c 1 }, (needF c 1).2) else if sh == 2 then ({ p with n := numN c 2 }, (needF c 2).2) else if sh == 3 then ({ p with n := numN c 4 }, (needF c 4).2)
  else if sh == 4 then ({ p with n := varyN c }, varyC c) else if sh == 5 then ({ p with text := (writtenF c).1 }, (writtenF c).2) else if sh == 6 then ({ p with text := (dataF c).1 }, (dataF c).2)
  else ({ p with text := (writtenF c).1, value := (writtenF (writtenF c).2).1 }, (writtenF (writtenF c).2).2)
def shapeB (sh : Int) : Prop := sh = 1 ∨ sh = 2 ∨ sh = 3 ∨ sh = 4 ∨ sh = 5 ∨ sh = 6 ∨ sh = 7
theorem readP_ok {sh : Int} (hs : shapeB sh) (p : Prp) {c : Cu} (ok : CuOK c) : CuOK (readP sh p c).2 := by
  rcases hs with rfl | rfl | rfl | rfl | rfl | rfl | rfl
  · exact needF_ok ok 1
  · exact needF_ok ok 2
  · exact needF_ok ok 4
  · exact varyC_ok ok
  · exact writtenF_ok ok
  · exact dataF_ok ok
  · exact writtenF_ok (writtenF_ok ok)
theorem readP_size {sh : Int} (hs : shapeB sh) {p : Prp} (h1 : p.text.size ≤ 65535) (h2 : p.value.size ≤ 65535) {c : Cu} (ok : CuOK c) : (readP sh p c).1.text.size ≤ 65535 ∧ (readP sh p c).1.value.size ≤ 65535 := by
  rcases hs with rfl | rfl | rfl | rfl | rfl | rfl | rfl
  · exact ⟨h1, h2⟩
  · exact ⟨h1, h2⟩
  · exact ⟨h1, h2⟩
  · exact ⟨h1, h2⟩
  · exact ⟨dataF_size ok, h2⟩
  · exact ⟨dataF_size ok, h2⟩
  · exact ⟨dataF_size ok, dataF_size (writtenF_ok ok)⟩
theorem readP_id {sh : Int} (hs : shapeB sh) (p : Prp) (c : Cu) : (readP sh p c).1.id = p.id := by
  rcases hs with rfl | rfl | rfl | rfl | rfl | rfl | rfl <;> rfl
theorem reader_t (sh : Int) (hs : shapeB sh) (S g : Nat) (p : Prp) (c : Cu) (w : World) (h : SrcAt w S g p c) (ok : CuOK c) : Calls Try.prog (readFn sh) #[.pointer (some ⟨S, 0, none⟩)] w fun e w' => e = .returned (.tuple #[]) ∧ SrcAt w' S g (readP sh p c).1 (readP sh p c).2 ∧ TwoBy S g w w' := by
  rcases hs with rfl | rfl | rfl | rfl | rfl | rfl | rfl
  · exact one_t S g p c w h ok
  · exact two_t S g p c w h ok
  · exact four_t S g p c w h ok
  · exact vary_t S g p c w h ok
  · exact srctext_t S g p c w h ok
  · exact srcbinary_t S g p c w h ok
  · exact srcpair_t S g p c w h ok
theorem shape_has {id kind : Int} (h : hasK (ruleOf id) kind = true) : shapeB (ruleOf id).shape ∧ 0 ≤ id ∧ id < 64 := by
  obtain ⟨a, b, c, d, -⟩ := hasK_ok h
  exact ⟨by unfold shapeB; omega, by omega, by omega⟩
def readEs (n : Nat) : Array MapEntry := (#[⟨.int .i64 1, .func (.func 88) #[] #[], 0⟩, ⟨.int .i64 2, .func (.func 89) #[] #[], 1⟩, ⟨.int .i64 3, .func (.func 90) #[] #[], 2⟩, ⟨.int .i64 4, .func (.func 91) #[] #[], 3⟩, ⟨.int .i64 5, .func (.func 92) #[] #[], 4⟩, ⟨.int .i64 6, .func (.func 93) #[] #[], 5⟩, ⟨.int .i64 7, .func (.func 94) #[] #[], 6⟩] : Array MapEntry).extract 0 n
theorem run_insertS (W : World) (es : Array MapEntry) (n : Nat) (k : Int) (v : Value) (hf : Instr.findNow (.int .i64) (.int .i64 k) es.toList 0 = some none) :
    (Instr.mapUpdate 124 (.map (some W.heap.size)) (.int .i64 k) v).run Try.prog (W.alloc (.map es n)) = .ok () (W.alloc (.map (es.push ⟨.int .i64 k, v, n⟩) (n + 1))) := by
  have hb := getMap W (.map es n)
  have hc : (Instr.checkKey false 10000 3 (.int .i64 k)).run Try.prog (W.alloc (.map es n)) = .ok () (W.alloc (.map es n)) := run_checkKey Try.underlying3 (show IsKey (.int .i64) (.int .i64 k) from rfl) false 9999
  have hk : (Instr.findKey 3 (.int .i64 k) es.toList).run Try.prog (W.alloc (.map es n)) = .ok none (W.alloc (.map es n)) := run_findKey Try.underlying3 hf
  have hs := setMap W (.map es n) (.map (es.push ⟨.int .i64 k, v, n⟩) (n + 1))
  simp only [Instr.mapUpdate, Sem.run_bind, run_underlying Try.underlying124, Result.andThen, getObj, setObj, Sem.run, hb, hc, hk, hs]
theorem run_lookS (w : World) (B : Nat) (sh : Int) (hs : shapeB sh) (hb : w.heap[B]? = some (.map (readEs 7) 7)) :
    (Instr.lookup 124 (.map (some B)) (.int .i64 sh) false).run Try.prog w = .ok (.func (.func (readFn sh)) #[] #[]) w := by
  have hc : (Instr.checkKey (readEs 7).isEmpty 10000 3 (.int .i64 sh)).run Try.prog w = .ok () w := run_checkKey Try.underlying3 (show IsKey (.int .i64) (.int .i64 sh) from rfl) _ 9999
  have hf : ∃ m, Instr.findNow (.int .i64) (.int .i64 sh) (readEs 7).toList 0 = some (some (m, .func (.func (readFn sh)) #[] #[])) := by
    rcases hs with rfl | rfl | rfl | rfl | rfl | rfl | rfl
    · exact ⟨0, by kernel_rfl⟩
    · exact ⟨1, by kernel_rfl⟩
    · exact ⟨2, by kernel_rfl⟩
    · exact ⟨3, by kernel_rfl⟩
    · exact ⟨4, by kernel_rfl⟩
    · exact ⟨5, by kernel_rfl⟩
    · exact ⟨6, by kernel_rfl⟩
  obtain ⟨m, hf⟩ := hf
  have hk := run_findKey (P := Try.prog) (w := w) Try.underlying3 hf
  simp [Instr.lookup, Sem.run_bind, run_underlying Try.underlying124, Result.andThen, getObj, Sem.run, hb, hc, hk]
set_option maxRecDepth 100000 in
theorem readers_t (w : World) : Calls Try.prog 85 #[] w fun e w' => e = .returned (.map (some w.heap.size)) ∧ w' = w.alloc (.map (readEs 7) 7) := by
  have hmm := @run_makeMap Try.prog
  have u0 : (Instr.mapUpdate 124 (.map (some w.heap.size)) (.int .i64 1) (.func (.func 88) #[] #[])).run Try.prog (w.alloc (.map #[] 0)) = .ok () (w.alloc (.map (readEs 1) 1)) := (run_insertS w #[] 0 1 _ (by kernel_rfl)).trans (congrArg (fun z => Result.ok () (w.alloc (.map z 1))) (by kernel_rfl))
  have u1 : (Instr.mapUpdate 124 (.map (some w.heap.size)) (.int .i64 2) (.func (.func 89) #[] #[])).run Try.prog (w.alloc (.map (readEs 1) 1)) = .ok () (w.alloc (.map (readEs 2) 2)) := (run_insertS w (readEs 1) 1 2 _ (by kernel_rfl)).trans (congrArg (fun z => Result.ok () (w.alloc (.map z 2))) (by kernel_rfl))
  have u2 : (Instr.mapUpdate 124 (.map (some w.heap.size)) (.int .i64 3) (.func (.func 90) #[] #[])).run Try.prog (w.alloc (.map (readEs 2) 2)) = .ok () (w.alloc (.map (readEs 3) 3)) := (run_insertS w (readEs 2) 2 3 _ (by kernel_rfl)).trans (congrArg (fun z => Result.ok () (w.alloc (.map z 3))) (by kernel_rfl))
  have u3 : (Instr.mapUpdate 124 (.map (some w.heap.size)) (.int .i64 4) (.func (.func 91) #[] #[])).run Try.prog (w.alloc (.map (readEs 3) 3)) = .ok () (w.alloc (.map (readEs 4) 4)) := (run_insertS w (readEs 3) 3 4 _ (by kernel_rfl)).trans (congrArg (fun z => Result.ok () (w.alloc (.map z 4))) (by kernel_rfl))
  have u4 : (Instr.mapUpdate 124 (.map (some w.heap.size)) (.int .i64 5) (.func (.func 92) #[] #[])).run Try.prog (w.alloc (.map (readEs 4) 4)) = .ok () (w.alloc (.map (readEs 5) 5)) := (run_insertS w (readEs 4) 4 5 _ (by kernel_rfl)).trans (congrArg (fun z => Result.ok () (w.alloc (.map z 5))) (by kernel_rfl))
  have u5 : (Instr.mapUpdate 124 (.map (some w.heap.size)) (.int .i64 6) (.func (.func 93) #[] #[])).run Try.prog (w.alloc (.map (readEs 5) 5)) = .ok () (w.alloc (.map (readEs 6) 6)) := (run_insertS w (readEs 5) 5 6 _ (by kernel_rfl)).trans (congrArg (fun z => Result.ok () (w.alloc (.map z 6))) (by kernel_rfl))
  have u6 : (Instr.mapUpdate 124 (.map (some w.heap.size)) (.int .i64 7) (.func (.func 94) #[] #[])).run Try.prog (w.alloc (.map (readEs 6) 6)) = .ok () (w.alloc (.map (readEs 7) 7)) := (run_insertS w (readEs 6) 6 7 _ (by kernel_rfl)).trans (congrArg (fun z => Result.ok () (w.alloc (.map z 7))) (by kernel_rfl))
  go_enter Try.func85, Try.ntmps85
  go_wp2
  go_ret
  exact ⟨rfl, rfl⟩
def prpC (p : Prp) : List Value := #[.int .i64 p.id, .int .u32 p.n, .string p.text, .string p.value].toList
def flatP : List Prp → List Value
  | [] => []
  | p :: t => prpC p ++ flatP t
theorem flatP_snoc (l : List Prp) (p : Prp) : flatP (l ++ [p]) = flatP l ++ prpC p := by
  induction l with
  | nil => simp [flatP]
  | cons a t ih => simp [flatP, ih]
theorem flatP_len (l : List Prp) : (flatP l).length = l.length * 4 := by
  induction l with
  | nil => rfl
  | cons a t ih => simp only [flatP, List.length_append, ih, List.length_cons]; have : (prpC a).length = 4 := rfl; omega
structure LInv (w : World) (N : Nat) (wr : World) (p : Prp) (c : Cu) (f : Nat → Int) (v8 : Value) (out : List Prp) : Prop where
  rules : wr.heap[N]? = some (.map (ruleEs 27) 27)
  reads : wr.heap[N + 1]? = some (.map (readEs 7) 7)
  seen : Seen wr (N + 2) f
  src : SrcAt wr (N + 4) (N + 3) p c
  own : wr.ownsRow (N + 5) 25 4 v8 out.length (flatP out)
  bel : Below N w wr
theorem LInv.size {w : World} {N : Nat} {wr : World} {p : Prp} {c : Cu} {f : Nat → Int} {v8 : Value} {out : List Prp} (h : LInv w N wr p c f v8 out) : N + 4 < wr.heap.size := (Array.getElem?_eq_some_iff.1 h.src.1).1
theorem own_ge {w : World} {base : Nat} {e : TypeId} {size : Nat} {v : Value} {n : Nat} {xs : List Value} (h : w.ownsRow base e size v n xs) : ∀ k, v.ownBlock = some k → base ≤ k ∧ k < w.heap.size := World.ownsRow.lt h
theorem own_two {w w' : World} {base : Nat} {e : TypeId} {size : Nat} {v : Value} {n : Nat} {xs : List Value} (h : w.ownsRow base e size v n xs) (hb : ∀ i, i < w.heap.size → base ≤ i → w'.heap[i]? = w.heap[i]?) : w'.ownsRow base e size v n xs := by
  refine ⟨h.1, ?_⟩
  rcases h.2 with h0 | ⟨g, cap, cur, h1, h2, h3, h4⟩
  · exact .inl h0
  · exact .inr ⟨g, cap, cur, h1, h2, by rw [hb g (Array.getElem?_eq_some_iff.1 h3).1 h2]; exact h3, h4⟩
theorem LInv.below {w : World} {N : Nat} {wr w2 : World} {p : Prp} {c : Cu} {f : Nat → Int} {v8 : Value} {out : List Prp} (h : LInv w N wr p c f v8 out) (hb : Below wr.heap.size wr w2) : LInv w N w2 p c f v8 out := by
  have hs := h.size
  exact ⟨by rw [hb.block _ (by omega)]; exact h.rules, by rw [hb.block _ (by omega)]; exact h.reads, h.seen.below hb, src_below h.src hb, own_two h.own (fun i hi _ => hb.block i hi), h.bel.trans (hb.mono (by omega))⟩
theorem LInv.two {w : World} {N : Nat} {wr w2 : World} {p p' : Prp} {c c' : Cu} {f : Nat → Int} {v8 : Value} {out : List Prp} (h : LInv w N wr p c f v8 out) (hx : SrcAt w2 (N + 4) (N + 3) p' c') (hb : TwoBy (N + 4) (N + 3) wr w2) : LInv w N w2 p' c' f v8 out := by
  have hs := h.size
  exact ⟨by rw [hb.block _ (by omega) (by omega) (by omega)]; exact h.rules, by rw [hb.block _ (by omega) (by omega) (by omega)]; exact h.reads, by unfold Seen; rw [hb.block _ (by omega) (by omega) (by omega)]; exact h.seen, hx,
    own_two h.own (fun i hi h5 => hb.block i hi (by omega) (by omega)),
    ⟨hb.os.trans h.bel.os, hb.tape.trans h.bel.tape, hb.output.trans h.bel.output, Nat.le_trans h.bel.size hb.size, fun i hi => (hb.block i (by omega) (by omega) (by omega)).trans (h.bel.block i hi)⟩⟩
theorem LInv.cur {w : World} {N : Nat} {wr w2 : World} {p : Prp} {c c' : Cu} {f : Nat → Int} {v8 : Value} {out : List Prp} (h : LInv w N wr p c f v8 out) (hc : CurAt w2 (N + 3) c') (hg : wr.grownBy w2 (some (N + 3))) : LInv w N w2 p c' f v8 out :=
  h.two (src_cur h.src hc hg) (two_g hg)
theorem LInv.sees {w : World} {N : Nat} {wr w2 : World} {p : Prp} {c : Cu} {f f' : Nat → Int} {v8 : Value} {out : List Prp} (h : LInv w N wr p c f v8 out) (hc : Seen w2 (N + 2) f') (hg : wr.grownBy w2 (some (N + 2))) : LInv w N w2 p c f' v8 out := by
  have hs := h.size
  have k : ∀ i, i < wr.heap.size → i ≠ N + 2 → w2.heap[i]? = wr.heap[i]? := fun i hi hne => hg.block i hi (fun e => hne (by simpa using e))
  refine ⟨by rw [k _ (by omega) (by omega)]; exact h.rules, by rw [k _ (by omega) (by omega)]; exact h.reads, hc, ⟨by rw [k _ (by omega) (by omega)]; exact h.src.1, by unfold CurAt; rw [k _ (by omega) (by omega)]; exact h.src.2.1, h.src.2.2⟩, own_two h.own (fun i hi h5 => k i hi (by omega)), h.bel.grown hg (by omega) (fun i e => by simp only [Option.some.injEq] at e; omega)⟩
theorem LInv.owns {w : World} {N : Nat} {wr w2 : World} {p : Prp} {c : Cu} {f : Nat → Int} {v8 v' : Value} {out out' : List Prp} (h : LInv w N wr p c f v8 out) (hc : w2.ownsRow (N + 5) 25 4 v' out'.length (flatP out')) (hg : wr.grownBy w2 v8.ownBlock) : LInv w N w2 p c f v' out' := by
  have hs := h.size
  have ho := own_ge h.own
  have k : ∀ i, i < wr.heap.size → i < N + 5 → w2.heap[i]? = wr.heap[i]? := fun i hi hne => hg.block i hi (fun e => by have := (ho i e.symm).1; omega)
  refine ⟨by rw [k _ (by omega) (by omega)]; exact h.rules, by rw [k _ (by omega) (by omega)]; exact h.reads, by unfold Seen; rw [k _ (by omega) (by omega)]; exact h.seen, ⟨by rw [k _ (by omega) (by omega)]; exact h.src.1, by unfold CurAt; rw [k _ (by omega) (by omega)]; exact h.src.2.1, h.src.2.2⟩, hc, h.bel.grown hg (by omega) (fun i e => by have := (ho i e).1; omega)⟩
def updF (f : Nat → Int) (i : Nat) : Nat → Int := fun j => if j = i then f i + 1 else f j
def zeroP (id : Int) : Prp := ⟨id, 0, ⟨#[]⟩, ⟨#[]⟩⟩
def listGo : Nat → Int → Cu → (Nat → Int) → List Prp → List Prp × Int
  | 0, _, _, _, _ => ([], 4)
  | m + 1, kind, c, f, out =>
    if decide (0 < leftF c) = true then
      (if hasK (ruleOf (numF c 1)) kind = true then
        (let r := readP (ruleOf (numF c 1)).shape (zeroP (numF c 1)) (takeF c 1).2
         if r.2.err = 0 then
           (if checkC (ruleOf (numF c 1)) kind r.1 = 0 then
             (if againB kind (numF c 1) (f (numF c 1).toNat) = true then ([], 9)
              else if out.length = 1000 then ([], 4)
              else listGo m kind r.2 (updF f (numF c 1).toNat) (out ++ [r.1]))
            else ([], checkC (ruleOf (numF c 1)) kind r.1))
         else ([], r.2.err))
       else ([], 9))
    else if loneB f = true then ([], 9) else (out, 0)
def listF (kind : Int) (s : ByteArray) : List Prp × Int := listGo 1001 kind (newCu s) (fun _ => 0) []
def lenOf : Value → Nat
  | .slice _ n _ => n
  | _ => 0
theorem own_len {w : World} {base : Nat} {e : TypeId} {size : Nat} {v : Value} {n : Nat} {xs : List Value} (h : w.ownsRow base e size v n xs) : ∃ A cap, v = .slice A n cap := by
  rcases h.2 with ⟨rfl, rfl⟩ | ⟨g, cap, cur, rfl, _⟩
  · exact ⟨_, _, rfl⟩
  · exact ⟨_, _, rfl⟩
theorem info_prop : (Try.prog.info? 25).map (fun i => (i.zero, i.size, i.bytes)) = some (some (.agg #[.int .i64 0, .int .u32 0, .string ⟨#[]⟩, .string ⟨#[]⟩]), 4, 48) := by kernel_rfl
end Go.Proofs.Ytnbgmpfldoaodab
