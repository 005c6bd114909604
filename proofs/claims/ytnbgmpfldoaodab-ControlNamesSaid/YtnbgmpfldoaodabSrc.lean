/- prop.source: what its calls read. -/
import Derived.Test.YtnbgmpfldoaodabVr
namespace Go.Proofs.Ytnbgmpfldoaodab
open Go.RowKit Go.Sort
set_option maxHeartbeats 2000000
set_option linter.unusedVariables false
set_option linter.unusedSimpArgs false
def srcC (g : Nat) (p : Prp) : Array Value := #[.pointer (some ⟨g, 0, none⟩), .int .i64 p.id, .int .u32 p.n, .string p.text, .string p.value]
def SrcAt (w : World) (S g : Nat) (p : Prp) (c : Cu) : Prop := w.heap[S]? = some (.cells (srcC g p) 127 (0, 0)) ∧ CurAt w g c ∧ S ≠ g
structure TwoBy (S g : Nat) (a b : World) : Prop where
  os : b.os = a.os
  tape : b.tape = a.tape
  output : b.output = a.output
  size : a.heap.size ≤ b.heap.size
  block : ∀ i, i < a.heap.size → i ≠ S → i ≠ g → b.heap[i]? = a.heap[i]?
theorem TwoBy.trans {S g : Nat} {a b c : World} (h : TwoBy S g a b) (k : TwoBy S g b c) : TwoBy S g a c :=
  ⟨k.os.trans h.os, k.tape.trans h.tape, k.output.trans h.output, Nat.le_trans h.size k.size, fun i hi h1 h2 => (k.block i (Nat.lt_of_lt_of_le hi h.size) h1 h2).trans (h.block i hi h1 h2)⟩
theorem TwoBy.refl (S g : Nat) (a : World) : TwoBy S g a a := ⟨rfl, rfl, rfl, Nat.le_refl _, fun _ _ _ _ => rfl⟩
theorem two_g {S g : Nat} {a b : World} (h : a.grownBy b (some g)) : TwoBy S g a b := ⟨h.os, h.tape, h.output, h.size, fun i hi _ h2 => h.block i hi (fun e => h2 (by cases e; rfl))⟩
theorem two_S {S g : Nat} {a b : World} (h : a.grownBy b (some S)) : TwoBy S g a b := ⟨h.os, h.tape, h.output, h.size, fun i hi h1 _ => h.block i hi (fun e => h1 (by cases e; rfl))⟩
theorem two_below {S g : Nat} {a b : World} (h : Below a.heap.size a b) : TwoBy S g a b := ⟨h.os, h.tape, h.output, h.size, fun i hi _ _ => h.block i hi⟩
theorem src_cur {w w' : World} {S g : Nat} {p : Prp} {c c' : Cu} (h : SrcAt w S g p c) (hc : CurAt w' g c') (hg : w.grownBy w' (some g)) : SrcAt w' S g p c' :=
  ⟨by rw [hg.block S (Array.getElem?_eq_some_iff.1 h.1).1 (fun e => h.2.2 (by cases e; rfl))]; exact h.1, hc, h.2.2⟩
theorem src_below {w w' : World} {S g : Nat} {p : Prp} {c : Cu} (h : SrcAt w S g p c) (hb : Below w.heap.size w w') : SrcAt w' S g p c :=
  ⟨by rw [hb.block S (Array.getElem?_eq_some_iff.1 h.1).1]; exact h.1, cur_below h.2.1 hb, h.2.2⟩
theorem src_set {w : World} {S g : Nat} {p : Prp} {c : Cu} (h : SrcAt w S g p c) (i : Nat) (v : Value) (p' : Prp) (e : (srcC g p).setIfInBounds i v = srcC g p') : SrcAt (w.setCell ⟨S, i, none⟩ v) S g p' c := by
  refine ⟨?_, ?_, h.2.2⟩
  · rw [heap_setCell_same w S i _ _ v h.1, e]
  · unfold CurAt; rw [heap_setCell_other _ _ _ _ (fun e => h.2.2 e.symm)]; exact h.2.1
theorem src_cells {w : World} {S g : Nat} {p : Prp} {c : Cu} (h : SrcAt w S g p c) : w.cell? ⟨S, 0, none⟩ = some (.pointer (some ⟨g, 0, none⟩)) ∧ (w.cell? ⟨S, 1, none⟩ = some (.int .i64 p.id) ∧ w.cell? ⟨S, 2, none⟩ = some (.int .u32 p.n) ∧ w.cell? ⟨S, 3, none⟩ = some (.string p.text) ∧ w.cell? ⟨S, 4, none⟩ = some (.string p.value)) :=
  ⟨by rw [cell_of_row _ _ _ _ _ _ h.1]; rfl, by rw [cell_of_row _ _ _ _ _ _ h.1]; rfl, by rw [cell_of_row _ _ _ _ _ _ h.1]; rfl, by rw [cell_of_row _ _ _ _ _ _ h.1]; rfl, by rw [cell_of_row _ _ _ _ _ _ h.1]; rfl⟩
theorem src_free {w : World} {S g : Nat} {p : Prp} {c : Cu} (h : SrcAt w S g p c) (i : Nat) : w.frozen? ⟨S, i, none⟩ = false := frozen_of_row _ _ i _ _ h.1
def cutB (c : Cu) (n : Int) : Bool := if c.err == 0 then (if decide (n < 0) = true then true else decide (leftF c < n)) else false
def needF (c : Cu) (n : Int) : ByteArray × Cu := takeF (if cutB c n = true then failF c 5 else c) n
theorem needF_ok {c : Cu} (ok : CuOK c) (n : Int) : CuOK (needF c n).2 := by
  unfold needF
  split
  · exact takeF_ok (failF_ok ok 5) n
  · exact takeF_ok ok n
theorem needF_size {c : Cu} (ok : CuOK c) (n : Int) : (needF c n).1.size ≤ n.toNat := by
  unfold needF
  split
  · exact take_size (failF_ok ok 5) n
  · exact take_size ok n
theorem needF_all {c : Cu} (ok : CuOK c) (n : Int) : (needF c n).1.size ≤ 140737488351232 := by
  have h : ∀ {c : Cu}, CuOK c → (takeF c n).1.size ≤ c.s.size := by
    intro c ok
    unfold takeF
    split
    · split
      · simp only [ByteArray.size_extract]; omega
      · exact Nat.zero_le _
    · exact Nat.zero_le _
  unfold needF
  split
  · exact Nat.le_trans (h (failF_ok ok 5)) (failF_ok ok 5).size
  · exact Nat.le_trans (h ok) ok.size
set_option maxRecDepth 100000 in
theorem need_t (S g : Nat) (p : Prp) (c : Cu) (n : Int) (w : World) (h : SrcAt w S g p c) (ok : CuOK c) : Calls Try.prog 99 #[.pointer (some ⟨S, 0, none⟩), .int .i64 n] w fun e w' => e = .returned (.string (needF c n).1) ∧ SrcAt w' S g p (needF c n).2 ∧ TwoBy S g w w' := by
  have HC := Lib.hid h
  have HO := Lib.hid ok
  obtain ⟨s0, -⟩ := src_cells h
  clear h ok
  cases he : (c.err == 0)
  · have HE : Hid (needF c n = takeF c n) := Lib.hid (by simp only [needF, cutB, he, if_false, Bool.false_eq_true])
    go_enter Try.func99, Try.ntmps99
    go_wp2_with fail
    refine (err_t g c _ HC.out.2.1).mono ?_
    rintro e w1 ⟨rfl, hw⟩
    subst hw
    go_wp2_with fail
    refine (take_t g c n _ HC.out.2.1 HO.out).mono ?_
    rintro e w2 ⟨rfl, hc, hg⟩
    have HX := Lib.hid (src_cur HC.out hc hg)
    have HG := Lib.hid (two_g (S := S) hg)
    clear hc hg
    go_wp2
    go_ret
    exact ⟨by rw [HE.out]; rfl, by rw [HE.out]; exact HX.out, HG.out⟩
  cases hn : decide (n < 0)
  · go_enter Try.func99, Try.ntmps99
    go_wp2_with fail
    refine (err_t g c _ HC.out.2.1).mono ?_
    rintro e w1 ⟨rfl, hw⟩
    subst hw
    go_wp2_with fail
    refine (left_t g c _ HC.out.2.1 HO.out).mono ?_
    rintro e w2 ⟨rfl, hc, hg⟩
    have HX := Lib.hid (src_cur HC.out hc hg)
    have HG := Lib.hid (two_g (S := S) hg)
    obtain ⟨t0, -⟩ := src_cells HX.out
    clear hc hg s0
    cases hl : decide (leftF c < n)
    · have HE : Hid (needF c n = takeF c n) := Lib.hid (by simp only [needF, cutB, he, hn, hl, if_false, if_true, Bool.false_eq_true])
      go_wp2_with fail
      refine (take_t g c n _ HX.out.2.1 HO.out).mono ?_
      rintro e w3 ⟨rfl, hc, hg⟩
      have HX3 := Lib.hid (src_cur HX.out hc hg)
      have HG3 := Lib.hid (HG.out.trans (two_g (S := S) hg))
      clear hc hg
      go_wp2
      go_ret
      exact ⟨by rw [HE.out]; rfl, by rw [HE.out]; exact HX3.out, HG3.out⟩
    · have HE : Hid (needF c n = takeF (failF c 5) n) := Lib.hid (by simp only [needF, cutB, he, hn, hl, if_false, if_true, Bool.false_eq_true])
      go_wp2_with fail
      refine (fail_t g c 5 _ HX.out.2.1).mono ?_
      rintro e w3 ⟨rfl, hc, hg⟩
      have HX3 := Lib.hid (src_cur HX.out hc hg)
      have HG3 := Lib.hid (HG.out.trans (two_g (S := S) hg))
      obtain ⟨q0, -⟩ := src_cells HX3.out
      clear hc hg t0
      go_wp2_with fail
      refine (take_t g (failF c 5) n _ HX3.out.2.1 (failF_ok HO.out 5)).mono ?_
      rintro e w4 ⟨rfl, hc, hg⟩
      have HX4 := Lib.hid (src_cur HX3.out hc hg)
      have HG4 := Lib.hid (HG3.out.trans (two_g (S := S) hg))
      clear hc hg
      go_wp2
      go_ret
      exact ⟨by rw [HE.out]; rfl, by rw [HE.out]; exact HX4.out, HG4.out⟩
  · have HE : Hid (needF c n = takeF (failF c 5) n) := Lib.hid (by simp only [needF, cutB, he, hn, if_false, if_true, Bool.false_eq_true])
    go_enter Try.func99, Try.ntmps99
    go_wp2_with fail
    refine (err_t g c _ HC.out.2.1).mono ?_
    rintro e w1 ⟨rfl, hw⟩
    subst hw
    go_wp2_with fail
    refine (fail_t g c 5 _ HC.out.2.1).mono ?_
    rintro e w3 ⟨rfl, hc, hg⟩
    have HX3 := Lib.hid (src_cur HC.out hc hg)
    have HG3 := Lib.hid (two_g (S := S) hg)
    obtain ⟨q0, -⟩ := src_cells HX3.out
    clear hc hg s0
    go_wp2_with fail
    refine (take_t g (failF c 5) n _ HX3.out.2.1 (failF_ok HO.out 5)).mono ?_
    rintro e w4 ⟨rfl, hc, hg⟩
    have HX4 := Lib.hid (src_cur HX3.out hc hg)
    have HG4 := Lib.hid (HG3.out.trans (two_g (S := S) hg))
    clear hc hg
    go_wp2
    go_ret
    exact ⟨by rw [HE.out]; rfl, by rw [HE.out]; exact HX4.out, HG4.out⟩
end Go.Proofs.Ytnbgmpfldoaodab
