/- octet.Cursor: what its calls answer, and where it stands then. -/
import Derived.Test.YtnbgmpfldoaodabBase
import Derived.Laws.Bits64b
namespace Go.Proofs.Ytnbgmpfldoaodab
open Go.RowKit Go.Sort
set_option maxHeartbeats 2000000
set_option linter.unusedVariables false
set_option linter.unusedSimpArgs false
structure Cu where
  s : ByteArray
  pos : Nat
  err : Int
def curC (c : Cu) : Array Value := #[.string c.s, .int .i64 (c.pos : Int), .int .i64 c.err]
def CurAt (w : World) (g : Nat) (c : Cu) : Prop := w.heap[g]? = some (.cells (curC c) 83 (0, 0))
structure CuOK (c : Cu) : Prop where
  pos : c.pos ≤ c.s.size
  size : c.s.size ≤ 140737488351232
theorem grown_trans {a b c : World} {r : Option Nat} (h : a.grownBy b r) (k : b.grownBy c r) : a.grownBy c r :=
  ⟨k.os.trans h.os, k.tape.trans h.tape, k.output.trans h.output, Nat.le_trans h.size k.size, fun i hi hne => (k.block i (Nat.lt_of_lt_of_le hi h.size) hne).trans (h.block i hi hne)⟩
theorem grown_drewN (w : World) (r : Option Nat) (n : Nat) : w.grownBy (w.drewN n) r := ⟨rfl, rfl, rfl, Nat.le_refl _, fun _ _ _ => rfl⟩
theorem grown_refl (w : World) (r : Option Nat) : w.grownBy w r := ⟨rfl, rfl, rfl, Nat.le_refl _, fun _ _ _ => rfl⟩
theorem cur_cells {w : World} {g : Nat} {c : Cu} (h : CurAt w g c) : w.cell? ⟨g, 0, none⟩ = some (.string c.s) ∧ w.cell? ⟨g, 1, none⟩ = some (.int .i64 (c.pos : Int)) ∧ w.cell? ⟨g, 2, none⟩ = some (.int .i64 c.err) :=
  ⟨by rw [cell_of_row _ _ _ _ _ _ h]; rfl, by rw [cell_of_row _ _ _ _ _ _ h]; rfl, by rw [cell_of_row _ _ _ _ _ _ h]; rfl⟩
theorem cur_free {w : World} {g : Nat} {c : Cu} (h : CurAt w g c) (i : Nat) : w.frozen? ⟨g, i, none⟩ = false := frozen_of_row _ _ i _ _ h
theorem cur_below {a b : World} {g : Nat} {c : Cu} (h : CurAt a g c) (hb : Below a.heap.size a b) : CurAt b g c := by
  unfold CurAt; rw [hb.block g (Array.getElem?_eq_some_iff.1 h).1]; exact h
theorem cur_err {w : World} {g : Nat} {c : Cu} (h : CurAt w g c) (e : Int) : CurAt (w.setCell ⟨g, 2, none⟩ (.int .i64 e)) g { c with err := e } := heap_setCell_same w g 2 _ _ _ h
theorem cur_pos {w : World} {g : Nat} {c : Cu} (h : CurAt w g c) (n : Nat) : CurAt (w.setCell ⟨g, 1, none⟩ (.int .i64 (n : Int))) g { c with pos := n } := heap_setCell_same w g 1 _ _ _ h
def readyB (c : Cu) : Bool := c.err == 0
set_option maxRecDepth 100000 in
theorem ready_t (g : Nat) (c : Cu) (w : World) (h : CurAt w g c) : Calls Try.prog 50 #[.pointer (some ⟨g, 0, none⟩)] w fun e w' => e = .returned (.bool (readyB c)) ∧ w' = w := by
  obtain ⟨c0, c1, c2⟩ := cur_cells h
  clear h c0 c1
  have HE : Hid (readyB c = (c.err == 0)) := Lib.hid rfl
  go_enter Try.func50, Try.ntmps50
  go_wp2
  go_ret
  exact ⟨by rw [HE.out]; rfl, rfl⟩
def hasB (c : Cu) (n : Int) : Bool := if decide (0 ≤ n) = true then decide (n ≤ (c.s.size : Int) - (c.pos : Int)) else false
set_option maxRecDepth 100000 in
theorem chas_t (g : Nat) (c : Cu) (n : Int) (w : World) (h : CurAt w g c) (ok : CuOK c) : Calls Try.prog 68 #[.pointer (some ⟨g, 0, none⟩), .int .i64 n] w fun e w' => e = .returned (.bool (hasB c n)) ∧ CurAt w' g c ∧ w.grownBy w' (some g) := by
  obtain ⟨c0, c1, c2⟩ := cur_cells h
  obtain ⟨o1, o2⟩ := ok
  have HC := Lib.hid h
  clear h c2
  cases hn : decide (0 ≤ n)
  · have HE : Hid (hasB c n = false) := Lib.hid (by simp only [hasB, hn, if_false, Bool.false_eq_true])
    go_enter Try.func68, Try.ntmps68
    go_wp2
    go_quiet (fail)
    go_wp2
    go_ret
    exact ⟨by rw [HE.out]; rfl, HC.out, grown_drewN _ _ _⟩
  · have HE : Hid (hasB c n = decide (n ≤ (c.s.size : Int) - (c.pos : Int))) := Lib.hid (by simp only [hasB, hn, if_true])
    have n0 : 0 ≤ n := by simpa using hn
    have hw : IntKind.i64.wrap ((c.s.size : Int) - (c.pos : Int)) = (c.s.size : Int) - (c.pos : Int) := IntWalk.i64_in _ ⟨by omega, by omega⟩
    go_enter Try.func68, Try.ntmps68
    go_wp2
    go_quiet (fail)
    go_wp2
    go_ret
    exact ⟨by rw [HE.out]; rfl, HC.out, grown_drewN _ _ _⟩
def takeF (c : Cu) (n : Int) : ByteArray × Cu :=
  if readyB c = true then (if hasB c n = true then (c.s.extract c.pos (c.pos + n.toNat), { c with pos := c.pos + n.toNat }) else (⟨#[]⟩, { c with err := 3 })) else (⟨#[]⟩, c)
theorem hasB_le {c : Cu} {n : Int} (h : hasB c n = true) : 0 ≤ n ∧ n ≤ (c.s.size : Int) - (c.pos : Int) := by
  unfold hasB at h
  split at h
  · rename_i h0; exact ⟨by simpa using h0, by simpa using h⟩
  · cases h
theorem takeF_ok {c : Cu} (ok : CuOK c) (n : Int) : CuOK (takeF c n).2 := by
  unfold takeF
  split
  · split
    · rename_i h; obtain ⟨h0, h1⟩ := hasB_le h; have := ok.pos; exact ⟨by simp only; omega, ok.size⟩
    · exact ⟨ok.pos, ok.size⟩
  · exact ok
set_option maxRecDepth 100000 in
theorem take_t (g : Nat) (c : Cu) (n : Int) (w : World) (h : CurAt w g c) (ok : CuOK c) : Calls Try.prog 47 #[.pointer (some ⟨g, 0, none⟩), .int .i64 n] w fun e w' => e = .returned (.string (takeF c n).1) ∧ CurAt w' g (takeF c n).2 ∧ w.grownBy w' (some g) := by
  have HC := Lib.hid h
  have HO := Lib.hid ok
  clear h ok
  go_enter Try.func47, Try.ntmps47
  go_wp2_with fail
  refine (ready_t g c _ HC.out).mono ?_
  rintro e w1x ⟨rfl, hw⟩
  subst hw
  cases hr : readyB c
  · have HE : Hid (takeF c n = (⟨#[]⟩, c)) := Lib.hid (by simp only [takeF, hr, if_false, Bool.false_eq_true])
    go_wp2
    go_ret
    exact ⟨by rw [HE.out]; rfl, by rw [HE.out]; exact HC.out, grown_refl _ _⟩
  go_wp2_with fail
  refine (chas_t g c n _ HC.out HO.out).mono ?_
  rintro e w2 ⟨rfl, hc, hg⟩
  have HC2 := Lib.hid hc
  have HG2 := Lib.hid hg
  clear hc hg
  obtain ⟨c0, c1, c2⟩ := cur_cells HC2.out
  have f1 := cur_free HC2.out 1
  have f2 := cur_free HC2.out 2
  cases hh : hasB c n
  · have HE : Hid (takeF c n = (⟨#[]⟩, { c with err := 3 })) := Lib.hid (by simp only [takeF, hr, hh, if_true, if_false, Bool.false_eq_true])
    have HX := Lib.hid (cur_err HC2.out 3)
    clear c0 c1
    go_wp2
    go_ret
    exact ⟨by rw [HE.out]; rfl, by rw [HE.out]; exact HX.out, grown_trans HG2.out (grown_set _ _ _ _)⟩
  · obtain ⟨n0, n1⟩ := hasB_le hh
    obtain ⟨o1, o2⟩ := (⟨HO.out.pos, HO.out.size⟩ : _ ∧ _)
    obtain ⟨m, rfl⟩ := Int.eq_ofNat_of_zero_le n0
    have HE : Hid (takeF c (m : Int) = (c.s.extract c.pos (c.pos + m), { c with pos := c.pos + m })) := Lib.hid (by simp only [takeF, hr, hh, if_true, Int.toNat_natCast])
    have HX := Lib.hid (cur_pos HC2.out (c.pos + m))
    have HG3 := Lib.hid (grown_trans HG2.out (grown_set w2 g 1 (.int .i64 ((c.pos + m : Nat) : Int))))
    have b1 : (c.pos : Int) + (m : Int) ≤ (c.s.size : Int) := by omega
    have b2 : (0 : Int) ≤ (c.pos : Int) := by omega
    clear c2 f2 hh n1
    go_wp2
    rw [show (c.pos : Int) + (m : Int) = ((c.pos + m : Nat) : Int) by omega]
    have HX2 : Hid (CurAt (w2.setCell ⟨g, 1, none⟩ (.int .i64 ((c.pos + m : Nat) : Int))) g { c with pos := c.pos + m }) := HX
    obtain ⟨d0, d1, d2⟩ := cur_cells HX2.out
    generalize w2.setCell ⟨g, 1, none⟩ (.int .i64 ((c.pos + m : Nat) : Int)) = w3 at *
    have i1 : (0 : Int) ≤ ((c.pos + m : Nat) : Int) := by omega
    have i2 : ((c.pos + m : Nat) : Int) ≤ (c.s.size : Int) := by omega
    have i3 : (c.pos : Int) ≤ ((c.pos + m : Nat) : Int) := by omega
    clear c0 c1 f1 d2
    simp only [] at d0 d1
    go_quiet (fail)
    go_wp2
    go_ret
    exact ⟨by rw [HE.out]; rfl, by rw [HE.out]; exact HX.out, grown_trans HG3.out (grown_drewN _ _ _)⟩
def getL (l : List UInt8) : Int := l.foldl (fun n b => n * 256 + (b.toNat : Int)) 0
def getF (s : ByteArray) : Int := getL s.data.toList
theorem getL_snoc (l : List UInt8) (b : UInt8) : getL (l ++ [b]) = getL l * 256 + (b.toNat : Int) := by simp [getL]
theorem getL_bd : ∀ (k : Nat) (l : List UInt8), l.length = k → 0 ≤ getL l ∧ getL l < 256 ^ k := by
  intro k
  induction k with
  | zero => intro l h; rw [List.length_eq_zero_iff.1 h]; decide
  | succ k ih =>
    intro l h
    obtain ⟨l', b, rfl⟩ : ∃ l' b, l = l' ++ [b] := ⟨l.dropLast, l.getLast (by intro e; rw [e] at h; simp at h), (List.dropLast_concat_getLast _).symm⟩
    have := ih l' (by simpa using h)
    rw [getL_snoc]
    have hb := b.toNat_lt
    rw [Int.pow_succ]
    omega
theorem or_low {n b : Int} (n0 : 0 ≤ n) (n1 : n < 16777216) (b0 : 0 ≤ b) (b1 : b < 256) : bits BinOp.or IntKind.u64 (n * 256) b = n * 256 + b := by
  obtain ⟨m, rfl⟩ := Int.eq_ofNat_of_zero_le n0
  obtain ⟨c, rfl⟩ := Int.eq_ofNat_of_zero_le b0
  have e1 : ((m * 256 : Nat) : Int) = (m : Int) * 256 := Int.natCast_mul m 256
  have e2 : ((m * 256 + c : Nat) : Int) = (m : Int) * 256 + (c : Int) := by rw [Int.natCast_add, e1]
  have q1 : m < 16777216 := Int.ofNat_lt.1 n1
  have q2 : c < 256 := Int.ofNat_lt.1 b1
  clear n1 b1 n0 b0
  have h := bits_or_u64_nat (m * 256) c (by omega) (by omega)
  have e : m * 256 ||| c = m * 256 + c := by
    have := Nat.shiftLeft_add_eq_or_of_lt (b := c) (i := 8) (by omega) m
    rw [Nat.shiftLeft_eq] at this
    exact this.symm
  rw [e] at h
  rw [e1, e2] at h
  exact h
set_option maxRecDepth 100000 in
theorem get_t (s : ByteArray) (w : World) (hs : s.size ≤ 4) : Calls Try.prog 46 #[.string s] w fun e w' => e = .returned (.int .u64 (getF s)) ∧ w' = w := by
  have h8 : decide ((8 : Int) < (s.size : Int)) = false := by simp; omega
  have h8' : decide (8 < s.size) = false := by simp; omega
  go_enter Try.func46, Try.ntmps46
  go_wp2
  go_loop [3, 4, 15] (fun v3 v4 v15 => ∃ k : Nat, k ≤ s.size ∧ v15 = .int .i64 k ∧ v3 = .int .u64 (getL (s.data.toList.take k))) (fun _ _ v15 => s.size - (intOf v15).toNat)
  case atStart => exact ⟨0, by omega, rfl, rfl⟩
  case round =>
    obtain ⟨k, hk, rfl, rfl⟩ := hrel
    have hbd := getL_bd k (s.data.toList.take k) (by rw [List.length_take, Array.length_toList]; exact Nat.min_eq_left hk)
    have hb2 : getL (s.data.toList.take k) < 16777216 ∨ k = 4 := by
      have : k = 0 ∨ k = 1 ∨ k = 2 ∨ k = 3 ∨ k = 4 := by omega
      rcases this with rfl | rfl | rfl | rfl | rfl
      all_goals first | (left; have := hbd.2; omega) | (right; rfl)
    by_cases hlt : k < s.size
    · have hb3 : getL (s.data.toList.take k) < 16777216 := by rcases hb2 with h | h <;> omega
      have hb0 := hbd.1
      have HS : Hid (getL (s.data.toList.take (k + 1)) = getL (s.data.toList.take k) * 256 + ((s[k]'hlt).toNat : Int)) := Lib.hid (by
        have : s.data.toList.take (k + 1) = s.data.toList.take k ++ [s[k]'hlt] := by
          rw [List.take_succ_eq_append_getElem (by rw [Array.length_toList]; exact hlt)]; rfl
        rw [this, getL_snoc])
      obtain ⟨x, hx⟩ : ∃ x, s[k]'hlt = x := ⟨_, rfl⟩
      rw [hx] at HS
      have hx0 := x.toNat_lt
      generalize getL (s.data.toList.take k) = z at *
      clear hbd hb2
      have hor := or_low (n := z) (b := (x.toNat : Int)) hb0 hb3 (by omega) (by omega)
      go_wp2
      go_round
      case rel => exact ⟨k + 1, by omega, by go_num, by rw [HS.out]⟩
      case measure => simp [intOf]; omega
    · obtain rfl : k = s.size := by omega
      have HE : Hid (getF s = getL (s.data.toList.take s.size)) := Lib.hid (by rw [getF, List.take_of_length_le (by rw [Array.length_toList]; show s.size ≤ s.size; omega)])
      clear hbd hb2
      go_wp2
      go_ret
      exact ⟨by rw [HE.out]; rfl, rfl⟩
theorem take_size {c : Cu} (ok : CuOK c) (n : Int) : (takeF c n).1.size ≤ n.toNat := by
  unfold takeF
  split
  · split
    · simp only [ByteArray.size_extract]; omega
    · exact Nat.zero_le _
  · exact Nat.zero_le _
def numF (c : Cu) (n : Int) : Int := getF (takeF c n).1
set_option maxRecDepth 100000 in
theorem number_t (g : Nat) (c : Cu) (n : Int) (w : World) (h : CurAt w g c) (ok : CuOK c) (h4 : n ≤ 4) : Calls Try.prog 24 #[.pointer (some ⟨g, 0, none⟩), .int .i64 n] w fun e w' => e = .returned (.int .u64 (numF c n)) ∧ CurAt w' g (takeF c n).2 ∧ w.grownBy w' (some g) := by
  have HC := Lib.hid h
  have HO := Lib.hid ok
  have hsz := take_size ok n
  have hsz4 : (takeF c n).1.size ≤ 4 := by omega
  have HS := Lib.hid hsz4
  clear h ok hsz hsz4 h4
  go_enter Try.func24, Try.ntmps24
  go_wp2_with fail
  refine (take_t g c n _ HC.out HO.out).mono ?_
  rintro e w2 ⟨rfl, hc, hg⟩
  have HC2 := Lib.hid hc
  have HG2 := Lib.hid hg
  clear hc hg
  go_wp2_with fail
  refine (get_t (takeF c n).1 _ HS.out).mono ?_
  rintro e w3 ⟨rfl, hw⟩
  subst hw
  have HE : Hid (numF c n = getF (takeF c n).1) := Lib.hid rfl
  go_wp2
  go_ret
  exact ⟨by rw [HE.out]; rfl, HC2.out, HG2.out⟩
def failF (c : Cu) (e : Int) : Cu := if readyB c = true then { c with err := e } else c
theorem failF_ok {c : Cu} (ok : CuOK c) (e : Int) : CuOK (failF c e) := by
  unfold failF; split <;> exact ⟨ok.pos, ok.size⟩
set_option maxRecDepth 100000 in
theorem fail_t (g : Nat) (c : Cu) (e0 : Int) (w : World) (h : CurAt w g c) : Calls Try.prog 28 #[.pointer (some ⟨g, 0, none⟩), .int .i64 e0] w fun e w' => e = .returned (.tuple #[]) ∧ CurAt w' g (failF c e0) ∧ w.grownBy w' (some g) := by
  have HC := Lib.hid h
  clear h
  go_enter Try.func28, Try.ntmps28
  go_wp2_with fail
  refine (ready_t g c _ HC.out).mono ?_
  rintro e w1x ⟨rfl, hw⟩
  subst hw
  cases hr : readyB c
  · have HE : Hid (failF c e0 = c) := Lib.hid (by simp only [failF, hr, if_false, Bool.false_eq_true])
    go_wp2
    go_end0
    exact ⟨rfl, by rw [HE.out]; exact HC.out, grown_refl _ _⟩
  · have HE : Hid (failF c e0 = { c with err := e0 }) := Lib.hid (by simp only [failF, hr, if_true])
    obtain ⟨c0, c1, c2⟩ := cur_cells HC.out
    have f2 := cur_free HC.out 2
    have HX := Lib.hid (cur_err HC.out e0)
    clear c0 c1
    go_wp2
    go_end0
    exact ⟨rfl, by rw [HE.out]; exact HX.out, grown_set _ _ _ _⟩
def restF (c : Cu) : ByteArray := c.s.extract c.pos c.s.size
set_option maxRecDepth 100000 in
theorem rest_t (g : Nat) (c : Cu) (w : World) (h : CurAt w g c) (ok : CuOK c) : Calls Try.prog 49 #[.pointer (some ⟨g, 0, none⟩)] w fun e w' => e = .returned (.string (restF c)) ∧ CurAt w' g c ∧ w.grownBy w' (some g) := by
  obtain ⟨c0, c1, c2⟩ := cur_cells h
  obtain ⟨o1, o2⟩ := ok
  have HC := Lib.hid h
  have HE : Hid (restF c = c.s.extract c.pos c.s.size) := Lib.hid rfl
  have i1 : (0 : Int) ≤ (c.pos : Int) := by omega
  have i2 : (c.pos : Int) ≤ (c.s.size : Int) := by omega
  clear h c2
  go_enter Try.func49, Try.ntmps49
  go_wp2
  go_quiet (fail)
  go_wp2
  go_ret
  exact ⟨by rw [HE.out]; rfl, HC.out, grown_drewN _ _ _⟩
def leftF (c : Cu) : Int := (c.s.size : Int) - (c.pos : Int)
theorem rest_size {c : Cu} (ok : CuOK c) : ((restF c).size : Int) = leftF c := by
  have := ok.pos
  simp only [restF, leftF, ByteArray.size_extract]; omega
set_option maxRecDepth 100000 in
theorem left_t (g : Nat) (c : Cu) (w : World) (h : CurAt w g c) (ok : CuOK c) : Calls Try.prog 27 #[.pointer (some ⟨g, 0, none⟩)] w fun e w' => e = .returned (.int .i64 (leftF c)) ∧ CurAt w' g c ∧ w.grownBy w' (some g) := by
  have HC := Lib.hid h
  have HO := Lib.hid ok
  have HZ := Lib.hid (rest_size ok)
  clear h ok
  go_enter Try.func27, Try.ntmps27
  go_wp2_with fail
  refine (rest_t g c _ HC.out HO.out).mono ?_
  rintro e w2 ⟨rfl, hc, hg⟩
  have HC2 := Lib.hid hc
  have HG2 := Lib.hid hg
  clear hc hg
  go_wp2
  go_ret
  exact ⟨by rw [← HZ.out]; rfl, HC2.out, HG2.out⟩
set_option maxRecDepth 100000 in
theorem err_t (g : Nat) (c : Cu) (w : World) (h : CurAt w g c) : Calls Try.prog 25 #[.pointer (some ⟨g, 0, none⟩)] w fun e w' => e = .returned (.int .i64 c.err) ∧ w' = w := by
  obtain ⟨c0, c1, c2⟩ := cur_cells h
  clear h c0 c1
  go_enter Try.func25, Try.ntmps25
  go_wp2
  go_ret
  exact ⟨rfl, rfl⟩
def newCu (s : ByteArray) : Cu := ⟨s, 0, 0⟩
set_option maxRecDepth 100000 in
theorem cnew_t (s : ByteArray) (w : World) : Calls Try.prog 23 #[.string s] w fun e w' => e = .returned (.pointer (some ⟨w.heap.size, 0, none⟩)) ∧ w' = w.alloc (.cells (curC (newCu s)) 83) := by
  go_enter Try.func23, Try.ntmps23
  go_wp2
  go_ret
  exact ⟨rfl, rfl⟩
end Go.Proofs.Ytnbgmpfldoaodab
