/- ustring: which texts may be. -/
import Derived.Test.YtnbgmpfldoaodabVarint
import Derived.Laws.RangeAny
namespace Go.Proofs.Ytnbgmpfldoaodab
open Go.RowKit
set_option maxHeartbeats 1000000
set_option linter.unusedVariables false
set_option linter.unusedSimpArgs false
def wholeB (s : ByteArray) : Bool := decide (3 ≤ s.size) && (s.extract 0 3).toList == [239, 191, 189]
set_option maxRecDepth 100000 in
theorem whole_t (s : ByteArray) (w : World) (hs : s.size ≤ 140737488351232) : Calls Try.prog 86 #[.string s] w fun e w' => e = .returned (.bool (wholeB s)) ∧ w = w' := by
  by_cases h : 3 ≤ s.size
  · have HE : Hid (wholeB s = ((s.extract 0 3).toList == [239, 191, 189])) := Lib.hid (by simp [wholeB, h])
    have h3 : (3 : Int) ≤ (s.size : Int) := by omega
    go_enter Try.func86, Try.ntmps86
    go_wp2
    go_ret
    exact ⟨by rw [HE.out]; rfl, rfl⟩
  · have HE : Hid (wholeB s = false) := Lib.hid (by simp [wholeB, h])
    have h3 : decide ((3 : Int) ≤ (s.size : Int)) = false := by simp; omega
    have h4 : decide (3 ≤ s.size) = false := by simp; omega
    clear h
    go_enter Try.func86, Try.ntmps86
    go_wp2
    go_ret
    exact ⟨by rw [HE.out]; rfl, rfl⟩
def badHere (s : ByteArray) (pos : Nat) : Bool := (Utf8.decode s pos).1 == 0 || (Utf8.decode s pos).1 == 65533 && !wholeB (s.extract pos s.size)
def badAt (s : ByteArray) : Nat → Nat → Int
  | 0, _ => -1
  | f + 1, pos => if pos < s.size then if badHere s pos then (pos : Int) else badAt s f (pos + (Utf8.decode s pos).2) else -1
def badF (s : ByteArray) : Int := badAt s s.size 0
theorem width_pos (s : ByteArray) (pos : Nat) (h : pos < s.size) : 1 ≤ (Utf8.decode s pos).2 := by
  by_cases ha : (s[pos]'h).toNat < 128
  · rw [decode_ascii s pos h ha]
    exact Nat.le_refl _
  · exact (decode_high s pos h (by omega)).2
theorem badAt_end (s : ByteArray) (f pos : Nat) (h : ¬ pos < s.size) : badAt s f pos = -1 := by
  cases f with
  | zero => rfl
  | succ f => simp [badAt, h]
set_option maxRecDepth 1000000 in
theorem bad_u (s : ByteArray) (w : World) (hs : s.size ≤ 140737488351232) : Calls Try.prog 79 #[.string s] w fun e w' => e = .returned (.int .i64 (badF s)) ∧ Below w.heap.size w w' := by
  go_enter Try.func79, Try.ntmps79
  go_wp2
  go_loopw [3] (fun v3 w' => ∃ (pos f : Nat), w' = w.iter s pos ∧ badAt s f pos = badF s ∧ s.size ≤ pos + f) (fun _ w' => s.size - w'.iterPos w.heap.size)
  case atStart => exact ⟨0, s.size, rfl, rfl, by omega⟩
  case round =>
    obtain ⟨pos, f, rfl, hc, hb⟩ := hrel
    by_cases hp : pos < s.size
    · obtain ⟨f, rfl⟩ : ∃ g, f = g + 1 := ⟨f - 1, by omega⟩
      have hnx : ∀ ty, (Instr.next (.pointer (some ⟨w.heap.size, 0, none⟩)) true ty).run Try.prog (w.iter s pos) = _ := fun ty => run_next_any w s pos ty hp
      have hwd := width_pos s pos hp
      have hd := decode_le s pos
      have hsz := Lib.hid hs
      have HC : Hid (badF s = if badHere s pos then (pos : Int) else badAt s f (pos + (Utf8.decode s pos).2)) := Lib.hid (by rw [← hc]; simp [badAt, hp])
      have HH : Hid (badHere s pos = ((Utf8.decode s pos).1 == 0 || (Utf8.decode s pos).1 == 65533 && !wholeB (s.extract pos s.size))) := Lib.hid rfl
      clear hc
      generalize hde : Utf8.decode s pos = de at *
      obtain ⟨c, wd⟩ := de
      have HD := Lib.hid hde
      clear hde
      simp only [] at hwd hd
      by_cases h0 : c = 0
      · subst h0
        have HF : Hid (badF s = (pos : Int)) := Lib.hid (by rw [HC.out, HH.out]; simp)
        go_wp2
        go_ret
        exact ⟨by rw [HF.out]; rfl, (Below.refl _ _).alloc (Nat.le_refl _) _⟩
      · have g0 : ((c : Int) == 0) = false := by simp; omega
        by_cases h1 : c = 65533
        · subst h1
          go_wp2_with fail
          refine (whole_t (s.extract pos s.size) _ (by simp; omega)).mono ?_
          rintro e w1 ⟨rfl, rfl⟩
          cases hw : wholeB (s.extract pos s.size) with
          | true =>
            have HF : Hid (badF s = badAt s f (pos + wd)) := Lib.hid (by rw [HC.out, HH.out, hw]; simp)
            clear hw
            go_wp2
            go_roundw
            case rel => exact ⟨pos + wd, f, rfl, HF.out.symm, by omega⟩
            case measure => simp; omega
          | false =>
            have HF : Hid (badF s = (pos : Int)) := Lib.hid (by rw [HC.out, HH.out, hw]; simp)
            clear hw
            go_wp2
            go_ret
            exact ⟨by rw [HF.out]; rfl, (Below.refl _ _).alloc (Nat.le_refl _) _⟩
        · have g1 : ((c : Int) == 65533) = false := by simp; omega
          have HF : Hid (badF s = badAt s f (pos + wd)) := Lib.hid (by rw [HC.out, HH.out]; simp [h0, h1])
          clear h0 h1
          go_wp2
          go_roundw
          case rel => exact ⟨pos + wd, f, rfl, HF.out.symm, by omega⟩
          case measure => simp; omega
    · have hnx : ∀ ty, (Instr.next (.pointer (some ⟨w.heap.size, 0, none⟩)) true ty).run Try.prog (w.iter s pos) = _ := fun ty => run_next_end w s pos ty hp
      have HF : Hid (badF s = -1) := Lib.hid (by rw [← hc, badAt_end s f pos hp])
      clear hc
      go_wp2
      go_ret
      exact ⟨by rw [HF.out]; rfl, (Below.refl _ _).alloc (Nat.le_refl _) _⟩
def validU (s : ByteArray) : Bool := decide (s.size ≤ 65535) && badF s == -1
set_option maxRecDepth 100000 in
theorem validu_t (s : ByteArray) (w : World) (hs : s.size ≤ 140737488351232) : Calls Try.prog 63 #[.string s] w fun e w' => e = .returned (.bool (validU s)) ∧ Below w.heap.size w w' := by
  by_cases h : s.size ≤ 65535
  · have HE : Hid (validU s = (badF s == -1)) := Lib.hid (by simp [validU, h])
    have h3 : decide ((s.size : Int) ≤ 65535) = true := by simp; omega
    go_enter Try.func63, Try.ntmps63
    go_wp2_with fail
    refine (bad_u s _ hs).mono ?_
    rintro e w1 ⟨rfl, hb⟩
    have HB := Lib.hid hb
    clear hb
    go_wp2
    go_ret
    exact ⟨by rw [HE.out]; rfl, HB.out⟩
  · have HE : Hid (validU s = false) := Lib.hid (by simp [validU, h])
    have h3 : decide ((s.size : Int) ≤ 65535) = false := by simp; omega
    have h4 : decide (s.size ≤ 65535) = false := by simp; omega
    clear h
    go_enter Try.func63, Try.ntmps63
    go_wp2
    go_ret
    exact ⟨by rw [HE.out]; rfl, Below.refl _ _⟩
end Go.Proofs.Ytnbgmpfldoaodab
