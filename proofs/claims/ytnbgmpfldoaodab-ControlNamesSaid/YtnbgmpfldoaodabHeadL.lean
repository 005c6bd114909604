/- head: lists of one packet against those of another that has the same or none. -/
import Derived.Test.YtnbgmpfldoaodabBytes
namespace Go.Proofs.Ytnbgmpfldoaodab
open Go.RowKit
set_option maxHeartbeats 1000000
set_option linter.unusedVariables false
set_option linter.unusedSimpArgs false
set_option maxRecDepth 100000 in
theorem eqp_t (p : Prp) (w : World) : Calls Try.prog 78 #[.agg #[.int .i64 p.id, .int .u32 p.n, .string p.text, .string p.value], .agg #[.int .i64 p.id, .int .u32 p.n, .string p.text, .string p.value]] w fun e w' => e = .returned (.bool true) ∧ Below w.heap.size w w' := by
  go_enter Try.func78, Try.ntmps78
  go_wp2
  go_ret
  exact ⟨by first | rfl | simp, ((Below.refl _ _).alloc (Nat.le_refl _) _).alloc (by simp) _⟩
set_option maxRecDepth 100000 in
theorem listp_self (A : Option Addr) (n c : Nat) (l : List Prp) (w : World) (hr : RP w A n l) : Calls Try.prog 57 #[.slice A n c, .slice A n c] w fun e w' => e = .returned (.bool true) ∧ Below w.heap.size w w' := by
  obtain ⟨hl, hn, -, hc⟩ := hr
  have HC := Lib.hid hc
  have HL := Lib.hid hl
  clear hc hl
  go_enter Try.func57, Try.ntmps57
  go_wp2
  go_loopw [17] (fun v17 wr => ∃ k : Nat, k ≤ n ∧ v17 = .int .i64 k ∧ Below w.heap.size w wr) (fun v17 _ => n - (intOf v17).toNat)
  case atStart => exact ⟨0, by omega, rfl, Below.refl _ _⟩
  case round =>
    obtain ⟨k, hk, rfl, hbel⟩ := hrel
    have HB := Lib.hid hbel
    by_cases hlt : k < n
    · obtain ⟨b, off, rfl, hblt, hcell⟩ := HC.out (by omega)
      obtain ⟨p, hp⟩ : ∃ p, l[k]? = some p := ⟨l[k]'(by rw [HL.out]; exact hlt), by simp [HL.out, hlt]⟩
      obtain ⟨c0, c1, c2, c3⟩ := (hcell k p hp).below hbel hblt
      have hbw : b < wr.heap.size := Nat.lt_of_lt_of_le hblt hbel.size
      clear hcell hp hbel
      go_wp2_with fail
      refine (eqp_t p _).mono ?_
      rintro e w2 ⟨rfl, hb⟩
      have HB2 := Lib.hid (below_then ((HB.out.alloc HB.out.size _).alloc (by have := HB.out.size; simp; omega) _) (by have := HB.out.size; simp; omega) hb)
      clear hb HB
      go_wp2
      go_roundw
      case rel => exact ⟨k + 1, by omega, by go_num, HB2.out⟩
      case measure => simp [intOf]; omega
    · have hkn : k = n := by omega
      clear hbel
      go_wp2
      go_ret
      exact ⟨rfl, HB.out⟩
set_option maxRecDepth 100000 in
theorem listp_nil (A : Option Addr) (n c : Nat) (w : World) : Calls Try.prog 57 #[.slice A n c, .slice none 0 0] w fun e w' => e = .returned (.bool (n == 0)) ∧ Below w.heap.size w w' := by
  by_cases h : n = 0
  · subst h
    go_enter Try.func57, Try.ntmps57
    go_wp2
    go_rounds 1
    go_ret
    exact ⟨rfl, Below.refl _ _⟩
  · have HE : Hid ((n == 0) = false) := Lib.hid (by simpa using h)
    have hd : ((n : Int) != 0) = true := by simp; omega
    clear h
    go_enter Try.func57, Try.ntmps57
    go_wp2
    go_ret
    exact ⟨by rw [HE.out]; rfl, Below.refl _ _⟩
set_option maxRecDepth 100000 in
theorem listi_nil (A : Option Addr) (n c : Nat) (w : World) : Calls Try.prog 55 #[.slice A n c, .slice none 0 0] w fun e w' => e = .returned (.bool (n == 0)) ∧ Below w.heap.size w w' := by
  by_cases h : n = 0
  · subst h
    go_enter Try.func55, Try.ntmps55
    go_wp2
    go_rounds 1
    go_ret
    exact ⟨rfl, Below.refl _ _⟩
  · have HE : Hid ((n == 0) = false) := Lib.hid (by simpa using h)
    have hd : ((n : Int) != 0) = true := by simp; omega
    clear h
    go_enter Try.func55, Try.ntmps55
    go_wp2
    go_ret
    exact ⟨by rw [HE.out]; rfl, Below.refl _ _⟩
set_option maxRecDepth 100000 in
theorem listf_nil (A : Option Addr) (n c : Nat) (w : World) : Calls Try.prog 56 #[.slice A n c, .slice none 0 0] w fun e w' => e = .returned (.bool (n == 0)) ∧ Below w.heap.size w w' := by
  by_cases h : n = 0
  · subst h
    go_enter Try.func56, Try.ntmps56
    go_wp2
    go_rounds 1
    go_ret
    exact ⟨rfl, Below.refl _ _⟩
  · have HE : Hid ((n == 0) = false) := Lib.hid (by simpa using h)
    have hd : ((n : Int) != 0) = true := by simp; omega
    clear h
    go_enter Try.func56, Try.ntmps56
    go_wp2
    go_ret
    exact ⟨by rw [HE.out]; rfl, Below.refl _ _⟩
/-- A slice against one that is none, or the same. -/
def SlRel (A : Option Addr) (n c : Nat) (B : Option Addr) (m d : Nat) : Prop := (B = none ∧ m = 0 ∧ d = 0) ∨ (B = A ∧ m = n ∧ d = c)
theorem listp_t (A B : Option Addr) (n c m d : Nat) (l : List Prp) (w : World) (hr : RP w A n l) (h : SlRel A n c B m d) : Calls Try.prog 57 #[.slice A n c, .slice B m d] w fun e w' => e = .returned (.bool (n == m)) ∧ Below w.heap.size w w' := by
  rcases h with ⟨rfl, rfl, rfl⟩ | ⟨rfl, rfl, rfl⟩
  · exact listp_nil A n c w
  · have := listp_self B m d l w hr
    rw [show (m == m) = true from by simp]
    exact this
end Go.Proofs.Ytnbgmpfldoaodab
