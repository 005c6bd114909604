/- The calls of package reason: what each answers. -/
import Derived.Test.YtnbgmpfldoaodaaHas
import Derived.RegionTactic
import Derived.ChangeAlike
import Derived.OwnWalk
namespace Go.Proofs.Ytnbgmpfldoaodaa
open Go.RowKit
set_option maxHeartbeats 400000
set_option linter.unusedVariables false
set_option linter.unusedSimpArgs false
def to5 (c : Int) : Int × Bool := if c = 0 then (0, true) else if c = 1 then (132, true) else if c = 2 then (133, true) else if c = 3 then (136, true) else if c = 4 then (134, true) else if c = 5 then (135, true) else (0, false)
theorem to5_t (c : Int) (w : World) : Calls Try.prog 14 #[.int .i64 c] w fun e w' => e = .returned (.tuple #[.int .i64 (to5 c).1, .bool (to5 c).2]) ∧ Below w.heap.size w w' := by
  by_cases h0 : c = 0
  · subst h0; go_enter Try.func14, Try.ntmps14; go_wp2; go_ret2; exact ⟨rfl, Below.refl _ _⟩
  by_cases h1 : c = 1
  · subst h1; go_enter Try.func14, Try.ntmps14; go_wp2; go_ret2; exact ⟨rfl, Below.refl _ _⟩
  by_cases h2 : c = 2
  · subst h2; go_enter Try.func14, Try.ntmps14; go_wp2; go_ret2; exact ⟨rfl, Below.refl _ _⟩
  by_cases h3 : c = 3
  · subst h3; go_enter Try.func14, Try.ntmps14; go_wp2; go_ret2; exact ⟨rfl, Below.refl _ _⟩
  by_cases h4 : c = 4
  · subst h4; go_enter Try.func14, Try.ntmps14; go_wp2; go_ret2; exact ⟨rfl, Below.refl _ _⟩
  by_cases h5 : c = 5
  · subst h5; go_enter Try.func14, Try.ntmps14; go_wp2; go_ret2; exact ⟨rfl, Below.refl _ _⟩
  have HE : Hid (to5 c = (0, false)) := Lib.hid (by simp [to5, h0, h1, h2, h3, h4, h5])
  have g0 : (c == 0) = false := by simp [h0]
  have g1 : (c == 1) = false := by simp [h1]
  have g2 : (c == 2) = false := by simp [h2]
  have g3 : (c == 3) = false := by simp [h3]
  have g4 : (c == 4) = false := by simp [h4]
  have g5 : (c == 5) = false := by simp [h5]
  clear h0 h1 h2 h3 h4 h5
  go_enter Try.func14, Try.ntmps14
  go_wp2
  go_ret2
  exact ⟨by rw [HE.out]; rfl, Below.refl _ _⟩
def returnB (c : Int) : Bool := decide (0 ≤ c) && decide (c ≤ 5)
theorem return_t (c : Int) (w : World) : Calls Try.prog 15 #[.int .i64 c] w fun e w' => e = .returned (.bool (returnB c)) ∧ Below w.heap.size w w' := by
  by_cases h0 : 0 ≤ c
  · have HE : Hid (returnB c = decide (c ≤ 5)) := Lib.hid (by simp [returnB, h0])
    go_enter Try.func15, Try.ntmps15
    go_wp2
    go_ret
    exact ⟨by rw [HE.out]; rfl, Below.refl _ _⟩
  · have HE : Hid (returnB c = false) := Lib.hid (by simp [returnB, h0])
    have g0 : decide (0 ≤ c) = false := by simp [h0]
    go_enter Try.func15, Try.ntmps15
    go_wp2
    go_ret
    exact ⟨by rw [HE.out]; rfl, Below.refl _ _⟩
def badB (c : Int) : Bool := decide (128 ≤ c) && decide (c ≤ 255)
theorem bad_t (c : Int) (w : World) : Calls Try.prog 18 #[.int .i64 c] w fun e w' => e = .returned (.bool (badB c)) ∧ Below w.heap.size w w' := by
  by_cases h0 : 128 ≤ c
  · have HE : Hid (badB c = decide (c ≤ 255)) := Lib.hid (by simp [badB, h0])
    go_enter Try.func18, Try.ntmps18
    go_wp2
    go_ret
    exact ⟨by rw [HE.out]; rfl, Below.refl _ _⟩
  · have HE : Hid (badB c = false) := Lib.hid (by simp [badB, h0])
    have g0 : decide (128 ≤ c) = false := by simp [h0]
    go_enter Try.func18, Try.ntmps18
    go_wp2
    go_ret
    exact ⟨by rw [HE.out]; rfl, Below.refl _ _⟩
def grantB (c : Int) : Bool := c == 0 || c == 1 || c == 2 || c == 128
theorem grant_t (c : Int) (w : World) : Calls Try.prog 22 #[.int .i64 c] w fun e w' => e = .returned (.bool (grantB c)) ∧ Below w.heap.size w w' := by
  by_cases h0 : c = 0
  · subst h0; go_enter Try.func22, Try.ntmps22; go_wp2; go_ret; exact ⟨rfl, Below.refl _ _⟩
  by_cases h1 : c = 1
  · subst h1; go_enter Try.func22, Try.ntmps22; go_wp2; go_ret; exact ⟨rfl, Below.refl _ _⟩
  by_cases h2 : c = 2
  · subst h2; go_enter Try.func22, Try.ntmps22; go_wp2; go_ret; exact ⟨rfl, Below.refl _ _⟩
  by_cases h3 : c = 128
  · subst h3; go_enter Try.func22, Try.ntmps22; go_wp2; go_ret; exact ⟨rfl, Below.refl _ _⟩
  have HE : Hid (grantB c = false) := Lib.hid (by simp [grantB, h0, h1, h2, h3])
  have g0 : (c == 0) = false := by simp [h0]
  have g1 : (c == 1) = false := by simp [h1]
  have g2 : (c == 2) = false := by simp [h2]
  have g3 : (c == 128) = false := by simp [h3]
  clear h0 h1 h2 h3
  go_enter Try.func22, Try.ntmps22
  go_wp2
  go_ret
  exact ⟨by rw [HE.out]; rfl, Below.refl _ _⟩
def to311 (c : Int) : Int × Bool := if c = 0 then (0, true) else if c = 132 then (1, true) else if c = 133 then (2, true) else if c = 136 then (3, true) else if c = 134 then (4, true) else if c = 135 then (5, true) else (0, false)
set_option maxRecDepth 100000 in
set_option maxHeartbeats 4000000 in
theorem to311_t (c : Int) (w : World) : Calls Try.prog 16 #[.int .i64 c] w fun e w' => e = .returned (.tuple #[.int .i64 (to311 c).1, .bool (to311 c).2]) ∧ Below w.heap.size w w' := by
  by_cases h0 : c = 0
  · subst h0; go_enter Try.func16, Try.ntmps16; go_wp2; go_rounds 7; go_ret2; exact ⟨rfl, Below.refl _ _⟩
  by_cases h132 : c = 132
  · subst h132; go_enter Try.func16, Try.ntmps16; go_wp2; go_rounds 7; go_ret2; exact ⟨rfl, Below.refl _ _⟩
  by_cases h133 : c = 133
  · subst h133; go_enter Try.func16, Try.ntmps16; go_wp2; go_rounds 7; go_ret2; exact ⟨rfl, Below.refl _ _⟩
  by_cases h136 : c = 136
  · subst h136; go_enter Try.func16, Try.ntmps16; go_wp2; go_rounds 7; go_ret2; exact ⟨rfl, Below.refl _ _⟩
  by_cases h134 : c = 134
  · subst h134; go_enter Try.func16, Try.ntmps16; go_wp2; go_rounds 7; go_ret2; exact ⟨rfl, Below.refl _ _⟩
  by_cases h135 : c = 135
  · subst h135; go_enter Try.func16, Try.ntmps16; go_wp2; go_rounds 7; go_ret2; exact ⟨rfl, Below.refl _ _⟩
  have HE : Hid (to311 c = (0, false)) := Lib.hid (by simp [to311, h0, h132, h133, h136, h134, h135])
  have g0 : (0 == c) = false := by simp; omega
  have g132 : (132 == c) = false := by simp; omega
  have g133 : (133 == c) = false := by simp; omega
  have g136 : (136 == c) = false := by simp; omega
  have g134 : (134 == c) = false := by simp; omega
  have g135 : (135 == c) = false := by simp; omega
  clear h0 h132 h133 h136 h134 h135
  go_enter Try.func16, Try.ntmps16
  go_wp2
  go_rounds 7
  go_ret2
  exact ⟨by rw [HE.out]; rfl, Below.refl _ _⟩
end Go.Proofs.Ytnbgmpfldoaodaa
