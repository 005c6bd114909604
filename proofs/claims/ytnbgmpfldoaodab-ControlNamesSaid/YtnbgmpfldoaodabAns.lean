/- reason.Return, reason.Bad: what each answers. -/
import Derived.Test.YtnbgmpfldoaodabHas
import Derived.RegionTactic
import Derived.ChangeAlike
import Derived.OwnWalk
namespace Go.Proofs.Ytnbgmpfldoaodab
open Go.RowKit
set_option maxHeartbeats 400000
set_option linter.unusedVariables false
def badB (c : Int) : Bool := decide (128 ≤ c) && decide (c ≤ 255)
theorem bad_t (c : Int) (w : World) : Calls Try.prog 29 #[.int .i64 c] w fun e w' => e = .returned (.bool (badB c)) ∧ Below w.heap.size w w' := by
  by_cases h0 : 128 ≤ c
  · have HE : Hid (badB c = decide (c ≤ 255)) := Lib.hid (by simp [badB, h0])
    go_enter Try.func29, Try.ntmps29
    go_wp2
    go_ret
    exact ⟨by rw [HE.out]; rfl, Below.refl _ _⟩
  · have HE : Hid (badB c = false) := Lib.hid (by simp [badB, h0])
    have g0 : decide (128 ≤ c) = false := by simp [h0]
    go_enter Try.func29, Try.ntmps29
    go_wp2
    go_ret
    exact ⟨by rw [HE.out]; rfl, Below.refl _ _⟩
end Go.Proofs.Ytnbgmpfldoaodab
