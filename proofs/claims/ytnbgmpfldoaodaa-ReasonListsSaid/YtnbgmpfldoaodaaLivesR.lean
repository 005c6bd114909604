/- The chapter's examples hold: 'lives' of chapter 6 answers true. -/
import Derived.Test.YtnbgmpfldoaodaaText
namespace Go.Proofs.Ytnbgmpfldoaodaa
open Go.RowKit
set_option maxHeartbeats 400000
set_option maxRecDepth 100000 in
theorem lives06_t (w : World) : Calls Try.prog 13 #[] w fun e w' => e = .returned (.bool true) ∧ Below w.heap.size w w' := by
  go_enter Try.func13, Try.ntmps13
  go_wp2_with fail
  refine (to5_t 3 _).mono ?_
  rintro e w1 ⟨rfl, hb1⟩
  go_wp2_with fail
  refine (may_t 6 146 _).mono ?_
  rintro e w2 ⟨rfl, hb2⟩
  rw [show mayB 6 146 = true from by decide]
  have e1 : (to5 3).1 = 136 := rfl
  have e2 : (to5 3).2 = true := rfl
  rw [e1, e2]
  clear e1 e2
  go_wp2_with fail
  refine (text_t 24 _).mono ?_
  rintro e w3 ⟨rfl, hb3⟩
  rw [show textS 24 = ⟨#[49, 56]⟩ from by decide +kernel]
  have hb := Lib.hid (below_then (below_then hb1 hb1.size hb2) (Nat.le_trans hb1.size hb2.size) hb3)
  clear hb1 hb2 hb3
  go_wp2
  go_ret
  exact ⟨rfl, hb.out⟩
end Go.Proofs.Ytnbgmpfldoaodaa
