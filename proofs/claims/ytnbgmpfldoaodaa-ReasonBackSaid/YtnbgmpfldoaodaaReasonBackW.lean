/- The law ReasonBack of chapter 6: its walk. -/
import Derived.Test.YtnbgmpfldoaodaaLivesR
namespace Go.Proofs.Ytnbgmpfldoaodaa
open Go.RowKit
set_option maxHeartbeats 1000000
theorem ext_then {w w1 w2 : World} (h : Below w.heap.size w w1) (k : Below w1.heap.size w1 w2) : Below w.heap.size w w2 := below_then h h.size k
set_option maxRecDepth 100000 in
theorem back_0 (w : World) : Calls Try.prog 3 #[.int .i64 0] w fun e w' => e = .returned (.bool true) ∧ Below w.heap.size w w' := by
  have HB0 := Lib.hid (Below.refl w.heap.size w)
  go_enter Try.func3, Try.ntmps3
  go_wp2_with fail
  refine (lives06_t _).mono ?_
  rintro e w1 ⟨rfl, hb⟩
  have HB1 := Lib.hid (ext_then (w := w) (by repeat (first | exact HB0.out | refine Below.drew ?_ | (refine Below.alloc ?_ (by first | exact (HB0.out).size | (simp; done) | (have := (HB0.out).size; simp; omega)) _) | (refine Below.setCell ?_ (by first | (simp; done) | (have := (HB0.out).size; simp; omega)) _))) hb)
  clear hb HB0
  go_wp2_with fail
  refine (to5_t 0 _).mono ?_
  rintro e w2 ⟨rfl, hb⟩
  have HB2 := Lib.hid (ext_then (w := w) (by repeat (first | exact HB1.out | refine Below.drew ?_ | (refine Below.alloc ?_ (by first | exact (HB1.out).size | (simp; done) | (have := (HB1.out).size; simp; omega)) _) | (refine Below.setCell ?_ (by first | (simp; done) | (have := (HB1.out).size; simp; omega)) _))) hb)
  clear hb HB1
  rw [show to5 0 = (0, true) from rfl]
  go_wp2_with fail
  refine (return_t 0 _).mono ?_
  rintro e w3 ⟨rfl, hb⟩
  have HB3 := Lib.hid (ext_then (w := w) (by repeat (first | exact HB2.out | refine Below.drew ?_ | (refine Below.alloc ?_ (by first | exact (HB2.out).size | (simp; done) | (have := (HB2.out).size; simp; omega)) _) | (refine Below.setCell ?_ (by first | (simp; done) | (have := (HB2.out).size; simp; omega)) _))) hb)
  clear hb HB2
  rw [show returnB 0 = true from rfl]
  go_wp2_with fail
  refine (to311_t 0 _).mono ?_
  rintro e w4 ⟨rfl, hb⟩
  have HB4 := Lib.hid (ext_then (w := w) (by repeat (first | exact HB3.out | refine Below.drew ?_ | (refine Below.alloc ?_ (by first | exact (HB3.out).size | (simp; done) | (have := (HB3.out).size; simp; omega)) _) | (refine Below.setCell ?_ (by first | (simp; done) | (have := (HB3.out).size; simp; omega)) _))) hb)
  clear hb HB3
  rw [show to311 0 = (0, true) from rfl]
  go_wp2_with fail
  refine (may_t 2 0 _).mono ?_
  rintro e w5 ⟨rfl, hb⟩
  have HB5 := Lib.hid (ext_then (w := w) (by repeat (first | exact HB4.out | refine Below.drew ?_ | (refine Below.alloc ?_ (by first | exact (HB4.out).size | (simp; done) | (have := (HB4.out).size; simp; omega)) _) | (refine Below.setCell ?_ (by first | (simp; done) | (have := (HB4.out).size; simp; omega)) _))) hb)
  clear hb HB4
  rw [show mayB 2 0 = true from by decide]
  go_wp2_with fail
  refine (bad_t 0 _).mono ?_
  rintro e w6 ⟨rfl, hb⟩
  have HB6 := Lib.hid (ext_then (w := w) (by repeat (first | exact HB5.out | refine Below.drew ?_ | (refine Below.alloc ?_ (by first | exact (HB5.out).size | (simp; done) | (have := (HB5.out).size; simp; omega)) _) | (refine Below.setCell ?_ (by first | (simp; done) | (have := (HB5.out).size; simp; omega)) _))) hb)
  clear hb HB5
  rw [show badB 0 = false from rfl]
  go_wp2_with fail
  refine (to311_t 0 _).mono ?_
  rintro e w7 ⟨rfl, hb⟩
  have HB7 := Lib.hid (ext_then (w := w) (by repeat (first | exact HB6.out | refine Below.drew ?_ | (refine Below.alloc ?_ (by first | exact (HB6.out).size | (simp; done) | (have := (HB6.out).size; simp; omega)) _) | (refine Below.setCell ?_ (by first | (simp; done) | (have := (HB6.out).size; simp; omega)) _))) hb)
  clear hb HB6
  rw [show to311 0 = (0, true) from rfl]
  go_wp2_with fail
  refine (to5_t 0 _).mono ?_
  rintro e w8 ⟨rfl, hb⟩
  have HB8 := Lib.hid (ext_then (w := w) (by repeat (first | exact HB7.out | refine Below.drew ?_ | (refine Below.alloc ?_ (by first | exact (HB7.out).size | (simp; done) | (have := (HB7.out).size; simp; omega)) _) | (refine Below.setCell ?_ (by first | (simp; done) | (have := (HB7.out).size; simp; omega)) _))) hb)
  clear hb HB7
  rw [show to5 0 = (0, true) from rfl]
  go_wp2
  go_ret
  exact ⟨rfl, (by repeat (first | exact HB8.out | refine Below.drew ?_ | (refine Below.alloc ?_ (by first | exact (HB8.out).size | (simp; done) | (have := (HB8.out).size; simp; omega)) _) | (refine Below.setCell ?_ (by first | (simp; done) | (have := (HB8.out).size; simp; omega)) _)))⟩
set_option maxRecDepth 100000 in
theorem back_1 (w : World) : Calls Try.prog 3 #[.int .i64 1] w fun e w' => e = .returned (.bool true) ∧ Below w.heap.size w w' := by
  have HB0 := Lib.hid (Below.refl w.heap.size w)
  go_enter Try.func3, Try.ntmps3
  go_wp2_with fail
  refine (lives06_t _).mono ?_
  rintro e w1 ⟨rfl, hb⟩
  have HB1 := Lib.hid (ext_then (w := w) (by repeat (first | exact HB0.out | refine Below.drew ?_ | (refine Below.alloc ?_ (by first | exact (HB0.out).size | (simp; done) | (have := (HB0.out).size; simp; omega)) _) | (refine Below.setCell ?_ (by first | (simp; done) | (have := (HB0.out).size; simp; omega)) _))) hb)
  clear hb HB0
  go_wp2_with fail
  refine (to5_t 1 _).mono ?_
  rintro e w2 ⟨rfl, hb⟩
  have HB2 := Lib.hid (ext_then (w := w) (by repeat (first | exact HB1.out | refine Below.drew ?_ | (refine Below.alloc ?_ (by first | exact (HB1.out).size | (simp; done) | (have := (HB1.out).size; simp; omega)) _) | (refine Below.setCell ?_ (by first | (simp; done) | (have := (HB1.out).size; simp; omega)) _))) hb)
  clear hb HB1
  rw [show to5 1 = (132, true) from rfl]
  go_wp2_with fail
  refine (return_t 1 _).mono ?_
  rintro e w3 ⟨rfl, hb⟩
  have HB3 := Lib.hid (ext_then (w := w) (by repeat (first | exact HB2.out | refine Below.drew ?_ | (refine Below.alloc ?_ (by first | exact (HB2.out).size | (simp; done) | (have := (HB2.out).size; simp; omega)) _) | (refine Below.setCell ?_ (by first | (simp; done) | (have := (HB2.out).size; simp; omega)) _))) hb)
  clear hb HB2
  rw [show returnB 1 = true from rfl]
  go_wp2_with fail
  refine (to311_t 132 _).mono ?_
  rintro e w4 ⟨rfl, hb⟩
  have HB4 := Lib.hid (ext_then (w := w) (by repeat (first | exact HB3.out | refine Below.drew ?_ | (refine Below.alloc ?_ (by first | exact (HB3.out).size | (simp; done) | (have := (HB3.out).size; simp; omega)) _) | (refine Below.setCell ?_ (by first | (simp; done) | (have := (HB3.out).size; simp; omega)) _))) hb)
  clear hb HB3
  rw [show to311 132 = (1, true) from rfl]
  go_wp2_with fail
  refine (may_t 2 132 _).mono ?_
  rintro e w5 ⟨rfl, hb⟩
  have HB5 := Lib.hid (ext_then (w := w) (by repeat (first | exact HB4.out | refine Below.drew ?_ | (refine Below.alloc ?_ (by first | exact (HB4.out).size | (simp; done) | (have := (HB4.out).size; simp; omega)) _) | (refine Below.setCell ?_ (by first | (simp; done) | (have := (HB4.out).size; simp; omega)) _))) hb)
  clear hb HB4
  rw [show mayB 2 132 = true from by decide]
  go_wp2_with fail
  refine (bad_t 132 _).mono ?_
  rintro e w6 ⟨rfl, hb⟩
  have HB6 := Lib.hid (ext_then (w := w) (by repeat (first | exact HB5.out | refine Below.drew ?_ | (refine Below.alloc ?_ (by first | exact (HB5.out).size | (simp; done) | (have := (HB5.out).size; simp; omega)) _) | (refine Below.setCell ?_ (by first | (simp; done) | (have := (HB5.out).size; simp; omega)) _))) hb)
  clear hb HB5
  rw [show badB 132 = true from rfl]
  go_wp2_with fail
  refine (to311_t 1 _).mono ?_
  rintro e w7 ⟨rfl, hb⟩
  have HB7 := Lib.hid (ext_then (w := w) (by repeat (first | exact HB6.out | refine Below.drew ?_ | (refine Below.alloc ?_ (by first | exact (HB6.out).size | (simp; done) | (have := (HB6.out).size; simp; omega)) _) | (refine Below.setCell ?_ (by first | (simp; done) | (have := (HB6.out).size; simp; omega)) _))) hb)
  clear hb HB6
  rw [show to311 1 = (0, false) from rfl]
  go_wp2
  go_ret
  exact ⟨rfl, (by repeat (first | exact HB7.out | refine Below.drew ?_ | (refine Below.alloc ?_ (by first | exact (HB7.out).size | (simp; done) | (have := (HB7.out).size; simp; omega)) _) | (refine Below.setCell ?_ (by first | (simp; done) | (have := (HB7.out).size; simp; omega)) _)))⟩
set_option maxRecDepth 100000 in
theorem back_2 (w : World) : Calls Try.prog 3 #[.int .i64 2] w fun e w' => e = .returned (.bool true) ∧ Below w.heap.size w w' := by
  have HB0 := Lib.hid (Below.refl w.heap.size w)
  go_enter Try.func3, Try.ntmps3
  go_wp2_with fail
  refine (lives06_t _).mono ?_
  rintro e w1 ⟨rfl, hb⟩
  have HB1 := Lib.hid (ext_then (w := w) (by repeat (first | exact HB0.out | refine Below.drew ?_ | (refine Below.alloc ?_ (by first | exact (HB0.out).size | (simp; done) | (have := (HB0.out).size; simp; omega)) _) | (refine Below.setCell ?_ (by first | (simp; done) | (have := (HB0.out).size; simp; omega)) _))) hb)
  clear hb HB0
  go_wp2_with fail
  refine (to5_t 2 _).mono ?_
  rintro e w2 ⟨rfl, hb⟩
  have HB2 := Lib.hid (ext_then (w := w) (by repeat (first | exact HB1.out | refine Below.drew ?_ | (refine Below.alloc ?_ (by first | exact (HB1.out).size | (simp; done) | (have := (HB1.out).size; simp; omega)) _) | (refine Below.setCell ?_ (by first | (simp; done) | (have := (HB1.out).size; simp; omega)) _))) hb)
  clear hb HB1
  rw [show to5 2 = (133, true) from rfl]
  go_wp2_with fail
  refine (return_t 2 _).mono ?_
  rintro e w3 ⟨rfl, hb⟩
  have HB3 := Lib.hid (ext_then (w := w) (by repeat (first | exact HB2.out | refine Below.drew ?_ | (refine Below.alloc ?_ (by first | exact (HB2.out).size | (simp; done) | (have := (HB2.out).size; simp; omega)) _) | (refine Below.setCell ?_ (by first | (simp; done) | (have := (HB2.out).size; simp; omega)) _))) hb)
  clear hb HB2
  rw [show returnB 2 = true from rfl]
  go_wp2_with fail
  refine (to311_t 133 _).mono ?_
  rintro e w4 ⟨rfl, hb⟩
  have HB4 := Lib.hid (ext_then (w := w) (by repeat (first | exact HB3.out | refine Below.drew ?_ | (refine Below.alloc ?_ (by first | exact (HB3.out).size | (simp; done) | (have := (HB3.out).size; simp; omega)) _) | (refine Below.setCell ?_ (by first | (simp; done) | (have := (HB3.out).size; simp; omega)) _))) hb)
  clear hb HB3
  rw [show to311 133 = (2, true) from rfl]
  go_wp2_with fail
  refine (may_t 2 133 _).mono ?_
  rintro e w5 ⟨rfl, hb⟩
  have HB5 := Lib.hid (ext_then (w := w) (by repeat (first | exact HB4.out | refine Below.drew ?_ | (refine Below.alloc ?_ (by first | exact (HB4.out).size | (simp; done) | (have := (HB4.out).size; simp; omega)) _) | (refine Below.setCell ?_ (by first | (simp; done) | (have := (HB4.out).size; simp; omega)) _))) hb)
  clear hb HB4
  rw [show mayB 2 133 = true from by decide]
  go_wp2_with fail
  refine (bad_t 133 _).mono ?_
  rintro e w6 ⟨rfl, hb⟩
  have HB6 := Lib.hid (ext_then (w := w) (by repeat (first | exact HB5.out | refine Below.drew ?_ | (refine Below.alloc ?_ (by first | exact (HB5.out).size | (simp; done) | (have := (HB5.out).size; simp; omega)) _) | (refine Below.setCell ?_ (by first | (simp; done) | (have := (HB5.out).size; simp; omega)) _))) hb)
  clear hb HB5
  rw [show badB 133 = true from rfl]
  go_wp2_with fail
  refine (to311_t 2 _).mono ?_
  rintro e w7 ⟨rfl, hb⟩
  have HB7 := Lib.hid (ext_then (w := w) (by repeat (first | exact HB6.out | refine Below.drew ?_ | (refine Below.alloc ?_ (by first | exact (HB6.out).size | (simp; done) | (have := (HB6.out).size; simp; omega)) _) | (refine Below.setCell ?_ (by first | (simp; done) | (have := (HB6.out).size; simp; omega)) _))) hb)
  clear hb HB6
  rw [show to311 2 = (0, false) from rfl]
  go_wp2
  go_ret
  exact ⟨rfl, (by repeat (first | exact HB7.out | refine Below.drew ?_ | (refine Below.alloc ?_ (by first | exact (HB7.out).size | (simp; done) | (have := (HB7.out).size; simp; omega)) _) | (refine Below.setCell ?_ (by first | (simp; done) | (have := (HB7.out).size; simp; omega)) _)))⟩
set_option maxRecDepth 100000 in
theorem back_3 (w : World) : Calls Try.prog 3 #[.int .i64 3] w fun e w' => e = .returned (.bool true) ∧ Below w.heap.size w w' := by
  have HB0 := Lib.hid (Below.refl w.heap.size w)
  go_enter Try.func3, Try.ntmps3
  go_wp2_with fail
  refine (lives06_t _).mono ?_
  rintro e w1 ⟨rfl, hb⟩
  have HB1 := Lib.hid (ext_then (w := w) (by repeat (first | exact HB0.out | refine Below.drew ?_ | (refine Below.alloc ?_ (by first | exact (HB0.out).size | (simp; done) | (have := (HB0.out).size; simp; omega)) _) | (refine Below.setCell ?_ (by first | (simp; done) | (have := (HB0.out).size; simp; omega)) _))) hb)
  clear hb HB0
  go_wp2_with fail
  refine (to5_t 3 _).mono ?_
  rintro e w2 ⟨rfl, hb⟩
  have HB2 := Lib.hid (ext_then (w := w) (by repeat (first | exact HB1.out | refine Below.drew ?_ | (refine Below.alloc ?_ (by first | exact (HB1.out).size | (simp; done) | (have := (HB1.out).size; simp; omega)) _) | (refine Below.setCell ?_ (by first | (simp; done) | (have := (HB1.out).size; simp; omega)) _))) hb)
  clear hb HB1
  rw [show to5 3 = (136, true) from rfl]
  go_wp2_with fail
  refine (return_t 3 _).mono ?_
  rintro e w3 ⟨rfl, hb⟩
  have HB3 := Lib.hid (ext_then (w := w) (by repeat (first | exact HB2.out | refine Below.drew ?_ | (refine Below.alloc ?_ (by first | exact (HB2.out).size | (simp; done) | (have := (HB2.out).size; simp; omega)) _) | (refine Below.setCell ?_ (by first | (simp; done) | (have := (HB2.out).size; simp; omega)) _))) hb)
  clear hb HB2
  rw [show returnB 3 = true from rfl]
  go_wp2_with fail
  refine (to311_t 136 _).mono ?_
  rintro e w4 ⟨rfl, hb⟩
  have HB4 := Lib.hid (ext_then (w := w) (by repeat (first | exact HB3.out | refine Below.drew ?_ | (refine Below.alloc ?_ (by first | exact (HB3.out).size | (simp; done) | (have := (HB3.out).size; simp; omega)) _) | (refine Below.setCell ?_ (by first | (simp; done) | (have := (HB3.out).size; simp; omega)) _))) hb)
  clear hb HB3
  rw [show to311 136 = (3, true) from rfl]
  go_wp2_with fail
  refine (may_t 2 136 _).mono ?_
  rintro e w5 ⟨rfl, hb⟩
  have HB5 := Lib.hid (ext_then (w := w) (by repeat (first | exact HB4.out | refine Below.drew ?_ | (refine Below.alloc ?_ (by first | exact (HB4.out).size | (simp; done) | (have := (HB4.out).size; simp; omega)) _) | (refine Below.setCell ?_ (by first | (simp; done) | (have := (HB4.out).size; simp; omega)) _))) hb)
  clear hb HB4
  rw [show mayB 2 136 = true from by decide]
  go_wp2_with fail
  refine (bad_t 136 _).mono ?_
  rintro e w6 ⟨rfl, hb⟩
  have HB6 := Lib.hid (ext_then (w := w) (by repeat (first | exact HB5.out | refine Below.drew ?_ | (refine Below.alloc ?_ (by first | exact (HB5.out).size | (simp; done) | (have := (HB5.out).size; simp; omega)) _) | (refine Below.setCell ?_ (by first | (simp; done) | (have := (HB5.out).size; simp; omega)) _))) hb)
  clear hb HB5
  rw [show badB 136 = true from rfl]
  go_wp2_with fail
  refine (to311_t 3 _).mono ?_
  rintro e w7 ⟨rfl, hb⟩
  have HB7 := Lib.hid (ext_then (w := w) (by repeat (first | exact HB6.out | refine Below.drew ?_ | (refine Below.alloc ?_ (by first | exact (HB6.out).size | (simp; done) | (have := (HB6.out).size; simp; omega)) _) | (refine Below.setCell ?_ (by first | (simp; done) | (have := (HB6.out).size; simp; omega)) _))) hb)
  clear hb HB6
  rw [show to311 3 = (0, false) from rfl]
  go_wp2
  go_ret
  exact ⟨rfl, (by repeat (first | exact HB7.out | refine Below.drew ?_ | (refine Below.alloc ?_ (by first | exact (HB7.out).size | (simp; done) | (have := (HB7.out).size; simp; omega)) _) | (refine Below.setCell ?_ (by first | (simp; done) | (have := (HB7.out).size; simp; omega)) _)))⟩
set_option maxRecDepth 100000 in
theorem back_4 (w : World) : Calls Try.prog 3 #[.int .i64 4] w fun e w' => e = .returned (.bool true) ∧ Below w.heap.size w w' := by
  have HB0 := Lib.hid (Below.refl w.heap.size w)
  go_enter Try.func3, Try.ntmps3
  go_wp2_with fail
  refine (lives06_t _).mono ?_
  rintro e w1 ⟨rfl, hb⟩
  have HB1 := Lib.hid (ext_then (w := w) (by repeat (first | exact HB0.out | refine Below.drew ?_ | (refine Below.alloc ?_ (by first | exact (HB0.out).size | (simp; done) | (have := (HB0.out).size; simp; omega)) _) | (refine Below.setCell ?_ (by first | (simp; done) | (have := (HB0.out).size; simp; omega)) _))) hb)
  clear hb HB0
  go_wp2_with fail
  refine (to5_t 4 _).mono ?_
  rintro e w2 ⟨rfl, hb⟩
  have HB2 := Lib.hid (ext_then (w := w) (by repeat (first | exact HB1.out | refine Below.drew ?_ | (refine Below.alloc ?_ (by first | exact (HB1.out).size | (simp; done) | (have := (HB1.out).size; simp; omega)) _) | (refine Below.setCell ?_ (by first | (simp; done) | (have := (HB1.out).size; simp; omega)) _))) hb)
  clear hb HB1
  rw [show to5 4 = (134, true) from rfl]
  go_wp2_with fail
  refine (return_t 4 _).mono ?_
  rintro e w3 ⟨rfl, hb⟩
  have HB3 := Lib.hid (ext_then (w := w) (by repeat (first | exact HB2.out | refine Below.drew ?_ | (refine Below.alloc ?_ (by first | exact (HB2.out).size | (simp; done) | (have := (HB2.out).size; simp; omega)) _) | (refine Below.setCell ?_ (by first | (simp; done) | (have := (HB2.out).size; simp; omega)) _))) hb)
  clear hb HB2
  rw [show returnB 4 = true from rfl]
  go_wp2_with fail
  refine (to311_t 134 _).mono ?_
  rintro e w4 ⟨rfl, hb⟩
  have HB4 := Lib.hid (ext_then (w := w) (by repeat (first | exact HB3.out | refine Below.drew ?_ | (refine Below.alloc ?_ (by first | exact (HB3.out).size | (simp; done) | (have := (HB3.out).size; simp; omega)) _) | (refine Below.setCell ?_ (by first | (simp; done) | (have := (HB3.out).size; simp; omega)) _))) hb)
  clear hb HB3
  rw [show to311 134 = (4, true) from rfl]
  go_wp2_with fail
  refine (may_t 2 134 _).mono ?_
  rintro e w5 ⟨rfl, hb⟩
  have HB5 := Lib.hid (ext_then (w := w) (by repeat (first | exact HB4.out | refine Below.drew ?_ | (refine Below.alloc ?_ (by first | exact (HB4.out).size | (simp; done) | (have := (HB4.out).size; simp; omega)) _) | (refine Below.setCell ?_ (by first | (simp; done) | (have := (HB4.out).size; simp; omega)) _))) hb)
  clear hb HB4
  rw [show mayB 2 134 = true from by decide]
  go_wp2_with fail
  refine (bad_t 134 _).mono ?_
  rintro e w6 ⟨rfl, hb⟩
  have HB6 := Lib.hid (ext_then (w := w) (by repeat (first | exact HB5.out | refine Below.drew ?_ | (refine Below.alloc ?_ (by first | exact (HB5.out).size | (simp; done) | (have := (HB5.out).size; simp; omega)) _) | (refine Below.setCell ?_ (by first | (simp; done) | (have := (HB5.out).size; simp; omega)) _))) hb)
  clear hb HB5
  rw [show badB 134 = true from rfl]
  go_wp2_with fail
  refine (to311_t 4 _).mono ?_
  rintro e w7 ⟨rfl, hb⟩
  have HB7 := Lib.hid (ext_then (w := w) (by repeat (first | exact HB6.out | refine Below.drew ?_ | (refine Below.alloc ?_ (by first | exact (HB6.out).size | (simp; done) | (have := (HB6.out).size; simp; omega)) _) | (refine Below.setCell ?_ (by first | (simp; done) | (have := (HB6.out).size; simp; omega)) _))) hb)
  clear hb HB6
  rw [show to311 4 = (0, false) from rfl]
  go_wp2
  go_ret
  exact ⟨rfl, (by repeat (first | exact HB7.out | refine Below.drew ?_ | (refine Below.alloc ?_ (by first | exact (HB7.out).size | (simp; done) | (have := (HB7.out).size; simp; omega)) _) | (refine Below.setCell ?_ (by first | (simp; done) | (have := (HB7.out).size; simp; omega)) _)))⟩
set_option maxRecDepth 100000 in
theorem back_5 (w : World) : Calls Try.prog 3 #[.int .i64 5] w fun e w' => e = .returned (.bool true) ∧ Below w.heap.size w w' := by
  have HB0 := Lib.hid (Below.refl w.heap.size w)
  go_enter Try.func3, Try.ntmps3
  go_wp2_with fail
  refine (lives06_t _).mono ?_
  rintro e w1 ⟨rfl, hb⟩
  have HB1 := Lib.hid (ext_then (w := w) (by repeat (first | exact HB0.out | refine Below.drew ?_ | (refine Below.alloc ?_ (by first | exact (HB0.out).size | (simp; done) | (have := (HB0.out).size; simp; omega)) _) | (refine Below.setCell ?_ (by first | (simp; done) | (have := (HB0.out).size; simp; omega)) _))) hb)
  clear hb HB0
  go_wp2_with fail
  refine (to5_t 5 _).mono ?_
  rintro e w2 ⟨rfl, hb⟩
  have HB2 := Lib.hid (ext_then (w := w) (by repeat (first | exact HB1.out | refine Below.drew ?_ | (refine Below.alloc ?_ (by first | exact (HB1.out).size | (simp; done) | (have := (HB1.out).size; simp; omega)) _) | (refine Below.setCell ?_ (by first | (simp; done) | (have := (HB1.out).size; simp; omega)) _))) hb)
  clear hb HB1
  rw [show to5 5 = (135, true) from rfl]
  go_wp2_with fail
  refine (return_t 5 _).mono ?_
  rintro e w3 ⟨rfl, hb⟩
  have HB3 := Lib.hid (ext_then (w := w) (by repeat (first | exact HB2.out | refine Below.drew ?_ | (refine Below.alloc ?_ (by first | exact (HB2.out).size | (simp; done) | (have := (HB2.out).size; simp; omega)) _) | (refine Below.setCell ?_ (by first | (simp; done) | (have := (HB2.out).size; simp; omega)) _))) hb)
  clear hb HB2
  rw [show returnB 5 = true from rfl]
  go_wp2_with fail
  refine (to311_t 135 _).mono ?_
  rintro e w4 ⟨rfl, hb⟩
  have HB4 := Lib.hid (ext_then (w := w) (by repeat (first | exact HB3.out | refine Below.drew ?_ | (refine Below.alloc ?_ (by first | exact (HB3.out).size | (simp; done) | (have := (HB3.out).size; simp; omega)) _) | (refine Below.setCell ?_ (by first | (simp; done) | (have := (HB3.out).size; simp; omega)) _))) hb)
  clear hb HB3
  rw [show to311 135 = (5, true) from rfl]
  go_wp2_with fail
  refine (may_t 2 135 _).mono ?_
  rintro e w5 ⟨rfl, hb⟩
  have HB5 := Lib.hid (ext_then (w := w) (by repeat (first | exact HB4.out | refine Below.drew ?_ | (refine Below.alloc ?_ (by first | exact (HB4.out).size | (simp; done) | (have := (HB4.out).size; simp; omega)) _) | (refine Below.setCell ?_ (by first | (simp; done) | (have := (HB4.out).size; simp; omega)) _))) hb)
  clear hb HB4
  rw [show mayB 2 135 = true from by decide]
  go_wp2_with fail
  refine (bad_t 135 _).mono ?_
  rintro e w6 ⟨rfl, hb⟩
  have HB6 := Lib.hid (ext_then (w := w) (by repeat (first | exact HB5.out | refine Below.drew ?_ | (refine Below.alloc ?_ (by first | exact (HB5.out).size | (simp; done) | (have := (HB5.out).size; simp; omega)) _) | (refine Below.setCell ?_ (by first | (simp; done) | (have := (HB5.out).size; simp; omega)) _))) hb)
  clear hb HB5
  rw [show badB 135 = true from rfl]
  go_wp2_with fail
  refine (to311_t 5 _).mono ?_
  rintro e w7 ⟨rfl, hb⟩
  have HB7 := Lib.hid (ext_then (w := w) (by repeat (first | exact HB6.out | refine Below.drew ?_ | (refine Below.alloc ?_ (by first | exact (HB6.out).size | (simp; done) | (have := (HB6.out).size; simp; omega)) _) | (refine Below.setCell ?_ (by first | (simp; done) | (have := (HB6.out).size; simp; omega)) _))) hb)
  clear hb HB6
  rw [show to311 5 = (0, false) from rfl]
  go_wp2
  go_ret
  exact ⟨rfl, (by repeat (first | exact HB7.out | refine Below.drew ?_ | (refine Below.alloc ?_ (by first | exact (HB7.out).size | (simp; done) | (have := (HB7.out).size; simp; omega)) _) | (refine Below.setCell ?_ (by first | (simp; done) | (have := (HB7.out).size; simp; omega)) _)))⟩
set_option maxRecDepth 100000 in
theorem back_132 (w : World) : Calls Try.prog 3 #[.int .i64 132] w fun e w' => e = .returned (.bool true) ∧ Below w.heap.size w w' := by
  have HB0 := Lib.hid (Below.refl w.heap.size w)
  go_enter Try.func3, Try.ntmps3
  go_wp2_with fail
  refine (lives06_t _).mono ?_
  rintro e w1 ⟨rfl, hb⟩
  have HB1 := Lib.hid (ext_then (w := w) (by repeat (first | exact HB0.out | refine Below.drew ?_ | (refine Below.alloc ?_ (by first | exact (HB0.out).size | (simp; done) | (have := (HB0.out).size; simp; omega)) _) | (refine Below.setCell ?_ (by first | (simp; done) | (have := (HB0.out).size; simp; omega)) _))) hb)
  clear hb HB0
  go_wp2_with fail
  refine (to5_t 132 _).mono ?_
  rintro e w2 ⟨rfl, hb⟩
  have HB2 := Lib.hid (ext_then (w := w) (by repeat (first | exact HB1.out | refine Below.drew ?_ | (refine Below.alloc ?_ (by first | exact (HB1.out).size | (simp; done) | (have := (HB1.out).size; simp; omega)) _) | (refine Below.setCell ?_ (by first | (simp; done) | (have := (HB1.out).size; simp; omega)) _))) hb)
  clear hb HB1
  rw [show to5 132 = (0, false) from rfl]
  go_wp2_with fail
  refine (return_t 132 _).mono ?_
  rintro e w3 ⟨rfl, hb⟩
  have HB3 := Lib.hid (ext_then (w := w) (by repeat (first | exact HB2.out | refine Below.drew ?_ | (refine Below.alloc ?_ (by first | exact (HB2.out).size | (simp; done) | (have := (HB2.out).size; simp; omega)) _) | (refine Below.setCell ?_ (by first | (simp; done) | (have := (HB2.out).size; simp; omega)) _))) hb)
  clear hb HB2
  rw [show returnB 132 = false from rfl]
  go_wp2_with fail
  refine (to311_t 132 _).mono ?_
  rintro e w4 ⟨rfl, hb⟩
  have HB4 := Lib.hid (ext_then (w := w) (by repeat (first | exact HB3.out | refine Below.drew ?_ | (refine Below.alloc ?_ (by first | exact (HB3.out).size | (simp; done) | (have := (HB3.out).size; simp; omega)) _) | (refine Below.setCell ?_ (by first | (simp; done) | (have := (HB3.out).size; simp; omega)) _))) hb)
  clear hb HB3
  rw [show to311 132 = (1, true) from rfl]
  go_wp2_with fail
  refine (to5_t 1 _).mono ?_
  rintro e w5 ⟨rfl, hb⟩
  have HB5 := Lib.hid (ext_then (w := w) (by repeat (first | exact HB4.out | refine Below.drew ?_ | (refine Below.alloc ?_ (by first | exact (HB4.out).size | (simp; done) | (have := (HB4.out).size; simp; omega)) _) | (refine Below.setCell ?_ (by first | (simp; done) | (have := (HB4.out).size; simp; omega)) _))) hb)
  clear hb HB4
  rw [show to5 1 = (132, true) from rfl]
  go_wp2
  go_ret
  exact ⟨rfl, (by repeat (first | exact HB5.out | refine Below.drew ?_ | (refine Below.alloc ?_ (by first | exact (HB5.out).size | (simp; done) | (have := (HB5.out).size; simp; omega)) _) | (refine Below.setCell ?_ (by first | (simp; done) | (have := (HB5.out).size; simp; omega)) _)))⟩
set_option maxRecDepth 100000 in
theorem back_133 (w : World) : Calls Try.prog 3 #[.int .i64 133] w fun e w' => e = .returned (.bool true) ∧ Below w.heap.size w w' := by
  have HB0 := Lib.hid (Below.refl w.heap.size w)
  go_enter Try.func3, Try.ntmps3
  go_wp2_with fail
  refine (lives06_t _).mono ?_
  rintro e w1 ⟨rfl, hb⟩
  have HB1 := Lib.hid (ext_then (w := w) (by repeat (first | exact HB0.out | refine Below.drew ?_ | (refine Below.alloc ?_ (by first | exact (HB0.out).size | (simp; done) | (have := (HB0.out).size; simp; omega)) _) | (refine Below.setCell ?_ (by first | (simp; done) | (have := (HB0.out).size; simp; omega)) _))) hb)
  clear hb HB0
  go_wp2_with fail
  refine (to5_t 133 _).mono ?_
  rintro e w2 ⟨rfl, hb⟩
  have HB2 := Lib.hid (ext_then (w := w) (by repeat (first | exact HB1.out | refine Below.drew ?_ | (refine Below.alloc ?_ (by first | exact (HB1.out).size | (simp; done) | (have := (HB1.out).size; simp; omega)) _) | (refine Below.setCell ?_ (by first | (simp; done) | (have := (HB1.out).size; simp; omega)) _))) hb)
  clear hb HB1
  rw [show to5 133 = (0, false) from rfl]
  go_wp2_with fail
  refine (return_t 133 _).mono ?_
  rintro e w3 ⟨rfl, hb⟩
  have HB3 := Lib.hid (ext_then (w := w) (by repeat (first | exact HB2.out | refine Below.drew ?_ | (refine Below.alloc ?_ (by first | exact (HB2.out).size | (simp; done) | (have := (HB2.out).size; simp; omega)) _) | (refine Below.setCell ?_ (by first | (simp; done) | (have := (HB2.out).size; simp; omega)) _))) hb)
  clear hb HB2
  rw [show returnB 133 = false from rfl]
  go_wp2_with fail
  refine (to311_t 133 _).mono ?_
  rintro e w4 ⟨rfl, hb⟩
  have HB4 := Lib.hid (ext_then (w := w) (by repeat (first | exact HB3.out | refine Below.drew ?_ | (refine Below.alloc ?_ (by first | exact (HB3.out).size | (simp; done) | (have := (HB3.out).size; simp; omega)) _) | (refine Below.setCell ?_ (by first | (simp; done) | (have := (HB3.out).size; simp; omega)) _))) hb)
  clear hb HB3
  rw [show to311 133 = (2, true) from rfl]
  go_wp2_with fail
  refine (to5_t 2 _).mono ?_
  rintro e w5 ⟨rfl, hb⟩
  have HB5 := Lib.hid (ext_then (w := w) (by repeat (first | exact HB4.out | refine Below.drew ?_ | (refine Below.alloc ?_ (by first | exact (HB4.out).size | (simp; done) | (have := (HB4.out).size; simp; omega)) _) | (refine Below.setCell ?_ (by first | (simp; done) | (have := (HB4.out).size; simp; omega)) _))) hb)
  clear hb HB4
  rw [show to5 2 = (133, true) from rfl]
  go_wp2
  go_ret
  exact ⟨rfl, (by repeat (first | exact HB5.out | refine Below.drew ?_ | (refine Below.alloc ?_ (by first | exact (HB5.out).size | (simp; done) | (have := (HB5.out).size; simp; omega)) _) | (refine Below.setCell ?_ (by first | (simp; done) | (have := (HB5.out).size; simp; omega)) _)))⟩
set_option maxRecDepth 100000 in
theorem back_134 (w : World) : Calls Try.prog 3 #[.int .i64 134] w fun e w' => e = .returned (.bool true) ∧ Below w.heap.size w w' := by
  have HB0 := Lib.hid (Below.refl w.heap.size w)
  go_enter Try.func3, Try.ntmps3
  go_wp2_with fail
  refine (lives06_t _).mono ?_
  rintro e w1 ⟨rfl, hb⟩
  have HB1 := Lib.hid (ext_then (w := w) (by repeat (first | exact HB0.out | refine Below.drew ?_ | (refine Below.alloc ?_ (by first | exact (HB0.out).size | (simp; done) | (have := (HB0.out).size; simp; omega)) _) | (refine Below.setCell ?_ (by first | (simp; done) | (have := (HB0.out).size; simp; omega)) _))) hb)
  clear hb HB0
  go_wp2_with fail
  refine (to5_t 134 _).mono ?_
  rintro e w2 ⟨rfl, hb⟩
  have HB2 := Lib.hid (ext_then (w := w) (by repeat (first | exact HB1.out | refine Below.drew ?_ | (refine Below.alloc ?_ (by first | exact (HB1.out).size | (simp; done) | (have := (HB1.out).size; simp; omega)) _) | (refine Below.setCell ?_ (by first | (simp; done) | (have := (HB1.out).size; simp; omega)) _))) hb)
  clear hb HB1
  rw [show to5 134 = (0, false) from rfl]
  go_wp2_with fail
  refine (return_t 134 _).mono ?_
  rintro e w3 ⟨rfl, hb⟩
  have HB3 := Lib.hid (ext_then (w := w) (by repeat (first | exact HB2.out | refine Below.drew ?_ | (refine Below.alloc ?_ (by first | exact (HB2.out).size | (simp; done) | (have := (HB2.out).size; simp; omega)) _) | (refine Below.setCell ?_ (by first | (simp; done) | (have := (HB2.out).size; simp; omega)) _))) hb)
  clear hb HB2
  rw [show returnB 134 = false from rfl]
  go_wp2_with fail
  refine (to311_t 134 _).mono ?_
  rintro e w4 ⟨rfl, hb⟩
  have HB4 := Lib.hid (ext_then (w := w) (by repeat (first | exact HB3.out | refine Below.drew ?_ | (refine Below.alloc ?_ (by first | exact (HB3.out).size | (simp; done) | (have := (HB3.out).size; simp; omega)) _) | (refine Below.setCell ?_ (by first | (simp; done) | (have := (HB3.out).size; simp; omega)) _))) hb)
  clear hb HB3
  rw [show to311 134 = (4, true) from rfl]
  go_wp2_with fail
  refine (to5_t 4 _).mono ?_
  rintro e w5 ⟨rfl, hb⟩
  have HB5 := Lib.hid (ext_then (w := w) (by repeat (first | exact HB4.out | refine Below.drew ?_ | (refine Below.alloc ?_ (by first | exact (HB4.out).size | (simp; done) | (have := (HB4.out).size; simp; omega)) _) | (refine Below.setCell ?_ (by first | (simp; done) | (have := (HB4.out).size; simp; omega)) _))) hb)
  clear hb HB4
  rw [show to5 4 = (134, true) from rfl]
  go_wp2
  go_ret
  exact ⟨rfl, (by repeat (first | exact HB5.out | refine Below.drew ?_ | (refine Below.alloc ?_ (by first | exact (HB5.out).size | (simp; done) | (have := (HB5.out).size; simp; omega)) _) | (refine Below.setCell ?_ (by first | (simp; done) | (have := (HB5.out).size; simp; omega)) _)))⟩
set_option maxRecDepth 100000 in
theorem back_135 (w : World) : Calls Try.prog 3 #[.int .i64 135] w fun e w' => e = .returned (.bool true) ∧ Below w.heap.size w w' := by
  have HB0 := Lib.hid (Below.refl w.heap.size w)
  go_enter Try.func3, Try.ntmps3
  go_wp2_with fail
  refine (lives06_t _).mono ?_
  rintro e w1 ⟨rfl, hb⟩
  have HB1 := Lib.hid (ext_then (w := w) (by repeat (first | exact HB0.out | refine Below.drew ?_ | (refine Below.alloc ?_ (by first | exact (HB0.out).size | (simp; done) | (have := (HB0.out).size; simp; omega)) _) | (refine Below.setCell ?_ (by first | (simp; done) | (have := (HB0.out).size; simp; omega)) _))) hb)
  clear hb HB0
  go_wp2_with fail
  refine (to5_t 135 _).mono ?_
  rintro e w2 ⟨rfl, hb⟩
  have HB2 := Lib.hid (ext_then (w := w) (by repeat (first | exact HB1.out | refine Below.drew ?_ | (refine Below.alloc ?_ (by first | exact (HB1.out).size | (simp; done) | (have := (HB1.out).size; simp; omega)) _) | (refine Below.setCell ?_ (by first | (simp; done) | (have := (HB1.out).size; simp; omega)) _))) hb)
  clear hb HB1
  rw [show to5 135 = (0, false) from rfl]
  go_wp2_with fail
  refine (return_t 135 _).mono ?_
  rintro e w3 ⟨rfl, hb⟩
  have HB3 := Lib.hid (ext_then (w := w) (by repeat (first | exact HB2.out | refine Below.drew ?_ | (refine Below.alloc ?_ (by first | exact (HB2.out).size | (simp; done) | (have := (HB2.out).size; simp; omega)) _) | (refine Below.setCell ?_ (by first | (simp; done) | (have := (HB2.out).size; simp; omega)) _))) hb)
  clear hb HB2
  rw [show returnB 135 = false from rfl]
  go_wp2_with fail
  refine (to311_t 135 _).mono ?_
  rintro e w4 ⟨rfl, hb⟩
  have HB4 := Lib.hid (ext_then (w := w) (by repeat (first | exact HB3.out | refine Below.drew ?_ | (refine Below.alloc ?_ (by first | exact (HB3.out).size | (simp; done) | (have := (HB3.out).size; simp; omega)) _) | (refine Below.setCell ?_ (by first | (simp; done) | (have := (HB3.out).size; simp; omega)) _))) hb)
  clear hb HB3
  rw [show to311 135 = (5, true) from rfl]
  go_wp2_with fail
  refine (to5_t 5 _).mono ?_
  rintro e w5 ⟨rfl, hb⟩
  have HB5 := Lib.hid (ext_then (w := w) (by repeat (first | exact HB4.out | refine Below.drew ?_ | (refine Below.alloc ?_ (by first | exact (HB4.out).size | (simp; done) | (have := (HB4.out).size; simp; omega)) _) | (refine Below.setCell ?_ (by first | (simp; done) | (have := (HB4.out).size; simp; omega)) _))) hb)
  clear hb HB4
  rw [show to5 5 = (135, true) from rfl]
  go_wp2
  go_ret
  exact ⟨rfl, (by repeat (first | exact HB5.out | refine Below.drew ?_ | (refine Below.alloc ?_ (by first | exact (HB5.out).size | (simp; done) | (have := (HB5.out).size; simp; omega)) _) | (refine Below.setCell ?_ (by first | (simp; done) | (have := (HB5.out).size; simp; omega)) _)))⟩
set_option maxRecDepth 100000 in
theorem back_136 (w : World) : Calls Try.prog 3 #[.int .i64 136] w fun e w' => e = .returned (.bool true) ∧ Below w.heap.size w w' := by
  have HB0 := Lib.hid (Below.refl w.heap.size w)
  go_enter Try.func3, Try.ntmps3
  go_wp2_with fail
  refine (lives06_t _).mono ?_
  rintro e w1 ⟨rfl, hb⟩
  have HB1 := Lib.hid (ext_then (w := w) (by repeat (first | exact HB0.out | refine Below.drew ?_ | (refine Below.alloc ?_ (by first | exact (HB0.out).size | (simp; done) | (have := (HB0.out).size; simp; omega)) _) | (refine Below.setCell ?_ (by first | (simp; done) | (have := (HB0.out).size; simp; omega)) _))) hb)
  clear hb HB0
  go_wp2_with fail
  refine (to5_t 136 _).mono ?_
  rintro e w2 ⟨rfl, hb⟩
  have HB2 := Lib.hid (ext_then (w := w) (by repeat (first | exact HB1.out | refine Below.drew ?_ | (refine Below.alloc ?_ (by first | exact (HB1.out).size | (simp; done) | (have := (HB1.out).size; simp; omega)) _) | (refine Below.setCell ?_ (by first | (simp; done) | (have := (HB1.out).size; simp; omega)) _))) hb)
  clear hb HB1
  rw [show to5 136 = (0, false) from rfl]
  go_wp2_with fail
  refine (return_t 136 _).mono ?_
  rintro e w3 ⟨rfl, hb⟩
  have HB3 := Lib.hid (ext_then (w := w) (by repeat (first | exact HB2.out | refine Below.drew ?_ | (refine Below.alloc ?_ (by first | exact (HB2.out).size | (simp; done) | (have := (HB2.out).size; simp; omega)) _) | (refine Below.setCell ?_ (by first | (simp; done) | (have := (HB2.out).size; simp; omega)) _))) hb)
  clear hb HB2
  rw [show returnB 136 = false from rfl]
  go_wp2_with fail
  refine (to311_t 136 _).mono ?_
  rintro e w4 ⟨rfl, hb⟩
  have HB4 := Lib.hid (ext_then (w := w) (by repeat (first | exact HB3.out | refine Below.drew ?_ | (refine Below.alloc ?_ (by first | exact (HB3.out).size | (simp; done) | (have := (HB3.out).size; simp; omega)) _) | (refine Below.setCell ?_ (by first | (simp; done) | (have := (HB3.out).size; simp; omega)) _))) hb)
  clear hb HB3
  rw [show to311 136 = (3, true) from rfl]
  go_wp2_with fail
  refine (to5_t 3 _).mono ?_
  rintro e w5 ⟨rfl, hb⟩
  have HB5 := Lib.hid (ext_then (w := w) (by repeat (first | exact HB4.out | refine Below.drew ?_ | (refine Below.alloc ?_ (by first | exact (HB4.out).size | (simp; done) | (have := (HB4.out).size; simp; omega)) _) | (refine Below.setCell ?_ (by first | (simp; done) | (have := (HB4.out).size; simp; omega)) _))) hb)
  clear hb HB4
  rw [show to5 3 = (136, true) from rfl]
  go_wp2
  go_ret
  exact ⟨rfl, (by repeat (first | exact HB5.out | refine Below.drew ?_ | (refine Below.alloc ?_ (by first | exact (HB5.out).size | (simp; done) | (have := (HB5.out).size; simp; omega)) _) | (refine Below.setCell ?_ (by first | (simp; done) | (have := (HB5.out).size; simp; omega)) _)))⟩
set_option maxRecDepth 100000 in
theorem back_other (c : Int) (w : World) (h5 : to5 c = (0, false)) (hr : returnB c = false) (h3 : to311 c = (0, false)) : Calls Try.prog 3 #[.int .i64 c] w fun e w' => e = .returned (.bool true) ∧ Below w.heap.size w w' := by
  have H5 := Lib.hid h5
  have H3 := Lib.hid h3
  have HR := Lib.hid hr
  clear h5 h3 hr
  have HB0 := Lib.hid (Below.refl w.heap.size w)
  go_enter Try.func3, Try.ntmps3
  go_wp2_with fail
  refine (lives06_t _).mono ?_
  rintro e w1 ⟨rfl, hb⟩
  have HB1 := Lib.hid (ext_then (w := w) (by repeat (first | exact HB0.out | refine Below.drew ?_ | (refine Below.alloc ?_ (by first | exact (HB0.out).size | (simp; done) | (have := (HB0.out).size; simp; omega)) _) | (refine Below.setCell ?_ (by first | (simp; done) | (have := (HB0.out).size; simp; omega)) _))) hb)
  clear hb HB0
  go_wp2_with fail
  refine (to5_t c _).mono ?_
  rintro e w2 ⟨rfl, hb⟩
  have HB2 := Lib.hid (ext_then (w := w) (by repeat (first | exact HB1.out | refine Below.drew ?_ | (refine Below.alloc ?_ (by first | exact (HB1.out).size | (simp; done) | (have := (HB1.out).size; simp; omega)) _) | (refine Below.setCell ?_ (by first | (simp; done) | (have := (HB1.out).size; simp; omega)) _))) hb)
  clear hb HB1
  rw [H5.out]
  go_wp2_with fail
  refine (return_t c _).mono ?_
  rintro e w3 ⟨rfl, hb⟩
  have HB3 := Lib.hid (ext_then (w := w) (by repeat (first | exact HB2.out | refine Below.drew ?_ | (refine Below.alloc ?_ (by first | exact (HB2.out).size | (simp; done) | (have := (HB2.out).size; simp; omega)) _) | (refine Below.setCell ?_ (by first | (simp; done) | (have := (HB2.out).size; simp; omega)) _))) hb)
  clear hb HB2
  rw [HR.out]
  go_wp2_with fail
  refine (to311_t c _).mono ?_
  rintro e w4 ⟨rfl, hb⟩
  have HB4 := Lib.hid (ext_then (w := w) (by repeat (first | exact HB3.out | refine Below.drew ?_ | (refine Below.alloc ?_ (by first | exact (HB3.out).size | (simp; done) | (have := (HB3.out).size; simp; omega)) _) | (refine Below.setCell ?_ (by first | (simp; done) | (have := (HB3.out).size; simp; omega)) _))) hb)
  clear hb HB3
  rw [H3.out]
  go_wp2
  go_ret
  exact ⟨rfl, (by repeat (first | exact HB4.out | refine Below.drew ?_ | (refine Below.alloc ?_ (by first | exact (HB4.out).size | (simp; done) | (have := (HB4.out).size; simp; omega)) _) | (refine Below.setCell ?_ (by first | (simp; done) | (have := (HB4.out).size; simp; omega)) _)))⟩
theorem back_t (c : Int) (wf : (Lit.int .i64 c).wf = true) (w : World) : Calls Try.prog 3 #[.int .i64 c] w fun e w' => e = .returned (.bool true) ∧ Below w.heap.size w w' := by
  by_cases h0 : c = 0
  · subst h0; exact back_0 w
  by_cases h1 : c = 1
  · subst h1; exact back_1 w
  by_cases h2 : c = 2
  · subst h2; exact back_2 w
  by_cases h3 : c = 3
  · subst h3; exact back_3 w
  by_cases h4 : c = 4
  · subst h4; exact back_4 w
  by_cases h5 : c = 5
  · subst h5; exact back_5 w
  by_cases h132 : c = 132
  · subst h132; exact back_132 w
  by_cases h133 : c = 133
  · subst h133; exact back_133 w
  by_cases h134 : c = 134
  · subst h134; exact back_134 w
  by_cases h135 : c = 135
  · subst h135; exact back_135 w
  by_cases h136 : c = 136
  · subst h136; exact back_136 w
  exact back_other c w (by simp [to5, h0, h1, h2, h3, h4, h5]) (by simp [returnB]; omega) (by simp [to311, h0, h132, h133, h136, h134, h135])
end Go.Proofs.Ytnbgmpfldoaodaa
