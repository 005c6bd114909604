/- The law ReasonCalls of chapter 6: its walk. -/
import Derived.Test.YtnbgmpfldoaodaaRefT
import Derived.Test.YtnbgmpfldoaodaaLivesR
namespace Go.Proofs.Ytnbgmpfldoaodaa
open Go.RowKit
set_option maxHeartbeats 1000000
set_option linter.unusedVariables false
set_option maxRecDepth 100000 in
theorem calls_t (kind code : Int) (wf1 : (Lit.int .i64 kind).wf = true) (wf2 : (Lit.int .i64 code).wf = true) (w : World) : Calls Try.prog 6 #[.int .i64 kind, .int .i64 code] w fun e w' => e = .returned (.bool true) ∧ Below w.heap.size w w' := by
  clear wf1 wf2
  have HB0 := Lib.hid (Below.refl w.heap.size w)
  go_enter Try.func6, Try.ntmps6
  go_wp2_with fail
  refine (lives06_t _).mono ?_
  rintro e w1 ⟨rfl, hb⟩
  have HB1 := Lib.hid (ext_then (w := w) (by repeat (first | exact HB0.out | refine Below.drew ?_ | (refine Below.alloc ?_ (by first | exact (HB0.out).size | (simp; done) | (have := (HB0.out).size; simp; omega)) _) | (refine Below.setCell ?_ (by first | (simp; done) | (have := (HB0.out).size; simp; omega)) _))) hb)
  clear hb HB0
  go_wp2_with fail
  refine (to5_t code _).mono ?_
  rintro e w2 ⟨rfl, hb⟩
  have HB2 := Lib.hid (ext_then (w := w) (by repeat (first | exact HB1.out | refine Below.drew ?_ | (refine Below.alloc ?_ (by first | exact (HB1.out).size | (simp; done) | (have := (HB1.out).size; simp; omega)) _) | (refine Below.setCell ?_ (by first | (simp; done) | (have := (HB1.out).size; simp; omega)) _))) hb)
  clear hb HB1
  go_wp2_with fail
  refine (rto5_t code _).mono ?_
  rintro e w3 ⟨rfl, hb⟩
  have HB3 := Lib.hid (ext_then (w := w) (by repeat (first | exact HB2.out | refine Below.drew ?_ | (refine Below.alloc ?_ (by first | exact (HB2.out).size | (simp; done) | (have := (HB2.out).size; simp; omega)) _) | (refine Below.setCell ?_ (by first | (simp; done) | (have := (HB2.out).size; simp; omega)) _))) hb)
  clear hb HB2
  go_wp2_with fail
  refine (to311_t code _).mono ?_
  rintro e w4 ⟨rfl, hb⟩
  have HB4 := Lib.hid (ext_then (w := w) (by repeat (first | exact HB3.out | refine Below.drew ?_ | (refine Below.alloc ?_ (by first | exact (HB3.out).size | (simp; done) | (have := (HB3.out).size; simp; omega)) _) | (refine Below.setCell ?_ (by first | (simp; done) | (have := (HB3.out).size; simp; omega)) _))) hb)
  clear hb HB3
  go_wp2_with fail
  refine (rto311_t code _).mono ?_
  rintro e w5 ⟨rfl, hb⟩
  have HB5 := Lib.hid (ext_then (w := w) (by repeat (first | exact HB4.out | refine Below.drew ?_ | (refine Below.alloc ?_ (by first | exact (HB4.out).size | (simp; done) | (have := (HB4.out).size; simp; omega)) _) | (refine Below.setCell ?_ (by first | (simp; done) | (have := (HB4.out).size; simp; omega)) _))) hb)
  clear hb HB4
  go_wp2_with fail
  refine (may_t kind code _).mono ?_
  rintro e w6 ⟨rfl, hb⟩
  have HB6 := Lib.hid (ext_then (w := w) (by repeat (first | exact HB5.out | refine Below.drew ?_ | (refine Below.alloc ?_ (by first | exact (HB5.out).size | (simp; done) | (have := (HB5.out).size; simp; omega)) _) | (refine Below.setCell ?_ (by first | (simp; done) | (have := (HB5.out).size; simp; omega)) _))) hb)
  clear hb HB5
  go_wp2_with fail
  refine (rmay_t kind code _).mono ?_
  rintro e w7 ⟨rfl, hb⟩
  have HB7 := Lib.hid (ext_then (w := w) (by repeat (first | exact HB6.out | refine Below.drew ?_ | (refine Below.alloc ?_ (by first | exact (HB6.out).size | (simp; done) | (have := (HB6.out).size; simp; omega)) _) | (refine Below.setCell ?_ (by first | (simp; done) | (have := (HB6.out).size; simp; omega)) _))) hb)
  clear hb HB6
  go_wp2_with fail
  refine (all_t kind _).mono ?_
  rintro e w8 ⟨v1, rfl, ho1, hb⟩
  rw [codesTo_all] at ho1
  have HB8 := Lib.hid (ext_then HB7.out hb)
  have HO := Lib.hid ho1
  obtain ⟨A1, c1, rfl, -⟩ := own_RI ho1
  clear hb HB7 ho1
  go_wp2_with fail
  refine (rall_t kind _).mono ?_
  rintro e w9 ⟨v2, rfl, ho2, hb⟩
  have HB9 := Lib.hid (ext_then HB8.out hb)
  obtain ⟨A2, c2, rfl, hr2⟩ := own_RI ho2
  obtain ⟨A3, c3, he3, hr1⟩ := own_RI (own_below HO.out hb)
  simp only [Value.slice.injEq] at he3
  obtain ⟨rfl, -, rfl⟩ := he3
  have HR := Lib.hid (⟨hr1, hr2⟩ : _ ∧ _)
  clear hb HB8 ho2 HO hr1 hr2
  go_wp2_with fail
  refine (same_t _ _ _ _ _ _ _ _ _ HR.out.1 HR.out.2).mono ?_
  rintro e w10 ⟨rfl, hb⟩
  have HB10 := Lib.hid (ext_then HB9.out hb)
  clear hb HB9 HR
  rw [show decide (codesL kind = codesL kind) = true from by simp]
  go_wp2_with fail
  refine (return_t code _).mono ?_
  rintro e w11 ⟨rfl, hb⟩
  have HB11 := Lib.hid (ext_then (w := w) (by repeat (first | exact HB10.out | refine Below.drew ?_ | (refine Below.alloc ?_ (by first | exact (HB10.out).size | (simp; done) | (have := (HB10.out).size; simp; omega)) _) | (refine Below.setCell ?_ (by first | (simp; done) | (have := (HB10.out).size; simp; omega)) _))) hb)
  clear hb HB10
  go_wp2_with fail
  refine (rreturn_t code _).mono ?_
  rintro e w12 ⟨rfl, hb⟩
  have HB12 := Lib.hid (ext_then (w := w) (by repeat (first | exact HB11.out | refine Below.drew ?_ | (refine Below.alloc ?_ (by first | exact (HB11.out).size | (simp; done) | (have := (HB11.out).size; simp; omega)) _) | (refine Below.setCell ?_ (by first | (simp; done) | (have := (HB11.out).size; simp; omega)) _))) hb)
  clear hb HB11
  go_wp2_with fail
  refine (grant_t code _).mono ?_
  rintro e w13 ⟨rfl, hb⟩
  have HB13 := Lib.hid (ext_then (w := w) (by repeat (first | exact HB12.out | refine Below.drew ?_ | (refine Below.alloc ?_ (by first | exact (HB12.out).size | (simp; done) | (have := (HB12.out).size; simp; omega)) _) | (refine Below.setCell ?_ (by first | (simp; done) | (have := (HB12.out).size; simp; omega)) _))) hb)
  clear hb HB12
  go_wp2_with fail
  refine (rgrant_t code _).mono ?_
  rintro e w14 ⟨rfl, hb⟩
  have HB14 := Lib.hid (ext_then (w := w) (by repeat (first | exact HB13.out | refine Below.drew ?_ | (refine Below.alloc ?_ (by first | exact (HB13.out).size | (simp; done) | (have := (HB13.out).size; simp; omega)) _) | (refine Below.setCell ?_ (by first | (simp; done) | (have := (HB13.out).size; simp; omega)) _))) hb)
  clear hb HB13
  go_wp2_with fail
  refine (bad_t code _).mono ?_
  rintro e w15 ⟨rfl, hb⟩
  have HB15 := Lib.hid (ext_then (w := w) (by repeat (first | exact HB14.out | refine Below.drew ?_ | (refine Below.alloc ?_ (by first | exact (HB14.out).size | (simp; done) | (have := (HB14.out).size; simp; omega)) _) | (refine Below.setCell ?_ (by first | (simp; done) | (have := (HB14.out).size; simp; omega)) _))) hb)
  clear hb HB14
  go_wp2_with fail
  refine (rbad_t code _).mono ?_
  rintro e w16 ⟨rfl, hb⟩
  have HB16 := Lib.hid (ext_then (w := w) (by repeat (first | exact HB15.out | refine Below.drew ?_ | (refine Below.alloc ?_ (by first | exact (HB15.out).size | (simp; done) | (have := (HB15.out).size; simp; omega)) _) | (refine Below.setCell ?_ (by first | (simp; done) | (have := (HB15.out).size; simp; omega)) _))) hb)
  clear hb HB15
  go_wp2_with fail
  refine (text_t code _).mono ?_
  rintro e w17 ⟨rfl, hb⟩
  have HB17 := Lib.hid (ext_then (w := w) (by repeat (first | exact HB16.out | refine Below.drew ?_ | (refine Below.alloc ?_ (by first | exact (HB16.out).size | (simp; done) | (have := (HB16.out).size; simp; omega)) _) | (refine Below.setCell ?_ (by first | (simp; done) | (have := (HB16.out).size; simp; omega)) _))) hb)
  clear hb HB16
  go_wp2_with fail
  refine (rtext_t code _).mono ?_
  rintro e w18 ⟨rfl, hb⟩
  have HB18 := Lib.hid (ext_then (w := w) (by repeat (first | exact HB17.out | refine Below.drew ?_ | (refine Below.alloc ?_ (by first | exact (HB17.out).size | (simp; done) | (have := (HB17.out).size; simp; omega)) _) | (refine Below.setCell ?_ (by first | (simp; done) | (have := (HB17.out).size; simp; omega)) _))) hb)
  clear hb HB17
  go_wp2
  go_ret
  exact ⟨rfl, (by repeat (first | exact HB18.out | refine Below.drew ?_ | (refine Below.alloc ?_ (by first | exact (HB18.out).size | (simp; done) | (have := (HB18.out).size; simp; omega)) _) | (refine Below.setCell ?_ (by first | (simp; done) | (have := (HB18.out).size; simp; omega)) _)))⟩
end Go.Proofs.Ytnbgmpfldoaodaa
