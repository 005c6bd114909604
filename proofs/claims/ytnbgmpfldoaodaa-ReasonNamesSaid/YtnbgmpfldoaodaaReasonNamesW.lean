/- The law ReasonNames of chapter 6: its walk. -/
import Derived.Test.YtnbgmpfldoaodaaRefT
import Derived.Test.YtnbgmpfldoaodaaLivesR
namespace Go.Proofs.Ytnbgmpfldoaodaa
open Go.RowKit
set_option maxHeartbeats 2000000
set_option linter.unusedVariables false
set_option maxRecDepth 100000 in
theorem names06_t (w : World) : Calls Try.prog 5 #[] w fun e w' => e = .returned (.bool true) ∧ Below w.heap.size w w' := by
  have HB0 := Lib.hid (Below.refl w.heap.size w)
  go_enter Try.func5, Try.ntmps5
  go_wp2_with fail
  refine (lives06_t _).mono ?_
  rintro e w1 ⟨rfl, hb⟩
  have HB1 := Lib.hid (ext_then (w := w) (by repeat (first | exact HB0.out | refine Below.drew ?_ | (refine Below.alloc ?_ (by first | exact (HB0.out).size | (simp; done) | (have := (HB0.out).size; simp; omega)) _) | (refine Below.setCell ?_ (by first | (simp; done) | (have := (HB0.out).size; simp; omega)) _))) hb)
  clear hb HB0
  go_wp2_with fail
  refine (to5_t 6 _).mono ?_
  rintro e w2 ⟨rfl, hb⟩
  have HB2 := Lib.hid (ext_then (w := w) (by repeat (first | exact HB1.out | refine Below.drew ?_ | (refine Below.alloc ?_ (by first | exact (HB1.out).size | (simp; done) | (have := (HB1.out).size; simp; omega)) _) | (refine Below.setCell ?_ (by first | (simp; done) | (have := (HB1.out).size; simp; omega)) _))) hb)
  clear hb HB1
  rw [show to5 6 = (0, false) from rfl]
  go_wp2_with fail
  refine (to311_t 132 _).mono ?_
  rintro e w3 ⟨rfl, hb⟩
  have HB3 := Lib.hid (ext_then (w := w) (by repeat (first | exact HB2.out | refine Below.drew ?_ | (refine Below.alloc ?_ (by first | exact (HB2.out).size | (simp; done) | (have := (HB2.out).size; simp; omega)) _) | (refine Below.setCell ?_ (by first | (simp; done) | (have := (HB2.out).size; simp; omega)) _))) hb)
  clear hb HB2
  rw [show to311 132 = (1, true) from rfl]
  go_wp2_with fail
  refine (to311_t 131 _).mono ?_
  rintro e w4 ⟨rfl, hb⟩
  have HB4 := Lib.hid (ext_then (w := w) (by repeat (first | exact HB3.out | refine Below.drew ?_ | (refine Below.alloc ?_ (by first | exact (HB3.out).size | (simp; done) | (have := (HB3.out).size; simp; omega)) _) | (refine Below.setCell ?_ (by first | (simp; done) | (have := (HB3.out).size; simp; omega)) _))) hb)
  clear hb HB3
  rw [show to311 131 = (0, false) from rfl]
  go_wp2_with fail
  refine (all_t 15 _).mono ?_
  rintro e w5 ⟨v1, rfl, ho1, hb⟩
  rw [codesTo_all, show codesL 15 = [0, 24, 25] from rfl] at ho1
  have HB5 := Lib.hid (ext_then HB4.out hb)
  have HO := Lib.hid ho1
  obtain ⟨A1, c1, rfl, -⟩ := own_RI ho1
  clear hb HB4 ho1
  go_wp2_with fail
  obtain ⟨A3, c3, he3, hr1⟩ := own_RI (own_below HO.out ((Below.refl w5.heap.size w5).alloc (Nat.le_refl _) (.cells (([0, 24, 25] : List Int).map (Value.int .i64)).toArray 3)))
  simp only [Value.slice.injEq] at he3
  obtain ⟨rfl, -, rfl⟩ := he3
  have hr2 : RI (w5.alloc (.cells (([0, 24, 25] : List Int).map (Value.int .i64)).toArray 3)) (some ⟨w5.heap.size, 0, none⟩) 3 [0, 24, 25] := RI_new _ _ rfl _ _ rfl (by decide) _ rfl _
  refine (same_t _ _ _ _ _ _ _ _ _ hr1 hr2).mono ?_
  rintro e w6 ⟨rfl, hb⟩
  have HB6 := Lib.hid (ext_then (HB5.out.alloc HB5.out.size _) hb)
  clear hb HB5 hr1 hr2 HO
  rw [show decide (([0, 24, 25] : List Int) = [0, 24, 25]) = true from by simp]
  go_wp2_with fail
  refine (all_t 3 _).mono ?_
  rintro e w7 ⟨v1, rfl, ho1, hb⟩
  rw [codesTo_all, show codesL 3 = [] from rfl] at ho1
  have HB7 := Lib.hid (ext_then HB6.out hb)
  obtain ⟨A5, c5, rfl, -⟩ := own_RI ho1
  clear hb HB6 ho1
  go_wp2_with fail
  refine (all_t 2 _).mono ?_
  rintro e w8 ⟨v1, rfl, ho1, hb⟩
  rw [codesTo_all] at ho1
  have HB8 := Lib.hid (ext_then HB7.out hb)
  obtain ⟨A6, c6, rfl, -⟩ := own_RI ho1
  rw [show (codesL 2).length = 22 from rfl]
  clear hb HB7 ho1
  go_wp2_with fail
  refine (all_t 14 _).mono ?_
  rintro e w9 ⟨v1, rfl, ho1, hb⟩
  rw [codesTo_all] at ho1
  have HB9 := Lib.hid (ext_then HB8.out hb)
  obtain ⟨A7, c7, rfl, -⟩ := own_RI ho1
  rw [show (codesL 14).length = 29 from rfl]
  clear hb HB8 ho1
  go_wp2_with fail
  refine (may_t 9 3 _).mono ?_
  rintro e w10 ⟨rfl, hb⟩
  have HB10 := Lib.hid (ext_then (w := w) (by repeat (first | exact HB9.out | refine Below.drew ?_ | (refine Below.alloc ?_ (by first | exact (HB9.out).size | (simp; done) | (have := (HB9.out).size; simp; omega)) _) | (refine Below.setCell ?_ (by first | (simp; done) | (have := (HB9.out).size; simp; omega)) _))) hb)
  clear hb HB9
  rw [show mayB 9 3 = false from by decide]
  go_wp2_with fail
  refine (may_t 9 162 _).mono ?_
  rintro e w11 ⟨rfl, hb⟩
  have HB11 := Lib.hid (ext_then (w := w) (by repeat (first | exact HB10.out | refine Below.drew ?_ | (refine Below.alloc ?_ (by first | exact (HB10.out).size | (simp; done) | (have := (HB10.out).size; simp; omega)) _) | (refine Below.setCell ?_ (by first | (simp; done) | (have := (HB10.out).size; simp; omega)) _))) hb)
  clear hb HB10
  rw [show mayB 9 162 = true from by decide]
  go_wp2_with fail
  refine (return_t 5 _).mono ?_
  rintro e w12 ⟨rfl, hb⟩
  have HB12 := Lib.hid (ext_then (w := w) (by repeat (first | exact HB11.out | refine Below.drew ?_ | (refine Below.alloc ?_ (by first | exact (HB11.out).size | (simp; done) | (have := (HB11.out).size; simp; omega)) _) | (refine Below.setCell ?_ (by first | (simp; done) | (have := (HB11.out).size; simp; omega)) _))) hb)
  clear hb HB11
  rw [show returnB 5 = true from rfl]
  go_wp2_with fail
  refine (return_t 6 _).mono ?_
  rintro e w13 ⟨rfl, hb⟩
  have HB13 := Lib.hid (ext_then (w := w) (by repeat (first | exact HB12.out | refine Below.drew ?_ | (refine Below.alloc ?_ (by first | exact (HB12.out).size | (simp; done) | (have := (HB12.out).size; simp; omega)) _) | (refine Below.setCell ?_ (by first | (simp; done) | (have := (HB12.out).size; simp; omega)) _))) hb)
  clear hb HB12
  rw [show returnB 6 = false from rfl]
  go_wp2_with fail
  refine (grant_t 128 _).mono ?_
  rintro e w14 ⟨rfl, hb⟩
  have HB14 := Lib.hid (ext_then (w := w) (by repeat (first | exact HB13.out | refine Below.drew ?_ | (refine Below.alloc ?_ (by first | exact (HB13.out).size | (simp; done) | (have := (HB13.out).size; simp; omega)) _) | (refine Below.setCell ?_ (by first | (simp; done) | (have := (HB13.out).size; simp; omega)) _))) hb)
  clear hb HB13
  rw [show grantB 128 = true from rfl]
  go_wp2_with fail
  refine (grant_t 3 _).mono ?_
  rintro e w15 ⟨rfl, hb⟩
  have HB15 := Lib.hid (ext_then (w := w) (by repeat (first | exact HB14.out | refine Below.drew ?_ | (refine Below.alloc ?_ (by first | exact (HB14.out).size | (simp; done) | (have := (HB14.out).size; simp; omega)) _) | (refine Below.setCell ?_ (by first | (simp; done) | (have := (HB14.out).size; simp; omega)) _))) hb)
  clear hb HB14
  rw [show grantB 3 = false from rfl]
  go_wp2_with fail
  refine (bad_t 128 _).mono ?_
  rintro e w16 ⟨rfl, hb⟩
  have HB16 := Lib.hid (ext_then (w := w) (by repeat (first | exact HB15.out | refine Below.drew ?_ | (refine Below.alloc ?_ (by first | exact (HB15.out).size | (simp; done) | (have := (HB15.out).size; simp; omega)) _) | (refine Below.setCell ?_ (by first | (simp; done) | (have := (HB15.out).size; simp; omega)) _))) hb)
  clear hb HB15
  rw [show badB 128 = true from rfl]
  go_wp2_with fail
  refine (bad_t 127 _).mono ?_
  rintro e w17 ⟨rfl, hb⟩
  have HB17 := Lib.hid (ext_then (w := w) (by repeat (first | exact HB16.out | refine Below.drew ?_ | (refine Below.alloc ?_ (by first | exact (HB16.out).size | (simp; done) | (have := (HB16.out).size; simp; omega)) _) | (refine Below.setCell ?_ (by first | (simp; done) | (have := (HB16.out).size; simp; omega)) _))) hb)
  clear hb HB16
  rw [show badB 127 = false from rfl]
  go_wp2_with fail
  refine (bad_t 256 _).mono ?_
  rintro e w18 ⟨rfl, hb⟩
  have HB18 := Lib.hid (ext_then (w := w) (by repeat (first | exact HB17.out | refine Below.drew ?_ | (refine Below.alloc ?_ (by first | exact (HB17.out).size | (simp; done) | (have := (HB17.out).size; simp; omega)) _) | (refine Below.setCell ?_ (by first | (simp; done) | (have := (HB17.out).size; simp; omega)) _))) hb)
  clear hb HB17
  rw [show badB 256 = false from rfl]
  go_wp2_with fail
  refine (text_t 162 _).mono ?_
  rintro e w19 ⟨rfl, hb⟩
  have HB19 := Lib.hid (ext_then (w := w) (by repeat (first | exact HB18.out | refine Below.drew ?_ | (refine Below.alloc ?_ (by first | exact (HB18.out).size | (simp; done) | (have := (HB18.out).size; simp; omega)) _) | (refine Below.setCell ?_ (by first | (simp; done) | (have := (HB18.out).size; simp; omega)) _))) hb)
  clear hb HB18
  rw [show textS 162 = ⟨#[97, 50]⟩ from by decide +kernel]
  go_wp2_with fail
  refine (text_t 0 _).mono ?_
  rintro e w20 ⟨rfl, hb⟩
  have HB20 := Lib.hid (ext_then (w := w) (by repeat (first | exact HB19.out | refine Below.drew ?_ | (refine Below.alloc ?_ (by first | exact (HB19.out).size | (simp; done) | (have := (HB19.out).size; simp; omega)) _) | (refine Below.setCell ?_ (by first | (simp; done) | (have := (HB19.out).size; simp; omega)) _))) hb)
  clear hb HB19
  rw [show textS 0 = ⟨#[48, 48]⟩ from by decide +kernel]
  go_wp2_with fail
  refine (text_t 3 _).mono ?_
  rintro e w21 ⟨rfl, hb⟩
  have HB21 := Lib.hid (ext_then (w := w) (by repeat (first | exact HB20.out | refine Below.drew ?_ | (refine Below.alloc ?_ (by first | exact (HB20.out).size | (simp; done) | (have := (HB20.out).size; simp; omega)) _) | (refine Below.setCell ?_ (by first | (simp; done) | (have := (HB20.out).size; simp; omega)) _))) hb)
  clear hb HB20
  rw [show textS 3 = ⟨#[63]⟩ from by decide +kernel]
  go_wp2_with fail
  refine (text_t (-1) _).mono ?_
  rintro e w22 ⟨rfl, hb⟩
  have HB22 := Lib.hid (ext_then (w := w) (by repeat (first | exact HB21.out | refine Below.drew ?_ | (refine Below.alloc ?_ (by first | exact (HB21.out).size | (simp; done) | (have := (HB21.out).size; simp; omega)) _) | (refine Below.setCell ?_ (by first | (simp; done) | (have := (HB21.out).size; simp; omega)) _))) hb)
  clear hb HB21
  rw [show textS (-1) = ⟨#[63]⟩ from by decide +kernel]
  go_wp2
  go_ret
  exact ⟨rfl, (by repeat (first | exact HB22.out | refine Below.drew ?_ | (refine Below.alloc ?_ (by first | exact (HB22.out).size | (simp; done) | (have := (HB22.out).size; simp; omega)) _) | (refine Below.setCell ?_ (by first | (simp; done) | (have := (HB22.out).size; simp; omega)) _)))⟩
end Go.Proofs.Ytnbgmpfldoaodaa
