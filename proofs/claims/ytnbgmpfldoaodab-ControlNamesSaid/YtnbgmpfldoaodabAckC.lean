/- Packets of a kind, an id and a code: plain law; lives of chapter 10; kit.Pick. -/
import Derived.Test.YtnbgmpfldoaodabAckB
namespace Go.Proofs.Ytnbgmpfldoaodab
open Go.RowKit Go.Sort
set_option maxHeartbeats 2000000
set_option linter.unusedVariables false
set_option linter.unusedSimpArgs false
theorem same_code (k i c : Int) : sameEq (codePk k i c) (ackQ (codePk k i c)) = true := by
  simp [sameEq, bareEq, willEq, ackQ, codePk, zeroPk, zeroSl]
def okC (v k i c : Int) : Bool := knownA v k && (decide (0 < i) && (decide (i < 65536) && (mayB k c && (v != 4 || c == 0))))
theorem ackV_code (v k i c : Int) : ackV v (codePk k i c) [] = if okC v k i c = true then 0 else 2 := by
  have hs := same_code k i c
  have hb := bytes_none k
  unfold ackV ackT okC
  rw [hs]
  change (if knownA v k = true then (if decide (i ≤ 0) = true then 2 else if decide (65536 ≤ i) = true then 2 else if mayB k c = true then (if (v == 4) = true then (if (c != 0) = true then 2 else if (((0 : Nat) : Int) != 0) = true then 2 else (if true = true then (bytesF k []).2 else 2)) else (if true = true then (bytesF k []).2 else 2)) else 2) else 2) = _
  rw [hb]
  have e1 : decide (0 < i) = !decide (i ≤ 0) := by by_cases h : i ≤ 0 <;> simp [h] <;> omega
  have e2 : decide (i < 65536) = !decide (65536 ≤ i) := by by_cases h : 65536 ≤ i <;> simp [h] <;> omega
  have e3 : (v != 4) = !(v == 4) := rfl
  have e4 : (c == 0) = !(c != 0) := by simp [bne]
  have e5 : (((0 : Nat) : Int) != 0) = false := rfl
  rw [e1, e2, e3, e4, e5]
  generalize decide (i ≤ 0) = b1
  generalize decide (65536 ≤ i) = b2
  generalize (v == 4) = b3
  generalize (c != 0) = b4
  generalize mayB k c = b5
  generalize knownA v k = b6
  cases b1 <;> cases b2 <;> cases b3 <;> cases b4 <;> cases b5 <;> cases b6 <;> rfl
theorem ackB_code (v k i c : Int) : ackB v (codePk k i c) [] = if okC v k i c = true then (if c = 0 then (be2 i, 0) else (be2 i ++ be1 c, 0)) else (⟨#[]⟩, 2) := by
  unfold ackB
  rw [ackV_code]
  by_cases h : okC v k i c = true
  · simp only [h, if_true, codePk, zeroPk, zeroSl]
    by_cases hc : c = 0 <;> simp [hc]
  · simp [h]
theorem codeB_t (v k i c : Int) (w : World) : Calls Try.prog 7 #[.int .i64 v, .agg (packC (codePk k i c))] w fun e w' => e = .returned (.tuple #[.string (ackB v (codePk k i c) []).1, .int .i64 (ackB v (codePk k i c) []).2]) ∧ Below w.heap.size w w' :=
  ackB_t v (codePk k i c) [] [] noTopic w (nil_RP w) (nil_RP w)
theorem live_a : ackB 5 (codePk 4 7 0) [] = (⟨#[0, 7]⟩, 0) := by
  rw [ackB_code, show okC 5 4 7 0 = true by decide +kernel]; rfl
theorem live_b : ackB 5 (codePk 4 7 16) [] = (⟨#[0, 7, 16]⟩, 0) := by
  rw [ackB_code, show okC 5 4 7 16 = true by decide +kernel]; rfl
set_option maxRecDepth 100000 in
theorem lives10_t (w : World) : Calls Try.prog 6 #[] w fun e w' => e = .returned (.bool true) ∧ Below w.heap.size w w' := by
  have HB0 := Lib.hid (Below.refl w.heap.size w)
  go_enter Try.func6, Try.ntmps6
  go_wp2_with fail
  refine (codeB_t 5 4 7 0 _).mono ?_
  rintro e w1 ⟨rfl, hb⟩
  have HB1 := Lib.hid (ext_then' (w := w) (by repeat (first | exact HB0.out | refine Below.drew ?_ | (refine Below.alloc ?_ (by first | exact (HB0.out).size | (simp; done) | (have := (HB0.out).size; simp; omega)) _) | (refine Below.setCell ?_ (by first | (simp; done) | (have := (HB0.out).size; simp; omega)) _))) hb)
  clear hb HB0
  rw [live_a]
  go_wp2_with fail
  refine (codeB_t 5 4 7 16 _).mono ?_
  rintro e w2 ⟨rfl, hb⟩
  have HB2 := Lib.hid (ext_then' (w := w) (by repeat (first | exact HB1.out | refine Below.drew ?_ | (refine Below.alloc ?_ (by first | exact (HB1.out).size | (simp; done) | (have := (HB1.out).size; simp; omega)) _) | (refine Below.setCell ?_ (by first | (simp; done) | (have := (HB1.out).size; simp; omega)) _))) hb)
  clear hb HB1
  rw [live_b]
  go_wp2
  go_ret
  exact ⟨rfl, (by repeat (first | exact HB2.out | refine Below.drew ?_ | (refine Below.alloc ?_ (by first | exact (HB2.out).size | (simp; done) | (have := (HB2.out).size; simp; omega)) _) | (refine Below.setCell ?_ (by first | (simp; done) | (have := (HB2.out).size; simp; omega)) _)))⟩
end Go.Proofs.Ytnbgmpfldoaodab
