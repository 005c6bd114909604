/- Packets of a kind, an id and a code: plain law; lives of chapter 10; kit.Pick. -/
import Derived.Test.YtnbgmpfldoaodaaAckB
namespace Go.Proofs.Ytnbgmpfldoaodaa
open Go.RowKit Go.Sort
set_option maxHeartbeats 2000000
set_option linter.unusedVariables false
set_option linter.unusedSimpArgs false
def codePk (k i c : Int) : Pk := { zeroPk with kind := k, id := i, code := c }
theorem same_code (k i c : Int) : sameEq (codePk k i c) (ackQ (codePk k i c)) = true := by
  simp [sameEq, bareEq, willEq, ackQ, codePk, zeroPk, zeroSl]
theorem bytes_none (k : Int) : bytesF k [] = (viS 0 ++ strOfNums [], 0) := by
  simp [bytesF, bytesGo, loneB]
theorem nil_RP (w : World) : RP w zeroSl.A zeroSl.n [] := ⟨rfl, by decide, fun p (h : p ∈ ([] : List Prp)) => absurd h (by simp), fun h => absurd h (by decide)⟩
theorem noTopic : Hid (([] : List Prp) ≠ [] → TopicOK) := Lib.hid fun h => absurd rfl h
def okC (v k i c : Int) : Bool := knownA v k && (decide (0 < i) && (decide (i < 65536) && (mayB k c && (v != 4 || c == 0))))
theorem ackV_code (v k i c : Int) : ackV v (codePk k i c) [] = if okC v k i c = true then 0 else 2 := by
  have hs := same_code k i c
  have hb := bytes_none k
  unfold ackV ackT okC
  rw [hs]
  change (if knownA v k = true then (if decide (i ≤ 0) = true then 2 else if decide (65536 ≤ i) = true then 2 else if mayB k c = true then (if (v == 4) = true then (if (c != 0) = true then 2 else if (((0 : Nat) : Int) != 0) = true then 2 else (if true = true then (bytesF k []).2 else 2)) else (if true = true then (bytesF k []).2 else 2)) else 2) else 2) = _
  rw [hb]
  have e1 : decide (0 < i) = !decide (i ≤ 0) := by by_cases h : i ≤ 0 <;> simp [h] <;> omega
  have e2 : decide (i < 65536) = !decide (65536 ≤ i) := by by_cases h : 65536 ≤ i <;> simp [h] <;> omega
  have e3 : (v != 4) = !(v == 4) := rfl
  have e4 : (c == 0) = !(c != 0) := by simp [bne]
  have e5 : (((0 : Nat) : Int) != 0) = false := rfl
  rw [e1, e2, e3, e4, e5]
  generalize decide (i ≤ 0) = b1
  generalize decide (65536 ≤ i) = b2
  generalize (v == 4) = b3
  generalize (c != 0) = b4
  generalize mayB k c = b5
  generalize knownA v k = b6
  cases b1 <;> cases b2 <;> cases b3 <;> cases b4 <;> cases b5 <;> cases b6 <;> rfl
theorem ackB_code (v k i c : Int) : ackB v (codePk k i c) [] = if okC v k i c = true then (if c = 0 then (be2 i, 0) else (be2 i ++ be1 c, 0)) else (⟨#[]⟩, 2) := by
  unfold ackB
  rw [ackV_code]
  by_cases h : okC v k i c = true
  · simp only [h, if_true, codePk, zeroPk, zeroSl]
    by_cases hc : c = 0 <;> simp [hc]
  · simp [h]
theorem codeB_t (v k i c : Int) (w : World) : Calls Try.prog 33 #[.int .i64 v, .agg (packC (codePk k i c))] w fun e w' => e = .returned (.tuple #[.string (ackB v (codePk k i c) []).1, .int .i64 (ackB v (codePk k i c) []).2]) ∧ Below w.heap.size w w' :=
  ackB_t v (codePk k i c) [] [] noTopic w (nil_RP w) (nil_RP w)
theorem live_a : ackB 5 (codePk 4 7 0) [] = (⟨#[0, 7]⟩, 0) := by
  rw [ackB_code, show okC 5 4 7 0 = true by decide +kernel]; rfl
theorem live_b : ackB 5 (codePk 4 7 16) [] = (⟨#[0, 7, 16]⟩, 0) := by
  rw [ackB_code, show okC 5 4 7 16 = true by decide +kernel]; rfl
set_option maxRecDepth 100000 in
theorem lives10_t (w : World) : Calls Try.prog 31 #[] w fun e w' => e = .returned (.bool true) ∧ Below w.heap.size w w' := by
  have HB0 := Lib.hid (Below.refl w.heap.size w)
  go_enter Try.func31, Try.ntmps31
  go_wp2_with fail
  refine (codeB_t 5 4 7 0 _).mono ?_
  rintro e w1 ⟨rfl, hb⟩
  have HB1 := Lib.hid (ext_then' (w := w) (by repeat (first | exact HB0.out | refine Below.drew ?_ | (refine Below.alloc ?_ (by first | exact (HB0.out).size | (simp; done) | (have := (HB0.out).size; simp; omega)) _) | (refine Below.setCell ?_ (by first | (simp; done) | (have := (HB0.out).size; simp; omega)) _))) hb)
  clear hb HB0
  rw [live_a]
  go_wp2_with fail
  refine (codeB_t 5 4 7 16 _).mono ?_
  rintro e w2 ⟨rfl, hb⟩
  have HB2 := Lib.hid (ext_then' (w := w) (by repeat (first | exact HB1.out | refine Below.drew ?_ | (refine Below.alloc ?_ (by first | exact (HB1.out).size | (simp; done) | (have := (HB1.out).size; simp; omega)) _) | (refine Below.setCell ?_ (by first | (simp; done) | (have := (HB1.out).size; simp; omega)) _))) hb)
  clear hb HB1
  rw [live_b]
  go_wp2
  go_ret
  exact ⟨rfl, (by repeat (first | exact HB2.out | refine Below.drew ?_ | (refine Below.alloc ?_ (by first | exact (HB2.out).size | (simp; done) | (have := (HB2.out).size; simp; omega)) _) | (refine Below.setCell ?_ (by first | (simp; done) | (have := (HB2.out).size; simp; omega)) _)))⟩
def pick4 (n : Int) : Int := if decide (n.tmod 4 < 0) = true then n.tmod 4 + 4 else n.tmod 4
theorem pick4_range (n : Int) : 0 ≤ pick4 n ∧ pick4 n < 4 := by
  have h1 := Int.tmod_lt_of_pos n (show (0 : Int) < 4 by decide)
  have h2 : -4 < n.tmod 4 := by
    have := Int.tmod_lt_of_pos (-n) (show (0 : Int) < 4 by decide)
    rw [Int.neg_tmod] at this
    omega
  unfold pick4
  by_cases h : n.tmod 4 < 0
  · rw [if_pos (by simpa using h)]; omega
  · rw [if_neg (by simpa using h)]; omega
set_option maxRecDepth 100000 in
theorem pick4_t (n : Int) (w : World) : Calls Try.prog 32 #[.int .i64 n, .int .i64 4] w fun e w' => e = .returned (.int .i64 (pick4 n)) ∧ w' = w := by
  have h1 := Int.tmod_lt_of_pos n (show (0 : Int) < 4 by decide)
  have h2 : -4 < n.tmod 4 := by
    have := Int.tmod_lt_of_pos (-n) (show (0 : Int) < 4 by decide)
    rw [Int.neg_tmod] at this
    omega
  have HE : Hid (pick4 n = if decide (n.tmod 4 < 0) = true then n.tmod 4 + 4 else n.tmod 4) := Lib.hid rfl
  by_cases h : n.tmod 4 < 0
  · have hd : decide (n.tmod 4 < 0) = true := by simpa using h
    have HE' : Hid (pick4 n = n.tmod 4 + 4) := Lib.hid (by rw [HE.out, if_pos hd])
    go_enter Try.func32, Try.ntmps32
    go_wp2
    go_ret
    exact ⟨by rw [HE'.out]; rfl, rfl⟩
  · have hd : decide (n.tmod 4 < 0) = false := by simpa using h
    have HE' : Hid (pick4 n = n.tmod 4) := Lib.hid (by rw [HE.out, if_neg (by rw [hd]; decide)])
    go_enter Try.func32, Try.ntmps32
    go_wp2
    go_ret
    exact ⟨by rw [HE'.out]; rfl, rfl⟩
end Go.Proofs.Ytnbgmpfldoaodaa
