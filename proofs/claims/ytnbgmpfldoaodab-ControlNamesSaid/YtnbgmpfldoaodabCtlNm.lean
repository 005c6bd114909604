/- The closed examples of chapter 12, in plain Lean. -/
import Derived.Test.YtnbgmpfldoaodabCtlLaw
namespace Go.Proofs.Ytnbgmpfldoaodab
open Go.RowKit
set_option maxHeartbeats 2000000
set_option linter.unusedVariables false
set_option linter.unusedSimpArgs false
def prpX : Prp := ⟨31, 0, ⟨#[120]⟩, ⟨#[]⟩⟩
theorem cn_f : ctlRd 5 15 ⟨#[24, 4, 31, 0, 1, 120]⟩ = (24, [prpX], 0) := by kernel_rfl
theorem cn_g : ctlRd 4 15 ⟨#[]⟩ = (0, [], 8) := by kernel_rfl
theorem cn_h : ctlRd 4 12 ⟨#[120]⟩ = (0, [], 5) := by kernel_rfl
theorem cn_i : ctlRd 4 14 ⟨#[4]⟩ = (0, [], 5) := by kernel_rfl
theorem cn_j : ctlRd 5 14 ⟨#[0]⟩ = (0, [], 5) := by kernel_rfl
theorem cn_k : ctlRd 5 14 ⟨#[4, 0]⟩ = (0, [], 5) := by kernel_rfl
theorem cn_l : ctlRd 5 14 ⟨#[5]⟩ = (0, [], 2) := by kernel_rfl
theorem cn_m : ctlRd 5 1 ⟨#[]⟩ = (0, [], 2) := by kernel_rfl
theorem cn_n : ctlRd 5 13 ⟨#[]⟩ = (0, [], 0) := by kernel_rfl
theorem cn_B (s : Sl) (h : s.n = 1) : contB 5 (mkP 15 0 24 s) [prpX] = (⟨#[24, 4, 31, 0, 1, 120]⟩, 0) := by
  have hv : contV 5 (mkP 15 0 24 s) [prpX] = 0 := contV_is ⟨show knownC 5 15 = 0 by decide +kernel, show (bytesF 15 [prpX]).2 = 0 by decide +kernel, fun _ => ⟨show mayB 15 24 = true by decide +kernel, sameEq_self (mkP 15 0 24 s)⟩, fun e => absurd e (by show ¬ (saysB 5 15).1 = false; decide)⟩
  have h1 := contB_snd 5 (mkP 15 0 24 s) [prpX]
  rw [hv] at h1
  refine Prod.ext (bl_inj ?_) h1
  rw [contB_fst hv]
  show bl (conTail 24 s.n 15 [prpX]) = _
  rw [con_tail (show (bytesF 15 [prpX]).2 = 0 by decide +kernel) (by show (0 : Int) ≤ 24; decide) (by show (24 : Int) < 256; decide) h]
  kernel_rfl
theorem cn_V1 : contV 4 (codePk 15 0 0) [] = 8 := by kernel_rfl
theorem cn_V2 : contV 4 (codePk 14 0 4) [] = 2 := by kernel_rfl
theorem cn_V3 : contV 5 { zeroPk with kind := 12, topic := ⟨#[97]⟩ } [] = 2 := by kernel_rfl
theorem cn_T1 : conTail 300 0 15 [] = ⟨#[]⟩ := by kernel_rfl
theorem cn_T2 : conTail 24 0 15 [] = ⟨#[24]⟩ := by kernel_rfl
theorem cn_T3 : conTail 0 0 15 [] = ⟨#[]⟩ := by kernel_rfl
theorem cn_T4 : conTail 0 1 12 [prpX] = ⟨#[]⟩ := by kernel_rfl
theorem ctlread_e {v kind z : Int} {s : ByteArray} (h : ctlRd v kind s = (0, [], z)) (hz : z ≠ 0) (w : World) (hs : s.size ≤ 140737488351232) : Calls Try.prog 14 #[.int .i64 v, .int .i64 kind, .string s] w fun e w' => e = .returned (.tuple #[.agg (packC zeroPk), .int .i64 z]) ∧ Below w.heap.size w w' :=
  (ctlread_t v kind s w hs).mono fun e w' ⟨sl, h1, h2, h3⟩ => ⟨by rw [h2, h]; unfold resC; rw [if_neg hz], h3⟩
theorem ctlread_f (w : World) : Calls Try.prog 14 #[.int .i64 5, .int .i64 15, .string ⟨#[24, 4, 31, 0, 1, 120]⟩] w fun e w' => ∃ sl : Sl, RP w' sl.A sl.n [prpX] ∧ e = .returned (.tuple #[.agg (packC (mkP 15 0 24 sl)), .int .i64 0]) ∧ Below w.heap.size w w' :=
  (ctlread_t 5 15 _ w (by decide)).mono fun e w' ⟨sl, h1, h2, h3⟩ => ⟨sl, by rw [cn_f] at h1; exact (ls_RP h1).2, by rw [h2, cn_f]; rfl, h3⟩
theorem ctlread_n (w : World) : Calls Try.prog 14 #[.int .i64 5, .int .i64 13, .string ⟨#[]⟩] w fun e w' => ∃ sl : Sl, RP w' sl.A sl.n [] ∧ e = .returned (.tuple #[.agg (packC (mkP 13 0 0 sl)), .int .i64 0]) ∧ Below w.heap.size w w' :=
  (ctlread_t 5 13 _ w (by decide)).mono fun e w' ⟨sl, h1, h2, h3⟩ => ⟨sl, by rw [cn_n] at h1; exact (ls_RP h1).2, by rw [h2, cn_n]; rfl, h3⟩
end Go.Proofs.Ytnbgmpfldoaodab
