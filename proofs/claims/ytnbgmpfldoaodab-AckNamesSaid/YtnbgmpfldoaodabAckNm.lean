/- The closed examples of chapter 10, in plain Lean. -/
import Derived.Test.YtnbgmpfldoaodabAckLaw
import Derived.Test.YtnbgmpfldoaodabAckC
namespace Go.Proofs.Ytnbgmpfldoaodab
open Go.RowKit
set_option maxHeartbeats 2000000
set_option linter.unusedVariables false
set_option linter.unusedSimpArgs false
def prpU : Prp := ⟨38, 0, ⟨#[97]⟩, ⟨#[98]⟩⟩
theorem vu_a : validU ⟨#[97]⟩ = true := by decide +kernel
theorem vu_b : validU ⟨#[98]⟩ = true := by decide +kernel
theorem nm1 : ackRd 5 4 ⟨#[0, 7, 0]⟩ = (0, 0, [], 5) := by kernel_rfl
theorem nm2 : ackRd 5 4 ⟨#[0, 7, 16, 0]⟩ = (0, 0, [], 5) := by kernel_rfl
theorem nm3 : ackRd 4 4 ⟨#[0, 7, 16]⟩ = (0, 0, [], 5) := by kernel_rfl
theorem nm4 : ackRd 5 4 ⟨#[0]⟩ = (0, 0, [], 3) := by kernel_rfl
theorem nm5 : ackRd 5 4 ⟨#[0, 0]⟩ = (0, 0, [], 2) := by kernel_rfl
theorem nm6 : ackRd 5 6 ⟨#[0, 7, 16]⟩ = (0, 0, [], 2) := by kernel_rfl
theorem ckU : checkC (ruleOf 38) 5 prpU = 0 := by decide +kernel
theorem nm7 : ackRd 5 5 ⟨#[0, 1, 0, 7, 38, 0, 1, 97, 0, 1, 98]⟩ = (1, 0, [prpU], 0) := by kernel_rfl
theorem nm8 : ackRd 5 5 ⟨#[0, 1, 0, 7, 38, 0, 1, 97, 0, 1, 98, 122]⟩ = (0, 0, [], 5) := by kernel_rfl
theorem nm9 : ackRd 5 5 ⟨#[0, 1, 0, 7, 38, 0, 1, 97, 0, 1]⟩ = (0, 0, [], 3) := by kernel_rfl
theorem nmB (s : Sl) (h : s.n = 1) : ackB 5 (mkP 5 1 0 s) [prpU] = (⟨#[0, 1, 0, 7, 38, 0, 1, 97, 0, 1, 98]⟩, 0) := by
  have hv : ackV 5 (mkP 5 1 0 s) [prpU] = 0 := ackV_mk ⟨show knownA 5 5 = true by decide +kernel, show (1 : Int) ≤ 1 by decide, show (1 : Int) < 65536 by decide, show mayB 5 0 = true by decide +kernel, fun e => absurd e (by decide), show (bytesF 5 [prpU]).2 = 0 by decide +kernel⟩
  have h1 := ackB_snd 5 (mkP 5 1 0 s) [prpU]
  rw [hv] at h1
  refine Prod.ext (bl_inj ?_) h1
  rw [ackB_bl hv h]
  kernel_rfl
theorem nmV1 : ackV 4 (codePk 4 1 16) [] = 2 := by kernel_rfl
theorem nmV2 : ackV 5 (codePk 3 1 0) [] = 2 := by kernel_rfl
theorem nmV3 : ackV 5 (codePk 4 65536 0) [] = 2 := by kernel_rfl
theorem ackread_e {v kind z : Int} {s : ByteArray} (h : ackRd v kind s = (0, 0, [], z)) (hz : z ≠ 0) (w : World) (hs : s.size ≤ 140737488351232) : Calls Try.prog 8 #[.int .i64 v, .int .i64 kind, .string s] w fun e w' => e = .returned (.tuple #[.agg (packC zeroPk), .int .i64 z]) ∧ Below w.heap.size w w' :=
  (ackread_t v kind s w hs).mono fun e w' ⟨sl, h1, h2, h3⟩ => ⟨by rw [h1, h]; unfold resA; rw [if_neg hz], h2⟩
theorem ackread_7 (w : World) : Calls Try.prog 8 #[.int .i64 5, .int .i64 5, .string ⟨#[0, 1, 0, 7, 38, 0, 1, 97, 0, 1, 98]⟩] w fun e w' => ∃ sl : Sl, sl.n = 1 ∧ e = .returned (.tuple #[.agg (packC (mkP 5 1 0 sl)), .int .i64 0]) ∧ Below w.heap.size w w' :=
  (ackread_t 5 5 _ w (by decide)).mono fun e w' ⟨sl, h1, h2, h3⟩ => ⟨sl, by rw [nm7] at h3; exact (ls_RP h3).1, by rw [h1, nm7]; rfl, h2⟩
theorem nm8' : ackRd 5 5 ((⟨#[0, 1, 0, 7, 38, 0, 1, 97, 0, 1, 98]⟩ : ByteArray) ++ ⟨#[122]⟩) = (0, 0, [], 5) := by kernel_rfl
theorem nm9' : ackRd 5 5 ((⟨#[0, 1, 0, 7, 38, 0, 1, 97, 0, 1, 98]⟩ : ByteArray).extract 0 10) = (0, 0, [], 3) := by kernel_rfl
end Go.Proofs.Ytnbgmpfldoaodab
