/- 'Text': a code's two digits. -/
import Derived.Test.YtnbgmpfldoaodaaReason
import Derived.Laws.BytesArg
namespace Go.Proofs.Ytnbgmpfldoaodaa
open Go.RowKit
set_option maxHeartbeats 400000
set_option linter.unusedVariables false
set_option linter.unusedSimpArgs false
def anyTo (k : Nat) (code : Int) : Bool := (List.range k).any fun j => mayB (2 + (j : Int)) code
theorem anyTo_succ (k : Nat) (code : Int) : anyTo (k + 1) code = (anyTo k code || mayB (2 + (k : Int)) code) := by simp [anyTo, List.range_succ]
theorem any_more (c : Int) (k : Nat) (hk : k ≤ 14) (h : anyTo k c = true) : anyTo 14 c = true := by
  simp only [anyTo, List.any_eq_true, List.mem_range] at h ⊢
  obtain ⟨x, hx, hh⟩ := h
  exact ⟨x, by omega, hh⟩
theorem below_drew2 {w w1 : World} (h : Below w.heap.size w w1) (o : Obj) : Below w.heap.size w ((w1.alloc o).drew) := (h.alloc h.size o).drew
theorem mayB_range {kind code : Int} (h : mayB kind code = true) : 0 ≤ code ∧ code < 256 := codesL_range kind code (by simpa [mayB] using h)
def hexd (n : Int) : UInt8 := if n < 10 then UInt8.ofNat (48 + n.toNat) else UInt8.ofNat (87 + n.toNat)
def textS (code : Int) : ByteArray := if anyTo 14 code then ⟨#[hexd (code / 16), hexd (code % 16)]⟩ else ⟨#[63]⟩
theorem and15 {c : Int} (h0 : 0 ≤ c) (h1 : c < 256) : bits BinOp.and IntKind.i64 c 15 = c % 16 := by
  obtain ⟨n, rfl⟩ := Int.eq_ofNat_of_zero_le h0
  exact (show ∀ n : Nat, n < 256 → bits BinOp.and IntKind.i64 (n : Int) 15 = (n : Int) % 16 from by decide +kernel) n (by omega)
/-- Two bytes just made, as a string. -/
theorem conv_two (w : World) (x y : Int) : (convert 49 9 (.slice (some ⟨w.heap.size, 0, none⟩) 2 2)).run Try.prog ((w.alloc (.cells #[.int .u8 x, .int .u8 y] 5)).drew) = .ok (.string (strOfNums [x, y])) ((w.alloc (.cells #[.int .u8 x, .int .u8 y] 5)).drew) :=
  run_convert_bytes_arg _ 49 5 Try.underlying49 Try.underlying5 w.heap.size 0 2 2 [x, y] rfl (fun i hi => by
    have : ((w.alloc (.cells #[.int .u8 x, .int .u8 y] 5)).drew).cell? ⟨w.heap.size, 0 + i, none⟩ = (w.alloc (.cells #[.int .u8 x, .int .u8 y] 5)).cell? ⟨w.heap.size, 0 + i, none⟩ := rfl
    rw [this, cell_of_row _ _ _ _ _ _ (heap_alloc_new w _)]
    match i, hi with
    | 0, _ => rfl
    | 1, _ => rfl) _ Try.underlying9
def hexS : ByteArray := { data := #[48, 49, 50, 51, 52, 53, 54, 55, 56, 57, 97, 98, 99, 100, 101, 102] }
theorem hexS_fin : ∀ i : Fin 16, hexS[i.val]'(show i.val < 16 from i.isLt) = hexd i.val := by decide
theorem hexS_at (n : Nat) (h : n < hexS.size) : hexS[n]'h = hexd n := hexS_fin ⟨n, h⟩
theorem hex_two (i j : Int) (hi0 : 0 ≤ i) (hi : i < 16) (hj0 : 0 ≤ j) (hj : j < 16) (h1 : i.toNat < hexS.size) (h2 : j.toNat < hexS.size) :
    strOfNums [((hexS[i.toNat]'h1).toNat : Int), ((hexS[j.toNat]'h2).toNat : Int)] = ⟨#[hexd i, hexd j]⟩ := by
  rw [hexS_at, hexS_at, Int.toNat_of_nonneg hi0, Int.toNat_of_nonneg hj0]
  simp [strOfNums]
set_option maxRecDepth 100000 in
theorem text_t (c : Int) (w : World) : Calls Try.prog 20 #[.int .i64 c] w fun e w' => e = .returned (.string (textS c)) ∧ Below w.heap.size w w' := by
  go_enter Try.func20, Try.ntmps20
  go_wp2
  go_loopw [3] (fun v wr => ∃ k : Nat, k ≤ 14 ∧ v = .int .i64 (2 + (k : Int)) ∧ anyTo k c = false ∧ Below w.heap.size w wr) (fun v _ => (16 - intOf v).toNat)
  case atStart => exact ⟨0, by omega, rfl, rfl, Below.refl _ _⟩
  case round =>
    obtain ⟨k, hk, rfl, hany, hbel⟩ := hrel
    have HB := Lib.hid (⟨hany, hbel⟩ : _ ∧ _)
    clear hany hbel
    by_cases hlt : k < 14
    · have HA := Lib.hid (anyTo_succ k c)
      go_wp2_with fail
      refine (may_t (2 + (k : Int)) c _).mono ?_
      rintro e w1 ⟨rfl, hb1⟩
      have HB1 := Lib.hid (below_then HB.out.2 HB.out.2.size hb1)
      clear hb1
      by_cases hm : mayB (2 + (k : Int)) c = true
      · obtain ⟨h0, h1⟩ := mayB_range hm
        have hbit : bits BinOp.and IntKind.i64 c 15 = c % 16 := and15 h0 h1
        have r0 : 0 ≤ c / 16 := by omega
        have r1 : c / 16 < 16 := by omega
        have r2 : 0 ≤ c % 16 := by omega
        have r3 : c % 16 < 16 := by omega
        rw [hm]
        have HM : Hid (textS c = ⟨#[hexd (c / 16), hexd (c % 16)]⟩) := Lib.hid (by rw [textS, if_pos]; exact any_more c (k + 1) (by omega) (by rw [anyTo_succ, hm]; simp))
        have HX := Lib.hid (hex_two (c / 16) (c % 16) r0 r1 r2 r3)
        have hcv := conv_two w1
        clear hm
        go_wp2
        go_region
        all_goals go_wp2
        all_goals go_ret
        all_goals exact ⟨by rw [HM.out]; exact congrArg (fun s => Ending.returned (.string s)) (HX.out _ _), below_drew2 HB1.out _⟩
      · have hm' : mayB (2 + (k : Int)) c = false := by simpa using hm
        rw [hm']
        have HN : Hid (anyTo (k + 1) c = false) := Lib.hid (by rw [HA.out, hm', HB.out.1]; rfl)
        clear hm hm'
        go_wp2
        go_roundw
        case rel => exact ⟨k + 1, by omega, by go_num, HN.out, HB1.out⟩
        case measure => simp [intOf]; omega
    · have hk14 : k = 14 := by omega
      have HE : Hid (textS c = ⟨#[63]⟩) := Lib.hid (by have := HB.out.1; rw [hk14] at this; simp [textS, this])
      clear hk14
      go_wp2
      go_ret
      exact ⟨by rw [HE.out]; rfl, HB.out.2⟩
end Go.Proofs.Ytnbgmpfldoaodaa
