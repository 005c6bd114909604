/- octet.Put: the bytes of a number, the highest first. -/
import Derived.Test.YtnbgmpfldoaodabWords
import Derived.Laws.BytesArg
namespace Go.Proofs.Ytnbgmpfldoaodab
open Go.RowKit
set_option maxHeartbeats 1000000
set_option linter.unusedVariables false
set_option linter.unusedSimpArgs false
/-- Bytes just made, as a string. -/
theorem conv_new (w : World) (B : Nat) (hB : w.heap.size = B) (xs : List Int) (n : Nat) (hn : xs.length = n) (C : Array Value) (hC : C = (xs.map (Value.int .u8)).toArray) : (convert 71 9 (.slice (some ⟨B, 0, none⟩) n n)).run Try.prog (w.alloc (.cells C 5)) = .ok (.string (strOfNums xs)) (w.alloc (.cells C 5)) :=
  run_convert_bytes_arg _ 71 5 Try.underlying71 Try.underlying5 B 0 n n xs hn (fun i hi => by
    subst hB
    rw [cell_of_row _ _ _ _ _ _ (heap_alloc_new w _), hC]
    have : i < xs.length := by omega
    simp [List.getD_eq_getElem?_getD, List.getElem?_eq_getElem this]) _ Try.underlying9
def be1 (n : Int) : ByteArray := strOfNums [n % 256]
set_option maxRecDepth 100000 in
theorem put1_t (n : Int) (w : World) (h0 : 0 ≤ n) (h1 : n < 18446744073709551616) : Calls Try.prog 20 #[.int .u64 n, .int .i64 1] w fun e w' => e = .returned (.string (be1 n)) ∧ Below w.heap.size w w' := by
  have hmk : ∀ w : World, (Instr.makeSlice 71 (.int .i64 1) (.int .i64 1)).run Try.prog w = .ok (.slice (some ⟨w.heap.size, 0, none⟩) 1 1) (w.alloc (.cells #[.int .u8 0] 5)) := fun _ => by kernel_rfl
  have hcv := fun x0 => conv_new w _ rfl [x0] 1 rfl #[.int .u8 x0] rfl
  go_enter Try.func20, Try.ntmps20
  go_wp2
  go_rounds 2
  go_ret
  exact ⟨rfl, (Below.refl _ _).alloc (Nat.le_refl _) _⟩
def be2 (n : Int) : ByteArray := strOfNums [n / 256 % 256, n % 256]
set_option maxRecDepth 100000 in
theorem put2_t (n : Int) (w : World) (h0 : 0 ≤ n) (h1 : n < 18446744073709551616) : Calls Try.prog 20 #[.int .u64 n, .int .i64 2] w fun e w' => e = .returned (.string (be2 n)) ∧ Below w.heap.size w w' := by
  have hmk : ∀ w : World, (Instr.makeSlice 71 (.int .i64 2) (.int .i64 2)).run Try.prog w = .ok (.slice (some ⟨w.heap.size, 0, none⟩) 2 2) (w.alloc (.cells #[.int .u8 0, .int .u8 0] 5)) := fun _ => by kernel_rfl
  have hcv := fun x0 x1 => conv_new w _ rfl [x0, x1] 2 rfl #[.int .u8 x0, .int .u8 x1] rfl
  go_enter Try.func20, Try.ntmps20
  go_wp2
  go_rounds 3
  go_ret
  exact ⟨rfl, (Below.refl _ _).alloc (Nat.le_refl _) _⟩
def be4 (n : Int) : ByteArray := strOfNums [n / 16777216 % 256, n / 65536 % 256, n / 256 % 256, n % 256]
set_option maxRecDepth 100000 in
theorem put4_t (n : Int) (w : World) (h0 : 0 ≤ n) (h1 : n < 18446744073709551616) : Calls Try.prog 20 #[.int .u64 n, .int .i64 4] w fun e w' => e = .returned (.string (be4 n)) ∧ Below w.heap.size w w' := by
  have hmk : ∀ w : World, (Instr.makeSlice 71 (.int .i64 4) (.int .i64 4)).run Try.prog w = .ok (.slice (some ⟨w.heap.size, 0, none⟩) 4 4) (w.alloc (.cells #[.int .u8 0, .int .u8 0, .int .u8 0, .int .u8 0] 5)) := fun _ => by kernel_rfl
  have hcv := fun x0 x1 x2 x3 => conv_new w _ rfl [x0, x1, x2, x3] 4 rfl #[.int .u8 x0, .int .u8 x1, .int .u8 x2, .int .u8 x3] rfl
  go_enter Try.func20, Try.ntmps20
  go_wp2
  go_rounds 5
  go_ret
  exact ⟨rfl, (Below.refl _ _).alloc (Nat.le_refl _) _⟩
end Go.Proofs.Ytnbgmpfldoaodab
