/- varint.Read: a variable byte integer that is read. -/
import Derived.Test.YtnbgmpfldoaodabCur
namespace Go.Proofs.Ytnbgmpfldoaodab
open Go.RowKit Go.Sort
set_option maxHeartbeats 2000000
set_option linter.unusedVariables false
set_option linter.unusedSimpArgs false
structure Rd where
  n : Int
  size : Int
  done : Bool
  bad : Bool
def rdC (r : Rd) : Array Value := #[.int .i64 r.n, .int .i64 r.size, .bool r.done, .bool r.bad]
def RdAt (w : World) (g : Nat) (r : Rd) : Prop := w.heap[g]? = some (.cells (rdC r) 123 (0, 0))
theorem rd_cells {w : World} {g : Nat} {r : Rd} (h : RdAt w g r) : w.cell? ⟨g, 0, none⟩ = some (.int .i64 r.n) ∧ w.cell? ⟨g, 1, none⟩ = some (.int .i64 r.size) ∧ w.cell? ⟨g, 2, none⟩ = some (.bool r.done) ∧ w.cell? ⟨g, 3, none⟩ = some (.bool r.bad) :=
  ⟨by rw [cell_of_row _ _ _ _ _ _ h]; rfl, by rw [cell_of_row _ _ _ _ _ _ h]; rfl, by rw [cell_of_row _ _ _ _ _ _ h]; rfl, by rw [cell_of_row _ _ _ _ _ _ h]; rfl⟩
theorem rd_free {w : World} {g : Nat} {r : Rd} (h : RdAt w g r) (i : Nat) : w.frozen? ⟨g, i, none⟩ = false := frozen_of_row _ _ i _ _ h
theorem rd_set {w : World} {g : Nat} {r : Rd} (h : RdAt w g r) (i : Nat) (v : Value) (r' : Rd) (e : (rdC r).setIfInBounds i v = rdC r') : RdAt (w.setCell ⟨g, i, none⟩ v) g r' := by
  have := heap_setCell_same w g i _ _ v h
  rw [e] at this
  exact this
theorem and127 {x : Int} (h0 : 0 ≤ x) (h1 : x < 256) : bits BinOp.and IntKind.u8 x 127 = x % 128 := by
  obtain ⟨n, rfl⟩ := Int.eq_ofNat_of_zero_le h0
  exact (show ∀ n : Nat, n < 256 → bits BinOp.and IntKind.u8 (n : Int) 127 = (n : Int) % 128 from by decide +kernel) n (by omega)
theorem and128 {x : Int} (h0 : 0 ≤ x) (h1 : x < 256) : (bits BinOp.and IntKind.u8 x 128 != 0) = decide (128 ≤ x) := by
  obtain ⟨n, rfl⟩ := Int.eq_ofNat_of_zero_le h0
  exact (show ∀ n : Nat, n < 256 → (bits BinOp.and IntKind.u8 (n : Int) 128 != 0) = decide (128 ≤ (n : Int)) from by decide +kernel) n (by omega)
set_option maxRecDepth 100000 in
theorem push0_t (g : Nat) (z b y : Int) (hy : z + b % 128 = y) (w : World) (h : RdAt w g ⟨z, 0, false, false⟩) (z0 : 0 ≤ z) (z1 : z < 268435456) (b0 : 0 ≤ b) (b1 : b < 256) :
    Calls Try.prog 84 #[.pointer (some ⟨g, 0, none⟩), .int .u8 b] w fun e w' =>
      (if decide (128 ≤ b) = true then e = .returned (.tuple #[.bool false, .int .i64 0]) ∧ RdAt w' g ⟨y, 1, false, false⟩
       else e = .returned (.tuple #[.bool true, .int .i64 0]) ∧ RdAt w' g ⟨y, 1, true, false⟩) ∧ w.grownBy w' (some g) := by
  obtain ⟨c0, c1, c2, c3⟩ := rd_cells h
  have f0 := rd_free h 0
  have ha := and127 b0 b1
  have hb := and128 b0 b1
  have m0 : 0 ≤ b % 128 := by omega
  have m1 : b % 128 < 128 := by omega
  have HX := Lib.hid (rd_set h 0 (.int .i64 y) ⟨y, 0, false, false⟩ rfl)
  have HG : Hid (w.grownBy ((w.setCell ⟨g, 0, none⟩ (.int .i64 y)).drew) (some g)) := Lib.hid (grown_trans (grown_set _ _ _ _) (grown_drewN _ _ 1))
  clear h
  go_enter Try.func84, Try.ntmps84
  go_wp2
  go_region
  try rw [hy]
  have HX1 : Hid (RdAt ((w.setCell ⟨g, 0, none⟩ (.int .i64 y)).drew) g ⟨y, 0, false, false⟩) := HX
  clear c0 c1 c2 c3 f0 ha HX
  generalize (w.setCell ⟨g, 0, none⟩ (.int .i64 y)).drew = w1 at *
  obtain ⟨c0, c1, c2, c3⟩ := rd_cells HX1.out
  have f1 := rd_free HX1.out 1
  have f2 := rd_free HX1.out 2
  have f3 := rd_free HX1.out 3
  simp only [] at c1
  have HX2 := Lib.hid (rd_set HX1.out 1 (.int .i64 1) ⟨y, 1, false, false⟩ rfl)
  clear m0 m1 c0
  cases hc : decide (128 ≤ b)
  · rw [hc] at hb
    have HX3 := Lib.hid (rd_set HX2.out 2 (.bool true) ⟨y, 1, true, false⟩ rfl)
    go_wp2
    all_goals (go_ret2; refine ⟨?_, grown_trans HG.out (grown_trans (grown_set _ _ _ _) (grown_set _ _ _ _))⟩; first | exact ⟨rfl, HX3.out⟩ | (rw [if_neg Bool.false_ne_true]; exact ⟨rfl, HX3.out⟩))
  · rw [hc] at hb
    have HX3 := Lib.hid (rd_set HX2.out 3 (.bool false) ⟨y, 1, false, false⟩ rfl)
    go_wp2
    go_ret2
    exact ⟨by first | exact ⟨rfl, HX3.out⟩ | (rw [if_pos rfl]; exact ⟨rfl, HX3.out⟩), grown_trans HG.out (grown_trans (grown_set _ _ _ _) (grown_set _ _ _ _))⟩
set_option maxRecDepth 100000 in
theorem push1_t (g : Nat) (z b y : Int) (hy : z + b % 128 * 128 = y) (w : World) (h : RdAt w g ⟨z, 1, false, false⟩) (z0 : 0 ≤ z) (z1 : z < 268435456) (b0 : 0 ≤ b) (b1 : b < 256) :
    Calls Try.prog 84 #[.pointer (some ⟨g, 0, none⟩), .int .u8 b] w fun e w' =>
      (if decide (128 ≤ b) = true then e = .returned (.tuple #[.bool false, .int .i64 0]) ∧ RdAt w' g ⟨y, 2, false, false⟩
       else if decide (b = 0) = true then e = .returned (.tuple #[.bool false, .int .i64 5]) ∧ RdAt w' g ⟨y, 2, false, true⟩ else e = .returned (.tuple #[.bool true, .int .i64 0]) ∧ RdAt w' g ⟨y, 2, true, false⟩) ∧ w.grownBy w' (some g) := by
  obtain ⟨c0, c1, c2, c3⟩ := rd_cells h
  have f0 := rd_free h 0
  have ha := and127 b0 b1
  have hb := and128 b0 b1
  have m0 : 0 ≤ b % 128 := by omega
  have m1 : b % 128 < 128 := by omega
  have HX := Lib.hid (rd_set h 0 (.int .i64 y) ⟨y, 1, false, false⟩ rfl)
  have HG : Hid (w.grownBy ((w.setCell ⟨g, 0, none⟩ (.int .i64 y)).drew) (some g)) := Lib.hid (grown_trans (grown_set _ _ _ _) (grown_drewN _ _ 1))
  clear h
  go_enter Try.func84, Try.ntmps84
  go_wp2
  go_region
  try rw [hy]
  have HX1 : Hid (RdAt ((w.setCell ⟨g, 0, none⟩ (.int .i64 y)).drew) g ⟨y, 1, false, false⟩) := HX
  clear c0 c1 c2 c3 f0 ha HX
  generalize (w.setCell ⟨g, 0, none⟩ (.int .i64 y)).drew = w1 at *
  obtain ⟨c0, c1, c2, c3⟩ := rd_cells HX1.out
  have f1 := rd_free HX1.out 1
  have f2 := rd_free HX1.out 2
  have f3 := rd_free HX1.out 3
  simp only [] at c1
  have HX2 := Lib.hid (rd_set HX1.out 1 (.int .i64 2) ⟨y, 2, false, false⟩ rfl)
  clear m0 m1 c0
  cases hc : decide (128 ≤ b)
  · rw [hc] at hb
    cases hd : decide (b = 0)
    · have hd' : (b == 0) = false := by simpa using hd
      have HX3 := Lib.hid (rd_set HX2.out 2 (.bool true) ⟨y, 2, true, false⟩ rfl)
      go_wp2
      all_goals (go_ret2; refine ⟨?_, grown_trans HG.out (grown_trans (grown_set _ _ _ _) (grown_set _ _ _ _))⟩; first | exact ⟨rfl, HX3.out⟩ | (rw [if_neg Bool.false_ne_true, if_neg Bool.false_ne_true]; exact ⟨rfl, HX3.out⟩))
    · have hd' : (b == 0) = true := by simpa using hd
      have HX3 := Lib.hid (rd_set HX2.out 3 (.bool true) ⟨y, 2, false, true⟩ rfl)
      go_wp2
      all_goals (go_ret2; refine ⟨?_, grown_trans HG.out (grown_trans (grown_set _ _ _ _) (grown_set _ _ _ _))⟩; first | exact ⟨rfl, HX3.out⟩ | (rw [if_neg Bool.false_ne_true, if_pos rfl]; exact ⟨rfl, HX3.out⟩))
  · rw [hc] at hb
    have HX3 := Lib.hid (rd_set HX2.out 3 (.bool false) ⟨y, 2, false, false⟩ rfl)
    go_wp2
    go_ret2
    exact ⟨by first | exact ⟨rfl, HX3.out⟩ | (rw [if_pos rfl]; exact ⟨rfl, HX3.out⟩), grown_trans HG.out (grown_trans (grown_set _ _ _ _) (grown_set _ _ _ _))⟩
set_option maxRecDepth 100000 in
theorem push2_t (g : Nat) (z b y : Int) (hy : z + b % 128 * 16384 = y) (w : World) (h : RdAt w g ⟨z, 2, false, false⟩) (z0 : 0 ≤ z) (z1 : z < 268435456) (b0 : 0 ≤ b) (b1 : b < 256) :
    Calls Try.prog 84 #[.pointer (some ⟨g, 0, none⟩), .int .u8 b] w fun e w' =>
      (if decide (128 ≤ b) = true then e = .returned (.tuple #[.bool false, .int .i64 0]) ∧ RdAt w' g ⟨y, 3, false, false⟩
       else if decide (b = 0) = true then e = .returned (.tuple #[.bool false, .int .i64 5]) ∧ RdAt w' g ⟨y, 3, false, true⟩ else e = .returned (.tuple #[.bool true, .int .i64 0]) ∧ RdAt w' g ⟨y, 3, true, false⟩) ∧ w.grownBy w' (some g) := by
  obtain ⟨c0, c1, c2, c3⟩ := rd_cells h
  have f0 := rd_free h 0
  have ha := and127 b0 b1
  have hb := and128 b0 b1
  have m0 : 0 ≤ b % 128 := by omega
  have m1 : b % 128 < 128 := by omega
  have HX := Lib.hid (rd_set h 0 (.int .i64 y) ⟨y, 2, false, false⟩ rfl)
  have HG : Hid (w.grownBy ((w.setCell ⟨g, 0, none⟩ (.int .i64 y)).drew) (some g)) := Lib.hid (grown_trans (grown_set _ _ _ _) (grown_drewN _ _ 1))
  clear h
  go_enter Try.func84, Try.ntmps84
  go_wp2
  go_region
  try rw [hy]
  have HX1 : Hid (RdAt ((w.setCell ⟨g, 0, none⟩ (.int .i64 y)).drew) g ⟨y, 2, false, false⟩) := HX
  clear c0 c1 c2 c3 f0 ha HX
  generalize (w.setCell ⟨g, 0, none⟩ (.int .i64 y)).drew = w1 at *
  obtain ⟨c0, c1, c2, c3⟩ := rd_cells HX1.out
  have f1 := rd_free HX1.out 1
  have f2 := rd_free HX1.out 2
  have f3 := rd_free HX1.out 3
  simp only [] at c1
  have HX2 := Lib.hid (rd_set HX1.out 1 (.int .i64 3) ⟨y, 3, false, false⟩ rfl)
  clear m0 m1 c0
  cases hc : decide (128 ≤ b)
  · rw [hc] at hb
    cases hd : decide (b = 0)
    · have hd' : (b == 0) = false := by simpa using hd
      have HX3 := Lib.hid (rd_set HX2.out 2 (.bool true) ⟨y, 3, true, false⟩ rfl)
      go_wp2
      all_goals (go_ret2; refine ⟨?_, grown_trans HG.out (grown_trans (grown_set _ _ _ _) (grown_set _ _ _ _))⟩; first | exact ⟨rfl, HX3.out⟩ | (rw [if_neg Bool.false_ne_true, if_neg Bool.false_ne_true]; exact ⟨rfl, HX3.out⟩))
    · have hd' : (b == 0) = true := by simpa using hd
      have HX3 := Lib.hid (rd_set HX2.out 3 (.bool true) ⟨y, 3, false, true⟩ rfl)
      go_wp2
      all_goals (go_ret2; refine ⟨?_, grown_trans HG.out (grown_trans (grown_set _ _ _ _) (grown_set _ _ _ _))⟩; first | exact ⟨rfl, HX3.out⟩ | (rw [if_neg Bool.false_ne_true, if_pos rfl]; exact ⟨rfl, HX3.out⟩))
  · rw [hc] at hb
    have HX3 := Lib.hid (rd_set HX2.out 3 (.bool false) ⟨y, 3, false, false⟩ rfl)
    go_wp2
    go_ret2
    exact ⟨by first | exact ⟨rfl, HX3.out⟩ | (rw [if_pos rfl]; exact ⟨rfl, HX3.out⟩), grown_trans HG.out (grown_trans (grown_set _ _ _ _) (grown_set _ _ _ _))⟩
set_option maxRecDepth 100000 in
theorem push3_t (g : Nat) (z b y : Int) (hy : z + b % 128 * 2097152 = y) (w : World) (h : RdAt w g ⟨z, 3, false, false⟩) (z0 : 0 ≤ z) (z1 : z < 268435456) (b0 : 0 ≤ b) (b1 : b < 256) :
    Calls Try.prog 84 #[.pointer (some ⟨g, 0, none⟩), .int .u8 b] w fun e w' =>
      (if decide (128 ≤ b) = true then e = .returned (.tuple #[.bool false, .int .i64 5]) ∧ RdAt w' g ⟨y, 4, false, true⟩
       else if decide (b = 0) = true then e = .returned (.tuple #[.bool false, .int .i64 5]) ∧ RdAt w' g ⟨y, 4, false, true⟩ else e = .returned (.tuple #[.bool true, .int .i64 0]) ∧ RdAt w' g ⟨y, 4, true, false⟩) ∧ w.grownBy w' (some g) := by
  obtain ⟨c0, c1, c2, c3⟩ := rd_cells h
  have f0 := rd_free h 0
  have ha := and127 b0 b1
  have hb := and128 b0 b1
  have m0 : 0 ≤ b % 128 := by omega
  have m1 : b % 128 < 128 := by omega
  have HX := Lib.hid (rd_set h 0 (.int .i64 y) ⟨y, 3, false, false⟩ rfl)
  have HG : Hid (w.grownBy ((w.setCell ⟨g, 0, none⟩ (.int .i64 y)).drew) (some g)) := Lib.hid (grown_trans (grown_set _ _ _ _) (grown_drewN _ _ 1))
  clear h
  go_enter Try.func84, Try.ntmps84
  go_wp2
  go_region
  try rw [hy]
  have HX1 : Hid (RdAt ((w.setCell ⟨g, 0, none⟩ (.int .i64 y)).drew) g ⟨y, 3, false, false⟩) := HX
  clear c0 c1 c2 c3 f0 ha HX
  generalize (w.setCell ⟨g, 0, none⟩ (.int .i64 y)).drew = w1 at *
  obtain ⟨c0, c1, c2, c3⟩ := rd_cells HX1.out
  have f1 := rd_free HX1.out 1
  have f2 := rd_free HX1.out 2
  have f3 := rd_free HX1.out 3
  simp only [] at c1
  have HX2 := Lib.hid (rd_set HX1.out 1 (.int .i64 4) ⟨y, 4, false, false⟩ rfl)
  clear m0 m1 c0
  cases hc : decide (128 ≤ b)
  · rw [hc] at hb
    cases hd : decide (b = 0)
    · have hd' : (b == 0) = false := by simpa using hd
      have HX3 := Lib.hid (rd_set HX2.out 2 (.bool true) ⟨y, 4, true, false⟩ rfl)
      go_wp2
      all_goals (go_ret2; refine ⟨?_, grown_trans HG.out (grown_trans (grown_set _ _ _ _) (grown_set _ _ _ _))⟩; first | exact ⟨rfl, HX3.out⟩ | (rw [if_neg Bool.false_ne_true, if_neg Bool.false_ne_true]; exact ⟨rfl, HX3.out⟩))
    · have hd' : (b == 0) = true := by simpa using hd
      have HX3 := Lib.hid (rd_set HX2.out 3 (.bool true) ⟨y, 4, false, true⟩ rfl)
      go_wp2
      all_goals (go_ret2; refine ⟨?_, grown_trans HG.out (grown_trans (grown_set _ _ _ _) (grown_set _ _ _ _))⟩; first | exact ⟨rfl, HX3.out⟩ | (rw [if_neg Bool.false_ne_true, if_pos rfl]; exact ⟨rfl, HX3.out⟩))
  · rw [hc] at hb
    have HX3 := Lib.hid (rd_set HX2.out 3 (.bool true) ⟨y, 4, false, true⟩ rfl)
    go_wp2
    go_ret2
    exact ⟨by first | exact ⟨rfl, HX3.out⟩ | (rw [if_pos rfl]; exact ⟨rfl, HX3.out⟩), grown_trans HG.out (grown_trans (grown_set _ _ _ _) (grown_set _ _ _ _))⟩
def pushR (k : Nat) (z b : Int) : Bool × Int × Rd :=
  if decide (128 ≤ b) = true then (false, if k == 3 then 5 else 0, ⟨z + b % 128 * 128 ^ k, (k : Int) + 1, false, k == 3⟩)
  else if (decide (b = 0) && decide (1 ≤ k)) = true then (false, 5, ⟨z + b % 128 * 128 ^ k, (k : Int) + 1, false, true⟩)
  else (true, 0, ⟨z + b % 128 * 128 ^ k, (k : Int) + 1, true, false⟩)
theorem push_t (k : Nat) (k4 : k < 4) (g : Nat) (z b : Int) (w : World) (h : RdAt w g ⟨z, (k : Int), false, false⟩) (z0 : 0 ≤ z) (z1 : z < 268435456) (b0 : 0 ≤ b) (b1 : b < 256) :
    Calls Try.prog 84 #[.pointer (some ⟨g, 0, none⟩), .int .u8 b] w fun e w' =>
      e = .returned (.tuple #[.bool (pushR k z b).1, .int .i64 (pushR k z b).2.1]) ∧ RdAt w' g (pushR k z b).2.2 ∧ w.grownBy w' (some g) := by
  rcases (show k = 0 ∨ k = 1 ∨ k = 2 ∨ k = 3 by omega) with rfl | rfl | rfl | rfl
  · refine (push0_t g z b (z + b % 128 * 128 ^ 0) (by omega) w h z0 z1 b0 b1).mono ?_
    rintro e w' ⟨hq, hg⟩
    refine ⟨?_, ?_, hg⟩ <;> (cases hc : decide (128 ≤ b) <;> rw [hc] at hq <;> simp only [pushR, hc, if_true, if_false, Bool.false_eq_true] at hq ⊢ <;> simp at hq ⊢ <;> first | exact hq.1 | exact hq.2)
  · refine (push1_t g z b (z + b % 128 * 128 ^ 1) (by omega) w h z0 z1 b0 b1).mono ?_
    rintro e w' ⟨hq, hg⟩
    refine ⟨?_, ?_, hg⟩ <;> (cases hc : decide (128 ≤ b) <;> cases hd : decide (b = 0) <;> rw [hc] at hq <;> (try rw [hd] at hq) <;> simp only [pushR, hc, hd, if_true, if_false, Bool.false_eq_true] at hq ⊢ <;> simp at hq ⊢ <;> first | exact hq.1 | exact hq.2)
  · refine (push2_t g z b (z + b % 128 * 128 ^ 2) (by omega) w h z0 z1 b0 b1).mono ?_
    rintro e w' ⟨hq, hg⟩
    refine ⟨?_, ?_, hg⟩ <;> (cases hc : decide (128 ≤ b) <;> cases hd : decide (b = 0) <;> rw [hc] at hq <;> (try rw [hd] at hq) <;> simp only [pushR, hc, hd, if_true, if_false, Bool.false_eq_true] at hq ⊢ <;> simp at hq ⊢ <;> first | exact hq.1 | exact hq.2)
  · refine (push3_t g z b (z + b % 128 * 128 ^ 3) (by omega) w h z0 z1 b0 b1).mono ?_
    rintro e w' ⟨hq, hg⟩
    refine ⟨?_, ?_, hg⟩ <;> (cases hc : decide (128 ≤ b) <;> cases hd : decide (b = 0) <;> rw [hc] at hq <;> (try rw [hd] at hq) <;> simp only [pushR, hc, hd, if_true, if_false, Bool.false_eq_true] at hq ⊢ <;> simp at hq ⊢ <;> first | exact hq.1 | exact hq.2)
end Go.Proofs.Ytnbgmpfldoaodab
