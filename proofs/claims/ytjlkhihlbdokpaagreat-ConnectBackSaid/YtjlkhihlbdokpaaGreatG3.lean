/- 'reason.codes': which codes a kind may have, as bits. -/
import Derived.Test.YtjlkhihlbdokpaaGreatG1
import Derived.RegionTactic
import Derived.ChangeAlike
import Derived.OwnWalk
namespace Go.Proofs.YtjlkhihlbdokpaaGreat
open Go.RowKit
set_option maxHeartbeats 40000000
set_option linter.unusedSimpArgs false
set_option linter.unusedVariables false
theorem RI_new (wr : World) (B : Nat) (hB : wr.heap.size = B) (xs : List Int) (n : Nat) (hn : xs.length = n) (hm : n ≤ 9223372036854775807) (C : Array Value) (hC : C = (xs.map (Value.int .i64)).toArray) (T : TypeId) : RI (wr.alloc (.cells C T)) (some ⟨B, 0, none⟩) n xs :=
  ⟨hn, hm, fun _ => ⟨_, _, rfl, by subst hB; simp, fun j hj => by
    subst hB
    rw [cell_of_row _ _ _ _ _ _ (heap_alloc_new wr _), hC]
    have : j < xs.length := by omega
    simp [List.getD_eq_getElem?_getD, List.getElem?_eq_getElem this]⟩⟩
def codesW (kind : Int) : W4 :=
  if kind = 2 then W4.span (W4.span (W4.puts ⟨0, 0, 0, 0⟩ [0, 140, 144, 149, 151, 159]) 128 (138 + 1 - 128 : Int).toNat) 153 (157 + 1 - 153 : Int).toNat
  else if kind = 4 ∨ kind = 5 then W4.puts ⟨0, 0, 0, 0⟩ [0, 16, 128, 131, 135, 144, 145, 151, 153]
  else if kind = 6 ∨ kind = 7 then W4.puts ⟨0, 0, 0, 0⟩ [0, 146]
  else if kind = 9 then W4.puts ⟨0, 0, 0, 0⟩ [0, 1, 2, 128, 131, 135, 143, 145, 151, 158, 161, 162]
  else if kind = 11 then W4.puts ⟨0, 0, 0, 0⟩ [0, 17, 128, 131, 135, 143, 145]
  else if kind = 14 then W4.span (W4.span (W4.puts ⟨0, 0, 0, 0⟩ [0, 4, 135, 137, 139, 141, 142, 143, 144]) 128 (131 + 1 - 128 : Int).toNat) 147 (162 + 1 - 147 : Int).toNat
  else if kind = 15 then W4.puts ⟨0, 0, 0, 0⟩ [0, 24, 25]
  else ⟨0, 0, 0, 0⟩

set_option maxRecDepth 100000 in
theorem codes_2 (w : World) : Calls Tryz.prog 127 #[.int .i64 2] w fun e w' => ∃ s, s = W4.span (W4.span (W4.puts ⟨0, 0, 0, 0⟩ [0, 140, 144, 149, 151, 159]) 128 (138 + 1 - 128 : Int).toNat) 153 (157 + 1 - 153 : Int).toNat ∧ e = .returned (.agg #[.int .u64 (s).a, .int .u64 (s).b, .int .u64 (s).c, .int .u64 (s).d]) ∧ Below w.heap.size w w' := by
  go_enter Tryz.func127, Tryz.ntmps127
  go_wp2_with fail
  refine (with_t ⟨0, 0, 0, 0⟩ _ _ _ [0, 140, 144, 149, 151, 159] _ (RI_new _ _ (by simp) _ _ rfl (by decide) _ rfl _) (by decide)).mono ?_
  rintro e w1 ⟨rfl, hb⟩
  have h0 : w1.heap[w.heap.size]? = some (.cells #[.int .u64 0, .int .u64 0, .int .u64 0, .int .u64 0] 129 (0, 0)) := by
    rw [hb.block _ (by simp; omega), heap_alloc_old _ _ (by simp; omega)]; exact heap_alloc2_old ..
  have h1 : w1.heap[w.heap.size + 1]? = some (.cells #[.int .u64 0, .int .u64 0, .int .u64 0, .int .u64 0] 129 (0, 0)) := by
    rw [hb.block _ (by simp), heap_alloc_old _ _ (by simp)]; exact heap_alloc2_new ..
  have hbl : Below w.heap.size w w1 := below_then ((((Below.refl _ _).alloc (Nat.le_refl _) _).alloc (by simp) _).alloc (by simp; omega) _) (by simp; omega) hb
  have HB := Lib.hid (⟨h0, h1, hbl⟩ : _ ∧ _ ∧ _)
  clear hb h0 h1 hbl
  obtain ⟨s, hs⟩ : ∃ s, s = W4.puts ⟨0, 0, 0, 0⟩ [0, 140, 144, 149, 151, 159] := ⟨_, rfl⟩
  rw [← hs]
  have HS := Lib.hid hs
  clear hs
  go_wp2_with fail
  refine (upto_t s 128 138 _ (by omega) (by omega) (by omega)).mono ?_
  rintro e w2 ⟨rfl, hb⟩
  obtain ⟨h0, h1, hbl⟩ := HB.out
  rw [← hb.block _ (Array.getElem?_eq_some_iff.1 h0).1] at h0
  rw [← hb.block _ (Array.getElem?_eq_some_iff.1 h1).1] at h1
  have hbl2 : Below w.heap.size w w2 := below_then hbl hbl.size hb
  have HB0 := Lib.hid (⟨h0, h1, hbl2⟩ : _ ∧ _ ∧ _)
  clear hb h0 h1 hbl hbl2 HB
  obtain ⟨s0, hs⟩ : ∃ s0, s0 = s.span 128 (138 + 1 - 128 : Int).toNat := ⟨_, rfl⟩
  rw [← hs]
  have HS0 := Lib.hid hs
  clear hs
  go_wp2_with fail
  refine (upto_t s0 153 157 _ (by omega) (by omega) (by omega)).mono ?_
  rintro e w3 ⟨rfl, hb⟩
  obtain ⟨h0, h1, hbl⟩ := HB0.out
  rw [← hb.block _ (Array.getElem?_eq_some_iff.1 h0).1] at h0
  rw [← hb.block _ (Array.getElem?_eq_some_iff.1 h1).1] at h1
  have hbl2 : Below w.heap.size w w3 := below_then hbl hbl.size hb
  have HB1 := Lib.hid (⟨h0, h1, hbl2⟩ : _ ∧ _ ∧ _)
  clear hb h0 h1 hbl hbl2 HB0
  obtain ⟨s1, hs⟩ : ∃ s1, s1 = s0.span 153 (157 + 1 - 153 : Int).toNat := ⟨_, rfl⟩
  rw [← hs]
  have HS1 := Lib.hid hs
  clear hs
  obtain ⟨h0, h1, hbl⟩ := HB1.out
  have hlt : w.heap.size + 1 < w3.heap.size := (Array.getElem?_eq_some_iff.1 h1).1
  have hset := set_four w3 _ ⟨0, 0, 0, 0⟩ s1 _ h1
  obtain ⟨⟨d0, d1, d2, d3⟩, g0, g1, g2, g3⟩ := four_cells (t := ⟨0, 0, 0, 0⟩) h1
  obtain ⟨⟨b0, b1, b2, b3⟩, f0, f1, f2, f3⟩ := four_cells (t := ⟨0, 0, 0, 0⟩) h0
  have HC := Lib.hid hbl
  clear h0 h1 hbl hset HB1
  go_wp2
  refine bodyPost_ret (v := .agg #[.int .u64 (s1).a, .int .u64 (s1).b, .int .u64 (s1).c, .int .u64 (s1).d]) ?_ rfl ⟨s1, ?_, rfl, ?_⟩
  · simp [results, Tryz.results127, go_sem, d0, d1, d2, d3, b0, b1, b2, b3]
  · rw [HS1.out, HS0.out, HS.out]
  · exact set_four_below _ _ _ _ _ _ _ (Nat.le_refl _) (set_four_below _ _ _ _ _ _ _ (by omega) HC.out)
set_option maxRecDepth 100000 in
theorem codes_4 (w : World) : Calls Tryz.prog 127 #[.int .i64 4] w fun e w' => ∃ s, s = W4.puts ⟨0, 0, 0, 0⟩ [0, 16, 128, 131, 135, 144, 145, 151, 153] ∧ e = .returned (.agg #[.int .u64 (s).a, .int .u64 (s).b, .int .u64 (s).c, .int .u64 (s).d]) ∧ Below w.heap.size w w' := by
  go_enter Tryz.func127, Tryz.ntmps127
  go_wp2_with fail
  refine (with_t ⟨0, 0, 0, 0⟩ _ _ _ [0, 16, 128, 131, 135, 144, 145, 151, 153] _ (RI_new _ _ (by simp) _ _ rfl (by decide) _ rfl _) (by decide)).mono ?_
  rintro e w1 ⟨rfl, hb⟩
  have h0 : w1.heap[w.heap.size]? = some (.cells #[.int .u64 0, .int .u64 0, .int .u64 0, .int .u64 0] 129 (0, 0)) := by
    rw [hb.block _ (by simp; omega), heap_alloc_old _ _ (by simp; omega)]; exact heap_alloc2_old ..
  have h1 : w1.heap[w.heap.size + 1]? = some (.cells #[.int .u64 0, .int .u64 0, .int .u64 0, .int .u64 0] 129 (0, 0)) := by
    rw [hb.block _ (by simp), heap_alloc_old _ _ (by simp)]; exact heap_alloc2_new ..
  have hbl : Below w.heap.size w w1 := below_then ((((Below.refl _ _).alloc (Nat.le_refl _) _).alloc (by simp) _).alloc (by simp; omega) _) (by simp; omega) hb
  have HB := Lib.hid (⟨h0, h1, hbl⟩ : _ ∧ _ ∧ _)
  clear hb h0 h1 hbl
  obtain ⟨s, hs⟩ : ∃ s, s = W4.puts ⟨0, 0, 0, 0⟩ [0, 16, 128, 131, 135, 144, 145, 151, 153] := ⟨_, rfl⟩
  rw [← hs]
  have HS := Lib.hid hs
  clear hs
  obtain ⟨h0, h1, hbl⟩ := HB.out
  have hlt : w.heap.size + 1 < w1.heap.size := (Array.getElem?_eq_some_iff.1 h1).1
  have hset := set_four w1 _ ⟨0, 0, 0, 0⟩ s _ h1
  obtain ⟨⟨d0, d1, d2, d3⟩, g0, g1, g2, g3⟩ := four_cells (t := ⟨0, 0, 0, 0⟩) h1
  obtain ⟨⟨b0, b1, b2, b3⟩, f0, f1, f2, f3⟩ := four_cells (t := ⟨0, 0, 0, 0⟩) h0
  have HC := Lib.hid hbl
  clear h0 h1 hbl hset HB
  go_wp2
  refine bodyPost_ret (v := .agg #[.int .u64 (s).a, .int .u64 (s).b, .int .u64 (s).c, .int .u64 (s).d]) ?_ rfl ⟨s, ?_, rfl, ?_⟩
  · simp [results, Tryz.results127, go_sem, d0, d1, d2, d3, b0, b1, b2, b3]
  · rw [HS.out]
  · exact set_four_below _ _ _ _ _ _ _ (Nat.le_refl _) (set_four_below _ _ _ _ _ _ _ (by omega) HC.out)
set_option maxRecDepth 100000 in
theorem codes_5 (w : World) : Calls Tryz.prog 127 #[.int .i64 5] w fun e w' => ∃ s, s = W4.puts ⟨0, 0, 0, 0⟩ [0, 16, 128, 131, 135, 144, 145, 151, 153] ∧ e = .returned (.agg #[.int .u64 (s).a, .int .u64 (s).b, .int .u64 (s).c, .int .u64 (s).d]) ∧ Below w.heap.size w w' := by
  go_enter Tryz.func127, Tryz.ntmps127
  go_wp2_with fail
  refine (with_t ⟨0, 0, 0, 0⟩ _ _ _ [0, 16, 128, 131, 135, 144, 145, 151, 153] _ (RI_new _ _ (by simp) _ _ rfl (by decide) _ rfl _) (by decide)).mono ?_
  rintro e w1 ⟨rfl, hb⟩
  have h0 : w1.heap[w.heap.size]? = some (.cells #[.int .u64 0, .int .u64 0, .int .u64 0, .int .u64 0] 129 (0, 0)) := by
    rw [hb.block _ (by simp; omega), heap_alloc_old _ _ (by simp; omega)]; exact heap_alloc2_old ..
  have h1 : w1.heap[w.heap.size + 1]? = some (.cells #[.int .u64 0, .int .u64 0, .int .u64 0, .int .u64 0] 129 (0, 0)) := by
    rw [hb.block _ (by simp), heap_alloc_old _ _ (by simp)]; exact heap_alloc2_new ..
  have hbl : Below w.heap.size w w1 := below_then ((((Below.refl _ _).alloc (Nat.le_refl _) _).alloc (by simp) _).alloc (by simp; omega) _) (by simp; omega) hb
  have HB := Lib.hid (⟨h0, h1, hbl⟩ : _ ∧ _ ∧ _)
  clear hb h0 h1 hbl
  obtain ⟨s, hs⟩ : ∃ s, s = W4.puts ⟨0, 0, 0, 0⟩ [0, 16, 128, 131, 135, 144, 145, 151, 153] := ⟨_, rfl⟩
  rw [← hs]
  have HS := Lib.hid hs
  clear hs
  obtain ⟨h0, h1, hbl⟩ := HB.out
  have hlt : w.heap.size + 1 < w1.heap.size := (Array.getElem?_eq_some_iff.1 h1).1
  have hset := set_four w1 _ ⟨0, 0, 0, 0⟩ s _ h1
  obtain ⟨⟨d0, d1, d2, d3⟩, g0, g1, g2, g3⟩ := four_cells (t := ⟨0, 0, 0, 0⟩) h1
  obtain ⟨⟨b0, b1, b2, b3⟩, f0, f1, f2, f3⟩ := four_cells (t := ⟨0, 0, 0, 0⟩) h0
  have HC := Lib.hid hbl
  clear h0 h1 hbl hset HB
  go_wp2
  refine bodyPost_ret (v := .agg #[.int .u64 (s).a, .int .u64 (s).b, .int .u64 (s).c, .int .u64 (s).d]) ?_ rfl ⟨s, ?_, rfl, ?_⟩
  · simp [results, Tryz.results127, go_sem, d0, d1, d2, d3, b0, b1, b2, b3]
  · rw [HS.out]
  · exact set_four_below _ _ _ _ _ _ _ (Nat.le_refl _) (set_four_below _ _ _ _ _ _ _ (by omega) HC.out)
set_option maxRecDepth 100000 in
theorem codes_6 (w : World) : Calls Tryz.prog 127 #[.int .i64 6] w fun e w' => ∃ s, s = W4.puts ⟨0, 0, 0, 0⟩ [0, 146] ∧ e = .returned (.agg #[.int .u64 (s).a, .int .u64 (s).b, .int .u64 (s).c, .int .u64 (s).d]) ∧ Below w.heap.size w w' := by
  go_enter Tryz.func127, Tryz.ntmps127
  go_wp2_with fail
  refine (with_t ⟨0, 0, 0, 0⟩ _ _ _ [0, 146] _ (RI_new _ _ (by simp) _ _ rfl (by decide) _ rfl _) (by decide)).mono ?_
  rintro e w1 ⟨rfl, hb⟩
  have h0 : w1.heap[w.heap.size]? = some (.cells #[.int .u64 0, .int .u64 0, .int .u64 0, .int .u64 0] 129 (0, 0)) := by
    rw [hb.block _ (by simp; omega), heap_alloc_old _ _ (by simp; omega)]; exact heap_alloc2_old ..
  have h1 : w1.heap[w.heap.size + 1]? = some (.cells #[.int .u64 0, .int .u64 0, .int .u64 0, .int .u64 0] 129 (0, 0)) := by
    rw [hb.block _ (by simp), heap_alloc_old _ _ (by simp)]; exact heap_alloc2_new ..
  have hbl : Below w.heap.size w w1 := below_then ((((Below.refl _ _).alloc (Nat.le_refl _) _).alloc (by simp) _).alloc (by simp; omega) _) (by simp; omega) hb
  have HB := Lib.hid (⟨h0, h1, hbl⟩ : _ ∧ _ ∧ _)
  clear hb h0 h1 hbl
  obtain ⟨s, hs⟩ : ∃ s, s = W4.puts ⟨0, 0, 0, 0⟩ [0, 146] := ⟨_, rfl⟩
  rw [← hs]
  have HS := Lib.hid hs
  clear hs
  obtain ⟨h0, h1, hbl⟩ := HB.out
  have hlt : w.heap.size + 1 < w1.heap.size := (Array.getElem?_eq_some_iff.1 h1).1
  have hset := set_four w1 _ ⟨0, 0, 0, 0⟩ s _ h1
  obtain ⟨⟨d0, d1, d2, d3⟩, g0, g1, g2, g3⟩ := four_cells (t := ⟨0, 0, 0, 0⟩) h1
  obtain ⟨⟨b0, b1, b2, b3⟩, f0, f1, f2, f3⟩ := four_cells (t := ⟨0, 0, 0, 0⟩) h0
  have HC := Lib.hid hbl
  clear h0 h1 hbl hset HB
  go_wp2
  refine bodyPost_ret (v := .agg #[.int .u64 (s).a, .int .u64 (s).b, .int .u64 (s).c, .int .u64 (s).d]) ?_ rfl ⟨s, ?_, rfl, ?_⟩
  · simp [results, Tryz.results127, go_sem, d0, d1, d2, d3, b0, b1, b2, b3]
  · rw [HS.out]
  · exact set_four_below _ _ _ _ _ _ _ (Nat.le_refl _) (set_four_below _ _ _ _ _ _ _ (by omega) HC.out)
set_option maxRecDepth 100000 in
theorem codes_7 (w : World) : Calls Tryz.prog 127 #[.int .i64 7] w fun e w' => ∃ s, s = W4.puts ⟨0, 0, 0, 0⟩ [0, 146] ∧ e = .returned (.agg #[.int .u64 (s).a, .int .u64 (s).b, .int .u64 (s).c, .int .u64 (s).d]) ∧ Below w.heap.size w w' := by
  go_enter Tryz.func127, Tryz.ntmps127
  go_wp2_with fail
  refine (with_t ⟨0, 0, 0, 0⟩ _ _ _ [0, 146] _ (RI_new _ _ (by simp) _ _ rfl (by decide) _ rfl _) (by decide)).mono ?_
  rintro e w1 ⟨rfl, hb⟩
  have h0 : w1.heap[w.heap.size]? = some (.cells #[.int .u64 0, .int .u64 0, .int .u64 0, .int .u64 0] 129 (0, 0)) := by
    rw [hb.block _ (by simp; omega), heap_alloc_old _ _ (by simp; omega)]; exact heap_alloc2_old ..
  have h1 : w1.heap[w.heap.size + 1]? = some (.cells #[.int .u64 0, .int .u64 0, .int .u64 0, .int .u64 0] 129 (0, 0)) := by
    rw [hb.block _ (by simp), heap_alloc_old _ _ (by simp)]; exact heap_alloc2_new ..
  have hbl : Below w.heap.size w w1 := below_then ((((Below.refl _ _).alloc (Nat.le_refl _) _).alloc (by simp) _).alloc (by simp; omega) _) (by simp; omega) hb
  have HB := Lib.hid (⟨h0, h1, hbl⟩ : _ ∧ _ ∧ _)
  clear hb h0 h1 hbl
  obtain ⟨s, hs⟩ : ∃ s, s = W4.puts ⟨0, 0, 0, 0⟩ [0, 146] := ⟨_, rfl⟩
  rw [← hs]
  have HS := Lib.hid hs
  clear hs
  obtain ⟨h0, h1, hbl⟩ := HB.out
  have hlt : w.heap.size + 1 < w1.heap.size := (Array.getElem?_eq_some_iff.1 h1).1
  have hset := set_four w1 _ ⟨0, 0, 0, 0⟩ s _ h1
  obtain ⟨⟨d0, d1, d2, d3⟩, g0, g1, g2, g3⟩ := four_cells (t := ⟨0, 0, 0, 0⟩) h1
  obtain ⟨⟨b0, b1, b2, b3⟩, f0, f1, f2, f3⟩ := four_cells (t := ⟨0, 0, 0, 0⟩) h0
  have HC := Lib.hid hbl
  clear h0 h1 hbl hset HB
  go_wp2
  refine bodyPost_ret (v := .agg #[.int .u64 (s).a, .int .u64 (s).b, .int .u64 (s).c, .int .u64 (s).d]) ?_ rfl ⟨s, ?_, rfl, ?_⟩
  · simp [results, Tryz.results127, go_sem, d0, d1, d2, d3, b0, b1, b2, b3]
  · rw [HS.out]
  · exact set_four_below _ _ _ _ _ _ _ (Nat.le_refl _) (set_four_below _ _ _ _ _ _ _ (by omega) HC.out)
set_option maxRecDepth 100000 in
theorem codes_9 (w : World) : Calls Tryz.prog 127 #[.int .i64 9] w fun e w' => ∃ s, s = W4.puts ⟨0, 0, 0, 0⟩ [0, 1, 2, 128, 131, 135, 143, 145, 151, 158, 161, 162] ∧ e = .returned (.agg #[.int .u64 (s).a, .int .u64 (s).b, .int .u64 (s).c, .int .u64 (s).d]) ∧ Below w.heap.size w w' := by
  go_enter Tryz.func127, Tryz.ntmps127
  go_wp2_with fail
  refine (with_t ⟨0, 0, 0, 0⟩ _ _ _ [0, 1, 2, 128, 131, 135, 143, 145, 151, 158, 161, 162] _ (RI_new _ _ (by simp) _ _ rfl (by decide) _ rfl _) (by decide)).mono ?_
  rintro e w1 ⟨rfl, hb⟩
  have h0 : w1.heap[w.heap.size]? = some (.cells #[.int .u64 0, .int .u64 0, .int .u64 0, .int .u64 0] 129 (0, 0)) := by
    rw [hb.block _ (by simp; omega), heap_alloc_old _ _ (by simp; omega)]; exact heap_alloc2_old ..
  have h1 : w1.heap[w.heap.size + 1]? = some (.cells #[.int .u64 0, .int .u64 0, .int .u64 0, .int .u64 0] 129 (0, 0)) := by
    rw [hb.block _ (by simp), heap_alloc_old _ _ (by simp)]; exact heap_alloc2_new ..
  have hbl : Below w.heap.size w w1 := below_then ((((Below.refl _ _).alloc (Nat.le_refl _) _).alloc (by simp) _).alloc (by simp; omega) _) (by simp; omega) hb
  have HB := Lib.hid (⟨h0, h1, hbl⟩ : _ ∧ _ ∧ _)
  clear hb h0 h1 hbl
  obtain ⟨s, hs⟩ : ∃ s, s = W4.puts ⟨0, 0, 0, 0⟩ [0, 1, 2, 128, 131, 135, 143, 145, 151, 158, 161, 162] := ⟨_, rfl⟩
  rw [← hs]
  have HS := Lib.hid hs
  clear hs
  obtain ⟨h0, h1, hbl⟩ := HB.out
  have hlt : w.heap.size + 1 < w1.heap.size := (Array.getElem?_eq_some_iff.1 h1).1
  have hset := set_four w1 _ ⟨0, 0, 0, 0⟩ s _ h1
  obtain ⟨⟨d0, d1, d2, d3⟩, g0, g1, g2, g3⟩ := four_cells (t := ⟨0, 0, 0, 0⟩) h1
  obtain ⟨⟨b0, b1, b2, b3⟩, f0, f1, f2, f3⟩ := four_cells (t := ⟨0, 0, 0, 0⟩) h0
  have HC := Lib.hid hbl
  clear h0 h1 hbl hset HB
  go_wp2
  refine bodyPost_ret (v := .agg #[.int .u64 (s).a, .int .u64 (s).b, .int .u64 (s).c, .int .u64 (s).d]) ?_ rfl ⟨s, ?_, rfl, ?_⟩
  · simp [results, Tryz.results127, go_sem, d0, d1, d2, d3, b0, b1, b2, b3]
  · rw [HS.out]
  · exact set_four_below _ _ _ _ _ _ _ (Nat.le_refl _) (set_four_below _ _ _ _ _ _ _ (by omega) HC.out)
set_option maxRecDepth 100000 in
theorem codes_11 (w : World) : Calls Tryz.prog 127 #[.int .i64 11] w fun e w' => ∃ s, s = W4.puts ⟨0, 0, 0, 0⟩ [0, 17, 128, 131, 135, 143, 145] ∧ e = .returned (.agg #[.int .u64 (s).a, .int .u64 (s).b, .int .u64 (s).c, .int .u64 (s).d]) ∧ Below w.heap.size w w' := by
  go_enter Tryz.func127, Tryz.ntmps127
  go_wp2_with fail
  refine (with_t ⟨0, 0, 0, 0⟩ _ _ _ [0, 17, 128, 131, 135, 143, 145] _ (RI_new _ _ (by simp) _ _ rfl (by decide) _ rfl _) (by decide)).mono ?_
  rintro e w1 ⟨rfl, hb⟩
  have h0 : w1.heap[w.heap.size]? = some (.cells #[.int .u64 0, .int .u64 0, .int .u64 0, .int .u64 0] 129 (0, 0)) := by
    rw [hb.block _ (by simp; omega), heap_alloc_old _ _ (by simp; omega)]; exact heap_alloc2_old ..
  have h1 : w1.heap[w.heap.size + 1]? = some (.cells #[.int .u64 0, .int .u64 0, .int .u64 0, .int .u64 0] 129 (0, 0)) := by
    rw [hb.block _ (by simp), heap_alloc_old _ _ (by simp)]; exact heap_alloc2_new ..
  have hbl : Below w.heap.size w w1 := below_then ((((Below.refl _ _).alloc (Nat.le_refl _) _).alloc (by simp) _).alloc (by simp; omega) _) (by simp; omega) hb
  have HB := Lib.hid (⟨h0, h1, hbl⟩ : _ ∧ _ ∧ _)
  clear hb h0 h1 hbl
  obtain ⟨s, hs⟩ : ∃ s, s = W4.puts ⟨0, 0, 0, 0⟩ [0, 17, 128, 131, 135, 143, 145] := ⟨_, rfl⟩
  rw [← hs]
  have HS := Lib.hid hs
  clear hs
  obtain ⟨h0, h1, hbl⟩ := HB.out
  have hlt : w.heap.size + 1 < w1.heap.size := (Array.getElem?_eq_some_iff.1 h1).1
  have hset := set_four w1 _ ⟨0, 0, 0, 0⟩ s _ h1
  obtain ⟨⟨d0, d1, d2, d3⟩, g0, g1, g2, g3⟩ := four_cells (t := ⟨0, 0, 0, 0⟩) h1
  obtain ⟨⟨b0, b1, b2, b3⟩, f0, f1, f2, f3⟩ := four_cells (t := ⟨0, 0, 0, 0⟩) h0
  have HC := Lib.hid hbl
  clear h0 h1 hbl hset HB
  go_wp2
  refine bodyPost_ret (v := .agg #[.int .u64 (s).a, .int .u64 (s).b, .int .u64 (s).c, .int .u64 (s).d]) ?_ rfl ⟨s, ?_, rfl, ?_⟩
  · simp [results, Tryz.results127, go_sem, d0, d1, d2, d3, b0, b1, b2, b3]
  · rw [HS.out]
  · exact set_four_below _ _ _ _ _ _ _ (Nat.le_refl _) (set_four_below _ _ _ _ _ _ _ (by omega) HC.out)
set_option maxRecDepth 100000 in
theorem codes_14 (w : World) : Calls Tryz.prog 127 #[.int .i64 14] w fun e w' => ∃ s, s = W4.span (W4.span (W4.puts ⟨0, 0, 0, 0⟩ [0, 4, 135, 137, 139, 141, 142, 143, 144]) 128 (131 + 1 - 128 : Int).toNat) 147 (162 + 1 - 147 : Int).toNat ∧ e = .returned (.agg #[.int .u64 (s).a, .int .u64 (s).b, .int .u64 (s).c, .int .u64 (s).d]) ∧ Below w.heap.size w w' := by
  go_enter Tryz.func127, Tryz.ntmps127
  go_wp2_with fail
  refine (with_t ⟨0, 0, 0, 0⟩ _ _ _ [0, 4, 135, 137, 139, 141, 142, 143, 144] _ (RI_new _ _ (by simp) _ _ rfl (by decide) _ rfl _) (by decide)).mono ?_
  rintro e w1 ⟨rfl, hb⟩
  have h0 : w1.heap[w.heap.size]? = some (.cells #[.int .u64 0, .int .u64 0, .int .u64 0, .int .u64 0] 129 (0, 0)) := by
    rw [hb.block _ (by simp; omega), heap_alloc_old _ _ (by simp; omega)]; exact heap_alloc2_old ..
  have h1 : w1.heap[w.heap.size + 1]? = some (.cells #[.int .u64 0, .int .u64 0, .int .u64 0, .int .u64 0] 129 (0, 0)) := by
    rw [hb.block _ (by simp), heap_alloc_old _ _ (by simp)]; exact heap_alloc2_new ..
  have hbl : Below w.heap.size w w1 := below_then ((((Below.refl _ _).alloc (Nat.le_refl _) _).alloc (by simp) _).alloc (by simp; omega) _) (by simp; omega) hb
  have HB := Lib.hid (⟨h0, h1, hbl⟩ : _ ∧ _ ∧ _)
  clear hb h0 h1 hbl
  obtain ⟨s, hs⟩ : ∃ s, s = W4.puts ⟨0, 0, 0, 0⟩ [0, 4, 135, 137, 139, 141, 142, 143, 144] := ⟨_, rfl⟩
  rw [← hs]
  have HS := Lib.hid hs
  clear hs
  go_wp2_with fail
  refine (upto_t s 128 131 _ (by omega) (by omega) (by omega)).mono ?_
  rintro e w2 ⟨rfl, hb⟩
  obtain ⟨h0, h1, hbl⟩ := HB.out
  rw [← hb.block _ (Array.getElem?_eq_some_iff.1 h0).1] at h0
  rw [← hb.block _ (Array.getElem?_eq_some_iff.1 h1).1] at h1
  have hbl2 : Below w.heap.size w w2 := below_then hbl hbl.size hb
  have HB0 := Lib.hid (⟨h0, h1, hbl2⟩ : _ ∧ _ ∧ _)
  clear hb h0 h1 hbl hbl2 HB
  obtain ⟨s0, hs⟩ : ∃ s0, s0 = s.span 128 (131 + 1 - 128 : Int).toNat := ⟨_, rfl⟩
  rw [← hs]
  have HS0 := Lib.hid hs
  clear hs
  go_wp2_with fail
  refine (upto_t s0 147 162 _ (by omega) (by omega) (by omega)).mono ?_
  rintro e w3 ⟨rfl, hb⟩
  obtain ⟨h0, h1, hbl⟩ := HB0.out
  rw [← hb.block _ (Array.getElem?_eq_some_iff.1 h0).1] at h0
  rw [← hb.block _ (Array.getElem?_eq_some_iff.1 h1).1] at h1
  have hbl2 : Below w.heap.size w w3 := below_then hbl hbl.size hb
  have HB1 := Lib.hid (⟨h0, h1, hbl2⟩ : _ ∧ _ ∧ _)
  clear hb h0 h1 hbl hbl2 HB0
  obtain ⟨s1, hs⟩ : ∃ s1, s1 = s0.span 147 (162 + 1 - 147 : Int).toNat := ⟨_, rfl⟩
  rw [← hs]
  have HS1 := Lib.hid hs
  clear hs
  obtain ⟨h0, h1, hbl⟩ := HB1.out
  have hlt : w.heap.size + 1 < w3.heap.size := (Array.getElem?_eq_some_iff.1 h1).1
  have hset := set_four w3 _ ⟨0, 0, 0, 0⟩ s1 _ h1
  obtain ⟨⟨d0, d1, d2, d3⟩, g0, g1, g2, g3⟩ := four_cells (t := ⟨0, 0, 0, 0⟩) h1
  obtain ⟨⟨b0, b1, b2, b3⟩, f0, f1, f2, f3⟩ := four_cells (t := ⟨0, 0, 0, 0⟩) h0
  have HC := Lib.hid hbl
  clear h0 h1 hbl hset HB1
  go_wp2
  refine bodyPost_ret (v := .agg #[.int .u64 (s1).a, .int .u64 (s1).b, .int .u64 (s1).c, .int .u64 (s1).d]) ?_ rfl ⟨s1, ?_, rfl, ?_⟩
  · simp [results, Tryz.results127, go_sem, d0, d1, d2, d3, b0, b1, b2, b3]
  · rw [HS1.out, HS0.out, HS.out]
  · exact set_four_below _ _ _ _ _ _ _ (Nat.le_refl _) (set_four_below _ _ _ _ _ _ _ (by omega) HC.out)
set_option maxRecDepth 100000 in
theorem codes_15 (w : World) : Calls Tryz.prog 127 #[.int .i64 15] w fun e w' => ∃ s, s = W4.puts ⟨0, 0, 0, 0⟩ [0, 24, 25] ∧ e = .returned (.agg #[.int .u64 (s).a, .int .u64 (s).b, .int .u64 (s).c, .int .u64 (s).d]) ∧ Below w.heap.size w w' := by
  go_enter Tryz.func127, Tryz.ntmps127
  go_wp2_with fail
  refine (with_t ⟨0, 0, 0, 0⟩ _ _ _ [0, 24, 25] _ (RI_new _ _ (by simp) _ _ rfl (by decide) _ rfl _) (by decide)).mono ?_
  rintro e w1 ⟨rfl, hb⟩
  have h0 : w1.heap[w.heap.size]? = some (.cells #[.int .u64 0, .int .u64 0, .int .u64 0, .int .u64 0] 129 (0, 0)) := by
    rw [hb.block _ (by simp; omega), heap_alloc_old _ _ (by simp; omega)]; exact heap_alloc2_old ..
  have h1 : w1.heap[w.heap.size + 1]? = some (.cells #[.int .u64 0, .int .u64 0, .int .u64 0, .int .u64 0] 129 (0, 0)) := by
    rw [hb.block _ (by simp), heap_alloc_old _ _ (by simp)]; exact heap_alloc2_new ..
  have hbl : Below w.heap.size w w1 := below_then ((((Below.refl _ _).alloc (Nat.le_refl _) _).alloc (by simp) _).alloc (by simp; omega) _) (by simp; omega) hb
  have HB := Lib.hid (⟨h0, h1, hbl⟩ : _ ∧ _ ∧ _)
  clear hb h0 h1 hbl
  obtain ⟨s, hs⟩ : ∃ s, s = W4.puts ⟨0, 0, 0, 0⟩ [0, 24, 25] := ⟨_, rfl⟩
  rw [← hs]
  have HS := Lib.hid hs
  clear hs
  obtain ⟨h0, h1, hbl⟩ := HB.out
  have hlt : w.heap.size + 1 < w1.heap.size := (Array.getElem?_eq_some_iff.1 h1).1
  have hset := set_four w1 _ ⟨0, 0, 0, 0⟩ s _ h1
  obtain ⟨⟨d0, d1, d2, d3⟩, g0, g1, g2, g3⟩ := four_cells (t := ⟨0, 0, 0, 0⟩) h1
  obtain ⟨⟨b0, b1, b2, b3⟩, f0, f1, f2, f3⟩ := four_cells (t := ⟨0, 0, 0, 0⟩) h0
  have HC := Lib.hid hbl
  clear h0 h1 hbl hset HB
  go_wp2
  refine bodyPost_ret (v := .agg #[.int .u64 (s).a, .int .u64 (s).b, .int .u64 (s).c, .int .u64 (s).d]) ?_ rfl ⟨s, ?_, rfl, ?_⟩
  · simp [results, Tryz.results127, go_sem, d0, d1, d2, d3, b0, b1, b2, b3]
  · rw [HS.out]
  · exact set_four_below _ _ _ _ _ _ _ (Nat.le_refl _) (set_four_below _ _ _ _ _ _ _ (by omega) HC.out)
set_option maxRecDepth 100000 in
theorem codes_none (kind : Int) (w : World) (h : (kind == 2) = false ∧ (kind == 4) = false ∧ (kind == 5) = false ∧ (kind == 6) = false ∧ (kind == 7) = false ∧ (kind == 9) = false ∧ (kind == 11) = false ∧ (kind == 14) = false ∧ (kind == 15) = false) : Calls Tryz.prog 127 #[.int .i64 kind] w fun e w' => e = .returned (.agg #[.int .u64 0, .int .u64 0, .int .u64 0, .int .u64 0]) ∧ Below w.heap.size w w' := by
  obtain ⟨z0, z1, z2, z3, z4, z5, z6, z7, z8⟩ := h
  go_enter Tryz.func127, Tryz.ntmps127
  go_wp2
  refine bodyPost_ret (v := .agg #[.int .u64 0, .int .u64 0, .int .u64 0, .int .u64 0]) ?_ rfl ⟨rfl, ?_⟩
  · simp [results, Tryz.results127, go_sem]
  · repeat (first | exact Below.refl _ _ | (refine Below.alloc ?_ (by simp) _) | (refine Below.setCell ?_ (by simp) _))
theorem codes_t (kind : Int) (w : World) : Calls Tryz.prog 127 #[.int .i64 kind] w fun e w' => e = .returned (.agg #[.int .u64 (codesW kind).a, .int .u64 (codesW kind).b, .int .u64 (codesW kind).c, .int .u64 (codesW kind).d]) ∧ Below w.heap.size w w' := by

  by_cases h2 : kind = 2
  · subst h2
    exact (codes_2 w).mono fun e w' ⟨s, hs, he, hb⟩ => ⟨by rw [he, hs]; rfl, hb⟩
  by_cases h4 : kind = 4
  · subst h4
    exact (codes_4 w).mono fun e w' ⟨s, hs, he, hb⟩ => ⟨by rw [he, hs]; rfl, hb⟩
  by_cases h5 : kind = 5
  · subst h5
    exact (codes_5 w).mono fun e w' ⟨s, hs, he, hb⟩ => ⟨by rw [he, hs]; rfl, hb⟩
  by_cases h6 : kind = 6
  · subst h6
    exact (codes_6 w).mono fun e w' ⟨s, hs, he, hb⟩ => ⟨by rw [he, hs]; rfl, hb⟩
  by_cases h7 : kind = 7
  · subst h7
    exact (codes_7 w).mono fun e w' ⟨s, hs, he, hb⟩ => ⟨by rw [he, hs]; rfl, hb⟩
  by_cases h9 : kind = 9
  · subst h9
    exact (codes_9 w).mono fun e w' ⟨s, hs, he, hb⟩ => ⟨by rw [he, hs]; rfl, hb⟩
  by_cases h11 : kind = 11
  · subst h11
    exact (codes_11 w).mono fun e w' ⟨s, hs, he, hb⟩ => ⟨by rw [he, hs]; rfl, hb⟩
  by_cases h14 : kind = 14
  · subst h14
    exact (codes_14 w).mono fun e w' ⟨s, hs, he, hb⟩ => ⟨by rw [he, hs]; rfl, hb⟩
  by_cases h15 : kind = 15
  · subst h15
    exact (codes_15 w).mono fun e w' ⟨s, hs, he, hb⟩ => ⟨by rw [he, hs]; rfl, hb⟩
  have e : codesW kind = ⟨0, 0, 0, 0⟩ := by simp [codesW, h2, h4, h5, h6, h7, h9, h11, h14, h15]
  rw [e]
  exact codes_none kind w (by simp [h2, h4, h5, h6, h7, h9, h11, h14, h15])
end Go.Proofs.YtjlkhihlbdokpaaGreat
/- 'has' and 'May': whether a code is one of the words', and of a kind's; the words are the document's lists. -/
namespace Go.Proofs.YtjlkhihlbdokpaaGreat
open Go.RowKit
set_option maxHeartbeats 400000
def W4.word (t : W4) (x : Int) : Int := if x / 64 = 0 then t.a else if x / 64 = 1 then t.b else if x / 64 = 2 then t.c else t.d
def W4.has (t : W4) (x : Int) : Bool := if x < 0 then false else if 256 ≤ x then false else bits .and .u64 (t.word x / 2 ^ (x % 64).toNat) 1 == 1
set_option maxRecDepth 100000 in
theorem has_t (t : W4) (x : Int) (w : World) :
    Calls Tryz.prog 128 #[.agg #[.int .u64 t.a, .int .u64 t.b, .int .u64 t.c, .int .u64 t.d], .int .i64 x] w fun e w' => e = .returned (.bool (t.has x)) ∧ Below w.heap.size w w' := by
  by_cases h0 : x < 0
  · have HE : Hid (t.has x = false) := Lib.hid (by simp [W4.has, h0])
    have hh : decide (0 ≤ x) = false := by simp; omega
    go_enter Tryz.func128, Tryz.ntmps128
    go_wp2
    go_ret
    exact ⟨by rw [HE.out]; rfl, (Below.refl _ _).alloc (Nat.le_refl _) _⟩
  by_cases h1 : 256 ≤ x
  · have HE : Hid (t.has x = false) := Lib.hid (by simp [W4.has, h0, h1])
    have hh : decide (x < 256) = false := by simp; omega
    go_enter Tryz.func128, Tryz.ntmps128
    go_wp2
    go_ret
    exact ⟨by rw [HE.out]; rfl, (Below.refl _ _).alloc (Nat.le_refl _) _⟩
  have g0 : 0 ≤ x := by omega
  have g1 : x < 256 := by omega
  have hq : x / 64 = 0 ∨ x / 64 = 1 ∨ x / 64 = 2 ∨ x / 64 = 3 := by omega
  rcases hq with hq | hq | hq | hq
  · have HE : Hid (t.has x = (bits .and .u64 (t.a / 2 ^ (x % 64).toNat) 1 == 1)) := Lib.hid (by simp [W4.has, W4.word, h0, h1, hq])
    clear h0 h1
    go_enter Tryz.func128, Tryz.ntmps128
    go_wp2
    go_ret
    exact ⟨by rw [HE.out]; rfl, (Below.refl _ _).alloc (Nat.le_refl _) _⟩
  · have HE : Hid (t.has x = (bits .and .u64 (t.b / 2 ^ (x % 64).toNat) 1 == 1)) := Lib.hid (by simp [W4.has, W4.word, h0, h1, hq])
    clear h0 h1
    go_enter Tryz.func128, Tryz.ntmps128
    go_wp2
    go_ret
    exact ⟨by rw [HE.out]; rfl, (Below.refl _ _).alloc (Nat.le_refl _) _⟩
  · have HE : Hid (t.has x = (bits .and .u64 (t.c / 2 ^ (x % 64).toNat) 1 == 1)) := Lib.hid (by simp [W4.has, W4.word, h0, h1, hq])
    clear h0 h1
    go_enter Tryz.func128, Tryz.ntmps128
    go_wp2
    go_ret
    exact ⟨by rw [HE.out]; rfl, (Below.refl _ _).alloc (Nat.le_refl _) _⟩
  · have HE : Hid (t.has x = (bits .and .u64 (t.d / 2 ^ (x % 64).toNat) 1 == 1)) := Lib.hid (by simp [W4.has, W4.word, h0, h1, hq])
    clear h0 h1
    go_enter Tryz.func128, Tryz.ntmps128
    go_wp2
    go_ret
    exact ⟨by rw [HE.out]; rfl, (Below.refl _ _).alloc (Nat.le_refl _) _⟩
/-- The document's lists. -/
def codesL (kind : Int) : List Int :=
  if kind = 2 then [0, 128, 129, 130, 131, 132, 133, 134, 135, 136, 137, 138, 140, 144, 149, 151, 153, 154, 155, 156, 157, 159]
  else if kind = 4 ∨ kind = 5 then [0, 16, 128, 131, 135, 144, 145, 151, 153]
  else if kind = 6 ∨ kind = 7 then [0, 146]
  else if kind = 9 then [0, 1, 2, 128, 131, 135, 143, 145, 151, 158, 161, 162]
  else if kind = 11 then [0, 17, 128, 131, 135, 143, 145]
  else if kind = 14 then [0, 4, 128, 129, 130, 131, 135, 137, 139, 141, 142, 143, 144, 147, 148, 149, 150, 151, 152, 153, 154, 155, 156, 157, 158, 159, 160, 161, 162]
  else if kind = 15 then [0, 24, 25]
  else []
def mayB (kind code : Int) : Bool := (codesL kind).contains code
theorem codesL_range (kind : Int) : ∀ c ∈ codesL kind, 0 ≤ c ∧ c < 256 := by
  unfold codesL
  repeat (first | split | decide)
theorem has_all (t : W4) (l : List Int) (hl : ∀ c ∈ l, 0 ≤ c ∧ c < 256) (h : ∀ n : Nat, n < 256 → t.has n = l.contains (n : Int)) (x : Int) : t.has x = l.contains x := by
  by_cases h0 : x < 0
  · have : l.contains x = false := by
      cases e : l.contains x with
      | false => rfl
      | true => have := hl x (by simpa using e); omega
    rw [this]; simp [W4.has, h0]
  by_cases h1 : 256 ≤ x
  · have : l.contains x = false := by
      cases e : l.contains x with
      | false => rfl
      | true => have := hl x (by simpa using e); omega
    rw [this]; simp [W4.has, h0, h1]
  obtain ⟨n, rfl⟩ := Int.eq_ofNat_of_zero_le (show 0 ≤ x by omega)
  exact h n (by omega)
theorem codes_has (kind x : Int) : (codesW kind).has x = mayB kind x := by
  unfold mayB
  have hl := codesL_range kind
  by_cases h2 : kind = 2
  · subst h2; exact has_all _ _ hl (by decide +kernel) x
  by_cases h4 : kind = 4
  · subst h4; exact has_all _ _ hl (by decide +kernel) x
  by_cases h5 : kind = 5
  · subst h5; exact has_all _ _ hl (by decide +kernel) x
  by_cases h6 : kind = 6
  · subst h6; exact has_all _ _ hl (by decide +kernel) x
  by_cases h7 : kind = 7
  · subst h7; exact has_all _ _ hl (by decide +kernel) x
  by_cases h9 : kind = 9
  · subst h9; exact has_all _ _ hl (by decide +kernel) x
  by_cases h11 : kind = 11
  · subst h11; exact has_all _ _ hl (by decide +kernel) x
  by_cases h14 : kind = 14
  · subst h14; exact has_all _ _ hl (by decide +kernel) x
  by_cases h15 : kind = 15
  · subst h15; exact has_all _ _ hl (by decide +kernel) x
  have e1 : codesW kind = ⟨0, 0, 0, 0⟩ := by simp [codesW, h2, h4, h5, h6, h7, h9, h11, h14, h15]
  have e2 : codesL kind = [] := by simp [codesL, h2, h4, h5, h6, h7, h9, h11, h14, h15]
  rw [e1, e2]
  exact has_all _ _ (by simp) (by decide +kernel) x
theorem may_t (kind code : Int) (w : World) :
    Calls Tryz.prog 81 #[.int .i64 kind, .int .i64 code] w fun e w' => e = .returned (.bool (mayB kind code)) ∧ Below w.heap.size w w' := by
  have HE := Lib.hid (codes_has kind code)
  go_enter Tryz.func81, Tryz.ntmps81
  go_wp2_with fail
  refine (codes_t kind _).mono ?_
  rintro e w1 ⟨rfl, hb1⟩
  go_wp2_with fail
  refine (has_t (codesW kind) code _).mono ?_
  rintro e w2 ⟨rfl, hb2⟩
  rw [HE.out]
  go_wp2
  go_ret
  exact ⟨rfl, below_then hb1 hb1.size hb2⟩
end Go.Proofs.YtjlkhihlbdokpaaGreat
/- reason.Return, reason.Bad: what each answers. -/
namespace Go.Proofs.YtjlkhihlbdokpaaGreat
open Go.RowKit
set_option maxHeartbeats 400000
set_option linter.unusedVariables false
def returnB (c : Int) : Bool := decide (0 ≤ c) && decide (c ≤ 5)
theorem return_t (c : Int) (w : World) : Calls Tryz.prog 104 #[.int .i64 c] w fun e w' => e = .returned (.bool (returnB c)) ∧ Below w.heap.size w w' := by
  by_cases h0 : 0 ≤ c
  · have HE : Hid (returnB c = decide (c ≤ 5)) := Lib.hid (by simp [returnB, h0])
    go_enter Tryz.func104, Tryz.ntmps104
    go_wp2
    go_ret
    exact ⟨by rw [HE.out]; rfl, Below.refl _ _⟩
  · have HE : Hid (returnB c = false) := Lib.hid (by simp [returnB, h0])
    have g0 : decide (0 ≤ c) = false := by simp [h0]
    go_enter Tryz.func104, Tryz.ntmps104
    go_wp2
    go_ret
    exact ⟨by rw [HE.out]; rfl, Below.refl _ _⟩
def badB (c : Int) : Bool := decide (128 ≤ c) && decide (c ≤ 255)
theorem bad_t (c : Int) (w : World) : Calls Tryz.prog 80 #[.int .i64 c] w fun e w' => e = .returned (.bool (badB c)) ∧ Below w.heap.size w w' := by
  by_cases h0 : 128 ≤ c
  · have HE : Hid (badB c = decide (c ≤ 255)) := Lib.hid (by simp [badB, h0])
    go_enter Tryz.func80, Tryz.ntmps80
    go_wp2
    go_ret
    exact ⟨by rw [HE.out]; rfl, Below.refl _ _⟩
  · have HE : Hid (badB c = false) := Lib.hid (by simp [badB, h0])
    have g0 : decide (128 ≤ c) = false := by simp [h0]
    go_enter Tryz.func80, Tryz.ntmps80
    go_wp2
    go_ret
    exact ⟨by rw [HE.out]; rfl, Below.refl _ _⟩
end Go.Proofs.YtjlkhihlbdokpaaGreat
