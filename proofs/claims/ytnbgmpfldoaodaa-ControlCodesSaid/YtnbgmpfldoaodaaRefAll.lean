/- The reference's lists of codes. -/
import Derived.Test.YtnbgmpfldoaodaaRef06
namespace Go.Proofs.Ytnbgmpfldoaodaa
open Go.RowKit
set_option maxHeartbeats 1000000
set_option linter.unusedVariables false
set_option linter.unusedSimpArgs false
set_option maxRecDepth 100000 in
theorem rall_4 (w : World) : Calls Try.prog 26 #[.int .i64 4] w fun e w' => ∃ v, e = .returned v ∧ OwnI w' w.heap.size v (codesL 4) ∧ Below w.heap.size w w' := by
  have HO := Lib.hid (own_made w w.heap.size (Nat.le_refl _) [0, 16, 128, 131, 135, 144, 145, 151, 153] 9 rfl (by decide) _ rfl _ rfl)
  have HB := Lib.hid ((Below.refl w.heap.size w).alloc (Nat.le_refl _) (.cells (([0, 16, 128, 131, 135, 144, 145, 151, 153] : List Int).map (Value.int .i64)).toArray 3))
  go_enter Try.func26, Try.ntmps26
  go_wp2
  go_ret
  exact ⟨_, rfl, HO.out, HB.out⟩
set_option maxRecDepth 100000 in
theorem rall_5 (w : World) : Calls Try.prog 26 #[.int .i64 5] w fun e w' => ∃ v, e = .returned v ∧ OwnI w' w.heap.size v (codesL 5) ∧ Below w.heap.size w w' := by
  have HO := Lib.hid (own_made w w.heap.size (Nat.le_refl _) [0, 16, 128, 131, 135, 144, 145, 151, 153] 9 rfl (by decide) _ rfl _ rfl)
  have HB := Lib.hid ((Below.refl w.heap.size w).alloc (Nat.le_refl _) (.cells (([0, 16, 128, 131, 135, 144, 145, 151, 153] : List Int).map (Value.int .i64)).toArray 3))
  go_enter Try.func26, Try.ntmps26
  go_wp2
  go_ret
  exact ⟨_, rfl, HO.out, HB.out⟩
set_option maxRecDepth 100000 in
theorem rall_6 (w : World) : Calls Try.prog 26 #[.int .i64 6] w fun e w' => ∃ v, e = .returned v ∧ OwnI w' w.heap.size v (codesL 6) ∧ Below w.heap.size w w' := by
  have HO := Lib.hid (own_made w w.heap.size (Nat.le_refl _) [0, 146] 2 rfl (by decide) _ rfl _ rfl)
  have HB := Lib.hid ((Below.refl w.heap.size w).alloc (Nat.le_refl _) (.cells (([0, 146] : List Int).map (Value.int .i64)).toArray 3))
  go_enter Try.func26, Try.ntmps26
  go_wp2
  go_ret
  exact ⟨_, rfl, HO.out, HB.out⟩
set_option maxRecDepth 100000 in
theorem rall_7 (w : World) : Calls Try.prog 26 #[.int .i64 7] w fun e w' => ∃ v, e = .returned v ∧ OwnI w' w.heap.size v (codesL 7) ∧ Below w.heap.size w w' := by
  have HO := Lib.hid (own_made w w.heap.size (Nat.le_refl _) [0, 146] 2 rfl (by decide) _ rfl _ rfl)
  have HB := Lib.hid ((Below.refl w.heap.size w).alloc (Nat.le_refl _) (.cells (([0, 146] : List Int).map (Value.int .i64)).toArray 3))
  go_enter Try.func26, Try.ntmps26
  go_wp2
  go_ret
  exact ⟨_, rfl, HO.out, HB.out⟩
set_option maxRecDepth 100000 in
theorem rall_9 (w : World) : Calls Try.prog 26 #[.int .i64 9] w fun e w' => ∃ v, e = .returned v ∧ OwnI w' w.heap.size v (codesL 9) ∧ Below w.heap.size w w' := by
  have HO := Lib.hid (own_made w w.heap.size (Nat.le_refl _) [0, 1, 2, 128, 131, 135, 143, 145, 151, 158, 161, 162] 12 rfl (by decide) _ rfl _ rfl)
  have HB := Lib.hid ((Below.refl w.heap.size w).alloc (Nat.le_refl _) (.cells (([0, 1, 2, 128, 131, 135, 143, 145, 151, 158, 161, 162] : List Int).map (Value.int .i64)).toArray 3))
  go_enter Try.func26, Try.ntmps26
  go_wp2
  go_ret
  exact ⟨_, rfl, HO.out, HB.out⟩
set_option maxRecDepth 100000 in
theorem rall_11 (w : World) : Calls Try.prog 26 #[.int .i64 11] w fun e w' => ∃ v, e = .returned v ∧ OwnI w' w.heap.size v (codesL 11) ∧ Below w.heap.size w w' := by
  have HO := Lib.hid (own_made w w.heap.size (Nat.le_refl _) [0, 17, 128, 131, 135, 143, 145] 7 rfl (by decide) _ rfl _ rfl)
  have HB := Lib.hid ((Below.refl w.heap.size w).alloc (Nat.le_refl _) (.cells (([0, 17, 128, 131, 135, 143, 145] : List Int).map (Value.int .i64)).toArray 3))
  go_enter Try.func26, Try.ntmps26
  go_wp2
  go_ret
  exact ⟨_, rfl, HO.out, HB.out⟩
set_option maxRecDepth 100000 in
theorem rall_15 (w : World) : Calls Try.prog 26 #[.int .i64 15] w fun e w' => ∃ v, e = .returned v ∧ OwnI w' w.heap.size v (codesL 15) ∧ Below w.heap.size w w' := by
  have HO := Lib.hid (own_made w w.heap.size (Nat.le_refl _) [0, 24, 25] 3 rfl (by decide) _ rfl _ rfl)
  have HB := Lib.hid ((Below.refl w.heap.size w).alloc (Nat.le_refl _) (.cells (([0, 24, 25] : List Int).map (Value.int .i64)).toArray 3))
  go_enter Try.func26, Try.ntmps26
  go_wp2
  go_ret
  exact ⟨_, rfl, HO.out, HB.out⟩
theorem new_many (w : World) (l : List Int) (C : Array Value) (T : TypeId) (hC : C = (l.map (Value.int .i64)).toArray) : ∀ (j : Nat) (u : Value), (l.map (Value.int .i64))[j]? = some u → (w.alloc (.cells C T)).cell? ((⟨w.heap.size, 0, none⟩ : Addr).add j) = some u := by
  intro j u h
  rw [show (⟨w.heap.size, 0, none⟩ : Addr).add j = ⟨w.heap.size, j, none⟩ from by unfold Addr.add; split <;> simp_all, cell_of_row _ _ _ _ _ _ (heap_alloc_new w _), hC]
  simpa using h
theorem own_join {w : World} {b : Nat} {v : Value} {xs ys : List Int} {n : Nat} (h : w.ownsRow b 3 1 v (xs.length + n) (xs.map (Value.int .i64) ++ ys.map (Value.int .i64))) (hn : ys.length = n) : OwnI w b v (xs ++ ys) := by
  subst hn
  unfold OwnI
  rw [List.length_append, List.map_append]
  exact h
set_option maxRecDepth 100000 in
theorem rall_2 (w : World) : Calls Try.prog 26 #[.int .i64 2] w fun e w' => ∃ v, e = .returned v ∧ OwnI w' w.heap.size v (codesL 2) ∧ Below w.heap.size w w' := by
  obtain ⟨i0, hif, hz0, hz1, hz2⟩ := info_parts info_int
  go_enter Try.func26, Try.ntmps26
  go_wp2_with fail
  refine (from_t w.heap.size _ ([0]) 128 138 _ (by decide) (by omega) (by omega) (by omega) (own_made w w.heap.size (Nat.le_refl _) [0] 1 rfl (by decide) _ rfl _ rfl) (by simp)).mono ?_
  rintro e w1 ⟨v1, rfl, hown, hb⟩
  have HD1 := Lib.hid (⟨hown, ((Below.refl w.heap.size w).alloc (Nat.le_refl _) _).trans hb⟩ : OwnI w1 w.heap.size v1 ([0] ++ runFrom 128 (138 + 1 - 128 : Int).toNat) ∧ Below w.heap.size w w1)
  clear hown hb
  obtain ⟨A1, c1, rfl, -⟩ := own_RI HD1.out.1
  go_wp2_with (at_builtin; refine wpList_append_own _ rfl _ _ 27 rfl w.heap.size 3 i0 (.int .i64 0) 1 8 Try.underlying27 hif hz0 hz1 hz2 rfl (by decide) _ ([0] ++ runFrom 128 (138 + 1 - 128 : Int).toNat).length (([0] ++ runFrom 128 (138 + 1 - 128 : Int).toNat).map (Value.int .i64)) rfl (HD1.out.1.alloc _) ⟨w1.heap.size, 0, none⟩ 4 4 (([140, 144, 149, 151] : List Int).map (Value.int .i64)) rfl rfl ?c2a ?c2b ?c2c ?c2d ?c2e ?_)
  case c2a => exact new_many _ _ _ _ rfl
  case c2b => exact ones_i64 _
  case c2c => decide
  case c2d => decide
  case c2e => have := HD1.out.2.size; simp; omega
  intro v2 w2 hown hg _
  have HD2 := Lib.hid (⟨own_join hown rfl, (HD1.out.2.alloc HD1.out.2.size _).grown hg (by have := HD1.out.2.size; simp; omega) (fun k h => own_block_ge HD1.out.1 _ h)⟩ : OwnI w2 w.heap.size v2 ([0] ++ runFrom 128 (138 + 1 - 128 : Int).toNat ++ [140, 144, 149, 151]) ∧ Below w.heap.size w w2)
  clear hown hg HD1
  obtain ⟨A2, c2, rfl, -⟩ := own_RI HD2.out.1
  go_wp2_with fail
  refine (from_t w.heap.size _ ([0] ++ runFrom 128 (138 + 1 - 128 : Int).toNat ++ [140, 144, 149, 151]) 153 157 _ (by decide) (by omega) (by omega) (by omega) HD2.out.1 HD2.out.2.size).mono ?_
  rintro e w3 ⟨v3, rfl, hown, hb⟩
  have HD3 := Lib.hid (⟨hown, HD2.out.2.trans hb⟩ : OwnI w3 w.heap.size v3 ([0] ++ runFrom 128 (138 + 1 - 128 : Int).toNat ++ [140, 144, 149, 151] ++ runFrom 153 (157 + 1 - 153 : Int).toNat) ∧ Below w.heap.size w w3)
  clear hown hb HD2
  obtain ⟨A3, c3, rfl, -⟩ := own_RI HD3.out.1
  go_wp2_with (at_builtin; refine wpList_append_own _ rfl _ _ 27 rfl w.heap.size 3 i0 (.int .i64 0) 1 8 Try.underlying27 hif hz0 hz1 hz2 rfl (by decide) _ ([0] ++ runFrom 128 (138 + 1 - 128 : Int).toNat ++ [140, 144, 149, 151] ++ runFrom 153 (157 + 1 - 153 : Int).toNat).length (([0] ++ runFrom 128 (138 + 1 - 128 : Int).toNat ++ [140, 144, 149, 151] ++ runFrom 153 (157 + 1 - 153 : Int).toNat).map (Value.int .i64)) rfl (HD3.out.1.alloc _) ⟨w3.heap.size, 0, none⟩ 1 1 (([159] : List Int).map (Value.int .i64)) rfl rfl ?c4a ?c4b ?c4c ?c4d ?c4e ?_)
  case c4a => exact new_many _ _ _ _ rfl
  case c4b => exact ones_i64 _
  case c4c => decide
  case c4d => decide
  case c4e => have := HD3.out.2.size; simp; omega
  intro v4 w4 hown hg _
  have HD4 := Lib.hid (⟨own_join hown rfl, (HD3.out.2.alloc HD3.out.2.size _).grown hg (by have := HD3.out.2.size; simp; omega) (fun k h => own_block_ge HD3.out.1 _ h)⟩ : OwnI w4 w.heap.size v4 ([0] ++ runFrom 128 (138 + 1 - 128 : Int).toNat ++ [140, 144, 149, 151] ++ runFrom 153 (157 + 1 - 153 : Int).toNat ++ [159]) ∧ Below w.heap.size w w4)
  clear hown hg HD3
  obtain ⟨A4, c4, rfl, -⟩ := own_RI HD4.out.1
  go_wp2
  go_ret
  exact ⟨_, rfl, HD4.out.1, HD4.out.2⟩
set_option maxRecDepth 100000 in
theorem rall_14 (w : World) : Calls Try.prog 26 #[.int .i64 14] w fun e w' => ∃ v, e = .returned v ∧ OwnI w' w.heap.size v (codesL 14) ∧ Below w.heap.size w w' := by
  obtain ⟨i0, hif, hz0, hz1, hz2⟩ := info_parts info_int
  go_enter Try.func26, Try.ntmps26
  go_wp2_with fail
  refine (from_t w.heap.size _ ([0, 4]) 128 131 _ (by decide) (by omega) (by omega) (by omega) (own_made w w.heap.size (Nat.le_refl _) [0, 4] 2 rfl (by decide) _ rfl _ rfl) (by simp)).mono ?_
  rintro e w1 ⟨v1, rfl, hown, hb⟩
  have HD1 := Lib.hid (⟨hown, ((Below.refl w.heap.size w).alloc (Nat.le_refl _) _).trans hb⟩ : OwnI w1 w.heap.size v1 ([0, 4] ++ runFrom 128 (131 + 1 - 128 : Int).toNat) ∧ Below w.heap.size w w1)
  clear hown hb
  obtain ⟨A1, c1, rfl, -⟩ := own_RI HD1.out.1
  go_wp2_with (at_builtin; refine wpList_append_own _ rfl _ _ 27 rfl w.heap.size 3 i0 (.int .i64 0) 1 8 Try.underlying27 hif hz0 hz1 hz2 rfl (by decide) _ ([0, 4] ++ runFrom 128 (131 + 1 - 128 : Int).toNat).length (([0, 4] ++ runFrom 128 (131 + 1 - 128 : Int).toNat).map (Value.int .i64)) rfl (HD1.out.1.alloc _) ⟨w1.heap.size, 0, none⟩ 7 7 (([135, 137, 139, 141, 142, 143, 144] : List Int).map (Value.int .i64)) rfl rfl ?c2a ?c2b ?c2c ?c2d ?c2e ?_)
  case c2a => exact new_many _ _ _ _ rfl
  case c2b => exact ones_i64 _
  case c2c => decide
  case c2d => decide
  case c2e => have := HD1.out.2.size; simp; omega
  intro v2 w2 hown hg _
  have HD2 := Lib.hid (⟨own_join hown rfl, (HD1.out.2.alloc HD1.out.2.size _).grown hg (by have := HD1.out.2.size; simp; omega) (fun k h => own_block_ge HD1.out.1 _ h)⟩ : OwnI w2 w.heap.size v2 ([0, 4] ++ runFrom 128 (131 + 1 - 128 : Int).toNat ++ [135, 137, 139, 141, 142, 143, 144]) ∧ Below w.heap.size w w2)
  clear hown hg HD1
  obtain ⟨A2, c2, rfl, -⟩ := own_RI HD2.out.1
  go_wp2_with fail
  refine (from_t w.heap.size _ ([0, 4] ++ runFrom 128 (131 + 1 - 128 : Int).toNat ++ [135, 137, 139, 141, 142, 143, 144]) 147 162 _ (by decide) (by omega) (by omega) (by omega) HD2.out.1 HD2.out.2.size).mono ?_
  rintro e w3 ⟨v3, rfl, hown, hb⟩
  have HD3 := Lib.hid (⟨hown, HD2.out.2.trans hb⟩ : OwnI w3 w.heap.size v3 ([0, 4] ++ runFrom 128 (131 + 1 - 128 : Int).toNat ++ [135, 137, 139, 141, 142, 143, 144] ++ runFrom 147 (162 + 1 - 147 : Int).toNat) ∧ Below w.heap.size w w3)
  clear hown hb HD2
  obtain ⟨A3, c3, rfl, -⟩ := own_RI HD3.out.1
  go_wp2
  go_ret
  exact ⟨_, rfl, HD3.out.1, HD3.out.2⟩
set_option maxRecDepth 100000 in
theorem rall_none (kind : Int) (w : World) (h : (kind == 2) = false ∧ (kind == 4) = false ∧ (kind == 5) = false ∧ (kind == 6) = false ∧ (kind == 7) = false ∧ (kind == 9) = false ∧ (kind == 11) = false ∧ (kind == 14) = false ∧ (kind == 15) = false) : Calls Try.prog 26 #[.int .i64 kind] w fun e w' => e = .returned (.slice none 0 0) ∧ Below w.heap.size w w' := by
  obtain ⟨z2, z4, z5, z6, z7, z9, z11, z14, z15⟩ := h
  go_enter Try.func26, Try.ntmps26
  go_wp2
  go_ret
  exact ⟨rfl, Below.refl _ _⟩
theorem rall_t (kind : Int) (w : World) : Calls Try.prog 26 #[.int .i64 kind] w fun e w' => ∃ v, e = .returned v ∧ OwnI w' w.heap.size v (codesL kind) ∧ Below w.heap.size w w' := by
  by_cases h2 : kind = 2
  · subst h2; exact rall_2 w
  by_cases h4 : kind = 4
  · subst h4; exact rall_4 w
  by_cases h5 : kind = 5
  · subst h5; exact rall_5 w
  by_cases h6 : kind = 6
  · subst h6; exact rall_6 w
  by_cases h7 : kind = 7
  · subst h7; exact rall_7 w
  by_cases h9 : kind = 9
  · subst h9; exact rall_9 w
  by_cases h11 : kind = 11
  · subst h11; exact rall_11 w
  by_cases h14 : kind = 14
  · subst h14; exact rall_14 w
  by_cases h15 : kind = 15
  · subst h15; exact rall_15 w
  have e2 : codesL kind = [] := by simp [codesL, h2, h4, h5, h6, h7, h9, h11, h14, h15]
  rw [e2]
  exact (rall_none kind w (by simp [h2, h4, h5, h6, h7, h9, h11, h14, h15])).mono fun e w' ⟨he, hb⟩ => ⟨_, he, World.ownsRow_nil _ _ _ _, hb⟩
end Go.Proofs.Ytnbgmpfldoaodaa
