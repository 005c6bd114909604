/- The reference of chapter 6: May, To5, To311 and the rest; 'Same' of whole numbers; the program's lists are the document's. -/
import Derived.Test.YtnbgmpfldoaodaaRefAll
import Derived.Deep.QuietTactic
import Derived.BigQuiet
namespace Go.Proofs.Ytnbgmpfldoaodaa
open Go.RowKit
set_option maxHeartbeats 1000000
set_option linter.unusedVariables false
set_option linter.unusedSimpArgs false
theorem codesL_len (kind : Int) : (codesL kind).length ≤ 100 := by
  unfold codesL
  repeat (first | split | decide)
theorem contains_snoc (l : List Int) (k : Nat) (h : k < l.length) (c : Int) : (l.take (k + 1)).contains c = ((l.take k).contains c || (l.getD k 0 == c)) := by
  rw [List.take_succ_eq_append_getElem h, List.getD_eq_getElem?_getD, List.getElem?_eq_getElem h]
  simp only [List.contains_eq_any_beq, List.any_append, List.any_cons, List.any_nil, Bool.or_false, Option.getD_some]
  rw [show (c == l[k]) = (l[k] == c) from BEq.comm]
theorem contains_at (l : List Int) (k : Nat) (h : k < l.length) (c : Int) (hc : l.getD k 0 = c) : l.contains c = true := by
  rw [List.getD_eq_getElem?_getD, List.getElem?_eq_getElem h] at hc
  simp only [Option.getD_some] at hc
  simp [← hc]
set_option maxRecDepth 100000 in
theorem rmay_t (kind code : Int) (w : World) : Calls Try.prog 25 #[.int .i64 kind, .int .i64 code] w fun e w' => e = .returned (.bool (mayB kind code)) ∧ Below w.heap.size w w' := by
  go_enter Try.func25, Try.ntmps25
  go_wp2_with fail
  refine (rall_t kind _).mono ?_
  rintro e w1 ⟨v, rfl, hown, hb⟩
  obtain ⟨A, cp, rfl, hri⟩ := own_RI hown
  have hln : (codesL kind).length ≤ 100 := codesL_len kind
  have HM : Hid (mayB kind code = (codesL kind).contains code) := Lib.hid rfl
  generalize codesL kind = l at *
  have HB := Lib.hid hb
  have HR := Lib.hid hri
  clear hown hb hri
  go_wp2
  go_loopw [6] (fun v4 wr => ∃ k : Nat, k ≤ l.length ∧ v4 = .int .i64 k ∧ (l.take k).contains code = false ∧ wr = w1) (fun v4 _ => l.length - (intOf v4).toNat)
  case atStart => exact ⟨0, by omega, rfl, rfl, rfl⟩
  case round =>
    obtain ⟨k, hk, rfl, hcn, rfl⟩ := hrel
    by_cases hlt : k < l.length
    · obtain ⟨b, off, rfl, hbl, hc⟩ := HR.out.2.2 (by omega)
      have hcell := hc k hlt
      have HS := Lib.hid (contains_snoc l k hlt code)
      have HT := Lib.hid (contains_at l k hlt code)
      have HN := Lib.hid hcn
      clear hc hcn
      generalize l.getD k 0 = x at *
      by_cases hx : x = code
      · subst hx
        have HF : Hid (mayB kind x = true) := Lib.hid (by rw [HM.out]; exact HT.out rfl)
        go_wp2
        go_ret
        exact ⟨by rw [HF.out]; rfl, HB.out⟩
      · have hx' : (x == code) = false := by simpa using hx
        have HF : Hid ((l.take (k + 1)).contains code = false) := Lib.hid (by rw [HS.out, HN.out, hx']; rfl)
        clear hx
        go_wp2
        go_roundw
        case rel => exact ⟨k + 1, by omega, by go_num, HF.out, trivial⟩
        case measure => simp [intOf]; omega
    · obtain rfl : k = l.length := by omega
      have HF : Hid (mayB kind code = false) := Lib.hid (by rw [HM.out, ← hcn, List.take_length])
      clear hcn
      go_wp2
      go_ret
      exact ⟨by rw [HF.out]; rfl, HB.out⟩
theorem rreturn_t (c : Int) (w : World) : Calls Try.prog 27 #[.int .i64 c] w fun e w' => e = .returned (.bool (returnB c)) ∧ Below w.heap.size w w' := by
  by_cases h0 : 0 ≤ c
  · have HE : Hid (returnB c = decide (c ≤ 5)) := Lib.hid (by simp [returnB, h0])
    go_enter Try.func27, Try.ntmps27
    go_wp2
    go_ret
    exact ⟨by rw [HE.out]; rfl, Below.refl _ _⟩
  · have HE : Hid (returnB c = false) := Lib.hid (by simp [returnB, h0])
    have g0 : decide (0 ≤ c) = false := by simp [h0]
    go_enter Try.func27, Try.ntmps27
    go_wp2
    go_ret
    exact ⟨by rw [HE.out]; rfl, Below.refl _ _⟩
theorem rbad_t (c : Int) (w : World) : Calls Try.prog 29 #[.int .i64 c] w fun e w' => e = .returned (.bool (badB c)) ∧ Below w.heap.size w w' := by
  by_cases h0 : 128 ≤ c
  · have HE : Hid (badB c = decide (c ≤ 255)) := Lib.hid (by simp [badB, h0])
    go_enter Try.func29, Try.ntmps29
    go_wp2
    go_ret
    exact ⟨by rw [HE.out]; rfl, Below.refl _ _⟩
  · have HE : Hid (badB c = false) := Lib.hid (by simp [badB, h0])
    have g0 : decide (128 ≤ c) = false := by simp [h0]
    go_enter Try.func29, Try.ntmps29
    go_wp2
    go_ret
    exact ⟨by rw [HE.out]; rfl, Below.refl _ _⟩
theorem rgrant_t (c : Int) (w : World) : Calls Try.prog 28 #[.int .i64 c] w fun e w' => e = .returned (.bool (grantB c)) ∧ Below w.heap.size w w' := by
  by_cases h0 : c = 0
  · subst h0; go_enter Try.func28, Try.ntmps28; go_wp2; go_ret; exact ⟨rfl, Below.refl _ _⟩
  by_cases h1 : c = 1
  · subst h1; go_enter Try.func28, Try.ntmps28; go_wp2; go_ret; exact ⟨rfl, Below.refl _ _⟩
  by_cases h2 : c = 2
  · subst h2; go_enter Try.func28, Try.ntmps28; go_wp2; go_ret; exact ⟨rfl, Below.refl _ _⟩
  have HE : Hid (grantB c = (c == 128)) := Lib.hid (by simp [grantB, h0, h1, h2])
  have g0 : (c == 0) = false := by simp [h0]
  have g1 : (c == 1) = false := by simp [h1]
  have g2 : (c == 2) = false := by simp [h2]
  clear h0 h1 h2
  go_enter Try.func28, Try.ntmps28
  go_wp2
  go_ret
  exact ⟨by rw [HE.out]; rfl, Below.refl _ _⟩
def oth : List Int := [0, 132, 133, 136, 134, 135]
theorem others_t (w : World) : Calls Try.prog 47 #[] w fun e w' => ∃ B, B = w.heap.size ∧ e = .returned (.slice (some ⟨B, 0, none⟩) 6 6) ∧ w' = w.alloc (.cells (oth.map (Value.int .i64)).toArray 3) := by
  go_enter Try.func47, Try.ntmps47
  go_wp2
  go_ret
  exact ⟨_, rfl, rfl, rfl⟩
theorem oth_cells (w : World) : ∀ j, j < 6 → (w.alloc (.cells (oth.map (Value.int .i64)).toArray 3)).cell? ⟨w.heap.size, j, none⟩ = some (.int .i64 (oth.getD j 0)) := fun j hj => by
  rw [cell_of_row _ _ _ _ _ _ (heap_alloc_new w _)]
  match j, hj with | 0, _ => rfl | 1, _ => rfl | 2, _ => rfl | 3, _ => rfl | 4, _ => rfl | 5, _ => rfl
theorem oth_to5 (c : Int) (h0 : 0 ≤ c) (h1 : c ≤ 5) : to5 c = (oth.getD c.toNat 0, true) := by
  have : c = 0 ∨ c = 1 ∨ c = 2 ∨ c = 3 ∨ c = 4 ∨ c = 5 := by omega
  rcases this with rfl | rfl | rfl | rfl | rfl | rfl <;> rfl
set_option maxRecDepth 100000 in
theorem rto5_t (c : Int) (w : World) : Calls Try.prog 23 #[.int .i64 c] w fun e w' => e = .returned (.tuple #[.int .i64 (to5 c).1, .bool (to5 c).2]) ∧ Below w.heap.size w w' := by
  by_cases h : 0 ≤ c ∧ c ≤ 5
  · obtain ⟨h0, h1⟩ := h
    have HE := Lib.hid (oth_to5 c h0 h1)
    go_enter Try.func23, Try.ntmps23
    go_wp2_with fail
    refine (rreturn_t c _).mono ?_
    rintro e w1 ⟨rfl, hb1⟩
    rw [show returnB c = true from by simp [returnB, h0, h1]]
    have HB := Lib.hid hb1
    clear hb1
    go_wp2_with fail
    refine (others_t _).mono ?_
    rintro e w2 ⟨B, hB, rfl, rfl⟩
    have hc := oth_cells w1 c.toNat (by omega)
    rw [← hB] at hc
    have hbl := Lib.hid (HB.out.alloc HB.out.size (.cells (oth.map (Value.int .i64)).toArray 3))
    generalize hx : oth.getD c.toNat 0 = x at *
    have HX := Lib.hid hx
    clear hx
    generalize w1.alloc (.cells (oth.map (Value.int .i64)).toArray 3) = w2 at *
    clear hB
    go_wp2
    try go_region
    all_goals (try go_wp2)
    all_goals go_ret2
    all_goals exact ⟨by rw [HE.out]; rfl, by first | exact hbl.out | exact hbl.out.drew⟩
  · have HE : Hid (to5 c = (0, false)) := Lib.hid (by simp [to5]; repeat (first | omega | rfl | split))
    go_enter Try.func23, Try.ntmps23
    go_wp2_with fail
    refine (rreturn_t c _).mono ?_
    rintro e w1 ⟨rfl, hb1⟩
    rw [show returnB c = false from by simp [returnB]; omega]
    have HB := Lib.hid hb1
    clear hb1
    go_wp2
    go_ret2
    exact ⟨by rw [HE.out]; rfl, HB.out⟩
set_option maxRecDepth 100000 in
set_option maxHeartbeats 4000000 in
theorem rto311_t (c : Int) (w : World) : Calls Try.prog 24 #[.int .i64 c] w fun e w' => e = .returned (.tuple #[.int .i64 (to311 c).1, .bool (to311 c).2]) ∧ Below w.heap.size w w' := by
  by_cases h0 : c = 0
  · subst h0; go_enter Try.func24, Try.ntmps24; go_wp2; go_rounds 7; go_ret2; exact ⟨rfl, (Below.refl _ _).alloc (Nat.le_refl _) _⟩
  by_cases h132 : c = 132
  · subst h132; go_enter Try.func24, Try.ntmps24; go_wp2; go_rounds 7; go_ret2; exact ⟨rfl, (Below.refl _ _).alloc (Nat.le_refl _) _⟩
  by_cases h133 : c = 133
  · subst h133; go_enter Try.func24, Try.ntmps24; go_wp2; go_rounds 7; go_ret2; exact ⟨rfl, (Below.refl _ _).alloc (Nat.le_refl _) _⟩
  by_cases h136 : c = 136
  · subst h136; go_enter Try.func24, Try.ntmps24; go_wp2; go_rounds 7; go_ret2; exact ⟨rfl, (Below.refl _ _).alloc (Nat.le_refl _) _⟩
  by_cases h134 : c = 134
  · subst h134; go_enter Try.func24, Try.ntmps24; go_wp2; go_rounds 7; go_ret2; exact ⟨rfl, (Below.refl _ _).alloc (Nat.le_refl _) _⟩
  by_cases h135 : c = 135
  · subst h135; go_enter Try.func24, Try.ntmps24; go_wp2; go_rounds 7; go_ret2; exact ⟨rfl, (Below.refl _ _).alloc (Nat.le_refl _) _⟩
  have HE : Hid (to311 c = (0, false)) := Lib.hid (by simp [to311, h0, h132, h133, h136, h134, h135])
  have g0 : (0 == c) = false := by simp; omega
  have g132 : (132 == c) = false := by simp; omega
  have g133 : (133 == c) = false := by simp; omega
  have g136 : (136 == c) = false := by simp; omega
  have g134 : (134 == c) = false := by simp; omega
  have g135 : (135 == c) = false := by simp; omega
  clear h0 h132 h133 h136 h134 h135
  go_enter Try.func24, Try.ntmps24
  go_wp2
  go_rounds 7
  go_ret2
  exact ⟨by rw [HE.out]; rfl, (Below.refl _ _).alloc (Nat.le_refl _) _⟩
end Go.Proofs.Ytnbgmpfldoaodaa
