/- The reference's Text; 'Same' of whole numbers; the program's lists are the document's. -/
import Derived.Test.YtnbgmpfldoaodaaRefR
namespace Go.Proofs.Ytnbgmpfldoaodaa
open Go.RowKit
set_option maxHeartbeats 1000000
set_option linter.unusedVariables false
theorem pw_drewN {B : Nat} {w W : World} (h : Below B w W) (n : Nat) : Below B w (W.drewN n) := ⟨h.os, h.tape, h.output, h.size, h.block⟩
theorem codesTo_all (kind : Int) : codesTo kind 256 = codesL kind := by
  have key : ∀ k : Int, (∀ x, mayB kind x = (codesL k).contains x) → ((List.range 256).map fun i : Nat => (i : Int)).filter (fun x => (codesL k).contains x) = codesL k → codesL kind = codesL k → codesTo kind 256 = codesL kind := by
    intro k h1 h2 h3
    unfold codesTo
    rw [show mayB kind = (fun x => (codesL k).contains x) from funext h1, h2, h3]
  by_cases h2 : kind = 2
  · subst h2; exact key 2 (fun _ => rfl) (by decide +kernel) rfl
  by_cases h4 : kind = 4
  · subst h4; exact key 4 (fun _ => rfl) (by decide +kernel) rfl
  by_cases h5 : kind = 5
  · subst h5; exact key 5 (fun _ => rfl) (by decide +kernel) rfl
  by_cases h6 : kind = 6
  · subst h6; exact key 6 (fun _ => rfl) (by decide +kernel) rfl
  by_cases h7 : kind = 7
  · subst h7; exact key 7 (fun _ => rfl) (by decide +kernel) rfl
  by_cases h9 : kind = 9
  · subst h9; exact key 9 (fun _ => rfl) (by decide +kernel) rfl
  by_cases h11 : kind = 11
  · subst h11; exact key 11 (fun _ => rfl) (by decide +kernel) rfl
  by_cases h14 : kind = 14
  · subst h14; exact key 14 (fun _ => rfl) (by decide +kernel) rfl
  by_cases h15 : kind = 15
  · subst h15; exact key 15 (fun _ => rfl) (by decide +kernel) rfl
  have e2 : codesL kind = codesL 0 := by simp [codesL, h2, h4, h5, h6, h7, h9, h11, h14, h15]
  exact key 0 (fun _ => by rw [mayB, e2]) (by decide +kernel) e2
theorem same_step (xs ys : List Int) (k : Nat) (hx : k < xs.length) (hy : k < ys.length) (h : xs.take k = ys.take k) (he : xs.getD k 0 = ys.getD k 0) : xs.take (k + 1) = ys.take (k + 1) := by
  rw [List.take_succ_eq_append_getElem hx, List.take_succ_eq_append_getElem hy, h]
  rw [List.getD_eq_getElem?_getD, List.getElem?_eq_getElem hx, List.getD_eq_getElem?_getD, List.getElem?_eq_getElem hy] at he
  simp at he; rw [he]
set_option maxRecDepth 100000 in
theorem same_t (A B : Option Addr) (n m cp cq : Nat) (xs ys : List Int) (w : World) (hx : RI w A n xs) (hy : RI w B m ys) :
    Calls Try.prog 21 #[.slice A n cp, .slice B m cq] w fun e w' => e = .returned (.bool (decide (xs = ys))) ∧ Below w.heap.size w w' := by
  obtain ⟨hl, hn, hc⟩ := hx
  obtain ⟨hl2, hn2, hc2⟩ := hy
  have HC := Lib.hid hc
  have HD := Lib.hid hc2
  have HX := Lib.hid hl
  have HY := Lib.hid hl2
  clear hc hc2 hl hl2
  by_cases hnm : n = m
  · subst hnm
    go_enter Try.func21, Try.ntmps21
    go_wp2
    go_loopw [5] (fun v5 wr => ∃ k : Nat, k ≤ n ∧ v5 = .int .i64 k ∧ xs.take k = ys.take k ∧ Below w.heap.size w wr) (fun v5 _ => n - (intOf v5).toNat)
    case atStart => exact ⟨0, by omega, rfl, rfl, Below.refl _ _⟩
    case round =>
      obtain ⟨k, hk, rfl, heq, hbel⟩ := hrel
      have HE := Lib.hid heq
      have HB := Lib.hid hbel
      by_cases hlt : k < n
      · obtain ⟨b, off, rfl, hbl, hcell⟩ := HC.out (by omega)
        obtain ⟨b2, off2, rfl, hbl2, hcell2⟩ := HD.out (by omega)
        have c1 : wr.cell? ⟨b, off + k, none⟩ = some (.int .i64 (xs.getD k 0)) := (hbel.cell (p := ⟨b, off + k, none⟩) hbl).trans (hcell k hlt)
        have c2 : wr.cell? ⟨b2, off2 + k, none⟩ = some (.int .i64 (ys.getD k 0)) := (hbel.cell (p := ⟨b2, off2 + k, none⟩) hbl2).trans (hcell2 k hlt)
        have HS := Lib.hid (same_step xs ys k (by rw [HX.out]; exact hlt) (by rw [HY.out]; exact hlt) heq)
        have HT : Hid (xs = ys → xs.getD k 0 = ys.getD k 0) := Lib.hid (fun h => by rw [h])
        clear hcell hcell2 heq hbel
        generalize xs.getD k 0 = x at *
        generalize ys.getD k 0 = y at *
        by_cases hxy : x = y
        · subst hxy
          have hne : (x != x) = false := by simp
          go_wp2
          go_quiet (fail)
          go_wp2
          go_roundw
          case rel => exact ⟨k + 1, by omega, by go_num, (by first | exact HS.out rfl | exact HS.out trivial), pw_drewN HB.out _⟩
          case measure => simp [intOf]; omega
        · have hne : (x != y) = true := by simpa using hxy
          have HF : Hid (decide (xs = ys) = false) := Lib.hid (by simp; intro h; exact hxy (HT.out h))
          clear hxy
          go_wp2
          go_quiet (fail)
          go_wp2
          go_ret
          exact ⟨by rw [HF.out]; rfl, pw_drewN HB.out _⟩
      · have hkn : k = n := by omega
        have HF : Hid (decide (xs = ys) = true) := Lib.hid (by
          rw [hkn] at heq
          rw [List.take_of_length_le (by rw [HX.out]; exact Nat.le_refl _), List.take_of_length_le (by rw [HY.out]; exact Nat.le_refl _)] at heq
          simp [heq])
        clear heq hbel hkn
        go_wp2
        go_ret
        exact ⟨by rw [HF.out]; rfl, HB.out⟩
  · have HF : Hid (decide (xs = ys) = false) := Lib.hid (by
      simp; intro h; apply hnm; rw [← HX.out, ← HY.out, h])
    have hne : ((n : Int) != (m : Int)) = true := by simp; omega
    clear hnm
    go_enter Try.func21, Try.ntmps21
    go_wp2
    go_ret
    exact ⟨by rw [HF.out]; rfl, Below.refl _ _⟩
theorem hex_cut (i : Int) (h0 : 0 ≤ i) (h1 : i < 16) : hexS.extract i.toNat (i + 1).toNat = ⟨#[hexd i]⟩ := by
  obtain ⟨n, rfl⟩ := Int.eq_ofNat_of_zero_le h0
  exact (show ∀ n : Fin 16, hexS.extract (n.val : Int).toNat ((n.val : Int) + 1).toNat = ⟨#[hexd n.val]⟩ from by decide +kernel) ⟨n, by omega⟩
theorem hex_cat (i j : Int) (hi0 : 0 ≤ i) (hi : i < 16) (hj0 : 0 ≤ j) (hj : j < 16) : hexS.extract i.toNat (i + 1).toNat ++ hexS.extract j.toNat (j + 1).toNat = ⟨#[hexd i, hexd j]⟩ := by
  rw [hex_cut i hi0 hi, hex_cut j hj0 hj]; rfl
def anyTo1 (k : Nat) (code : Int) : Bool := (List.range k).any fun j => mayB (1 + (j : Int)) code
theorem anyTo1_succ (k : Nat) (code : Int) : anyTo1 (k + 1) code = (anyTo1 k code || mayB (1 + (k : Int)) code) := by simp [anyTo1, List.range_succ]
theorem anyTo1_is (k : Nat) (code : Int) : anyTo1 (k + 1) code = anyTo k code := by
  induction k with
  | zero => rfl
  | succ k ih => rw [anyTo1_succ, ih, anyTo_succ]; congr 2; omega
theorem may_one (c : Int) : mayB 1 c = false := by simp [mayB, codesL]
set_option maxRecDepth 100000 in
theorem rtext_t (c : Int) (w : World) : Calls Try.prog 30 #[.int .i64 c] w fun e w' => e = .returned (.string (textS c)) ∧ Below w.heap.size w w' := by
  go_enter Try.func30, Try.ntmps30
  go_wp2
  go_loopw [3] (fun v wr => ∃ k : Nat, k ≤ 15 ∧ v = .int .i64 (1 + (k : Int)) ∧ anyTo1 k c = false ∧ Below w.heap.size w wr) (fun v _ => (16 - intOf v).toNat)
  case atStart => exact ⟨0, by omega, rfl, rfl, Below.refl _ _⟩
  case round =>
    obtain ⟨k, hk, rfl, hany, hbel⟩ := hrel
    have HB := Lib.hid (⟨hany, hbel⟩ : _ ∧ _)
    clear hany hbel
    by_cases hlt : k < 15
    · have HA := Lib.hid (anyTo1_succ k c)
      go_wp2_with fail
      refine (rmay_t (1 + (k : Int)) c _).mono ?_
      rintro e w1 ⟨rfl, hb1⟩
      have HB1 := Lib.hid (ext_then HB.out.2 hb1)
      clear hb1
      by_cases hm : mayB (1 + (k : Int)) c = true
      · obtain ⟨h0, h1⟩ := mayB_range hm
        have r0 : 0 ≤ c / 16 := by omega
        have r1 : c / 16 < 16 := by omega
        have r2 : 0 ≤ c % 16 := by omega
        have r3 : c % 16 < 16 := by omega
        rw [hm]
        have HM : Hid (textS c = ⟨#[hexd (c / 16), hexd (c % 16)]⟩) := Lib.hid (by
          rw [textS, if_pos]
          have h2 : anyTo1 (k + 1) c = true := by rw [anyTo1_succ, hm]; simp
          rw [anyTo1_is] at h2
          exact any_more c k (by omega) h2)
        have HX := Lib.hid (hex_cat (c / 16) (c % 16) r0 r1 r2 r3)
        clear hm
        go_wp2
        go_quiet (fail)
        go_wp2
        go_ret
        exact ⟨by rw [HM.out, ← HX.out]; rfl, pw_drewN HB1.out _⟩
      · have hm' : mayB (1 + (k : Int)) c = false := by simpa using hm
        rw [hm']
        have HN : Hid (anyTo1 (k + 1) c = false) := Lib.hid (by rw [HA.out, hm', HB.out.1]; rfl)
        clear hm hm'
        go_wp2
        go_roundw
        case rel => exact ⟨k + 1, by omega, by go_num, HN.out, HB1.out⟩
        case measure => simp [intOf]; omega
    · have hk14 : k = 15 := by omega
      have HE : Hid (textS c = ⟨#[63]⟩) := Lib.hid (by
        have := HB.out.1
        rw [hk14, anyTo1_is] at this
        simp [textS, this])
      clear hk14
      go_wp2
      go_ret
      exact ⟨by rw [HE.out]; rfl, HB.out.2⟩
end Go.Proofs.Ytnbgmpfldoaodaa
