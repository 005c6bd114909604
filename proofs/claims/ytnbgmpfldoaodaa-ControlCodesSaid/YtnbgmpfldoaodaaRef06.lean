/- The reference of chapter 6 (polyglotref06): what each of its functions answers. -/
import Derived.Test.YtnbgmpfldoaodaaAll
namespace Go.Proofs.Ytnbgmpfldoaodaa
open Go.RowKit
set_option maxHeartbeats 400000
set_option linter.unusedVariables false
set_option linter.unusedSimpArgs false
theorem own_made (w : World) (b : Nat) (hb : b ≤ w.heap.size) (xs : List Int) (n : Nat) (hn : xs.length = n) (hm : n ≤ maxLen) (C : Array Value) (hC : C = (xs.map (Value.int .i64)).toArray) (B : Nat) (hB : w.heap.size = B) :
    (w.alloc (.cells C 3)).ownsRow b 3 1 (.slice (some ⟨B, 0, none⟩) n n) n (xs.map (Value.int .i64)) := by
  subst hB hC
  refine ⟨by simp [hn], .inr ⟨_, n, _, rfl, hb, heap_alloc_new w _, Nat.le_refl _, hm, by simp [hn], by subst hn; simp [List.take_of_length_le]⟩⟩
theorem own_RI {w : World} {b : Nat} {v : Value} {n : Nat} {xs : List Int} (h : w.ownsRow b 3 1 v n (xs.map (Value.int .i64))) : ∃ A c, v = .slice A n c ∧ RI w A n xs := by
  have hl : xs.length = n := by have := h.1; simpa using this
  rcases h.2 with ⟨rfl, rfl⟩ | ⟨g, cap, cur, rfl, hb, hh, h1, h2, h3, h4⟩
  · exact ⟨none, 0, rfl, hl, by omega, fun hp => absurd hp (by omega)⟩
  · refine ⟨_, cap, rfl, hl, by simp only [maxLen] at h2; omega, fun _ => ⟨g, 0, rfl, (Array.getElem?_eq_some_iff.1 hh).1, fun j hj => ?_⟩⟩
    have hc := h.cells (g := g) rfl j (.int .i64 (xs.getD j 0)) (by simp [List.getD_eq_getElem?_getD, List.getElem?_eq_getElem (show j < xs.length by omega)])
    rw [show (⟨g, 0 + j, none⟩ : Addr) = (⟨g, 0, none⟩ : Addr).add j from by unfold Addr.add; split <;> simp_all]
    exact hc
theorem RI_below {w w1 : World} {A : Option Addr} {n : Nat} {xs : List Int} (h : RI w A n xs) (hb : Below w.heap.size w w1) : RI w1 A n xs :=
  ⟨h.1, h.2.1, fun hn => by
    obtain ⟨b, off, e, hlt, hc⟩ := h.2.2 hn
    exact ⟨b, off, e, Nat.lt_of_lt_of_le hlt hb.size, fun j hj => (hb.cell (p := ⟨b, off + j, none⟩) hlt).trans (hc j hj)⟩⟩
/-- The numbers from lo on. -/
def runFrom (lo : Int) (k : Nat) : List Int := (List.range k).map fun i : Nat => lo + (i : Int)
theorem runFrom_succ (lo : Int) (k : Nat) : runFrom lo (k + 1) = runFrom lo k ++ [lo + (k : Int)] := by simp [runFrom, List.range_succ]
theorem runFrom_len (lo : Int) (k : Nat) : (runFrom lo k).length = k := by simp [runFrom]
set_option maxRecDepth 100000 in
theorem from_t (base : Nat) (v : Value) (xs : List Int) (lo hi : Int) (w : World) (hx : xs.length ≤ 1000) (h0 : 0 ≤ lo) (h1 : lo ≤ hi) (h2 : hi < 256) (hown : OwnI w base v xs) (hbs : base ≤ w.heap.size) :
    Calls Try.prog 48 #[v, .int .i64 lo, .int .i64 hi] w fun e w' => ∃ v', e = .returned v' ∧ OwnI w' base v' (xs ++ runFrom lo (hi + 1 - lo).toNat) ∧ Below base w w' := by
  obtain ⟨i0, hif, hz0, hz1, hz2⟩ := info_parts info_int
  obtain ⟨A, c, rfl, -⟩ := own_RI hown
  have HO := Lib.hid hown
  clear hown
  go_enter Try.func48, Try.ntmps48
  go_wp2
  go_loopw [0, 1] (fun v0 v1 wr => ∃ k : Nat, lo + k ≤ hi + 1 ∧ v1 = .int .i64 (lo + k) ∧ wr.ownsRow base 3 1 v0 (xs ++ runFrom lo k).length ((xs ++ runFrom lo k).map (Value.int .i64)) ∧ Below base w wr) (fun _ v1 _ => (hi + 1 - intOf v1).toNat)
  case atStart => exact ⟨0, by omega, by simp, by have h := HO.out; simpa [runFrom, OwnI] using h, Below.refl _ _⟩
  case round =>
    obtain ⟨k, hk, rfl, hown, hbel⟩ := hrel
    have HC := Lib.hid (⟨hown, hbel⟩ : _ ∧ _)
    have HS := Lib.hid (runFrom_succ lo k)
    have hlen : (xs ++ runFrom lo k).length ≤ 1000 + 256 := by rw [List.length_append, runFrom_len]; omega
    clear hown hbel
    by_cases hlt : lo + k ≤ hi
    · generalize runFrom lo k = l at *
      go_wp2_with (at_builtin; refine wpList_append_own _ rfl _ _ 27 rfl base 3 i0 (.int .i64 0) 1 8 Try.underlying27 hif hz0 hz1 hz2 rfl (by decide) _ (xs ++ l).length ((xs ++ l).map (Value.int .i64)) rfl (HC.out.1.alloc _) ⟨wr.heap.size, 0, none⟩ 1 1 [.int .i64 (lo + (k : Int))] rfl rfl ?c1 ?c2 ?c3 ?c4 ?c5 ?_)
      case c1 => exact new_one _ _ _
      case c2 => intro u hu; simp at hu; subst hu; rfl
      case c3 => unfold maxLen; omega
      case c4 => omega
      case c5 => have := HC.out.2.size; simp; omega
      intro v' w3 hown3 hgrow3 _
      have HG := Lib.hid (⟨hown3, hgrow3⟩ : _ ∧ _)
      clear hown3 hgrow3
      go_wp2
      go_roundw
      case rel =>
        obtain ⟨hown3, hgrow3⟩ := HG.out
        obtain ⟨hown, hbel⟩ := HC.out
        refine ⟨k + 1, by omega, by go_num, ?_, ?_⟩
        · rw [HS.out]; simpa [Nat.add_assoc] using hown3
        · exact (hbel.alloc (Nat.le_trans hbs hbel.size) _).grown hgrow3 (by have := hbel.size; simp; omega) (fun k' h => own_block_ge hown _ h)
      case measure => simp [intOf]; omega
    · have hkk : k = (hi + 1 - lo).toNat := by omega
      have HN : Hid (runFrom lo (hi + 1 - lo).toNat = runFrom lo k) := Lib.hid (by rw [hkk])
      clear hkk
      go_wp2
      go_ret
      exact ⟨_, rfl, by rw [HN.out]; exact HC.out.1, HC.out.2⟩
end Go.Proofs.Ytnbgmpfldoaodaa
