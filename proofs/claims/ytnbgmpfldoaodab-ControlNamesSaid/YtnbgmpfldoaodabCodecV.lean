/- Variable byte integers in plain Lean: both ways. -/
import Derived.Test.YtnbgmpfldoaodabCodec
namespace Go.Proofs.Ytnbgmpfldoaodab
open Go.RowKit
set_option maxHeartbeats 2000000
set_option linter.unusedVariables false
set_option linter.unusedSimpArgs false
def viB (f : Nat) (n : Int) : List UInt8 := bl (strOfNums (viL f n))
theorem viB_small (f : Nat) {n : Int} (h0 : 0 ≤ n) (h : n < 128) : viB f n = [UInt8.ofNat n.toNat] := by
  cases f with
  | zero => rfl
  | succ f => rw [viB, viL, if_neg (by omega)]; rfl
theorem viB_big (f : Nat) {n : Int} (h : 128 ≤ n) : viB (f + 1) n = UInt8.ofNat (n % 128 + 128).toNat :: viB f (n / 128) := by
  rw [viB, viL, if_pos h]; rfl
theorem viB_pos (f : Nat) (n : Int) : 1 ≤ (viB f n).length := by
  cases f with
  | zero => exact Nat.le_refl 1
  | succ f =>
    unfold viB viL
    split
    · simp [bl_nums]
    · exact Nat.le_refl 1
theorem drop_cons {s : ByteArray} {k : Nat} {x : UInt8} {t : List UInt8} (h : (bl s).drop k = x :: t) : ∃ hk : k < s.size, s[k]'hk = x ∧ (bl s).drop (k + 1) = t := by
  have hk : k < (bl s).length := by
    by_cases hk : k < (bl s).length
    · exact hk
    · rw [List.drop_eq_nil_of_le (by omega)] at h; cases h
  rw [List.drop_eq_getElem_cons hk] at h
  injection h with h1 h2
  exact ⟨by rw [← bl_len]; exact hk, h1, h2⟩
theorem pow128 (k : Nat) : (0 : Int) < 128 ^ k := Int.pow_pos (by decide)
/-- What was written is read. -/
theorem vi_read : ∀ (f : Nat) (s : ByteArray) (k : Nat) (z n : Int) (rest : List UInt8), f + k = 3 → 0 ≤ n → n < viCap f → (1 ≤ k → 1 ≤ n) → (bl s).drop k = viB f n ++ rest →
    viGo (f + 1) s k z = (z + n * 128 ^ k, ((k + (viB f n).length : Nat) : Int), 0) := by
  intro f
  induction f with
  | zero =>
    intro s k z n rest hfk h0 h1 hk hd
    have h128 : n < 128 := h1
    rw [viB_small 0 h0 h128] at hd ⊢
    obtain ⟨hlt, hx, -⟩ := drop_cons hd
    have e : ((UInt8.ofNat n.toNat).toNat : Int) = n := by simp; omega
    have hp : pushR k z n = (true, 0, ⟨z + n % 128 * 128 ^ k, (k : Int) + 1, true, false⟩) := by
      unfold pushR
      rw [if_neg (by simp; omega), if_neg (by have := hk; simp; omega)]
    rw [viGo_step hlt (by rw [hx]; exact e) hp, if_pos rfl, if_pos rfl]
    rw [show n % 128 = n by omega]
    rfl
  | succ f ih =>
    intro s k z n rest hfk h0 h1 hk hd
    by_cases h : 128 ≤ n
    · rw [viB_big f h] at hd ⊢
      obtain ⟨hlt, hx, hd2⟩ := drop_cons hd
      have e : ((UInt8.ofNat (n % 128 + 128).toNat).toNat : Int) = n % 128 + 128 := by simp; omega
      have hp : pushR k z (n % 128 + 128) = (false, 0, ⟨z + (n % 128 + 128) % 128 * 128 ^ k, (k : Int) + 1, false, k == 3⟩) := by
        unfold pushR
        rw [if_pos (by simp; omega), show (k == 3) = false by simp; omega]
        rfl
      have hcap : n / 128 < viCap f := by have : viCap (f + 1) = viCap f * 128 := rfl; omega
      rw [viGo_step hlt (by rw [hx]; exact e) hp, if_pos rfl, if_neg Bool.false_ne_true]
      simp only []
      rw [ih s (k + 1) _ (n / 128) rest (by omega) (by omega) hcap (by omega) hd2]
      have ee : z + (n % 128 + 128) % 128 * 128 ^ k + n / 128 * 128 ^ (k + 1) = z + n * 128 ^ k := by
        rw [show (n % 128 + 128) % 128 = n % 128 by omega, Int.pow_succ]
        have := Int.emod_add_mul_ediv n 128
        have h2 : n * 128 ^ k = (n % 128 + 128 * (n / 128)) * 128 ^ k := by rw [this]
        rw [h2, Int.add_mul, Int.mul_assoc 128, Int.mul_comm 128, Int.mul_assoc, Int.add_assoc]
      rw [ee, List.length_cons]
      congr 3
      omega
    · have h128 : n < 128 := by omega
      rw [viB_small (f + 1) h0 h128] at hd ⊢
      obtain ⟨hlt, hx, -⟩ := drop_cons hd
      have e : ((UInt8.ofNat n.toNat).toNat : Int) = n := by simp; omega
      have hp : pushR k z n = (true, 0, ⟨z + n % 128 * 128 ^ k, (k : Int) + 1, true, false⟩) := by
        unfold pushR
        rw [if_neg (by simp; omega), if_neg (by have := hk; simp; omega)]
      rw [viGo_step hlt (by rw [hx]; exact e) hp, if_pos rfl, if_pos rfl]
      rw [show n % 128 = n by omega]
      rfl
/-- What was read is what is written. -/
theorem vi_wrote : ∀ (f : Nat) (s : ByteArray) (k : Nat) (z n size : Int), f + k = 3 → viGo (f + 1) s k z = (n, size, 0) →
    ∃ m : Int, n = z + m * 128 ^ k ∧ 0 ≤ m ∧ m < viCap f ∧ (1 ≤ k → 1 ≤ m) ∧ ∃ rest, (bl s).drop k = viB f m ++ rest ∧ size = ((k + (viB f m).length : Nat) : Int) := by
  intro f
  induction f with
  | zero =>
    intro s k z n size hfk hgo
    by_cases hlt : k < s.size
    · obtain ⟨x, hx⟩ : ∃ x, s[k]'hlt = x := ⟨_, rfl⟩
      have hx0 := x.toNat_lt
      have hd : (bl s).drop k = x :: (bl s).drop (k + 1) := by
        rw [List.drop_eq_getElem_cons (by rw [bl_len]; exact hlt)]
        congr 1
      obtain ⟨d, e, r, hp⟩ : ∃ d e r, pushR k z (x.toNat : Int) = (d, e, r) := ⟨_, _, _, rfl⟩
      rw [viGo_step hlt (by rw [hx]) hp] at hgo
      unfold pushR at hp
      split at hp
      · rw [show (k == 3) = true by simp; omega] at hp
        simp only [if_true, Prod.mk.injEq] at hp
        rw [if_neg (by rw [← hp.2.1]; decide)] at hgo
        simp only [Prod.mk.injEq] at hgo
        rw [← hp.2.1] at hgo
        exact absurd hgo.2.2 (by decide)
      · split at hp
        · simp only [Prod.mk.injEq] at hp
          rw [if_neg (by rw [← hp.2.1]; decide)] at hgo
          simp only [Prod.mk.injEq] at hgo
          rw [← hp.2.1] at hgo
          exact absurd hgo.2.2 (by decide)
        · rename_i hb hz
          simp only [Prod.mk.injEq] at hp
          rw [if_pos hp.2.1.symm, if_pos hp.1.symm, ← hp.2.2] at hgo
          simp only [Prod.mk.injEq] at hgo
          have hb' : (x.toNat : Int) < 128 := by simpa using hb
          refine ⟨(x.toNat : Int), ?_, by omega, hb', ?_, (bl s).drop (k + 1), ?_, ?_⟩
          · rw [← hgo.1, show (x.toNat : Int) % 128 = (x.toNat : Int) by omega]
          · intro hk1
            simp only [Bool.and_eq_true, decide_eq_true_eq, not_and] at hz
            by_cases h0 : (x.toNat : Int) = 0
            · exact absurd hk1 (hz h0)
            · omega
          · rw [viB_small 0 (by omega) hb', hd]; simp
          · rw [viB_small 0 (by omega) hb', ← hgo.2.1]; rfl
    · rw [viGo_end hlt] at hgo
      simp only [Prod.mk.injEq] at hgo
      exact absurd hgo.2.2 (by decide)
  | succ f ih =>
    intro s k z n size hfk hgo
    by_cases hlt : k < s.size
    · obtain ⟨x, hx⟩ : ∃ x, s[k]'hlt = x := ⟨_, rfl⟩
      have hx0 := x.toNat_lt
      have hd : (bl s).drop k = x :: (bl s).drop (k + 1) := by
        rw [List.drop_eq_getElem_cons (by rw [bl_len]; exact hlt)]
        congr 1
      obtain ⟨d, e, r, hp⟩ : ∃ d e r, pushR k z (x.toNat : Int) = (d, e, r) := ⟨_, _, _, rfl⟩
      rw [viGo_step hlt (by rw [hx]) hp] at hgo
      unfold pushR at hp
      split at hp
      · rename_i hb
        have hb' : (128 : Int) ≤ (x.toNat : Int) := by simpa using hb
        rw [show (k == 3) = false by simp; omega] at hp
        simp only [if_false, Bool.false_eq_true, Prod.mk.injEq] at hp
        rw [if_pos hp.2.1.symm, if_neg (by rw [← hp.1]; decide), ← hp.2.2] at hgo
        simp only [] at hgo
        obtain ⟨m, h1, h2, h3, h4, rest, h5, h6⟩ := ih s (k + 1) _ n size (by omega) hgo
        have hm1 := h4 (by omega)
        have hcap : viCap (f + 1) = viCap f * 128 := rfl
        refine ⟨(x.toNat : Int) % 128 + m * 128, ?_, by omega, by omega, by omega, rest, ?_, ?_⟩
        · rw [h1, Int.pow_succ, Int.add_mul, Int.mul_assoc m, Int.mul_comm (128 ^ k) 128, Int.add_assoc]
        · have hbig : 128 ≤ (x.toNat : Int) % 128 + m * 128 := by omega
          rw [viB_big f hbig, hd, h5, show ((x.toNat : Int) % 128 + m * 128) / 128 = m by omega, show (((x.toNat : Int) % 128 + m * 128) % 128 + 128).toNat = x.toNat by omega]
          simp
        · have hbig : 128 ≤ (x.toNat : Int) % 128 + m * 128 := by omega
          rw [viB_big f hbig, h6, show ((x.toNat : Int) % 128 + m * 128) / 128 = m by omega, List.length_cons]
          congr 1; omega
      · split at hp
        · simp only [Prod.mk.injEq] at hp
          rw [if_neg (by rw [← hp.2.1]; decide)] at hgo
          simp only [Prod.mk.injEq] at hgo
          rw [← hp.2.1] at hgo
          exact absurd hgo.2.2 (by decide)
        · rename_i hb hz
          simp only [Prod.mk.injEq] at hp
          rw [if_pos hp.2.1.symm, if_pos hp.1.symm, ← hp.2.2] at hgo
          simp only [Prod.mk.injEq] at hgo
          have hb' : (x.toNat : Int) < 128 := by simpa using hb
          have hcap : (128 : Int) ≤ viCap (f + 1) := by
            have : ∀ g, (128 : Int) ≤ viCap g := by intro g; induction g with
              | zero => exact Int.le_refl _
              | succ g ig => rw [viCap]; omega
            exact this _
          refine ⟨(x.toNat : Int), ?_, by omega, by omega, ?_, (bl s).drop (k + 1), ?_, ?_⟩
          · rw [← hgo.1, show (x.toNat : Int) % 128 = (x.toNat : Int) by omega]
          · intro hk1
            simp only [Bool.and_eq_true, decide_eq_true_eq, not_and] at hz
            by_cases h0 : (x.toNat : Int) = 0
            · exact absurd hk1 (hz h0)
            · omega
          · rw [viB_small (f + 1) (by omega) hb', hd]; simp
          · rw [viB_small (f + 1) (by omega) hb', ← hgo.2.1]; rfl
    · rw [viGo_end hlt] at hgo
      simp only [Prod.mk.injEq] at hgo
      exact absurd hgo.2.2 (by decide)
theorem viS_bl (n : Int) : bl (viS n) = viB 3 n := rfl
theorem viRead_viS {s : ByteArray} {n : Int} {rest : List UInt8} (h0 : 0 ≤ n) (h1 : n ≤ 268435455) (h : bl s = bl (viS n) ++ rest) : viRead s = (n, ((bl (viS n)).length : Int), 0) := by
  have := vi_read 3 s 0 0 n rest rfl h0 (show n < 268435456 by omega) (by omega) (by rw [List.drop_zero]; exact h)
  unfold viRead
  rw [this, Int.pow_zero, Int.mul_one, Int.zero_add, Nat.zero_add]
  rfl
theorem viS_viRead {s : ByteArray} {n size : Int} (h : viRead s = (n, size, 0)) : 0 ≤ n ∧ n ≤ 268435455 ∧ ∃ rest, bl s = bl (viS n) ++ rest ∧ size = ((bl (viS n)).length : Int) := by
  obtain ⟨m, h1, h2, h3, -, rest, h5, h6⟩ := vi_wrote 3 s 0 0 n size rfl h
  rw [Int.pow_zero, Int.mul_one, Int.zero_add] at h1
  subst h1
  have h3' : n < 268435456 := h3
  exact ⟨h2, by omega, rest, by rw [List.drop_zero] at h5; exact h5, by rw [h6, Nat.zero_add]; rfl⟩
end Go.Proofs.Ytnbgmpfldoaodab
