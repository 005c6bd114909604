/- prop.Read: its walk. -/
import Derived.Test.YtnbgmpfldoaodabListW
namespace Go.Proofs.Ytnbgmpfldoaodab
open Go.RowKit Go.Sort
set_option maxHeartbeats 2000000
set_option linter.unusedVariables false
set_option linter.unusedSimpArgs false
theorem viGo_sz : ∀ (f : Nat) (s : ByteArray) (k : Nat) (z : Int), f + k ≤ 4 → 0 ≤ z → z < 128 ^ k → k ≤ s.size → (viGo f s k z).2.1 ≤ (s.size : Int)
  | 0, s, k, z, _, _, _, _ => by rw [viGo]; simp
  | f + 1, s, k, z, hk, z0, z1, hks => by
    by_cases h : k < s.size
    · obtain ⟨x, hx⟩ : ∃ x, s[k]'h = x := ⟨_, rfl⟩
      have hx0 := x.toNat_lt
      rcases pushR_cases (k := k) (by omega) z0 z1 (show (0 : Int) ≤ (x.toNat : Int) by omega) (show (x.toNat : Int) < 256 by omega) with ⟨hk3, hp, hp0, hp1⟩ | ⟨r, hp⟩ | hp
      · rw [viGo_step h (by rw [hx]) hp, if_pos rfl, if_neg Bool.false_ne_true]
        exact viGo_sz f s (k + 1) _ (by omega) hp0 hp1 h
      · rw [viGo_step h (by rw [hx]) hp, if_neg (by decide)]; simp
      · rw [viGo_step h (by rw [hx]) hp, if_pos rfl, if_pos rfl]; show ((k + 1 : Nat) : Int) ≤ _; omega
    · rw [viGo_end h]; simp
theorem viRead_sz (s : ByteArray) : (viRead s).2.1 ≤ (s.size : Int) := viGo_sz 4 s 0 0 (by omega) (by omega) (by decide) (Nat.zero_le _)
def preadF (kind : Int) (s : ByteArray) : List Prp × Int × Int :=
  if (viRead s).2.2 = 0 then
    (if decide ((s.size : Int) - (viRead s).2.1 < (viRead s).1) = true then ([], 0, 3)
     else
      (let r := listF kind (s.extract (viRead s).2.1.toNat ((viRead s).2.1 + (viRead s).1).toNat)
       if r.2 = 0 then (r.1, (viRead s).2.1 + (viRead s).1, 0) else ([], 0, r.2)))
  else ([], 0, (viRead s).2.2)
set_option maxRecDepth 100000 in
theorem pread_t (kind : Int) (s : ByteArray) (w : World) (hs : s.size ≤ 140737488351232) : Calls Try.prog 48 #[.int .i64 kind, .string s] w fun e w' => ∃ v, e = .returned (.tuple #[v, .int .i64 (preadF kind s).2.1, .int .i64 (preadF kind s).2.2]) ∧ Below w.heap.size w w' ∧ w'.ownsRow w.heap.size 25 4 v (preadF kind s).1.length (flatP (preadF kind s).1) ∧ (∀ p ∈ (preadF kind s).1, PrpOK p) := by
  have HF : Hid (preadF kind s = _) := Lib.hid (by unfold preadF; rfl)
  go_enter Try.func48, Try.ntmps48
  go_wp2_with fail
  refine (read_t s _ hs).mono ?_
  rintro e w1 ⟨rfl, hb⟩
  have HB1 := Lib.hid hb
  clear hb
  obtain ⟨⟨n0, n1⟩, z0, z1⟩ := viRead_bd s
  have z2 := viRead_sz s
  generalize (viRead s).1 = n at *
  generalize (viRead s).2.1 = z at *
  generalize (viRead s).2.2 = ze at *
  cases he : (ze != 0)
  case true =>
    have HE : Hid (preadF kind s = ([], 0, ze)) := Lib.hid (HF.out.trans (if_neg (by simpa using he)))
    go_wp2
    go_ret3
    exact ⟨_, by rw [HE.out]; rfl, HB1.out, by rw [HE.out]; exact World.ownsRow_nil _ _ _ _, by rw [HE.out]; intro q hq; cases hq⟩
  have HF2 := Lib.hid (HF.out.trans (if_pos (by simpa using he)))
  cases hl : decide ((s.size : Int) - z < n)
  case true =>
    have HE : Hid (preadF kind s = ([], 0, 3)) := Lib.hid (HF2.out.trans (if_pos hl))
    have hw : IntKind.i64.wrap ((s.size : Int) - z) = (s.size : Int) - z := IntWalk.i64_in _ ⟨by omega, by omega⟩
    clear HF HF2
    go_wp2
    go_ret3
    exact ⟨_, by rw [HE.out]; rfl, HB1.out, by rw [HE.out]; exact World.ownsRow_nil _ _ _ _, by rw [HE.out]; intro q hq; cases hq⟩
  have HF3 := Lib.hid (HF2.out.trans (if_neg (by rw [hl]; decide)))
  have hl2 : z + n ≤ (s.size : Int) := by simp at hl; omega
  have hw : IntKind.i64.wrap ((s.size : Int) - z) = (s.size : Int) - z := IntWalk.i64_in _ ⟨by omega, by omega⟩
  have hw2 : IntKind.i64.wrap (z + n) = z + n := IntWalk.i64_in _ ⟨by omega, by omega⟩
  have hle : z ≤ z + n := by omega
  have h0 : 0 ≤ z + n := by omega
  clear HF HF2
  go_wp2_with fail
  refine (list_t kind (s.extract z.toNat (z + n).toNat) _ (by rw [ByteArray.size_extract]; omega)).mono ?_
  rintro e w2 ⟨v, rfl, hb, hown, hok⟩
  have HX := Lib.hid (⟨hb, hown, hok⟩ : _ ∧ _ ∧ _)
  clear hb hown hok
  generalize listF kind (s.extract z.toNat (z + n).toNat) = r at *
  obtain ⟨l, e2⟩ := r
  simp only [] at HF3 HX ⊢
  cases he2 : (e2 != 0)
  case true =>
    have HE : Hid (preadF kind s = ([], 0, e2)) := Lib.hid (HF3.out.trans (if_neg (by simpa using he2)))
    clear HF3
    go_wp2
    go_ret3
    exact ⟨_, by rw [HE.out]; rfl, ext_then' HB1.out HX.out.1, by rw [HE.out]; exact World.ownsRow_nil _ _ _ _, by rw [HE.out]; intro q hq; cases hq⟩
  have HE : Hid (preadF kind s = (l, z + n, 0)) := Lib.hid (HF3.out.trans (if_pos (by simpa using he2)))
  clear HF3
  go_wp2
  go_ret3
  exact ⟨_, by rw [HE.out]; rfl, ext_then' HB1.out HX.out.1, by rw [HE.out]; exact own_mono HX.out.2.1 HB1.out.size, by rw [HE.out]; exact HX.out.2.2⟩
end Go.Proofs.Ytnbgmpfldoaodab
