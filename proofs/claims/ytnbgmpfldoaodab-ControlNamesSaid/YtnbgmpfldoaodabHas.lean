/- 'has' and 'May': whether a code is one of the words', and of a kind's; the words are the document's lists. -/
import Derived.Test.YtnbgmpfldoaodabCodes
namespace Go.Proofs.Ytnbgmpfldoaodab
open Go.RowKit
set_option maxHeartbeats 400000
def W4.word (t : W4) (x : Int) : Int := if x / 64 = 0 then t.a else if x / 64 = 1 then t.b else if x / 64 = 2 then t.c else t.d
def W4.has (t : W4) (x : Int) : Bool := if x < 0 then false else if 256 ≤ x then false else bits .and .u64 (t.word x / 2 ^ (x % 64).toNat) 1 == 1
set_option maxRecDepth 100000 in
theorem has_t (t : W4) (x : Int) (w : World) :
    Calls Try.prog 52 #[.agg #[.int .u64 t.a, .int .u64 t.b, .int .u64 t.c, .int .u64 t.d], .int .i64 x] w fun e w' => e = .returned (.bool (t.has x)) ∧ Below w.heap.size w w' := by
  by_cases h0 : x < 0
  · have HE : Hid (t.has x = false) := Lib.hid (by simp [W4.has, h0])
    have hh : decide (0 ≤ x) = false := by simp; omega
    go_enter Try.func52, Try.ntmps52
    go_wp2
    go_ret
    exact ⟨by rw [HE.out]; rfl, (Below.refl _ _).alloc (Nat.le_refl _) _⟩
  by_cases h1 : 256 ≤ x
  · have HE : Hid (t.has x = false) := Lib.hid (by simp [W4.has, h0, h1])
    have hh : decide (x < 256) = false := by simp; omega
    go_enter Try.func52, Try.ntmps52
    go_wp2
    go_ret
    exact ⟨by rw [HE.out]; rfl, (Below.refl _ _).alloc (Nat.le_refl _) _⟩
  have g0 : 0 ≤ x := by omega
  have g1 : x < 256 := by omega
  have hq : x / 64 = 0 ∨ x / 64 = 1 ∨ x / 64 = 2 ∨ x / 64 = 3 := by omega
  rcases hq with hq | hq | hq | hq
  · have HE : Hid (t.has x = (bits .and .u64 (t.a / 2 ^ (x % 64).toNat) 1 == 1)) := Lib.hid (by simp [W4.has, W4.word, h0, h1, hq])
    clear h0 h1
    go_enter Try.func52, Try.ntmps52
    go_wp2
    go_ret
    exact ⟨by rw [HE.out]; rfl, (Below.refl _ _).alloc (Nat.le_refl _) _⟩
  · have HE : Hid (t.has x = (bits .and .u64 (t.b / 2 ^ (x % 64).toNat) 1 == 1)) := Lib.hid (by simp [W4.has, W4.word, h0, h1, hq])
    clear h0 h1
    go_enter Try.func52, Try.ntmps52
    go_wp2
    go_ret
    exact ⟨by rw [HE.out]; rfl, (Below.refl _ _).alloc (Nat.le_refl _) _⟩
  · have HE : Hid (t.has x = (bits .and .u64 (t.c / 2 ^ (x % 64).toNat) 1 == 1)) := Lib.hid (by simp [W4.has, W4.word, h0, h1, hq])
    clear h0 h1
    go_enter Try.func52, Try.ntmps52
    go_wp2
    go_ret
    exact ⟨by rw [HE.out]; rfl, (Below.refl _ _).alloc (Nat.le_refl _) _⟩
  · have HE : Hid (t.has x = (bits .and .u64 (t.d / 2 ^ (x % 64).toNat) 1 == 1)) := Lib.hid (by simp [W4.has, W4.word, h0, h1, hq])
    clear h0 h1
    go_enter Try.func52, Try.ntmps52
    go_wp2
    go_ret
    exact ⟨by rw [HE.out]; rfl, (Below.refl _ _).alloc (Nat.le_refl _) _⟩
/-- The document's lists. -/
def codesL (kind : Int) : List Int :=
  if kind = 2 then [0, 128, 129, 130, 131, 132, 133, 134, 135, 136, 137, 138, 140, 144, 149, 151, 153, 154, 155, 156, 157, 159]
  else if kind = 4 ∨ kind = 5 then [0, 16, 128, 131, 135, 144, 145, 151, 153]
  else if kind = 6 ∨ kind = 7 then [0, 146]
  else if kind = 9 then [0, 1, 2, 128, 131, 135, 143, 145, 151, 158, 161, 162]
  else if kind = 11 then [0, 17, 128, 131, 135, 143, 145]
  else if kind = 14 then [0, 4, 128, 129, 130, 131, 135, 137, 139, 141, 142, 143, 144, 147, 148, 149, 150, 151, 152, 153, 154, 155, 156, 157, 158, 159, 160, 161, 162]
  else if kind = 15 then [0, 24, 25]
  else []
def mayB (kind code : Int) : Bool := (codesL kind).contains code
theorem codesL_range (kind : Int) : ∀ c ∈ codesL kind, 0 ≤ c ∧ c < 256 := by
  unfold codesL
  repeat (first | split | decide)
theorem has_all (t : W4) (l : List Int) (hl : ∀ c ∈ l, 0 ≤ c ∧ c < 256) (h : ∀ n : Nat, n < 256 → t.has n = l.contains (n : Int)) (x : Int) : t.has x = l.contains x := by
  by_cases h0 : x < 0
  · have : l.contains x = false := by
      cases e : l.contains x with
      | false => rfl
      | true => have := hl x (by simpa using e); omega
    rw [this]; simp [W4.has, h0]
  by_cases h1 : 256 ≤ x
  · have : l.contains x = false := by
      cases e : l.contains x with
      | false => rfl
      | true => have := hl x (by simpa using e); omega
    rw [this]; simp [W4.has, h0, h1]
  obtain ⟨n, rfl⟩ := Int.eq_ofNat_of_zero_le (show 0 ≤ x by omega)
  exact h n (by omega)
theorem codes_has (kind x : Int) : (codesW kind).has x = mayB kind x := by
  unfold mayB
  have hl := codesL_range kind
  by_cases h2 : kind = 2
  · subst h2; exact has_all _ _ hl (by decide +kernel) x
  by_cases h4 : kind = 4
  · subst h4; exact has_all _ _ hl (by decide +kernel) x
  by_cases h5 : kind = 5
  · subst h5; exact has_all _ _ hl (by decide +kernel) x
  by_cases h6 : kind = 6
  · subst h6; exact has_all _ _ hl (by decide +kernel) x
  by_cases h7 : kind = 7
  · subst h7; exact has_all _ _ hl (by decide +kernel) x
  by_cases h9 : kind = 9
  · subst h9; exact has_all _ _ hl (by decide +kernel) x
  by_cases h11 : kind = 11
  · subst h11; exact has_all _ _ hl (by decide +kernel) x
  by_cases h14 : kind = 14
  · subst h14; exact has_all _ _ hl (by decide +kernel) x
  by_cases h15 : kind = 15
  · subst h15; exact has_all _ _ hl (by decide +kernel) x
  have e1 : codesW kind = ⟨0, 0, 0, 0⟩ := by simp [codesW, h2, h4, h5, h6, h7, h9, h11, h14, h15]
  have e2 : codesL kind = [] := by simp [codesL, h2, h4, h5, h6, h7, h9, h11, h14, h15]
  rw [e1, e2]
  exact has_all _ _ (by simp) (by decide +kernel) x
theorem may_t (kind code : Int) (w : World) :
    Calls Try.prog 33 #[.int .i64 kind, .int .i64 code] w fun e w' => e = .returned (.bool (mayB kind code)) ∧ Below w.heap.size w w' := by
  have HE := Lib.hid (codes_has kind code)
  go_enter Try.func33, Try.ntmps33
  go_wp2_with fail
  refine (codes_t kind _).mono ?_
  rintro e w1 ⟨rfl, hb1⟩
  go_wp2_with fail
  refine (has_t (codesW kind) code _).mono ?_
  rintro e w2 ⟨rfl, hb2⟩
  rw [HE.out]
  go_wp2
  go_ret
  exact ⟨rfl, below_then hb1 hb1.size hb2⟩
end Go.Proofs.Ytnbgmpfldoaodab
