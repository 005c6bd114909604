/- prop.Bytes in plain Lean: what it answers. -/
import Derived.Test.YtnbgmpfldoaodabValue
import Derived.Lib.AppendStr
namespace Go.Proofs.Ytnbgmpfldoaodab
open Go.RowKit
set_option maxHeartbeats 1000000
set_option linter.unusedVariables false
set_option linter.unusedSimpArgs false
theorem ruleIn_mem (id : Int) : ∀ (l : List (Int × Rule)) (r : Rule), ruleIn id l = some r → ∃ p ∈ l, p.1 = id ∧ p.2 = r
  | [], r, h => by simp [ruleIn] at h
  | p :: t, r, h => by
    by_cases e : id = p.1
    · have e' : (id == p.1) = true := by simpa using e
      rw [ruleIn, if_pos e'] at h
      simp only [Option.some.injEq] at h
      exact ⟨p, by simp, e.symm, h⟩
    · have e' : ¬ (id == p.1) = true := by simpa using e
      rw [ruleIn, if_neg e'] at h
      obtain ⟨q, hq, h1, h2⟩ := ruleIn_mem id t r h
      exact ⟨q, by simp [hq], h1, h2⟩
theorem ruleL_ok : ∀ p ∈ ruleL, 1 ≤ p.1 ∧ p.1 ≤ 42 ∧ 1 ≤ p.2.shape ∧ p.2.shape ≤ 7 ∧ (p.2.shape = 4 → p.2.most ≤ 268435455) ∧ 0 ≤ p.2.kinds ∧ p.2.kinds < 131072 := by
  simp only [ruleL, List.forall_mem_cons, List.not_mem_nil, false_implies, implies_true, and_true]
  repeat' apply And.intro
  all_goals (first | decide | simp)
theorem ruleOf_kinds (id : Int) : 0 ≤ (ruleOf id).kinds ∧ (ruleOf id).kinds < 131072 := by
  unfold ruleOf
  cases h : ruleIn id ruleL with
  | none => simp
  | some r =>
    obtain ⟨p, hp, _, rfl⟩ := ruleIn_mem id ruleL r h
    have := ruleL_ok p hp
    exact ⟨this.2.2.2.2.2.1, this.2.2.2.2.2.2⟩
theorem hasK_zero (kind : Int) : hasK ⟨0, 0, 0, 0⟩ kind = false := by
  unfold hasK
  split
  · rfl
  · split
    · rfl
    · simp; decide
theorem hasK_ok {id kind : Int} (h : hasK (ruleOf id) kind = true) : 1 ≤ id ∧ id ≤ 42 ∧ 1 ≤ (ruleOf id).shape ∧ (ruleOf id).shape ≤ 7 ∧ ((ruleOf id).shape = 4 → (ruleOf id).most ≤ 268435455) := by
  unfold ruleOf at h ⊢
  cases hr : ruleIn id ruleL with
  | none => rw [hr] at h; simp only [Option.getD_none] at h; rw [hasK_zero] at h; cases h
  | some r =>
    obtain ⟨p, hp, h1, rfl⟩ := ruleIn_mem id ruleL r hr
    have := ruleL_ok p hp
    subst h1
    exact ⟨this.1, this.2.1, this.2.2.1, this.2.2.2.1, this.2.2.2.2.1⟩
theorem validU_size {s : ByteArray} (h : validU s = true) : s.size ≤ 65535 := by
  simp only [validU, Bool.and_eq_true, decide_eq_true_eq] at h
  exact h.1
theorem check_ok {kind : Int} {p : Prp} (h : checkC (ruleOf p.id) kind p = 0) :
    1 ≤ p.id ∧ p.id ≤ 42 ∧ 1 ≤ (ruleOf p.id).shape ∧ (ruleOf p.id).shape ≤ 7 ∧ ((ruleOf p.id).shape = 4 → p.n ≤ 268435455) ∧ (5 ≤ (ruleOf p.id).shape → p.text.size ≤ 65535) ∧ ((ruleOf p.id).shape = 7 → p.value.size ≤ 65535) := by
  unfold checkC at h
  split at h
  · rename_i hk
    obtain ⟨a, b, c, d, e⟩ := hasK_ok hk
    refine ⟨a, b, c, d, ?_, ?_, ?_⟩
    · intro h4
      rw [if_pos (by omega)] at h
      unfold chknF at h
      have := e h4
      split at h
      · split at h
        · cases h
        · split at h
          · cases h
          · split at h
            · cases h
            · omega
      · cases h
    · intro h5
      rw [if_neg (by omega)] at h
      split at h
      · split at h
        · cases h
        · split at h
          · split at h
            · assumption
            · cases h
          · split at h
            · rename_i hv; exact validU_size hv
            · cases h
      · cases h
    · intro h7
      rw [if_neg (by omega)] at h
      split at h
      · split at h
        · cases h
        · rw [if_neg (by omega)] at h
          split at h
          · split at h
            · rename_i hv; exact validU_size hv
            · cases h
          · cases h
      · cases h
  · cases h
/-- The bytes of a text, as numbers. -/
def bytesN (s : ByteArray) : List Int := s.data.toList.map fun b => (b.toNat : Int)
theorem bytesN_len (s : ByteArray) : (bytesN s).length = s.size := by
  rw [bytesN, List.length_map, Array.length_toList]
  rfl
theorem strCells_bytesN (s : ByteArray) : Lib.strCells s = (bytesN s).map (Value.int .u8) := by
  unfold bytesN
  rw [List.map_map]
  rfl
theorem viL_len : ∀ (f : Nat) (n : Int), (viL f n).length ≤ f + 1
  | 0, n => by simp [viL]
  | f + 1, n => by
    rw [viL]
    split
    · have := viL_len f (n / 128); simp only [List.length_cons]; omega
    · simp
theorem viS_le (n : Int) : (viS n).size ≤ 4 := by
  rw [viS, strOfNums_size]
  exact viL_len 3 n
theorem valueS_size {kind : Int} {p : Prp} (h : checkC (ruleOf p.id) kind p = 0) : (valueS (ruleOf p.id).shape p).size ≤ 131074 := by
  obtain ⟨_, _, h1, h2, h3, h4, h5⟩ := check_ok h
  unfold valueS
  split
  · simp [be1, strOfNums_size]
  · split
    · simp [be2, strOfNums_size]
    · split
      · simp [be4, strOfNums_size]
      · split
        · have := viS_le p.n; omega
        · split
          · rename_i h7
            rw [ByteArray.size_append, framedS_size, framedS_size]
            have := h4 (by omega); have := h5 h7; omega
          · rw [framedS_size]
            have := h4 (by omega); omega
/-- prop.Bytes from some property on. -/
def bytesGo (kind : Int) : List Prp → (Nat → Int) → List Int → ByteArray × Int
  | [], f, out => if loneB f = true then (⟨#[]⟩, 9) else (viS out.length ++ strOfNums out, 0)
  | p :: t, f, out =>
    if checkC (ruleOf p.id) kind p = 0 then
      (if againB kind p.id (f p.id.toNat) = true then (⟨#[]⟩, 9)
       else bytesGo kind t (fun j => if j = p.id.toNat then f p.id.toNat + 1 else f j) ((out ++ [p.id]) ++ bytesN (valueS (ruleOf p.id).shape p)))
    else (⟨#[]⟩, checkC (ruleOf p.id) kind p)
def bytesF (kind : Int) (l : List Prp) : ByteArray × Int := if l.length ≤ 1000 then bytesGo kind l (fun _ => 0) [] else (⟨#[]⟩, 4)
/-- A property that can be. -/
def PrpOK (p : Prp) : Prop := 0 ≤ p.n ∧ p.n < 4294967296 ∧ p.text.size ≤ 140737488351232 ∧ p.value.size ≤ 140737488351232
def PrpAt (w : World) (b o : Nat) (p : Prp) : Prop := w.cell? ⟨b, o, none⟩ = some (.int .i64 p.id) ∧ w.cell? ⟨b, o + 1, none⟩ = some (.int .u32 p.n) ∧ w.cell? ⟨b, o + 2, none⟩ = some (.string p.text) ∧ w.cell? ⟨b, o + 3, none⟩ = some (.string p.value)
/-- A slice of properties that is read. -/
def RP (w : World) (A : Option Addr) (n : Nat) (l : List Prp) : Prop :=
  l.length = n ∧ n ≤ 9223372036854775807 ∧ (∀ p ∈ l, PrpOK p) ∧ (0 < n → ∃ b off, A = some ⟨b, off, none⟩ ∧ b < w.heap.size ∧ ∀ j p, l[j]? = some p → PrpAt w b (off + j * 4) p)
theorem PrpAt.below {w w1 : World} {b o : Nat} {p : Prp} (h : PrpAt w b o p) (hb : Below w.heap.size w w1) (hlt : b < w.heap.size) : PrpAt w1 b o p :=
  ⟨(hb.cell (p := ⟨b, o, none⟩) hlt).trans h.1, (hb.cell (p := ⟨b, o + 1, none⟩) hlt).trans h.2.1, (hb.cell (p := ⟨b, o + 2, none⟩) hlt).trans h.2.2.1, (hb.cell (p := ⟨b, o + 3, none⟩) hlt).trans h.2.2.2⟩
theorem RP.below {w w1 : World} {A : Option Addr} {n : Nat} {l : List Prp} (h : RP w A n l) (hb : Below w.heap.size w w1) : RP w1 A n l :=
  ⟨h.1, h.2.1, h.2.2.1, fun hn => by
    obtain ⟨b, off, e, hlt, hc⟩ := h.2.2.2 hn
    exact ⟨b, off, e, Nat.lt_of_lt_of_le hlt hb.size, fun j p hp => (hc j p hp).below hb hlt⟩⟩
end Go.Proofs.Ytnbgmpfldoaodab
