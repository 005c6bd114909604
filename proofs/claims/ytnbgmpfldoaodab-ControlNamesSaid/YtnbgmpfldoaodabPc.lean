/- A packet and a cursor, both at work; a list that was read. -/
import Derived.Test.YtnbgmpfldoaodabPRead
import Derived.RegionTactic
import Derived.Deep.RegionHeld3
namespace Go.Proofs.Ytnbgmpfldoaodab
open Go.RowKit Go.Sort
set_option maxHeartbeats 2000000
set_option linter.unusedVariables false
set_option linter.unusedSimpArgs false
structure PcAt (w : World) (P g : Nat) (p : Pk) (c : Cu) : Prop where
  pk : w.heap[P]? = some (.cells (packC p) 35 (0, 0))
  cu : CurAt w g c
  ne : P ≠ g
theorem pc_cur {w w' : World} {P g : Nat} {p : Pk} {c c' : Cu} (h : PcAt w P g p c) (hc : CurAt w' g c') (hg : w.grownBy w' (some g)) : PcAt w' P g p c' :=
  ⟨by rw [hg.block P (Array.getElem?_eq_some_iff.1 h.pk).1 (fun e => h.ne (by simpa using e))]; exact h.pk, hc, h.ne⟩
theorem pc_below {w w' : World} {P g : Nat} {p : Pk} {c : Cu} (h : PcAt w P g p c) (hb : Below w.heap.size w w') : PcAt w' P g p c :=
  ⟨row_then h.pk hb, cur_below h.cu hb, h.ne⟩
theorem pc_pk {w w' : World} {P g : Nat} {p p' : Pk} {c : Cu} (h : PcAt w P g p c) (hp : w'.heap[P]? = some (.cells (packC p') 35 (0, 0))) (hg : w.grownBy w' (some P)) : PcAt w' P g p' c :=
  ⟨hp, by unfold CurAt; rw [hg.block g (Array.getElem?_eq_some_iff.1 h.cu).1 (fun e => h.ne (by simp only [Option.some.injEq] at e; exact e.symm))]; exact h.cu, h.ne⟩
theorem flatP_at : ∀ (l : List Prp) (j : Nat) (p : Prp), l[j]? = some p → ∀ i, i < 4 → (flatP l)[j * 4 + i]? = (prpC p)[i]?
  | a :: t, 0, p, h, i, hi => by
    simp only [List.getElem?_cons_zero, Option.some.injEq] at h
    subst h
    rw [flatP, List.getElem?_append_left (by show 0 * 4 + i < 4; omega)]
    congr 1; omega
  | a :: t, j + 1, p, h, i, hi => by
    have h' : t[j]? = some p := by simpa using h
    rw [flatP, List.getElem?_append_right (by show 4 ≤ (j + 1) * 4 + i; omega), ← flatP_at t j p h' i hi]
    congr 1
    show (j + 1) * 4 + i - 4 = j * 4 + i
    omega
theorem own_RP {w : World} {base : Nat} {v : Value} {l : List Prp} (h : w.ownsRow base 25 4 v l.length (flatP l)) (hok : ∀ p ∈ l, PrpOK p) :
    ∃ A n c, v = .slice A n c ∧ n = l.length ∧ RP w A n l := by
  rcases h.2 with ⟨rfl, h0⟩ | ⟨g, cap, cur, rfl, h2, h3, h4, h5, h6, h7⟩
  · exact ⟨_, _, _, rfl, h0.symm, by rw [h0], by decide, hok, fun hn => absurd hn (by decide)⟩
  · refine ⟨_, _, _, rfl, rfl, rfl, Nat.le_trans h4 (Nat.le_trans h5 (by unfold maxLen; decide)), hok, fun _ => ⟨g, 0, rfl, (Array.getElem?_eq_some_iff.1 h3).1, ?_⟩⟩
    intro j p hj
    have hlt : j < l.length := (List.getElem?_eq_some_iff.1 hj).1
    have key : ∀ i, i < 4 → w.cell? ⟨g, 0 + j * 4 + i, none⟩ = (prpC p)[i]? := by
      intro i hi
      rw [cell_of_row _ _ _ _ _ _ h3, ← flatP_at l j p hj i hi, ← h7, List.getElem?_take_of_lt (by omega), Array.getElem?_toList]
      congr 1; omega
    exact ⟨key 0 (by decide), key 1 (by decide), key 2 (by decide), key 3 (by decide)⟩
def LsAt (w : World) (B : Nat) (s : Sl) (l : List Prp) : Prop := w.ownsRow B 25 4 (.slice s.A s.n s.c) l.length (flatP l) ∧ ∀ p ∈ l, PrpOK p
theorem ls_RP {w : World} {B : Nat} {s : Sl} {l : List Prp} (h : LsAt w B s l) : s.n = l.length ∧ RP w s.A s.n l := by
  obtain ⟨A, n, c, e, hn, hr⟩ := own_RP h.1 h.2
  injection e with e1 e2 e3
  rw [e1, e2]
  exact ⟨hn, hr⟩
theorem ls_two {w w' : World} {B P g : Nat} {s : Sl} {l : List Prp} (h : LsAt w B s l) (hb : TwoBy P g w w') (hP : P < B) (hg : g < B) : LsAt w' B s l :=
  ⟨own_two h.1 (fun i hi hB => hb.block i hi (by omega) (by omega)), h.2⟩
theorem ls_below {w w' : World} {B : Nat} {s : Sl} {l : List Prp} (h : LsAt w B s l) (hb : Below w.heap.size w w') : LsAt w' B s l :=
  ⟨own_two h.1 (fun i hi hB => hb.block i hi), h.2⟩
theorem ls_mono {w : World} {B B' : Nat} {s : Sl} {l : List Prp} (h : LsAt w B s l) (hb : B' ≤ B) : LsAt w B' s l := by
  refine ⟨?_, h.2⟩
  refine ⟨h.1.1, ?_⟩
  rcases h.1.2 with h0 | ⟨g, cap, cur, h1, h2, h3⟩
  · exact .inl h0
  · exact .inr ⟨g, cap, cur, h1, by omega, h3⟩
def nilS : Sl := ⟨none, 0, 0⟩
theorem ls_nil (w : World) (B : Nat) : LsAt w B nilS [] := ⟨World.ownsRow_nil _ _ _ _, by intro q hq; cases hq⟩
theorem ls_of {w : World} {B : Nat} {v : Value} {l : List Prp} (h : w.ownsRow B 25 4 v l.length (flatP l)) (hok : ∀ p ∈ l, PrpOK p) : ∃ s : Sl, v = .slice s.A s.n s.c ∧ s.n = l.length ∧ LsAt w B s l := by
  obtain ⟨A, n, c, rfl, hn, -⟩ := own_RP h hok
  exact ⟨⟨A, n, c⟩, rfl, hn, h, hok⟩
end Go.Proofs.Ytnbgmpfldoaodab
