/- prop.seen: properties are counted by their ids. -/
import Derived.Test.YtnbgmpfldoaodabCheck
import Derived.RegionTactic
import Derived.ChangeAlike
import Derived.BigRegion
namespace Go.Proofs.Ytnbgmpfldoaodab
open Go.RowKit
set_option maxHeartbeats 1000000
set_option linter.unusedVariables false
set_option linter.unusedSimpArgs false
/-- 64 counts. -/
def cnts (f : Nat → Int) : Array Value := ((List.range 64).map fun i => Value.int .i64 (f i)).toArray
theorem cnts_at (f : Nat → Int) (i : Nat) (h : i < 64) : (cnts f)[i]? = some (.int .i64 (f i)) := by simp [cnts, h]
theorem cnts_set (f : Nat → Int) (i : Nat) (v : Int) : (cnts f).setIfInBounds i (.int .i64 v) = cnts (fun j => if j = i then v else f j) := by
  apply Array.ext_getElem?
  intro j
  rw [Array.getElem?_setIfInBounds]
  by_cases hj : i = j
  · subst hj
    by_cases h : i < 64
    · simp [cnts, h]
    · simp [cnts, h]
  · have hj' : ¬ j = i := fun e => hj e.symm
    by_cases h : j < 64
    · simp [cnts, h, hj, hj']
    · simp [cnts, h, hj]
def Seen (w : World) (S : Nat) (f : Nat → Int) : Prop := w.heap[S]? = some (.cells (cnts f) 76 (0, 0))
theorem Seen.cell {w : World} {S : Nat} {f : Nat → Int} (h : Seen w S f) (i : Nat) (hi : i < 64) : w.cell? ⟨S, i, none⟩ = some (.int .i64 (f i)) := by
  rw [cell_of_row _ _ _ _ _ _ h]; exact cnts_at f i hi
theorem Seen.below {w w1 : World} {S : Nat} {f : Nat → Int} (h : Seen w S f) (hb : Below w.heap.size w w1) : Seen w1 S f := by
  unfold Seen; rw [hb.block _ (Array.getElem?_eq_some_iff.1 h).1]; exact h
def againB (kind id : Int) (c : Int) : Bool := decide (1 < c + 1) && !oftenB kind id
theorem seen_set {w : World} {S : Nat} {f : Nat → Int} (h : Seen w S f) (i : Nat) (v : Int) : Seen (w.setCell ⟨S, i, none⟩ (.int .i64 v)) S (fun j => if j = i then v else f j) := by
  unfold Seen
  rw [heap_setCell_same _ _ _ _ _ _ h, cnts_set]
theorem grown_set (w : World) (S i : Nat) (v : Value) : w.grownBy (w.setCell ⟨S, i, none⟩ v) (some S) :=
  ⟨rfl, rfl, rfl, by simp, fun k _ hk => heap_setCell_other _ _ _ _ (fun e => hk (by rw [e]))⟩
theorem grown_drew {w w1 : World} {r : Option Nat} (h : w.grownBy w1 r) : w.grownBy w1.drew r := ⟨h.os, h.tape, h.output, h.size, h.block⟩
set_option maxRecDepth 100000 in
theorem again_t (S : Nat) (kind id : Int) (f : Nat → Int) (w : World) (h0 : 0 ≤ id) (h1 : id < 64) (hS : Seen w S f) (hf0 : 0 ≤ f id.toNat) (hf1 : f id.toNat ≤ 1000000) :
    Calls Try.prog 42 #[.pointer (some ⟨S, 0, none⟩), .int .i64 kind, .int .i64 id] w fun e w' => e = .returned (.bool (againB kind id (f id.toNat))) ∧ Seen w' S (fun j => if j = id.toNat then f id.toNat + 1 else f j) ∧ w.grownBy w' (some S) := by
  have c0 := hS.cell id.toNat (by omega)
  have f0 : w.frozen? ⟨S, id.toNat, none⟩ = false := frozen_of_row _ _ _ _ _ hS
  have HS := Lib.hid (seen_set hS id.toNat (f id.toNat + 1))
  have HG := Lib.hid (grown_set w S id.toNat (.int .i64 (f id.toNat + 1)))
  have HE : Hid (againB kind id (f id.toNat) = (decide (1 < f id.toNat + 1) && !oftenB kind id)) := Lib.hid rfl
  clear hS
  generalize f id.toNat = c at *
  by_cases hc : 1 < c + 1
  · go_enter Try.func42, Try.ntmps42
    go_wp2
    go_region
    go_wp2_with fail
    refine (often_t kind id _).mono ?_
    rintro e w1 ⟨rfl, rfl⟩
    have hd : decide (1 < c + 1) = true := by simpa using hc
    rw [hd] at HE
    generalize oftenB kind id = ob at *
    have HF : Hid (againB kind id c = !ob) := Lib.hid (by rw [HE.out]; rfl)
    go_wp2
    go_ret
    exact ⟨by rw [HF.out]; rfl, HS.out, grown_drew HG.out⟩
  · have hd : decide (1 < c + 1) = false := by simpa using hc
    rw [hd] at HE
    have HF : Hid (againB kind id c = false) := Lib.hid (by rw [HE.out]; rfl)
    clear hc
    go_enter Try.func42, Try.ntmps42
    go_wp2
    go_region
    go_wp2
    go_ret
    exact ⟨by rw [HF.out]; rfl, HS.out, grown_drew HG.out⟩
def loneB (f : Nat → Int) : Bool := decide (0 < f 22) && f 21 == 0
set_option maxRecDepth 100000 in
theorem lone_t (S : Nat) (f : Nat → Int) (w : World) (hS : Seen w S f) : Calls Try.prog 44 #[.pointer (some ⟨S, 0, none⟩)] w fun e w' => e = .returned (.bool (loneB f)) ∧ w = w' := by
  have c0 := hS.cell 22 (by omega)
  have c1 := hS.cell 21 (by omega)
  have HE : Hid (loneB f = (decide (0 < f 22) && f 21 == 0)) := Lib.hid rfl
  clear hS
  generalize f 22 = a at *
  generalize f 21 = b at *
  by_cases h : 0 < a
  · have hd : decide (0 < a) = true := by simpa using h
    have HF : Hid (loneB f = (b == 0)) := Lib.hid (by rw [HE.out, hd]; rfl)
    clear HE
    go_enter Try.func44, Try.ntmps44
    go_wp2
    go_ret
    exact ⟨by rw [HF.out]; rfl, rfl⟩
  · have hd : decide (0 < a) = false := by simpa using h
    have HF : Hid (loneB f = false) := Lib.hid (by rw [HE.out, hd]; rfl)
    clear HE h
    go_enter Try.func44, Try.ntmps44
    go_wp2
    go_ret
    exact ⟨by rw [HF.out]; rfl, rfl⟩
end Go.Proofs.Ytnbgmpfldoaodab
