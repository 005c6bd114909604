/- A packet among a law's arguments: what it reads as. -/
import Derived.Test.YtnbgmpfldoaodabPack
import Derived.OpenShut
import Derived.Deep.Slices
import Derived.SizedLaws
import Derived.ChangeArms
import Derived.WideShapes
namespace Go.Proofs.Ytnbgmpfldoaodab
open Go.RowKit Go.Sort Go.WideShapes Go.Deep
set_option maxHeartbeats 2000000
set_option linter.unusedVariables false
set_option linter.unusedSimpArgs false
section
variable {H : Type} {enc : TypeId × Value → H} {w : World} {base : Nat} {spare : Nat → Bool} {held : Bool}
/-- No part of a datum is too large. -/
def Wt (d : DataW H) (t : TypeId) : Prop := ∀ n ∈ d.weights Try.prog t, n ≤ reachBytes
theorem fld {fs : Array Field} {L : Array (TypeId × Nat)} (h : fs.map (fun f => (f.type, f.offset)) = L) (i : Nat) (t : TypeId) (o : Nat) (hL : L[i]? = some (t, o)) : ∃ f, fs[i]? = some f ∧ f.type = t ∧ f.offset = o := by
  subst h
  rw [Array.getElem?_map] at hL
  cases hf : fs[i]? with
  | none => simp [hf] at hL
  | some f => rw [hf] at hL; simp at hL; exact ⟨f, rfl, hL.1, hL.2⟩
theorem fld_trod {T : TypeId} {fs : Array Field} {L : Array (TypeId × Nat)} {cs : List Value} {x : DataW H × List MemPlace} {m : Nat} (ht : Try.prog.underlying T = some (.struct fs)) (hL : fs.map (fun f => (f.type, f.offset)) = L)
    (h : DataW.trod enc Try.prog w base spare held m T cs = some x) (hw : Wt x.1 T) (i : Nat) (t : TypeId) (o : Nat) (hi : L[i]? = some (t, o)) :
    ∃ y n, DataW.trod enc Try.prog w base spare held n t ((cs.drop o).take (Try.prog.cellsOf t)) = some y ∧ Wt y.1 t := by
  obtain ⟨xs, n, _, rfl, hl, hlen, hf⟩ := DataW.trod_struct ht h
  obtain ⟨f, hfi, rfl, rfl⟩ := fld hL i t o hi
  have hlt : i < fs.size := by
    rcases Nat.lt_or_ge i fs.size with h | h
    · exact h
    · rw [Array.getElem?_eq_none h] at hfi; cases hfi
  have h1 := hf i f hfi
  rw [List.getElem?_eq_getElem (by omega)] at h1
  refine ⟨_, n, h1, ?_⟩
  intro k hk
  refine hw k ?_
  simp only [DataW.weights, ht]
  exact DataW.weights_mem_each (j := i) (t := f.type) (d := (xs[i]'(by omega)).1) (by rw [List.getElem?_map, Array.getElem?_toList, hfi]; rfl) (by rw [List.getElem?_map, List.getElem?_eq_getElem (by omega)]; rfl) k hk
theorem open_i {t : TypeId} {k : IntKind} {cs : List Value} {m : Nat} {y : DataW H × List MemPlace} (ht : Try.prog.underlying t = some (.int k)) (h : DataW.trod enc Try.prog w base spare held m t cs = some y) : ∃ n, cs = [.int k n] ∧ (Lit.int k n).wf = true := by
  obtain ⟨n, h1, _, h2⟩ := DataW.trod_int ht h
  exact ⟨n, h1, h2⟩
theorem open_b {t : TypeId} {cs : List Value} {m : Nat} {y : DataW H × List MemPlace} (ht : Try.prog.underlying t = some .bool) (h : DataW.trod enc Try.prog w base spare held m t cs = some y) : ∃ b, cs = [.bool b] := by
  obtain ⟨n, h1, _⟩ := DataW.trod_bool ht h
  exact ⟨n, h1⟩
theorem open_s {t : TypeId} {cs : List Value} {m : Nat} {y : DataW H × List MemPlace} (ht : Try.prog.underlying t = some .string) (h : DataW.trod enc Try.prog w base spare held m t cs = some y) (hw : Wt y.1 t) : ∃ s : ByteArray, cs = [.string s] ∧ s.size ≤ 140737488351232 := by
  obtain ⟨s, h1, rfl, _⟩ := DataW.trod_string ht h
  refine ⟨s, h1, ?_⟩
  have := hw s.data.toList.length (by simp [DataW.weights])
  rw [Array.length_toList] at this
  exact this
theorem wt_all {e : TypeId} : ∀ {ds : List (DataW H)} {d : DataW H}, d ∈ ds → ∀ n ∈ d.weights Try.prog e, n ∈ DataW.weightsAll Try.prog e ds
  | a :: r, d, h, n, hn => by
    simp only [DataW.weightsAll, List.mem_append]
    rcases List.mem_cons.1 h with rfl | h
    · exact .inl hn
    · exact .inr (wt_all h n hn)
/-- What a slice's elements are. -/
def SlAt (enc : TypeId × Value → H) (w : World) (base : Nat) (spare : Nat → Bool) (held : Bool) (e : TypeId) (A : Option Addr) (n : Nat) : Prop :=
  n ≤ 140737488351232 ∧ (0 < n → ∃ b off, A = some ⟨b, off, none⟩ ∧ b < w.heap.size ∧ ∀ i, i < n → ∃ (cs : List Value) (m : Nat) (y : DataW H × List MemPlace), cs.length = Try.prog.cellsOf e ∧ (∀ j v, cs[j]? = some v → w.cell? ⟨b, off + i * Try.prog.cellsOf e + j, none⟩ = some v) ∧ DataW.trod enc Try.prog w base spare held m e cs = some y ∧ Wt y.1 e)
theorem cells_get {a : Addr} {n : Nat} {cs : List Value} (h : w.cells? base a n = some cs) : cs.length = n ∧ ∀ j v, cs[j]? = some v → w.cell? (a.add j) = some v := by
  unfold World.cells? at h
  split at h
  · have hl := mapM_some_length h
    refine ⟨by simpa using hl, fun j v hj => ?_⟩
    have hlt : j < n := by
      have : j < cs.length := by
        rcases Nat.lt_or_ge j cs.length with h | h
        · exact h
        · rw [List.getElem?_eq_none h] at hj; cases hj
      simp at hl; omega
    have := mapM_some_get h j j (by simp [hlt])
    rw [this, hj]
  · cases h
theorem add_at (b off k : Nat) : (⟨b, off, none⟩ : Addr).add k = ⟨b, off + k, none⟩ := by unfold Addr.add; split <;> simp_all
theorem open_sl {t e : TypeId} {cs : List Value} {m : Nat} {y : DataW H × List MemPlace} (ht : Try.prog.underlying t = some (.slice e)) (he : 0 < Try.prog.cellsOf e) (hy : 0 < Try.prog.bytesOf e) (h : DataW.trod enc Try.prog w base spare held m t cs = some y) (hw : Wt y.1 t) :
    ∃ A n c, cs = [.slice A n c] ∧ SlAt enc w base spare held e A n := by
  rcases open_slice ht h with ⟨rfl, rfl⟩ | ⟨a, len, cap, m', k, D, Pl, rfl, hb, hl, hm, hm', rfl, hel⟩
  · exact ⟨none, 0, 0, rfl, by omega, fun h => absurd h (by omega)⟩
  · have hlen : len ≤ 140737488351232 := by
      have h1 := hw ((((List.range len).map D).length + ((List.range (m' - len)).map fun j => D (len + j)).length) * Try.prog.bytesOf e) (by simp only [DataW.weights, ht]; exact List.mem_cons_self)
      have h2 : len ≤ (((List.range len).map D).length + ((List.range (m' - len)).map fun j => D (len + j)).length) * Try.prog.bytesOf e := by
        rw [List.length_map, List.length_range]
        exact Nat.le_trans (Nat.le_add_right _ _) (Nat.le_mul_of_pos_right _ hy)
      exact Nat.le_trans h2 h1
    refine ⟨some a, len, cap, rfl, hlen, fun hpos => ?_⟩
    have hle : len ≤ m' := by rw [hm']; split <;> omega
    obtain ⟨b, off, spot⟩ := a
    obtain ⟨cs0, h0, _⟩ := hel 0 (by omega)
    obtain ⟨l0, g0⟩ := cells_get h0
    obtain ⟨v0, hv0⟩ : ∃ v, cs0[0]? = some v := ⟨cs0[0]'(by omega), List.getElem?_eq_getElem (by omega)⟩
    have g00 := g0 0 v0 hv0
    have hspot : spot = none := by simpa [Addr.add] using World.cell?_spot g00
    subst hspot
    have hblt : b < w.heap.size := by
      simp only [Nat.zero_mul, add_at, Nat.add_zero] at g00
      unfold World.cell? at g00
      rcases Nat.lt_or_ge b w.heap.size with h | h
      · exact h
      · rw [Array.getElem?_eq_none h] at g00; simp at g00
    refine ⟨b, off, rfl, hblt, fun i hi => ?_⟩
    obtain ⟨csi, hci, hti⟩ := hel i (by omega)
    obtain ⟨li, gi⟩ := cells_get hci
    refine ⟨csi, k, _, li, fun j v hj => ?_, hti, ?_⟩
    · have := gi j v hj
      rw [add_at, add_at] at this
      exact this
    · intro n hn
      refine hw n ?_
      simp only [DataW.weights, ht]
      refine List.mem_cons_of_mem _ (List.mem_append_left _ (wt_all (d := D i) ?_ n hn))
      exact List.mem_map.2 ⟨i, by simpa using hi, rfl⟩
end
structure Flt where
  topic : ByteArray
  qos : Int
  noLocal : Bool
  asPub : Bool
  handling : Int
instance : Inhabited Flt := ⟨⟨⟨#[]⟩, 0, false, false, 0⟩⟩
def FltAt (w : World) (b o : Nat) (p : Flt) : Prop := w.cell? ⟨b, o, none⟩ = some (.string p.topic) ∧ w.cell? ⟨b, o + 1, none⟩ = some (.int .i64 p.qos) ∧ w.cell? ⟨b, o + 2, none⟩ = some (.bool p.noLocal) ∧ w.cell? ⟨b, o + 3, none⟩ = some (.bool p.asPub) ∧ w.cell? ⟨b, o + 4, none⟩ = some (.int .i64 p.handling)
theorem FltAt.below {w w1 : World} {b o : Nat} {p : Flt} (h : FltAt w b o p) (hb : Below w.heap.size w w1) (hlt : b < w.heap.size) : FltAt w1 b o p :=
  ⟨(hb.cell (p := ⟨b, o, none⟩) hlt).trans h.1, (hb.cell (p := ⟨b, o + 1, none⟩) hlt).trans h.2.1, (hb.cell (p := ⟨b, o + 2, none⟩) hlt).trans h.2.2.1, (hb.cell (p := ⟨b, o + 3, none⟩) hlt).trans h.2.2.2.1, (hb.cell (p := ⟨b, o + 4, none⟩) hlt).trans h.2.2.2.2⟩
/-- A slice of filters that is read. -/
def RF (w : World) (A : Option Addr) (n : Nat) (l : List Flt) : Prop :=
  l.length = n ∧ n ≤ 9223372036854775807 ∧ (∀ p ∈ l, p.topic.size ≤ 140737488351232) ∧ (0 < n → ∃ b off, A = some ⟨b, off, none⟩ ∧ b < w.heap.size ∧ ∀ j p, l[j]? = some p → FltAt w b (off + j * 5) p)
theorem RF.below {w w1 : World} {A : Option Addr} {n : Nat} {l : List Flt} (h : RF w A n l) (hb : Below w.heap.size w w1) : RF w1 A n l :=
  ⟨h.1, h.2.1, h.2.2.1, fun hn => by
    obtain ⟨b, off, e, hlt, hc⟩ := h.2.2.2 hn
    exact ⟨b, off, e, Nat.lt_of_lt_of_le hlt hb.size, fun j p hp => (hc j p hp).below hb hlt⟩⟩
theorem RI.below {w w1 : World} {A : Option Addr} {n : Nat} {l : List Int} (h : RI w A n l) (hb : Below w.heap.size w w1) : RI w1 A n l :=
  ⟨h.1, h.2.1, fun hn => by
    obtain ⟨b, off, e, hlt, hc⟩ := h.2.2 hn
    exact ⟨b, off, e, Nat.lt_of_lt_of_le hlt hb.size, fun j hj => (hb.cell (p := ⟨b, off + j, none⟩) hlt).trans (hc j hj)⟩⟩
instance : Inhabited Prp := ⟨⟨0, 0, ⟨#[]⟩, ⟨#[]⟩⟩⟩
theorem list4 {α : Type} {l : List α} (h : l.length = 4) : ∃ a b c d, l = [a, b, c, d] := by
  match l, h with
  | [a, b, c, d], _ => exact ⟨a, b, c, d, rfl⟩
theorem list5 {α : Type} {l : List α} (h : l.length = 5) : ∃ a b c d e, l = [a, b, c, d, e] := by
  match l, h with
  | [a, b, c, d, e], _ => exact ⟨a, b, c, d, e, rfl⟩
theorem list25 {α : Type} {l : List α} (h : l.length = 25) : ∃ c0 c1 c2 c3 c4 c5 c6 c7 c8 c9 c10 c11 c12 c13 c14 c15 c16 c17 c18 c19 c20 c21 c22 c23 c24, l = [c0, c1, c2, c3, c4, c5, c6, c7, c8, c9, c10, c11, c12, c13, c14, c15, c16, c17, c18, c19, c20, c21, c22, c23, c24] := by
  match l, h with
  | [c0, c1, c2, c3, c4, c5, c6, c7, c8, c9, c10, c11, c12, c13, c14, c15, c16, c17, c18, c19, c20, c21, c22, c23, c24], _ => exact ⟨c0, c1, c2, c3, c4, c5, c6, c7, c8, c9, c10, c11, c12, c13, c14, c15, c16, c17, c18, c19, c20, c21, c22, c23, c24, rfl⟩
theorem fs_prop : (Try.prog.fieldsOf 25).map (fun f => (f.type, f.offset)) = #[(3, 0), (23, 1), (9, 2), (9, 3)] := by kernel_rfl
theorem fs_filter : (Try.prog.fieldsOf 63).map (fun f => (f.type, f.offset)) = #[(9, 0), (3, 1), (4, 2), (4, 3), (3, 4)] := by kernel_rfl
theorem fs_will : (Try.prog.fieldsOf 31).map (fun f => (f.type, f.offset)) = #[(9, 0), (9, 1), (3, 2), (4, 3), (26, 4)] := by kernel_rfl
theorem fs_pack : (Try.prog.fieldsOf 35).map (fun f => (f.type, f.offset)) = #[(3, 0), (4, 1), (4, 2), (3, 3), (3, 4), (9, 5), (9, 6), (4, 7), (3, 8), (9, 9), (4, 10), (9, 11), (4, 12), (9, 13), (4, 14), (31, 15), (4, 20), (3, 21), (32, 22), (33, 23), (26, 24)] := by kernel_rfl
theorem ud_prop : Try.prog.underlying 25 = some (.struct (Try.prog.fieldsOf 25)) := by kernel_rfl
theorem ud_filter : Try.prog.underlying 63 = some (.struct (Try.prog.fieldsOf 63)) := by kernel_rfl
theorem co_prop : Try.prog.cellsOf 25 = 4 := by kernel_rfl
theorem co_filter : Try.prog.cellsOf 63 = 5 := by kernel_rfl
theorem by_prop : 0 < Try.prog.bytesOf 25 := by
  have h : Try.prog.bytesOf 25 = 48 := by kernel_rfl
  omega
theorem by_filter : 0 < Try.prog.bytesOf 63 := by
  have h : Try.prog.bytesOf 63 = 40 := by kernel_rfl
  omega
theorem by_int : 0 < Try.prog.bytesOf 3 := by
  have h : Try.prog.bytesOf 3 = 8 := by kernel_rfl
  omega
theorem co_will : Try.prog.cellsOf 31 = 5 := by kernel_rfl
theorem co_pack : Try.prog.cellsOf 35 = 25 := by kernel_rfl
theorem co_int : Try.prog.cellsOf 3 = 1 := by kernel_rfl
theorem co_u32 : Try.prog.cellsOf 23 = 1 := by kernel_rfl
theorem co_bool : Try.prog.cellsOf 4 = 1 := by kernel_rfl
theorem co_str : Try.prog.cellsOf 9 = 1 := by kernel_rfl
theorem co_ints : Try.prog.cellsOf 32 = 1 := by kernel_rfl
theorem co_props : Try.prog.cellsOf 26 = 1 := by kernel_rfl
theorem co_filters : Try.prog.cellsOf 33 = 1 := by kernel_rfl
section
variable {H : Type} {enc : TypeId × Value → H} {w : World} {base : Nat} {spare : Nat → Bool} {held : Bool}
theorem rp_of {A : Option Addr} {n : Nat} (h : SlAt enc w base spare held 25 A n) : ∃ l, RP w A n l := by
  obtain ⟨hn, hc⟩ := h
  by_cases h0 : 0 < n
  · obtain ⟨b, off, rfl, hb, hel⟩ := hc h0
    have : ∀ i, i < n → ∃ p : Prp, PrpOK p ∧ PrpAt w b (off + i * 4) p := by
      intro i hi
      obtain ⟨cs, m, y, hl, hcell, ht, hw⟩ := hel i hi
      rw [co_prop] at hl hcell
      obtain ⟨a0, a1, a2, a3, rfl⟩ := list4 hl
      obtain ⟨y0, n0, t0, w0⟩ := fld_trod ud_prop fs_prop ht hw 0 _ _ rfl
      obtain ⟨y1, n1, t1, w1⟩ := fld_trod ud_prop fs_prop ht hw 1 _ _ rfl
      obtain ⟨y2, n2, t2, w2⟩ := fld_trod ud_prop fs_prop ht hw 2 _ _ rfl
      obtain ⟨y3, n3, t3, w3⟩ := fld_trod ud_prop fs_prop ht hw 3 _ _ rfl
      rw [co_int] at t0
      rw [co_u32] at t1
      rw [co_str] at t2 t3
      obtain ⟨x0, e0, v0⟩ := open_i Try.underlying3 t0
      obtain ⟨x1, e1, v1⟩ := open_i Try.underlying23 t1
      obtain ⟨x2, e2, v2⟩ := open_s Try.underlying9 t2 w2
      obtain ⟨x3, e3, v3⟩ := open_s Try.underlying9 t3 w3
      simp at e0 e1 e2 e3
      subst e0 e1 e2 e3
      have hb := bounds_u32 v1
      exact ⟨⟨x0, x1, x2, x3⟩, ⟨hb.1, by show x1 < _; omega, v2, v3⟩, hcell 0 _ rfl, hcell 1 _ rfl, hcell 2 _ rfl, hcell 3 _ rfl⟩
    obtain ⟨f, hf⟩ := choose_lt this
    refine ⟨(List.range n).map f, by simp, by omega, ?_, fun _ => ⟨b, off, rfl, hb, ?_⟩⟩
    · intro p hp
      obtain ⟨i, hi, rfl⟩ := List.mem_map.1 hp
      exact (hf i (by simpa using hi)).1
    · intro j p hp
      rw [List.getElem?_map] at hp
      by_cases hj : j < n
      · rw [List.getElem?_range hj] at hp
        simp at hp
        subst hp
        exact (hf j hj).2
      · rw [List.getElem?_eq_none (by simp; omega)] at hp
        cases hp
  · exact ⟨[], by simp; omega, by omega, by simp, fun h => absurd h h0⟩
theorem rf_of {A : Option Addr} {n : Nat} (h : SlAt enc w base spare held 63 A n) : ∃ l, RF w A n l := by
  obtain ⟨hn, hc⟩ := h
  by_cases h0 : 0 < n
  · obtain ⟨b, off, rfl, hb, hel⟩ := hc h0
    have : ∀ i, i < n → ∃ p : Flt, p.topic.size ≤ 140737488351232 ∧ FltAt w b (off + i * 5) p := by
      intro i hi
      obtain ⟨cs, m, y, hl, hcell, ht, hw⟩ := hel i hi
      rw [co_filter] at hl hcell
      obtain ⟨a0, a1, a2, a3, a4, rfl⟩ := list5 hl
      obtain ⟨y0, n0, t0, w0⟩ := fld_trod ud_filter fs_filter ht hw 0 _ _ rfl
      obtain ⟨y1, n1, t1, w1⟩ := fld_trod ud_filter fs_filter ht hw 1 _ _ rfl
      obtain ⟨y2, n2, t2, w2⟩ := fld_trod ud_filter fs_filter ht hw 2 _ _ rfl
      obtain ⟨y3, n3, t3, w3⟩ := fld_trod ud_filter fs_filter ht hw 3 _ _ rfl
      obtain ⟨y4, n4, t4, w4⟩ := fld_trod ud_filter fs_filter ht hw 4 _ _ rfl
      rw [co_str] at t0
      rw [co_int] at t1 t4
      rw [co_bool] at t2 t3
      obtain ⟨x0, e0, v0⟩ := open_s Try.underlying9 t0 w0
      obtain ⟨x1, e1, v1⟩ := open_i Try.underlying3 t1
      obtain ⟨x2, e2⟩ := open_b Try.underlying4 t2
      obtain ⟨x3, e3⟩ := open_b Try.underlying4 t3
      obtain ⟨x4, e4, v4⟩ := open_i Try.underlying3 t4
      simp at e0 e1 e2 e3 e4
      subst e0 e1 e2 e3 e4
      exact ⟨⟨x0, x1, x2, x3, x4⟩, v0, hcell 0 _ rfl, hcell 1 _ rfl, hcell 2 _ rfl, hcell 3 _ rfl, hcell 4 _ rfl⟩
    obtain ⟨f, hf⟩ := choose_lt this
    refine ⟨(List.range n).map f, by simp, by omega, ?_, fun _ => ⟨b, off, rfl, hb, ?_⟩⟩
    · intro p hp
      obtain ⟨i, hi, rfl⟩ := List.mem_map.1 hp
      exact (hf i (by simpa using hi)).1
    · intro j p hp
      rw [List.getElem?_map] at hp
      by_cases hj : j < n
      · rw [List.getElem?_range hj] at hp
        simp at hp
        subst hp
        exact (hf j hj).2
      · rw [List.getElem?_eq_none (by simp; omega)] at hp
        cases hp
  · exact ⟨[], by simp; omega, by omega, by simp, fun h => absurd h h0⟩
theorem ri_of {A : Option Addr} {n : Nat} (h : SlAt enc w base spare held 3 A n) : ∃ l, RI w A n l := by
  obtain ⟨hn, hc⟩ := h
  by_cases h0 : 0 < n
  · obtain ⟨b, off, rfl, hb, hel⟩ := hc h0
    have : ∀ i, i < n → ∃ p : Int, w.cell? ⟨b, off + i, none⟩ = some (.int .i64 p) := by
      intro i hi
      obtain ⟨cs, m, y, hl, hcell, ht, hw⟩ := hel i hi
      rw [co_int] at hcell
      obtain ⟨x, rfl, v⟩ := open_i Try.underlying3 ht
      have := hcell 0 _ rfl
      rw [Nat.mul_one, Nat.add_zero] at this
      exact ⟨x, this⟩
    obtain ⟨f, hf⟩ := choose_lt this
    refine ⟨(List.range n).map f, by simp, by omega, fun _ => ⟨b, off, rfl, hb, ?_⟩⟩
    intro j hj
    have e : ((List.range n).map f).getD j 0 = f j := by
      rw [List.getD_eq_getElem?_getD, List.getElem?_map, List.getElem?_range hj]; rfl
    rw [e]
    exact hf j hj
  · exact ⟨[], by simp; omega, by omega, fun h => absurd h h0⟩
/-- Numbers and texts of a packet that can be. -/
structure PkOK (p : Pk) : Prop where
  kind : -9223372036854775808 ≤ p.kind ∧ p.kind ≤ 9223372036854775807
  qos : -9223372036854775808 ≤ p.qos ∧ p.qos ≤ 9223372036854775807
  id : -9223372036854775808 ≤ p.id ∧ p.id ≤ 9223372036854775807
  keep : -9223372036854775808 ≤ p.keep ∧ p.keep ≤ 9223372036854775807
  wQoS : -9223372036854775808 ≤ p.wQoS ∧ p.wQoS ≤ 9223372036854775807
  code : -9223372036854775808 ≤ p.code ∧ p.code ≤ 9223372036854775807
  topic : p.topic.size ≤ 140737488351232
  payload : p.payload.size ≤ 140737488351232
  client : p.client.size ≤ 140737488351232
  user : p.user.size ≤ 140737488351232
  pass : p.pass.size ≤ 140737488351232
  wTopic : p.wTopic.size ≤ 140737488351232
  wPayload : p.wPayload.size ≤ 140737488351232
  wN : p.wProps.n ≤ 140737488351232
  pN : p.props.n ≤ 140737488351232
/-- A packet that is read: its numbers and texts, its lists. -/
structure RPk (w : World) (p : Pk) (lw : List Prp) (lc : List Int) (lf : List Flt) (lp : List Prp) : Prop where
  ok : PkOK p
  will : RP w p.wProps.A p.wProps.n lw
  codes : RI w p.codes.A p.codes.n lc
  filters : RF w p.filters.A p.filters.n lf
  props : RP w p.props.A p.props.n lp
theorem RPk.below {w w1 : World} {p : Pk} {lw : List Prp} {lc : List Int} {lf : List Flt} {lp : List Prp} (h : RPk w p lw lc lf lp) (hb : Below w.heap.size w w1) : RPk w1 p lw lc lf lp :=
  ⟨h.ok, h.will.below hb, h.codes.below hb, h.filters.below hb, h.props.below hb⟩
set_option maxRecDepth 100000 in
theorem open_cells {cs : List Value} {m : Nat} {y : DataW H × List MemPlace} (ht : DataW.trod enc Try.prog w base spare held m 35 cs = some y) (hw : Wt y.1 35) (hl : cs.length = 25) :
    ∃ (p : Pk) (lw : List Prp) (lc : List Int) (lf : List Flt) (lp : List Prp), cs = (packC p).toList ∧ RPk w p lw lc lf lp := by
  obtain ⟨c0, c1, c2, c3, c4, c5, c6, c7, c8, c9, c10, c11, c12, c13, c14, c15, c16, c17, c18, c19, c20, c21, c22, c23, c24, rfl⟩ := list25 hl
  obtain ⟨y0, n0, t0, w0⟩ := fld_trod ud_pack fs_pack ht hw 0 _ _ rfl
  rw [co_int] at t0
  obtain ⟨x0, e0, v0⟩ := open_i Try.underlying3 t0
  simp at e0
  subst e0
  clear t0 w0
  obtain ⟨y1, n1, t1, w1⟩ := fld_trod ud_pack fs_pack ht hw 1 _ _ rfl
  rw [co_bool] at t1
  obtain ⟨x1, e1⟩ := open_b Try.underlying4 t1
  simp at e1
  subst e1
  clear t1 w1
  obtain ⟨y2, n2, t2, w2⟩ := fld_trod ud_pack fs_pack ht hw 2 _ _ rfl
  rw [co_bool] at t2
  obtain ⟨x2, e2⟩ := open_b Try.underlying4 t2
  simp at e2
  subst e2
  clear t2 w2
  obtain ⟨y3, n3, t3, w3⟩ := fld_trod ud_pack fs_pack ht hw 3 _ _ rfl
  rw [co_int] at t3
  obtain ⟨x3, e3, v3⟩ := open_i Try.underlying3 t3
  simp at e3
  subst e3
  clear t3 w3
  obtain ⟨y4, n4, t4, w4⟩ := fld_trod ud_pack fs_pack ht hw 4 _ _ rfl
  rw [co_int] at t4
  obtain ⟨x4, e4, v4⟩ := open_i Try.underlying3 t4
  simp at e4
  subst e4
  clear t4 w4
  obtain ⟨y5, n5, t5, w5⟩ := fld_trod ud_pack fs_pack ht hw 5 _ _ rfl
  rw [co_str] at t5
  obtain ⟨x5, e5, v5⟩ := open_s Try.underlying9 t5 w5
  simp at e5
  subst e5
  clear t5 w5
  obtain ⟨y6, n6, t6, w6⟩ := fld_trod ud_pack fs_pack ht hw 6 _ _ rfl
  rw [co_str] at t6
  obtain ⟨x6, e6, v6⟩ := open_s Try.underlying9 t6 w6
  simp at e6
  subst e6
  clear t6 w6
  obtain ⟨y7, n7, t7, w7⟩ := fld_trod ud_pack fs_pack ht hw 7 _ _ rfl
  rw [co_bool] at t7
  obtain ⟨x7, e7⟩ := open_b Try.underlying4 t7
  simp at e7
  subst e7
  clear t7 w7
  obtain ⟨y8, n8, t8, w8⟩ := fld_trod ud_pack fs_pack ht hw 8 _ _ rfl
  rw [co_int] at t8
  obtain ⟨x8, e8, v8⟩ := open_i Try.underlying3 t8
  simp at e8
  subst e8
  clear t8 w8
  obtain ⟨y9, n9, t9, w9⟩ := fld_trod ud_pack fs_pack ht hw 9 _ _ rfl
  rw [co_str] at t9
  obtain ⟨x9, e9, v9⟩ := open_s Try.underlying9 t9 w9
  simp at e9
  subst e9
  clear t9 w9
  obtain ⟨y10, n10, t10, w10⟩ := fld_trod ud_pack fs_pack ht hw 10 _ _ rfl
  rw [co_bool] at t10
  obtain ⟨x10, e10⟩ := open_b Try.underlying4 t10
  simp at e10
  subst e10
  clear t10 w10
  obtain ⟨y11, n11, t11, w11⟩ := fld_trod ud_pack fs_pack ht hw 11 _ _ rfl
  rw [co_str] at t11
  obtain ⟨x11, e11, v11⟩ := open_s Try.underlying9 t11 w11
  simp at e11
  subst e11
  clear t11 w11
  obtain ⟨y12, n12, t12, w12⟩ := fld_trod ud_pack fs_pack ht hw 12 _ _ rfl
  rw [co_bool] at t12
  obtain ⟨x12, e12⟩ := open_b Try.underlying4 t12
  simp at e12
  subst e12
  clear t12 w12
  obtain ⟨y13, n13, t13, w13⟩ := fld_trod ud_pack fs_pack ht hw 13 _ _ rfl
  rw [co_str] at t13
  obtain ⟨x13, e13, v13⟩ := open_s Try.underlying9 t13 w13
  simp at e13
  subst e13
  clear t13 w13
  obtain ⟨y14, n14, t14, w14⟩ := fld_trod ud_pack fs_pack ht hw 14 _ _ rfl
  rw [co_bool] at t14
  obtain ⟨x14, e14⟩ := open_b Try.underlying4 t14
  simp at e14
  subst e14
  clear t14 w14
  obtain ⟨y15, n15, t15, w15⟩ := fld_trod ud_pack fs_pack ht hw 15 _ _ rfl
  rw [co_will] at t15
  simp only [List.drop_succ_cons, List.drop_zero, List.take_succ_cons, List.take_zero] at t15
  obtain ⟨y15a, n15a, t15a, w15a⟩ := fld_trod ud_will fs_will t15 w15 0 _ _ rfl
  rw [co_str] at t15a
  obtain ⟨x15a, e15a, v15a⟩ := open_s Try.underlying9 t15a w15a
  simp at e15a
  subst e15a
  clear t15a w15a
  obtain ⟨y16, n16, t16, w16⟩ := fld_trod ud_will fs_will t15 w15 1 _ _ rfl
  rw [co_str] at t16
  obtain ⟨x16, e16, v16⟩ := open_s Try.underlying9 t16 w16
  simp at e16
  subst e16
  clear t16 w16
  obtain ⟨y17, n17, t17, w17⟩ := fld_trod ud_will fs_will t15 w15 2 _ _ rfl
  rw [co_int] at t17
  obtain ⟨x17, e17, v17⟩ := open_i Try.underlying3 t17
  simp at e17
  subst e17
  clear t17 w17
  obtain ⟨y18, n18, t18, w18⟩ := fld_trod ud_will fs_will t15 w15 3 _ _ rfl
  rw [co_bool] at t18
  obtain ⟨x18, e18⟩ := open_b Try.underlying4 t18
  simp at e18
  subst e18
  clear t18 w18
  obtain ⟨y19, n19, t19, w19⟩ := fld_trod ud_will fs_will t15 w15 4 _ _ rfl
  rw [co_props] at t19
  obtain ⟨A19, n19, q19, e19, s19⟩ := open_sl Try.underlying26 (by rw [co_prop]; decide) by_prop t19 w19
  obtain ⟨l19, r19⟩ := rp_of s19
  simp at e19
  subst e19
  clear t19 w19
  obtain ⟨y20, n20, t20, w20⟩ := fld_trod ud_pack fs_pack ht hw 16 _ _ rfl
  rw [co_bool] at t20
  obtain ⟨x20, e20⟩ := open_b Try.underlying4 t20
  simp at e20
  subst e20
  clear t20 w20
  obtain ⟨y21, n21, t21, w21⟩ := fld_trod ud_pack fs_pack ht hw 17 _ _ rfl
  rw [co_int] at t21
  obtain ⟨x21, e21, v21⟩ := open_i Try.underlying3 t21
  simp at e21
  subst e21
  clear t21 w21
  obtain ⟨y22, n22, t22, w22⟩ := fld_trod ud_pack fs_pack ht hw 18 _ _ rfl
  rw [co_ints] at t22
  obtain ⟨A22, n22, q22, e22, s22⟩ := open_sl Try.underlying32 (by rw [co_int]; decide) by_int t22 w22
  obtain ⟨l22, r22⟩ := ri_of s22
  simp at e22
  subst e22
  clear t22 w22
  obtain ⟨y23, n23, t23, w23⟩ := fld_trod ud_pack fs_pack ht hw 19 _ _ rfl
  rw [co_filters] at t23
  obtain ⟨A23, n23, q23, e23, s23⟩ := open_sl Try.underlying33 (by rw [co_filter]; decide) by_filter t23 w23
  obtain ⟨l23, r23⟩ := rf_of s23
  simp at e23
  subst e23
  clear t23 w23
  obtain ⟨y24, n24, t24, w24⟩ := fld_trod ud_pack fs_pack ht hw 20 _ _ rfl
  rw [co_props] at t24
  obtain ⟨A24, n24, q24, e24, s24⟩ := open_sl Try.underlying26 (by rw [co_prop]; decide) by_prop t24 w24
  obtain ⟨l24, r24⟩ := rp_of s24
  simp at e24
  subst e24
  clear t24 w24
  exact ⟨⟨x0, x1, x2, x3, x4, x5, x6, x7, x8, x9, x10, x11, x12, x13, x14, x15a, x16, x17, x18, ⟨A19, n19, q19⟩, x20, x21, ⟨A22, n22, q22⟩, ⟨A23, n23, q23⟩, ⟨A24, n24, q24⟩⟩, l19, l22, l23, l24, rfl, ⟨bounds_i64 v0, bounds_i64 v3, bounds_i64 v4, bounds_i64 v8, bounds_i64 v17, bounds_i64 v21, v5, v6, v9, v11, v13, v15a, v16, s19.1, s24.1⟩, r19, r22, r23, r24⟩
set_option maxRecDepth 100000 in
theorem open_packet {ts : List TypeId} {ds : List (DataW H)} (hz : (DataW.weightsEach Try.prog ts ds).all (· ≤ reachBytes) = true) {j : Nat} {v : Value} {d : DataW H} {ps : List MemPlace} {r : Reach} {b0 : Nat} (hj : ts[j]? = some 35) (hd : ds[j]? = some d)
    (hv : Value.okWide Try.prog w r b0 35 v) (h : DataW.Trod enc Try.prog w base spare held 35 v d ps) :
    ∃ (p : Pk) (lw : List Prp) (lc : List Int) (lf : List Flt) (lp : List Prp), v = .agg (packC p) ∧ RPk w p lw lc lf lp := by
  obtain ⟨cs, rfl, hs⟩ := Go.WideShapes.okWide_struct ud_pack hv
  obtain ⟨m, hm⟩ := h
  obtain ⟨p, lw, lc, lf, lp, e, hr⟩ := open_cells (y := (d, ps)) (by simpa [Value.cells] using hm) (fun n hn => by
    have := List.all_eq_true.1 hz n (DataW.weights_mem_each hj hd n hn)
    simpa using this) (by rw [Array.length_toList, hs]; exact co_pack)
  refine ⟨p, lw, lc, lf, lp, ?_, hr⟩
  rw [show cs = packC p from Array.toList_inj.1 e]
end
end Go.Proofs.Ytnbgmpfldoaodab
