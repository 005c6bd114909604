/- The words of package reason, as the code makes them: 'with' and 'upto' set bits of four words, 'has' reads one. -/
import Derived.Test.YtjlkhihlbdokpaaGreatProg
import Derived.WalkKit
import Derived.KernelRfl
import Derived.Laws.Rows
import Derived.Outline
import Derived.Handy
import Derived.Lib.Hide
import Derived.WalkLawsBesides
import Derived.WalkSpells
import Derived.Laws.BytesArg
import Derived.OwnWalk
import Derived.Laws.AppendOwn
import Derived.Laws.RangeAny
import Derived.Maps.Own
import Derived.MapKept
import Derived.RegionTactic
import Derived.ChangeAlike
import Derived.BigRegion
import Derived.Lib.AppendStr
import Derived.Deep.RegionHeld3
import Derived.Deep.AppendLies
import Derived.Deep.DrawnRows
import Derived.IntWalk
namespace Go.Proofs.YtjlkhihlbdokpaaGreat
open Go.RowKit
set_option maxHeartbeats 400000
/-- A slice of whole numbers that is read. -/
def RI (w : World) (A : Option Addr) (n : Nat) (xs : List Int) : Prop :=
  xs.length = n ∧ n ≤ 9223372036854775807 ∧ (0 < n → ∃ b off, A = some ⟨b, off, none⟩ ∧ b < w.heap.size ∧ ∀ j, j < n → w.cell? ⟨b, off + j, none⟩ = some (.int .i64 (xs.getD j 0)))
structure W4 where
  a : Int
  b : Int
  c : Int
  d : Int
/-- A word with one bit more. -/
def orb (p x : Int) : Int := bits .or .u64 p (IntKind.u64.wrap (2 ^ (x % 64).toNat))
def W4.put (t : W4) (x : Int) : W4 := if x / 64 = 0 then { t with a := orb t.a x } else if x / 64 = 1 then { t with b := orb t.b x } else if x / 64 = 2 then { t with c := orb t.c x } else { t with d := orb t.d x }
def W4.puts (t : W4) (xs : List Int) : W4 := xs.foldl W4.put t
theorem puts_snoc (t : W4) (xs : List Int) (k : Nat) (h : k < xs.length) : t.puts (xs.take (k + 1)) = (t.puts (xs.take k)).put (xs.getD k 0) := by
  rw [List.take_succ_eq_append_getElem h, W4.puts, List.foldl_append]
  simp [W4.puts, List.getD_eq_getElem?_getD, List.getElem?_eq_getElem h]
theorem heap_alloc_last (w : World) (o : Obj) : (w.alloc o).heap[w.heap.size]? = some o := heap_alloc_new w o
/-- What a round of 'with' leaves. -/
theorem with_round (t : W4) (xs : List Int) (k : Nat) (q : Nat) (v : Int) (w wr : World) (B : Nat) (hB : w.heap.size ≤ B)
    (hb0 : wr.heap[B]? = some (.cells #[.int .u64 (t.puts (xs.take k)).a, .int .u64 (t.puts (xs.take k)).b, .int .u64 (t.puts (xs.take k)).c, .int .u64 (t.puts (xs.take k)).d] 129 (0, 0)))
    (hb1 : wr.heap[B + 1]? = some (.cells #[.int .u64 0, .int .u64 0, .int .u64 0, .int .u64 0] 129 (0, 0))) (hbel : Below w.heap.size w wr)
    (hv : #[Value.int .u64 (t.puts (xs.take (k + 1))).a, .int .u64 (t.puts (xs.take (k + 1))).b, .int .u64 (t.puts (xs.take (k + 1))).c, .int .u64 (t.puts (xs.take (k + 1))).d] = (#[Value.int .u64 (t.puts (xs.take k)).a, .int .u64 (t.puts (xs.take k)).b, .int .u64 (t.puts (xs.take k)).c, .int .u64 (t.puts (xs.take k)).d] : Array Value).setIfInBounds q (.int .u64 v)) :
    (wr.setCell ⟨B, q, none⟩ (.int .u64 v)).heap[B]? = some (.cells #[.int .u64 (t.puts (xs.take (k + 1))).a, .int .u64 (t.puts (xs.take (k + 1))).b, .int .u64 (t.puts (xs.take (k + 1))).c, .int .u64 (t.puts (xs.take (k + 1))).d] 129 (0, 0)) ∧
    (wr.setCell ⟨B, q, none⟩ (.int .u64 v)).heap[B + 1]? = some (.cells #[.int .u64 0, .int .u64 0, .int .u64 0, .int .u64 0] 129 (0, 0)) ∧ Below w.heap.size w (wr.setCell ⟨B, q, none⟩ (.int .u64 v)) := by
  refine ⟨?_, ?_, hbel.setCell (by simpa using hB) _⟩
  · rw [heap_setCell_same _ _ _ _ _ _ hb0, hv]
  · rw [heap_setCell_other _ _ _ _ (by simp)]; exact hb1
set_option maxRecDepth 100000 in
theorem with_t (t : W4) (A : Option Addr) (n cp : Nat) (xs : List Int) (w : World) (hr : RI w A n xs) (hx : ∀ j, j < n → 0 ≤ xs.getD j 0 ∧ xs.getD j 0 < 256) :
    Calls Tryz.prog 168 #[.agg #[.int .u64 t.a, .int .u64 t.b, .int .u64 t.c, .int .u64 t.d], .slice A n cp] w fun e w' =>
      e = .returned (.agg #[.int .u64 (t.puts xs).a, .int .u64 (t.puts xs).b, .int .u64 (t.puts xs).c, .int .u64 (t.puts xs).d]) ∧ Below w.heap.size w w' := by
  obtain ⟨hl, hn, hc⟩ := hr
  have HX := Lib.hid hx
  have HC := Lib.hid hc
  clear hx hc
  go_enter Tryz.func168, Tryz.ntmps168
  go_wp2
  go_loopw [9] (fun v9 wr => ∃ k : Nat, k ≤ n ∧ v9 = .int .i64 k ∧ wr.heap[w.heap.size]? = some (.cells #[.int .u64 (t.puts (xs.take k)).a, .int .u64 (t.puts (xs.take k)).b, .int .u64 (t.puts (xs.take k)).c, .int .u64 (t.puts (xs.take k)).d] 129 (0, 0)) ∧ wr.heap[w.heap.size + 1]? = some (.cells #[.int .u64 0, .int .u64 0, .int .u64 0, .int .u64 0] 129 (0, 0)) ∧ Below w.heap.size w wr) (fun v9 _ => n - (intOf v9).toNat)
  case atStart => exact ⟨0, by omega, rfl, heap_alloc2_old .., heap_alloc2_new .., ((Below.refl _ _).alloc (Nat.le_refl _) _).alloc (by simp) _⟩
  case round =>
    obtain ⟨k, hk, rfl, hb0, hb1, hbel⟩ := hrel
    by_cases hlt : k < n
    · obtain ⟨b, off, rfl, hbl, hcell⟩ := HC.out (by omega)
      have hx := HX.out k hlt
      have hcl : wr.cell? ⟨b, off + k, none⟩ = some (.int .i64 (xs.getD k 0)) := (hbel.cell (p := ⟨b, off + k, none⟩) hbl).trans (hcell k hlt)
      have HR := Lib.hid (fun q v => with_round t xs k q v w wr _ (Nat.le_refl _) hb0 hb1 hbel)
      have HS := Lib.hid (puts_snoc t xs k (by omega))
      have e0 : ∀ i, wr.cell? ⟨w.heap.size, i, none⟩ = (#[.int .u64 (t.puts (xs.take k)).a, .int .u64 (t.puts (xs.take k)).b, .int .u64 (t.puts (xs.take k)).c, .int .u64 (t.puts (xs.take k)).d] : Array Value)[i]? := fun i => cell_of_row _ _ i _ _ _ hb0
      have f0 : ∀ i, wr.frozen? ⟨w.heap.size, i, none⟩ = false := fun i => frozen_of_row _ _ i _ _ hb0
      have HB := Lib.hid (⟨hb0, hb1, hbel⟩ : _ ∧ _ ∧ _)
      clear hcell HC HX hb0 hb1 hbel
      generalize xs.getD k 0 = x at *
      have h64 : x / 64 = 0 ∨ x / 64 = 1 ∨ x / 64 = 2 ∨ x / 64 = 3 := by omega
      rcases h64 with h64 | h64 | h64 | h64
      · have c0 := e0 0; have g0 := f0 0; simp only [List.getElem?_toArray, List.getElem?_cons_zero] at c0
        have HQ := Lib.hid h64
        have HE := Lib.hid (HR.out 0 (orb (t.puts (xs.take k)).a x) (by rw [HS.out]; simp [W4.put, h64]))
        clear e0 f0 HR HB HS
        go_wp2
        go_roundw
        case rel => exact ⟨k + 1, by omega, by go_num, HE.out.1, HE.out.2.1, HE.out.2.2⟩
        case measure => simp [intOf]; omega
      · have c0 := e0 1; have g0 := f0 1; simp only [List.getElem?_toArray, List.getElem?_cons_zero, List.getElem?_cons_succ] at c0
        have HQ := Lib.hid h64
        have HE := Lib.hid (HR.out 1 (orb (t.puts (xs.take k)).b x) (by rw [HS.out]; simp [W4.put, h64]))
        clear e0 f0 HR HB HS
        go_wp2
        go_roundw
        case rel => exact ⟨k + 1, by omega, by go_num, HE.out.1, HE.out.2.1, HE.out.2.2⟩
        case measure => simp [intOf]; omega
      · have c0 := e0 2; have g0 := f0 2; simp only [List.getElem?_toArray, List.getElem?_cons_zero, List.getElem?_cons_succ] at c0
        have HQ := Lib.hid h64
        have HE := Lib.hid (HR.out 2 (orb (t.puts (xs.take k)).c x) (by rw [HS.out]; simp [W4.put, h64]))
        clear e0 f0 HR HB HS
        go_wp2
        go_roundw
        case rel => exact ⟨k + 1, by omega, by go_num, HE.out.1, HE.out.2.1, HE.out.2.2⟩
        case measure => simp [intOf]; omega
      · have c0 := e0 3; have g0 := f0 3; simp only [List.getElem?_toArray, List.getElem?_cons_zero, List.getElem?_cons_succ] at c0
        have HQ := Lib.hid h64
        have HE := Lib.hid (HR.out 3 (orb (t.puts (xs.take k)).d x) (by rw [HS.out]; simp [W4.put, h64]))
        clear e0 f0 HR HB HS
        go_wp2
        go_roundw
        case rel => exact ⟨k + 1, by omega, by go_num, HE.out.1, HE.out.2.1, HE.out.2.2⟩
        case measure => simp [intOf]; omega
    · obtain rfl : k = n := by omega
      have ht : xs.take k = xs := List.take_of_length_le (by omega)
      rw [ht] at hb0
      clear ht
      have c0 : wr.cell? ⟨w.heap.size, 0, none⟩ = some (.int .u64 (t.puts xs).a) := by rw [cell_of_row _ _ _ _ _ _ hb0]; rfl
      have c1 : wr.cell? ⟨w.heap.size, 1, none⟩ = some (.int .u64 (t.puts xs).b) := by rw [cell_of_row _ _ _ _ _ _ hb0]; rfl
      have c2 : wr.cell? ⟨w.heap.size, 2, none⟩ = some (.int .u64 (t.puts xs).c) := by rw [cell_of_row _ _ _ _ _ _ hb0]; rfl
      have c3 : wr.cell? ⟨w.heap.size, 3, none⟩ = some (.int .u64 (t.puts xs).d) := by rw [cell_of_row _ _ _ _ _ _ hb0]; rfl
      have d0 : ∀ i, i < 4 → wr.cell? ⟨w.heap.size + 1, i, none⟩ = some (.int .u64 0) := fun i hi => by rw [cell_of_row _ _ _ _ _ _ hb1]; match i, hi with | 0, _ => rfl | 1, _ => rfl | 2, _ => rfl | 3, _ => rfl
      have f1 : ∀ i, wr.frozen? ⟨w.heap.size + 1, i, none⟩ = false := fun i => frozen_of_row _ _ i _ _ hb1
      have d1 := d0 0 (by omega); have d2 := d0 1 (by omega); have d3 := d0 2 (by omega); have d4 := d0 3 (by omega)
      have g1 := f1 0; have g2 := f1 1; have g3 := f1 2; have g4 := f1 3
      have HB := Lib.hid hbel
      clear hb0 hb1 hbel d0 f1 HC HX
      go_wp2
      refine bodyPost_ret (v := .agg #[.int .u64 (t.puts xs).a, .int .u64 (t.puts xs).b, .int .u64 (t.puts xs).c, .int .u64 (t.puts xs).d]) ?_ rfl ⟨rfl, ?_⟩
      · simp [results, Tryz.results168, go_sem, d1, d2, d3, d4]
      · exact (((HB.out.setCell (by simp) _).setCell (by simp) _).setCell (by simp) _).setCell (by simp) _
/-- 'upto': the codes from one to another. -/
def W4.span (t : W4) (lo : Int) (n : Nat) : W4 := t.puts ((List.range n).map fun i : Nat => lo + (i : Int))
theorem span_succ (t : W4) (lo : Int) (n : Nat) : t.span lo (n + 1) = (t.span lo n).puts [lo + (n : Int)] := by
  simp [W4.span, W4.puts, List.range_succ, List.foldl_append]
/-- Four cells written one behind the other. -/
theorem set_four (wr : World) (B : Nat) (t s : W4) (T : TypeId) (hb : wr.heap[B]? = some (.cells #[.int .u64 t.a, .int .u64 t.b, .int .u64 t.c, .int .u64 t.d] T (0, 0))) :
    ((((wr.setCell ⟨B, 0, none⟩ (.int .u64 s.a)).setCell ⟨B, 1, none⟩ (.int .u64 s.b)).setCell ⟨B, 2, none⟩ (.int .u64 s.c)).setCell ⟨B, 3, none⟩ (.int .u64 s.d)).heap[B]? = some (.cells #[.int .u64 s.a, .int .u64 s.b, .int .u64 s.c, .int .u64 s.d] T (0, 0)) := by
  have h1 := heap_setCell_same wr B 0 _ T (.int .u64 s.a) hb
  have h2 := heap_setCell_same _ B 1 _ T (.int .u64 s.b) h1
  have h3 := heap_setCell_same _ B 2 _ T (.int .u64 s.c) h2
  have h4 := heap_setCell_same _ B 3 _ T (.int .u64 s.d) h3
  rw [h4]; rfl
theorem set_four_other (wr : World) (B k : Nat) (v0 v1 v2 v3 : Value) (hk : k ≠ B) :
    ((((wr.setCell ⟨B, 0, none⟩ v0).setCell ⟨B, 1, none⟩ v1).setCell ⟨B, 2, none⟩ v2).setCell ⟨B, 3, none⟩ v3).heap[k]? = wr.heap[k]? := by
  rw [heap_setCell_other _ _ _ _ hk, heap_setCell_other _ _ _ _ hk, heap_setCell_other _ _ _ _ hk, heap_setCell_other _ _ _ _ hk]
theorem set_four_below (w wr : World) (B : Nat) (v0 v1 v2 v3 : Value) (hB : w.heap.size ≤ B) (hb : Below w.heap.size w wr) :
    Below w.heap.size w ((((wr.setCell ⟨B, 0, none⟩ v0).setCell ⟨B, 1, none⟩ v1).setCell ⟨B, 2, none⟩ v2).setCell ⟨B, 3, none⟩ v3) :=
  (((hb.setCell (by simpa using hB) _).setCell (by simpa using hB) _).setCell (by simpa using hB) _).setCell (by simpa using hB) _
theorem four_cells {wr : World} {B : Nat} {t : W4} {T : TypeId} (hb : wr.heap[B]? = some (.cells #[.int .u64 t.a, .int .u64 t.b, .int .u64 t.c, .int .u64 t.d] T (0, 0))) :
    (wr.cell? ⟨B, 0, none⟩ = some (.int .u64 t.a) ∧ wr.cell? ⟨B, 1, none⟩ = some (.int .u64 t.b) ∧ wr.cell? ⟨B, 2, none⟩ = some (.int .u64 t.c) ∧ wr.cell? ⟨B, 3, none⟩ = some (.int .u64 t.d)) ∧
    (wr.frozen? ⟨B, 0, none⟩ = false ∧ wr.frozen? ⟨B, 1, none⟩ = false ∧ wr.frozen? ⟨B, 2, none⟩ = false ∧ wr.frozen? ⟨B, 3, none⟩ = false) :=
  ⟨⟨by rw [cell_of_row _ _ _ _ _ _ hb]; rfl, by rw [cell_of_row _ _ _ _ _ _ hb]; rfl, by rw [cell_of_row _ _ _ _ _ _ hb]; rfl, by rw [cell_of_row _ _ _ _ _ _ hb]; rfl⟩,
   frozen_of_row _ _ _ _ _ hb, frozen_of_row _ _ _ _ _ hb, frozen_of_row _ _ _ _ _ hb, frozen_of_row _ _ _ _ _ hb⟩
/-- A slice whose one element was just made. -/
theorem RI_one (wr : World) (x : Int) (T : TypeId) : RI (wr.alloc (.cells #[.int .i64 x] T)) (some ⟨wr.heap.size, 0, none⟩) 1 [x] :=
  ⟨rfl, by omega, fun _ => ⟨_, _, rfl, by simp, fun j hj => by
    obtain rfl : j = 0 := by omega
    rw [cell_of_row _ _ _ _ _ _ (heap_alloc_new wr _)]; rfl⟩⟩
theorem below_then {B : Nat} {w w1 w2 : World} (h : Below B w w1) (hB : B ≤ w1.heap.size) (k : Below w1.heap.size w1 w2) : Below B w w2 :=
  h.trans ⟨k.os, k.tape, k.output, k.size, fun i hi => k.block i (Nat.lt_of_lt_of_le hi hB)⟩
set_option maxRecDepth 100000 in
theorem upto_t (t : W4) (lo hi : Int) (w : World) (h0 : 0 ≤ lo) (h1 : lo ≤ hi) (h2 : hi < 256) :
    Calls Tryz.prog 169 #[.agg #[.int .u64 t.a, .int .u64 t.b, .int .u64 t.c, .int .u64 t.d], .int .i64 lo, .int .i64 hi] w fun e w' =>
      e = .returned (.agg #[.int .u64 (t.span lo (hi + 1 - lo).toNat).a, .int .u64 (t.span lo (hi + 1 - lo).toNat).b, .int .u64 (t.span lo (hi + 1 - lo).toNat).c, .int .u64 (t.span lo (hi + 1 - lo).toNat).d]) ∧ Below w.heap.size w w' := by
  go_enter Tryz.func169, Tryz.ntmps169
  go_wp2
  go_loopw [7] (fun v7 wr => ∃ k : Nat, lo + k ≤ hi + 1 ∧ v7 = .int .i64 (lo + k) ∧ wr.heap[w.heap.size]? = some (.cells #[.int .u64 (t.span lo k).a, .int .u64 (t.span lo k).b, .int .u64 (t.span lo k).c, .int .u64 (t.span lo k).d] 129 (0, 0)) ∧ wr.heap[w.heap.size + 1]? = some (.cells #[.int .u64 0, .int .u64 0, .int .u64 0, .int .u64 0] 129 (0, 0)) ∧ Below w.heap.size w wr) (fun v7 _ => (hi + 1 - intOf v7).toNat)
  case atStart => exact ⟨0, by omega, by simp, heap_alloc2_old .., heap_alloc2_new .., ((Below.refl _ _).alloc (Nat.le_refl _) _).alloc (by simp) _⟩
  case round =>
    obtain ⟨k, hk, rfl, hb0, hb1, hbel⟩ := hrel
    by_cases hlt : lo + k ≤ hi
    · obtain ⟨⟨c0, c1, c2, c3⟩, -⟩ := four_cells hb0
      have hB : w.heap.size + 1 < wr.heap.size := (Array.getElem?_eq_some_iff.1 hb1).1
      have HB := Lib.hid (⟨hb0, hb1, hbel⟩ : _ ∧ _ ∧ _)
      have HS := Lib.hid (span_succ t lo k)
      clear hb0 hb1 hbel
      generalize hs : t.span lo k = s at *
      have HQ := Lib.hid hs
      clear hs
      go_wp2_with fail
      refine (with_t s _ _ _ _ _ (RI_one wr (lo + k) _) (fun j hj => by obtain rfl : j = 0 := by omega
                                                                        exact ⟨by simp; omega, by simp; omega⟩)).mono ?_
      rintro e w1 ⟨rfl, hb1⟩
      obtain ⟨hb0, hbx, hbel⟩ := HB.out
      have hh0 : w1.heap[w.heap.size]? = some (.cells #[.int .u64 s.a, .int .u64 s.b, .int .u64 s.c, .int .u64 s.d] 129 (0, 0)) := by
        rw [hb1.block _ (by simp; omega), heap_alloc_old _ _ (by omega)]; exact hb0
      have hh1 : w1.heap[w.heap.size + 1]? = some (.cells #[.int .u64 0, .int .u64 0, .int .u64 0, .int .u64 0] 129 (0, 0)) := by
        rw [hb1.block _ (by simp; omega), heap_alloc_old _ _ (by omega)]; exact hbx
      have hbl : Below w.heap.size w w1 := below_then (hbel.alloc hbel.size _) (by simp; omega) hb1
      obtain ⟨⟨d0, d1, d2, d3⟩, g0, g1, g2, g3⟩ := four_cells hh0
      have HH := Lib.hid (⟨hh0, hh1, hbl⟩ : _ ∧ _ ∧ _)
      clear hb0 hbx hbel hh0 hh1 hbl hb1 HB c0 c1 c2 c3
      go_wp2
      go_roundw
      case rel =>
        obtain ⟨hh0, hh1, hbl⟩ := HH.out
        refine ⟨k + 1, by omega, by go_num, ?_, ?_, set_four_below _ _ _ _ _ _ _ (Nat.le_refl _) hbl⟩
        · rw [HS.out]; exact set_four _ _ s _ _ hh0
        · rw [set_four_other _ _ _ _ _ _ _ (by omega)]; exact hh1
      case measure => simp [intOf]; omega
    · have hk' : k = (hi + 1 - lo).toNat := by omega
      obtain ⟨s, hs⟩ : ∃ s, t.span lo (hi + 1 - lo).toNat = s := ⟨_, rfl⟩
      rw [hk', hs] at hb0
      have HS := Lib.hid hs
      clear hs hk'
      obtain ⟨⟨c0, c1, c2, c3⟩, -⟩ := four_cells hb0
      obtain ⟨⟨d0, d1, d2, d3⟩, g0, g1, g2, g3⟩ := four_cells (t := ⟨0, 0, 0, 0⟩) hb1
      have HB := Lib.hid hbel
      clear hb0 hb1 hbel
      go_wp2
      refine bodyPost_ret (v := .agg #[.int .u64 s.a, .int .u64 s.b, .int .u64 s.c, .int .u64 s.d]) ?_ rfl ⟨by rw [HS.out], ?_⟩
      · simp [results, Tryz.results169, go_sem, d0, d1, d2, d3]
      · exact set_four_below _ _ _ _ _ _ _ (by omega) HB.out
end Go.Proofs.YtjlkhihlbdokpaaGreat
/- octet.Put: the bytes of a number, the highest first. -/
namespace Go.Proofs.YtjlkhihlbdokpaaGreat
open Go.RowKit
set_option maxHeartbeats 1000000
set_option linter.unusedVariables false
set_option linter.unusedSimpArgs false
/-- Bytes just made, as a string. -/
theorem conv_new (w : World) (B : Nat) (hB : w.heap.size = B) (xs : List Int) (n : Nat) (hn : xs.length = n) (C : Array Value) (hC : C = (xs.map (Value.int .u8)).toArray) : (convert 42 9 (.slice (some ⟨B, 0, none⟩) n n)).run Tryz.prog (w.alloc (.cells C 5)) = .ok (.string (strOfNums xs)) (w.alloc (.cells C 5)) :=
  run_convert_bytes_arg _ 42 5 Tryz.underlying42 Tryz.underlying5 B 0 n n xs hn (fun i hi => by
    subst hB
    rw [cell_of_row _ _ _ _ _ _ (heap_alloc_new w _), hC]
    have : i < xs.length := by omega
    simp [List.getD_eq_getElem?_getD, List.getElem?_eq_getElem this]) _ Tryz.underlying9
def be1 (n : Int) : ByteArray := strOfNums [n % 256]
set_option maxRecDepth 100000 in
theorem put1_t (n : Int) (w : World) (h0 : 0 ≤ n) (h1 : n < 18446744073709551616) : Calls Tryz.prog 46 #[.int .u64 n, .int .i64 1] w fun e w' => e = .returned (.string (be1 n)) ∧ Below w.heap.size w w' := by
  have hmk : ∀ w : World, (Instr.makeSlice 42 (.int .i64 1) (.int .i64 1)).run Tryz.prog w = .ok (.slice (some ⟨w.heap.size, 0, none⟩) 1 1) (w.alloc (.cells #[.int .u8 0] 5)) := fun _ => by kernel_rfl
  have hcv := fun x0 => conv_new w _ rfl [x0] 1 rfl #[.int .u8 x0] rfl
  go_enter Tryz.func46, Tryz.ntmps46
  go_wp2
  go_rounds 2
  go_ret
  exact ⟨rfl, (Below.refl _ _).alloc (Nat.le_refl _) _⟩
def be2 (n : Int) : ByteArray := strOfNums [n / 256 % 256, n % 256]
set_option maxRecDepth 100000 in
theorem put2_t (n : Int) (w : World) (h0 : 0 ≤ n) (h1 : n < 18446744073709551616) : Calls Tryz.prog 46 #[.int .u64 n, .int .i64 2] w fun e w' => e = .returned (.string (be2 n)) ∧ Below w.heap.size w w' := by
  have hmk : ∀ w : World, (Instr.makeSlice 42 (.int .i64 2) (.int .i64 2)).run Tryz.prog w = .ok (.slice (some ⟨w.heap.size, 0, none⟩) 2 2) (w.alloc (.cells #[.int .u8 0, .int .u8 0] 5)) := fun _ => by kernel_rfl
  have hcv := fun x0 x1 => conv_new w _ rfl [x0, x1] 2 rfl #[.int .u8 x0, .int .u8 x1] rfl
  go_enter Tryz.func46, Tryz.ntmps46
  go_wp2
  go_rounds 3
  go_ret
  exact ⟨rfl, (Below.refl _ _).alloc (Nat.le_refl _) _⟩
def be4 (n : Int) : ByteArray := strOfNums [n / 16777216 % 256, n / 65536 % 256, n / 256 % 256, n % 256]
set_option maxRecDepth 100000 in
theorem put4_t (n : Int) (w : World) (h0 : 0 ≤ n) (h1 : n < 18446744073709551616) : Calls Tryz.prog 46 #[.int .u64 n, .int .i64 4] w fun e w' => e = .returned (.string (be4 n)) ∧ Below w.heap.size w w' := by
  have hmk : ∀ w : World, (Instr.makeSlice 42 (.int .i64 4) (.int .i64 4)).run Tryz.prog w = .ok (.slice (some ⟨w.heap.size, 0, none⟩) 4 4) (w.alloc (.cells #[.int .u8 0, .int .u8 0, .int .u8 0, .int .u8 0] 5)) := fun _ => by kernel_rfl
  have hcv := fun x0 x1 x2 x3 => conv_new w _ rfl [x0, x1, x2, x3] 4 rfl #[.int .u8 x0, .int .u8 x1, .int .u8 x2, .int .u8 x3] rfl
  go_enter Tryz.func46, Tryz.ntmps46
  go_wp2
  go_rounds 5
  go_ret
  exact ⟨rfl, (Below.refl _ _).alloc (Nat.le_refl _) _⟩
end Go.Proofs.YtjlkhihlbdokpaaGreat
/- varint.Bytes; ustring.Binary: bytes of numbers and of texts with their length. -/
namespace Go.Proofs.YtjlkhihlbdokpaaGreat
open Go.RowKit
set_option maxHeartbeats 1000000
set_option linter.unusedVariables false
set_option linter.unusedSimpArgs false
/-- Bytes of the call's own. -/
def OwnB (w : World) (base : Nat) (v : Value) (xs : List Int) : Prop := w.ownsRow base 5 1 v xs.length (xs.map (Value.int .u8))
theorem info_u8 : (Tryz.prog.info? 5).map (fun i => (i.zero, i.size, i.bytes)) = some (some (.int .u8 0), 1, 1) := by kernel_rfl
theorem ownb_string {w : World} {b : Nat} {v : Value} {xs : List Int} (h : OwnB w b v xs) : (convert 42 9 v).run Tryz.prog w = .ok (.string (strOfNums xs)) w := by
  rcases h.2 with ⟨rfl, h0⟩ | ⟨g, cap, cur, rfl, _⟩
  · obtain rfl : xs = [] := List.eq_nil_of_length_eq_zero h0
    exact run_convert_bytes_nil w 42 5 Tryz.underlying42 Tryz.underlying5 0 0 9 Tryz.underlying9
  · refine run_convert_bytes_arg w 42 5 Tryz.underlying42 Tryz.underlying5 g 0 xs.length cap xs rfl (fun i hi => ?_) 9 Tryz.underlying9
    have hc := World.ownsRow.cells h (g := g) rfl i (.int .u8 (xs.getD i 0)) (by simp [List.getD_eq_getElem?_getD, List.getElem?_eq_getElem hi])
    rw [show (⟨g, 0 + i, none⟩ : Addr) = (⟨g, 0, none⟩ : Addr).add i from by unfold Addr.add; split <;> simp_all]
    exact hc
theorem ownb_ge {w : World} {b : Nat} {v : Value} {xs : List Int} (h : OwnB w b v xs) : ∀ k, v.ownBlock = some k → b ≤ k := fun k hk => (World.ownsRow.lt h k hk).1
theorem ownb_join {w : World} {b : Nat} {v : Value} {xs ys : List Int} {n : Nat} (h : w.ownsRow b 5 1 v (xs.length + n) (xs.map (Value.int .u8) ++ ys.map (Value.int .u8))) (hn : ys.length = n) : OwnB w b v (xs ++ ys) := by
  subst hn
  unfold OwnB
  rw [List.length_append, List.map_append]
  exact h
theorem ownb_below {w w1 : World} {b : Nat} {v : Value} {xs : List Int} (h : OwnB w b v xs) (hb : Below w.heap.size w w1) : OwnB w1 b v xs :=
  World.ownsRow.kept h (row := none) ⟨hb.os, hb.tape, hb.output, hb.size, fun i hi _ => hb.block i hi⟩ (by cases v.ownBlock <;> simp)
theorem ones_one {x : Value} (h : x.oneCell' = true) : ∀ u ∈ [x], u.oneCell' = true := by
  intro u hu
  simp at hu
  subst hu
  exact h
theorem size_le {w wr : World} {o : Obj} (h : w.heap.size ≤ wr.heap.size) : w.heap.size ≤ (wr.alloc o).heap.size := by simp; omega
theorem newb_one (w : World) (x : Value) (T : TypeId) : ∀ (j : Nat) (u : Value), [x][j]? = some u → (w.alloc (.cells #[x] T)).cell? ((⟨w.heap.size, 0, none⟩ : Addr).add j) = some u := by
  intro j u h
  match j, h with
  | 0, h =>
    simp at h; subst h
    rw [show (⟨w.heap.size, 0, none⟩ : Addr).add 0 = ⟨w.heap.size, 0, none⟩ from rfl, cell_of_row _ _ _ _ _ _ (heap_alloc_new w _)]; rfl
def viMay (n : Int) : Bool := decide (0 ≤ n) && decide (n ≤ 268435455)
theorem vimay_t (n : Int) (w : World) : Calls Tryz.prog 164 #[.int .i64 n] w fun e w' => e = .returned (.bool (viMay n)) ∧ w = w' := by
  by_cases h0 : 0 ≤ n
  · have HE : Hid (viMay n = decide (n ≤ 268435455)) := Lib.hid (by simp [viMay, h0])
    go_enter Tryz.func164, Tryz.ntmps164
    go_wp2
    go_ret
    exact ⟨by rw [HE.out]; rfl, rfl⟩
  · have HE : Hid (viMay n = false) := Lib.hid (by simp [viMay, h0])
    have g0 : decide (0 ≤ n) = false := by simp [h0]
    go_enter Tryz.func164, Tryz.ntmps164
    go_wp2
    go_ret
    exact ⟨by rw [HE.out]; rfl, rfl⟩
/-- A variable byte integer's bytes. -/
def viL : Nat → Int → List Int
  | 0, n => [n]
  | f + 1, n => if 128 ≤ n then (n % 128 + 128) :: viL f (n / 128) else [n]
def viCap : Nat → Int
  | 0 => 128
  | f + 1 => viCap f * 128
def viS (n : Int) : ByteArray := strOfNums (viL 3 n)
theorem or128 {x : Int} (h0 : 0 ≤ x) (h1 : x < 128) : bits BinOp.or IntKind.u8 x 128 = x + 128 := by
  obtain ⟨n, rfl⟩ := Int.eq_ofNat_of_zero_le h0
  exact (show ∀ n : Nat, n < 128 → bits BinOp.or IntKind.u8 (n : Int) 128 = (n : Int) + 128 from by decide +kernel) n (by omega)
set_option maxRecDepth 100000 in
theorem vibytes_t (n : Int) (w : World) (h0 : 0 ≤ n) (h1 : n ≤ 268435455) : Calls Tryz.prog 119 #[.int .i64 n] w fun e w' => e = .returned (.tuple #[.string (viS n), .int .i64 0]) ∧ Below w.heap.size w w' := by
  obtain ⟨i0, hif, hz0, hz1, hz2⟩ := info_parts info_u8
  go_enter Tryz.func119, Tryz.ntmps119
  go_wp2_with fail
  refine (vimay_t n _).mono ?_
  rintro e w1 ⟨rfl, rfl⟩
  rw [show viMay n = true from by simp [viMay, h0, h1]]
  go_wp2
  go_loopw [0, 4] (fun v0 v4 wr => ∃ (cur : Int) (f : Nat) (out : List Int), 0 ≤ cur ∧ cur ≤ 268435455 ∧ cur < viCap f ∧ out.length + f = 3 ∧ out ++ viL f cur = viL 3 n ∧ v0 = .int .i64 cur ∧ OwnB wr w.heap.size v4 out ∧ Below w.heap.size w wr) (fun v0 _ _ => (intOf v0).toNat)
  case atStart => exact ⟨n, 3, [], by omega, by omega, by simp [viCap]; omega, rfl, rfl, rfl, World.ownsRow_nil _ _ _ _, Below.refl _ _⟩
  case round =>
    obtain ⟨cur, f, out, hc0, hc1, hcap, hlen, hout, rfl, hown, hbel⟩ := hrel
    have HO := Lib.hid (⟨hown, hbel⟩ : _ ∧ _)
    have HE := Lib.hid hout
    have HL := Lib.hid hlen
    have HL3 : Hid (out.length + 1 ≤ maxLen ∧ (out.length + 1) * 1 ≤ 140737488355328) := Lib.hid ⟨by unfold maxLen; omega, by omega⟩
    clear hown hbel hout hlen
    by_cases hge : 128 ≤ cur
    · obtain ⟨f, rfl⟩ : ∃ g, f = g + 1 := by
        cases f with
        | zero => simp [viCap] at hcap; omega
        | succ f => exact ⟨f, rfl⟩
      have HC : Hid (cur / 128 < viCap f) := Lib.hid (by simp only [viCap] at hcap; omega)
      have hor := or128 (x := cur % 128) (by omega) (by omega)
      have HN : Hid ((out ++ [cur % 128 + 128]) ++ viL f (cur / 128) = viL 3 n) := Lib.hid (by rw [← HE.out]; simp [viL, hge])
      clear hcap
      go_wp2_with (at_builtin; refine wpList_append_own _ rfl _ _ 42 rfl w.heap.size 5 i0 (.int .u8 0) 1 1 Tryz.underlying42 hif hz0 hz1 hz2 rfl (by decide) _ out.length (out.map (Value.int .u8)) rfl (HO.out.1.alloc _) ⟨wr.heap.size, 0, none⟩ 1 1 [.int .u8 (cur % 128 + 128)] rfl rfl (newb_one _ _ _) (ones_one rfl) HL3.out.1 HL3.out.2 (size_le HO.out.2.size) ?_)
      intro v' w3 hown3 hgrow3 _
      have HG := Lib.hid (⟨ownb_join (ys := [cur % 128 + 128]) hown3 rfl, (HO.out.2.alloc HO.out.2.size _).grown hgrow3 (by have := HO.out.2.size; simp; omega) (fun k h => ownb_ge HO.out.1 _ h)⟩ : OwnB w3 w.heap.size v' (out ++ [cur % 128 + 128]) ∧ Below w.heap.size w w3)
      clear hown3 hgrow3 HO
      go_wp2
      go_roundw
      case rel => exact ⟨cur / 128, f, out ++ [cur % 128 + 128], by omega, by omega, HC.out, by have := HL.out; simp; omega, HN.out, rfl, HG.out.1, HG.out.2⟩
      case measure => simp [intOf]; omega
    · have HN : Hid (viS n = strOfNums (out ++ [cur])) := Lib.hid (by
        rw [viS, ← HE.out]
        cases f with
        | zero => rfl
        | succ f => simp [viL, hge])
      go_wp2_with (at_builtin; refine wpList_append_own _ rfl _ _ 42 rfl w.heap.size 5 i0 (.int .u8 0) 1 1 Tryz.underlying42 hif hz0 hz1 hz2 rfl (by decide) _ out.length (out.map (Value.int .u8)) rfl (HO.out.1.alloc _) ⟨wr.heap.size, 0, none⟩ 1 1 [.int .u8 cur] rfl rfl (newb_one _ _ _) (ones_one rfl) HL3.out.1 HL3.out.2 (size_le HO.out.2.size) ?_)
      intro v' w3 hown3 hgrow3 _
      have hj := ownb_join (ys := [cur]) hown3 rfl
      have hcv := ownb_string hj
      have HG := Lib.hid ((HO.out.2.alloc HO.out.2.size _).grown hgrow3 (by have := HO.out.2.size; simp; omega) (fun k h => ownb_ge HO.out.1 _ h))
      clear hown3 hgrow3 HO hj
      go_wp2
      go_ret2
      exact ⟨by rw [HN.out]; rfl, HG.out⟩
set_option maxRecDepth 100000 in
theorem vibytes_no (n : Int) (w : World) (h : viMay n = false) : Calls Tryz.prog 119 #[.int .i64 n] w fun e w' => e = .returned (.tuple #[.string ByteArray.empty, .int .i64 2]) ∧ Below w.heap.size w w' := by
  have H := Lib.hid h
  clear h
  go_enter Tryz.func119, Tryz.ntmps119
  go_wp2_with fail
  refine (vimay_t n _).mono ?_
  rintro e w1 ⟨rfl, rfl⟩
  rw [H.out]
  go_wp2
  go_ret2
  exact ⟨rfl, Below.refl _ _⟩
/-- Bytes with their length ahead. -/
def framedS (s : ByteArray) : ByteArray := be2 s.size ++ s
set_option maxRecDepth 100000 in
theorem framed_t (s : ByteArray) (w : World) (h : s.size ≤ 140737488351232) : Calls Tryz.prog 157 #[.string s] w fun e w' => e = .returned (.string (framedS s)) ∧ Below w.heap.size w w' := by
  go_enter Tryz.func157, Tryz.ntmps157
  go_wp2_with fail
  refine (put2_t _ _ (by omega) (by omega)).mono ?_
  rintro e w1 ⟨rfl, hb⟩
  have HB := Lib.hid hb
  clear hb
  have hsz : (be2 (s.size : Int)).size = 2 := by simp [be2, strOfNums_size]
  have HE : Hid (framedS s = be2 (s.size : Int) ++ s) := Lib.hid rfl
  have hlt : ¬ 9223372036854775807 < (be2 (s.size : Int)).size + s.size := by omega
  generalize be2 (s.size : Int) = b at *
  go_wp2
  go_ret
  exact ⟨by rw [HE.out]; rfl, HB.out⟩
set_option maxRecDepth 100000 in
theorem binary_t (s : ByteArray) (w : World) (h : s.size ≤ 65535) : Calls Tryz.prog 103 #[.string s] w fun e w' => e = .returned (.tuple #[.string (framedS s), .int .i64 0]) ∧ Below w.heap.size w w' := by
  go_enter Tryz.func103, Tryz.ntmps103
  go_wp2_with fail
  refine (framed_t s _ (by omega)).mono ?_
  rintro e w1 ⟨rfl, hb⟩
  have HB := Lib.hid hb
  clear hb
  go_wp2
  go_ret2
  exact ⟨rfl, HB.out⟩
end Go.Proofs.YtjlkhihlbdokpaaGreat
/- ustring: which texts may be. -/
namespace Go.Proofs.YtjlkhihlbdokpaaGreat
open Go.RowKit
set_option maxHeartbeats 1000000
set_option linter.unusedVariables false
set_option linter.unusedSimpArgs false
def wholeB (s : ByteArray) : Bool := decide (3 ≤ s.size) && (s.extract 0 3).toList == [239, 191, 189]
set_option maxRecDepth 100000 in
theorem whole_t (s : ByteArray) (w : World) (hs : s.size ≤ 140737488351232) : Calls Tryz.prog 158 #[.string s] w fun e w' => e = .returned (.bool (wholeB s)) ∧ w = w' := by
  by_cases h : 3 ≤ s.size
  · have HE : Hid (wholeB s = ((s.extract 0 3).toList == [239, 191, 189])) := Lib.hid (by simp [wholeB, h])
    have h3 : (3 : Int) ≤ (s.size : Int) := by omega
    go_enter Tryz.func158, Tryz.ntmps158
    go_wp2
    go_ret
    exact ⟨by rw [HE.out]; rfl, rfl⟩
  · have HE : Hid (wholeB s = false) := Lib.hid (by simp [wholeB, h])
    have h3 : decide ((3 : Int) ≤ (s.size : Int)) = false := by simp; omega
    have h4 : decide (3 ≤ s.size) = false := by simp; omega
    clear h
    go_enter Tryz.func158, Tryz.ntmps158
    go_wp2
    go_ret
    exact ⟨by rw [HE.out]; rfl, rfl⟩
def badHere (s : ByteArray) (pos : Nat) : Bool := (Utf8.decode s pos).1 == 0 || (Utf8.decode s pos).1 == 65533 && !wholeB (s.extract pos s.size)
def badAt (s : ByteArray) : Nat → Nat → Int
  | 0, _ => -1
  | f + 1, pos => if pos < s.size then if badHere s pos then (pos : Int) else badAt s f (pos + (Utf8.decode s pos).2) else -1
def badF (s : ByteArray) : Int := badAt s s.size 0
theorem width_pos (s : ByteArray) (pos : Nat) (h : pos < s.size) : 1 ≤ (Utf8.decode s pos).2 := by
  by_cases ha : (s[pos]'h).toNat < 128
  · rw [decode_ascii s pos h ha]
    exact Nat.le_refl _
  · exact (decode_high s pos h (by omega)).2
theorem badAt_end (s : ByteArray) (f pos : Nat) (h : ¬ pos < s.size) : badAt s f pos = -1 := by
  cases f with
  | zero => rfl
  | succ f => simp [badAt, h]
set_option maxRecDepth 1000000 in
theorem bad_u (s : ByteArray) (w : World) (hs : s.size ≤ 140737488351232) : Calls Tryz.prog 105 #[.string s] w fun e w' => e = .returned (.int .i64 (badF s)) ∧ Below w.heap.size w w' := by
  go_enter Tryz.func105, Tryz.ntmps105
  go_wp2
  go_loopw [3] (fun v3 w' => ∃ (pos f : Nat), w' = w.iter s pos ∧ badAt s f pos = badF s ∧ s.size ≤ pos + f) (fun _ w' => s.size - w'.iterPos w.heap.size)
  case atStart => exact ⟨0, s.size, rfl, rfl, by omega⟩
  case round =>
    obtain ⟨pos, f, rfl, hc, hb⟩ := hrel
    by_cases hp : pos < s.size
    · obtain ⟨f, rfl⟩ : ∃ g, f = g + 1 := ⟨f - 1, by omega⟩
      have hnx : ∀ ty, (Instr.next (.pointer (some ⟨w.heap.size, 0, none⟩)) true ty).run Tryz.prog (w.iter s pos) = _ := fun ty => run_next_any w s pos ty hp
      have hwd := width_pos s pos hp
      have hd := decode_le s pos
      have hsz := Lib.hid hs
      have HC : Hid (badF s = if badHere s pos then (pos : Int) else badAt s f (pos + (Utf8.decode s pos).2)) := Lib.hid (by rw [← hc]; simp [badAt, hp])
      have HH : Hid (badHere s pos = ((Utf8.decode s pos).1 == 0 || (Utf8.decode s pos).1 == 65533 && !wholeB (s.extract pos s.size))) := Lib.hid rfl
      clear hc
      generalize hde : Utf8.decode s pos = de at *
      obtain ⟨c, wd⟩ := de
      have HD := Lib.hid hde
      clear hde
      simp only [] at hwd hd
      by_cases h0 : c = 0
      · subst h0
        have HF : Hid (badF s = (pos : Int)) := Lib.hid (by rw [HC.out, HH.out]; simp)
        go_wp2
        go_ret
        exact ⟨by rw [HF.out]; rfl, (Below.refl _ _).alloc (Nat.le_refl _) _⟩
      · have g0 : ((c : Int) == 0) = false := by simp; omega
        by_cases h1 : c = 65533
        · subst h1
          go_wp2_with fail
          refine (whole_t (s.extract pos s.size) _ (by simp; omega)).mono ?_
          rintro e w1 ⟨rfl, rfl⟩
          cases hw : wholeB (s.extract pos s.size) with
          | true =>
            have HF : Hid (badF s = badAt s f (pos + wd)) := Lib.hid (by rw [HC.out, HH.out, hw]; simp)
            clear hw
            go_wp2
            go_roundw
            case rel => exact ⟨pos + wd, f, rfl, HF.out.symm, by omega⟩
            case measure => simp; omega
          | false =>
            have HF : Hid (badF s = (pos : Int)) := Lib.hid (by rw [HC.out, HH.out, hw]; simp)
            clear hw
            go_wp2
            go_ret
            exact ⟨by rw [HF.out]; rfl, (Below.refl _ _).alloc (Nat.le_refl _) _⟩
        · have g1 : ((c : Int) == 65533) = false := by simp; omega
          have HF : Hid (badF s = badAt s f (pos + wd)) := Lib.hid (by rw [HC.out, HH.out]; simp [h0, h1])
          clear h0 h1
          go_wp2
          go_roundw
          case rel => exact ⟨pos + wd, f, rfl, HF.out.symm, by omega⟩
          case measure => simp; omega
    · have hnx : ∀ ty, (Instr.next (.pointer (some ⟨w.heap.size, 0, none⟩)) true ty).run Tryz.prog (w.iter s pos) = _ := fun ty => run_next_end w s pos ty hp
      have HF : Hid (badF s = -1) := Lib.hid (by rw [← hc, badAt_end s f pos hp])
      clear hc
      go_wp2
      go_ret
      exact ⟨by rw [HF.out]; rfl, (Below.refl _ _).alloc (Nat.le_refl _) _⟩
def validU (s : ByteArray) : Bool := decide (s.size ≤ 65535) && badF s == -1
set_option maxRecDepth 100000 in
theorem validu_t (s : ByteArray) (w : World) (hs : s.size ≤ 140737488351232) : Calls Tryz.prog 52 #[.string s] w fun e w' => e = .returned (.bool (validU s)) ∧ Below w.heap.size w w' := by
  by_cases h : s.size ≤ 65535
  · have HE : Hid (validU s = (badF s == -1)) := Lib.hid (by simp [validU, h])
    have h3 : decide ((s.size : Int) ≤ 65535) = true := by simp; omega
    go_enter Tryz.func52, Tryz.ntmps52
    go_wp2_with fail
    refine (bad_u s _ hs).mono ?_
    rintro e w1 ⟨rfl, hb⟩
    have HB := Lib.hid hb
    clear hb
    go_wp2
    go_ret
    exact ⟨by rw [HE.out]; rfl, HB.out⟩
  · have HE : Hid (validU s = false) := Lib.hid (by simp [validU, h])
    have h3 : decide ((s.size : Int) ≤ 65535) = false := by simp; omega
    have h4 : decide (s.size ≤ 65535) = false := by simp; omega
    clear h
    go_enter Tryz.func52, Tryz.ntmps52
    go_wp2
    go_ret
    exact ⟨by rw [HE.out]; rfl, Below.refl _ _⟩
end Go.Proofs.YtjlkhihlbdokpaaGreat
/- prop.rules: the map of all properties; what a look-up in it answers. -/
namespace Go.Proofs.YtjlkhihlbdokpaaGreat
open Go.RowKit Go.MapKept
set_option maxHeartbeats 1000000
set_option linter.unusedVariables false
set_option linter.unusedSimpArgs false
structure Rule where
  shape : Int
  kinds : Int
  least : Int
  most : Int
def Rule.val (r : Rule) : Value := .agg #[.int .i64 r.shape, .int .i64 r.kinds, .int .u32 r.least, .int .u32 r.most]
def ruleL : List (Int × Rule) := [(1, ⟨1, 65544, 0, 1⟩), (2, ⟨3, 65544, 0, 4294967295⟩), (3, ⟨5, 65544, 0, 0⟩), (8, ⟨5, 65544, 0, 0⟩), (9, ⟨6, 65544, 0, 0⟩), (11, ⟨4, 264, 1, 268435455⟩), (17, ⟨3, 16390, 0, 4294967295⟩), (18, ⟨5, 4, 0, 0⟩), (19, ⟨2, 4, 0, 65535⟩), (21, ⟨5, 32774, 0, 0⟩), (22, ⟨6, 32774, 0, 0⟩), (23, ⟨1, 2, 0, 1⟩), (24, ⟨3, 65536, 0, 4294967295⟩), (25, ⟨1, 2, 0, 1⟩), (26, ⟨5, 4, 0, 0⟩), (28, ⟨5, 16388, 0, 0⟩), (31, ⟨5, 51956, 0, 0⟩), (33, ⟨2, 6, 1, 65535⟩), (34, ⟨2, 6, 0, 65535⟩), (35, ⟨2, 8, 1, 65535⟩), (36, ⟨1, 4, 0, 1⟩), (37, ⟨1, 4, 0, 1⟩), (38, ⟨7, 118782, 0, 0⟩), (39, ⟨3, 6, 1, 4294967295⟩), (40, ⟨1, 4, 0, 1⟩), (41, ⟨1, 4, 0, 1⟩), (42, ⟨1, 4, 0, 1⟩)]
def ents : List (Int × Rule) → Nat → List MapEntry
  | [], _ => []
  | p :: t, i => ⟨.int .i64 p.1, p.2.val, i⟩ :: ents t (i + 1)
def ruleEs (n : Nat) : Array MapEntry := (ents (ruleL.take n) 0).toArray
def ruleIn (id : Int) : List (Int × Rule) → Option Rule
  | [] => none
  | p :: t => if id == p.1 then some p.2 else ruleIn id t
def ruleOf (id : Int) : Rule := (ruleIn id ruleL).getD ⟨0, 0, 0, 0⟩
theorem findNow_ents (id : Int) : ∀ (l : List (Int × Rule)) (i j : Nat), ∃ m, Instr.findNow (.int .i64) (.int .i64 id) (ents l i) j = some ((ruleIn id l).map fun r => (m, r.val))
  | [], _, _ => ⟨0, rfl⟩
  | p :: t, i, j => by
    obtain ⟨m, hm⟩ := findNow_ents id t (i + 1) (j + 1)
    by_cases h : id = p.1
    · refine ⟨j, ?_⟩
      simp [ents, Instr.findNow, Instr.sameNow, ruleIn, h]
    · refine ⟨m, ?_⟩
      have h' : (id == p.1) = false := by simpa using h
      simp only [ents, Instr.findNow, Instr.sameNow, ruleIn, h', if_true]
      simpa using hm
theorem setMap (W : World) (o o' : Obj) : ({ W.alloc o with heap := (W.alloc o).heap.setIfInBounds W.heap.size o' } : World) = W.alloc o' := by
  simp only [World.alloc]
  congr 1
  apply Array.ext'
  simp [Array.setIfInBounds, Array.toList_push]
theorem getMap (W : World) (o : Obj) : (W.alloc o).heap[W.heap.size]? = some o := heap_alloc_new W o
theorem run_insert (W : World) (es : Array MapEntry) (n : Nat) (k : Int) (v : Value) (hf : Instr.findNow (.int .i64) (.int .i64 k) es.toList 0 = some none) :
    (Instr.mapUpdate 114 (.map (some W.heap.size)) (.int .i64 k) v).run Tryz.prog (W.alloc (.map es n)) = .ok () (W.alloc (.map (es.push ⟨.int .i64 k, v, n⟩) (n + 1))) := by
  have hb := getMap W (.map es n)
  have hc : (Instr.checkKey false 10000 3 (.int .i64 k)).run Tryz.prog (W.alloc (.map es n)) = .ok () (W.alloc (.map es n)) := run_checkKey Tryz.underlying3 (show IsKey (.int .i64) (.int .i64 k) from rfl) false 9999
  have hk : (Instr.findKey 3 (.int .i64 k) es.toList).run Tryz.prog (W.alloc (.map es n)) = .ok none (W.alloc (.map es n)) := run_findKey Tryz.underlying3 hf
  have hs := setMap W (.map es n) (.map (es.push ⟨.int .i64 k, v, n⟩) (n + 1))
  simp only [Instr.mapUpdate, Sem.run_bind, run_underlying Tryz.underlying114, Result.andThen, getObj, setObj, Sem.run, hb, hc, hk, hs]
theorem run_rule (w : World) (B : Nat) (id : Int) (hb : w.heap[B]? = some (.map (ruleEs 27) 27)) :
    (Instr.lookup 114 (.map (some B)) (.int .i64 id) false).run Tryz.prog w = .ok (.agg #[.int .i64 (ruleOf id).shape, .int .i64 (ruleOf id).kinds, .int .u32 (ruleOf id).least, .int .u32 (ruleOf id).most]) w := by
  obtain ⟨m, hm⟩ := findNow_ents id ruleL 0 0
  have hf : Instr.findNow (.int .i64) (.int .i64 id) (ruleEs 27).toList 0 = some ((ruleIn id ruleL).map fun r => (m, r.val)) := hm
  have hc : (Instr.checkKey (ruleEs 27).isEmpty 10000 3 (.int .i64 id)).run Tryz.prog w = .ok () w := run_checkKey Tryz.underlying3 (show IsKey (.int .i64) (.int .i64 id) from rfl) _ 9999
  have hk := run_findKey (P := Tryz.prog) (w := w) Tryz.underlying3 hf
  have hz : (zeroValue 119).run Tryz.prog w = .ok (.agg #[.int .i64 0, .int .i64 0, .int .u32 0, .int .u32 0]) w := by kernel_rfl
  unfold ruleOf
  cases hr : ruleIn id ruleL with
  | none =>
    rw [hr] at hk
    simp only [Option.map_none] at hk
    simp [Instr.lookup, Sem.run_bind, run_underlying Tryz.underlying114, Result.andThen, getObj, Sem.run, hb, hc, hk, hz]
  | some r =>
    rw [hr] at hk
    simp only [Option.map_some] at hk
    simp [Instr.lookup, Sem.run_bind, run_underlying Tryz.underlying114, Result.andThen, getObj, Sem.run, hb, hc, hk, Rule.val]
set_option maxRecDepth 100000 in
theorem rules_t (w : World) : Calls Tryz.prog 114 #[] w fun e w' => ∃ B, B = w.heap.size ∧ e = .returned (.map (some B)) ∧ w' = w.alloc (.map (ruleEs 27) 27) := by
  have hmm := @run_makeMap Tryz.prog
  have u0 : (Instr.mapUpdate 114 (.map (some w.heap.size)) (.int .i64 1) (.agg #[.int .i64 1, .int .i64 65544, .int .u32 0, .int .u32 1])).run Tryz.prog (w.alloc (.map #[] 0)) = .ok () (w.alloc (.map (ruleEs 1) 1)) := (run_insert w #[] 0 1 _ (by kernel_rfl)).trans (congrArg (fun z => Result.ok () (w.alloc (.map z 1))) (show (#[] : Array MapEntry).push ⟨.int .i64 1, .agg #[.int .i64 1, .int .i64 65544, .int .u32 0, .int .u32 1], 0⟩ = ruleEs 1 from by kernel_rfl))
  have u1 : (Instr.mapUpdate 114 (.map (some w.heap.size)) (.int .i64 2) (.agg #[.int .i64 3, .int .i64 65544, .int .u32 0, .int .u32 4294967295])).run Tryz.prog (w.alloc (.map (ruleEs 1) 1)) = .ok () (w.alloc (.map (ruleEs 2) 2)) := (run_insert w (ruleEs 1) 1 2 _ (by kernel_rfl)).trans (congrArg (fun z => Result.ok () (w.alloc (.map z 2))) (show ((ruleEs 1) : Array MapEntry).push ⟨.int .i64 2, .agg #[.int .i64 3, .int .i64 65544, .int .u32 0, .int .u32 4294967295], 1⟩ = ruleEs 2 from by kernel_rfl))
  have u2 : (Instr.mapUpdate 114 (.map (some w.heap.size)) (.int .i64 3) (.agg #[.int .i64 5, .int .i64 65544, .int .u32 0, .int .u32 0])).run Tryz.prog (w.alloc (.map (ruleEs 2) 2)) = .ok () (w.alloc (.map (ruleEs 3) 3)) := (run_insert w (ruleEs 2) 2 3 _ (by kernel_rfl)).trans (congrArg (fun z => Result.ok () (w.alloc (.map z 3))) (show ((ruleEs 2) : Array MapEntry).push ⟨.int .i64 3, .agg #[.int .i64 5, .int .i64 65544, .int .u32 0, .int .u32 0], 2⟩ = ruleEs 3 from by kernel_rfl))
  have u3 : (Instr.mapUpdate 114 (.map (some w.heap.size)) (.int .i64 8) (.agg #[.int .i64 5, .int .i64 65544, .int .u32 0, .int .u32 0])).run Tryz.prog (w.alloc (.map (ruleEs 3) 3)) = .ok () (w.alloc (.map (ruleEs 4) 4)) := (run_insert w (ruleEs 3) 3 8 _ (by kernel_rfl)).trans (congrArg (fun z => Result.ok () (w.alloc (.map z 4))) (show ((ruleEs 3) : Array MapEntry).push ⟨.int .i64 8, .agg #[.int .i64 5, .int .i64 65544, .int .u32 0, .int .u32 0], 3⟩ = ruleEs 4 from by kernel_rfl))
  have u4 : (Instr.mapUpdate 114 (.map (some w.heap.size)) (.int .i64 9) (.agg #[.int .i64 6, .int .i64 65544, .int .u32 0, .int .u32 0])).run Tryz.prog (w.alloc (.map (ruleEs 4) 4)) = .ok () (w.alloc (.map (ruleEs 5) 5)) := (run_insert w (ruleEs 4) 4 9 _ (by kernel_rfl)).trans (congrArg (fun z => Result.ok () (w.alloc (.map z 5))) (show ((ruleEs 4) : Array MapEntry).push ⟨.int .i64 9, .agg #[.int .i64 6, .int .i64 65544, .int .u32 0, .int .u32 0], 4⟩ = ruleEs 5 from by kernel_rfl))
  have u5 : (Instr.mapUpdate 114 (.map (some w.heap.size)) (.int .i64 11) (.agg #[.int .i64 4, .int .i64 264, .int .u32 1, .int .u32 268435455])).run Tryz.prog (w.alloc (.map (ruleEs 5) 5)) = .ok () (w.alloc (.map (ruleEs 6) 6)) := (run_insert w (ruleEs 5) 5 11 _ (by kernel_rfl)).trans (congrArg (fun z => Result.ok () (w.alloc (.map z 6))) (show ((ruleEs 5) : Array MapEntry).push ⟨.int .i64 11, .agg #[.int .i64 4, .int .i64 264, .int .u32 1, .int .u32 268435455], 5⟩ = ruleEs 6 from by kernel_rfl))
  have u6 : (Instr.mapUpdate 114 (.map (some w.heap.size)) (.int .i64 17) (.agg #[.int .i64 3, .int .i64 16390, .int .u32 0, .int .u32 4294967295])).run Tryz.prog (w.alloc (.map (ruleEs 6) 6)) = .ok () (w.alloc (.map (ruleEs 7) 7)) := (run_insert w (ruleEs 6) 6 17 _ (by kernel_rfl)).trans (congrArg (fun z => Result.ok () (w.alloc (.map z 7))) (show ((ruleEs 6) : Array MapEntry).push ⟨.int .i64 17, .agg #[.int .i64 3, .int .i64 16390, .int .u32 0, .int .u32 4294967295], 6⟩ = ruleEs 7 from by kernel_rfl))
  have u7 : (Instr.mapUpdate 114 (.map (some w.heap.size)) (.int .i64 18) (.agg #[.int .i64 5, .int .i64 4, .int .u32 0, .int .u32 0])).run Tryz.prog (w.alloc (.map (ruleEs 7) 7)) = .ok () (w.alloc (.map (ruleEs 8) 8)) := (run_insert w (ruleEs 7) 7 18 _ (by kernel_rfl)).trans (congrArg (fun z => Result.ok () (w.alloc (.map z 8))) (show ((ruleEs 7) : Array MapEntry).push ⟨.int .i64 18, .agg #[.int .i64 5, .int .i64 4, .int .u32 0, .int .u32 0], 7⟩ = ruleEs 8 from by kernel_rfl))
  have u8 : (Instr.mapUpdate 114 (.map (some w.heap.size)) (.int .i64 19) (.agg #[.int .i64 2, .int .i64 4, .int .u32 0, .int .u32 65535])).run Tryz.prog (w.alloc (.map (ruleEs 8) 8)) = .ok () (w.alloc (.map (ruleEs 9) 9)) := (run_insert w (ruleEs 8) 8 19 _ (by kernel_rfl)).trans (congrArg (fun z => Result.ok () (w.alloc (.map z 9))) (show ((ruleEs 8) : Array MapEntry).push ⟨.int .i64 19, .agg #[.int .i64 2, .int .i64 4, .int .u32 0, .int .u32 65535], 8⟩ = ruleEs 9 from by kernel_rfl))
  have u9 : (Instr.mapUpdate 114 (.map (some w.heap.size)) (.int .i64 21) (.agg #[.int .i64 5, .int .i64 32774, .int .u32 0, .int .u32 0])).run Tryz.prog (w.alloc (.map (ruleEs 9) 9)) = .ok () (w.alloc (.map (ruleEs 10) 10)) := (run_insert w (ruleEs 9) 9 21 _ (by kernel_rfl)).trans (congrArg (fun z => Result.ok () (w.alloc (.map z 10))) (show ((ruleEs 9) : Array MapEntry).push ⟨.int .i64 21, .agg #[.int .i64 5, .int .i64 32774, .int .u32 0, .int .u32 0], 9⟩ = ruleEs 10 from by kernel_rfl))
  have u10 : (Instr.mapUpdate 114 (.map (some w.heap.size)) (.int .i64 22) (.agg #[.int .i64 6, .int .i64 32774, .int .u32 0, .int .u32 0])).run Tryz.prog (w.alloc (.map (ruleEs 10) 10)) = .ok () (w.alloc (.map (ruleEs 11) 11)) := (run_insert w (ruleEs 10) 10 22 _ (by kernel_rfl)).trans (congrArg (fun z => Result.ok () (w.alloc (.map z 11))) (show ((ruleEs 10) : Array MapEntry).push ⟨.int .i64 22, .agg #[.int .i64 6, .int .i64 32774, .int .u32 0, .int .u32 0], 10⟩ = ruleEs 11 from by kernel_rfl))
  have u11 : (Instr.mapUpdate 114 (.map (some w.heap.size)) (.int .i64 23) (.agg #[.int .i64 1, .int .i64 2, .int .u32 0, .int .u32 1])).run Tryz.prog (w.alloc (.map (ruleEs 11) 11)) = .ok () (w.alloc (.map (ruleEs 12) 12)) := (run_insert w (ruleEs 11) 11 23 _ (by kernel_rfl)).trans (congrArg (fun z => Result.ok () (w.alloc (.map z 12))) (show ((ruleEs 11) : Array MapEntry).push ⟨.int .i64 23, .agg #[.int .i64 1, .int .i64 2, .int .u32 0, .int .u32 1], 11⟩ = ruleEs 12 from by kernel_rfl))
  have u12 : (Instr.mapUpdate 114 (.map (some w.heap.size)) (.int .i64 24) (.agg #[.int .i64 3, .int .i64 65536, .int .u32 0, .int .u32 4294967295])).run Tryz.prog (w.alloc (.map (ruleEs 12) 12)) = .ok () (w.alloc (.map (ruleEs 13) 13)) := (run_insert w (ruleEs 12) 12 24 _ (by kernel_rfl)).trans (congrArg (fun z => Result.ok () (w.alloc (.map z 13))) (show ((ruleEs 12) : Array MapEntry).push ⟨.int .i64 24, .agg #[.int .i64 3, .int .i64 65536, .int .u32 0, .int .u32 4294967295], 12⟩ = ruleEs 13 from by kernel_rfl))
  have u13 : (Instr.mapUpdate 114 (.map (some w.heap.size)) (.int .i64 25) (.agg #[.int .i64 1, .int .i64 2, .int .u32 0, .int .u32 1])).run Tryz.prog (w.alloc (.map (ruleEs 13) 13)) = .ok () (w.alloc (.map (ruleEs 14) 14)) := (run_insert w (ruleEs 13) 13 25 _ (by kernel_rfl)).trans (congrArg (fun z => Result.ok () (w.alloc (.map z 14))) (show ((ruleEs 13) : Array MapEntry).push ⟨.int .i64 25, .agg #[.int .i64 1, .int .i64 2, .int .u32 0, .int .u32 1], 13⟩ = ruleEs 14 from by kernel_rfl))
  have u14 : (Instr.mapUpdate 114 (.map (some w.heap.size)) (.int .i64 26) (.agg #[.int .i64 5, .int .i64 4, .int .u32 0, .int .u32 0])).run Tryz.prog (w.alloc (.map (ruleEs 14) 14)) = .ok () (w.alloc (.map (ruleEs 15) 15)) := (run_insert w (ruleEs 14) 14 26 _ (by kernel_rfl)).trans (congrArg (fun z => Result.ok () (w.alloc (.map z 15))) (show ((ruleEs 14) : Array MapEntry).push ⟨.int .i64 26, .agg #[.int .i64 5, .int .i64 4, .int .u32 0, .int .u32 0], 14⟩ = ruleEs 15 from by kernel_rfl))
  have u15 : (Instr.mapUpdate 114 (.map (some w.heap.size)) (.int .i64 28) (.agg #[.int .i64 5, .int .i64 16388, .int .u32 0, .int .u32 0])).run Tryz.prog (w.alloc (.map (ruleEs 15) 15)) = .ok () (w.alloc (.map (ruleEs 16) 16)) := (run_insert w (ruleEs 15) 15 28 _ (by kernel_rfl)).trans (congrArg (fun z => Result.ok () (w.alloc (.map z 16))) (show ((ruleEs 15) : Array MapEntry).push ⟨.int .i64 28, .agg #[.int .i64 5, .int .i64 16388, .int .u32 0, .int .u32 0], 15⟩ = ruleEs 16 from by kernel_rfl))
  have u16 : (Instr.mapUpdate 114 (.map (some w.heap.size)) (.int .i64 31) (.agg #[.int .i64 5, .int .i64 51956, .int .u32 0, .int .u32 0])).run Tryz.prog (w.alloc (.map (ruleEs 16) 16)) = .ok () (w.alloc (.map (ruleEs 17) 17)) := (run_insert w (ruleEs 16) 16 31 _ (by kernel_rfl)).trans (congrArg (fun z => Result.ok () (w.alloc (.map z 17))) (show ((ruleEs 16) : Array MapEntry).push ⟨.int .i64 31, .agg #[.int .i64 5, .int .i64 51956, .int .u32 0, .int .u32 0], 16⟩ = ruleEs 17 from by kernel_rfl))
  have u17 : (Instr.mapUpdate 114 (.map (some w.heap.size)) (.int .i64 33) (.agg #[.int .i64 2, .int .i64 6, .int .u32 1, .int .u32 65535])).run Tryz.prog (w.alloc (.map (ruleEs 17) 17)) = .ok () (w.alloc (.map (ruleEs 18) 18)) := (run_insert w (ruleEs 17) 17 33 _ (by kernel_rfl)).trans (congrArg (fun z => Result.ok () (w.alloc (.map z 18))) (show ((ruleEs 17) : Array MapEntry).push ⟨.int .i64 33, .agg #[.int .i64 2, .int .i64 6, .int .u32 1, .int .u32 65535], 17⟩ = ruleEs 18 from by kernel_rfl))
  have u18 : (Instr.mapUpdate 114 (.map (some w.heap.size)) (.int .i64 34) (.agg #[.int .i64 2, .int .i64 6, .int .u32 0, .int .u32 65535])).run Tryz.prog (w.alloc (.map (ruleEs 18) 18)) = .ok () (w.alloc (.map (ruleEs 19) 19)) := (run_insert w (ruleEs 18) 18 34 _ (by kernel_rfl)).trans (congrArg (fun z => Result.ok () (w.alloc (.map z 19))) (show ((ruleEs 18) : Array MapEntry).push ⟨.int .i64 34, .agg #[.int .i64 2, .int .i64 6, .int .u32 0, .int .u32 65535], 18⟩ = ruleEs 19 from by kernel_rfl))
  have u19 : (Instr.mapUpdate 114 (.map (some w.heap.size)) (.int .i64 35) (.agg #[.int .i64 2, .int .i64 8, .int .u32 1, .int .u32 65535])).run Tryz.prog (w.alloc (.map (ruleEs 19) 19)) = .ok () (w.alloc (.map (ruleEs 20) 20)) := (run_insert w (ruleEs 19) 19 35 _ (by kernel_rfl)).trans (congrArg (fun z => Result.ok () (w.alloc (.map z 20))) (show ((ruleEs 19) : Array MapEntry).push ⟨.int .i64 35, .agg #[.int .i64 2, .int .i64 8, .int .u32 1, .int .u32 65535], 19⟩ = ruleEs 20 from by kernel_rfl))
  have u20 : (Instr.mapUpdate 114 (.map (some w.heap.size)) (.int .i64 36) (.agg #[.int .i64 1, .int .i64 4, .int .u32 0, .int .u32 1])).run Tryz.prog (w.alloc (.map (ruleEs 20) 20)) = .ok () (w.alloc (.map (ruleEs 21) 21)) := (run_insert w (ruleEs 20) 20 36 _ (by kernel_rfl)).trans (congrArg (fun z => Result.ok () (w.alloc (.map z 21))) (show ((ruleEs 20) : Array MapEntry).push ⟨.int .i64 36, .agg #[.int .i64 1, .int .i64 4, .int .u32 0, .int .u32 1], 20⟩ = ruleEs 21 from by kernel_rfl))
  have u21 : (Instr.mapUpdate 114 (.map (some w.heap.size)) (.int .i64 37) (.agg #[.int .i64 1, .int .i64 4, .int .u32 0, .int .u32 1])).run Tryz.prog (w.alloc (.map (ruleEs 21) 21)) = .ok () (w.alloc (.map (ruleEs 22) 22)) := (run_insert w (ruleEs 21) 21 37 _ (by kernel_rfl)).trans (congrArg (fun z => Result.ok () (w.alloc (.map z 22))) (show ((ruleEs 21) : Array MapEntry).push ⟨.int .i64 37, .agg #[.int .i64 1, .int .i64 4, .int .u32 0, .int .u32 1], 21⟩ = ruleEs 22 from by kernel_rfl))
  have u22 : (Instr.mapUpdate 114 (.map (some w.heap.size)) (.int .i64 38) (.agg #[.int .i64 7, .int .i64 118782, .int .u32 0, .int .u32 0])).run Tryz.prog (w.alloc (.map (ruleEs 22) 22)) = .ok () (w.alloc (.map (ruleEs 23) 23)) := (run_insert w (ruleEs 22) 22 38 _ (by kernel_rfl)).trans (congrArg (fun z => Result.ok () (w.alloc (.map z 23))) (show ((ruleEs 22) : Array MapEntry).push ⟨.int .i64 38, .agg #[.int .i64 7, .int .i64 118782, .int .u32 0, .int .u32 0], 22⟩ = ruleEs 23 from by kernel_rfl))
  have u23 : (Instr.mapUpdate 114 (.map (some w.heap.size)) (.int .i64 39) (.agg #[.int .i64 3, .int .i64 6, .int .u32 1, .int .u32 4294967295])).run Tryz.prog (w.alloc (.map (ruleEs 23) 23)) = .ok () (w.alloc (.map (ruleEs 24) 24)) := (run_insert w (ruleEs 23) 23 39 _ (by kernel_rfl)).trans (congrArg (fun z => Result.ok () (w.alloc (.map z 24))) (show ((ruleEs 23) : Array MapEntry).push ⟨.int .i64 39, .agg #[.int .i64 3, .int .i64 6, .int .u32 1, .int .u32 4294967295], 23⟩ = ruleEs 24 from by kernel_rfl))
  have u24 : (Instr.mapUpdate 114 (.map (some w.heap.size)) (.int .i64 40) (.agg #[.int .i64 1, .int .i64 4, .int .u32 0, .int .u32 1])).run Tryz.prog (w.alloc (.map (ruleEs 24) 24)) = .ok () (w.alloc (.map (ruleEs 25) 25)) := (run_insert w (ruleEs 24) 24 40 _ (by kernel_rfl)).trans (congrArg (fun z => Result.ok () (w.alloc (.map z 25))) (show ((ruleEs 24) : Array MapEntry).push ⟨.int .i64 40, .agg #[.int .i64 1, .int .i64 4, .int .u32 0, .int .u32 1], 24⟩ = ruleEs 25 from by kernel_rfl))
  have u25 : (Instr.mapUpdate 114 (.map (some w.heap.size)) (.int .i64 41) (.agg #[.int .i64 1, .int .i64 4, .int .u32 0, .int .u32 1])).run Tryz.prog (w.alloc (.map (ruleEs 25) 25)) = .ok () (w.alloc (.map (ruleEs 26) 26)) := (run_insert w (ruleEs 25) 25 41 _ (by kernel_rfl)).trans (congrArg (fun z => Result.ok () (w.alloc (.map z 26))) (show ((ruleEs 25) : Array MapEntry).push ⟨.int .i64 41, .agg #[.int .i64 1, .int .i64 4, .int .u32 0, .int .u32 1], 25⟩ = ruleEs 26 from by kernel_rfl))
  have u26 : (Instr.mapUpdate 114 (.map (some w.heap.size)) (.int .i64 42) (.agg #[.int .i64 1, .int .i64 4, .int .u32 0, .int .u32 1])).run Tryz.prog (w.alloc (.map (ruleEs 26) 26)) = .ok () (w.alloc (.map (ruleEs 27) 27)) := (run_insert w (ruleEs 26) 26 42 _ (by kernel_rfl)).trans (congrArg (fun z => Result.ok () (w.alloc (.map z 27))) (show ((ruleEs 26) : Array MapEntry).push ⟨.int .i64 42, .agg #[.int .i64 1, .int .i64 4, .int .u32 0, .int .u32 1], 26⟩ = ruleEs 27 from by kernel_rfl))
  go_enter Tryz.func114, Tryz.ntmps114
  go_wp2
  go_ret
  exact ⟨_, rfl, rfl, rfl⟩
end Go.Proofs.YtjlkhihlbdokpaaGreat
/- prop: what is wrong with one property. -/
namespace Go.Proofs.YtjlkhihlbdokpaaGreat
open Go.RowKit
set_option maxHeartbeats 1000000
set_option linter.unusedVariables false
set_option linter.unusedSimpArgs false
structure Prp where
  id : Int
  n : Int
  text : ByteArray
  value : ByteArray
def hasK (r : Rule) (kind : Int) : Bool := if kind < 1 then false else if 16 < kind then false else bits .and .i64 (r.kinds / 2 ^ kind.toNat) 1 == 1
set_option maxRecDepth 100000 in
theorem rhas_t (r : Rule) (kind : Int) (w : World) (h0 : 0 ≤ r.kinds) (h1 : r.kinds < 131072) : Calls Tryz.prog 161 #[.agg #[.int .i64 r.shape, .int .i64 r.kinds, .int .u32 r.least, .int .u32 r.most], .int .i64 kind] w fun e w' => e = .returned (.bool (hasK r kind)) ∧ Below w.heap.size w w' := by
  by_cases ha : kind < 1
  · have HE : Hid (hasK r kind = false) := Lib.hid (by simp [hasK, ha])
    have g : decide (1 ≤ kind) = false := by simp; omega
    go_enter Tryz.func161, Tryz.ntmps161
    go_wp2
    go_ret
    exact ⟨by rw [HE.out]; rfl, (Below.refl _ _).alloc (Nat.le_refl _) _⟩
  by_cases hb : 16 < kind
  · have HE : Hid (hasK r kind = false) := Lib.hid (by simp [hasK, ha, hb])
    have g : decide (kind ≤ 16) = false := by simp; omega
    go_enter Tryz.func161, Tryz.ntmps161
    go_wp2
    go_ret
    exact ⟨by rw [HE.out]; rfl, (Below.refl _ _).alloc (Nat.le_refl _) _⟩
  have HE : Hid (hasK r kind = (bits .and .i64 (r.kinds / 2 ^ kind.toNat) 1 == 1)) := Lib.hid (by simp [hasK, ha, hb])
  have g1 : 1 ≤ kind := by omega
  have g2 : kind ≤ 16 := by omega
  clear ha hb
  go_enter Tryz.func161, Tryz.ntmps161
  go_wp2
  go_ret
  exact ⟨by rw [HE.out]; rfl, (Below.refl _ _).alloc (Nat.le_refl _) _⟩
def oftenB (kind id : Int) : Bool := id == 38 || id == 11 && kind == 3
set_option maxRecDepth 100000 in
theorem often_t (kind id : Int) (w : World) : Calls Tryz.prog 163 #[.int .i64 kind, .int .i64 id] w fun e w' => e = .returned (.bool (oftenB kind id)) ∧ w = w' := by
  by_cases h38 : id = 38
  · subst h38; go_enter Tryz.func163, Tryz.ntmps163; go_wp2; go_ret; exact ⟨rfl, rfl⟩
  by_cases h11 : id = 11
  · subst h11; go_enter Tryz.func163, Tryz.ntmps163; go_wp2; go_ret; exact ⟨rfl, rfl⟩
  have HE : Hid (oftenB kind id = false) := Lib.hid (by simp [oftenB, h38, h11])
  have g1 : (id == 38) = false := by simp [h38]
  have g2 : (id == 11) = false := by simp [h11]
  clear h38 h11
  go_enter Tryz.func163, Tryz.ntmps163
  go_wp2
  go_ret
  exact ⟨by rw [HE.out]; rfl, rfl⟩
def chknF (r : Rule) (p : Prp) : Int := if p.text.toList = [] then (if (!p.value.toList.isEmpty) = true then 2 else if p.n < r.least then 9 else if r.most < p.n then 9 else 0) else 2
theorem ret_int {a b : Int} (h : a = b) : Ending.returned (.int .i64 a) = .returned (.int .i64 b) := by rw [h]
set_option maxRecDepth 100000 in
theorem chkn_t (r : Rule) (p : Prp) (w : World) : Calls Tryz.prog 162 #[.agg #[.int .i64 r.shape, .int .i64 r.kinds, .int .u32 r.least, .int .u32 r.most], .agg #[.int .i64 p.id, .int .u32 p.n, .string p.text, .string p.value]] w fun e w' => e = .returned (.int .i64 (chknF r p)) ∧ Below w.heap.size w w' := by
  have HE : Hid (chknF r p = if p.text.toList = [] then (if (!p.value.toList.isEmpty) = true then 2 else if p.n < r.least then 9 else if r.most < p.n then 9 else 0) else 2) := Lib.hid rfl
  generalize chknF r p = z at *
  by_cases h1 : p.text.toList = []
  · by_cases h2 : (!p.value.toList.isEmpty) = true
    · have HF : Hid (z = 2) := Lib.hid (by rw [HE.out, if_pos h1, if_pos h2])
      go_enter Tryz.func162, Tryz.ntmps162
      go_wp2
      go_ret
      exact ⟨by rw [HF.out]; rfl, ((Below.refl _ _).alloc (Nat.le_refl _) _).alloc (by simp) _⟩
    · have h2' : (!p.value.toList.isEmpty) = false := by simpa using h2
      by_cases h3 : p.n < r.least
      · have HF : Hid (z = 9) := Lib.hid (by rw [HE.out, if_pos h1, if_neg h2, if_pos h3])
        clear h2
        go_enter Tryz.func162, Tryz.ntmps162
        go_wp2
        go_ret
        exact ⟨by rw [HF.out]; rfl, ((Below.refl _ _).alloc (Nat.le_refl _) _).alloc (by simp) _⟩
      · by_cases h4 : r.most < p.n
        · have HF : Hid (z = 9) := Lib.hid (by rw [HE.out, if_pos h1, if_neg h2, if_neg h3, if_pos h4])
          have h3' : decide (p.n < r.least) = false := by simpa using h3
          clear h2 h3
          go_enter Tryz.func162, Tryz.ntmps162
          go_wp2
          go_ret
          exact ⟨by rw [HF.out]; rfl, ((Below.refl _ _).alloc (Nat.le_refl _) _).alloc (by simp) _⟩
        · have HF : Hid (z = 0) := Lib.hid (by rw [HE.out, if_pos h1, if_neg h2, if_neg h3, if_neg h4])
          have h3' : decide (p.n < r.least) = false := by simpa using h3
          have h4' : decide (r.most < p.n) = false := by simpa using h4
          clear h2 h3 h4
          go_enter Tryz.func162, Tryz.ntmps162
          go_wp2
          go_ret
          exact ⟨by rw [HF.out]; rfl, ((Below.refl _ _).alloc (Nat.le_refl _) _).alloc (by simp) _⟩
  · have HF : Hid (z = 2) := Lib.hid (by rw [HE.out, if_neg h1])
    go_enter Tryz.func162, Tryz.ntmps162
    go_wp2
    go_ret
    exact ⟨by rw [HF.out]; rfl, ((Below.refl _ _).alloc (Nat.le_refl _) _).alloc (by simp) _⟩
def nameB (s : ByteArray) : Bool := !s.toList.isEmpty && validU s && !(s.toList.any fun b => b == 43 || b == 35)
/-- What is said of topic.Name (proved in a text of its own). -/
def TopicOK : Prop := ∀ (s : ByteArray) (w : World), s.size ≤ 140737488351232 → Calls Tryz.prog 53 #[.string s] w fun e w' => e = .returned (.bool (nameB s)) ∧ Below w.heap.size w w'
def checkC (r : Rule) (kind : Int) (p : Prp) : Int :=
  if hasK r kind = true then
    (if r.shape ≤ 4 then chknF r p
     else if p.n = 0 then
      (if (!p.value.toList.isEmpty) = true ∧ r.shape ≠ 7 then 2
       else if r.shape = 6 then (if p.text.size ≤ 65535 then 0 else 2)
       else if validU p.text = true then (if validU p.value = true then (if p.id = 8 then (if nameB p.text = true then 0 else 9) else 0) else 6) else 6)
     else 2)
  else 9
/-- A rule and a property, in two blocks. -/
def Two (w : World) (B : Nat) (r : Rule) (p : Prp) : Prop :=
  w.heap[B]? = some (.cells #[.int .i64 r.shape, .int .i64 r.kinds, .int .u32 r.least, .int .u32 r.most] 119 (0, 0)) ∧
  w.heap[B + 1]? = some (.cells #[.int .i64 p.id, .int .u32 p.n, .string p.text, .string p.value] 75 (0, 0))
theorem Two.below {w w1 : World} {B : Nat} {r : Rule} {p : Prp} (h : Two w B r p) (hb : Below w.heap.size w w1) : Two w1 B r p :=
  ⟨by rw [hb.block _ (Array.getElem?_eq_some_iff.1 h.1).1]; exact h.1, by rw [hb.block _ (Array.getElem?_eq_some_iff.1 h.2).1]; exact h.2⟩
theorem Two.cells {w : World} {B : Nat} {r : Rule} {p : Prp} (h : Two w B r p) :
    w.cell? ⟨B, 0, none⟩ = some (.int .i64 r.shape) ∧ w.cell? ⟨B, 1, none⟩ = some (.int .i64 r.kinds) ∧ w.cell? ⟨B, 2, none⟩ = some (.int .u32 r.least) ∧ w.cell? ⟨B, 3, none⟩ = some (.int .u32 r.most) ∧
    w.cell? ⟨B + 1, 0, none⟩ = some (.int .i64 p.id) ∧ w.cell? ⟨B + 1, 1, none⟩ = some (.int .u32 p.n) ∧ w.cell? ⟨B + 1, 2, none⟩ = some (.string p.text) ∧ w.cell? ⟨B + 1, 3, none⟩ = some (.string p.value) :=
  ⟨by rw [cell_of_row _ _ _ _ _ _ h.1]; rfl, by rw [cell_of_row _ _ _ _ _ _ h.1]; rfl, by rw [cell_of_row _ _ _ _ _ _ h.1]; rfl, by rw [cell_of_row _ _ _ _ _ _ h.1]; rfl,
   by rw [cell_of_row _ _ _ _ _ _ h.2]; rfl, by rw [cell_of_row _ _ _ _ _ _ h.2]; rfl, by rw [cell_of_row _ _ _ _ _ _ h.2]; rfl, by rw [cell_of_row _ _ _ _ _ _ h.2]; rfl⟩
theorem ext_then' {w w1 w2 : World} (h : Below w.heap.size w w1) (k : Below w1.heap.size w1 w2) : Below w.heap.size w w2 := below_then h h.size k
set_option maxRecDepth 100000 in
theorem check_t (HT : Hid TopicOK) (r : Rule) (kind : Int) (p : Prp) (w : World) (k0 : 0 ≤ r.kinds) (k1 : r.kinds < 131072) (s1 : p.text.size ≤ 140737488351232) (s2 : p.value.size ≤ 140737488351232) :
    Calls Tryz.prog 115 #[.agg #[.int .i64 r.shape, .int .i64 r.kinds, .int .u32 r.least, .int .u32 r.most], .int .i64 kind, .agg #[.int .i64 p.id, .int .u32 p.n, .string p.text, .string p.value]] w fun e w' => e = .returned (.int .i64 (checkC r kind p)) ∧ Below w.heap.size w w' := by
  have HE : Hid (checkC r kind p = _) := Lib.hid (by unfold checkC; rfl)
  generalize checkC r kind p = z at *
  have HB0 := Lib.hid (((Below.refl w.heap.size w).alloc (Nat.le_refl _) (.cells #[.int .i64 r.shape, .int .i64 r.kinds, .int .u32 r.least, .int .u32 r.most] 119)).alloc (by simp) (.cells #[.int .i64 p.id, .int .u32 p.n, .string p.text, .string p.value] 75))
  go_enter Tryz.func115, Tryz.ntmps115
  go_wp2_with fail
  refine (rhas_t r kind _ k0 k1).mono ?_
  rintro e w1 ⟨rfl, hb⟩
  have HW1 : Hid (Two w1 w.heap.size r p) := Lib.hid ((⟨by rw [hb.block _ (by simp; omega)]; exact heap_alloc2_old .., by rw [hb.block _ (by simp)]; exact heap_alloc2_new ..⟩ : Two w1 w.heap.size r p))
  have HB1 := Lib.hid (below_then HB0.out (by simp; omega) hb)
  clear hb HB0
  cases hk : hasK r kind with
  | false =>
    have HF : Hid (z = 9) := Lib.hid (by rw [HE.out, hk]; rfl)
    clear hk
    go_wp2
    go_ret
    exact ⟨by rw [HF.out]; rfl, HB1.out⟩
  | true =>
    by_cases h4 : r.shape ≤ 4
    · have HF : Hid (z = chknF r p) := Lib.hid (by rw [HE.out, if_pos hk, if_pos h4])
      obtain ⟨c0, c1, c2, c3, d0, d1, d2, d3⟩ := HW1.out.cells
      clear hk
      go_wp2_with fail
      refine (chkn_t r p _).mono ?_
      rintro e w2 ⟨rfl, hb⟩
      have HB2 := Lib.hid (ext_then' HB1.out hb)
      clear hb c0 c1 c2 c3 d0 d1 d2 d3
      go_wp2
      go_ret
      exact ⟨by rw [HF.out]; rfl, HB2.out⟩
    · have h4' : decide (r.shape ≤ 4) = false := by simpa using h4
      by_cases hn : p.n = 0
      · by_cases hv : (!p.value.toList.isEmpty) = true ∧ r.shape ≠ 7
        · have HF : Hid (z = 2) := Lib.hid (by rw [HE.out, if_pos hk, if_neg h4, if_pos hn, if_pos hv])
          obtain ⟨c0, c1, c2, c3, d0, d1, d2, d3⟩ := HW1.out.cells
          obtain ⟨hv1, hv2⟩ := hv
          have hv3 : (r.shape != 7) = true := by simpa using hv2
          rw [hn] at d1
          clear hk hn h4 hv2
          go_wp2
          go_ret
          exact ⟨by rw [HF.out]; rfl, HB1.out⟩
        · have hvB : (!p.value.toList.isEmpty && r.shape != 7) = false := by
            cases hh : (!p.value.toList.isEmpty && r.shape != 7) with
            | false => rfl
            | true => exact absurd (by simpa using hh) hv
          cases he : p.value.toList.isEmpty with
          | true =>
            have he' : (!p.value.toList.isEmpty) = false := by rw [he]; rfl
            clear hvB
            by_cases h6 : r.shape = 6
            · have h6' : (r.shape == 6) = true := by simpa using h6
              by_cases hs : p.text.size ≤ 65535
              · have HF : Hid (z = 0) := Lib.hid (by rw [HE.out, if_pos hk, if_neg h4, if_pos hn, if_neg hv, if_pos h6, if_pos hs])
                have hs' : decide ((65535 : Int) < (p.text.size : Int)) = false := by simp; omega
                have hs2 : decide (65535 < p.text.size) = false := by simp; omega
                obtain ⟨c0, c1, c2, c3, d0, d1, d2, d3⟩ := HW1.out.cells
                rw [hn] at d1
                clear hk hn h4 hv h6 hs
                go_wp2
                go_ret
                exact ⟨by rw [HF.out]; rfl, HB1.out⟩
              · have HF : Hid (z = 2) := Lib.hid (by rw [HE.out, if_pos hk, if_neg h4, if_pos hn, if_neg hv, if_pos h6, if_neg hs])
                have hs' : decide ((65535 : Int) < (p.text.size : Int)) = true := by simp; omega
                have hs2 : decide (65535 < p.text.size) = true := by simp; omega
                obtain ⟨c0, c1, c2, c3, d0, d1, d2, d3⟩ := HW1.out.cells
                rw [hn] at d1
                clear hk hn h4 hv h6 hs
                go_wp2
                go_ret
                exact ⟨by rw [HF.out]; rfl, HB1.out⟩
            · have h6' : (r.shape == 6) = false := by simpa using h6
              have HG : Hid (z = if validU p.text = true then (if validU p.value = true then (if p.id = 8 then (if nameB p.text = true then 0 else 9) else 0) else 6) else 6) := Lib.hid (by rw [HE.out, if_pos hk, if_neg h4, if_pos hn, if_neg hv, if_neg h6])
              obtain ⟨c0, c1, c2, c3, d0, d1, d2, d3⟩ := HW1.out.cells
              rw [hn] at d1
              clear hk hn h4 hv h6
              go_wp2_with fail
              refine (validu_t p.text _ s1).mono ?_
              rintro e w2 ⟨rfl, hb⟩
              have HW2 := Lib.hid (HW1.out.below hb)
              have HB2 := Lib.hid (ext_then' HB1.out hb)
              clear hb c0 c1 c2 c3 d0 d1 d2 d3
              cases hv1 : validU p.text with
              | false =>
                have HF : Hid (z = 6) := Lib.hid (by rw [HG.out, hv1]; rfl)
                clear hv1
                go_wp2
                go_ret
                exact ⟨by rw [HF.out]; rfl, HB2.out⟩
              | true =>
                obtain ⟨c0, c1, c2, c3, d0, d1, d2, d3⟩ := Two.cells HW2.out
                have HV1 := Lib.hid hv1
                clear hv1
                go_wp2_with fail
                refine (validu_t p.value _ s2).mono ?_
                rintro e w3 ⟨rfl, hb⟩
                have HW3 := Lib.hid (Two.below HW2.out hb)
                have HB3 := Lib.hid (ext_then' HB2.out hb)
                clear hb c0 c1 c2 c3 d0 d1 d2 d3
                cases hv2 : validU p.value with
                | false =>
                  have HF : Hid (z = 6) := Lib.hid (by rw [HG.out, HV1.out, hv2]; rfl)
                  clear hv2
                  go_wp2
                  go_ret
                  exact ⟨by rw [HF.out]; rfl, HB3.out⟩
                | true =>
                  obtain ⟨c0, c1, c2, c3, d0, d1, d2, d3⟩ := Two.cells HW3.out
                  by_cases h8 : p.id = 8
                  · have HG2 : Hid (z = if nameB p.text = true then 0 else 9) := Lib.hid (by rw [HG.out, HV1.out, hv2, if_pos rfl, if_pos rfl, if_pos h8])
                    rw [h8] at d0
                    clear h8 hv2
                    go_wp2_with fail
                    refine (HT.out p.text _ s1).mono ?_
                    rintro e w4 ⟨rfl, hb⟩
                    have HB4 := Lib.hid (ext_then' HB3.out hb)
                    clear hb c0 c1 c2 c3 d0 d1 d2 d3
                    cases hv3 : nameB p.text with
                    | false =>
                      have HF : Hid (z = 9) := Lib.hid (by rw [HG2.out, hv3]; rfl)
                      clear hv3
                      go_wp2
                      go_ret
                      exact ⟨by rw [HF.out]; rfl, HB4.out⟩
                    | true =>
                      have HF : Hid (z = 0) := Lib.hid (by rw [HG2.out, hv3]; rfl)
                      clear hv3
                      go_wp2
                      go_ret
                      exact ⟨by rw [HF.out]; rfl, HB4.out⟩
                  · have HF : Hid (z = 0) := Lib.hid (by rw [HG.out, HV1.out, hv2, if_pos rfl, if_pos rfl, if_neg h8])
                    have h8' : (p.id == 8) = false := by simpa using h8
                    clear h8 hv2
                    go_wp2
                    go_ret
                    exact ⟨by rw [HF.out]; rfl, HB3.out⟩
          | false =>
            have he' : (!p.value.toList.isEmpty) = true := by rw [he]; rfl
            have h7 : (r.shape != 7) = false := by rw [he] at hvB; simpa using hvB
            clear hvB
            by_cases h6 : r.shape = 6
            · have h6' : (r.shape == 6) = true := by simpa using h6
              by_cases hs : p.text.size ≤ 65535
              · have HF : Hid (z = 0) := Lib.hid (by rw [HE.out, if_pos hk, if_neg h4, if_pos hn, if_neg hv, if_pos h6, if_pos hs])
                have hs' : decide ((65535 : Int) < (p.text.size : Int)) = false := by simp; omega
                have hs2 : decide (65535 < p.text.size) = false := by simp; omega
                obtain ⟨c0, c1, c2, c3, d0, d1, d2, d3⟩ := HW1.out.cells
                rw [hn] at d1
                clear hk hn h4 hv h6 hs
                go_wp2
                go_ret
                exact ⟨by rw [HF.out]; rfl, HB1.out⟩
              · have HF : Hid (z = 2) := Lib.hid (by rw [HE.out, if_pos hk, if_neg h4, if_pos hn, if_neg hv, if_pos h6, if_neg hs])
                have hs' : decide ((65535 : Int) < (p.text.size : Int)) = true := by simp; omega
                have hs2 : decide (65535 < p.text.size) = true := by simp; omega
                obtain ⟨c0, c1, c2, c3, d0, d1, d2, d3⟩ := HW1.out.cells
                rw [hn] at d1
                clear hk hn h4 hv h6 hs
                go_wp2
                go_ret
                exact ⟨by rw [HF.out]; rfl, HB1.out⟩
            · have h6' : (r.shape == 6) = false := by simpa using h6
              have HG : Hid (z = if validU p.text = true then (if validU p.value = true then (if p.id = 8 then (if nameB p.text = true then 0 else 9) else 0) else 6) else 6) := Lib.hid (by rw [HE.out, if_pos hk, if_neg h4, if_pos hn, if_neg hv, if_neg h6])
              obtain ⟨c0, c1, c2, c3, d0, d1, d2, d3⟩ := HW1.out.cells
              rw [hn] at d1
              clear hk hn h4 hv h6
              go_wp2_with fail
              refine (validu_t p.text _ s1).mono ?_
              rintro e w2 ⟨rfl, hb⟩
              have HW2 := Lib.hid (HW1.out.below hb)
              have HB2 := Lib.hid (ext_then' HB1.out hb)
              clear hb c0 c1 c2 c3 d0 d1 d2 d3
              cases hv1 : validU p.text with
              | false =>
                have HF : Hid (z = 6) := Lib.hid (by rw [HG.out, hv1]; rfl)
                clear hv1
                go_wp2
                go_ret
                exact ⟨by rw [HF.out]; rfl, HB2.out⟩
              | true =>
                obtain ⟨c0, c1, c2, c3, d0, d1, d2, d3⟩ := Two.cells HW2.out
                have HV1 := Lib.hid hv1
                clear hv1
                go_wp2_with fail
                refine (validu_t p.value _ s2).mono ?_
                rintro e w3 ⟨rfl, hb⟩
                have HW3 := Lib.hid (Two.below HW2.out hb)
                have HB3 := Lib.hid (ext_then' HB2.out hb)
                clear hb c0 c1 c2 c3 d0 d1 d2 d3
                cases hv2 : validU p.value with
                | false =>
                  have HF : Hid (z = 6) := Lib.hid (by rw [HG.out, HV1.out, hv2]; rfl)
                  clear hv2
                  go_wp2
                  go_ret
                  exact ⟨by rw [HF.out]; rfl, HB3.out⟩
                | true =>
                  obtain ⟨c0, c1, c2, c3, d0, d1, d2, d3⟩ := Two.cells HW3.out
                  by_cases h8 : p.id = 8
                  · have HG2 : Hid (z = if nameB p.text = true then 0 else 9) := Lib.hid (by rw [HG.out, HV1.out, hv2, if_pos rfl, if_pos rfl, if_pos h8])
                    rw [h8] at d0
                    clear h8 hv2
                    go_wp2_with fail
                    refine (HT.out p.text _ s1).mono ?_
                    rintro e w4 ⟨rfl, hb⟩
                    have HB4 := Lib.hid (ext_then' HB3.out hb)
                    clear hb c0 c1 c2 c3 d0 d1 d2 d3
                    cases hv3 : nameB p.text with
                    | false =>
                      have HF : Hid (z = 9) := Lib.hid (by rw [HG2.out, hv3]; rfl)
                      clear hv3
                      go_wp2
                      go_ret
                      exact ⟨by rw [HF.out]; rfl, HB4.out⟩
                    | true =>
                      have HF : Hid (z = 0) := Lib.hid (by rw [HG2.out, hv3]; rfl)
                      clear hv3
                      go_wp2
                      go_ret
                      exact ⟨by rw [HF.out]; rfl, HB4.out⟩
                  · have HF : Hid (z = 0) := Lib.hid (by rw [HG.out, HV1.out, hv2, if_pos rfl, if_pos rfl, if_neg h8])
                    have h8' : (p.id == 8) = false := by simpa using h8
                    clear h8 hv2
                    go_wp2
                    go_ret
                    exact ⟨by rw [HF.out]; rfl, HB3.out⟩
      · have HF : Hid (z = 2) := Lib.hid (by rw [HE.out, if_pos hk, if_neg h4, if_neg hn])
        obtain ⟨c0, c1, c2, c3, d0, d1, d2, d3⟩ := HW1.out.cells
        have hn' : (p.n != 0) = true := by simpa using hn
        clear hk hn h4
        go_wp2
        go_ret
        exact ⟨by rw [HF.out]; rfl, HB1.out⟩
end Go.Proofs.YtjlkhihlbdokpaaGreat
/- prop.seen: properties are counted by their ids. -/
namespace Go.Proofs.YtjlkhihlbdokpaaGreat
open Go.RowKit
set_option maxHeartbeats 1000000
set_option linter.unusedVariables false
set_option linter.unusedSimpArgs false
/-- 64 counts. -/
def cnts (f : Nat → Int) : Array Value := ((List.range 64).map fun i => Value.int .i64 (f i)).toArray
theorem cnts_at (f : Nat → Int) (i : Nat) (h : i < 64) : (cnts f)[i]? = some (.int .i64 (f i)) := by simp [cnts, h]
theorem cnts_set (f : Nat → Int) (i : Nat) (v : Int) : (cnts f).setIfInBounds i (.int .i64 v) = cnts (fun j => if j = i then v else f j) := by
  apply Array.ext_getElem?
  intro j
  rw [Array.getElem?_setIfInBounds]
  by_cases hj : i = j
  · subst hj
    by_cases h : i < 64
    · simp [cnts, h]
    · simp [cnts, h]
  · have hj' : ¬ j = i := fun e => hj e.symm
    by_cases h : j < 64
    · simp [cnts, h, hj, hj']
    · simp [cnts, h, hj]
def Seen (w : World) (S : Nat) (f : Nat → Int) : Prop := w.heap[S]? = some (.cells (cnts f) 117 (0, 0))
theorem Seen.cell {w : World} {S : Nat} {f : Nat → Int} (h : Seen w S f) (i : Nat) (hi : i < 64) : w.cell? ⟨S, i, none⟩ = some (.int .i64 (f i)) := by
  rw [cell_of_row _ _ _ _ _ _ h]; exact cnts_at f i hi
theorem Seen.below {w w1 : World} {S : Nat} {f : Nat → Int} (h : Seen w S f) (hb : Below w.heap.size w w1) : Seen w1 S f := by
  unfold Seen; rw [hb.block _ (Array.getElem?_eq_some_iff.1 h).1]; exact h
def againB (kind id : Int) (c : Int) : Bool := decide (1 < c + 1) && !oftenB kind id
theorem seen_set {w : World} {S : Nat} {f : Nat → Int} (h : Seen w S f) (i : Nat) (v : Int) : Seen (w.setCell ⟨S, i, none⟩ (.int .i64 v)) S (fun j => if j = i then v else f j) := by
  unfold Seen
  rw [heap_setCell_same _ _ _ _ _ _ h, cnts_set]
theorem grown_set (w : World) (S i : Nat) (v : Value) : w.grownBy (w.setCell ⟨S, i, none⟩ v) (some S) :=
  ⟨rfl, rfl, rfl, by simp, fun k _ hk => heap_setCell_other _ _ _ _ (fun e => hk (by rw [e]))⟩
theorem grown_drew {w w1 : World} {r : Option Nat} (h : w.grownBy w1 r) : w.grownBy w1.drew r := ⟨h.os, h.tape, h.output, h.size, h.block⟩
set_option maxRecDepth 100000 in
theorem again_t (S : Nat) (kind id : Int) (f : Nat → Int) (w : World) (h0 : 0 ≤ id) (h1 : id < 64) (hS : Seen w S f) (hf0 : 0 ≤ f id.toNat) (hf1 : f id.toNat ≤ 1000000) :
    Calls Tryz.prog 116 #[.pointer (some ⟨S, 0, none⟩), .int .i64 kind, .int .i64 id] w fun e w' => e = .returned (.bool (againB kind id (f id.toNat))) ∧ Seen w' S (fun j => if j = id.toNat then f id.toNat + 1 else f j) ∧ w.grownBy w' (some S) := by
  have c0 := hS.cell id.toNat (by omega)
  have f0 : w.frozen? ⟨S, id.toNat, none⟩ = false := frozen_of_row _ _ _ _ _ hS
  have HS := Lib.hid (seen_set hS id.toNat (f id.toNat + 1))
  have HG := Lib.hid (grown_set w S id.toNat (.int .i64 (f id.toNat + 1)))
  have HE : Hid (againB kind id (f id.toNat) = (decide (1 < f id.toNat + 1) && !oftenB kind id)) := Lib.hid rfl
  clear hS
  generalize f id.toNat = c at *
  by_cases hc : 1 < c + 1
  · go_enter Tryz.func116, Tryz.ntmps116
    go_wp2
    go_region
    go_wp2_with fail
    refine (often_t kind id _).mono ?_
    rintro e w1 ⟨rfl, rfl⟩
    have hd : decide (1 < c + 1) = true := by simpa using hc
    rw [hd] at HE
    generalize oftenB kind id = ob at *
    have HF : Hid (againB kind id c = !ob) := Lib.hid (by rw [HE.out]; rfl)
    go_wp2
    go_ret
    exact ⟨by rw [HF.out]; rfl, HS.out, grown_drew HG.out⟩
  · have hd : decide (1 < c + 1) = false := by simpa using hc
    rw [hd] at HE
    have HF : Hid (againB kind id c = false) := Lib.hid (by rw [HE.out]; rfl)
    clear hc
    go_enter Tryz.func116, Tryz.ntmps116
    go_wp2
    go_region
    go_wp2
    go_ret
    exact ⟨by rw [HF.out]; rfl, HS.out, grown_drew HG.out⟩
def loneB (f : Nat → Int) : Bool := decide (0 < f 22) && f 21 == 0
set_option maxRecDepth 100000 in
theorem lone_t (S : Nat) (f : Nat → Int) (w : World) (hS : Seen w S f) : Calls Tryz.prog 118 #[.pointer (some ⟨S, 0, none⟩)] w fun e w' => e = .returned (.bool (loneB f)) ∧ w = w' := by
  have c0 := hS.cell 22 (by omega)
  have c1 := hS.cell 21 (by omega)
  have HE : Hid (loneB f = (decide (0 < f 22) && f 21 == 0)) := Lib.hid rfl
  clear hS
  generalize f 22 = a at *
  generalize f 21 = b at *
  by_cases h : 0 < a
  · have hd : decide (0 < a) = true := by simpa using h
    have HF : Hid (loneB f = (b == 0)) := Lib.hid (by rw [HE.out, hd]; rfl)
    clear HE
    go_enter Tryz.func118, Tryz.ntmps118
    go_wp2
    go_ret
    exact ⟨by rw [HF.out]; rfl, rfl⟩
  · have hd : decide (0 < a) = false := by simpa using h
    have HF : Hid (loneB f = false) := Lib.hid (by rw [HE.out, hd]; rfl)
    clear HE h
    go_enter Tryz.func118, Tryz.ntmps118
    go_wp2
    go_ret
    exact ⟨by rw [HF.out]; rfl, rfl⟩
end Go.Proofs.YtjlkhihlbdokpaaGreat
/- prop.value: a property's value's bytes. -/
namespace Go.Proofs.YtjlkhihlbdokpaaGreat
open Go.RowKit
set_option maxHeartbeats 1000000
set_option linter.unusedVariables false
set_option linter.unusedSimpArgs false
def valueS (shape : Int) (p : Prp) : ByteArray := if shape = 1 then be1 p.n else if shape = 2 then be2 p.n else if shape = 3 then be4 p.n else if shape = 4 then viS p.n else if shape = 7 then framedS p.text ++ framedS p.value else framedS p.text
theorem framedS_size (s : ByteArray) : (framedS s).size = s.size + 2 := by
  have : (be2 (s.size : Int)).size = 2 := by simp [be2, strOfNums_size]
  simp [framedS, ByteArray.size_append, this]; omega
theorem prop_row (w : World) (o : Obj) (p : Prp) (w1 : World) (hb : Below (w.alloc (.cells #[.int .i64 p.id, .int .u32 p.n, .string p.text, .string p.value] 75)).heap.size (w.alloc (.cells #[.int .i64 p.id, .int .u32 p.n, .string p.text, .string p.value] 75)) w1) :
    w1.cell? ⟨w.heap.size, 2, none⟩ = some (.string p.text) ∧ w1.cell? ⟨w.heap.size, 3, none⟩ = some (.string p.value) ∧ w1.cell? ⟨w.heap.size, 1, none⟩ = some (.int .u32 p.n) := by
  have h : w1.heap[w.heap.size]? = some (.cells #[.int .i64 p.id, .int .u32 p.n, .string p.text, .string p.value] 75 (0, 0)) := by
    rw [hb.block _ (by simp)]; exact heap_alloc_new ..
  exact ⟨by rw [cell_of_row _ _ _ _ _ _ h]; rfl, by rw [cell_of_row _ _ _ _ _ _ h]; rfl, by rw [cell_of_row _ _ _ _ _ _ h]; rfl⟩
theorem below_alloc1 (w : World) (o : Obj) (w1 : World) (hb : Below (w.alloc o).heap.size (w.alloc o) w1) : Below w.heap.size w w1 :=
  below_then ((Below.refl _ _).alloc (Nat.le_refl _) _) (by simp) hb
set_option maxRecDepth 100000 in
theorem value_t (shape : Int) (p : Prp) (w : World) (hs0 : 1 ≤ shape) (hs1 : shape ≤ 7) (n0 : 0 ≤ p.n) (n1 : p.n < 4294967296) (h4 : shape = 4 → p.n ≤ 268435455) (ht : 5 ≤ shape → p.text.size ≤ 65535) (hv : shape = 7 → p.value.size ≤ 65535) :
    Calls Tryz.prog 117 #[.int .i64 shape, .agg #[.int .i64 p.id, .int .u32 p.n, .string p.text, .string p.value]] w fun e w' => e = .returned (.string (valueS shape p)) ∧ Below w.heap.size w w' := by
  have hcases : shape = 1 ∨ shape = 2 ∨ shape = 3 ∨ shape = 4 ∨ shape = 5 ∨ shape = 6 ∨ shape = 7 := by omega
  rcases hcases with rfl | rfl | rfl | rfl | rfl | rfl | rfl
  · clear ht hv h4
    go_enter Tryz.func117, Tryz.ntmps117
    go_wp2_with fail
    refine (put1_t _ _ n0 (by omega)).mono ?_
    rintro e w1 ⟨rfl, hb⟩
    have HB := Lib.hid (below_alloc1 _ _ _ hb)
    clear hb
    go_wp2
    go_ret
    exact ⟨rfl, HB.out⟩
  · clear ht hv h4
    go_enter Tryz.func117, Tryz.ntmps117
    go_wp2_with fail
    refine (put2_t _ _ n0 (by omega)).mono ?_
    rintro e w1 ⟨rfl, hb⟩
    have HB := Lib.hid (below_alloc1 _ _ _ hb)
    clear hb
    go_wp2
    go_ret
    exact ⟨rfl, HB.out⟩
  · clear ht hv h4
    go_enter Tryz.func117, Tryz.ntmps117
    go_wp2_with fail
    refine (put4_t _ _ n0 (by omega)).mono ?_
    rintro e w1 ⟨rfl, hb⟩
    have HB := Lib.hid (below_alloc1 _ _ _ hb)
    clear hb
    go_wp2
    go_ret
    exact ⟨rfl, HB.out⟩
  · have h4' := h4 rfl
    clear ht hv h4
    go_enter Tryz.func117, Tryz.ntmps117
    go_wp2_with fail
    refine (vibytes_t _ _ n0 h4').mono ?_
    rintro e w1 ⟨rfl, hb⟩
    have HB := Lib.hid (below_alloc1 _ _ _ hb)
    clear hb
    go_wp2
    go_ret
    exact ⟨rfl, HB.out⟩
  · have h5 := ht (by omega)
    clear ht hv h4
    go_enter Tryz.func117, Tryz.ntmps117
    go_wp2_with fail
    refine (binary_t p.text _ h5).mono ?_
    rintro e w1 ⟨rfl, hb⟩
    have HB := Lib.hid (below_alloc1 _ _ _ hb)
    clear hb
    go_wp2
    go_ret
    exact ⟨rfl, HB.out⟩
  · have h5 := ht (by omega)
    clear ht hv h4
    go_enter Tryz.func117, Tryz.ntmps117
    go_wp2_with fail
    refine (binary_t p.text _ h5).mono ?_
    rintro e w1 ⟨rfl, hb⟩
    have HB := Lib.hid (below_alloc1 _ _ _ hb)
    clear hb
    go_wp2
    go_ret
    exact ⟨rfl, HB.out⟩
  · have h5 := ht (by omega)
    have h6 := hv rfl
    have z1 := framedS_size p.text
    have z2 := framedS_size p.value
    have hlt : ¬ 9223372036854775807 < (framedS p.text).size + (framedS p.value).size := by omega
    clear ht hv h4 z1 z2
    go_enter Tryz.func117, Tryz.ntmps117
    go_wp2_with fail
    refine (binary_t p.text _ h5).mono ?_
    rintro e w1 ⟨rfl, hb⟩
    obtain ⟨c2, c3, c1⟩ := prop_row w (.cells #[] 0) p w1 hb
    have HB := Lib.hid (below_alloc1 _ _ _ hb)
    clear hb
    go_wp2_with fail
    refine (binary_t p.value _ h6).mono ?_
    rintro e w2 ⟨rfl, hb⟩
    have HB2 := Lib.hid (ext_then' HB.out hb)
    clear hb c1 c2 c3
    have HE : Hid (valueS 7 p = framedS p.text ++ framedS p.value) := Lib.hid rfl
    generalize framedS p.text = ft at *
    generalize framedS p.value = fv at *
    go_wp2
    go_ret
    exact ⟨by rw [HE.out]; rfl, HB2.out⟩
end Go.Proofs.YtjlkhihlbdokpaaGreat
/- prop.Bytes in plain Lean: what it answers. -/
namespace Go.Proofs.YtjlkhihlbdokpaaGreat
open Go.RowKit
set_option maxHeartbeats 1000000
set_option linter.unusedVariables false
set_option linter.unusedSimpArgs false
theorem ruleIn_mem (id : Int) : ∀ (l : List (Int × Rule)) (r : Rule), ruleIn id l = some r → ∃ p ∈ l, p.1 = id ∧ p.2 = r
  | [], r, h => by simp [ruleIn] at h
  | p :: t, r, h => by
    by_cases e : id = p.1
    · have e' : (id == p.1) = true := by simpa using e
      rw [ruleIn, if_pos e'] at h
      simp only [Option.some.injEq] at h
      exact ⟨p, by simp, e.symm, h⟩
    · have e' : ¬ (id == p.1) = true := by simpa using e
      rw [ruleIn, if_neg e'] at h
      obtain ⟨q, hq, h1, h2⟩ := ruleIn_mem id t r h
      exact ⟨q, by simp [hq], h1, h2⟩
theorem ruleL_ok : ∀ p ∈ ruleL, 1 ≤ p.1 ∧ p.1 ≤ 42 ∧ 1 ≤ p.2.shape ∧ p.2.shape ≤ 7 ∧ (p.2.shape = 4 → p.2.most ≤ 268435455) ∧ 0 ≤ p.2.kinds ∧ p.2.kinds < 131072 := by
  simp only [ruleL, List.forall_mem_cons, List.not_mem_nil, false_implies, implies_true, and_true]
  repeat' apply And.intro
  all_goals (first | decide | simp)
theorem ruleOf_kinds (id : Int) : 0 ≤ (ruleOf id).kinds ∧ (ruleOf id).kinds < 131072 := by
  unfold ruleOf
  cases h : ruleIn id ruleL with
  | none => simp
  | some r =>
    obtain ⟨p, hp, _, rfl⟩ := ruleIn_mem id ruleL r h
    have := ruleL_ok p hp
    exact ⟨this.2.2.2.2.2.1, this.2.2.2.2.2.2⟩
theorem hasK_zero (kind : Int) : hasK ⟨0, 0, 0, 0⟩ kind = false := by
  unfold hasK
  split
  · rfl
  · split
    · rfl
    · simp; decide
theorem hasK_ok {id kind : Int} (h : hasK (ruleOf id) kind = true) : 1 ≤ id ∧ id ≤ 42 ∧ 1 ≤ (ruleOf id).shape ∧ (ruleOf id).shape ≤ 7 ∧ ((ruleOf id).shape = 4 → (ruleOf id).most ≤ 268435455) := by
  unfold ruleOf at h ⊢
  cases hr : ruleIn id ruleL with
  | none => rw [hr] at h; simp only [Option.getD_none] at h; rw [hasK_zero] at h; cases h
  | some r =>
    obtain ⟨p, hp, h1, rfl⟩ := ruleIn_mem id ruleL r hr
    have := ruleL_ok p hp
    subst h1
    exact ⟨this.1, this.2.1, this.2.2.1, this.2.2.2.1, this.2.2.2.2.1⟩
theorem validU_size {s : ByteArray} (h : validU s = true) : s.size ≤ 65535 := by
  simp only [validU, Bool.and_eq_true, decide_eq_true_eq] at h
  exact h.1
theorem check_ok {kind : Int} {p : Prp} (h : checkC (ruleOf p.id) kind p = 0) :
    1 ≤ p.id ∧ p.id ≤ 42 ∧ 1 ≤ (ruleOf p.id).shape ∧ (ruleOf p.id).shape ≤ 7 ∧ ((ruleOf p.id).shape = 4 → p.n ≤ 268435455) ∧ (5 ≤ (ruleOf p.id).shape → p.text.size ≤ 65535) ∧ ((ruleOf p.id).shape = 7 → p.value.size ≤ 65535) := by
  unfold checkC at h
  split at h
  · rename_i hk
    obtain ⟨a, b, c, d, e⟩ := hasK_ok hk
    refine ⟨a, b, c, d, ?_, ?_, ?_⟩
    · intro h4
      rw [if_pos (by omega)] at h
      unfold chknF at h
      have := e h4
      split at h
      · split at h
        · cases h
        · split at h
          · cases h
          · split at h
            · cases h
            · omega
      · cases h
    · intro h5
      rw [if_neg (by omega)] at h
      split at h
      · split at h
        · cases h
        · split at h
          · split at h
            · assumption
            · cases h
          · split at h
            · rename_i hv; exact validU_size hv
            · cases h
      · cases h
    · intro h7
      rw [if_neg (by omega)] at h
      split at h
      · split at h
        · cases h
        · rw [if_neg (by omega)] at h
          split at h
          · split at h
            · rename_i hv; exact validU_size hv
            · cases h
          · cases h
      · cases h
  · cases h
/-- The bytes of a text, as numbers. -/
def bytesN (s : ByteArray) : List Int := s.data.toList.map fun b => (b.toNat : Int)
theorem bytesN_len (s : ByteArray) : (bytesN s).length = s.size := by
  rw [bytesN, List.length_map, Array.length_toList]
  rfl
theorem strCells_bytesN (s : ByteArray) : Lib.strCells s = (bytesN s).map (Value.int .u8) := by
  unfold bytesN
  rw [List.map_map]
  rfl
theorem viL_len : ∀ (f : Nat) (n : Int), (viL f n).length ≤ f + 1
  | 0, n => by simp [viL]
  | f + 1, n => by
    rw [viL]
    split
    · have := viL_len f (n / 128); simp only [List.length_cons]; omega
    · simp
theorem viS_le (n : Int) : (viS n).size ≤ 4 := by
  rw [viS, strOfNums_size]
  exact viL_len 3 n
theorem valueS_size {kind : Int} {p : Prp} (h : checkC (ruleOf p.id) kind p = 0) : (valueS (ruleOf p.id).shape p).size ≤ 131074 := by
  obtain ⟨_, _, h1, h2, h3, h4, h5⟩ := check_ok h
  unfold valueS
  split
  · simp [be1, strOfNums_size]
  · split
    · simp [be2, strOfNums_size]
    · split
      · simp [be4, strOfNums_size]
      · split
        · have := viS_le p.n; omega
        · split
          · rename_i h7
            rw [ByteArray.size_append, framedS_size, framedS_size]
            have := h4 (by omega); have := h5 h7; omega
          · rw [framedS_size]
            have := h4 (by omega); omega
/-- prop.Bytes from some property on. -/
def bytesGo (kind : Int) : List Prp → (Nat → Int) → List Int → ByteArray × Int
  | [], f, out => if loneB f = true then (⟨#[]⟩, 9) else (viS out.length ++ strOfNums out, 0)
  | p :: t, f, out =>
    if checkC (ruleOf p.id) kind p = 0 then
      (if againB kind p.id (f p.id.toNat) = true then (⟨#[]⟩, 9)
       else bytesGo kind t (fun j => if j = p.id.toNat then f p.id.toNat + 1 else f j) ((out ++ [p.id]) ++ bytesN (valueS (ruleOf p.id).shape p)))
    else (⟨#[]⟩, checkC (ruleOf p.id) kind p)
def bytesF (kind : Int) (l : List Prp) : ByteArray × Int := if l.length ≤ 1000 then bytesGo kind l (fun _ => 0) [] else (⟨#[]⟩, 4)
/-- A property that can be. -/
def PrpOK (p : Prp) : Prop := 0 ≤ p.n ∧ p.n < 4294967296 ∧ p.text.size ≤ 140737488351232 ∧ p.value.size ≤ 140737488351232
def PrpAt (w : World) (b o : Nat) (p : Prp) : Prop := w.cell? ⟨b, o, none⟩ = some (.int .i64 p.id) ∧ w.cell? ⟨b, o + 1, none⟩ = some (.int .u32 p.n) ∧ w.cell? ⟨b, o + 2, none⟩ = some (.string p.text) ∧ w.cell? ⟨b, o + 3, none⟩ = some (.string p.value)
/-- A slice of properties that is read. -/
def RP (w : World) (A : Option Addr) (n : Nat) (l : List Prp) : Prop :=
  l.length = n ∧ n ≤ 9223372036854775807 ∧ (∀ p ∈ l, PrpOK p) ∧ (0 < n → ∃ b off, A = some ⟨b, off, none⟩ ∧ b < w.heap.size ∧ ∀ j p, l[j]? = some p → PrpAt w b (off + j * 4) p)
theorem PrpAt.below {w w1 : World} {b o : Nat} {p : Prp} (h : PrpAt w b o p) (hb : Below w.heap.size w w1) (hlt : b < w.heap.size) : PrpAt w1 b o p :=
  ⟨(hb.cell (p := ⟨b, o, none⟩) hlt).trans h.1, (hb.cell (p := ⟨b, o + 1, none⟩) hlt).trans h.2.1, (hb.cell (p := ⟨b, o + 2, none⟩) hlt).trans h.2.2.1, (hb.cell (p := ⟨b, o + 3, none⟩) hlt).trans h.2.2.2⟩
theorem RP.below {w w1 : World} {A : Option Addr} {n : Nat} {l : List Prp} (h : RP w A n l) (hb : Below w.heap.size w w1) : RP w1 A n l :=
  ⟨h.1, h.2.1, h.2.2.1, fun hn => by
    obtain ⟨b, off, e, hlt, hc⟩ := h.2.2.2 hn
    exact ⟨b, off, e, Nat.lt_of_lt_of_le hlt hb.size, fun j p hp => (hc j p hp).below hb hlt⟩⟩
end Go.Proofs.YtjlkhihlbdokpaaGreat
/- prop.Bytes: the walk. -/
namespace Go.Proofs.YtjlkhihlbdokpaaGreat
open Go.RowKit
set_option maxHeartbeats 4000000
set_option linter.unusedVariables false
set_option linter.unusedSimpArgs false
theorem wp_append_str {P : Program} {w : World} {o : Oper} {a : Act} {K : Act → World → Prop} {Q : Exit → Act → World → Prop} (sl x : Operand) (t u : TypeId)
    (ho : o.op = .call { callee := .builtin .append, args := #[sl, x], argTypes := #[t, u] })
    (base : Nat) (e : TypeId) (i : TypeInfo) (ht : P.underlying t = some (.slice e)) (hu : P.underlying u = some .string) (hi : P.info? e = some i) (hz : i.zero = some (.int .u8 0))
    (hsize : i.size = 1) (hby : i.bytes = 1)
    (v : Value) (n : Nat) (xs : List Value) (hs : a.eval sl = v) (hown : w.ownsRow base e 1 v n xs) (s : ByteArray) (hx : a.eval x = .string s)
    (h63 : n + s.size ≤ maxLen) (hbytes : n + s.size ≤ 140737488355328) (hbase : base ≤ w.heap.size)
    (h : ∀ v' w', w'.ownsRow base e 1 v' (n + s.size) (xs ++ Lib.strCells s) → w.grownBy w' v.ownBlock → K (a.put o.dst v') w') : o.wp P a w K Q := by
  obtain ⟨v', w', hr, h2, h3, h4⟩ := Lib.run_append_own_string (P := P) w base t u o.type e i ht hu hi hz hsize hby v n xs hown s h63 hbytes hbase
  unfold Oper.wp execOp
  simp only [ho, resolve, invoke, builtin, Sem.run_bind, Sem.run_pure, Result.andThen_ok, List.map_toArray, List.map_cons, List.map_nil, hs, hx, hr]
  exact h v' w' h2 h3
theorem step_append_str {P : Program} {w : World} {ops : Array Oper} {o : Oper} {a : Act} {K : Act → World → Prop} {Q : Exit → Act → World → Prop} {E : Prop} (hgd : o.guard = none) (sl x : Operand) (t u : TypeId)
    (ho : o.op = .call { callee := .builtin .append, args := #[sl, x], argTypes := #[t, u] })
    (base : Nat) (e : TypeId) (i : TypeInfo) (ht : P.underlying t = some (.slice e)) (hu : P.underlying u = some .string) (hi : P.info? e = some i) (hz : i.zero = some (.int .u8 0))
    (hsize : i.size = 1) (hby : i.bytes = 1)
    (v : Value) (n : Nat) (xs : List Value) (hs : a.eval sl = v) (hown : w.ownsRow base e 1 v n xs) (s : ByteArray) (hx : a.eval x = .string s)
    (h63 : n + s.size ≤ maxLen) (hbytes : n + s.size ≤ 140737488355328) (hbase : base ≤ w.heap.size)
    (h : ∀ v' w', w'.ownsRow base e 1 v' (n + s.size) (xs ++ Lib.strCells s) → w.grownBy w' v.ownBlock → K (a.put o.dst v') w') :
    if Region.wanted o (yielded ops a.tmps) = true then Oper.wp P o a w K Q else E := by
  have hw : Region.wanted o (yielded ops a.tmps) = true := by simp [Region.wanted, hgd]
  rw [if_pos hw]
  exact wp_append_str sl x t u ho base e i ht hu hi hz hsize hby v n xs hs hown s hx h63 hbytes hbase h
theorem heap_alloc2_old' (w : World) (A B : Obj) (i : Nat) (h : i < w.heap.size) : ((w.alloc A).alloc B).heap[i]? = w.heap[i]? := by
  rw [heap_alloc_old _ _ (by simp; omega), heap_alloc_old _ _ h]
theorem own_keep {w w1 : World} {b : Nat} {e : TypeId} {s n : Nat} {v : Value} {xs : List Value} (h : w.ownsRow b e s v n xs) (hb : Below w.heap.size w w1) : w1.ownsRow b e s v n xs :=
  h.kept (row := none) ⟨hb.os, hb.tape, hb.output, hb.size, fun i hi _ => hb.block i hi⟩ (by cases v.ownBlock <;> simp)
theorem own_far {u : Value} {g1 H k : Nat} {n c : Nat} (h : u.ownBlock = some g1 ∨ g1 = H) (hu : some k ≠ u.ownBlock) (hk : k < H) : some k ≠ (Value.slice (some ⟨g1, 0, none⟩) n c).ownBlock := by
  intro e
  simp only [Value.ownBlock, Option.some.injEq] at e
  rcases h with h | h
  · exact hu (by rw [h, e])
  · omega
theorem zero64 : cnts (fun _ => 0) = #[Value.int .i64 0, .int .i64 0, .int .i64 0, .int .i64 0, .int .i64 0, .int .i64 0, .int .i64 0, .int .i64 0, .int .i64 0, .int .i64 0, .int .i64 0, .int .i64 0, .int .i64 0, .int .i64 0, .int .i64 0, .int .i64 0, .int .i64 0, .int .i64 0, .int .i64 0, .int .i64 0, .int .i64 0, .int .i64 0, .int .i64 0, .int .i64 0, .int .i64 0, .int .i64 0, .int .i64 0, .int .i64 0, .int .i64 0, .int .i64 0, .int .i64 0, .int .i64 0, .int .i64 0, .int .i64 0, .int .i64 0, .int .i64 0, .int .i64 0, .int .i64 0, .int .i64 0, .int .i64 0, .int .i64 0, .int .i64 0, .int .i64 0, .int .i64 0, .int .i64 0, .int .i64 0, .int .i64 0, .int .i64 0, .int .i64 0, .int .i64 0, .int .i64 0, .int .i64 0, .int .i64 0, .int .i64 0, .int .i64 0, .int .i64 0, .int .i64 0, .int .i64 0, .int .i64 0, .int .i64 0, .int .i64 0, .int .i64 0, .int .i64 0, .int .i64 0] := rfl
set_option maxRecDepth 100000 in
theorem bytes_t (kind : Int) (A : Option Addr) (n cp : Nat) (l : List Prp) (HT : Hid (l ≠ [] → TopicOK)) (w : World) (hr : RP w A n l) :
    Calls Tryz.prog 65 #[.int .i64 kind, .slice A n cp] w fun e w' => e = .returned (.tuple #[.string (bytesF kind l).1, .int .i64 (bytesF kind l).2]) ∧ Below w.heap.size w w' := by
  obtain ⟨hl, hn, hok, hc⟩ := hr
  by_cases hbig : 1000 < n
  · have HF : Hid (bytesF kind l = (⟨#[]⟩, 4)) := Lib.hid (by rw [bytesF, if_neg (by omega)])
    have hd : decide (1000 < n) = true := by simpa using hbig
    clear hc hok
    go_enter Tryz.func65, Tryz.ntmps65
    go_wp2
    go_ret2
    exact ⟨by rw [HF.out]; rfl, Below.refl _ _⟩
  · have HF : Hid (bytesF kind l = bytesGo kind l (fun _ => 0) []) := Lib.hid (by rw [bytesF, if_pos (by omega)])
    have HC := Lib.hid hc
    have HOK := Lib.hid hok
    have HL := Lib.hid hl
    have hn' : n ≤ 1000 := by omega
    have hd : decide (1000 < (n : Int)) = false := by simp; omega
    have hd2 : decide (1000 < n) = false := by simp; omega
    clear hc hok hl hbig
    go_enter Tryz.func65, Tryz.ntmps65
    go_wp2_with fail
    refine (rules_t _).mono ?_
    rintro e w1 ⟨M, hM, rfl, rfl⟩
    have hMb : (w.alloc (.map (ruleEs 27) 27)).heap[M]? = some (.map (ruleEs 27) 27) := by rw [hM]; exact heap_alloc_new ..
    have HB1 := Lib.hid ((Below.refl w.heap.size w).alloc (Nat.le_refl _) (.map (ruleEs 27) 27))
    have HM := Lib.hid hMb
    have HMlt : Hid (w.heap.size ≤ M ∧ M < (w.alloc (.map (ruleEs 27) 27)).heap.size) := Lib.hid ⟨by omega, by simp; omega⟩
    clear hMb
    generalize w.alloc (.map (ruleEs 27) 27) = w1 at *
    clear hM
    go_wp2
    go_loopw [8, 21] (fun v8 v21 wr => ∃ (k : Nat) (f : Nat → Int) (out : List Int), k ≤ n ∧ v21 = .int .i64 k ∧ OwnB wr (w1.heap.size + 1) v8 out ∧ Seen wr w1.heap.size f ∧ wr.heap[M]? = some (.map (ruleEs 27) 27) ∧ Below w.heap.size w wr ∧ w1.heap.size + 1 ≤ wr.heap.size ∧ (∀ i, 0 ≤ f i ∧ f i ≤ k) ∧ out.length ≤ k * 131075 ∧ bytesGo kind (l.drop k) f out = bytesGo kind l (fun _ => 0) []) (fun _ v21 _ => n - (intOf v21).toNat)
    case atStart =>
      refine ⟨0, fun _ => 0, [], by omega, rfl, World.ownsRow_nil _ _ _ _, ?_, ?_, ?_, by simp, fun i => ⟨Int.le_refl 0, by simp⟩, by simp, rfl⟩
      · unfold Seen; rw [zero64]; exact heap_alloc_new ..
      · rw [heap_alloc_old _ _ HMlt.out.2]; exact HM.out
      · exact HB1.out.alloc HB1.out.size _
    case round =>
      obtain ⟨k, f, out, hk, rfl, hown, hseen, hmap, hbel, hsz, hf, hlen, hgo⟩ := hrel
      by_cases hlt : k < n
      · obtain ⟨b, off, rfl, hblt, hcell⟩ := HC.out (by omega)
        obtain ⟨p, hp⟩ : ∃ p, l[k]? = some p := ⟨l[k]'(by rw [HL.out]; exact hlt), by simp [HL.out, hlt]⟩
        obtain ⟨c0, c1, c2, c3⟩ := (hcell k p hp).below hbel hblt
        have HT' : Hid TopicOK := Lib.hid (HT.out (by intro e; rw [e] at hp; cases hp))
        have HP : Hid (PrpOK p) := Lib.hid (HOK.out p (List.mem_of_getElem? hp))
        have HG : Hid (bytesGo kind l (fun _ => 0) [] = bytesGo kind (p :: l.drop (k + 1)) f out) := Lib.hid (by
          rw [← hgo, List.drop_eq_getElem_cons (by rw [HL.out]; exact hlt)]
          congr 1
          have := hp
          rw [List.getElem?_eq_getElem (by rw [HL.out]; exact hlt)] at this
          simp only [Option.some.injEq] at this
          rw [this])
        have hlook : ∀ o, (Instr.lookup 114 (.map (some M)) (.int .i64 p.id) false).run Tryz.prog (wr.alloc o) = _ := fun o => run_rule (wr.alloc o) M p.id (by rw [heap_alloc_old _ _ (by have := (Array.getElem?_eq_some_iff.1 hmap).1; omega)]; exact hmap)
        have HR : Hid ((OwnB wr (w1.heap.size + 1) u8 out ∧ Seen wr w1.heap.size f) ∧ wr.heap[M]? = some (.map (ruleEs 27) 27) ∧ Below w.heap.size w wr ∧ w1.heap.size + 1 ≤ wr.heap.size) := Lib.hid ⟨⟨hown, hseen⟩, hmap, hbel, hsz⟩
        have HFB : Hid ((∀ i, 0 ≤ f i ∧ f i ≤ k) ∧ out.length ≤ k * 131075) := Lib.hid ⟨hf, hlen⟩
        clear hown hseen hmap hbel hsz hf hlen hgo hcell hp
        go_wp2_with fail
        refine (check_t HT' (ruleOf p.id) kind p _ (ruleOf_kinds p.id).1 (ruleOf_kinds p.id).2 HP.out.2.2.1 HP.out.2.2.2).mono ?_
        rintro e w2 ⟨rfl, hb⟩
        have hp2 : w2.heap[wr.heap.size]? = some (.cells #[.int .i64 p.id, .int .u32 p.n, .string p.text, .string p.value] 75 (0, 0)) := by rw [hb.block _ (by simp; omega)]; exact heap_alloc2_old ..
        have hr2 : w2.heap[wr.heap.size + 1]? = some (.cells #[.int .i64 (ruleOf p.id).shape, .int .i64 (ruleOf p.id).kinds, .int .u32 (ruleOf p.id).least, .int .u32 (ruleOf p.id).most] 119 (0, 0)) := by rw [hb.block _ (by simp)]; exact heap_alloc2_new ..
        have hkeep : ∀ i, i < wr.heap.size → w2.heap[i]? = wr.heap[i]? := fun i hi => by rw [hb.block _ (by simp; omega), heap_alloc2_old' _ _ _ _ hi]
        have hbw : Below wr.heap.size wr w2 := below_then (((Below.refl _ _).alloc (Nat.le_refl _) _).alloc (by simp) _) (by simp; omega) hb
        have HR2 : Hid ((OwnB w2 (w1.heap.size + 1) u8 out ∧ Seen w2 w1.heap.size f) ∧ w2.heap[M]? = some (.map (ruleEs 27) 27) ∧ Below w.heap.size w w2 ∧ w1.heap.size + 1 ≤ w2.heap.size) := Lib.hid ⟨⟨ownb_below HR.out.1.1 hbw, HR.out.1.2.below hbw⟩, by rw [hkeep _ (Array.getElem?_eq_some_iff.1 HR.out.2.1).1]; exact HR.out.2.1, ext_then' HR.out.2.2.1 hbw, Nat.le_trans HR.out.2.2.2 hbw.size⟩
        have HPR : Hid (w2.heap[wr.heap.size]? = some (.cells #[.int .i64 p.id, .int .u32 p.n, .string p.text, .string p.value] 75 (0, 0)) ∧ w2.heap[wr.heap.size + 1]? = some (.cells #[.int .i64 (ruleOf p.id).shape, .int .i64 (ruleOf p.id).kinds, .int .u32 (ruleOf p.id).least, .int .u32 (ruleOf p.id).most] 119 (0, 0))) := Lib.hid ⟨hp2, hr2⟩
        have d0 : w2.cell? ⟨wr.heap.size, 0, none⟩ = some (.int .i64 p.id) := by rw [cell_of_row _ _ _ _ _ _ hp2]; rfl
        have HSZ : Hid (w1.heap.size + 1 ≤ wr.heap.size) := Lib.hid HR.out.2.2.2
        have HUL : Hid (∀ g, u8.ownBlock = some g → g < wr.heap.size) := Lib.hid (fun g h => (World.ownsRow.lt HR.out.1.1 g h).2)
        clear hb hp2 hr2 hkeep hbw HR hlook c0 c1 c2 c3
        by_cases hk0 : checkC (ruleOf p.id) kind p = 0
        · rw [hk0]
          obtain ⟨i1, i2, s1, s2, s3, s4, s5⟩ := check_ok hk0
          have HCK := Lib.hid hk0
          have HV := Lib.hid (⟨s3, s4, s5⟩ : _ ∧ _ ∧ _)
          clear hk0 s3 s4 s5
          go_wp2_with fail
          refine (again_t w1.heap.size kind p.id f _ (by omega) (by omega) HR2.out.1.2 (HFB.out.1 _).1 (by have := (HFB.out.1 p.id.toNat).2; omega)).mono ?_
          rintro e w3 ⟨rfl, hs3, hg3⟩
          cases hag : againB kind p.id (f p.id.toNat) with
          | true =>
            have HF2 : Hid (bytesF kind l = (⟨#[]⟩, 9)) := Lib.hid (by rw [HF.out, HG.out, bytesGo, if_pos HCK.out, if_pos hag])
            have HB3 := Lib.hid (HR2.out.2.2.1.grown hg3 HR2.out.2.2.1.size (fun k h => by simp only [Option.some.injEq] at h; have := HB1.out.size; omega))
            clear hs3 hg3 hag
            go_wp2
            go_ret2
            exact ⟨by rw [HF2.out]; rfl, HB3.out⟩
          | false =>
            have hk3 : ∀ i, i < w2.heap.size → i ≠ w1.heap.size → w3.heap[i]? = w2.heap[i]? := fun i hi hne => hg3.block i hi (fun e => hne (by simpa using e))
            have lP := (Array.getElem?_eq_some_iff.1 HPR.out.1).1
            have lR := (Array.getElem?_eq_some_iff.1 HPR.out.2).1
            have hp3 : w3.heap[wr.heap.size]? = some (.cells #[.int .i64 p.id, .int .u32 p.n, .string p.text, .string p.value] 75 (0, 0)) := by rw [hk3 _ lP (by have := HSZ.out; omega)]; exact HPR.out.1
            have hr3 : w3.heap[wr.heap.size + 1]? = some (.cells #[.int .i64 (ruleOf p.id).shape, .int .i64 (ruleOf p.id).kinds, .int .u32 (ruleOf p.id).least, .int .u32 (ruleOf p.id).most] 119 (0, 0)) := by rw [hk3 _ lR (by have := HSZ.out; omega)]; exact HPR.out.2
            have hub : ∀ g, u8.ownBlock = some g → w1.heap.size + 1 ≤ g := ownb_ge HR2.out.1.1
            have hown3 : OwnB w3 (w1.heap.size + 1) u8 out := World.ownsRow.kept HR2.out.1.1 hg3 (by
              cases h : u8.ownBlock with
              | none => exact .inl rfl
              | some g => right; intro e; simp only [Option.some.injEq] at e; have := hub g h; omega)
            have hgo2 : bytesGo kind l (fun _ => 0) [] = bytesGo kind (l.drop (k + 1)) (fun j => if j = p.id.toNat then f p.id.toNat + 1 else f j) ((out ++ [p.id]) ++ bytesN (valueS (ruleOf p.id).shape p)) := by
              rw [HG.out, bytesGo, if_pos HCK.out, if_neg (by rw [hag]; decide)]
            have hvs := valueS_size HCK.out
            have hB3 : Below w.heap.size w w3 := HR2.out.2.2.1.grown hg3 HR2.out.2.2.1.size (fun k h => by simp only [Option.some.injEq] at h; have := HB1.out.size; omega)
            have hM3 : w3.heap[M]? = some (.map (ruleEs 27) 27) := by
              rw [hk3 _ (Array.getElem?_eq_some_iff.1 HR2.out.2.1).1 (fun e => by have := HMlt.out.2; omega)]; exact HR2.out.2.1
            have hsz3 : w2.heap.size ≤ w3.heap.size := hg3.size
            have HX := Lib.hid (⟨hs3, hown3, hgo2, hB3, hM3⟩ : _ ∧ _ ∧ _ ∧ _ ∧ _)
            have HSZ3 : Hid (wr.heap.size + 1 < w3.heap.size ∧ w1.heap.size + 1 ≤ w3.heap.size) := Lib.hid ⟨by omega, by have := HSZ.out; omega⟩
            have HVS := Lib.hid hvs
            have dd0 : w3.cell? ⟨wr.heap.size, 0, none⟩ = some (.int .i64 p.id) := by rw [cell_of_row _ _ _ _ _ _ hp3]; rfl
            have dd1 : w3.cell? ⟨wr.heap.size, 1, none⟩ = some (.int .u32 p.n) := by rw [cell_of_row _ _ _ _ _ _ hp3]; rfl
            have dd2 : w3.cell? ⟨wr.heap.size, 2, none⟩ = some (.string p.text) := by rw [cell_of_row _ _ _ _ _ _ hp3]; rfl
            have dd3 : w3.cell? ⟨wr.heap.size, 3, none⟩ = some (.string p.value) := by rw [cell_of_row _ _ _ _ _ _ hp3]; rfl
            have ee0 : w3.cell? ⟨wr.heap.size + 1, 0, none⟩ = some (.int .i64 (ruleOf p.id).shape) := by rw [cell_of_row _ _ _ _ _ _ hr3]; rfl
            have HNE : Hid (some wr.heap.size ≠ u8.ownBlock ∧ some (wr.heap.size + 1) ≠ u8.ownBlock) := Lib.hid ⟨fun e => by have := HUL.out _ e.symm; omega, fun e => by have := HUL.out _ e.symm; omega⟩
            have HLEN : Hid (out.length + 1 ≤ maxLen ∧ (out.length + 1) * 1 ≤ 140737488355328) := Lib.hid ⟨by have := HFB.out.2; unfold maxLen; omega, by have := HFB.out.2; omega⟩
            have HLEN2 : Hid (out.length + 1 + (valueS (ruleOf p.id).shape p).size ≤ maxLen ∧ out.length + 1 + (valueS (ruleOf p.id).shape p).size ≤ 140737488355328) := Lib.hid ⟨by have := HFB.out.2; unfold maxLen; omega, by have := HFB.out.2; omega⟩
            obtain ⟨i0, hif, hz0, hz1, hz2⟩ := info_parts info_u8
            have hwr : IntKind.u8.wrap p.id = p.id := IntWalk.u8_in _ ⟨by omega, by omega⟩
            clear hs3 hg3 hag hk3 lP lR hp3 hr3 hub hown3 hgo2 hvs hB3 hM3 hsz3 d0 HR2 HPR HUL
            go_wp2_with fail
            go_region_held3 (fun w' => w'.cell? ⟨wr.heap.size, 0, none⟩ = some (.int .i64 p.id) ∧ w'.cell? ⟨wr.heap.size, 1, none⟩ = some (.int .u32 p.n) ∧ w'.cell? ⟨wr.heap.size, 2, none⟩ = some (.string p.text) ∧ w'.cell? ⟨wr.heap.size, 3, none⟩ = some (.string p.value) ∧ w'.cell? ⟨wr.heap.size + 1, 0, none⟩ = some (.int .i64 (ruleOf p.id).shape))
              (first
                | go_keep
                | (go_split_ands
                   refine ⟨?_, ?_, ?_, ?_, ?_⟩
                   · (rw [hgrow4.cell_far _ (by have := HSZ3.out; simp; omega) HNE.out.1]; assumption)
                   · (rw [hgrow4.cell_far _ (by have := HSZ3.out; simp; omega) HNE.out.1]; assumption)
                   · (rw [hgrow4.cell_far _ (by have := HSZ3.out; simp; omega) HNE.out.1]; assumption)
                   · (rw [hgrow4.cell_far _ (by have := HSZ3.out; simp; omega) HNE.out.1]; assumption)
                   · (rw [hgrow4.cell_far _ (by have := HSZ3.out; simp; omega) HNE.out.2]; assumption))
                | (go_split_ands
                   have hsz4 := hgrow4.size
                   refine ⟨?_, ?_, ?_, ?_, ?_⟩
                   · (rw [hb5.cell (by have := HSZ3.out; simp at hsz4; show wr.heap.size < w4.heap.size; omega)]; assumption)
                   · (rw [hb5.cell (by have := HSZ3.out; simp at hsz4; show wr.heap.size < w4.heap.size; omega)]; assumption)
                   · (rw [hb5.cell (by have := HSZ3.out; simp at hsz4; show wr.heap.size < w4.heap.size; omega)]; assumption)
                   · (rw [hb5.cell (by have := HSZ3.out; simp at hsz4; show wr.heap.size < w4.heap.size; omega)]; assumption)
                   · (rw [hb5.cell (by have := HSZ3.out; simp at hsz4; show wr.heap.size + 1 < w4.heap.size; omega)]; assumption))
                | (go_split_ands
                   have hsz4 := hgrow4.size
                   have hsz5 := hb5.size
                   refine ⟨?_, ?_, ?_, ?_, ?_⟩
                   · (rw [hgrow6.cell_far _ (by have := HSZ3.out; simp at hsz4 hsz5; show wr.heap.size < w5.heap.size; omega) (own_far hat4 HNE.out.1 (show wr.heap.size < w3.heap.size + 1 from by have := HSZ3.out; omega))]; assumption)
                   · (rw [hgrow6.cell_far _ (by have := HSZ3.out; simp at hsz4 hsz5; show wr.heap.size < w5.heap.size; omega) (own_far hat4 HNE.out.1 (show wr.heap.size < w3.heap.size + 1 from by have := HSZ3.out; omega))]; assumption)
                   · (rw [hgrow6.cell_far _ (by have := HSZ3.out; simp at hsz4 hsz5; show wr.heap.size < w5.heap.size; omega) (own_far hat4 HNE.out.1 (show wr.heap.size < w3.heap.size + 1 from by have := HSZ3.out; omega))]; assumption)
                   · (rw [hgrow6.cell_far _ (by have := HSZ3.out; simp at hsz4 hsz5; show wr.heap.size < w5.heap.size; omega) (own_far hat4 HNE.out.1 (show wr.heap.size < w3.heap.size + 1 from by have := HSZ3.out; omega))]; assumption)
                   · (rw [hgrow6.cell_far _ (by have := HSZ3.out; simp at hsz4 hsz5; show wr.heap.size + 1 < w5.heap.size; omega) (own_far hat4 HNE.out.2 (show wr.heap.size + 1 < w3.heap.size + 1 from by have := HSZ3.out; omega))]; assumption)))
              (first
                | ((refine step_append_lies _ (by rfl) _ _ _ (by rfl) (w1.heap.size + 1) 5 i0 _ 1 1 Tryz.underlying42 hif hz0 hz1 hz2 rfl (by omega) u8 out.length (out.map (Value.int .u8)) (by rfl) ((HX.out.2.1.alloc _).drew) ⟨w3.heap.size, 0, none⟩ 1 1 [.int .u8 p.id] (by rfl) (by rfl) (World.news_of_block (cs := #[.int .u8 p.id]) (t := 5) (fr := (0, 0)) (heap_alloc_new w3 _)) (by simp [Value.oneCell']) (by omega) HLEN.out.1 HLEN.out.2 (by have := HSZ3.out; simp; omega) (w3.heap.size + 1) (by simp) ?_; intro g1 cap1 w4 hown4 hgrow4 hat4 hlt4))
                | (go_at_call 117; refine (value_t (ruleOf p.id).shape p _ s1 s2 HP.out.1 HP.out.2.1 HV.out.1 HV.out.2.1 HV.out.2.2).mono ?_; rintro e w5 ⟨rfl, hb5⟩)
                | ((refine step_append_str (by rfl) _ _ _ _ (by rfl) (w1.heap.size + 1) 5 i0 Tryz.underlying42 Tryz.underlying9 hif hz0 hz1 hz2 (.slice (some ⟨g1, 0, none⟩) (out.length + 1) cap1) (out.length + 1) (out.map (Value.int .u8) ++ [.int .u8 p.id]) (by rfl) (own_keep hown4 hb5) (valueS (ruleOf p.id).shape p) (by rfl) HLEN2.out.1 HLEN2.out.2 (by have h4 := hgrow4.size; have h5 := hb5.size; have := HSZ3.out; simp at h4; omega) ?_; intro v6 w6 hown6 hgrow6)))
            have hg1 : w1.heap.size + 1 ≤ g1 := (World.ownsRow.lt hown4 g1 rfl).1
            have hsz4 := hgrow4.size
            have hsz5 := hb5.size
            have hsz6 := hgrow6.size
            have hs3' := HSZ3.out
            simp at hsz4
            have hkeep6 : ∀ j, j ≤ w1.heap.size → w6.heap[j]? = w3.heap[j]? := fun j hj => by
              rw [hgrow6.block j (by omega) (fun e => by simp only [Value.ownBlock, Option.some.injEq] at e; omega), hb5.block j (by omega), hgrow4.block j (by simp; omega) (fun e => by have := ownb_ge HX.out.2.1 j e.symm; omega)]
              exact heap_alloc_old _ _ (by omega)
            have hbel6 : Below w.heap.size w w6 := by
              have b3 := HX.out.2.2.2.1
              have e1 := HB1.out.size
              have b4 : Below w.heap.size w w4 := ((b3.alloc b3.size _).drew).grown hgrow4 (by simp; omega) (fun k h => by have := ownb_ge HX.out.2.1 k h; omega)
              exact (below_then b4 (by omega) hb5).grown hgrow6 (by omega) (fun k h => by simp only [Value.ownBlock, Option.some.injEq] at h; omega)
            have hown7 : OwnB w6 (w1.heap.size + 1) v6 ((out ++ [p.id]) ++ bytesN (valueS (ruleOf p.id).shape p)) := by
              refine ownb_join (n := (valueS (ruleOf p.id).shape p).size) (xs := out ++ [p.id]) ?_ (bytesN_len _)
              rw [← strCells_bytesN]
              simpa using hown6
            have HZ : Hid (OwnB w6 (w1.heap.size + 1) v6 ((out ++ [p.id]) ++ bytesN (valueS (ruleOf p.id).shape p)) ∧ Seen w6 w1.heap.size (fun j => if j = p.id.toNat then f p.id.toNat + 1 else f j) ∧ w6.heap[M]? = some (.map (ruleEs 27) 27) ∧ Below w.heap.size w w6 ∧ w1.heap.size + 1 ≤ w6.heap.size) := Lib.hid ⟨hown7, by unfold Seen; rw [hkeep6 _ (Nat.le_refl _)]; exact HX.out.1, by rw [hkeep6 _ (by have := HMlt.out.2; omega)]; exact HX.out.2.2.2.2, hbel6, by omega⟩
            clear hown4 hgrow4 hat4 hlt4 hb5 hown6 hgrow6 hg1 hsz4 hsz5 hsz6 hs3' hkeep6 hbel6 hown7
            go_wp2
            go_roundw
            case rel =>
              obtain ⟨q1, q2, q3, q4, q5⟩ := HZ.out
              refine ⟨k + 1, _, _, by omega, by go_num, q1, q2, q3, q4, q5, ?_, ?_, HX.out.2.2.1.symm⟩
              · intro i
                have h1 := HFB.out.1 i
                have h2 := HFB.out.1 p.id.toNat
                by_cases e : i = p.id.toNat
                · simp only [e, if_true]; omega
                · simp only [e, if_false]; omega
              · have h1 := HFB.out.2
                have h2 := HVS.out
                rw [List.length_append, List.length_append, bytesN_len]
                simp only [List.length_cons, List.length_nil]
                omega
            case measure => simp [intOf]; omega
        · have hne : (checkC (ruleOf p.id) kind p != 0) = true := by simpa using hk0
          have HF2 : Hid (bytesF kind l = (⟨#[]⟩, checkC (ruleOf p.id) kind p)) := Lib.hid (by rw [HF.out, HG.out, bytesGo, if_neg hk0])
          clear hk0
          generalize checkC (ruleOf p.id) kind p = z at *
          go_wp2
          go_ret2
          exact ⟨by rw [HF2.out]; rfl, HR2.out.2.2.1⟩
      · have hkn : k = n := by omega
        have hdrop : l.drop k = [] := List.drop_eq_nil_of_le (by rw [HL.out]; omega)
        rw [hdrop] at hgo
        have HG : Hid (bytesF kind l = if loneB f = true then (⟨#[]⟩, 9) else (viS out.length ++ strOfNums out, 0)) := Lib.hid (by rw [HF.out, ← hgo, bytesGo])
        obtain ⟨A8, c8, hv8⟩ : ∃ A8 c8, u8 = .slice A8 out.length c8 := by
          rcases hown.2 with ⟨rfl, h0⟩ | ⟨g, cap, cur, rfl, _⟩
          · exact ⟨none, 0, by rw [h0]⟩
          · exact ⟨_, cap, rfl⟩
        have hlen2 : out.length ≤ 131075000 := by
          have := Nat.mul_le_mul_right 131075 (show k ≤ 1000 by omega)
          omega
        have HH : Hid ((OwnB wr (w1.heap.size + 1) u8 out ∧ Below w.heap.size w wr)) := Lib.hid ⟨hown, hbel⟩
        have HS := Lib.hid hseen
        subst hv8
        clear hown hseen hmap hbel hsz hf hlen hgo hdrop hkn hk
        go_wp2_with fail
        refine (lone_t w1.heap.size f _ HS.out).mono ?_
        rintro e w2 ⟨rfl, rfl⟩
        cases hlo : loneB f with
        | true =>
          have HF2 : Hid (bytesF kind l = (⟨#[]⟩, 9)) := Lib.hid (by rw [HG.out, if_pos hlo])
          clear hlo
          go_wp2
          go_ret2
          exact ⟨by rw [HF2.out]; rfl, HH.out.2⟩
        | false =>
          have HF2 : Hid (bytesF kind l = (viS out.length ++ strOfNums out, 0)) := Lib.hid (by rw [HG.out, if_neg (by rw [hlo]; decide)])
          clear hlo
          go_wp2_with fail
          refine (vibytes_t (out.length : Int) _ (by omega) (by omega)).mono ?_
          rintro e w2 ⟨rfl, hb⟩
          have hcv := ownb_string (ownb_below HH.out.1 hb)
          have HB2 := Lib.hid (ext_then' HH.out.2 hb)
          have hv4 := viS_le (out.length : Int)
          have hso : (strOfNums out).size = out.length := strOfNums_size out
          have hlt : ¬ 9223372036854775807 < (viS (out.length : Int)).size + (strOfNums out).size := by omega
          clear hb hv4 hso
          generalize viS (out.length : Int) = vs at *
          generalize strOfNums out = so at *
          go_wp2
          go_ret2
          exact ⟨by rw [HF2.out]; rfl, HB2.out⟩
end Go.Proofs.YtjlkhihlbdokpaaGreat
