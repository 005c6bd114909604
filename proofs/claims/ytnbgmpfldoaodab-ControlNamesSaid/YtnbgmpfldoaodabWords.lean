/- The words of package reason, as the code makes them: 'with' and 'upto' set bits of four words, 'has' reads one. -/
import Derived.Test.YtnbgmpfldoaodabProg
import Derived.WalkKit
import Derived.KernelRfl
import Derived.Laws.Rows
import Derived.Outline
import Derived.Handy
import Derived.Lib.Hide
import Derived.WalkLawsBesides
import Derived.WalkSpells
namespace Go.Proofs.Ytnbgmpfldoaodab
open Go.RowKit
set_option maxHeartbeats 400000
/-- A slice of whole numbers that is read. -/
def RI (w : World) (A : Option Addr) (n : Nat) (xs : List Int) : Prop :=
  xs.length = n ∧ n ≤ 9223372036854775807 ∧ (0 < n → ∃ b off, A = some ⟨b, off, none⟩ ∧ b < w.heap.size ∧ ∀ j, j < n → w.cell? ⟨b, off + j, none⟩ = some (.int .i64 (xs.getD j 0)))
structure W4 where
  a : Int
  b : Int
  c : Int
  d : Int
/-- A word with one bit more. -/
def orb (p x : Int) : Int := bits .or .u64 p (IntKind.u64.wrap (2 ^ (x % 64).toNat))
def W4.put (t : W4) (x : Int) : W4 := if x / 64 = 0 then { t with a := orb t.a x } else if x / 64 = 1 then { t with b := orb t.b x } else if x / 64 = 2 then { t with c := orb t.c x } else { t with d := orb t.d x }
def W4.puts (t : W4) (xs : List Int) : W4 := xs.foldl W4.put t
theorem puts_snoc (t : W4) (xs : List Int) (k : Nat) (h : k < xs.length) : t.puts (xs.take (k + 1)) = (t.puts (xs.take k)).put (xs.getD k 0) := by
  rw [List.take_succ_eq_append_getElem h, W4.puts, List.foldl_append]
  simp [W4.puts, List.getD_eq_getElem?_getD, List.getElem?_eq_getElem h]
theorem heap_alloc_last (w : World) (o : Obj) : (w.alloc o).heap[w.heap.size]? = some o := heap_alloc_new w o
/-- What a round of 'with' leaves. -/
theorem with_round (t : W4) (xs : List Int) (k : Nat) (q : Nat) (v : Int) (w wr : World) (B : Nat) (hB : w.heap.size ≤ B)
    (hb0 : wr.heap[B]? = some (.cells #[.int .u64 (t.puts (xs.take k)).a, .int .u64 (t.puts (xs.take k)).b, .int .u64 (t.puts (xs.take k)).c, .int .u64 (t.puts (xs.take k)).d] 90 (0, 0)))
    (hb1 : wr.heap[B + 1]? = some (.cells #[.int .u64 0, .int .u64 0, .int .u64 0, .int .u64 0] 90 (0, 0))) (hbel : Below w.heap.size w wr)
    (hv : #[Value.int .u64 (t.puts (xs.take (k + 1))).a, .int .u64 (t.puts (xs.take (k + 1))).b, .int .u64 (t.puts (xs.take (k + 1))).c, .int .u64 (t.puts (xs.take (k + 1))).d] = (#[Value.int .u64 (t.puts (xs.take k)).a, .int .u64 (t.puts (xs.take k)).b, .int .u64 (t.puts (xs.take k)).c, .int .u64 (t.puts (xs.take k)).d] : Array Value).setIfInBounds q (.int .u64 v)) :
    (wr.setCell ⟨B, q, none⟩ (.int .u64 v)).heap[B]? = some (.cells #[.int .u64 (t.puts (xs.take (k + 1))).a, .int .u64 (t.puts (xs.take (k + 1))).b, .int .u64 (t.puts (xs.take (k + 1))).c, .int .u64 (t.puts (xs.take (k + 1))).d] 90 (0, 0)) ∧
    (wr.setCell ⟨B, q, none⟩ (.int .u64 v)).heap[B + 1]? = some (.cells #[.int .u64 0, .int .u64 0, .int .u64 0, .int .u64 0] 90 (0, 0)) ∧ Below w.heap.size w (wr.setCell ⟨B, q, none⟩ (.int .u64 v)) := by
  refine ⟨?_, ?_, hbel.setCell (by simpa using hB) _⟩
  · rw [heap_setCell_same _ _ _ _ _ _ hb0, hv]
  · rw [heap_setCell_other _ _ _ _ (by simp)]; exact hb1
set_option maxRecDepth 100000 in
theorem with_t (t : W4) (A : Option Addr) (n cp : Nat) (xs : List Int) (w : World) (hr : RI w A n xs) (hx : ∀ j, j < n → 0 ≤ xs.getD j 0 ∧ xs.getD j 0 < 256) :
    Calls Try.prog 71 #[.agg #[.int .u64 t.a, .int .u64 t.b, .int .u64 t.c, .int .u64 t.d], .slice A n cp] w fun e w' =>
      e = .returned (.agg #[.int .u64 (t.puts xs).a, .int .u64 (t.puts xs).b, .int .u64 (t.puts xs).c, .int .u64 (t.puts xs).d]) ∧ Below w.heap.size w w' := by
  obtain ⟨hl, hn, hc⟩ := hr
  have HX := Lib.hid hx
  have HC := Lib.hid hc
  clear hx hc
  go_enter Try.func71, Try.ntmps71
  go_wp2
  go_loopw [9] (fun v9 wr => ∃ k : Nat, k ≤ n ∧ v9 = .int .i64 k ∧ wr.heap[w.heap.size]? = some (.cells #[.int .u64 (t.puts (xs.take k)).a, .int .u64 (t.puts (xs.take k)).b, .int .u64 (t.puts (xs.take k)).c, .int .u64 (t.puts (xs.take k)).d] 90 (0, 0)) ∧ wr.heap[w.heap.size + 1]? = some (.cells #[.int .u64 0, .int .u64 0, .int .u64 0, .int .u64 0] 90 (0, 0)) ∧ Below w.heap.size w wr) (fun v9 _ => n - (intOf v9).toNat)
  case atStart => exact ⟨0, by omega, rfl, heap_alloc2_old .., heap_alloc2_new .., ((Below.refl _ _).alloc (Nat.le_refl _) _).alloc (by simp) _⟩
  case round =>
    obtain ⟨k, hk, rfl, hb0, hb1, hbel⟩ := hrel
    by_cases hlt : k < n
    · obtain ⟨b, off, rfl, hbl, hcell⟩ := HC.out (by omega)
      have hx := HX.out k hlt
      have hcl : wr.cell? ⟨b, off + k, none⟩ = some (.int .i64 (xs.getD k 0)) := (hbel.cell (p := ⟨b, off + k, none⟩) hbl).trans (hcell k hlt)
      have HR := Lib.hid (fun q v => with_round t xs k q v w wr _ (Nat.le_refl _) hb0 hb1 hbel)
      have HS := Lib.hid (puts_snoc t xs k (by omega))
      have e0 : ∀ i, wr.cell? ⟨w.heap.size, i, none⟩ = (#[.int .u64 (t.puts (xs.take k)).a, .int .u64 (t.puts (xs.take k)).b, .int .u64 (t.puts (xs.take k)).c, .int .u64 (t.puts (xs.take k)).d] : Array Value)[i]? := fun i => cell_of_row _ _ i _ _ _ hb0
      have f0 : ∀ i, wr.frozen? ⟨w.heap.size, i, none⟩ = false := fun i => frozen_of_row _ _ i _ _ hb0
      have HB := Lib.hid (⟨hb0, hb1, hbel⟩ : _ ∧ _ ∧ _)
      clear hcell HC HX hb0 hb1 hbel
      generalize xs.getD k 0 = x at *
      have h64 : x / 64 = 0 ∨ x / 64 = 1 ∨ x / 64 = 2 ∨ x / 64 = 3 := by omega
      rcases h64 with h64 | h64 | h64 | h64
      · have c0 := e0 0; have g0 := f0 0; simp only [List.getElem?_toArray, List.getElem?_cons_zero] at c0
        have HQ := Lib.hid h64
        have HE := Lib.hid (HR.out 0 (orb (t.puts (xs.take k)).a x) (by rw [HS.out]; simp [W4.put, h64]))
        clear e0 f0 HR HB HS
        go_wp2
        go_roundw
        case rel => exact ⟨k + 1, by omega, by go_num, HE.out.1, HE.out.2.1, HE.out.2.2⟩
        case measure => simp [intOf]; omega
      · have c0 := e0 1; have g0 := f0 1; simp only [List.getElem?_toArray, List.getElem?_cons_zero, List.getElem?_cons_succ] at c0
        have HQ := Lib.hid h64
        have HE := Lib.hid (HR.out 1 (orb (t.puts (xs.take k)).b x) (by rw [HS.out]; simp [W4.put, h64]))
        clear e0 f0 HR HB HS
        go_wp2
        go_roundw
        case rel => exact ⟨k + 1, by omega, by go_num, HE.out.1, HE.out.2.1, HE.out.2.2⟩
        case measure => simp [intOf]; omega
      · have c0 := e0 2; have g0 := f0 2; simp only [List.getElem?_toArray, List.getElem?_cons_zero, List.getElem?_cons_succ] at c0
        have HQ := Lib.hid h64
        have HE := Lib.hid (HR.out 2 (orb (t.puts (xs.take k)).c x) (by rw [HS.out]; simp [W4.put, h64]))
        clear e0 f0 HR HB HS
        go_wp2
        go_roundw
        case rel => exact ⟨k + 1, by omega, by go_num, HE.out.1, HE.out.2.1, HE.out.2.2⟩
        case measure => simp [intOf]; omega
      · have c0 := e0 3; have g0 := f0 3; simp only [List.getElem?_toArray, List.getElem?_cons_zero, List.getElem?_cons_succ] at c0
        have HQ := Lib.hid h64
        have HE := Lib.hid (HR.out 3 (orb (t.puts (xs.take k)).d x) (by rw [HS.out]; simp [W4.put, h64]))
        clear e0 f0 HR HB HS
        go_wp2
        go_roundw
        case rel => exact ⟨k + 1, by omega, by go_num, HE.out.1, HE.out.2.1, HE.out.2.2⟩
        case measure => simp [intOf]; omega
    · obtain rfl : k = n := by omega
      have ht : xs.take k = xs := List.take_of_length_le (by omega)
      rw [ht] at hb0
      clear ht
      have c0 : wr.cell? ⟨w.heap.size, 0, none⟩ = some (.int .u64 (t.puts xs).a) := by rw [cell_of_row _ _ _ _ _ _ hb0]; rfl
      have c1 : wr.cell? ⟨w.heap.size, 1, none⟩ = some (.int .u64 (t.puts xs).b) := by rw [cell_of_row _ _ _ _ _ _ hb0]; rfl
      have c2 : wr.cell? ⟨w.heap.size, 2, none⟩ = some (.int .u64 (t.puts xs).c) := by rw [cell_of_row _ _ _ _ _ _ hb0]; rfl
      have c3 : wr.cell? ⟨w.heap.size, 3, none⟩ = some (.int .u64 (t.puts xs).d) := by rw [cell_of_row _ _ _ _ _ _ hb0]; rfl
      have d0 : ∀ i, i < 4 → wr.cell? ⟨w.heap.size + 1, i, none⟩ = some (.int .u64 0) := fun i hi => by rw [cell_of_row _ _ _ _ _ _ hb1]; match i, hi with | 0, _ => rfl | 1, _ => rfl | 2, _ => rfl | 3, _ => rfl
      have f1 : ∀ i, wr.frozen? ⟨w.heap.size + 1, i, none⟩ = false := fun i => frozen_of_row _ _ i _ _ hb1
      have d1 := d0 0 (by omega); have d2 := d0 1 (by omega); have d3 := d0 2 (by omega); have d4 := d0 3 (by omega)
      have g1 := f1 0; have g2 := f1 1; have g3 := f1 2; have g4 := f1 3
      have HB := Lib.hid hbel
      clear hb0 hb1 hbel d0 f1 HC HX
      go_wp2
      refine bodyPost_ret (v := .agg #[.int .u64 (t.puts xs).a, .int .u64 (t.puts xs).b, .int .u64 (t.puts xs).c, .int .u64 (t.puts xs).d]) ?_ rfl ⟨rfl, ?_⟩
      · simp [results, Try.results71, go_sem, d1, d2, d3, d4]
      · exact (((HB.out.setCell (by simp) _).setCell (by simp) _).setCell (by simp) _).setCell (by simp) _
/-- 'upto': the codes from one to another. -/
def W4.span (t : W4) (lo : Int) (n : Nat) : W4 := t.puts ((List.range n).map fun i : Nat => lo + (i : Int))
theorem span_succ (t : W4) (lo : Int) (n : Nat) : t.span lo (n + 1) = (t.span lo n).puts [lo + (n : Int)] := by
  simp [W4.span, W4.puts, List.range_succ, List.foldl_append]
/-- Four cells written one behind the other. -/
theorem set_four (wr : World) (B : Nat) (t s : W4) (T : TypeId) (hb : wr.heap[B]? = some (.cells #[.int .u64 t.a, .int .u64 t.b, .int .u64 t.c, .int .u64 t.d] T (0, 0))) :
    ((((wr.setCell ⟨B, 0, none⟩ (.int .u64 s.a)).setCell ⟨B, 1, none⟩ (.int .u64 s.b)).setCell ⟨B, 2, none⟩ (.int .u64 s.c)).setCell ⟨B, 3, none⟩ (.int .u64 s.d)).heap[B]? = some (.cells #[.int .u64 s.a, .int .u64 s.b, .int .u64 s.c, .int .u64 s.d] T (0, 0)) := by
  have h1 := heap_setCell_same wr B 0 _ T (.int .u64 s.a) hb
  have h2 := heap_setCell_same _ B 1 _ T (.int .u64 s.b) h1
  have h3 := heap_setCell_same _ B 2 _ T (.int .u64 s.c) h2
  have h4 := heap_setCell_same _ B 3 _ T (.int .u64 s.d) h3
  rw [h4]; rfl
theorem set_four_other (wr : World) (B k : Nat) (v0 v1 v2 v3 : Value) (hk : k ≠ B) :
    ((((wr.setCell ⟨B, 0, none⟩ v0).setCell ⟨B, 1, none⟩ v1).setCell ⟨B, 2, none⟩ v2).setCell ⟨B, 3, none⟩ v3).heap[k]? = wr.heap[k]? := by
  rw [heap_setCell_other _ _ _ _ hk, heap_setCell_other _ _ _ _ hk, heap_setCell_other _ _ _ _ hk, heap_setCell_other _ _ _ _ hk]
theorem set_four_below (w wr : World) (B : Nat) (v0 v1 v2 v3 : Value) (hB : w.heap.size ≤ B) (hb : Below w.heap.size w wr) :
    Below w.heap.size w ((((wr.setCell ⟨B, 0, none⟩ v0).setCell ⟨B, 1, none⟩ v1).setCell ⟨B, 2, none⟩ v2).setCell ⟨B, 3, none⟩ v3) :=
  (((hb.setCell (by simpa using hB) _).setCell (by simpa using hB) _).setCell (by simpa using hB) _).setCell (by simpa using hB) _
theorem four_cells {wr : World} {B : Nat} {t : W4} {T : TypeId} (hb : wr.heap[B]? = some (.cells #[.int .u64 t.a, .int .u64 t.b, .int .u64 t.c, .int .u64 t.d] T (0, 0))) :
    (wr.cell? ⟨B, 0, none⟩ = some (.int .u64 t.a) ∧ wr.cell? ⟨B, 1, none⟩ = some (.int .u64 t.b) ∧ wr.cell? ⟨B, 2, none⟩ = some (.int .u64 t.c) ∧ wr.cell? ⟨B, 3, none⟩ = some (.int .u64 t.d)) ∧
    (wr.frozen? ⟨B, 0, none⟩ = false ∧ wr.frozen? ⟨B, 1, none⟩ = false ∧ wr.frozen? ⟨B, 2, none⟩ = false ∧ wr.frozen? ⟨B, 3, none⟩ = false) :=
  ⟨⟨by rw [cell_of_row _ _ _ _ _ _ hb]; rfl, by rw [cell_of_row _ _ _ _ _ _ hb]; rfl, by rw [cell_of_row _ _ _ _ _ _ hb]; rfl, by rw [cell_of_row _ _ _ _ _ _ hb]; rfl⟩,
   frozen_of_row _ _ _ _ _ hb, frozen_of_row _ _ _ _ _ hb, frozen_of_row _ _ _ _ _ hb, frozen_of_row _ _ _ _ _ hb⟩
/-- A slice whose one element was just made. -/
theorem RI_one (wr : World) (x : Int) (T : TypeId) : RI (wr.alloc (.cells #[.int .i64 x] T)) (some ⟨wr.heap.size, 0, none⟩) 1 [x] :=
  ⟨rfl, by omega, fun _ => ⟨_, _, rfl, by simp, fun j hj => by
    obtain rfl : j = 0 := by omega
    rw [cell_of_row _ _ _ _ _ _ (heap_alloc_new wr _)]; rfl⟩⟩
theorem below_then {B : Nat} {w w1 w2 : World} (h : Below B w w1) (hB : B ≤ w1.heap.size) (k : Below w1.heap.size w1 w2) : Below B w w2 :=
  h.trans ⟨k.os, k.tape, k.output, k.size, fun i hi => k.block i (Nat.lt_of_lt_of_le hi hB)⟩
set_option maxRecDepth 100000 in
theorem upto_t (t : W4) (lo hi : Int) (w : World) (h0 : 0 ≤ lo) (h1 : lo ≤ hi) (h2 : hi < 256) :
    Calls Try.prog 72 #[.agg #[.int .u64 t.a, .int .u64 t.b, .int .u64 t.c, .int .u64 t.d], .int .i64 lo, .int .i64 hi] w fun e w' =>
      e = .returned (.agg #[.int .u64 (t.span lo (hi + 1 - lo).toNat).a, .int .u64 (t.span lo (hi + 1 - lo).toNat).b, .int .u64 (t.span lo (hi + 1 - lo).toNat).c, .int .u64 (t.span lo (hi + 1 - lo).toNat).d]) ∧ Below w.heap.size w w' := by
  go_enter Try.func72, Try.ntmps72
  go_wp2
  go_loopw [7] (fun v7 wr => ∃ k : Nat, lo + k ≤ hi + 1 ∧ v7 = .int .i64 (lo + k) ∧ wr.heap[w.heap.size]? = some (.cells #[.int .u64 (t.span lo k).a, .int .u64 (t.span lo k).b, .int .u64 (t.span lo k).c, .int .u64 (t.span lo k).d] 90 (0, 0)) ∧ wr.heap[w.heap.size + 1]? = some (.cells #[.int .u64 0, .int .u64 0, .int .u64 0, .int .u64 0] 90 (0, 0)) ∧ Below w.heap.size w wr) (fun v7 _ => (hi + 1 - intOf v7).toNat)
  case atStart => exact ⟨0, by omega, by simp, heap_alloc2_old .., heap_alloc2_new .., ((Below.refl _ _).alloc (Nat.le_refl _) _).alloc (by simp) _⟩
  case round =>
    obtain ⟨k, hk, rfl, hb0, hb1, hbel⟩ := hrel
    by_cases hlt : lo + k ≤ hi
    · obtain ⟨⟨c0, c1, c2, c3⟩, -⟩ := four_cells hb0
      have hB : w.heap.size + 1 < wr.heap.size := (Array.getElem?_eq_some_iff.1 hb1).1
      have HB := Lib.hid (⟨hb0, hb1, hbel⟩ : _ ∧ _ ∧ _)
      have HS := Lib.hid (span_succ t lo k)
      clear hb0 hb1 hbel
      generalize hs : t.span lo k = s at *
      have HQ := Lib.hid hs
      clear hs
      go_wp2_with fail
      refine (with_t s _ _ _ _ _ (RI_one wr (lo + k) _) (fun j hj => by obtain rfl : j = 0 := by omega
                                                                        exact ⟨by simp; omega, by simp; omega⟩)).mono ?_
      rintro e w1 ⟨rfl, hb1⟩
      obtain ⟨hb0, hbx, hbel⟩ := HB.out
      have hh0 : w1.heap[w.heap.size]? = some (.cells #[.int .u64 s.a, .int .u64 s.b, .int .u64 s.c, .int .u64 s.d] 90 (0, 0)) := by
        rw [hb1.block _ (by simp; omega), heap_alloc_old _ _ (by omega)]; exact hb0
      have hh1 : w1.heap[w.heap.size + 1]? = some (.cells #[.int .u64 0, .int .u64 0, .int .u64 0, .int .u64 0] 90 (0, 0)) := by
        rw [hb1.block _ (by simp; omega), heap_alloc_old _ _ (by omega)]; exact hbx
      have hbl : Below w.heap.size w w1 := below_then (hbel.alloc hbel.size _) (by simp; omega) hb1
      obtain ⟨⟨d0, d1, d2, d3⟩, g0, g1, g2, g3⟩ := four_cells hh0
      have HH := Lib.hid (⟨hh0, hh1, hbl⟩ : _ ∧ _ ∧ _)
      clear hb0 hbx hbel hh0 hh1 hbl hb1 HB c0 c1 c2 c3
      go_wp2
      go_roundw
      case rel =>
        obtain ⟨hh0, hh1, hbl⟩ := HH.out
        refine ⟨k + 1, by omega, by go_num, ?_, ?_, set_four_below _ _ _ _ _ _ _ (Nat.le_refl _) hbl⟩
        · rw [HS.out]; exact set_four _ _ s _ _ hh0
        · rw [set_four_other _ _ _ _ _ _ _ (by omega)]; exact hh1
      case measure => simp [intOf]; omega
    · have hk' : k = (hi + 1 - lo).toNat := by omega
      obtain ⟨s, hs⟩ : ∃ s, t.span lo (hi + 1 - lo).toNat = s := ⟨_, rfl⟩
      rw [hk', hs] at hb0
      have HS := Lib.hid hs
      clear hs hk'
      obtain ⟨⟨c0, c1, c2, c3⟩, -⟩ := four_cells hb0
      obtain ⟨⟨d0, d1, d2, d3⟩, g0, g1, g2, g3⟩ := four_cells (t := ⟨0, 0, 0, 0⟩) hb1
      have HB := Lib.hid hbel
      clear hb0 hb1 hbel
      go_wp2
      refine bodyPost_ret (v := .agg #[.int .u64 s.a, .int .u64 s.b, .int .u64 s.c, .int .u64 s.d]) ?_ rfl ⟨by rw [HS.out], ?_⟩
      · simp [results, Try.results72, go_sem, d0, d1, d2, d3]
      · exact set_four_below _ _ _ _ _ _ _ (by omega) HB.out
end Go.Proofs.Ytnbgmpfldoaodab
