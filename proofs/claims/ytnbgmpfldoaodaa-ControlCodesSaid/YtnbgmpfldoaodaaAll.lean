/- 'All': a kind's codes, as a slice of its own; 'Same' of whole numbers. -/
import Derived.Test.YtnbgmpfldoaodaaText
import Derived.OwnWalk
import Derived.Laws.AppendOwn
namespace Go.Proofs.Ytnbgmpfldoaodaa
open Go.RowKit
set_option maxHeartbeats 400000
set_option linter.unusedVariables false
set_option linter.unusedSimpArgs false
theorem ext_then {w w1 w2 : World} (h : Below w.heap.size w w1) (k : Below w1.heap.size w1 w2) : Below w.heap.size w w2 := below_then h h.size k
/-- The codes below k. -/
def codesTo (kind : Int) (k : Nat) : List Int := ((List.range k).map fun i : Nat => (i : Int)).filter (mayB kind)
theorem codesTo_succ (kind : Int) (k : Nat) : codesTo kind (k + 1) = if mayB kind (k : Int) then codesTo kind k ++ [(k : Int)] else codesTo kind k := by
  simp only [codesTo, List.range_succ, List.map_append, List.map_cons, List.map_nil, List.filter_append]
  split <;> rename_i h <;> simp [h]
theorem codesTo_le (kind : Int) (k : Nat) : (codesTo kind k).length ≤ k := by
  have := List.length_filter_le (mayB kind) ((List.range k).map fun i : Nat => (i : Int))
  simpa [codesTo] using this
/-- A slice of whole numbers of the call's own. -/
def OwnI (w : World) (base : Nat) (v : Value) (xs : List Int) : Prop := w.ownsRow base 3 1 v xs.length (xs.map (Value.int .i64))
theorem own_base_mono {w : World} {b b' : Nat} {e : TypeId} {s n : Nat} {v : Value} {xs : List Value} (h : w.ownsRow b e s v n xs) (hb : b' ≤ b) : w.ownsRow b' e s v n xs := by
  refine ⟨h.1, ?_⟩
  rcases h.2 with h2 | ⟨g, cap, cur, h1, h2, h3⟩
  · exact .inl h2
  · exact .inr ⟨g, cap, cur, h1, by omega, h3⟩
theorem own_below {w w1 : World} {b : Nat} {e : TypeId} {s n : Nat} {v : Value} {xs : List Value} (h : w.ownsRow b e s v n xs) (hb : Below w.heap.size w w1) : w1.ownsRow b e s v n xs :=
  h.kept (row := none) ⟨hb.os, hb.tape, hb.output, hb.size, fun i hi _ => hb.block i hi⟩ (by cases v.ownBlock <;> simp)
theorem info_int : (Try.prog.info? 3).map (fun i => (i.zero, i.size, i.bytes)) = some (some (.int .i64 0), 1, 8) := by kernel_rfl
theorem ones_i64 (l : List Int) : ∀ u ∈ l.map (Value.int .i64), u.oneCell' = true := by
  intro u hu
  simp only [List.mem_map] at hu
  obtain ⟨x, _, rfl⟩ := hu
  rfl
theorem new_one (w : World) (x : Value) (T : TypeId) : ∀ (j : Nat) (u : Value), [x][j]? = some u → (w.alloc (.cells #[x] T)).cell? ((⟨w.heap.size, 0, none⟩ : Addr).add j) = some u := by
  intro j u h
  match j, h with
  | 0, h =>
    simp at h; subst h
    rw [show (⟨w.heap.size, 0, none⟩ : Addr).add 0 = ⟨w.heap.size, 0, none⟩ from rfl, cell_of_row _ _ _ _ _ _ (heap_alloc_new w _)]; rfl
/-- What a grown world keeps of a block that is not the row's. -/
theorem grown_block {w w1 : World} {r : Option Nat} (h : w.grownBy w1 r) {k : Nat} (hk : k < w.heap.size) (hr : some k ≠ r) : w1.heap[k]? = w.heap[k]? := h.block k hk hr
theorem own_block_ge {w : World} {b : Nat} {e : TypeId} {s n : Nat} {v : Value} {xs : List Value} (h : w.ownsRow b e s v n xs) : ∀ k, v.ownBlock = some k → b ≤ k := fun k hk => (h.lt k hk).1
theorem below_grown {w wr w1 : World} {r : Option Nat} (h : Below w.heap.size w wr) (hg : wr.grownBy w1 r) (hr : ∀ k, r = some k → w.heap.size ≤ k) : Below w.heap.size w w1 := h.grown hg h.size hr
set_option maxRecDepth 100000 in
theorem all_t (kind : Int) (w : World) : Calls Try.prog 19 #[.int .i64 kind] w fun e w' => ∃ v, e = .returned v ∧ OwnI w' w.heap.size v (codesTo kind 256) ∧ Below w.heap.size w w' := by
  obtain ⟨i0, hi, hz0, hz1, hz2⟩ := info_parts info_int
  go_enter Try.func19, Try.ntmps19
  go_wp2_with fail
  refine (codes_t kind _).mono ?_
  rintro e w1 ⟨rfl, hb1⟩
  obtain ⟨t, ht⟩ : ∃ t, t = codesW kind := ⟨_, rfl⟩
  rw [← ht]
  have HT := Lib.hid (fun x => (by rw [ht, codes_has] : t.has x = mayB kind x))
  have HB := Lib.hid hb1
  clear ht hb1
  go_wp2
  go_loopw [4, 8] (fun v4 v8 wr => ∃ k : Nat, k ≤ 256 ∧ v8 = .int .i64 k ∧ wr.ownsRow (w1.heap.size + 1) 3 1 v4 (codesTo kind k).length ((codesTo kind k).map (Value.int .i64)) ∧ wr.heap[w1.heap.size]? = some (.cells #[.int .u64 t.a, .int .u64 t.b, .int .u64 t.c, .int .u64 t.d] 58 (0, 0)) ∧ Below w.heap.size w wr ∧ w1.heap.size + 1 ≤ wr.heap.size) (fun _ v8 _ => 256 - (intOf v8).toNat)
  case atStart => exact ⟨0, by omega, rfl, World.ownsRow_nil _ _ _ _, heap_alloc_new .., HB.out.alloc HB.out.size _, by simp⟩
  case round =>
    obtain ⟨k, hk, rfl, hown, hw, hbel, hsz⟩ := hrel
    by_cases hlt : k < 256
    · obtain ⟨⟨c0, c1, c2, c3⟩, -⟩ := four_cells hw
      have HC := Lib.hid (⟨hown, hw, hbel, hsz⟩ : _ ∧ _ ∧ _ ∧ _)
      have HS := Lib.hid (codesTo_succ kind k)
      have HL := Lib.hid (codesTo_le kind k)
      clear hown hw hbel hsz
      generalize codesTo kind k = l at *
      go_wp2_with fail
      refine (has_t t (k : Int) _).mono ?_
      rintro e w2 ⟨rfl, hb2⟩
      obtain ⟨hown, hw, hbel, hsz⟩ := HC.out
      have hown2 := own_below hown hb2
      have hw2 : w2.heap[w1.heap.size]? = some (.cells #[.int .u64 t.a, .int .u64 t.b, .int .u64 t.c, .int .u64 t.d] 58 (0, 0)) := by rw [hb2.block _ (by omega)]; exact hw
      have HD := Lib.hid (⟨hown2, hw2, ext_then hbel hb2, Nat.le_trans hsz hb2.size⟩ : _ ∧ _ ∧ _ ∧ _)
      clear hown hw hbel hsz hown2 hw2 hb2 HC c0 c1 c2 c3
      rw [HT.out]
      cases hm : mayB kind (k : Int) with
      | false =>
        have HN : Hid (codesTo kind (k + 1) = l) := Lib.hid (by rw [HS.out, hm]; simp)
        clear hm
        go_wp2
        go_roundw
        case rel =>
          obtain ⟨hown, hw, hbel, hsz⟩ := HD.out
          exact ⟨k + 1, by omega, by go_num, by rw [HN.out]; exact hown, hw, hbel, hsz⟩
        case measure => simp [intOf]; omega
      | true =>
        have HN : Hid (codesTo kind (k + 1) = l ++ [(k : Int)]) := Lib.hid (by rw [HS.out, hm]; simp)
        clear hm
        go_wp2_with (at_builtin; refine wpList_append_own _ rfl _ _ 27 rfl (w1.heap.size + 1) 3 i0 (.int .i64 0) 1 8 Try.underlying27 hi hz0 hz1 hz2 rfl (by decide) _ l.length (l.map (Value.int .i64)) rfl (HD.out.1.alloc _) ⟨w2.heap.size, 0, none⟩ 1 1 [.int .i64 (k : Int)] rfl rfl ?c1 ?c2 ?c3 ?c4 ?c5 ?_)
        case c1 => exact new_one _ _ _
        case c2 => intro u hu; simp at hu; subst hu; rfl
        case c3 => have := HL.out; unfold maxLen; omega
        case c4 => have := HL.out; omega
        case c5 => have := HD.out.2.2.2; simp; omega
        intro v' w3 hown3 hgrow3 _
        have HG := Lib.hid (⟨hown3, hgrow3⟩ : _ ∧ _)
        clear hown3 hgrow3
        go_wp2
        go_roundw
        case rel =>
          obtain ⟨hown3, hgrow3⟩ := HG.out
          obtain ⟨hown, hw, hbel, hsz⟩ := HD.out
          refine ⟨k + 1, by omega, by go_num, ?_, ?_, ?_, ?_⟩
          · rw [HN.out]; simpa using hown3
          · rw [grown_block hgrow3 (by simp; omega) (fun h => by have := own_block_ge hown _ h.symm; omega), heap_alloc_old _ _ (by omega)]; exact hw
          · exact (hbel.alloc hbel.size _).grown hgrow3 (by have := hbel.size; simp; omega) (fun k' h => by have := own_block_ge hown _ h; have := HB.out.size; omega)
          · have := hgrow3.size; simp at this; omega
        case measure => simp [intOf]; omega
    · obtain rfl : k = 256 := by omega
      have HC := Lib.hid (⟨own_base_mono hown (by have := HB.out.size; omega), hbel⟩ : wr.ownsRow w.heap.size 3 1 _ _ _ ∧ Below w.heap.size w wr)
      clear hown hw hbel
      go_wp2
      go_ret
      exact ⟨_, rfl, HC.out.1, HC.out.2⟩
end Go.Proofs.Ytnbgmpfldoaodaa
