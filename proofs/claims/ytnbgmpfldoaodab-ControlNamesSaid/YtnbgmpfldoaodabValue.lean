/- prop.value: a property's value's bytes. -/
import Derived.Test.YtnbgmpfldoaodabSeen
namespace Go.Proofs.Ytnbgmpfldoaodab
open Go.RowKit
set_option maxHeartbeats 1000000
set_option linter.unusedVariables false
set_option linter.unusedSimpArgs false
def valueS (shape : Int) (p : Prp) : ByteArray := if shape = 1 then be1 p.n else if shape = 2 then be2 p.n else if shape = 3 then be4 p.n else if shape = 4 then viS p.n else if shape = 7 then framedS p.text ++ framedS p.value else framedS p.text
theorem framedS_size (s : ByteArray) : (framedS s).size = s.size + 2 := by
  have : (be2 (s.size : Int)).size = 2 := by simp [be2, strOfNums_size]
  simp [framedS, ByteArray.size_append, this]; omega
theorem prop_row (w : World) (o : Obj) (p : Prp) (w1 : World) (hb : Below (w.alloc (.cells #[.int .i64 p.id, .int .u32 p.n, .string p.text, .string p.value] 25)).heap.size (w.alloc (.cells #[.int .i64 p.id, .int .u32 p.n, .string p.text, .string p.value] 25)) w1) :
    w1.cell? ⟨w.heap.size, 2, none⟩ = some (.string p.text) ∧ w1.cell? ⟨w.heap.size, 3, none⟩ = some (.string p.value) ∧ w1.cell? ⟨w.heap.size, 1, none⟩ = some (.int .u32 p.n) := by
  have h : w1.heap[w.heap.size]? = some (.cells #[.int .i64 p.id, .int .u32 p.n, .string p.text, .string p.value] 25 (0, 0)) := by
    rw [hb.block _ (by simp)]; exact heap_alloc_new ..
  exact ⟨by rw [cell_of_row _ _ _ _ _ _ h]; rfl, by rw [cell_of_row _ _ _ _ _ _ h]; rfl, by rw [cell_of_row _ _ _ _ _ _ h]; rfl⟩
theorem below_alloc1 (w : World) (o : Obj) (w1 : World) (hb : Below (w.alloc o).heap.size (w.alloc o) w1) : Below w.heap.size w w1 :=
  below_then ((Below.refl _ _).alloc (Nat.le_refl _) _) (by simp) hb
set_option maxRecDepth 100000 in
theorem value_t (shape : Int) (p : Prp) (w : World) (hs0 : 1 ≤ shape) (hs1 : shape ≤ 7) (n0 : 0 ≤ p.n) (n1 : p.n < 4294967296) (h4 : shape = 4 → p.n ≤ 268435455) (ht : 5 ≤ shape → p.text.size ≤ 65535) (hv : shape = 7 → p.value.size ≤ 65535) :
    Calls Try.prog 43 #[.int .i64 shape, .agg #[.int .i64 p.id, .int .u32 p.n, .string p.text, .string p.value]] w fun e w' => e = .returned (.string (valueS shape p)) ∧ Below w.heap.size w w' := by
  have hcases : shape = 1 ∨ shape = 2 ∨ shape = 3 ∨ shape = 4 ∨ shape = 5 ∨ shape = 6 ∨ shape = 7 := by omega
  rcases hcases with rfl | rfl | rfl | rfl | rfl | rfl | rfl
  · clear ht hv h4
    go_enter Try.func43, Try.ntmps43
    go_wp2_with fail
    refine (put1_t _ _ n0 (by omega)).mono ?_
    rintro e w1 ⟨rfl, hb⟩
    have HB := Lib.hid (below_alloc1 _ _ _ hb)
    clear hb
    go_wp2
    go_ret
    exact ⟨rfl, HB.out⟩
  · clear ht hv h4
    go_enter Try.func43, Try.ntmps43
    go_wp2_with fail
    refine (put2_t _ _ n0 (by omega)).mono ?_
    rintro e w1 ⟨rfl, hb⟩
    have HB := Lib.hid (below_alloc1 _ _ _ hb)
    clear hb
    go_wp2
    go_ret
    exact ⟨rfl, HB.out⟩
  · clear ht hv h4
    go_enter Try.func43, Try.ntmps43
    go_wp2_with fail
    refine (put4_t _ _ n0 (by omega)).mono ?_
    rintro e w1 ⟨rfl, hb⟩
    have HB := Lib.hid (below_alloc1 _ _ _ hb)
    clear hb
    go_wp2
    go_ret
    exact ⟨rfl, HB.out⟩
  · have h4' := h4 rfl
    clear ht hv h4
    go_enter Try.func43, Try.ntmps43
    go_wp2_with fail
    refine (vibytes_t _ _ n0 h4').mono ?_
    rintro e w1 ⟨rfl, hb⟩
    have HB := Lib.hid (below_alloc1 _ _ _ hb)
    clear hb
    go_wp2
    go_ret
    exact ⟨rfl, HB.out⟩
  · have h5 := ht (by omega)
    clear ht hv h4
    go_enter Try.func43, Try.ntmps43
    go_wp2_with fail
    refine (binary_t p.text _ h5).mono ?_
    rintro e w1 ⟨rfl, hb⟩
    have HB := Lib.hid (below_alloc1 _ _ _ hb)
    clear hb
    go_wp2
    go_ret
    exact ⟨rfl, HB.out⟩
  · have h5 := ht (by omega)
    clear ht hv h4
    go_enter Try.func43, Try.ntmps43
    go_wp2_with fail
    refine (binary_t p.text _ h5).mono ?_
    rintro e w1 ⟨rfl, hb⟩
    have HB := Lib.hid (below_alloc1 _ _ _ hb)
    clear hb
    go_wp2
    go_ret
    exact ⟨rfl, HB.out⟩
  · have h5 := ht (by omega)
    have h6 := hv rfl
    have z1 := framedS_size p.text
    have z2 := framedS_size p.value
    have hlt : ¬ 9223372036854775807 < (framedS p.text).size + (framedS p.value).size := by omega
    clear ht hv h4 z1 z2
    go_enter Try.func43, Try.ntmps43
    go_wp2_with fail
    refine (binary_t p.text _ h5).mono ?_
    rintro e w1 ⟨rfl, hb⟩
    obtain ⟨c2, c3, c1⟩ := prop_row w (.cells #[] 0) p w1 hb
    have HB := Lib.hid (below_alloc1 _ _ _ hb)
    clear hb
    go_wp2_with fail
    refine (binary_t p.value _ h6).mono ?_
    rintro e w2 ⟨rfl, hb⟩
    have HB2 := Lib.hid (ext_then' HB.out hb)
    clear hb c1 c2 c3
    have HE : Hid (valueS 7 p = framedS p.text ++ framedS p.value) := Lib.hid rfl
    generalize framedS p.text = ft at *
    generalize framedS p.value = fv at *
    go_wp2
    go_ret
    exact ⟨by rw [HE.out]; rfl, HB2.out⟩
end Go.Proofs.Ytnbgmpfldoaodab
