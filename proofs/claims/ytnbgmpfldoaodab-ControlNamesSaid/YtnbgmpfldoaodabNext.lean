/- ack.Next. -/
import Derived.Test.YtnbgmpfldoaodabSamePk
import Derived.Test.YtnbgmpfldoaodabAckB
namespace Go.Proofs.Ytnbgmpfldoaodab
open Go.RowKit Go.Sort
set_option maxHeartbeats 2000000
set_option linter.unusedVariables false
set_option linter.unusedSimpArgs false
def stepPk (p : Pk) : Pk := { zeroPk with kind := p.kind + 1, id := p.id }
set_option maxRecDepth 100000 in
theorem next_no (p : Pk) (h5 : (p.kind == 5) = false) (h6 : (p.kind == 6) = false) (w : World) : Calls Try.prog 9 #[.agg (packC p)] w fun e w' => e = .returned (.tuple #[.agg (packC (zeroPk)), .bool false]) ∧ Below w.heap.size w w' := by
  have HG := Lib.hid (heap_alloc2_old w (.cells (packC p) 35) (.cells (packC zeroPk) 35))
  have HR := Lib.hid (heap_alloc2_new w (.cells (packC p) 35) (.cells (packC zeroPk) 35))
  have HB := Lib.hid (((Below.refl w.heap.size w).alloc (Nat.le_refl _) (.cells (packC p) 35)).alloc (by simp) (.cells (packC zeroPk) 35))
  have c0 : ∀ o, ((w.alloc (.cells (packC p) 35)).alloc o).cell? ⟨w.heap.size, 0, none⟩ = some (.int .i64 p.kind) := fun o => pack_at (heap_alloc2_old w _ o) 0 _ rfl
  have c4 : ∀ o, ((w.alloc (.cells (packC p) 35)).alloc o).cell? ⟨w.heap.size, 4, none⟩ = some (.int .i64 p.id) := fun o => pack_at (heap_alloc2_old w _ o) 4 _ rfl
  have c21 : ∀ o, ((w.alloc (.cells (packC p) 35)).alloc o).cell? ⟨w.heap.size, 21, none⟩ = some (.int .i64 p.code) := fun o => pack_at (heap_alloc2_old w _ o) 21 _ rfl
  go_enter Try.func9, Try.ntmps9
  go_wp2_with ((with_reducible refine pk_store (w.heap.size + 1) (zeroPk) ?x1 ?y1 _ (heap_alloc2_new w _ _) ?a1 ?b1 ?c1 ?d1 ?e1 ?f1); (case a1 => rfl); (case b1 => rfl); (case c1 => rfl); (case d1 => rfl); (case e1 => rfl))
  intro w9 hg hgr
  have HB9 := Lib.hid (grown_below HB.out hgr (by omega))
  have HG9 := Lib.hid hg
  clear hg hgr
  go_wp2
  refine bodyPost_ret (v := .tuple #[.agg (packC (zeroPk)), .bool false]) ?_ rfl ⟨rfl, HB9.out⟩
  exact results_pk (s := 2) (u := 3) rfl _ _ (w.heap.size + 1) (zeroPk) rfl HG9.out
set_option maxRecDepth 100000 in
theorem next_rel (p : Pk) (h5 : (p.kind == 5) = false) (h6 : (p.kind == 6) = true) (w : World) : Calls Try.prog 9 #[.agg (packC p)] w fun e w' => e = .returned (.tuple #[.agg (packC (stepPk p)), .bool true]) ∧ Below w.heap.size w w' := by
  have k0 : 6 ≤ p.kind := by simp at h6; omega
  have k1 : p.kind ≤ 6 := by simp at h6; omega
  have HG := Lib.hid (heap_alloc2_old w (.cells (packC p) 35) (.cells (packC zeroPk) 35))
  have HR := Lib.hid (heap_alloc2_new w (.cells (packC p) 35) (.cells (packC zeroPk) 35))
  have HB := Lib.hid (((Below.refl w.heap.size w).alloc (Nat.le_refl _) (.cells (packC p) 35)).alloc (by simp) (.cells (packC zeroPk) 35))
  have c0 : ∀ o, ((w.alloc (.cells (packC p) 35)).alloc o).cell? ⟨w.heap.size, 0, none⟩ = some (.int .i64 p.kind) := fun o => pack_at (heap_alloc2_old w _ o) 0 _ rfl
  have c4 : ∀ o, ((w.alloc (.cells (packC p) 35)).alloc o).cell? ⟨w.heap.size, 4, none⟩ = some (.int .i64 p.id) := fun o => pack_at (heap_alloc2_old w _ o) 4 _ rfl
  have c21 : ∀ o, ((w.alloc (.cells (packC p) 35)).alloc o).cell? ⟨w.heap.size, 21, none⟩ = some (.int .i64 p.code) := fun o => pack_at (heap_alloc2_old w _ o) 21 _ rfl
  go_enter Try.func9, Try.ntmps9
  go_wp2_with ((with_reducible refine pk_store (w.heap.size + 1) (stepPk p) ?x1 ?y1 _ (heap_alloc2_new w _ _) ?a1 ?b1 ?c1 ?d1 ?e1 ?f1); (case a1 => rfl); (case b1 => rfl); (case c1 => rfl); (case d1 => rfl); (case e1 => rfl))
  intro w9 hg hgr
  have HB9 := Lib.hid (grown_below HB.out hgr (by omega))
  have HG9 := Lib.hid hg
  clear hg hgr
  go_wp2
  refine bodyPost_ret (v := .tuple #[.agg (packC (stepPk p)), .bool true]) ?_ rfl ⟨rfl, HB9.out⟩
  exact results_pk (s := 2) (u := 3) rfl _ _ (w.heap.size + 1) (stepPk p) rfl HG9.out
set_option maxRecDepth 100000 in
theorem next_bad (p : Pk) (h5 : (p.kind == 5) = true) (hd : badB p.code = true) (w : World) : Calls Try.prog 9 #[.agg (packC p)] w fun e w' => e = .returned (.tuple #[.agg (packC (zeroPk)), .bool false]) ∧ Below w.heap.size w w' := by
  have HD := Lib.hid hd
  clear hd
  have HG := Lib.hid (heap_alloc2_old w (.cells (packC p) 35) (.cells (packC zeroPk) 35))
  have HR := Lib.hid (heap_alloc2_new w (.cells (packC p) 35) (.cells (packC zeroPk) 35))
  have HB := Lib.hid (((Below.refl w.heap.size w).alloc (Nat.le_refl _) (.cells (packC p) 35)).alloc (by simp) (.cells (packC zeroPk) 35))
  have c0 : ∀ o, ((w.alloc (.cells (packC p) 35)).alloc o).cell? ⟨w.heap.size, 0, none⟩ = some (.int .i64 p.kind) := fun o => pack_at (heap_alloc2_old w _ o) 0 _ rfl
  have c4 : ∀ o, ((w.alloc (.cells (packC p) 35)).alloc o).cell? ⟨w.heap.size, 4, none⟩ = some (.int .i64 p.id) := fun o => pack_at (heap_alloc2_old w _ o) 4 _ rfl
  have c21 : ∀ o, ((w.alloc (.cells (packC p) 35)).alloc o).cell? ⟨w.heap.size, 21, none⟩ = some (.int .i64 p.code) := fun o => pack_at (heap_alloc2_old w _ o) 21 _ rfl
  go_enter Try.func9, Try.ntmps9
  go_wp2_with fail
  refine (bad_t p.code _).mono ?_
  rintro e w2 ⟨rfl, hb⟩
  rw [HD.out]
  have HB2 := Lib.hid (ext_then' HB.out hb)
  have HG2 := Lib.hid (row_then HG.out hb)
  have HR2 := Lib.hid (row_then HR.out hb)
  clear hb HB HG HR c0 c4 c21
  have c0 : w2.cell? ⟨w.heap.size, 0, none⟩ = some (.int .i64 p.kind) := pack_at HG2.out 0 _ rfl
  have c4 : w2.cell? ⟨w.heap.size, 4, none⟩ = some (.int .i64 p.id) := pack_at HG2.out 4 _ rfl
  have c21 : w2.cell? ⟨w.heap.size, 21, none⟩ = some (.int .i64 p.code) := pack_at HG2.out 21 _ rfl
  have HB := HB2
  have HR := HR2
  clear HB2 HR2
  go_wp2_with ((with_reducible refine pk_store (w.heap.size + 1) (zeroPk) ?x1 ?y1 _ HR.out ?a1 ?b1 ?c1 ?d1 ?e1 ?f1); (case a1 => rfl); (case b1 => rfl); (case c1 => rfl); (case d1 => rfl); (case e1 => rfl))
  intro w9 hg hgr
  have HB9 := Lib.hid (grown_below HB.out hgr (by omega))
  have HG9 := Lib.hid hg
  clear hg hgr
  go_wp2
  refine bodyPost_ret (v := .tuple #[.agg (packC (zeroPk)), .bool false]) ?_ rfl ⟨rfl, HB9.out⟩
  exact results_pk (s := 2) (u := 3) rfl _ _ (w.heap.size + 1) (zeroPk) rfl HG9.out
set_option maxRecDepth 100000 in
theorem next_rec (p : Pk) (h5 : (p.kind == 5) = true) (hd : badB p.code = false) (hc : decide (255 < p.code) = false) (w : World) : Calls Try.prog 9 #[.agg (packC p)] w fun e w' => e = .returned (.tuple #[.agg (packC (stepPk p)), .bool true]) ∧ Below w.heap.size w w' := by
  have HD := Lib.hid hd
  clear hd
  have k0 : 5 ≤ p.kind := by simp at h5; omega
  have k1 : p.kind ≤ 5 := by simp at h5; omega
  have HG := Lib.hid (heap_alloc2_old w (.cells (packC p) 35) (.cells (packC zeroPk) 35))
  have HR := Lib.hid (heap_alloc2_new w (.cells (packC p) 35) (.cells (packC zeroPk) 35))
  have HB := Lib.hid (((Below.refl w.heap.size w).alloc (Nat.le_refl _) (.cells (packC p) 35)).alloc (by simp) (.cells (packC zeroPk) 35))
  have c0 : ∀ o, ((w.alloc (.cells (packC p) 35)).alloc o).cell? ⟨w.heap.size, 0, none⟩ = some (.int .i64 p.kind) := fun o => pack_at (heap_alloc2_old w _ o) 0 _ rfl
  have c4 : ∀ o, ((w.alloc (.cells (packC p) 35)).alloc o).cell? ⟨w.heap.size, 4, none⟩ = some (.int .i64 p.id) := fun o => pack_at (heap_alloc2_old w _ o) 4 _ rfl
  have c21 : ∀ o, ((w.alloc (.cells (packC p) 35)).alloc o).cell? ⟨w.heap.size, 21, none⟩ = some (.int .i64 p.code) := fun o => pack_at (heap_alloc2_old w _ o) 21 _ rfl
  go_enter Try.func9, Try.ntmps9
  go_wp2_with fail
  refine (bad_t p.code _).mono ?_
  rintro e w2 ⟨rfl, hb⟩
  rw [HD.out]
  have HB2 := Lib.hid (ext_then' HB.out hb)
  have HG2 := Lib.hid (row_then HG.out hb)
  have HR2 := Lib.hid (row_then HR.out hb)
  clear hb HB HG HR c0 c4 c21
  have c0 : w2.cell? ⟨w.heap.size, 0, none⟩ = some (.int .i64 p.kind) := pack_at HG2.out 0 _ rfl
  have c4 : w2.cell? ⟨w.heap.size, 4, none⟩ = some (.int .i64 p.id) := pack_at HG2.out 4 _ rfl
  have c21 : w2.cell? ⟨w.heap.size, 21, none⟩ = some (.int .i64 p.code) := pack_at HG2.out 21 _ rfl
  have HB := HB2
  have HR := HR2
  clear HB2 HR2
  go_wp2_with ((with_reducible refine pk_store (w.heap.size + 1) (stepPk p) ?x1 ?y1 _ HR.out ?a1 ?b1 ?c1 ?d1 ?e1 ?f1); (case a1 => rfl); (case b1 => rfl); (case c1 => rfl); (case d1 => rfl); (case e1 => rfl))
  intro w9 hg hgr
  have HB9 := Lib.hid (grown_below HB.out hgr (by omega))
  have HG9 := Lib.hid hg
  clear hg hgr
  go_wp2
  refine bodyPost_ret (v := .tuple #[.agg (packC (stepPk p)), .bool true]) ?_ rfl ⟨rfl, HB9.out⟩
  exact results_pk (s := 2) (u := 3) rfl _ _ (w.heap.size + 1) (stepPk p) rfl HG9.out
end Go.Proofs.Ytnbgmpfldoaodab
