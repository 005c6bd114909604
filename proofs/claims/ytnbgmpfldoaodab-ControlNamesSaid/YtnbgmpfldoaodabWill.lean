/- head.sameWill: a will against one that is the same, or none. -/
import Derived.Test.YtnbgmpfldoaodabHead
namespace Go.Proofs.Ytnbgmpfldoaodab
open Go.RowKit Go.Sort
set_option maxHeartbeats 2000000
set_option linter.unusedVariables false
set_option linter.unusedSimpArgs false
theorem add_off (g off j : Nat) : (⟨g, off, none⟩ : Addr).add j = ⟨g, off + j, none⟩ := by unfold Addr.add; split <;> simp_all
theorem run_loadVar_at (w : World) (g off : Nat) (t ty : TypeId) (cs sub : Array Value) (fr : Nat × Nat) (d : TypeDesc) (hg : w.heap[g]? = some (.cells cs t fr))
    (hs : ∀ j v, sub.toList[j]? = some v → cs[off + j]? = some v)
    (hu : Try.prog.underlying ty = some d) (hd : (match d with | .struct _ | .array _ _ => true | _ => false) = true) (hi : (Try.prog.info? ty).map (·.size) = some sub.size) :
    (loadVar ty ⟨g, off, none⟩).run Try.prog w = .ok (.agg sub) w := by
  have hl : (loadCells ⟨g, off, none⟩ sub.toList.length).run Try.prog w = .ok sub.toList.toArray w :=
    run_loadCells_list (P := Try.prog) w ⟨g, off, none⟩ sub.toList (fun j v hv => by
      rw [add_off, cell_of_row w g (off + j) cs t fr hg]
      exact hs j v hv)
  cases hq : Try.prog.info? ty with
  | none => simp [hq] at hi
  | some i =>
    have hs' : i.size = sub.size := by simpa [hq] using hi
    have hagg : (isAgg ty).run Try.prog w = .ok true w := by
      unfold isAgg
      rw [Sem.run_bind, run_underlying hu w]
      cases d <;> simp_all
    simp only [Array.length_toList, Array.toArray_toList] at hl
    simp [loadVar, Sem.run_bind, hagg, sizeOf, typeInfo, hq, hs', hl]
theorem ud_will : Try.prog.underlying 31 = some (.struct (Try.prog.fieldsOf 31)) := by kernel_rfl
theorem si_will : (Try.prog.info? 31).map (·.size) = some 5 := by kernel_rfl
theorem load_will (g : Nat) (p : Pk) (w : World) (hg : w.heap[g]? = some (.cells (packC p) 35 (0, 0))) : (loadVar 31 ⟨g, 15, none⟩).run Try.prog w = .ok (.agg (willC p)) w :=
  run_loadVar_at w g 15 _ _ (packC p) (willC p) (0, 0) _ hg (by
    intro j v hv
    match j, hv with
    | 0, hv => exact hv
    | 1, hv => exact hv
    | 2, hv => exact hv
    | 3, hv => exact hv
    | 4, hv => exact hv) ud_will rfl si_will
def willEq (p q : Pk) : Bool := p.wTopic.toList == q.wTopic.toList && (p.wPayload.toList == q.wPayload.toList && (p.wQoS == q.wQoS && (p.wRetain == q.wRetain && p.wProps.n == q.wProps.n)))
set_option maxRecDepth 100000 in
theorem sameWill_t (p q : Pk) (cs ds : Array Value) (hcs : cs = willC p) (hds : ds = willC q) (l : List Prp) (w : World) (hr : RP w p.wProps.A p.wProps.n l) (hs : SlRel p.wProps.A p.wProps.n p.wProps.c q.wProps.A q.wProps.n q.wProps.c) :
    Calls Try.prog 54 #[.agg cs, .agg ds] w fun e w' => e = .returned (.bool (willEq p q)) ∧ Below w.heap.size w w' := by
  have c0 : cs[0]? = some (.string p.wTopic) := by rw [hcs]; rfl
  have c1 : cs[1]? = some (.string p.wPayload) := by rw [hcs]; rfl
  have c2 : cs[2]? = some (.int .i64 p.wQoS) := by rw [hcs]; rfl
  have c3 : cs[3]? = some (.bool p.wRetain) := by rw [hcs]; rfl
  have c4 : cs[4]? = some (.slice p.wProps.A p.wProps.n p.wProps.c) := by rw [hcs]; rfl
  have d0 : ds[0]? = some (.string q.wTopic) := by rw [hds]; rfl
  have d1 : ds[1]? = some (.string q.wPayload) := by rw [hds]; rfl
  have d2 : ds[2]? = some (.int .i64 q.wQoS) := by rw [hds]; rfl
  have d3 : ds[3]? = some (.bool q.wRetain) := by rw [hds]; rfl
  have d4 : ds[4]? = some (.slice q.wProps.A q.wProps.n q.wProps.c) := by rw [hds]; rfl
  have HR := Lib.hid hr
  have HS := Lib.hid hs
  clear hcs hds hr hs
  by_cases e0 : (p.wTopic.toList == q.wTopic.toList) = true
  · by_cases e1 : (p.wPayload.toList == q.wPayload.toList) = true
    · by_cases e2 : (p.wQoS == q.wQoS) = true
      · by_cases e3 : (p.wRetain == q.wRetain) = true
        · have HE : Hid (willEq p q = (p.wProps.n == q.wProps.n)) := Lib.hid (by simp only [willEq, e0, e1, e2, e3, Bool.true_and])
          have HB0 := Lib.hid (Below.refl w.heap.size w)
          go_enter Try.func54, Try.ntmps54
          go_wp2_with fail
          refine (listp_t p.wProps.A q.wProps.A p.wProps.n p.wProps.c q.wProps.n q.wProps.c l _ (RP.below HR.out ((Below.refl _ _).alloc (Nat.le_refl _) _ |>.alloc (by simp) _)) HS.out).mono ?_
          rintro e w1 ⟨rfl, hb⟩
          have HB1 := Lib.hid (ext_then' (w := w) (by repeat (first | exact HB0.out | refine Below.drew ?_ | (refine Below.alloc ?_ (by first | exact (HB0.out).size | (simp; done) | (have := (HB0.out).size; simp; omega)) _) | (refine Below.setCell ?_ (by first | (simp; done) | (have := (HB0.out).size; simp; omega)) _))) hb)
          clear hb HB0
          go_wp2
          go_ret
          exact ⟨by rw [HE.out]; rfl, HB1.out⟩
        · have e3 : (p.wRetain == q.wRetain) = false := by cases h : (p.wRetain == q.wRetain) with | true => exact absurd h e3 | false => rfl
          clear HR HS
          have HE : Hid (willEq p q = false) := Lib.hid (by simp only [willEq, e0, e1, e2, e3, Bool.false_and, Bool.and_false])
          go_enter Try.func54, Try.ntmps54
          go_wp2
          go_ret
          exact ⟨by rw [HE.out]; rfl, ((Below.refl _ _).alloc (Nat.le_refl _) _).alloc (by simp) _⟩
      · have e2 : (p.wQoS == q.wQoS) = false := by cases h : (p.wQoS == q.wQoS) with | true => exact absurd h e2 | false => rfl
        clear HR HS
        have HE : Hid (willEq p q = false) := Lib.hid (by simp only [willEq, e0, e1, e2, Bool.false_and, Bool.and_false])
        go_enter Try.func54, Try.ntmps54
        go_wp2
        go_ret
        exact ⟨by rw [HE.out]; rfl, ((Below.refl _ _).alloc (Nat.le_refl _) _).alloc (by simp) _⟩
    · have e1 : (p.wPayload.toList == q.wPayload.toList) = false := by cases h : (p.wPayload.toList == q.wPayload.toList) with | true => exact absurd h e1 | false => rfl
      clear HR HS
      have HE : Hid (willEq p q = false) := Lib.hid (by simp only [willEq, e0, e1, Bool.false_and, Bool.and_false])
      go_enter Try.func54, Try.ntmps54
      go_wp2
      go_ret
      exact ⟨by rw [HE.out]; rfl, ((Below.refl _ _).alloc (Nat.le_refl _) _).alloc (by simp) _⟩
  · have e0 : (p.wTopic.toList == q.wTopic.toList) = false := by cases h : (p.wTopic.toList == q.wTopic.toList) with | true => exact absurd h e0 | false => rfl
    clear HR HS
    have HE : Hid (willEq p q = false) := Lib.hid (by simp only [willEq, e0, Bool.false_and, Bool.and_false])
    go_enter Try.func54, Try.ntmps54
    go_wp2
    go_ret
    exact ⟨by rw [HE.out]; rfl, ((Below.refl _ _).alloc (Nat.le_refl _) _).alloc (by simp) _⟩
end Go.Proofs.Ytnbgmpfldoaodab
