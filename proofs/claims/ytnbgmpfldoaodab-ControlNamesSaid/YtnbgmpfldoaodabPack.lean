/- Packets in memory; prop.Valid. -/
import Derived.Test.YtnbgmpfldoaodabSame
namespace Go.Proofs.Ytnbgmpfldoaodab
open Go.RowKit Go.Sort
set_option maxHeartbeats 2000000
set_option linter.unusedVariables false
set_option linter.unusedSimpArgs false
def zeroSl : Sl := ⟨none, 0, 0⟩
def zeroPk : Pk := ⟨0, false, false, 0, 0, ⟨#[]⟩, ⟨#[]⟩, false, 0, ⟨#[]⟩, false, ⟨#[]⟩, false, ⟨#[]⟩, false, ⟨#[]⟩, ⟨#[]⟩, 0, false, zeroSl, false, 0, zeroSl, zeroSl, zeroSl⟩
theorem pack_cells (p : Pk) (w : World) (g : Nat) (hg : w.heap[g]? = some (.cells (packC p) 35 (0, 0))) : w.cell? ⟨g, 0, none⟩ = some (.int .i64 p.kind) ∧ w.cell? ⟨g, 1, none⟩ = some (.bool p.dup) ∧ w.cell? ⟨g, 2, none⟩ = some (.bool p.retain) ∧ w.cell? ⟨g, 3, none⟩ = some (.int .i64 p.qos) ∧ w.cell? ⟨g, 4, none⟩ = some (.int .i64 p.id) ∧ w.cell? ⟨g, 5, none⟩ = some (.string p.topic) ∧ w.cell? ⟨g, 6, none⟩ = some (.string p.payload) ∧ w.cell? ⟨g, 7, none⟩ = some (.bool p.clean) ∧ w.cell? ⟨g, 8, none⟩ = some (.int .i64 p.keep) ∧ w.cell? ⟨g, 9, none⟩ = some (.string p.client) ∧ w.cell? ⟨g, 10, none⟩ = some (.bool p.hasUser) ∧ w.cell? ⟨g, 11, none⟩ = some (.string p.user) ∧ w.cell? ⟨g, 12, none⟩ = some (.bool p.hasPass) ∧ w.cell? ⟨g, 13, none⟩ = some (.string p.pass) ∧ w.cell? ⟨g, 14, none⟩ = some (.bool p.hasWill) ∧ w.cell? ⟨g, 15, none⟩ = some (.string p.wTopic) ∧ w.cell? ⟨g, 16, none⟩ = some (.string p.wPayload) ∧ w.cell? ⟨g, 17, none⟩ = some (.int .i64 p.wQoS) ∧ w.cell? ⟨g, 18, none⟩ = some (.bool p.wRetain) ∧ w.cell? ⟨g, 19, none⟩ = some (.slice p.wProps.A p.wProps.n p.wProps.c) ∧ w.cell? ⟨g, 20, none⟩ = some (.bool p.session) ∧ w.cell? ⟨g, 21, none⟩ = some (.int .i64 p.code) ∧ w.cell? ⟨g, 22, none⟩ = some (.slice p.codes.A p.codes.n p.codes.c) ∧ w.cell? ⟨g, 23, none⟩ = some (.slice p.filters.A p.filters.n p.filters.c) ∧ w.cell? ⟨g, 24, none⟩ = some (.slice p.props.A p.props.n p.props.c) := by
  have h : ∀ i v, (packC p)[i]? = some v → w.cell? ⟨g, i, none⟩ = some v := fun i v hv => (cell_of_row w g i (packC p) _ (0, 0) hg).trans hv
  exact ⟨h 0 _ rfl, h 1 _ rfl, h 2 _ rfl, h 3 _ rfl, h 4 _ rfl, h 5 _ rfl, h 6 _ rfl, h 7 _ rfl, h 8 _ rfl, h 9 _ rfl, h 10 _ rfl, h 11 _ rfl, h 12 _ rfl, h 13 _ rfl, h 14 _ rfl, h 15 _ rfl, h 16 _ rfl, h 17 _ rfl, h 18 _ rfl, h 19 _ rfl, h 20 _ rfl, h 21 _ rfl, h 22 _ rfl, h 23 _ rfl, h 24 _ rfl⟩
theorem pack_row (p : Pk) : (packC p)[0]? = some (.int .i64 p.kind) ∧ (packC p)[1]? = some (.bool p.dup) ∧ (packC p)[2]? = some (.bool p.retain) ∧ (packC p)[3]? = some (.int .i64 p.qos) ∧ (packC p)[4]? = some (.int .i64 p.id) ∧ (packC p)[5]? = some (.string p.topic) ∧ (packC p)[6]? = some (.string p.payload) ∧ (packC p)[7]? = some (.bool p.clean) ∧ (packC p)[8]? = some (.int .i64 p.keep) ∧ (packC p)[9]? = some (.string p.client) ∧ (packC p)[10]? = some (.bool p.hasUser) ∧ (packC p)[11]? = some (.string p.user) ∧ (packC p)[12]? = some (.bool p.hasPass) ∧ (packC p)[13]? = some (.string p.pass) ∧ (packC p)[14]? = some (.bool p.hasWill) ∧ (packC p)[15]? = some (.string p.wTopic) ∧ (packC p)[16]? = some (.string p.wPayload) ∧ (packC p)[17]? = some (.int .i64 p.wQoS) ∧ (packC p)[18]? = some (.bool p.wRetain) ∧ (packC p)[19]? = some (.slice p.wProps.A p.wProps.n p.wProps.c) ∧ (packC p)[20]? = some (.bool p.session) ∧ (packC p)[21]? = some (.int .i64 p.code) ∧ (packC p)[22]? = some (.slice p.codes.A p.codes.n p.codes.c) ∧ (packC p)[23]? = some (.slice p.filters.A p.filters.n p.filters.c) ∧ (packC p)[24]? = some (.slice p.props.A p.props.n p.props.c) := ⟨rfl, rfl, rfl, rfl, rfl, rfl, rfl, rfl, rfl, rfl, rfl, rfl, rfl, rfl, rfl, rfl, rfl, rfl, rfl, rfl, rfl, rfl, rfl, rfl, rfl⟩
theorem pack_at {p : Pk} {w : World} {g : Nat} (hg : w.heap[g]? = some (.cells (packC p) 35 (0, 0))) (i : Nat) (v : Value) (hv : (packC p)[i]? = some v) : w.cell? ⟨g, i, none⟩ = some v :=
  (cell_of_row w g i (packC p) _ (0, 0) hg).trans hv
theorem row_then {a b : World} {g : Nat} {o : Obj} (h : a.heap[g]? = some o) (hb : Below a.heap.size a b) : b.heap[g]? = some o := by
  rw [hb.block g (Array.getElem?_eq_some_iff.1 h).1]; exact h
theorem si_packC (p : Pk) : (Try.prog.info? 35).map (·.size) = some (packC p).size := si_pack
theorem pack_load {ops : Array Oper} {rest : List Oper} {o : Oper} {a : Act} {w : World} {Q : Exit → Act → World → Prop} (g : Nat) (p : Pk) (x : Operand) (hg : w.heap[g]? = some (.cells (packC p) 35 (0, 0)))
    (hgd : o.guard = none) (ho : o.op = .load 35 x) (hx : a.eval x = .pointer (some ⟨g, 0, none⟩)) (h : wpList Try.prog ops Q rest (a.put o.dst (.agg (packC p))) w) : wpList Try.prog ops Q (o :: rest) a w :=
  wpList_load_row hgd _ x ho g hx _ (packC p) (0, 0) _ hg ud_pack rfl (si_packC p) h
theorem pvalid_t (kind : Int) (A : Option Addr) (n cp : Nat) (l : List Prp) (HT : Hid (l ≠ [] → TopicOK)) (w : World) (hr : RP w A n l) :
    Calls Try.prog 35 #[.int .i64 kind, .slice A n cp] w fun e w' => e = .returned (.int .i64 (bytesF kind l).2) ∧ Below w.heap.size w w' := by
  have HR := Lib.hid hr
  clear hr
  go_enter Try.func35, Try.ntmps35
  go_wp2_with fail
  refine (bytes_t kind A n cp l HT _ HR.out).mono ?_
  rintro e w1 ⟨rfl, hb⟩
  have HB := Lib.hid hb
  clear hb HR
  go_wp2
  go_ret
  exact ⟨rfl, HB.out⟩
end Go.Proofs.Ytnbgmpfldoaodab
