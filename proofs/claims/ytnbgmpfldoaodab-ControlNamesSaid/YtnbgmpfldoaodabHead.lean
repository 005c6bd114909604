/- head.Same: a packet against one that has some of its fields, the others zero. -/
import Derived.Test.YtnbgmpfldoaodabHeadL
import Derived.Lib.QuietBelow
import Derived.WideLaws
import Derived.Laws.StructEq
namespace Go.Proofs.Ytnbgmpfldoaodab
open Go.RowKit Go.Sort
set_option maxHeartbeats 2000000
set_option linter.unusedVariables false
set_option linter.unusedSimpArgs false
structure Sl where
  A : Option Addr
  n : Nat
  c : Nat
structure Pk where
  kind : Int
  dup : Bool
  retain : Bool
  qos : Int
  id : Int
  topic : ByteArray
  payload : ByteArray
  clean : Bool
  keep : Int
  client : ByteArray
  hasUser : Bool
  user : ByteArray
  hasPass : Bool
  pass : ByteArray
  hasWill : Bool
  wTopic : ByteArray
  wPayload : ByteArray
  wQoS : Int
  wRetain : Bool
  wProps : Sl
  session : Bool
  code : Int
  codes : Sl
  filters : Sl
  props : Sl
theorem follows_mixedh : Try.prog.follows .mixedOrders = true := by kernel_rfl
def packC (p : Pk) : Array Value := #[.int .i64 p.kind, .bool p.dup, .bool p.retain, .int .i64 p.qos, .int .i64 p.id, .string p.topic, .string p.payload, .bool p.clean, .int .i64 p.keep, .string p.client, .bool p.hasUser, .string p.user, .bool p.hasPass, .string p.pass, .bool p.hasWill, .string p.wTopic, .string p.wPayload, .int .i64 p.wQoS, .bool p.wRetain, .slice p.wProps.A p.wProps.n p.wProps.c, .bool p.session, .int .i64 p.code, .slice p.codes.A p.codes.n p.codes.c, .slice p.filters.A p.filters.n p.filters.c, .slice p.props.A p.props.n p.props.c]
def bareV (p : Pk) : Value := .agg #[.int .i64 p.kind, .int .i64 p.qos, .int .i64 p.id, .int .i64 p.keep, .int .i64 p.code, .bool p.dup, .bool p.retain, .bool p.clean, .bool p.hasUser, .bool p.hasPass, .bool p.hasWill, .bool p.session, .string p.topic, .string p.payload, .string p.client, .string p.user, .string p.pass]
def willC (p : Pk) : Array Value := #[.string p.wTopic, .string p.wPayload, .int .i64 p.wQoS, .bool p.wRetain, .slice p.wProps.A p.wProps.n p.wProps.c]
theorem ud_bare : Try.prog.underlying 93 = some (.struct (Try.prog.fieldsOf 93)) := by kernel_rfl
theorem si_bare : (Try.prog.info? 93).map (·.size) = some 17 := by kernel_rfl
theorem ud_pack : Try.prog.underlying 35 = some (.struct (Try.prog.fieldsOf 35)) := by kernel_rfl
theorem si_pack : (Try.prog.info? 35).map (·.size) = some 25 := by kernel_rfl
def bareEq (p q : Pk) : Bool := if p.kind = q.kind then (if p.qos = q.qos then (if p.id = q.id then (if p.keep = q.keep then (if p.code = q.code then (if p.dup = q.dup then (if p.retain = q.retain then (if p.clean = q.clean then (if p.hasUser = q.hasUser then (if p.hasPass = q.hasPass then (if p.hasWill = q.hasWill then (if p.session = q.session then (if p.topic.toList = q.topic.toList then (if p.payload.toList = q.payload.toList then (if p.client.toList = q.client.toList then (if p.user.toList = q.user.toList then (if p.pass.toList = q.pass.toList then (true) else false) else false) else false) else false) else false) else false) else false) else false) else false) else false) else false) else false) else false) else false) else false) else false) else false
theorem ite_res {c : Prop} [Decidable c] (x : Bool) (w : World) : (if c then (Result.ok (Value.bool x) w : Result Value) else .ok (.bool false) w) = .ok (.bool (if c then x else false)) w := by split <;> rfl
theorem run_bare (p q : Pk) (w : World) : (binOp .eql 93 (bareV p) (bareV q)).run Try.prog w = .ok (.bool (bareEq p q)) w := by
  simp [bareV, go_sem]
  simp only [ite_res]
  rfl
theorem guard_bare (p q : Pk) (x y : Operand) (w : World) : (eqGuard .eql 93 x y (bareV p) (bareV q)).run Try.prog w = .ok () w := by
  simp [bareV, go_sem]
theorem load_pack (g : Nat) (cs : Array Value) (w : World) (hs : cs.size = 25) (hg : w.heap[g]? = some (.cells cs 35 (0, 0))) : (loadVar 35 ⟨g, 0, none⟩).run Try.prog w = .ok (.agg cs) w :=
  run_loadVar_row w g _ _ cs (0, 0) _ hg ud_pack rfl (by rw [hs]; exact si_pack)
set_option maxRecDepth 100000 in
theorem strip_t (p : Pk) (cs : Array Value) (hcs : cs = packC p) (w : World) : Calls Try.prog 53 #[.agg cs] w fun e w' => e = .returned (bareV p) ∧ Below w.heap.size w w' := by
  have c0 : cs[0]? = some (.int .i64 p.kind) := by rw [hcs]; rfl
  have c1 : cs[1]? = some (.bool p.dup) := by rw [hcs]; rfl
  have c2 : cs[2]? = some (.bool p.retain) := by rw [hcs]; rfl
  have c3 : cs[3]? = some (.int .i64 p.qos) := by rw [hcs]; rfl
  have c4 : cs[4]? = some (.int .i64 p.id) := by rw [hcs]; rfl
  have c5 : cs[5]? = some (.string p.topic) := by rw [hcs]; rfl
  have c6 : cs[6]? = some (.string p.payload) := by rw [hcs]; rfl
  have c7 : cs[7]? = some (.bool p.clean) := by rw [hcs]; rfl
  have c8 : cs[8]? = some (.int .i64 p.keep) := by rw [hcs]; rfl
  have c9 : cs[9]? = some (.string p.client) := by rw [hcs]; rfl
  have c10 : cs[10]? = some (.bool p.hasUser) := by rw [hcs]; rfl
  have c11 : cs[11]? = some (.string p.user) := by rw [hcs]; rfl
  have c12 : cs[12]? = some (.bool p.hasPass) := by rw [hcs]; rfl
  have c13 : cs[13]? = some (.string p.pass) := by rw [hcs]; rfl
  have c14 : cs[14]? = some (.bool p.hasWill) := by rw [hcs]; rfl
  have c20 : cs[20]? = some (.bool p.session) := by rw [hcs]; rfl
  have c21 : cs[21]? = some (.int .i64 p.code) := by rw [hcs]; rfl
  clear hcs
  go_enter Try.func53, Try.ntmps53
  go_wp2
  refine bodyPost_ret (v := .agg #[.int .i64 p.kind, .int .i64 p.qos, .int .i64 p.id, .int .i64 p.keep, .int .i64 p.code, .bool p.dup, .bool p.retain, .bool p.clean, .bool p.hasUser, .bool p.hasPass, .bool p.hasWill, .bool p.session, .string p.topic, .string p.payload, .string p.client, .string p.user, .string p.pass]) ?_ rfl ⟨rfl, ?_⟩
  · exact results_cell_row rfl _ _ (w.heap.size + 1) _ _ (0, 0) (.struct (Try.prog.fieldsOf 93)) rfl (heap_alloc2_new w _ _) ud_bare rfl si_bare
  · exact (Below.refl _ _ |>.alloc (Nat.le_refl _) _ |>.alloc (by simp) _)
end Go.Proofs.Ytnbgmpfldoaodab
