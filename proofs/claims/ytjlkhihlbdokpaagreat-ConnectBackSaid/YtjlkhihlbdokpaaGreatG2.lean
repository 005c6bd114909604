/- head: lists of one packet against those of another that has the same or none. -/
import Derived.Test.YtjlkhihlbdokpaaGreatG1
import Derived.Lib.QuietBelow
import Derived.WideLaws
import Derived.Laws.StructEq
import Derived.BigQuiet
import Derived.OpenShut
import Derived.Deep.Slices
import Derived.SizedLaws
import Derived.ChangeArms
import Derived.WideShapes
import Derived.Laws.ResultCell
import Derived.RegionTactic
import Derived.ChangeAlike
import Derived.Deep.QuietTactic
namespace Go.Proofs.YtjlkhihlbdokpaaGreat
open Go.RowKit
set_option maxHeartbeats 1000000
set_option linter.unusedVariables false
set_option linter.unusedSimpArgs false
set_option maxRecDepth 100000 in
theorem eqp_t (p : Prp) (w : World) : Calls Tryz.prog 175 #[.agg #[.int .i64 p.id, .int .u32 p.n, .string p.text, .string p.value], .agg #[.int .i64 p.id, .int .u32 p.n, .string p.text, .string p.value]] w fun e w' => e = .returned (.bool true) ∧ Below w.heap.size w w' := by
  go_enter Tryz.func175, Tryz.ntmps175
  go_wp2
  go_ret
  exact ⟨by first | rfl | simp, ((Below.refl _ _).alloc (Nat.le_refl _) _).alloc (by simp) _⟩
set_option maxRecDepth 100000 in
theorem listp_self (A : Option Addr) (n c : Nat) (l : List Prp) (w : World) (hr : RP w A n l) : Calls Tryz.prog 133 #[.slice A n c, .slice A n c] w fun e w' => e = .returned (.bool true) ∧ Below w.heap.size w w' := by
  obtain ⟨hl, hn, -, hc⟩ := hr
  have HC := Lib.hid hc
  have HL := Lib.hid hl
  clear hc hl
  go_enter Tryz.func133, Tryz.ntmps133
  go_wp2
  go_loopw [17] (fun v17 wr => ∃ k : Nat, k ≤ n ∧ v17 = .int .i64 k ∧ Below w.heap.size w wr) (fun v17 _ => n - (intOf v17).toNat)
  case atStart => exact ⟨0, by omega, rfl, Below.refl _ _⟩
  case round =>
    obtain ⟨k, hk, rfl, hbel⟩ := hrel
    have HB := Lib.hid hbel
    by_cases hlt : k < n
    · obtain ⟨b, off, rfl, hblt, hcell⟩ := HC.out (by omega)
      obtain ⟨p, hp⟩ : ∃ p, l[k]? = some p := ⟨l[k]'(by rw [HL.out]; exact hlt), by simp [HL.out, hlt]⟩
      obtain ⟨c0, c1, c2, c3⟩ := (hcell k p hp).below hbel hblt
      have hbw : b < wr.heap.size := Nat.lt_of_lt_of_le hblt hbel.size
      clear hcell hp hbel
      go_wp2_with fail
      refine (eqp_t p _).mono ?_
      rintro e w2 ⟨rfl, hb⟩
      have HB2 := Lib.hid (below_then ((HB.out.alloc HB.out.size _).alloc (by have := HB.out.size; simp; omega) _) (by have := HB.out.size; simp; omega) hb)
      clear hb HB
      go_wp2
      go_roundw
      case rel => exact ⟨k + 1, by omega, by go_num, HB2.out⟩
      case measure => simp [intOf]; omega
    · have hkn : k = n := by omega
      clear hbel
      go_wp2
      go_ret
      exact ⟨rfl, HB.out⟩
set_option maxRecDepth 100000 in
theorem listp_nil (A : Option Addr) (n c : Nat) (w : World) : Calls Tryz.prog 133 #[.slice A n c, .slice none 0 0] w fun e w' => e = .returned (.bool (n == 0)) ∧ Below w.heap.size w w' := by
  by_cases h : n = 0
  · subst h
    go_enter Tryz.func133, Tryz.ntmps133
    go_wp2
    go_rounds 1
    go_ret
    exact ⟨rfl, Below.refl _ _⟩
  · have HE : Hid ((n == 0) = false) := Lib.hid (by simpa using h)
    have hd : ((n : Int) != 0) = true := by simp; omega
    clear h
    go_enter Tryz.func133, Tryz.ntmps133
    go_wp2
    go_ret
    exact ⟨by rw [HE.out]; rfl, Below.refl _ _⟩
set_option maxRecDepth 100000 in
theorem listi_nil (A : Option Addr) (n c : Nat) (w : World) : Calls Tryz.prog 131 #[.slice A n c, .slice none 0 0] w fun e w' => e = .returned (.bool (n == 0)) ∧ Below w.heap.size w w' := by
  by_cases h : n = 0
  · subst h
    go_enter Tryz.func131, Tryz.ntmps131
    go_wp2
    go_rounds 1
    go_ret
    exact ⟨rfl, Below.refl _ _⟩
  · have HE : Hid ((n == 0) = false) := Lib.hid (by simpa using h)
    have hd : ((n : Int) != 0) = true := by simp; omega
    clear h
    go_enter Tryz.func131, Tryz.ntmps131
    go_wp2
    go_ret
    exact ⟨by rw [HE.out]; rfl, Below.refl _ _⟩
set_option maxRecDepth 100000 in
theorem listf_nil (A : Option Addr) (n c : Nat) (w : World) : Calls Tryz.prog 132 #[.slice A n c, .slice none 0 0] w fun e w' => e = .returned (.bool (n == 0)) ∧ Below w.heap.size w w' := by
  by_cases h : n = 0
  · subst h
    go_enter Tryz.func132, Tryz.ntmps132
    go_wp2
    go_rounds 1
    go_ret
    exact ⟨rfl, Below.refl _ _⟩
  · have HE : Hid ((n == 0) = false) := Lib.hid (by simpa using h)
    have hd : ((n : Int) != 0) = true := by simp; omega
    clear h
    go_enter Tryz.func132, Tryz.ntmps132
    go_wp2
    go_ret
    exact ⟨by rw [HE.out]; rfl, Below.refl _ _⟩
/-- A slice against one that is none, or the same. -/
def SlRel (A : Option Addr) (n c : Nat) (B : Option Addr) (m d : Nat) : Prop := (B = none ∧ m = 0 ∧ d = 0) ∨ (B = A ∧ m = n ∧ d = c)
theorem listp_t (A B : Option Addr) (n c m d : Nat) (l : List Prp) (w : World) (hr : RP w A n l) (h : SlRel A n c B m d) : Calls Tryz.prog 133 #[.slice A n c, .slice B m d] w fun e w' => e = .returned (.bool (n == m)) ∧ Below w.heap.size w w' := by
  rcases h with ⟨rfl, rfl, rfl⟩ | ⟨rfl, rfl, rfl⟩
  · exact listp_nil A n c w
  · have := listp_self B m d l w hr
    rw [show (m == m) = true from by simp]
    exact this
end Go.Proofs.YtjlkhihlbdokpaaGreat
/- head.Same: a packet against one that has some of its fields, the others zero. -/
namespace Go.Proofs.YtjlkhihlbdokpaaGreat
open Go.RowKit Go.Sort
set_option maxHeartbeats 2000000
set_option linter.unusedVariables false
set_option linter.unusedSimpArgs false
structure Sl where
  A : Option Addr
  n : Nat
  c : Nat
structure Pk where
  kind : Int
  dup : Bool
  retain : Bool
  qos : Int
  id : Int
  topic : ByteArray
  payload : ByteArray
  clean : Bool
  keep : Int
  client : ByteArray
  hasUser : Bool
  user : ByteArray
  hasPass : Bool
  pass : ByteArray
  hasWill : Bool
  wTopic : ByteArray
  wPayload : ByteArray
  wQoS : Int
  wRetain : Bool
  wProps : Sl
  session : Bool
  code : Int
  codes : Sl
  filters : Sl
  props : Sl
theorem follows_mixedh : Tryz.prog.follows .mixedOrders = true := by kernel_rfl
def packC (p : Pk) : Array Value := #[.int .i64 p.kind, .bool p.dup, .bool p.retain, .int .i64 p.qos, .int .i64 p.id, .string p.topic, .string p.payload, .bool p.clean, .int .i64 p.keep, .string p.client, .bool p.hasUser, .string p.user, .bool p.hasPass, .string p.pass, .bool p.hasWill, .string p.wTopic, .string p.wPayload, .int .i64 p.wQoS, .bool p.wRetain, .slice p.wProps.A p.wProps.n p.wProps.c, .bool p.session, .int .i64 p.code, .slice p.codes.A p.codes.n p.codes.c, .slice p.filters.A p.filters.n p.filters.c, .slice p.props.A p.props.n p.props.c]
def bareV (p : Pk) : Value := .agg #[.int .i64 p.kind, .int .i64 p.qos, .int .i64 p.id, .int .i64 p.keep, .int .i64 p.code, .bool p.dup, .bool p.retain, .bool p.clean, .bool p.hasUser, .bool p.hasPass, .bool p.hasWill, .bool p.session, .string p.topic, .string p.payload, .string p.client, .string p.user, .string p.pass]
def willC (p : Pk) : Array Value := #[.string p.wTopic, .string p.wPayload, .int .i64 p.wQoS, .bool p.wRetain, .slice p.wProps.A p.wProps.n p.wProps.c]
theorem ud_bare : Tryz.prog.underlying 132 = some (.struct (Tryz.prog.fieldsOf 132)) := by kernel_rfl
theorem si_bare : (Tryz.prog.info? 132).map (·.size) = some 17 := by kernel_rfl
theorem ud_pack : Tryz.prog.underlying 28 = some (.struct (Tryz.prog.fieldsOf 28)) := by kernel_rfl
theorem si_pack : (Tryz.prog.info? 28).map (·.size) = some 25 := by kernel_rfl
def bareEq (p q : Pk) : Bool := if p.kind = q.kind then (if p.qos = q.qos then (if p.id = q.id then (if p.keep = q.keep then (if p.code = q.code then (if p.dup = q.dup then (if p.retain = q.retain then (if p.clean = q.clean then (if p.hasUser = q.hasUser then (if p.hasPass = q.hasPass then (if p.hasWill = q.hasWill then (if p.session = q.session then (if p.topic.toList = q.topic.toList then (if p.payload.toList = q.payload.toList then (if p.client.toList = q.client.toList then (if p.user.toList = q.user.toList then (if p.pass.toList = q.pass.toList then (true) else false) else false) else false) else false) else false) else false) else false) else false) else false) else false) else false) else false) else false) else false) else false) else false) else false
theorem ite_res {c : Prop} [Decidable c] (x : Bool) (w : World) : (if c then (Result.ok (Value.bool x) w : Result Value) else .ok (.bool false) w) = .ok (.bool (if c then x else false)) w := by split <;> rfl
theorem run_bare (p q : Pk) (w : World) : (binOp .eql 132 (bareV p) (bareV q)).run Tryz.prog w = .ok (.bool (bareEq p q)) w := by
  simp [bareV, go_sem]
  simp only [ite_res]
  rfl
theorem guard_bare (p q : Pk) (x y : Operand) (w : World) : (eqGuard .eql 132 x y (bareV p) (bareV q)).run Tryz.prog w = .ok () w := by
  simp [bareV, go_sem]
theorem load_pack (g : Nat) (cs : Array Value) (w : World) (hs : cs.size = 25) (hg : w.heap[g]? = some (.cells cs 28 (0, 0))) : (loadVar 28 ⟨g, 0, none⟩).run Tryz.prog w = .ok (.agg cs) w :=
  run_loadVar_row w g _ _ cs (0, 0) _ hg ud_pack rfl (by rw [hs]; exact si_pack)
set_option maxRecDepth 100000 in
theorem strip_t (p : Pk) (cs : Array Value) (hcs : cs = packC p) (w : World) : Calls Tryz.prog 129 #[.agg cs] w fun e w' => e = .returned (bareV p) ∧ Below w.heap.size w w' := by
  have c0 : cs[0]? = some (.int .i64 p.kind) := by rw [hcs]; rfl
  have c1 : cs[1]? = some (.bool p.dup) := by rw [hcs]; rfl
  have c2 : cs[2]? = some (.bool p.retain) := by rw [hcs]; rfl
  have c3 : cs[3]? = some (.int .i64 p.qos) := by rw [hcs]; rfl
  have c4 : cs[4]? = some (.int .i64 p.id) := by rw [hcs]; rfl
  have c5 : cs[5]? = some (.string p.topic) := by rw [hcs]; rfl
  have c6 : cs[6]? = some (.string p.payload) := by rw [hcs]; rfl
  have c7 : cs[7]? = some (.bool p.clean) := by rw [hcs]; rfl
  have c8 : cs[8]? = some (.int .i64 p.keep) := by rw [hcs]; rfl
  have c9 : cs[9]? = some (.string p.client) := by rw [hcs]; rfl
  have c10 : cs[10]? = some (.bool p.hasUser) := by rw [hcs]; rfl
  have c11 : cs[11]? = some (.string p.user) := by rw [hcs]; rfl
  have c12 : cs[12]? = some (.bool p.hasPass) := by rw [hcs]; rfl
  have c13 : cs[13]? = some (.string p.pass) := by rw [hcs]; rfl
  have c14 : cs[14]? = some (.bool p.hasWill) := by rw [hcs]; rfl
  have c20 : cs[20]? = some (.bool p.session) := by rw [hcs]; rfl
  have c21 : cs[21]? = some (.int .i64 p.code) := by rw [hcs]; rfl
  clear hcs
  go_enter Tryz.func129, Tryz.ntmps129
  go_wp2
  refine bodyPost_ret (v := .agg #[.int .i64 p.kind, .int .i64 p.qos, .int .i64 p.id, .int .i64 p.keep, .int .i64 p.code, .bool p.dup, .bool p.retain, .bool p.clean, .bool p.hasUser, .bool p.hasPass, .bool p.hasWill, .bool p.session, .string p.topic, .string p.payload, .string p.client, .string p.user, .string p.pass]) ?_ rfl ⟨rfl, ?_⟩
  · exact results_cell_row rfl _ _ (w.heap.size + 1) _ _ (0, 0) (.struct (Tryz.prog.fieldsOf 132)) rfl (heap_alloc2_new w _ _) ud_bare rfl si_bare
  · exact (Below.refl _ _ |>.alloc (Nat.le_refl _) _ |>.alloc (by simp) _)
end Go.Proofs.YtjlkhihlbdokpaaGreat
/- head.sameWill: a will against one that is the same, or none. -/
namespace Go.Proofs.YtjlkhihlbdokpaaGreat
open Go.RowKit Go.Sort
set_option maxHeartbeats 2000000
set_option linter.unusedVariables false
set_option linter.unusedSimpArgs false
theorem add_off (g off j : Nat) : (⟨g, off, none⟩ : Addr).add j = ⟨g, off + j, none⟩ := by unfold Addr.add; split <;> simp_all
theorem run_loadVar_at (w : World) (g off : Nat) (t ty : TypeId) (cs sub : Array Value) (fr : Nat × Nat) (d : TypeDesc) (hg : w.heap[g]? = some (.cells cs t fr))
    (hs : ∀ j v, sub.toList[j]? = some v → cs[off + j]? = some v)
    (hu : Tryz.prog.underlying ty = some d) (hd : (match d with | .struct _ | .array _ _ => true | _ => false) = true) (hi : (Tryz.prog.info? ty).map (·.size) = some sub.size) :
    (loadVar ty ⟨g, off, none⟩).run Tryz.prog w = .ok (.agg sub) w := by
  have hl : (loadCells ⟨g, off, none⟩ sub.toList.length).run Tryz.prog w = .ok sub.toList.toArray w :=
    run_loadCells_list (P := Tryz.prog) w ⟨g, off, none⟩ sub.toList (fun j v hv => by
      rw [add_off, cell_of_row w g (off + j) cs t fr hg]
      exact hs j v hv)
  cases hq : Tryz.prog.info? ty with
  | none => simp [hq] at hi
  | some i =>
    have hs' : i.size = sub.size := by simpa [hq] using hi
    have hagg : (isAgg ty).run Tryz.prog w = .ok true w := by
      unfold isAgg
      rw [Sem.run_bind, run_underlying hu w]
      cases d <;> simp_all
    simp only [Array.length_toList, Array.toArray_toList] at hl
    simp [loadVar, Sem.run_bind, hagg, sizeOf, typeInfo, hq, hs', hl]
theorem ud_will : Tryz.prog.underlying 24 = some (.struct (Tryz.prog.fieldsOf 24)) := by kernel_rfl
theorem si_will : (Tryz.prog.info? 24).map (·.size) = some 5 := by kernel_rfl
theorem load_will (g : Nat) (p : Pk) (w : World) (hg : w.heap[g]? = some (.cells (packC p) 28 (0, 0))) : (loadVar 24 ⟨g, 15, none⟩).run Tryz.prog w = .ok (.agg (willC p)) w :=
  run_loadVar_at w g 15 _ _ (packC p) (willC p) (0, 0) _ hg (by
    intro j v hv
    match j, hv with
    | 0, hv => exact hv
    | 1, hv => exact hv
    | 2, hv => exact hv
    | 3, hv => exact hv
    | 4, hv => exact hv) ud_will rfl si_will
def willEq (p q : Pk) : Bool := p.wTopic.toList == q.wTopic.toList && (p.wPayload.toList == q.wPayload.toList && (p.wQoS == q.wQoS && (p.wRetain == q.wRetain && p.wProps.n == q.wProps.n)))
set_option maxRecDepth 100000 in
theorem sameWill_t (p q : Pk) (cs ds : Array Value) (hcs : cs = willC p) (hds : ds = willC q) (l : List Prp) (w : World) (hr : RP w p.wProps.A p.wProps.n l) (hs : SlRel p.wProps.A p.wProps.n p.wProps.c q.wProps.A q.wProps.n q.wProps.c) :
    Calls Tryz.prog 130 #[.agg cs, .agg ds] w fun e w' => e = .returned (.bool (willEq p q)) ∧ Below w.heap.size w w' := by
  have c0 : cs[0]? = some (.string p.wTopic) := by rw [hcs]; rfl
  have c1 : cs[1]? = some (.string p.wPayload) := by rw [hcs]; rfl
  have c2 : cs[2]? = some (.int .i64 p.wQoS) := by rw [hcs]; rfl
  have c3 : cs[3]? = some (.bool p.wRetain) := by rw [hcs]; rfl
  have c4 : cs[4]? = some (.slice p.wProps.A p.wProps.n p.wProps.c) := by rw [hcs]; rfl
  have d0 : ds[0]? = some (.string q.wTopic) := by rw [hds]; rfl
  have d1 : ds[1]? = some (.string q.wPayload) := by rw [hds]; rfl
  have d2 : ds[2]? = some (.int .i64 q.wQoS) := by rw [hds]; rfl
  have d3 : ds[3]? = some (.bool q.wRetain) := by rw [hds]; rfl
  have d4 : ds[4]? = some (.slice q.wProps.A q.wProps.n q.wProps.c) := by rw [hds]; rfl
  have HR := Lib.hid hr
  have HS := Lib.hid hs
  clear hcs hds hr hs
  by_cases e0 : (p.wTopic.toList == q.wTopic.toList) = true
  · by_cases e1 : (p.wPayload.toList == q.wPayload.toList) = true
    · by_cases e2 : (p.wQoS == q.wQoS) = true
      · by_cases e3 : (p.wRetain == q.wRetain) = true
        · have HE : Hid (willEq p q = (p.wProps.n == q.wProps.n)) := Lib.hid (by simp only [willEq, e0, e1, e2, e3, Bool.true_and])
          have HB0 := Lib.hid (Below.refl w.heap.size w)
          go_enter Tryz.func130, Tryz.ntmps130
          go_wp2_with fail
          refine (listp_t p.wProps.A q.wProps.A p.wProps.n p.wProps.c q.wProps.n q.wProps.c l _ (RP.below HR.out ((Below.refl _ _).alloc (Nat.le_refl _) _ |>.alloc (by simp) _)) HS.out).mono ?_
          rintro e w1 ⟨rfl, hb⟩
          have HB1 := Lib.hid (ext_then' (w := w) (by repeat (first | exact HB0.out | refine Below.drew ?_ | (refine Below.alloc ?_ (by first | exact (HB0.out).size | (simp; done) | (have := (HB0.out).size; simp; omega)) _) | (refine Below.setCell ?_ (by first | (simp; done) | (have := (HB0.out).size; simp; omega)) _))) hb)
          clear hb HB0
          go_wp2
          go_ret
          exact ⟨by rw [HE.out]; rfl, HB1.out⟩
        · have e3 : (p.wRetain == q.wRetain) = false := by cases h : (p.wRetain == q.wRetain) with | true => exact absurd h e3 | false => rfl
          clear HR HS
          have HE : Hid (willEq p q = false) := Lib.hid (by simp only [willEq, e0, e1, e2, e3, Bool.false_and, Bool.and_false])
          go_enter Tryz.func130, Tryz.ntmps130
          go_wp2
          go_ret
          exact ⟨by rw [HE.out]; rfl, ((Below.refl _ _).alloc (Nat.le_refl _) _).alloc (by simp) _⟩
      · have e2 : (p.wQoS == q.wQoS) = false := by cases h : (p.wQoS == q.wQoS) with | true => exact absurd h e2 | false => rfl
        clear HR HS
        have HE : Hid (willEq p q = false) := Lib.hid (by simp only [willEq, e0, e1, e2, Bool.false_and, Bool.and_false])
        go_enter Tryz.func130, Tryz.ntmps130
        go_wp2
        go_ret
        exact ⟨by rw [HE.out]; rfl, ((Below.refl _ _).alloc (Nat.le_refl _) _).alloc (by simp) _⟩
    · have e1 : (p.wPayload.toList == q.wPayload.toList) = false := by cases h : (p.wPayload.toList == q.wPayload.toList) with | true => exact absurd h e1 | false => rfl
      clear HR HS
      have HE : Hid (willEq p q = false) := Lib.hid (by simp only [willEq, e0, e1, Bool.false_and, Bool.and_false])
      go_enter Tryz.func130, Tryz.ntmps130
      go_wp2
      go_ret
      exact ⟨by rw [HE.out]; rfl, ((Below.refl _ _).alloc (Nat.le_refl _) _).alloc (by simp) _⟩
  · have e0 : (p.wTopic.toList == q.wTopic.toList) = false := by cases h : (p.wTopic.toList == q.wTopic.toList) with | true => exact absurd h e0 | false => rfl
    clear HR HS
    have HE : Hid (willEq p q = false) := Lib.hid (by simp only [willEq, e0, Bool.false_and, Bool.and_false])
    go_enter Tryz.func130, Tryz.ntmps130
    go_wp2
    go_ret
    exact ⟨by rw [HE.out]; rfl, ((Below.refl _ _).alloc (Nat.le_refl _) _).alloc (by simp) _⟩
end Go.Proofs.YtjlkhihlbdokpaaGreat
/- head.Same: a packet against one that has some of its fields, the others zero. -/
namespace Go.Proofs.YtjlkhihlbdokpaaGreat
open Go.RowKit Go.Sort
set_option maxHeartbeats 2000000
set_option linter.unusedVariables false
set_option linter.unusedSimpArgs false
def sameEq (p q : Pk) : Bool := bareEq p q && (willEq p q && (p.codes.n == q.codes.n && (p.filters.n == q.filters.n && p.props.n == q.props.n)))
theorem packC_size (p : Pk) : (packC p).size = 25 := rfl
theorem load_pack_grown (g : Nat) (cs : Array Value) (w : World) (hs : cs.size = 25) (hg : w.heap[g]? = some (.cells cs 28 (0, 0))) (d : Nat) (os : Array Obj) : (loadVar 28 ⟨g, 0, none⟩).run Tryz.prog (grow (redrawn w d) os) = .ok (.agg cs) (grow (redrawn w d) os) :=
  load_pack g cs _ hs (by rw [(below_regrown w d os).block g (Array.getElem?_eq_some_iff.1 hg).1]; exact hg)
theorem load_will_grown (g : Nat) (p : Pk) (w : World) (hg : w.heap[g]? = some (.cells (packC p) 28 (0, 0))) (d : Nat) (os : Array Obj) : (loadVar 24 ⟨g, 15, none⟩).run Tryz.prog (grow (redrawn w d) os) = .ok (.agg (willC p)) (grow (redrawn w d) os) :=
  load_will g p _ (by rw [(below_regrown w d os).block g (Array.getElem?_eq_some_iff.1 hg).1]; exact hg)
theorem quiet_load {wS : World} {K : Act → Prop} {a : Act} {o : Oper} (ty : TypeId) (x : Operand) (addr : Addr) (v : Value) (h : o.op = .load ty x) (hx : a.eval x = .pointer (some addr)) (hl : ∀ p : Regrown, (loadVar ty addr).run Tryz.prog (grow (redrawn wS p.d) p.os) = .ok v (grow (redrawn wS p.d) p.os)) (hk : K (a.put o.dst v)) :
    o.quiet Tryz.prog a (fun w' => ∃ p : Regrown, w' = grow (redrawn wS p.d) p.os) K :=
  ⟨v, by
    rintro w ⟨p, rfl⟩
    unfold Oper.quietAt execOp
    simp only [h, hx, Instr.loadAt, Instr.sureAddr, Sem.run_bind, Sem.run_pure, Result.andThen_ok, hl p]
    exact ⟨rfl, rfl⟩, hk⟩
set_option maxRecDepth 100000 in
theorem same_t (p q : Pk) (cs ds : Array Value) (hcs : cs = packC p) (hds : ds = packC q) (lw lp : List Prp) (w : World) (hrw : RP w p.wProps.A p.wProps.n lw) (hrp : RP w p.props.A p.props.n lp)
    (hsw : SlRel p.wProps.A p.wProps.n p.wProps.c q.wProps.A q.wProps.n q.wProps.c) (hsp : SlRel p.props.A p.props.n p.props.c q.props.A q.props.n q.props.c)
    (hqc : q.codes = ⟨none, 0, 0⟩) (hqf : q.filters = ⟨none, 0, 0⟩) :
    Calls Tryz.prog 82 #[.agg cs, .agg ds] w fun e w' => e = .returned (.bool (sameEq p q)) ∧ Below w.heap.size w w' := by
  have HA := Lib.hid (heap_alloc2_old w (.cells cs 28) (.cells ds 28))
  have HD := Lib.hid (heap_alloc2_new w (.cells cs 28) (.cells ds 28))
  have HB0 := Lib.hid (((Below.refl w.heap.size w).alloc (Nat.le_refl _) (.cells cs 28)).alloc (by simp) (.cells ds 28))
  have HRW := Lib.hid hrw
  have HRP := Lib.hid hrp
  have HSW := Lib.hid hsw
  have HSP := Lib.hid hsp
  have HQC := Lib.hid hqc
  have HQF := Lib.hid hqf
  have HCS := Lib.hid hcs
  have HDS := Lib.hid hds
  clear hrw hrp hsw hsp hqc hqf hcs hds
  go_enter Tryz.func82, Tryz.ntmps82
  go_wp2_with fail
  generalize (w.alloc (.cells cs 28)).alloc (.cells ds 28) = wS at *
  have hbs := HB0.out.size
  have hL1 := load_pack_grown w.heap.size cs wS (by rw [HCS.out]; rfl) HA.out
  have hL2 := load_pack_grown (w.heap.size + 1) ds wS (by rw [HDS.out]; rfl) HD.out
  have hW1 := load_will_grown w.heap.size p wS (by have := HA.out; rw [HCS.out] at this; exact this)
  have hW2 := load_will_grown (w.heap.size + 1) q wS (by have := HD.out; rw [HDS.out] at this; exact this)
  have k22 := cell_regrown (cell_of_row wS w.heap.size 22 cs 28 (0, 0) HA.out |>.trans (show cs[22]? = some (.slice p.codes.A p.codes.n p.codes.c) by rw [HCS.out]; rfl))
  have k23 := cell_regrown (cell_of_row wS w.heap.size 23 cs 28 (0, 0) HA.out |>.trans (show cs[23]? = some (.slice p.filters.A p.filters.n p.filters.c) by rw [HCS.out]; rfl))
  have k24 := cell_regrown (cell_of_row wS w.heap.size 24 cs 28 (0, 0) HA.out |>.trans (show cs[24]? = some (.slice p.props.A p.props.n p.props.c) by rw [HCS.out]; rfl))
  have q22 := cell_regrown (cell_of_row wS (w.heap.size + 1) 22 ds 28 (0, 0) HD.out |>.trans (show ds[22]? = some (.slice none 0 0) by rw [HDS.out]; show some (Value.slice q.codes.A q.codes.n q.codes.c) = _; rw [HQC.out]))
  have q23 := cell_regrown (cell_of_row wS (w.heap.size + 1) 23 ds 28 (0, 0) HD.out |>.trans (show ds[23]? = some (.slice none 0 0) by rw [HDS.out]; show some (Value.slice q.filters.A q.filters.n q.filters.c) = _; rw [HQF.out]))
  have q24 := cell_regrown (cell_of_row wS (w.heap.size + 1) 24 ds 28 (0, 0) HD.out |>.trans (show ds[24]? = some (.slice q.props.A q.props.n q.props.c) by rw [HDS.out]; rfl))
  have HC1 := Lib.hid (fun d os => Calls.regrown_of (strip_t p cs HCS.out (grow (redrawn wS d) os)))
  have HC2 := Lib.hid (fun d os => Calls.regrown_of (strip_t q ds HDS.out (grow (redrawn wS d) os)))
  have HC3 := Lib.hid (fun d os => Calls.regrown_of (sameWill_t p q (willC p) (willC q) rfl rfl lw (grow (redrawn wS d) os) (RP.below HRW.out (below_then HB0.out hbs (below_regrown wS d os))) HSW.out))
  have HC4 := Lib.hid (fun d os => Calls.regrown_of (listi_nil p.codes.A p.codes.n p.codes.c (grow (redrawn wS d) os)))
  have HC5 := Lib.hid (fun d os => Calls.regrown_of (listf_nil p.filters.A p.filters.n p.filters.c (grow (redrawn wS d) os)))
  have HC6 := Lib.hid (fun d os => Calls.regrown_of (listp_t p.props.A q.props.A p.props.n p.props.c q.props.n q.props.c lp (grow (redrawn wS d) os) (RP.below HRP.out (below_then HB0.out hbs (below_regrown wS d os))) HSP.out))
  have hE := run_bare p q
  have hG := guard_bare p q
  have HS : Hid (sameEq p q = (bareEq p q && (willEq p q && (p.codes.n == 0 && (p.filters.n == 0 && p.props.n == q.props.n))))) := Lib.hid (by unfold sameEq; rw [HQC.out, HQF.out])
  generalize bareEq p q = b1 at *
  generalize willEq p q = b2 at *
  generalize (p.codes.n == 0) = b3 at *
  generalize (p.filters.n == 0) = b4 at *
  generalize (p.props.n == q.props.n) = b5 at *
  generalize bareV p = vp at *
  generalize bareV q = vq at *
  generalize willC p = wp at *
  generalize willC q = wq at *
  clear HA HD HRW HRP HSW HSP HQC HQF HCS HDS hbs
  rcases Bool.eq_false_or_eq_true b1 with rfl | rfl
  rcases Bool.eq_false_or_eq_true b2 with rfl | rfl
  rcases Bool.eq_false_or_eq_true b3 with rfl | rfl
  rcases Bool.eq_false_or_eq_true b4 with rfl | rfl
  all_goals
    refine wp_region_quiet_below follows_mixedh (by kernel_rfl) ?_
    repeat (first | (go_big_quiet_want; (first | (refine quiet_load 28 _ ⟨w.heap.size, 0, none⟩ (.agg cs) rfl rfl (fun p => hL1 p.d p.os) ?_) | (refine quiet_load 28 _ ⟨w.heap.size + 1, 0, none⟩ (.agg ds) rfl rfl (fun p => hL2 p.d p.os) ?_) | (refine quiet_load 24 _ ⟨w.heap.size, 15, none⟩ (.agg wp) rfl rfl (fun p => hW1 p.d p.os) ?_) | (refine quiet_load 24 _ ⟨w.heap.size + 1, 15, none⟩ (.agg wq) rfl rfl (fun p => hW2 p.d p.os) ?_)); simp only [Act.put, List.setIfInBounds_toArray, List.set_cons_succ, List.set_cons_zero]; go_big_quiet_on) | go_big_quiet_step (first | (go_at_call 129; first | (with_reducible exact HC1.out _ _) | (with_reducible exact HC2.out _ _)) | (go_at_call 130; exact HC3.out _ _) | (go_at_call 131; exact HC4.out _ _) | (go_at_call 132; exact HC5.out _ _) | (go_at_call 133; exact HC6.out _ _)))
    refine wpQuiet_nil ?_
    intro _ hw'
    obtain ⟨⟨dq, osq⟩, hw''⟩ := hw'
    subst hw''
    go_wp2
    go_ret
    exact ⟨by rw [HS.out]; rfl, below_then HB0.out HB0.out.size (below_regrown wS dq osq)⟩
end Go.Proofs.YtjlkhihlbdokpaaGreat
/- Packets in memory; prop.Valid. -/
namespace Go.Proofs.YtjlkhihlbdokpaaGreat
open Go.RowKit Go.Sort
set_option maxHeartbeats 2000000
set_option linter.unusedVariables false
set_option linter.unusedSimpArgs false
def zeroSl : Sl := ⟨none, 0, 0⟩
def zeroPk : Pk := ⟨0, false, false, 0, 0, ⟨#[]⟩, ⟨#[]⟩, false, 0, ⟨#[]⟩, false, ⟨#[]⟩, false, ⟨#[]⟩, false, ⟨#[]⟩, ⟨#[]⟩, 0, false, zeroSl, false, 0, zeroSl, zeroSl, zeroSl⟩
theorem pack_cells (p : Pk) (w : World) (g : Nat) (hg : w.heap[g]? = some (.cells (packC p) 28 (0, 0))) : w.cell? ⟨g, 0, none⟩ = some (.int .i64 p.kind) ∧ w.cell? ⟨g, 1, none⟩ = some (.bool p.dup) ∧ w.cell? ⟨g, 2, none⟩ = some (.bool p.retain) ∧ w.cell? ⟨g, 3, none⟩ = some (.int .i64 p.qos) ∧ w.cell? ⟨g, 4, none⟩ = some (.int .i64 p.id) ∧ w.cell? ⟨g, 5, none⟩ = some (.string p.topic) ∧ w.cell? ⟨g, 6, none⟩ = some (.string p.payload) ∧ w.cell? ⟨g, 7, none⟩ = some (.bool p.clean) ∧ w.cell? ⟨g, 8, none⟩ = some (.int .i64 p.keep) ∧ w.cell? ⟨g, 9, none⟩ = some (.string p.client) ∧ w.cell? ⟨g, 10, none⟩ = some (.bool p.hasUser) ∧ w.cell? ⟨g, 11, none⟩ = some (.string p.user) ∧ w.cell? ⟨g, 12, none⟩ = some (.bool p.hasPass) ∧ w.cell? ⟨g, 13, none⟩ = some (.string p.pass) ∧ w.cell? ⟨g, 14, none⟩ = some (.bool p.hasWill) ∧ w.cell? ⟨g, 15, none⟩ = some (.string p.wTopic) ∧ w.cell? ⟨g, 16, none⟩ = some (.string p.wPayload) ∧ w.cell? ⟨g, 17, none⟩ = some (.int .i64 p.wQoS) ∧ w.cell? ⟨g, 18, none⟩ = some (.bool p.wRetain) ∧ w.cell? ⟨g, 19, none⟩ = some (.slice p.wProps.A p.wProps.n p.wProps.c) ∧ w.cell? ⟨g, 20, none⟩ = some (.bool p.session) ∧ w.cell? ⟨g, 21, none⟩ = some (.int .i64 p.code) ∧ w.cell? ⟨g, 22, none⟩ = some (.slice p.codes.A p.codes.n p.codes.c) ∧ w.cell? ⟨g, 23, none⟩ = some (.slice p.filters.A p.filters.n p.filters.c) ∧ w.cell? ⟨g, 24, none⟩ = some (.slice p.props.A p.props.n p.props.c) := by
  have h : ∀ i v, (packC p)[i]? = some v → w.cell? ⟨g, i, none⟩ = some v := fun i v hv => (cell_of_row w g i (packC p) _ (0, 0) hg).trans hv
  exact ⟨h 0 _ rfl, h 1 _ rfl, h 2 _ rfl, h 3 _ rfl, h 4 _ rfl, h 5 _ rfl, h 6 _ rfl, h 7 _ rfl, h 8 _ rfl, h 9 _ rfl, h 10 _ rfl, h 11 _ rfl, h 12 _ rfl, h 13 _ rfl, h 14 _ rfl, h 15 _ rfl, h 16 _ rfl, h 17 _ rfl, h 18 _ rfl, h 19 _ rfl, h 20 _ rfl, h 21 _ rfl, h 22 _ rfl, h 23 _ rfl, h 24 _ rfl⟩
theorem pack_row (p : Pk) : (packC p)[0]? = some (.int .i64 p.kind) ∧ (packC p)[1]? = some (.bool p.dup) ∧ (packC p)[2]? = some (.bool p.retain) ∧ (packC p)[3]? = some (.int .i64 p.qos) ∧ (packC p)[4]? = some (.int .i64 p.id) ∧ (packC p)[5]? = some (.string p.topic) ∧ (packC p)[6]? = some (.string p.payload) ∧ (packC p)[7]? = some (.bool p.clean) ∧ (packC p)[8]? = some (.int .i64 p.keep) ∧ (packC p)[9]? = some (.string p.client) ∧ (packC p)[10]? = some (.bool p.hasUser) ∧ (packC p)[11]? = some (.string p.user) ∧ (packC p)[12]? = some (.bool p.hasPass) ∧ (packC p)[13]? = some (.string p.pass) ∧ (packC p)[14]? = some (.bool p.hasWill) ∧ (packC p)[15]? = some (.string p.wTopic) ∧ (packC p)[16]? = some (.string p.wPayload) ∧ (packC p)[17]? = some (.int .i64 p.wQoS) ∧ (packC p)[18]? = some (.bool p.wRetain) ∧ (packC p)[19]? = some (.slice p.wProps.A p.wProps.n p.wProps.c) ∧ (packC p)[20]? = some (.bool p.session) ∧ (packC p)[21]? = some (.int .i64 p.code) ∧ (packC p)[22]? = some (.slice p.codes.A p.codes.n p.codes.c) ∧ (packC p)[23]? = some (.slice p.filters.A p.filters.n p.filters.c) ∧ (packC p)[24]? = some (.slice p.props.A p.props.n p.props.c) := ⟨rfl, rfl, rfl, rfl, rfl, rfl, rfl, rfl, rfl, rfl, rfl, rfl, rfl, rfl, rfl, rfl, rfl, rfl, rfl, rfl, rfl, rfl, rfl, rfl, rfl⟩
theorem pack_at {p : Pk} {w : World} {g : Nat} (hg : w.heap[g]? = some (.cells (packC p) 28 (0, 0))) (i : Nat) (v : Value) (hv : (packC p)[i]? = some v) : w.cell? ⟨g, i, none⟩ = some v :=
  (cell_of_row w g i (packC p) _ (0, 0) hg).trans hv
theorem row_then {a b : World} {g : Nat} {o : Obj} (h : a.heap[g]? = some o) (hb : Below a.heap.size a b) : b.heap[g]? = some o := by
  rw [hb.block g (Array.getElem?_eq_some_iff.1 h).1]; exact h
theorem si_packC (p : Pk) : (Tryz.prog.info? 28).map (·.size) = some (packC p).size := si_pack
theorem pack_load {ops : Array Oper} {rest : List Oper} {o : Oper} {a : Act} {w : World} {Q : Exit → Act → World → Prop} (g : Nat) (p : Pk) (x : Operand) (hg : w.heap[g]? = some (.cells (packC p) 28 (0, 0)))
    (hgd : o.guard = none) (ho : o.op = .load 28 x) (hx : a.eval x = .pointer (some ⟨g, 0, none⟩)) (h : wpList Tryz.prog ops Q rest (a.put o.dst (.agg (packC p))) w) : wpList Tryz.prog ops Q (o :: rest) a w :=
  wpList_load_row hgd _ x ho g hx _ (packC p) (0, 0) _ hg ud_pack rfl (si_packC p) h
theorem pvalid_t (kind : Int) (A : Option Addr) (n cp : Nat) (l : List Prp) (HT : Hid (l ≠ [] → TopicOK)) (w : World) (hr : RP w A n l) :
    Calls Tryz.prog 54 #[.int .i64 kind, .slice A n cp] w fun e w' => e = .returned (.int .i64 (bytesF kind l).2) ∧ Below w.heap.size w w' := by
  have HR := Lib.hid hr
  clear hr
  go_enter Tryz.func54, Tryz.ntmps54
  go_wp2_with fail
  refine (bytes_t kind A n cp l HT _ HR.out).mono ?_
  rintro e w1 ⟨rfl, hb⟩
  have HB := Lib.hid hb
  clear hb HR
  go_wp2
  go_ret
  exact ⟨rfl, HB.out⟩
end Go.Proofs.YtjlkhihlbdokpaaGreat
/- A packet among a law's arguments: what it reads as. -/
namespace Go.Proofs.YtjlkhihlbdokpaaGreat
open Go.RowKit Go.Sort Go.WideShapes Go.Deep
set_option maxHeartbeats 2000000
set_option linter.unusedVariables false
set_option linter.unusedSimpArgs false
section
variable {H : Type} {enc : TypeId × Value → H} {w : World} {base : Nat} {spare : Nat → Bool} {held : Bool}
/-- No part of a datum is too large. -/
def Wt (d : DataW H) (t : TypeId) : Prop := ∀ n ∈ d.weights Tryz.prog t, n ≤ reachBytes
theorem fld {fs : Array Field} {L : Array (TypeId × Nat)} (h : fs.map (fun f => (f.type, f.offset)) = L) (i : Nat) (t : TypeId) (o : Nat) (hL : L[i]? = some (t, o)) : ∃ f, fs[i]? = some f ∧ f.type = t ∧ f.offset = o := by
  subst h
  rw [Array.getElem?_map] at hL
  cases hf : fs[i]? with
  | none => simp [hf] at hL
  | some f => rw [hf] at hL; simp at hL; exact ⟨f, rfl, hL.1, hL.2⟩
theorem fld_trod {T : TypeId} {fs : Array Field} {L : Array (TypeId × Nat)} {cs : List Value} {x : DataW H × List MemPlace} {m : Nat} (ht : Tryz.prog.underlying T = some (.struct fs)) (hL : fs.map (fun f => (f.type, f.offset)) = L)
    (h : DataW.trod enc Tryz.prog w base spare held m T cs = some x) (hw : Wt x.1 T) (i : Nat) (t : TypeId) (o : Nat) (hi : L[i]? = some (t, o)) :
    ∃ y n, DataW.trod enc Tryz.prog w base spare held n t ((cs.drop o).take (Tryz.prog.cellsOf t)) = some y ∧ Wt y.1 t := by
  obtain ⟨xs, n, _, rfl, hl, hlen, hf⟩ := DataW.trod_struct ht h
  obtain ⟨f, hfi, rfl, rfl⟩ := fld hL i t o hi
  have hlt : i < fs.size := by
    rcases Nat.lt_or_ge i fs.size with h | h
    · exact h
    · rw [Array.getElem?_eq_none h] at hfi; cases hfi
  have h1 := hf i f hfi
  rw [List.getElem?_eq_getElem (by omega)] at h1
  refine ⟨_, n, h1, ?_⟩
  intro k hk
  refine hw k ?_
  simp only [DataW.weights, ht]
  exact DataW.weights_mem_each (j := i) (t := f.type) (d := (xs[i]'(by omega)).1) (by rw [List.getElem?_map, Array.getElem?_toList, hfi]; rfl) (by rw [List.getElem?_map, List.getElem?_eq_getElem (by omega)]; rfl) k hk
theorem open_i {t : TypeId} {k : IntKind} {cs : List Value} {m : Nat} {y : DataW H × List MemPlace} (ht : Tryz.prog.underlying t = some (.int k)) (h : DataW.trod enc Tryz.prog w base spare held m t cs = some y) : ∃ n, cs = [.int k n] ∧ (Lit.int k n).wf = true := by
  obtain ⟨n, h1, _, h2⟩ := DataW.trod_int ht h
  exact ⟨n, h1, h2⟩
theorem open_b {t : TypeId} {cs : List Value} {m : Nat} {y : DataW H × List MemPlace} (ht : Tryz.prog.underlying t = some .bool) (h : DataW.trod enc Tryz.prog w base spare held m t cs = some y) : ∃ b, cs = [.bool b] := by
  obtain ⟨n, h1, _⟩ := DataW.trod_bool ht h
  exact ⟨n, h1⟩
theorem open_s {t : TypeId} {cs : List Value} {m : Nat} {y : DataW H × List MemPlace} (ht : Tryz.prog.underlying t = some .string) (h : DataW.trod enc Tryz.prog w base spare held m t cs = some y) (hw : Wt y.1 t) : ∃ s : ByteArray, cs = [.string s] ∧ s.size ≤ 140737488351232 := by
  obtain ⟨s, h1, rfl, _⟩ := DataW.trod_string ht h
  refine ⟨s, h1, ?_⟩
  have := hw s.data.toList.length (by simp [DataW.weights])
  rw [Array.length_toList] at this
  exact this
theorem wt_all {e : TypeId} : ∀ {ds : List (DataW H)} {d : DataW H}, d ∈ ds → ∀ n ∈ d.weights Tryz.prog e, n ∈ DataW.weightsAll Tryz.prog e ds
  | a :: r, d, h, n, hn => by
    simp only [DataW.weightsAll, List.mem_append]
    rcases List.mem_cons.1 h with rfl | h
    · exact .inl hn
    · exact .inr (wt_all h n hn)
/-- What a slice's elements are. -/
def SlAt (enc : TypeId × Value → H) (w : World) (base : Nat) (spare : Nat → Bool) (held : Bool) (e : TypeId) (A : Option Addr) (n : Nat) : Prop :=
  n ≤ 140737488351232 ∧ (0 < n → ∃ b off, A = some ⟨b, off, none⟩ ∧ b < w.heap.size ∧ ∀ i, i < n → ∃ (cs : List Value) (m : Nat) (y : DataW H × List MemPlace), cs.length = Tryz.prog.cellsOf e ∧ (∀ j v, cs[j]? = some v → w.cell? ⟨b, off + i * Tryz.prog.cellsOf e + j, none⟩ = some v) ∧ DataW.trod enc Tryz.prog w base spare held m e cs = some y ∧ Wt y.1 e)
theorem cells_get {a : Addr} {n : Nat} {cs : List Value} (h : w.cells? base a n = some cs) : cs.length = n ∧ ∀ j v, cs[j]? = some v → w.cell? (a.add j) = some v := by
  unfold World.cells? at h
  split at h
  · have hl := mapM_some_length h
    refine ⟨by simpa using hl, fun j v hj => ?_⟩
    have hlt : j < n := by
      have : j < cs.length := by
        rcases Nat.lt_or_ge j cs.length with h | h
        · exact h
        · rw [List.getElem?_eq_none h] at hj; cases hj
      simp at hl; omega
    have := mapM_some_get h j j (by simp [hlt])
    rw [this, hj]
  · cases h
theorem add_at (b off k : Nat) : (⟨b, off, none⟩ : Addr).add k = ⟨b, off + k, none⟩ := by unfold Addr.add; split <;> simp_all
theorem open_sl {t e : TypeId} {cs : List Value} {m : Nat} {y : DataW H × List MemPlace} (ht : Tryz.prog.underlying t = some (.slice e)) (he : 0 < Tryz.prog.cellsOf e) (hy : 0 < Tryz.prog.bytesOf e) (h : DataW.trod enc Tryz.prog w base spare held m t cs = some y) (hw : Wt y.1 t) :
    ∃ A n c, cs = [.slice A n c] ∧ SlAt enc w base spare held e A n := by
  rcases open_slice ht h with ⟨rfl, rfl⟩ | ⟨a, len, cap, m', k, D, Pl, rfl, hb, hl, hm, hm', rfl, hel⟩
  · exact ⟨none, 0, 0, rfl, by omega, fun h => absurd h (by omega)⟩
  · have hlen : len ≤ 140737488351232 := by
      have h1 := hw ((((List.range len).map D).length + ((List.range (m' - len)).map fun j => D (len + j)).length) * Tryz.prog.bytesOf e) (by simp only [DataW.weights, ht]; exact List.mem_cons_self)
      have h2 : len ≤ (((List.range len).map D).length + ((List.range (m' - len)).map fun j => D (len + j)).length) * Tryz.prog.bytesOf e := by
        rw [List.length_map, List.length_range]
        exact Nat.le_trans (Nat.le_add_right _ _) (Nat.le_mul_of_pos_right _ hy)
      exact Nat.le_trans h2 h1
    refine ⟨some a, len, cap, rfl, hlen, fun hpos => ?_⟩
    have hle : len ≤ m' := by rw [hm']; split <;> omega
    obtain ⟨b, off, spot⟩ := a
    obtain ⟨cs0, h0, _⟩ := hel 0 (by omega)
    obtain ⟨l0, g0⟩ := cells_get h0
    obtain ⟨v0, hv0⟩ : ∃ v, cs0[0]? = some v := ⟨cs0[0]'(by omega), List.getElem?_eq_getElem (by omega)⟩
    have g00 := g0 0 v0 hv0
    have hspot : spot = none := by simpa [Addr.add] using World.cell?_spot g00
    subst hspot
    have hblt : b < w.heap.size := by
      simp only [Nat.zero_mul, add_at, Nat.add_zero] at g00
      unfold World.cell? at g00
      rcases Nat.lt_or_ge b w.heap.size with h | h
      · exact h
      · rw [Array.getElem?_eq_none h] at g00; simp at g00
    refine ⟨b, off, rfl, hblt, fun i hi => ?_⟩
    obtain ⟨csi, hci, hti⟩ := hel i (by omega)
    obtain ⟨li, gi⟩ := cells_get hci
    refine ⟨csi, k, _, li, fun j v hj => ?_, hti, ?_⟩
    · have := gi j v hj
      rw [add_at, add_at] at this
      exact this
    · intro n hn
      refine hw n ?_
      simp only [DataW.weights, ht]
      refine List.mem_cons_of_mem _ (List.mem_append_left _ (wt_all (d := D i) ?_ n hn))
      exact List.mem_map.2 ⟨i, by simpa using hi, rfl⟩
end
structure Flt where
  topic : ByteArray
  qos : Int
  noLocal : Bool
  asPub : Bool
  handling : Int
instance : Inhabited Flt := ⟨⟨⟨#[]⟩, 0, false, false, 0⟩⟩
def FltAt (w : World) (b o : Nat) (p : Flt) : Prop := w.cell? ⟨b, o, none⟩ = some (.string p.topic) ∧ w.cell? ⟨b, o + 1, none⟩ = some (.int .i64 p.qos) ∧ w.cell? ⟨b, o + 2, none⟩ = some (.bool p.noLocal) ∧ w.cell? ⟨b, o + 3, none⟩ = some (.bool p.asPub) ∧ w.cell? ⟨b, o + 4, none⟩ = some (.int .i64 p.handling)
theorem FltAt.below {w w1 : World} {b o : Nat} {p : Flt} (h : FltAt w b o p) (hb : Below w.heap.size w w1) (hlt : b < w.heap.size) : FltAt w1 b o p :=
  ⟨(hb.cell (p := ⟨b, o, none⟩) hlt).trans h.1, (hb.cell (p := ⟨b, o + 1, none⟩) hlt).trans h.2.1, (hb.cell (p := ⟨b, o + 2, none⟩) hlt).trans h.2.2.1, (hb.cell (p := ⟨b, o + 3, none⟩) hlt).trans h.2.2.2.1, (hb.cell (p := ⟨b, o + 4, none⟩) hlt).trans h.2.2.2.2⟩
/-- A slice of filters that is read. -/
def RF (w : World) (A : Option Addr) (n : Nat) (l : List Flt) : Prop :=
  l.length = n ∧ n ≤ 9223372036854775807 ∧ (∀ p ∈ l, p.topic.size ≤ 140737488351232) ∧ (0 < n → ∃ b off, A = some ⟨b, off, none⟩ ∧ b < w.heap.size ∧ ∀ j p, l[j]? = some p → FltAt w b (off + j * 5) p)
theorem RF.below {w w1 : World} {A : Option Addr} {n : Nat} {l : List Flt} (h : RF w A n l) (hb : Below w.heap.size w w1) : RF w1 A n l :=
  ⟨h.1, h.2.1, h.2.2.1, fun hn => by
    obtain ⟨b, off, e, hlt, hc⟩ := h.2.2.2 hn
    exact ⟨b, off, e, Nat.lt_of_lt_of_le hlt hb.size, fun j p hp => (hc j p hp).below hb hlt⟩⟩
theorem RI.below {w w1 : World} {A : Option Addr} {n : Nat} {l : List Int} (h : RI w A n l) (hb : Below w.heap.size w w1) : RI w1 A n l :=
  ⟨h.1, h.2.1, fun hn => by
    obtain ⟨b, off, e, hlt, hc⟩ := h.2.2 hn
    exact ⟨b, off, e, Nat.lt_of_lt_of_le hlt hb.size, fun j hj => (hb.cell (p := ⟨b, off + j, none⟩) hlt).trans (hc j hj)⟩⟩
instance : Inhabited Prp := ⟨⟨0, 0, ⟨#[]⟩, ⟨#[]⟩⟩⟩
theorem list4 {α : Type} {l : List α} (h : l.length = 4) : ∃ a b c d, l = [a, b, c, d] := by
  match l, h with
  | [a, b, c, d], _ => exact ⟨a, b, c, d, rfl⟩
theorem list5 {α : Type} {l : List α} (h : l.length = 5) : ∃ a b c d e, l = [a, b, c, d, e] := by
  match l, h with
  | [a, b, c, d, e], _ => exact ⟨a, b, c, d, e, rfl⟩
theorem list25 {α : Type} {l : List α} (h : l.length = 25) : ∃ c0 c1 c2 c3 c4 c5 c6 c7 c8 c9 c10 c11 c12 c13 c14 c15 c16 c17 c18 c19 c20 c21 c22 c23 c24, l = [c0, c1, c2, c3, c4, c5, c6, c7, c8, c9, c10, c11, c12, c13, c14, c15, c16, c17, c18, c19, c20, c21, c22, c23, c24] := by
  match l, h with
  | [c0, c1, c2, c3, c4, c5, c6, c7, c8, c9, c10, c11, c12, c13, c14, c15, c16, c17, c18, c19, c20, c21, c22, c23, c24], _ => exact ⟨c0, c1, c2, c3, c4, c5, c6, c7, c8, c9, c10, c11, c12, c13, c14, c15, c16, c17, c18, c19, c20, c21, c22, c23, c24, rfl⟩
theorem fs_prop : (Tryz.prog.fieldsOf 75).map (fun f => (f.type, f.offset)) = #[(3, 0), (73, 1), (9, 2), (9, 3)] := by kernel_rfl
theorem fs_filter : (Tryz.prog.fieldsOf 52).map (fun f => (f.type, f.offset)) = #[(9, 0), (3, 1), (4, 2), (4, 3), (3, 4)] := by kernel_rfl
theorem fs_will : (Tryz.prog.fieldsOf 24).map (fun f => (f.type, f.offset)) = #[(9, 0), (9, 1), (3, 2), (4, 3), (22, 4)] := by kernel_rfl
theorem fs_pack : (Tryz.prog.fieldsOf 28).map (fun f => (f.type, f.offset)) = #[(3, 0), (4, 1), (4, 2), (3, 3), (3, 4), (9, 5), (9, 6), (4, 7), (3, 8), (9, 9), (4, 10), (9, 11), (4, 12), (9, 13), (4, 14), (24, 15), (4, 20), (3, 21), (25, 22), (26, 23), (22, 24)] := by kernel_rfl
theorem ud_prop : Tryz.prog.underlying 75 = some (.struct (Tryz.prog.fieldsOf 75)) := by kernel_rfl
theorem ud_filter : Tryz.prog.underlying 52 = some (.struct (Tryz.prog.fieldsOf 52)) := by kernel_rfl
theorem co_prop : Tryz.prog.cellsOf 75 = 4 := by kernel_rfl
theorem co_filter : Tryz.prog.cellsOf 52 = 5 := by kernel_rfl
theorem by_prop : 0 < Tryz.prog.bytesOf 75 := by
  have h : Tryz.prog.bytesOf 75 = 48 := by kernel_rfl
  omega
theorem by_filter : 0 < Tryz.prog.bytesOf 52 := by
  have h : Tryz.prog.bytesOf 52 = 40 := by kernel_rfl
  omega
theorem by_int : 0 < Tryz.prog.bytesOf 3 := by
  have h : Tryz.prog.bytesOf 3 = 8 := by kernel_rfl
  omega
theorem co_will : Tryz.prog.cellsOf 24 = 5 := by kernel_rfl
theorem co_pack : Tryz.prog.cellsOf 28 = 25 := by kernel_rfl
theorem co_int : Tryz.prog.cellsOf 3 = 1 := by kernel_rfl
theorem co_u32 : Tryz.prog.cellsOf 73 = 1 := by kernel_rfl
theorem co_bool : Tryz.prog.cellsOf 4 = 1 := by kernel_rfl
theorem co_str : Tryz.prog.cellsOf 9 = 1 := by kernel_rfl
theorem co_ints : Tryz.prog.cellsOf 25 = 1 := by kernel_rfl
theorem co_props : Tryz.prog.cellsOf 22 = 1 := by kernel_rfl
theorem co_filters : Tryz.prog.cellsOf 26 = 1 := by kernel_rfl
section
variable {H : Type} {enc : TypeId × Value → H} {w : World} {base : Nat} {spare : Nat → Bool} {held : Bool}
theorem rp_of {A : Option Addr} {n : Nat} (h : SlAt enc w base spare held 75 A n) : ∃ l, RP w A n l := by
  obtain ⟨hn, hc⟩ := h
  by_cases h0 : 0 < n
  · obtain ⟨b, off, rfl, hb, hel⟩ := hc h0
    have : ∀ i, i < n → ∃ p : Prp, PrpOK p ∧ PrpAt w b (off + i * 4) p := by
      intro i hi
      obtain ⟨cs, m, y, hl, hcell, ht, hw⟩ := hel i hi
      rw [co_prop] at hl hcell
      obtain ⟨a0, a1, a2, a3, rfl⟩ := list4 hl
      obtain ⟨y0, n0, t0, w0⟩ := fld_trod ud_prop fs_prop ht hw 0 _ _ rfl
      obtain ⟨y1, n1, t1, w1⟩ := fld_trod ud_prop fs_prop ht hw 1 _ _ rfl
      obtain ⟨y2, n2, t2, w2⟩ := fld_trod ud_prop fs_prop ht hw 2 _ _ rfl
      obtain ⟨y3, n3, t3, w3⟩ := fld_trod ud_prop fs_prop ht hw 3 _ _ rfl
      rw [co_int] at t0
      rw [co_u32] at t1
      rw [co_str] at t2 t3
      obtain ⟨x0, e0, v0⟩ := open_i Tryz.underlying3 t0
      obtain ⟨x1, e1, v1⟩ := open_i Tryz.underlying73 t1
      obtain ⟨x2, e2, v2⟩ := open_s Tryz.underlying9 t2 w2
      obtain ⟨x3, e3, v3⟩ := open_s Tryz.underlying9 t3 w3
      simp at e0 e1 e2 e3
      subst e0 e1 e2 e3
      have hb := bounds_u32 v1
      exact ⟨⟨x0, x1, x2, x3⟩, ⟨hb.1, by show x1 < _; omega, v2, v3⟩, hcell 0 _ rfl, hcell 1 _ rfl, hcell 2 _ rfl, hcell 3 _ rfl⟩
    obtain ⟨f, hf⟩ := choose_lt this
    refine ⟨(List.range n).map f, by simp, by omega, ?_, fun _ => ⟨b, off, rfl, hb, ?_⟩⟩
    · intro p hp
      obtain ⟨i, hi, rfl⟩ := List.mem_map.1 hp
      exact (hf i (by simpa using hi)).1
    · intro j p hp
      rw [List.getElem?_map] at hp
      by_cases hj : j < n
      · rw [List.getElem?_range hj] at hp
        simp at hp
        subst hp
        exact (hf j hj).2
      · rw [List.getElem?_eq_none (by simp; omega)] at hp
        cases hp
  · exact ⟨[], by simp; omega, by omega, by simp, fun h => absurd h h0⟩
theorem rf_of {A : Option Addr} {n : Nat} (h : SlAt enc w base spare held 52 A n) : ∃ l, RF w A n l := by
  obtain ⟨hn, hc⟩ := h
  by_cases h0 : 0 < n
  · obtain ⟨b, off, rfl, hb, hel⟩ := hc h0
    have : ∀ i, i < n → ∃ p : Flt, p.topic.size ≤ 140737488351232 ∧ FltAt w b (off + i * 5) p := by
      intro i hi
      obtain ⟨cs, m, y, hl, hcell, ht, hw⟩ := hel i hi
      rw [co_filter] at hl hcell
      obtain ⟨a0, a1, a2, a3, a4, rfl⟩ := list5 hl
      obtain ⟨y0, n0, t0, w0⟩ := fld_trod ud_filter fs_filter ht hw 0 _ _ rfl
      obtain ⟨y1, n1, t1, w1⟩ := fld_trod ud_filter fs_filter ht hw 1 _ _ rfl
      obtain ⟨y2, n2, t2, w2⟩ := fld_trod ud_filter fs_filter ht hw 2 _ _ rfl
      obtain ⟨y3, n3, t3, w3⟩ := fld_trod ud_filter fs_filter ht hw 3 _ _ rfl
      obtain ⟨y4, n4, t4, w4⟩ := fld_trod ud_filter fs_filter ht hw 4 _ _ rfl
      rw [co_str] at t0
      rw [co_int] at t1 t4
      rw [co_bool] at t2 t3
      obtain ⟨x0, e0, v0⟩ := open_s Tryz.underlying9 t0 w0
      obtain ⟨x1, e1, v1⟩ := open_i Tryz.underlying3 t1
      obtain ⟨x2, e2⟩ := open_b Tryz.underlying4 t2
      obtain ⟨x3, e3⟩ := open_b Tryz.underlying4 t3
      obtain ⟨x4, e4, v4⟩ := open_i Tryz.underlying3 t4
      simp at e0 e1 e2 e3 e4
      subst e0 e1 e2 e3 e4
      exact ⟨⟨x0, x1, x2, x3, x4⟩, v0, hcell 0 _ rfl, hcell 1 _ rfl, hcell 2 _ rfl, hcell 3 _ rfl, hcell 4 _ rfl⟩
    obtain ⟨f, hf⟩ := choose_lt this
    refine ⟨(List.range n).map f, by simp, by omega, ?_, fun _ => ⟨b, off, rfl, hb, ?_⟩⟩
    · intro p hp
      obtain ⟨i, hi, rfl⟩ := List.mem_map.1 hp
      exact (hf i (by simpa using hi)).1
    · intro j p hp
      rw [List.getElem?_map] at hp
      by_cases hj : j < n
      · rw [List.getElem?_range hj] at hp
        simp at hp
        subst hp
        exact (hf j hj).2
      · rw [List.getElem?_eq_none (by simp; omega)] at hp
        cases hp
  · exact ⟨[], by simp; omega, by omega, by simp, fun h => absurd h h0⟩
theorem ri_of {A : Option Addr} {n : Nat} (h : SlAt enc w base spare held 3 A n) : ∃ l, RI w A n l := by
  obtain ⟨hn, hc⟩ := h
  by_cases h0 : 0 < n
  · obtain ⟨b, off, rfl, hb, hel⟩ := hc h0
    have : ∀ i, i < n → ∃ p : Int, w.cell? ⟨b, off + i, none⟩ = some (.int .i64 p) := by
      intro i hi
      obtain ⟨cs, m, y, hl, hcell, ht, hw⟩ := hel i hi
      rw [co_int] at hcell
      obtain ⟨x, rfl, v⟩ := open_i Tryz.underlying3 ht
      have := hcell 0 _ rfl
      rw [Nat.mul_one, Nat.add_zero] at this
      exact ⟨x, this⟩
    obtain ⟨f, hf⟩ := choose_lt this
    refine ⟨(List.range n).map f, by simp, by omega, fun _ => ⟨b, off, rfl, hb, ?_⟩⟩
    intro j hj
    have e : ((List.range n).map f).getD j 0 = f j := by
      rw [List.getD_eq_getElem?_getD, List.getElem?_map, List.getElem?_range hj]; rfl
    rw [e]
    exact hf j hj
  · exact ⟨[], by simp; omega, by omega, fun h => absurd h h0⟩
/-- Numbers and texts of a packet that can be. -/
structure PkOK (p : Pk) : Prop where
  kind : -9223372036854775808 ≤ p.kind ∧ p.kind ≤ 9223372036854775807
  qos : -9223372036854775808 ≤ p.qos ∧ p.qos ≤ 9223372036854775807
  id : -9223372036854775808 ≤ p.id ∧ p.id ≤ 9223372036854775807
  keep : -9223372036854775808 ≤ p.keep ∧ p.keep ≤ 9223372036854775807
  wQoS : -9223372036854775808 ≤ p.wQoS ∧ p.wQoS ≤ 9223372036854775807
  code : -9223372036854775808 ≤ p.code ∧ p.code ≤ 9223372036854775807
  topic : p.topic.size ≤ 140737488351232
  payload : p.payload.size ≤ 140737488351232
  client : p.client.size ≤ 140737488351232
  user : p.user.size ≤ 140737488351232
  pass : p.pass.size ≤ 140737488351232
  wTopic : p.wTopic.size ≤ 140737488351232
  wPayload : p.wPayload.size ≤ 140737488351232
  wN : p.wProps.n ≤ 140737488351232
  pN : p.props.n ≤ 140737488351232
/-- A packet that is read: its numbers and texts, its lists. -/
structure RPk (w : World) (p : Pk) (lw : List Prp) (lc : List Int) (lf : List Flt) (lp : List Prp) : Prop where
  ok : PkOK p
  will : RP w p.wProps.A p.wProps.n lw
  codes : RI w p.codes.A p.codes.n lc
  filters : RF w p.filters.A p.filters.n lf
  props : RP w p.props.A p.props.n lp
theorem RPk.below {w w1 : World} {p : Pk} {lw : List Prp} {lc : List Int} {lf : List Flt} {lp : List Prp} (h : RPk w p lw lc lf lp) (hb : Below w.heap.size w w1) : RPk w1 p lw lc lf lp :=
  ⟨h.ok, h.will.below hb, h.codes.below hb, h.filters.below hb, h.props.below hb⟩
set_option maxRecDepth 100000 in
theorem open_cells {cs : List Value} {m : Nat} {y : DataW H × List MemPlace} (ht : DataW.trod enc Tryz.prog w base spare held m 28 cs = some y) (hw : Wt y.1 28) (hl : cs.length = 25) :
    ∃ (p : Pk) (lw : List Prp) (lc : List Int) (lf : List Flt) (lp : List Prp), cs = (packC p).toList ∧ RPk w p lw lc lf lp := by
  obtain ⟨c0, c1, c2, c3, c4, c5, c6, c7, c8, c9, c10, c11, c12, c13, c14, c15, c16, c17, c18, c19, c20, c21, c22, c23, c24, rfl⟩ := list25 hl
  obtain ⟨y0, n0, t0, w0⟩ := fld_trod ud_pack fs_pack ht hw 0 _ _ rfl
  rw [co_int] at t0
  obtain ⟨x0, e0, v0⟩ := open_i Tryz.underlying3 t0
  simp at e0
  subst e0
  clear t0 w0
  obtain ⟨y1, n1, t1, w1⟩ := fld_trod ud_pack fs_pack ht hw 1 _ _ rfl
  rw [co_bool] at t1
  obtain ⟨x1, e1⟩ := open_b Tryz.underlying4 t1
  simp at e1
  subst e1
  clear t1 w1
  obtain ⟨y2, n2, t2, w2⟩ := fld_trod ud_pack fs_pack ht hw 2 _ _ rfl
  rw [co_bool] at t2
  obtain ⟨x2, e2⟩ := open_b Tryz.underlying4 t2
  simp at e2
  subst e2
  clear t2 w2
  obtain ⟨y3, n3, t3, w3⟩ := fld_trod ud_pack fs_pack ht hw 3 _ _ rfl
  rw [co_int] at t3
  obtain ⟨x3, e3, v3⟩ := open_i Tryz.underlying3 t3
  simp at e3
  subst e3
  clear t3 w3
  obtain ⟨y4, n4, t4, w4⟩ := fld_trod ud_pack fs_pack ht hw 4 _ _ rfl
  rw [co_int] at t4
  obtain ⟨x4, e4, v4⟩ := open_i Tryz.underlying3 t4
  simp at e4
  subst e4
  clear t4 w4
  obtain ⟨y5, n5, t5, w5⟩ := fld_trod ud_pack fs_pack ht hw 5 _ _ rfl
  rw [co_str] at t5
  obtain ⟨x5, e5, v5⟩ := open_s Tryz.underlying9 t5 w5
  simp at e5
  subst e5
  clear t5 w5
  obtain ⟨y6, n6, t6, w6⟩ := fld_trod ud_pack fs_pack ht hw 6 _ _ rfl
  rw [co_str] at t6
  obtain ⟨x6, e6, v6⟩ := open_s Tryz.underlying9 t6 w6
  simp at e6
  subst e6
  clear t6 w6
  obtain ⟨y7, n7, t7, w7⟩ := fld_trod ud_pack fs_pack ht hw 7 _ _ rfl
  rw [co_bool] at t7
  obtain ⟨x7, e7⟩ := open_b Tryz.underlying4 t7
  simp at e7
  subst e7
  clear t7 w7
  obtain ⟨y8, n8, t8, w8⟩ := fld_trod ud_pack fs_pack ht hw 8 _ _ rfl
  rw [co_int] at t8
  obtain ⟨x8, e8, v8⟩ := open_i Tryz.underlying3 t8
  simp at e8
  subst e8
  clear t8 w8
  obtain ⟨y9, n9, t9, w9⟩ := fld_trod ud_pack fs_pack ht hw 9 _ _ rfl
  rw [co_str] at t9
  obtain ⟨x9, e9, v9⟩ := open_s Tryz.underlying9 t9 w9
  simp at e9
  subst e9
  clear t9 w9
  obtain ⟨y10, n10, t10, w10⟩ := fld_trod ud_pack fs_pack ht hw 10 _ _ rfl
  rw [co_bool] at t10
  obtain ⟨x10, e10⟩ := open_b Tryz.underlying4 t10
  simp at e10
  subst e10
  clear t10 w10
  obtain ⟨y11, n11, t11, w11⟩ := fld_trod ud_pack fs_pack ht hw 11 _ _ rfl
  rw [co_str] at t11
  obtain ⟨x11, e11, v11⟩ := open_s Tryz.underlying9 t11 w11
  simp at e11
  subst e11
  clear t11 w11
  obtain ⟨y12, n12, t12, w12⟩ := fld_trod ud_pack fs_pack ht hw 12 _ _ rfl
  rw [co_bool] at t12
  obtain ⟨x12, e12⟩ := open_b Tryz.underlying4 t12
  simp at e12
  subst e12
  clear t12 w12
  obtain ⟨y13, n13, t13, w13⟩ := fld_trod ud_pack fs_pack ht hw 13 _ _ rfl
  rw [co_str] at t13
  obtain ⟨x13, e13, v13⟩ := open_s Tryz.underlying9 t13 w13
  simp at e13
  subst e13
  clear t13 w13
  obtain ⟨y14, n14, t14, w14⟩ := fld_trod ud_pack fs_pack ht hw 14 _ _ rfl
  rw [co_bool] at t14
  obtain ⟨x14, e14⟩ := open_b Tryz.underlying4 t14
  simp at e14
  subst e14
  clear t14 w14
  obtain ⟨y15, n15, t15, w15⟩ := fld_trod ud_pack fs_pack ht hw 15 _ _ rfl
  rw [co_will] at t15
  simp only [List.drop_succ_cons, List.drop_zero, List.take_succ_cons, List.take_zero] at t15
  obtain ⟨y15a, n15a, t15a, w15a⟩ := fld_trod ud_will fs_will t15 w15 0 _ _ rfl
  rw [co_str] at t15a
  obtain ⟨x15a, e15a, v15a⟩ := open_s Tryz.underlying9 t15a w15a
  simp at e15a
  subst e15a
  clear t15a w15a
  obtain ⟨y16, n16, t16, w16⟩ := fld_trod ud_will fs_will t15 w15 1 _ _ rfl
  rw [co_str] at t16
  obtain ⟨x16, e16, v16⟩ := open_s Tryz.underlying9 t16 w16
  simp at e16
  subst e16
  clear t16 w16
  obtain ⟨y17, n17, t17, w17⟩ := fld_trod ud_will fs_will t15 w15 2 _ _ rfl
  rw [co_int] at t17
  obtain ⟨x17, e17, v17⟩ := open_i Tryz.underlying3 t17
  simp at e17
  subst e17
  clear t17 w17
  obtain ⟨y18, n18, t18, w18⟩ := fld_trod ud_will fs_will t15 w15 3 _ _ rfl
  rw [co_bool] at t18
  obtain ⟨x18, e18⟩ := open_b Tryz.underlying4 t18
  simp at e18
  subst e18
  clear t18 w18
  obtain ⟨y19, n19, t19, w19⟩ := fld_trod ud_will fs_will t15 w15 4 _ _ rfl
  rw [co_props] at t19
  obtain ⟨A19, n19, q19, e19, s19⟩ := open_sl Tryz.underlying22 (by rw [co_prop]; decide) by_prop t19 w19
  obtain ⟨l19, r19⟩ := rp_of s19
  simp at e19
  subst e19
  clear t19 w19
  obtain ⟨y20, n20, t20, w20⟩ := fld_trod ud_pack fs_pack ht hw 16 _ _ rfl
  rw [co_bool] at t20
  obtain ⟨x20, e20⟩ := open_b Tryz.underlying4 t20
  simp at e20
  subst e20
  clear t20 w20
  obtain ⟨y21, n21, t21, w21⟩ := fld_trod ud_pack fs_pack ht hw 17 _ _ rfl
  rw [co_int] at t21
  obtain ⟨x21, e21, v21⟩ := open_i Tryz.underlying3 t21
  simp at e21
  subst e21
  clear t21 w21
  obtain ⟨y22, n22, t22, w22⟩ := fld_trod ud_pack fs_pack ht hw 18 _ _ rfl
  rw [co_ints] at t22
  obtain ⟨A22, n22, q22, e22, s22⟩ := open_sl Tryz.underlying25 (by rw [co_int]; decide) by_int t22 w22
  obtain ⟨l22, r22⟩ := ri_of s22
  simp at e22
  subst e22
  clear t22 w22
  obtain ⟨y23, n23, t23, w23⟩ := fld_trod ud_pack fs_pack ht hw 19 _ _ rfl
  rw [co_filters] at t23
  obtain ⟨A23, n23, q23, e23, s23⟩ := open_sl Tryz.underlying26 (by rw [co_filter]; decide) by_filter t23 w23
  obtain ⟨l23, r23⟩ := rf_of s23
  simp at e23
  subst e23
  clear t23 w23
  obtain ⟨y24, n24, t24, w24⟩ := fld_trod ud_pack fs_pack ht hw 20 _ _ rfl
  rw [co_props] at t24
  obtain ⟨A24, n24, q24, e24, s24⟩ := open_sl Tryz.underlying22 (by rw [co_prop]; decide) by_prop t24 w24
  obtain ⟨l24, r24⟩ := rp_of s24
  simp at e24
  subst e24
  clear t24 w24
  exact ⟨⟨x0, x1, x2, x3, x4, x5, x6, x7, x8, x9, x10, x11, x12, x13, x14, x15a, x16, x17, x18, ⟨A19, n19, q19⟩, x20, x21, ⟨A22, n22, q22⟩, ⟨A23, n23, q23⟩, ⟨A24, n24, q24⟩⟩, l19, l22, l23, l24, rfl, ⟨bounds_i64 v0, bounds_i64 v3, bounds_i64 v4, bounds_i64 v8, bounds_i64 v17, bounds_i64 v21, v5, v6, v9, v11, v13, v15a, v16, s19.1, s24.1⟩, r19, r22, r23, r24⟩
set_option maxRecDepth 100000 in
theorem open_packet {ts : List TypeId} {ds : List (DataW H)} (hz : (DataW.weightsEach Tryz.prog ts ds).all (· ≤ reachBytes) = true) {j : Nat} {v : Value} {d : DataW H} {ps : List MemPlace} {r : Reach} {b0 : Nat} (hj : ts[j]? = some 28) (hd : ds[j]? = some d)
    (hv : Value.okWide Tryz.prog w r b0 28 v) (h : DataW.Trod enc Tryz.prog w base spare held 28 v d ps) :
    ∃ (p : Pk) (lw : List Prp) (lc : List Int) (lf : List Flt) (lp : List Prp), v = .agg (packC p) ∧ RPk w p lw lc lf lp := by
  obtain ⟨cs, rfl, hs⟩ := Go.WideShapes.okWide_struct ud_pack hv
  obtain ⟨m, hm⟩ := h
  obtain ⟨p, lw, lc, lf, lp, e, hr⟩ := open_cells (y := (d, ps)) (by simpa [Value.cells] using hm) (fun n hn => by
    have := List.all_eq_true.1 hz n (DataW.weights_mem_each hj hd n hn)
    simpa using this) (by rw [Array.length_toList, hs]; exact co_pack)
  refine ⟨p, lw, lc, lf, lp, ?_, hr⟩
  rw [show cs = packC p from Array.toList_inj.1 e]
end
end Go.Proofs.YtjlkhihlbdokpaaGreat
/- kit.LightPacket: it returns; stores and results of packets. -/
namespace Go.Proofs.YtjlkhihlbdokpaaGreat
open Go.RowKit Go.Sort
set_option maxHeartbeats 2000000
set_option linter.unusedVariables false
set_option linter.unusedSimpArgs false
theorem pk_store {ops : Array Oper} {rest : List Oper} {o : Oper} {a : Act} {w : World} {Q : Exit → Act → World → Prop} (g : Nat) (p : Pk) (x y : Operand) (old : Array Value) (hg : w.heap[g]? = some (.cells old 28 (0, 0))) (hs : old.size = 25)
    (hgd : o.guard = none) (ho : o.op = .store 28 x y) (hx : a.eval x = .pointer (some ⟨g, 0, none⟩)) (hy : a.eval y = .agg (packC p))
    (h : ∀ w', w'.heap[g]? = some (.cells (packC p) 28 (0, 0)) → w.grownBy w' (some g) → wpList Tryz.prog ops Q rest (a.put o.dst undef) w') : wpList Tryz.prog ops Q (o :: rest) a w :=
  wpList_store_row hgd _ x y ho g (packC p) hx hy _ old hg (si_packC p) hs (by simp [packC, Value.oneCell'])
    (h _ (setRow_heap w g old _ _ _ hg) ⟨rfl, rfl, rfl, by simp, fun k _ hk => setRow_other w g k _ (fun e => hk (by rw [e]))⟩)
theorem pk_load {ops : Array Oper} {rest : List Oper} {o : Oper} {a : Act} {w : World} {Q : Exit → Act → World → Prop} (g : Nat) (p : Pk) (x : Operand) (hg : w.heap[g]? = some (.cells (packC p) 28 (0, 0)))
    (hgd : Region.wanted o (yielded ops a.tmps) = true) (ho : o.op = .load 28 x) (hx : a.eval x = .pointer (some ⟨g, 0, none⟩)) (h : wpList Tryz.prog ops Q rest (a.put o.dst (.agg (packC p))) w) : wpList Tryz.prog ops Q (o :: rest) a w :=
  wpList_step fun K hK => by
    rw [if_pos hgd]
    exact wp_load_row _ x ho g hx _ (packC p) (0, 0) _ hg ud_pack rfl (si_packC p) (hK _ _ h)
theorem results_pk {fn : Func} {s u : Tmp} (h : fn.results = #[.cell s 28, .tmp u]) (tmps : Array Value) (w : World) (g : Nat) (p : Pk)
    (hp : tmps.getD s undef = .pointer (some ⟨g, 0, none⟩)) (hg : w.heap[g]? = some (.cells (packC p) 28 (0, 0))) :
    (results fn tmps).run Tryz.prog w = .ok (.tuple #[.agg (packC p), tmps.getD u undef]) w := by
  rw [results_cell_tmp h, hp]
  simp [asAddr, Result.andThen, run_loadVar_row w g _ _ (packC p) (0, 0) _ hg ud_pack rfl (si_packC p)]
theorem grown_below {w0 w w1 : World} {g : Nat} (hb : Below w0.heap.size w0 w) (hg : w.grownBy w1 (some g)) (h : w0.heap.size ≤ g) : Below w0.heap.size w0 w1 :=
  hb.grown hg hb.size (fun k hk => by simp only [Option.some.injEq] at hk; omega)
theorem row_grown {a b : World} {g h : Nat} {o : Obj} (ha : a.heap[g]? = some o) (hb : a.grownBy b (some h)) (hne : g ≠ h) : b.heap[g]? = some o := by
  rw [hb.block g (Array.getElem?_eq_some_iff.1 ha).1 (fun e => hne (by simpa using e))]; exact ha
theorem below_drawnN (w : World) (n : Nat) : Below w.heap.size w (w.drewN n) := ⟨rfl, rfl, rfl, Nat.le_refl _, fun _ _ => rfl⟩
def SomeI (w : World) (e : Ending) (w' : World) : Prop := ∃ z : Int, e = .returned (.int .i64 z) ∧ Below w.heap.size w w'
def SomeB (w : World) (e : Ending) (w' : World) : Prop := ∃ b : Bool, e = .returned (.bool b) ∧ Below w.heap.size w w'
set_option maxRecDepth 100000 in
theorem weight_t (A : Option Addr) (n c : Nat) (l : List Prp) (w : World) (hr : RP w A n l) : Calls Tryz.prog 101 #[.slice A n c] w (SomeI w) := by
  obtain ⟨hl, hn, hok, hc⟩ := hr
  have HC := Lib.hid hc
  have HL := Lib.hid hl
  have HOK := Lib.hid hok
  clear hc hl hok
  go_enter Tryz.func101, Tryz.ntmps101
  go_wp2
  go_loopw [3, 4] (fun v3 v4 wr => ∃ (k : Nat) (z : Int), k ≤ n ∧ v4 = .int .i64 k ∧ v3 = .int .i64 z ∧ Below w.heap.size w wr) (fun _ v4 _ => n - (intOf v4).toNat)
  case atStart => exact ⟨0, 0, by omega, rfl, rfl, Below.refl _ _⟩
  case round =>
    obtain ⟨k, z, hk, rfl, rfl, hbel⟩ := hrel
    have HB := Lib.hid hbel
    by_cases hlt : k < n
    · obtain ⟨b, off, rfl, hblt, hcell⟩ := HC.out (by omega)
      obtain ⟨p, hp⟩ : ∃ p, l[k]? = some p := ⟨l[k]'(by rw [HL.out]; exact hlt), by simp [HL.out, hlt]⟩
      obtain ⟨c0, c1, c2, c3⟩ := (hcell k p hp).below hbel hblt
      have hP := HOK.out p (List.mem_of_getElem? hp)
      obtain ⟨-, -, ht, hv⟩ := hP
      have i0 : (0 : Int) ≤ (k : Int) := by omega
      have i1 : (k : Int) < (n : Int) := by omega
      clear hcell hp hbel c0 c1
      generalize wr = wq at *
      go_wp2
      go_quiet (fail)
      go_wp2
      go_roundw
      case rel => exact ⟨k + 1, _, by omega, by go_num, rfl, ext_then' HB.out (below_drawnN _ _)⟩
      case measure => simp [intOf]; omega
    · have hkn : k = n := by omega
      clear hbel
      go_wp2
      go_ret
      exact ⟨z, rfl, HB.out⟩
set_option maxRecDepth 100000 in
theorem lprops_t (A : Option Addr) (n c : Nat) (l : List Prp) (w : World) (hr : RP w A n l) : Calls Tryz.prog 43 #[.slice A n c] w (SomeB w) := by
  cases hd : decide ((n : Int) ≤ 1010)
  · have hd2 : decide (n ≤ 1010) = false := by simp at hd ⊢; omega
    go_enter Tryz.func43, Tryz.ntmps43
    go_wp2
    go_ret
    exact ⟨_, rfl, Below.refl _ _⟩
  · have hd2 : decide (n ≤ 1010) = true := by simp at hd ⊢; omega
    have HR := Lib.hid hr
    clear hr
    go_enter Tryz.func43, Tryz.ntmps43
    go_wp2_with fail
    refine (weight_t A n c l _ HR.out).mono ?_
    rintro e w1 ⟨z, rfl, hb⟩
    have HB := Lib.hid hb
    clear hb
    go_wp2
    go_ret
    exact ⟨_, rfl, HB.out⟩
set_option maxRecDepth 100000 in
theorem light_t (p : Pk) (lw : List Prp) (lc : List Int) (lf : List Flt) (lp : List Prp) (w : World) (hr : RPk w p lw lc lf lp) : Calls Tryz.prog 10 #[.agg (packC p)] w (SomeB w) := by
  have HR := Lib.hid hr
  clear hr
  have HG := Lib.hid (heap_alloc_new w (.cells (packC p) 28))
  have HB1 := Lib.hid ((Below.refl w.heap.size w).alloc (Nat.le_refl _) (.cells (packC p) 28))
  have HF := Lib.hid HR.out.filters
  have HS := Lib.hid HR.out.ok
  go_enter Tryz.func10, Tryz.ntmps10
  have c24 : (w.alloc (.cells (packC p) 28)).cell? ⟨w.heap.size, 24, none⟩ = some (.slice p.props.A p.props.n p.props.c) := pack_at HG.out 24 _ rfl
  go_wp2_with fail
  refine (lprops_t p.props.A p.props.n p.props.c lp _ (HR.out.props.below HB1.out)).mono ?_
  rintro e w2 ⟨b, rfl, hb⟩
  have HB2 := Lib.hid (ext_then' HB1.out hb)
  have HG2 := Lib.hid (row_then HG.out hb)
  clear hb HG HB1 c24
  cases b
  · go_wp2
    go_ret
    exact ⟨_, rfl, HB2.out⟩
  have HG := HG2
  clear HG2
  have c19 : w2.cell? ⟨w.heap.size, 19, none⟩ = some (.slice p.wProps.A p.wProps.n p.wProps.c) := pack_at HG.out 19 _ rfl
  go_wp2_with fail
  refine (lprops_t p.wProps.A p.wProps.n p.wProps.c lw _ (HR.out.will.below HB2.out)).mono ?_
  rintro e w3 ⟨b, rfl, hb⟩
  have HB3 := Lib.hid (ext_then' HB2.out hb)
  have HG3 := Lib.hid (row_then HG.out hb)
  clear hb HG HB2 c19
  have HG := HG3
  clear HG3
  cases b
  · go_wp2
    go_ret
    exact ⟨_, rfl, HB3.out⟩
  have c22 : w3.cell? ⟨w.heap.size, 22, none⟩ = some (.slice p.codes.A p.codes.n p.codes.c) := pack_at HG.out 22 _ rfl
  have c23 : w3.cell? ⟨w.heap.size, 23, none⟩ = some (.slice p.filters.A p.filters.n p.filters.c) := pack_at HG.out 23 _ rfl
  have hnc := HR.out.codes.2.1
  have hnf := HF.out.2.1
  cases hd : decide ((60 : Int) < (p.codes.n : Int))
  rotate_left
  · have hd2 : decide (60 < p.codes.n) = true := by simp at hd ⊢; omega
    go_wp2
    go_ret
    exact ⟨_, rfl, HB3.out⟩
  have hd2 : decide (60 < p.codes.n) = false := by simp at hd ⊢; omega
  cases he : decide ((60 : Int) < (p.filters.n : Int))
  rotate_left
  · have he2 : decide (60 < p.filters.n) = true := by simp at he ⊢; omega
    go_wp2
    go_ret
    exact ⟨_, rfl, HB3.out⟩
  have he2 : decide (60 < p.filters.n) = false := by simp at he ⊢; omega
  have c5 : w3.cell? ⟨w.heap.size, 5, none⟩ = some (.string p.topic) := pack_at HG.out 5 _ rfl
  have c6 : w3.cell? ⟨w.heap.size, 6, none⟩ = some (.string p.payload) := pack_at HG.out 6 _ rfl
  have c9 : w3.cell? ⟨w.heap.size, 9, none⟩ = some (.string p.client) := pack_at HG.out 9 _ rfl
  have c11 : w3.cell? ⟨w.heap.size, 11, none⟩ = some (.string p.user) := pack_at HG.out 11 _ rfl
  have c13 : w3.cell? ⟨w.heap.size, 13, none⟩ = some (.string p.pass) := pack_at HG.out 13 _ rfl
  have c15 : w3.cell? ⟨w.heap.size, 15, none⟩ = some (.string p.wTopic) := pack_at HG.out 15 _ rfl
  have c16 : w3.cell? ⟨w.heap.size, 16, none⟩ = some (.string p.wPayload) := pack_at HG.out 16 _ rfl
  clear HR
  obtain ⟨s5, s6, s9, s11, s13, s15, s16⟩ := (⟨HS.out.topic, HS.out.payload, HS.out.client, HS.out.user, HS.out.pass, HS.out.wTopic, HS.out.wPayload⟩ : _ ∧ _ ∧ _ ∧ _ ∧ _ ∧ _ ∧ _)
  go_wp2
  clear c5 c6 c9 c11 c13 c15 c16 c22
  generalize (p.topic.size : Int) + (p.payload.size : Int) + (p.client.size : Int) + (p.user.size : Int) + (p.pass.size : Int) + (p.wTopic.size : Int) + (p.wPayload.size : Int) = z0 at *
  go_loop [3, 4] (fun v3 v4 => ∃ (k : Nat) (z : Int), k ≤ p.filters.n ∧ v4 = .int .i64 k ∧ v3 = .int .i64 z) (fun _ v4 => p.filters.n - (intOf v4).toNat)
  case atStart => exact ⟨0, z0, by omega, rfl, rfl⟩
  case round =>
    obtain ⟨k, z, hk, rfl, rfl⟩ := hrel
    by_cases hlt : k < p.filters.n
    · obtain ⟨b, off, hA, hblt, hcell⟩ := (HF.out.below HB3.out).2.2.2 (by omega)
      obtain ⟨q, hq⟩ : ∃ q, lf[k]? = some q := ⟨lf[k]'(by rw [HF.out.1]; exact hlt), by simp [HF.out.1, hlt]⟩
      obtain ⟨d0, -⟩ := hcell k q hq
      have hqs := HF.out.2.2.1 q (List.mem_of_getElem? hq)
      have i0 : (0 : Int) ≤ (k : Int) := by omega
      have i1 : (k : Int) < (p.filters.n : Int) := by omega
      have hn60 : p.filters.n ≤ 60 := by simp at hd2 he2; omega
      rw [hA] at c23
      clear hcell hq hA
      go_wp2
      go_round
      case rel => exact ⟨k + 1, _, by omega, by go_num, rfl⟩
      case measure => simp [intOf]; omega
    · have hkn : k = p.filters.n := by omega
      go_wp2
      go_ret
      exact ⟨_, rfl, HB3.out⟩
end Go.Proofs.YtjlkhihlbdokpaaGreat
