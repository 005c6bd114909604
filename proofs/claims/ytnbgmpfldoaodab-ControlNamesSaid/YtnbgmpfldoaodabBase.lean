/- What the chapters' proofs share: codes' and bytes' sizes, packets of a kind, an id and a code, stores of packets, kit.Pick. -/
import Derived.Test.YtnbgmpfldoaodabLight
import Derived.Test.YtnbgmpfldoaodabAns
import Derived.Test.YtnbgmpfldoaodabTopic
import Derived.Deep.MidRow
import Derived.Laws.IdiomCopy
namespace Go.Proofs.Ytnbgmpfldoaodab
open Go.RowKit Go.Sort
set_option maxHeartbeats 2000000
set_option linter.unusedVariables false
set_option linter.unusedSimpArgs false
theorem mayB_range' {kind code : Int} (h : mayB kind code = true) : 0 ≤ code ∧ code < 256 := codesL_range kind code (by simpa [mayB] using h)
theorem bytesGo_size (kind : Int) : ∀ (l : List Prp) (f : Nat → Int) (out : List Int), (bytesGo kind l f out).1.size ≤ 4 + out.length + l.length * 131075
  | [], f, out => by
    unfold bytesGo
    split
    · exact Nat.zero_le _
    · have := viS_le out.length
      rw [ByteArray.size_append, strOfNums_size]
      simp only [List.length_nil]
      omega
  | p :: t, f, out => by
    unfold bytesGo
    split
    · rename_i hc
      have hv := valueS_size hc
      split
      · exact Nat.zero_le _
      · have := bytesGo_size kind t (fun j => if j = p.id.toNat then f p.id.toNat + 1 else f j) ((out ++ [p.id]) ++ bytesN (valueS (ruleOf p.id).shape p))
        simp only [List.length_append, List.length_cons, List.length_nil, bytesN_len] at this ⊢
        omega
    · exact Nat.zero_le _
theorem bytesF_size (kind : Int) (l : List Prp) : (bytesF kind l).1.size ≤ 131075004 := by
  unfold bytesF
  split
  · rename_i h
    have h1 := bytesGo_size kind l (fun _ => 0) []
    have h2 := Nat.mul_le_mul_right 131075 h
    simp only [List.length_nil] at h1
    omega
  · exact Nat.zero_le _
def codePk (k i c : Int) : Pk := { zeroPk with kind := k, id := i, code := c }
theorem bytes_none (k : Int) : bytesF k [] = (viS 0 ++ strOfNums [], 0) := by
  simp [bytesF, bytesGo, loneB]
theorem nil_RP (w : World) : RP w zeroSl.A zeroSl.n [] := ⟨rfl, by decide, fun p (h : p ∈ ([] : List Prp)) => absurd h (by simp), fun h => absurd h (by decide)⟩
theorem noTopic : Hid (([] : List Prp) ≠ [] → TopicOK) := Lib.hid fun h => absurd rfl h
theorem row_store {a b : World} {g : Nat} {o o' : Obj} (ha : a.heap[g]? = some o) (hb : (a.alloc o').grownBy b (some a.heap.size)) : b.heap[g]? = some o := by
  have hlt := (Array.getElem?_eq_some_iff.1 ha).1
  rw [hb.block g (by simp; omega) (fun e => by simp only [Option.some.injEq] at e; omega), heap_alloc_old _ _ hlt]
  exact ha
theorem below_store {w0 a b : World} {o' : Obj} (h : Below w0.heap.size w0 a) (hb : (a.alloc o').grownBy b (some a.heap.size)) : Below w0.heap.size w0 b :=
  (h.alloc h.size o').grown hb (by have := h.size; simp; omega) (fun k hk => by simp only [Option.some.injEq] at hk; have := h.size; omega)
theorem topicH (l : List Prp) : Hid (l ≠ [] → TopicOK) := Lib.hid fun _ => topic_ok
theorem grown_two (a : World) (g i j : Nat) (x y : Value) : a.grownBy ((a.setCell ⟨g, i, none⟩ x).setCell ⟨g, j, none⟩ y).drew (some g) :=
  grown_drew ⟨rfl, rfl, rfl, by simp, fun k _ hk => by
    rw [heap_setCell_other _ _ _ _ (fun e => hk (by rw [e])), heap_setCell_other _ _ _ _ (fun e => hk (by rw [e]))]⟩
theorem row_two {a : World} {g : Nat} {cs : Array Value} {T : TypeId} (h : a.heap[g]? = some (.cells cs T (0, 0))) (i j : Nat) (x y : Value) :
    ((a.setCell ⟨g, i, none⟩ x).setCell ⟨g, j, none⟩ y).drew.heap[g]? = some (.cells ((cs.setIfInBounds i x).setIfInBounds j y) T (0, 0)) := by
  have h1 := heap_setCell_same a g i cs T x h
  exact heap_setCell_same _ g j _ T y h1
theorem extract_behind (a b : ByteArray) : (a ++ b).extract a.size (a ++ b).size = b := by
  apply ByteArray.ext
  have h1 : a.data.extract a.size (a.size + b.size) = #[] := by
    apply Array.eq_empty_of_size_eq_zero
    have e : a.data.size = a.size := rfl
    simp only [Array.size_extract, e]; omega
  have h2 : b.data.extract 0 b.size = b.data := by
    have e : b.data.size = b.size := rfl
    rw [← e]; exact Array.extract_size
  simp only [ByteArray.data_extract, ByteArray.data_append, ByteArray.size_append, Array.extract_append, h1]
  have e : a.data.size = a.size := rfl
  simp only [e, Nat.sub_self, Nat.add_sub_cancel_left, h2]
  simp
/-- Cells written one behind the other. -/
def setsAt : Array Value → Nat → List Value → Array Value
  | cur, _, [] => cur
  | cur, o, v :: r => setsAt (cur.setIfInBounds o v) (o + 1) r
theorem heap_setCells {g : Nat} {t : TypeId} : ∀ (vs : List Value) (o : Nat) (w : World) (cur : Array Value), w.heap[g]? = some (.cells cur t (0, 0)) → (w.setCells g o vs).heap[g]? = some (.cells (setsAt cur o vs) t (0, 0))
  | [], _, _, _, h => h
  | v :: r, o, w, cur, h => heap_setCells r (o + 1) _ _ (heap_setCell_same w g o cur t v h)
theorem grown_setCells {g : Nat} : ∀ (vs : List Value) (o : Nat) (w : World), w.grownBy (w.setCells g o vs) (some g)
  | [], _, w => ⟨rfl, rfl, rfl, Nat.le_refl _, fun _ _ _ => rfl⟩
  | v :: r, o, w => by
    have h1 := grown_set w g o v
    have h2 := grown_setCells (g := g) r (o + 1) (w.setCell ⟨g, o, none⟩ v)
    exact ⟨h2.os.trans h1.os, h2.tape.trans h1.tape, h2.output.trans h1.output, Nat.le_trans h1.size h2.size, fun k hk hne => (h2.block k (Nat.lt_of_lt_of_le hk h1.size) hne).trans (h1.block k hk hne)⟩
theorem there_row {w : World} {g o n : Nat} {cur : Array Value} {t : TypeId} (hg : w.heap[g]? = some (.cells cur t (0, 0))) (h : o + n ≤ cur.size) : w.there g o n := fun j hj => by
  refine ⟨?_, frozen_of_row _ _ _ _ _ hg⟩
  rw [cell_of_row _ _ _ _ _ _ hg, Array.getElem?_eq_getElem (by omega)]
  rfl
theorem run_storeVar_cells (w : World) (g o : Nat) (ty t : TypeId) (cur : Array Value) (v : Value) (hg : w.heap[g]? = some (.cells cur t (0, 0))) (hi : (Try.prog.info? ty).map (·.size) = some v.cells.size) (hle : o + v.cells.size ≤ cur.size) (h1 : v.cells.all (·.oneCell') = true) :
    (storeVar ty ⟨g, o, none⟩ v).run Try.prog w = .ok () (w.setCells g o v.cells.toList) := by
  have ht := there_row hg hle
  have := run_storeCells_cells (P := Try.prog) g o v.cells.toList 0 w (fun j hj => by simpa using (ht j (by simpa using hj)).1) (fun j hj => by simpa using (ht j (by simpa using hj)).2)
    (fun v hv => (Array.all_eq_true_iff_forall_mem.1 h1) v (by simpa using hv))
  cases hq : Try.prog.info? ty with
  | none => simp [hq] at hi
  | some i =>
    have hs : v.cells.size = i.size := by simp [hq] at hi; omega
    simp only [Nat.add_zero] at this
    simp [storeVar, sizeOf, typeInfo, hq, hs, this]
/-- A field of a packet in memory is set: the packet that lies there then. -/
theorem pk_set {ops : Array Oper} {rest : List Oper} {o : Oper} {a : Act} {w : World} {Q : Exit → Act → World → Prop} (g i : Nat) (q q' : Pk) (v : Value) (ty : TypeId) (x y : Operand) (hg : w.heap[g]? = some (.cells (packC q) 35 (0, 0)))
    (hgd : Region.wanted o (yielded ops a.tmps) = true) (ho : o.op = .store ty x y) (hx : a.eval x = .pointer (some ⟨g, i, none⟩)) (hy : a.eval y = v)
    (hi : (Try.prog.info? ty).map (·.size) = some v.cells.size) (h1 : v.cells.all (·.oneCell') = true) (hle : i + v.cells.size ≤ 25) (hq : setsAt (packC q) i v.cells.toList = packC q')
    (h : ∀ w', w'.heap[g]? = some (.cells (packC q') 35 (0, 0)) → w.grownBy w' (some g) → wpList Try.prog ops Q rest (a.put o.dst undef) w') : wpList Try.prog ops Q (o :: rest) a w :=
  wpList_step fun K hK => by
    rw [if_pos hgd]
    unfold Oper.wp execOp
    simp only [ho, hx, hy, Instr.storeAt, Instr.sureAddr, Sem.run_bind, Sem.run_pure, Result.andThen_ok, run_storeVar_cells w g i ty _ (packC q) v hg hi hle h1]
    refine hK _ _ (h _ ?_ (grown_setCells _ _ _))
    rw [← hq]
    exact heap_setCells _ _ _ _ hg
end Go.Proofs.Ytnbgmpfldoaodab
