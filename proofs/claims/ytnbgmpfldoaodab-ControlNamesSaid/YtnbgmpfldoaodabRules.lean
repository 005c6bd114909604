/- prop.rules: the map of all properties; what a look-up in it answers. -/
import Derived.Test.YtnbgmpfldoaodabText8
import Derived.Maps.Own
import Derived.MapKept
namespace Go.Proofs.Ytnbgmpfldoaodab
open Go.RowKit Go.MapKept
set_option maxHeartbeats 1000000
set_option linter.unusedVariables false
set_option linter.unusedSimpArgs false
structure Rule where
  shape : Int
  kinds : Int
  least : Int
  most : Int
def Rule.val (r : Rule) : Value := .agg #[.int .i64 r.shape, .int .i64 r.kinds, .int .u32 r.least, .int .u32 r.most]
def ruleL : List (Int × Rule) := [(1, ⟨1, 65544, 0, 1⟩), (2, ⟨3, 65544, 0, 4294967295⟩), (3, ⟨5, 65544, 0, 0⟩), (8, ⟨5, 65544, 0, 0⟩), (9, ⟨6, 65544, 0, 0⟩), (11, ⟨4, 264, 1, 268435455⟩), (17, ⟨3, 16390, 0, 4294967295⟩), (18, ⟨5, 4, 0, 0⟩), (19, ⟨2, 4, 0, 65535⟩), (21, ⟨5, 32774, 0, 0⟩), (22, ⟨6, 32774, 0, 0⟩), (23, ⟨1, 2, 0, 1⟩), (24, ⟨3, 65536, 0, 4294967295⟩), (25, ⟨1, 2, 0, 1⟩), (26, ⟨5, 4, 0, 0⟩), (28, ⟨5, 16388, 0, 0⟩), (31, ⟨5, 51956, 0, 0⟩), (33, ⟨2, 6, 1, 65535⟩), (34, ⟨2, 6, 0, 65535⟩), (35, ⟨2, 8, 1, 65535⟩), (36, ⟨1, 4, 0, 1⟩), (37, ⟨1, 4, 0, 1⟩), (38, ⟨7, 118782, 0, 0⟩), (39, ⟨3, 6, 1, 4294967295⟩), (40, ⟨1, 4, 0, 1⟩), (41, ⟨1, 4, 0, 1⟩), (42, ⟨1, 4, 0, 1⟩)]
def ents : List (Int × Rule) → Nat → List MapEntry
  | [], _ => []
  | p :: t, i => ⟨.int .i64 p.1, p.2.val, i⟩ :: ents t (i + 1)
def ruleEs (n : Nat) : Array MapEntry := (ents (ruleL.take n) 0).toArray
def ruleIn (id : Int) : List (Int × Rule) → Option Rule
  | [] => none
  | p :: t => if id == p.1 then some p.2 else ruleIn id t
def ruleOf (id : Int) : Rule := (ruleIn id ruleL).getD ⟨0, 0, 0, 0⟩
theorem findNow_ents (id : Int) : ∀ (l : List (Int × Rule)) (i j : Nat), ∃ m, Instr.findNow (.int .i64) (.int .i64 id) (ents l i) j = some ((ruleIn id l).map fun r => (m, r.val))
  | [], _, _ => ⟨0, rfl⟩
  | p :: t, i, j => by
    obtain ⟨m, hm⟩ := findNow_ents id t (i + 1) (j + 1)
    by_cases h : id = p.1
    · refine ⟨j, ?_⟩
      simp [ents, Instr.findNow, Instr.sameNow, ruleIn, h]
    · refine ⟨m, ?_⟩
      have h' : (id == p.1) = false := by simpa using h
      simp only [ents, Instr.findNow, Instr.sameNow, ruleIn, h', if_true]
      simpa using hm
theorem setMap (W : World) (o o' : Obj) : ({ W.alloc o with heap := (W.alloc o).heap.setIfInBounds W.heap.size o' } : World) = W.alloc o' := by
  simp only [World.alloc]
  congr 1
  apply Array.ext'
  simp [Array.setIfInBounds, Array.toList_push]
theorem getMap (W : World) (o : Obj) : (W.alloc o).heap[W.heap.size]? = some o := heap_alloc_new W o
theorem run_insert (W : World) (es : Array MapEntry) (n : Nat) (k : Int) (v : Value) (hf : Instr.findNow (.int .i64) (.int .i64 k) es.toList 0 = some none) :
    (Instr.mapUpdate 73 (.map (some W.heap.size)) (.int .i64 k) v).run Try.prog (W.alloc (.map es n)) = .ok () (W.alloc (.map (es.push ⟨.int .i64 k, v, n⟩) (n + 1))) := by
  have hb := getMap W (.map es n)
  have hc : (Instr.checkKey false 10000 3 (.int .i64 k)).run Try.prog (W.alloc (.map es n)) = .ok () (W.alloc (.map es n)) := run_checkKey Try.underlying3 (show IsKey (.int .i64) (.int .i64 k) from rfl) false 9999
  have hk : (Instr.findKey 3 (.int .i64 k) es.toList).run Try.prog (W.alloc (.map es n)) = .ok none (W.alloc (.map es n)) := run_findKey Try.underlying3 hf
  have hs := setMap W (.map es n) (.map (es.push ⟨.int .i64 k, v, n⟩) (n + 1))
  simp only [Instr.mapUpdate, Sem.run_bind, run_underlying Try.underlying73, Result.andThen, getObj, setObj, Sem.run, hb, hc, hk, hs]
theorem run_rule (w : World) (B : Nat) (id : Int) (hb : w.heap[B]? = some (.map (ruleEs 27) 27)) :
    (Instr.lookup 73 (.map (some B)) (.int .i64 id) false).run Try.prog w = .ok (.agg #[.int .i64 (ruleOf id).shape, .int .i64 (ruleOf id).kinds, .int .u32 (ruleOf id).least, .int .u32 (ruleOf id).most]) w := by
  obtain ⟨m, hm⟩ := findNow_ents id ruleL 0 0
  have hf : Instr.findNow (.int .i64) (.int .i64 id) (ruleEs 27).toList 0 = some ((ruleIn id ruleL).map fun r => (m, r.val)) := hm
  have hc : (Instr.checkKey (ruleEs 27).isEmpty 10000 3 (.int .i64 id)).run Try.prog w = .ok () w := run_checkKey Try.underlying3 (show IsKey (.int .i64) (.int .i64 id) from rfl) _ 9999
  have hk := run_findKey (P := Try.prog) (w := w) Try.underlying3 hf
  have hz : (zeroValue 78).run Try.prog w = .ok (.agg #[.int .i64 0, .int .i64 0, .int .u32 0, .int .u32 0]) w := by kernel_rfl
  unfold ruleOf
  cases hr : ruleIn id ruleL with
  | none =>
    rw [hr] at hk
    simp only [Option.map_none] at hk
    simp [Instr.lookup, Sem.run_bind, run_underlying Try.underlying73, Result.andThen, getObj, Sem.run, hb, hc, hk, hz]
  | some r =>
    rw [hr] at hk
    simp only [Option.map_some] at hk
    simp [Instr.lookup, Sem.run_bind, run_underlying Try.underlying73, Result.andThen, getObj, Sem.run, hb, hc, hk, Rule.val]
set_option maxRecDepth 100000 in
theorem rules_t (w : World) : Calls Try.prog 40 #[] w fun e w' => ∃ B, B = w.heap.size ∧ e = .returned (.map (some B)) ∧ w' = w.alloc (.map (ruleEs 27) 27) := by
  have hmm := @run_makeMap Try.prog
  have u0 : (Instr.mapUpdate 73 (.map (some w.heap.size)) (.int .i64 1) (.agg #[.int .i64 1, .int .i64 65544, .int .u32 0, .int .u32 1])).run Try.prog (w.alloc (.map #[] 0)) = .ok () (w.alloc (.map (ruleEs 1) 1)) := (run_insert w #[] 0 1 _ (by kernel_rfl)).trans (congrArg (fun z => Result.ok () (w.alloc (.map z 1))) (show (#[] : Array MapEntry).push ⟨.int .i64 1, .agg #[.int .i64 1, .int .i64 65544, .int .u32 0, .int .u32 1], 0⟩ = ruleEs 1 from by kernel_rfl))
  have u1 : (Instr.mapUpdate 73 (.map (some w.heap.size)) (.int .i64 2) (.agg #[.int .i64 3, .int .i64 65544, .int .u32 0, .int .u32 4294967295])).run Try.prog (w.alloc (.map (ruleEs 1) 1)) = .ok () (w.alloc (.map (ruleEs 2) 2)) := (run_insert w (ruleEs 1) 1 2 _ (by kernel_rfl)).trans (congrArg (fun z => Result.ok () (w.alloc (.map z 2))) (show ((ruleEs 1) : Array MapEntry).push ⟨.int .i64 2, .agg #[.int .i64 3, .int .i64 65544, .int .u32 0, .int .u32 4294967295], 1⟩ = ruleEs 2 from by kernel_rfl))
  have u2 : (Instr.mapUpdate 73 (.map (some w.heap.size)) (.int .i64 3) (.agg #[.int .i64 5, .int .i64 65544, .int .u32 0, .int .u32 0])).run Try.prog (w.alloc (.map (ruleEs 2) 2)) = .ok () (w.alloc (.map (ruleEs 3) 3)) := (run_insert w (ruleEs 2) 2 3 _ (by kernel_rfl)).trans (congrArg (fun z => Result.ok () (w.alloc (.map z 3))) (show ((ruleEs 2) : Array MapEntry).push ⟨.int .i64 3, .agg #[.int .i64 5, .int .i64 65544, .int .u32 0, .int .u32 0], 2⟩ = ruleEs 3 from by kernel_rfl))
  have u3 : (Instr.mapUpdate 73 (.map (some w.heap.size)) (.int .i64 8) (.agg #[.int .i64 5, .int .i64 65544, .int .u32 0, .int .u32 0])).run Try.prog (w.alloc (.map (ruleEs 3) 3)) = .ok () (w.alloc (.map (ruleEs 4) 4)) := (run_insert w (ruleEs 3) 3 8 _ (by kernel_rfl)).trans (congrArg (fun z => Result.ok () (w.alloc (.map z 4))) (show ((ruleEs 3) : Array MapEntry).push ⟨.int .i64 8, .agg #[.int .i64 5, .int .i64 65544, .int .u32 0, .int .u32 0], 3⟩ = ruleEs 4 from by kernel_rfl))
  have u4 : (Instr.mapUpdate 73 (.map (some w.heap.size)) (.int .i64 9) (.agg #[.int .i64 6, .int .i64 65544, .int .u32 0, .int .u32 0])).run Try.prog (w.alloc (.map (ruleEs 4) 4)) = .ok () (w.alloc (.map (ruleEs 5) 5)) := (run_insert w (ruleEs 4) 4 9 _ (by kernel_rfl)).trans (congrArg (fun z => Result.ok () (w.alloc (.map z 5))) (show ((ruleEs 4) : Array MapEntry).push ⟨.int .i64 9, .agg #[.int .i64 6, .int .i64 65544, .int .u32 0, .int .u32 0], 4⟩ = ruleEs 5 from by kernel_rfl))
  have u5 : (Instr.mapUpdate 73 (.map (some w.heap.size)) (.int .i64 11) (.agg #[.int .i64 4, .int .i64 264, .int .u32 1, .int .u32 268435455])).run Try.prog (w.alloc (.map (ruleEs 5) 5)) = .ok () (w.alloc (.map (ruleEs 6) 6)) := (run_insert w (ruleEs 5) 5 11 _ (by kernel_rfl)).trans (congrArg (fun z => Result.ok () (w.alloc (.map z 6))) (show ((ruleEs 5) : Array MapEntry).push ⟨.int .i64 11, .agg #[.int .i64 4, .int .i64 264, .int .u32 1, .int .u32 268435455], 5⟩ = ruleEs 6 from by kernel_rfl))
  have u6 : (Instr.mapUpdate 73 (.map (some w.heap.size)) (.int .i64 17) (.agg #[.int .i64 3, .int .i64 16390, .int .u32 0, .int .u32 4294967295])).run Try.prog (w.alloc (.map (ruleEs 6) 6)) = .ok () (w.alloc (.map (ruleEs 7) 7)) := (run_insert w (ruleEs 6) 6 17 _ (by kernel_rfl)).trans (congrArg (fun z => Result.ok () (w.alloc (.map z 7))) (show ((ruleEs 6) : Array MapEntry).push ⟨.int .i64 17, .agg #[.int .i64 3, .int .i64 16390, .int .u32 0, .int .u32 4294967295], 6⟩ = ruleEs 7 from by kernel_rfl))
  have u7 : (Instr.mapUpdate 73 (.map (some w.heap.size)) (.int .i64 18) (.agg #[.int .i64 5, .int .i64 4, .int .u32 0, .int .u32 0])).run Try.prog (w.alloc (.map (ruleEs 7) 7)) = .ok () (w.alloc (.map (ruleEs 8) 8)) := (run_insert w (ruleEs 7) 7 18 _ (by kernel_rfl)).trans (congrArg (fun z => Result.ok () (w.alloc (.map z 8))) (show ((ruleEs 7) : Array MapEntry).push ⟨.int .i64 18, .agg #[.int .i64 5, .int .i64 4, .int .u32 0, .int .u32 0], 7⟩ = ruleEs 8 from by kernel_rfl))
  have u8 : (Instr.mapUpdate 73 (.map (some w.heap.size)) (.int .i64 19) (.agg #[.int .i64 2, .int .i64 4, .int .u32 0, .int .u32 65535])).run Try.prog (w.alloc (.map (ruleEs 8) 8)) = .ok () (w.alloc (.map (ruleEs 9) 9)) := (run_insert w (ruleEs 8) 8 19 _ (by kernel_rfl)).trans (congrArg (fun z => Result.ok () (w.alloc (.map z 9))) (show ((ruleEs 8) : Array MapEntry).push ⟨.int .i64 19, .agg #[.int .i64 2, .int .i64 4, .int .u32 0, .int .u32 65535], 8⟩ = ruleEs 9 from by kernel_rfl))
  have u9 : (Instr.mapUpdate 73 (.map (some w.heap.size)) (.int .i64 21) (.agg #[.int .i64 5, .int .i64 32774, .int .u32 0, .int .u32 0])).run Try.prog (w.alloc (.map (ruleEs 9) 9)) = .ok () (w.alloc (.map (ruleEs 10) 10)) := (run_insert w (ruleEs 9) 9 21 _ (by kernel_rfl)).trans (congrArg (fun z => Result.ok () (w.alloc (.map z 10))) (show ((ruleEs 9) : Array MapEntry).push ⟨.int .i64 21, .agg #[.int .i64 5, .int .i64 32774, .int .u32 0, .int .u32 0], 9⟩ = ruleEs 10 from by kernel_rfl))
  have u10 : (Instr.mapUpdate 73 (.map (some w.heap.size)) (.int .i64 22) (.agg #[.int .i64 6, .int .i64 32774, .int .u32 0, .int .u32 0])).run Try.prog (w.alloc (.map (ruleEs 10) 10)) = .ok () (w.alloc (.map (ruleEs 11) 11)) := (run_insert w (ruleEs 10) 10 22 _ (by kernel_rfl)).trans (congrArg (fun z => Result.ok () (w.alloc (.map z 11))) (show ((ruleEs 10) : Array MapEntry).push ⟨.int .i64 22, .agg #[.int .i64 6, .int .i64 32774, .int .u32 0, .int .u32 0], 10⟩ = ruleEs 11 from by kernel_rfl))
  have u11 : (Instr.mapUpdate 73 (.map (some w.heap.size)) (.int .i64 23) (.agg #[.int .i64 1, .int .i64 2, .int .u32 0, .int .u32 1])).run Try.prog (w.alloc (.map (ruleEs 11) 11)) = .ok () (w.alloc (.map (ruleEs 12) 12)) := (run_insert w (ruleEs 11) 11 23 _ (by kernel_rfl)).trans (congrArg (fun z => Result.ok () (w.alloc (.map z 12))) (show ((ruleEs 11) : Array MapEntry).push ⟨.int .i64 23, .agg #[.int .i64 1, .int .i64 2, .int .u32 0, .int .u32 1], 11⟩ = ruleEs 12 from by kernel_rfl))
  have u12 : (Instr.mapUpdate 73 (.map (some w.heap.size)) (.int .i64 24) (.agg #[.int .i64 3, .int .i64 65536, .int .u32 0, .int .u32 4294967295])).run Try.prog (w.alloc (.map (ruleEs 12) 12)) = .ok () (w.alloc (.map (ruleEs 13) 13)) := (run_insert w (ruleEs 12) 12 24 _ (by kernel_rfl)).trans (congrArg (fun z => Result.ok () (w.alloc (.map z 13))) (show ((ruleEs 12) : Array MapEntry).push ⟨.int .i64 24, .agg #[.int .i64 3, .int .i64 65536, .int .u32 0, .int .u32 4294967295], 12⟩ = ruleEs 13 from by kernel_rfl))
  have u13 : (Instr.mapUpdate 73 (.map (some w.heap.size)) (.int .i64 25) (.agg #[.int .i64 1, .int .i64 2, .int .u32 0, .int .u32 1])).run Try.prog (w.alloc (.map (ruleEs 13) 13)) = .ok () (w.alloc (.map (ruleEs 14) 14)) := (run_insert w (ruleEs 13) 13 25 _ (by kernel_rfl)).trans (congrArg (fun z => Result.ok () (w.alloc (.map z 14))) (show ((ruleEs 13) : Array MapEntry).push ⟨.int .i64 25, .agg #[.int .i64 1, .int .i64 2, .int .u32 0, .int .u32 1], 13⟩ = ruleEs 14 from by kernel_rfl))
  have u14 : (Instr.mapUpdate 73 (.map (some w.heap.size)) (.int .i64 26) (.agg #[.int .i64 5, .int .i64 4, .int .u32 0, .int .u32 0])).run Try.prog (w.alloc (.map (ruleEs 14) 14)) = .ok () (w.alloc (.map (ruleEs 15) 15)) := (run_insert w (ruleEs 14) 14 26 _ (by kernel_rfl)).trans (congrArg (fun z => Result.ok () (w.alloc (.map z 15))) (show ((ruleEs 14) : Array MapEntry).push ⟨.int .i64 26, .agg #[.int .i64 5, .int .i64 4, .int .u32 0, .int .u32 0], 14⟩ = ruleEs 15 from by kernel_rfl))
  have u15 : (Instr.mapUpdate 73 (.map (some w.heap.size)) (.int .i64 28) (.agg #[.int .i64 5, .int .i64 16388, .int .u32 0, .int .u32 0])).run Try.prog (w.alloc (.map (ruleEs 15) 15)) = .ok () (w.alloc (.map (ruleEs 16) 16)) := (run_insert w (ruleEs 15) 15 28 _ (by kernel_rfl)).trans (congrArg (fun z => Result.ok () (w.alloc (.map z 16))) (show ((ruleEs 15) : Array MapEntry).push ⟨.int .i64 28, .agg #[.int .i64 5, .int .i64 16388, .int .u32 0, .int .u32 0], 15⟩ = ruleEs 16 from by kernel_rfl))
  have u16 : (Instr.mapUpdate 73 (.map (some w.heap.size)) (.int .i64 31) (.agg #[.int .i64 5, .int .i64 51956, .int .u32 0, .int .u32 0])).run Try.prog (w.alloc (.map (ruleEs 16) 16)) = .ok () (w.alloc (.map (ruleEs 17) 17)) := (run_insert w (ruleEs 16) 16 31 _ (by kernel_rfl)).trans (congrArg (fun z => Result.ok () (w.alloc (.map z 17))) (show ((ruleEs 16) : Array MapEntry).push ⟨.int .i64 31, .agg #[.int .i64 5, .int .i64 51956, .int .u32 0, .int .u32 0], 16⟩ = ruleEs 17 from by kernel_rfl))
  have u17 : (Instr.mapUpdate 73 (.map (some w.heap.size)) (.int .i64 33) (.agg #[.int .i64 2, .int .i64 6, .int .u32 1, .int .u32 65535])).run Try.prog (w.alloc (.map (ruleEs 17) 17)) = .ok () (w.alloc (.map (ruleEs 18) 18)) := (run_insert w (ruleEs 17) 17 33 _ (by kernel_rfl)).trans (congrArg (fun z => Result.ok () (w.alloc (.map z 18))) (show ((ruleEs 17) : Array MapEntry).push ⟨.int .i64 33, .agg #[.int .i64 2, .int .i64 6, .int .u32 1, .int .u32 65535], 17⟩ = ruleEs 18 from by kernel_rfl))
  have u18 : (Instr.mapUpdate 73 (.map (some w.heap.size)) (.int .i64 34) (.agg #[.int .i64 2, .int .i64 6, .int .u32 0, .int .u32 65535])).run Try.prog (w.alloc (.map (ruleEs 18) 18)) = .ok () (w.alloc (.map (ruleEs 19) 19)) := (run_insert w (ruleEs 18) 18 34 _ (by kernel_rfl)).trans (congrArg (fun z => Result.ok () (w.alloc (.map z 19))) (show ((ruleEs 18) : Array MapEntry).push ⟨.int .i64 34, .agg #[.int .i64 2, .int .i64 6, .int .u32 0, .int .u32 65535], 18⟩ = ruleEs 19 from by kernel_rfl))
  have u19 : (Instr.mapUpdate 73 (.map (some w.heap.size)) (.int .i64 35) (.agg #[.int .i64 2, .int .i64 8, .int .u32 1, .int .u32 65535])).run Try.prog (w.alloc (.map (ruleEs 19) 19)) = .ok () (w.alloc (.map (ruleEs 20) 20)) := (run_insert w (ruleEs 19) 19 35 _ (by kernel_rfl)).trans (congrArg (fun z => Result.ok () (w.alloc (.map z 20))) (show ((ruleEs 19) : Array MapEntry).push ⟨.int .i64 35, .agg #[.int .i64 2, .int .i64 8, .int .u32 1, .int .u32 65535], 19⟩ = ruleEs 20 from by kernel_rfl))
  have u20 : (Instr.mapUpdate 73 (.map (some w.heap.size)) (.int .i64 36) (.agg #[.int .i64 1, .int .i64 4, .int .u32 0, .int .u32 1])).run Try.prog (w.alloc (.map (ruleEs 20) 20)) = .ok () (w.alloc (.map (ruleEs 21) 21)) := (run_insert w (ruleEs 20) 20 36 _ (by kernel_rfl)).trans (congrArg (fun z => Result.ok () (w.alloc (.map z 21))) (show ((ruleEs 20) : Array MapEntry).push ⟨.int .i64 36, .agg #[.int .i64 1, .int .i64 4, .int .u32 0, .int .u32 1], 20⟩ = ruleEs 21 from by kernel_rfl))
  have u21 : (Instr.mapUpdate 73 (.map (some w.heap.size)) (.int .i64 37) (.agg #[.int .i64 1, .int .i64 4, .int .u32 0, .int .u32 1])).run Try.prog (w.alloc (.map (ruleEs 21) 21)) = .ok () (w.alloc (.map (ruleEs 22) 22)) := (run_insert w (ruleEs 21) 21 37 _ (by kernel_rfl)).trans (congrArg (fun z => Result.ok () (w.alloc (.map z 22))) (show ((ruleEs 21) : Array MapEntry).push ⟨.int .i64 37, .agg #[.int .i64 1, .int .i64 4, .int .u32 0, .int .u32 1], 21⟩ = ruleEs 22 from by kernel_rfl))
  have u22 : (Instr.mapUpdate 73 (.map (some w.heap.size)) (.int .i64 38) (.agg #[.int .i64 7, .int .i64 118782, .int .u32 0, .int .u32 0])).run Try.prog (w.alloc (.map (ruleEs 22) 22)) = .ok () (w.alloc (.map (ruleEs 23) 23)) := (run_insert w (ruleEs 22) 22 38 _ (by kernel_rfl)).trans (congrArg (fun z => Result.ok () (w.alloc (.map z 23))) (show ((ruleEs 22) : Array MapEntry).push ⟨.int .i64 38, .agg #[.int .i64 7, .int .i64 118782, .int .u32 0, .int .u32 0], 22⟩ = ruleEs 23 from by kernel_rfl))
  have u23 : (Instr.mapUpdate 73 (.map (some w.heap.size)) (.int .i64 39) (.agg #[.int .i64 3, .int .i64 6, .int .u32 1, .int .u32 4294967295])).run Try.prog (w.alloc (.map (ruleEs 23) 23)) = .ok () (w.alloc (.map (ruleEs 24) 24)) := (run_insert w (ruleEs 23) 23 39 _ (by kernel_rfl)).trans (congrArg (fun z => Result.ok () (w.alloc (.map z 24))) (show ((ruleEs 23) : Array MapEntry).push ⟨.int .i64 39, .agg #[.int .i64 3, .int .i64 6, .int .u32 1, .int .u32 4294967295], 23⟩ = ruleEs 24 from by kernel_rfl))
  have u24 : (Instr.mapUpdate 73 (.map (some w.heap.size)) (.int .i64 40) (.agg #[.int .i64 1, .int .i64 4, .int .u32 0, .int .u32 1])).run Try.prog (w.alloc (.map (ruleEs 24) 24)) = .ok () (w.alloc (.map (ruleEs 25) 25)) := (run_insert w (ruleEs 24) 24 40 _ (by kernel_rfl)).trans (congrArg (fun z => Result.ok () (w.alloc (.map z 25))) (show ((ruleEs 24) : Array MapEntry).push ⟨.int .i64 40, .agg #[.int .i64 1, .int .i64 4, .int .u32 0, .int .u32 1], 24⟩ = ruleEs 25 from by kernel_rfl))
  have u25 : (Instr.mapUpdate 73 (.map (some w.heap.size)) (.int .i64 41) (.agg #[.int .i64 1, .int .i64 4, .int .u32 0, .int .u32 1])).run Try.prog (w.alloc (.map (ruleEs 25) 25)) = .ok () (w.alloc (.map (ruleEs 26) 26)) := (run_insert w (ruleEs 25) 25 41 _ (by kernel_rfl)).trans (congrArg (fun z => Result.ok () (w.alloc (.map z 26))) (show ((ruleEs 25) : Array MapEntry).push ⟨.int .i64 41, .agg #[.int .i64 1, .int .i64 4, .int .u32 0, .int .u32 1], 25⟩ = ruleEs 26 from by kernel_rfl))
  have u26 : (Instr.mapUpdate 73 (.map (some w.heap.size)) (.int .i64 42) (.agg #[.int .i64 1, .int .i64 4, .int .u32 0, .int .u32 1])).run Try.prog (w.alloc (.map (ruleEs 26) 26)) = .ok () (w.alloc (.map (ruleEs 27) 27)) := (run_insert w (ruleEs 26) 26 42 _ (by kernel_rfl)).trans (congrArg (fun z => Result.ok () (w.alloc (.map z 27))) (show ((ruleEs 26) : Array MapEntry).push ⟨.int .i64 42, .agg #[.int .i64 1, .int .i64 4, .int .u32 0, .int .u32 1], 26⟩ = ruleEs 27 from by kernel_rfl))
  go_enter Try.func40, Try.ntmps40
  go_wp2
  go_ret
  exact ⟨_, rfl, rfl, rfl⟩
end Go.Proofs.Ytnbgmpfldoaodab
