/- control.says, known. -/
import Derived.Test.YtnbgmpfldoaodabAckC
import Derived.Maps.Own
import Derived.MapKept
namespace Go.Proofs.Ytnbgmpfldoaodab
open Go.RowKit Go.Sort
open Go.RowKit Go.MapKept
set_option maxHeartbeats 2000000
set_option linter.unusedVariables false
set_option linter.unusedSimpArgs false
def sayEs : Array MapEntry := #[⟨.int .i64 12, .func (.func 58) #[.agg #[]] #[], 0⟩, ⟨.int .i64 13, .func (.func 58) #[.agg #[]] #[], 1⟩, ⟨.int .i64 14, .func (.func 59) #[.agg #[]] #[], 2⟩, ⟨.int .i64 15, .func (.func 59) #[.agg #[]] #[], 3⟩]
theorem run_insertF (W : World) (es : Array MapEntry) (n : Nat) (k : Int) (v : Value) (hf : Instr.findNow (.int .i64) (.int .i64 k) es.toList 0 = some none) :
    (Instr.mapUpdate 97 (.map (some W.heap.size)) (.int .i64 k) v).run Try.prog (W.alloc (.map es n)) = .ok () (W.alloc (.map (es.push ⟨.int .i64 k, v, n⟩) (n + 1))) := by
  have hb := getMap W (.map es n)
  have hc : (Instr.checkKey false 10000 3 (.int .i64 k)).run Try.prog (W.alloc (.map es n)) = .ok () (W.alloc (.map es n)) := run_checkKey Try.underlying3 (show IsKey (.int .i64) (.int .i64 k) from rfl) false 9999
  have hk : (Instr.findKey 3 (.int .i64 k) es.toList).run Try.prog (W.alloc (.map es n)) = .ok none (W.alloc (.map es n)) := run_findKey Try.underlying3 hf
  have hs := setMap W (.map es n) (.map (es.push ⟨.int .i64 k, v, n⟩) (n + 1))
  simp only [Instr.mapUpdate, Sem.run_bind, run_underlying Try.underlying97, Result.andThen, getObj, setObj, Sem.run, hb, hc, hk, hs]
theorem run_lookF (w : World) (B : Nat) (es : Array MapEntry) (n : Nat) (k : Int) (m : Nat) (v : Value) (hb : w.heap[B]? = some (.map es n)) (hf : Instr.findNow (.int .i64) (.int .i64 k) es.toList 0 = some (some (m, v))) :
    (Instr.lookup 97 (.map (some B)) (.int .i64 k) true).run Try.prog w = .ok (.tuple #[v, .bool true]) w := by
  have hc : (Instr.checkKey es.isEmpty 10000 3 (.int .i64 k)).run Try.prog w = .ok () w := run_checkKey Try.underlying3 (show IsKey (.int .i64) (.int .i64 k) from rfl) _ 9999
  have hk := run_findKey (P := Try.prog) (w := w) Try.underlying3 hf
  simp [Instr.lookup, Sem.run_bind, run_underlying Try.underlying97, Result.andThen, getObj, Sem.run, hb, hc, hk]
set_option maxRecDepth 100000 in
theorem says12_t (v : Int) (w : World) : Calls Try.prog 37 #[.int .i64 v, .int .i64 12] w fun e w' => e = .returned (.tuple #[.bool false, .bool true]) ∧ Below w.heap.size w w' := by
  have hmm := @run_makeMap Try.prog
  have hsz : (w.alloc (.cells #[] 96)).heap.size = w.heap.size + 1 := by simp
  have u0 := run_insertF (w.alloc (.cells #[] 96)) #[] 0 12 (.func (.func 58) #[.agg #[]] #[]) (by kernel_rfl)
  rw [hsz] at u0
  have u1 := run_insertF (w.alloc (.cells #[] 96)) #[⟨.int .i64 12, .func (.func 58) #[.agg #[]] #[], 0⟩] 1 13 (.func (.func 58) #[.agg #[]] #[]) (by kernel_rfl)
  rw [hsz] at u1
  have u2 := run_insertF (w.alloc (.cells #[] 96)) #[⟨.int .i64 12, .func (.func 58) #[.agg #[]] #[], 0⟩, ⟨.int .i64 13, .func (.func 58) #[.agg #[]] #[], 1⟩] 2 14 (.func (.func 59) #[.agg #[]] #[]) (by kernel_rfl)
  rw [hsz] at u2
  have u3 := run_insertF (w.alloc (.cells #[] 96)) #[⟨.int .i64 12, .func (.func 58) #[.agg #[]] #[], 0⟩, ⟨.int .i64 13, .func (.func 58) #[.agg #[]] #[], 1⟩, ⟨.int .i64 14, .func (.func 59) #[.agg #[]] #[], 2⟩] 3 15 (.func (.func 59) #[.agg #[]] #[]) (by kernel_rfl)
  rw [hsz] at u3
  have hl := run_lookF ((w.alloc (.cells #[] 96)).alloc (.map #[⟨.int .i64 12, .func (.func 58) #[.agg #[]] #[], 0⟩, ⟨.int .i64 13, .func (.func 58) #[.agg #[]] #[], 1⟩, ⟨.int .i64 14, .func (.func 59) #[.agg #[]] #[], 2⟩, ⟨.int .i64 15, .func (.func 59) #[.agg #[]] #[], 3⟩] 4)) (w.heap.size + 1) _ 4 12 0 (.func (.func 58) #[.agg #[]] #[]) (heap_alloc2_new w _ _) (by kernel_rfl)
  go_enter Try.func37, Try.ntmps37
  go_wp2
  go_ret2
  exact ⟨by first | rfl | simp, by repeat (first | exact Below.refl _ _ | (refine Below.alloc ?_ (by simp <;> omega) _))⟩
set_option maxRecDepth 100000 in
theorem says13_t (v : Int) (w : World) : Calls Try.prog 37 #[.int .i64 v, .int .i64 13] w fun e w' => e = .returned (.tuple #[.bool false, .bool true]) ∧ Below w.heap.size w w' := by
  have hmm := @run_makeMap Try.prog
  have hsz : (w.alloc (.cells #[] 96)).heap.size = w.heap.size + 1 := by simp
  have u0 := run_insertF (w.alloc (.cells #[] 96)) #[] 0 12 (.func (.func 58) #[.agg #[]] #[]) (by kernel_rfl)
  rw [hsz] at u0
  have u1 := run_insertF (w.alloc (.cells #[] 96)) #[⟨.int .i64 12, .func (.func 58) #[.agg #[]] #[], 0⟩] 1 13 (.func (.func 58) #[.agg #[]] #[]) (by kernel_rfl)
  rw [hsz] at u1
  have u2 := run_insertF (w.alloc (.cells #[] 96)) #[⟨.int .i64 12, .func (.func 58) #[.agg #[]] #[], 0⟩, ⟨.int .i64 13, .func (.func 58) #[.agg #[]] #[], 1⟩] 2 14 (.func (.func 59) #[.agg #[]] #[]) (by kernel_rfl)
  rw [hsz] at u2
  have u3 := run_insertF (w.alloc (.cells #[] 96)) #[⟨.int .i64 12, .func (.func 58) #[.agg #[]] #[], 0⟩, ⟨.int .i64 13, .func (.func 58) #[.agg #[]] #[], 1⟩, ⟨.int .i64 14, .func (.func 59) #[.agg #[]] #[], 2⟩] 3 15 (.func (.func 59) #[.agg #[]] #[]) (by kernel_rfl)
  rw [hsz] at u3
  have hl := run_lookF ((w.alloc (.cells #[] 96)).alloc (.map #[⟨.int .i64 12, .func (.func 58) #[.agg #[]] #[], 0⟩, ⟨.int .i64 13, .func (.func 58) #[.agg #[]] #[], 1⟩, ⟨.int .i64 14, .func (.func 59) #[.agg #[]] #[], 2⟩, ⟨.int .i64 15, .func (.func 59) #[.agg #[]] #[], 3⟩] 4)) (w.heap.size + 1) _ 4 13 1 (.func (.func 58) #[.agg #[]] #[]) (heap_alloc2_new w _ _) (by kernel_rfl)
  go_enter Try.func37, Try.ntmps37
  go_wp2
  go_ret2
  exact ⟨by first | rfl | simp, by repeat (first | exact Below.refl _ _ | (refine Below.alloc ?_ (by simp <;> omega) _))⟩
set_option maxRecDepth 100000 in
theorem says14_4_t (v : Int) (h5 : (v == 5) = false) (w : World) : Calls Try.prog 37 #[.int .i64 v, .int .i64 14] w fun e w' => e = .returned (.tuple #[.bool false, .bool true]) ∧ Below w.heap.size w w' := by
  have hmm := @run_makeMap Try.prog
  have hsz : (w.alloc (.cells #[] 96)).heap.size = w.heap.size + 1 := by simp
  have u0 := run_insertF (w.alloc (.cells #[] 96)) #[] 0 12 (.func (.func 58) #[.agg #[]] #[]) (by kernel_rfl)
  rw [hsz] at u0
  have u1 := run_insertF (w.alloc (.cells #[] 96)) #[⟨.int .i64 12, .func (.func 58) #[.agg #[]] #[], 0⟩] 1 13 (.func (.func 58) #[.agg #[]] #[]) (by kernel_rfl)
  rw [hsz] at u1
  have u2 := run_insertF (w.alloc (.cells #[] 96)) #[⟨.int .i64 12, .func (.func 58) #[.agg #[]] #[], 0⟩, ⟨.int .i64 13, .func (.func 58) #[.agg #[]] #[], 1⟩] 2 14 (.func (.func 59) #[.agg #[]] #[]) (by kernel_rfl)
  rw [hsz] at u2
  have u3 := run_insertF (w.alloc (.cells #[] 96)) #[⟨.int .i64 12, .func (.func 58) #[.agg #[]] #[], 0⟩, ⟨.int .i64 13, .func (.func 58) #[.agg #[]] #[], 1⟩, ⟨.int .i64 14, .func (.func 59) #[.agg #[]] #[], 2⟩] 3 15 (.func (.func 59) #[.agg #[]] #[]) (by kernel_rfl)
  rw [hsz] at u3
  have hl := run_lookF ((w.alloc (.cells #[] 96)).alloc (.map #[⟨.int .i64 12, .func (.func 58) #[.agg #[]] #[], 0⟩, ⟨.int .i64 13, .func (.func 58) #[.agg #[]] #[], 1⟩, ⟨.int .i64 14, .func (.func 59) #[.agg #[]] #[], 2⟩, ⟨.int .i64 15, .func (.func 59) #[.agg #[]] #[], 3⟩] 4)) (w.heap.size + 1) _ 4 14 2 (.func (.func 59) #[.agg #[]] #[]) (heap_alloc2_new w _ _) (by kernel_rfl)
  go_enter Try.func37, Try.ntmps37
  go_wp2
  go_ret2
  exact ⟨by first | rfl | simp, by repeat (first | exact Below.refl _ _ | (refine Below.alloc ?_ (by simp <;> omega) _))⟩
set_option maxRecDepth 100000 in
theorem says14_5_t (v : Int) (h5 : (v == 5) = true) (w : World) : Calls Try.prog 37 #[.int .i64 v, .int .i64 14] w fun e w' => e = .returned (.tuple #[.bool true, .bool true]) ∧ Below w.heap.size w w' := by
  have hmm := @run_makeMap Try.prog
  have hsz : (w.alloc (.cells #[] 96)).heap.size = w.heap.size + 1 := by simp
  have u0 := run_insertF (w.alloc (.cells #[] 96)) #[] 0 12 (.func (.func 58) #[.agg #[]] #[]) (by kernel_rfl)
  rw [hsz] at u0
  have u1 := run_insertF (w.alloc (.cells #[] 96)) #[⟨.int .i64 12, .func (.func 58) #[.agg #[]] #[], 0⟩] 1 13 (.func (.func 58) #[.agg #[]] #[]) (by kernel_rfl)
  rw [hsz] at u1
  have u2 := run_insertF (w.alloc (.cells #[] 96)) #[⟨.int .i64 12, .func (.func 58) #[.agg #[]] #[], 0⟩, ⟨.int .i64 13, .func (.func 58) #[.agg #[]] #[], 1⟩] 2 14 (.func (.func 59) #[.agg #[]] #[]) (by kernel_rfl)
  rw [hsz] at u2
  have u3 := run_insertF (w.alloc (.cells #[] 96)) #[⟨.int .i64 12, .func (.func 58) #[.agg #[]] #[], 0⟩, ⟨.int .i64 13, .func (.func 58) #[.agg #[]] #[], 1⟩, ⟨.int .i64 14, .func (.func 59) #[.agg #[]] #[], 2⟩] 3 15 (.func (.func 59) #[.agg #[]] #[]) (by kernel_rfl)
  rw [hsz] at u3
  have hl := run_lookF ((w.alloc (.cells #[] 96)).alloc (.map #[⟨.int .i64 12, .func (.func 58) #[.agg #[]] #[], 0⟩, ⟨.int .i64 13, .func (.func 58) #[.agg #[]] #[], 1⟩, ⟨.int .i64 14, .func (.func 59) #[.agg #[]] #[], 2⟩, ⟨.int .i64 15, .func (.func 59) #[.agg #[]] #[], 3⟩] 4)) (w.heap.size + 1) _ 4 14 2 (.func (.func 59) #[.agg #[]] #[]) (heap_alloc2_new w _ _) (by kernel_rfl)
  go_enter Try.func37, Try.ntmps37
  go_wp2
  go_ret2
  exact ⟨by first | rfl | simp, by repeat (first | exact Below.refl _ _ | (refine Below.alloc ?_ (by simp <;> omega) _))⟩
set_option maxRecDepth 100000 in
theorem says15_4_t (v : Int) (h5 : (v == 5) = false) (w : World) : Calls Try.prog 37 #[.int .i64 v, .int .i64 15] w fun e w' => e = .returned (.tuple #[.bool false, .bool true]) ∧ Below w.heap.size w w' := by
  have hmm := @run_makeMap Try.prog
  have hsz : (w.alloc (.cells #[] 96)).heap.size = w.heap.size + 1 := by simp
  have u0 := run_insertF (w.alloc (.cells #[] 96)) #[] 0 12 (.func (.func 58) #[.agg #[]] #[]) (by kernel_rfl)
  rw [hsz] at u0
  have u1 := run_insertF (w.alloc (.cells #[] 96)) #[⟨.int .i64 12, .func (.func 58) #[.agg #[]] #[], 0⟩] 1 13 (.func (.func 58) #[.agg #[]] #[]) (by kernel_rfl)
  rw [hsz] at u1
  have u2 := run_insertF (w.alloc (.cells #[] 96)) #[⟨.int .i64 12, .func (.func 58) #[.agg #[]] #[], 0⟩, ⟨.int .i64 13, .func (.func 58) #[.agg #[]] #[], 1⟩] 2 14 (.func (.func 59) #[.agg #[]] #[]) (by kernel_rfl)
  rw [hsz] at u2
  have u3 := run_insertF (w.alloc (.cells #[] 96)) #[⟨.int .i64 12, .func (.func 58) #[.agg #[]] #[], 0⟩, ⟨.int .i64 13, .func (.func 58) #[.agg #[]] #[], 1⟩, ⟨.int .i64 14, .func (.func 59) #[.agg #[]] #[], 2⟩] 3 15 (.func (.func 59) #[.agg #[]] #[]) (by kernel_rfl)
  rw [hsz] at u3
  have hl := run_lookF ((w.alloc (.cells #[] 96)).alloc (.map #[⟨.int .i64 12, .func (.func 58) #[.agg #[]] #[], 0⟩, ⟨.int .i64 13, .func (.func 58) #[.agg #[]] #[], 1⟩, ⟨.int .i64 14, .func (.func 59) #[.agg #[]] #[], 2⟩, ⟨.int .i64 15, .func (.func 59) #[.agg #[]] #[], 3⟩] 4)) (w.heap.size + 1) _ 4 15 3 (.func (.func 59) #[.agg #[]] #[]) (heap_alloc2_new w _ _) (by kernel_rfl)
  go_enter Try.func37, Try.ntmps37
  go_wp2
  go_ret2
  exact ⟨by first | rfl | simp, by repeat (first | exact Below.refl _ _ | (refine Below.alloc ?_ (by simp <;> omega) _))⟩
set_option maxRecDepth 100000 in
theorem says15_5_t (v : Int) (h5 : (v == 5) = true) (w : World) : Calls Try.prog 37 #[.int .i64 v, .int .i64 15] w fun e w' => e = .returned (.tuple #[.bool true, .bool true]) ∧ Below w.heap.size w w' := by
  have hmm := @run_makeMap Try.prog
  have hsz : (w.alloc (.cells #[] 96)).heap.size = w.heap.size + 1 := by simp
  have u0 := run_insertF (w.alloc (.cells #[] 96)) #[] 0 12 (.func (.func 58) #[.agg #[]] #[]) (by kernel_rfl)
  rw [hsz] at u0
  have u1 := run_insertF (w.alloc (.cells #[] 96)) #[⟨.int .i64 12, .func (.func 58) #[.agg #[]] #[], 0⟩] 1 13 (.func (.func 58) #[.agg #[]] #[]) (by kernel_rfl)
  rw [hsz] at u1
  have u2 := run_insertF (w.alloc (.cells #[] 96)) #[⟨.int .i64 12, .func (.func 58) #[.agg #[]] #[], 0⟩, ⟨.int .i64 13, .func (.func 58) #[.agg #[]] #[], 1⟩] 2 14 (.func (.func 59) #[.agg #[]] #[]) (by kernel_rfl)
  rw [hsz] at u2
  have u3 := run_insertF (w.alloc (.cells #[] 96)) #[⟨.int .i64 12, .func (.func 58) #[.agg #[]] #[], 0⟩, ⟨.int .i64 13, .func (.func 58) #[.agg #[]] #[], 1⟩, ⟨.int .i64 14, .func (.func 59) #[.agg #[]] #[], 2⟩] 3 15 (.func (.func 59) #[.agg #[]] #[]) (by kernel_rfl)
  rw [hsz] at u3
  have hl := run_lookF ((w.alloc (.cells #[] 96)).alloc (.map #[⟨.int .i64 12, .func (.func 58) #[.agg #[]] #[], 0⟩, ⟨.int .i64 13, .func (.func 58) #[.agg #[]] #[], 1⟩, ⟨.int .i64 14, .func (.func 59) #[.agg #[]] #[], 2⟩, ⟨.int .i64 15, .func (.func 59) #[.agg #[]] #[], 3⟩] 4)) (w.heap.size + 1) _ 4 15 3 (.func (.func 59) #[.agg #[]] #[]) (heap_alloc2_new w _ _) (by kernel_rfl)
  go_enter Try.func37, Try.ntmps37
  go_wp2
  go_ret2
  exact ⟨by first | rfl | simp, by repeat (first | exact Below.refl _ _ | (refine Below.alloc ?_ (by simp <;> omega) _))⟩
theorem findNow_other (k : Int) (h1 : k ≠ 12) (h2 : k ≠ 13) (h3 : k ≠ 14) (h4 : k ≠ 15) : Instr.findNow (.int .i64) (.int .i64 k) (#[⟨.int .i64 12, .func (.func 58) #[.agg #[]] #[], 0⟩, ⟨.int .i64 13, .func (.func 58) #[.agg #[]] #[], 1⟩, ⟨.int .i64 14, .func (.func 59) #[.agg #[]] #[], 2⟩, ⟨.int .i64 15, .func (.func 59) #[.agg #[]] #[], 3⟩] : Array MapEntry).toList 0 = some none := by
  have e1 : (k == 12) = false := by simpa using h1
  have e2 : (k == 13) = false := by simpa using h2
  have e3 : (k == 14) = false := by simpa using h3
  have e4 : (k == 15) = false := by simpa using h4
  simp [Instr.findNow, Instr.sameNow]
  rw [e1, e2, e3, e4]
theorem run_lookF0 (w : World) (B : Nat) (es : Array MapEntry) (n : Nat) (k : Int) (hb : w.heap[B]? = some (.map es n)) (hf : Instr.findNow (.int .i64) (.int .i64 k) es.toList 0 = some none) :
    (Instr.lookup 97 (.map (some B)) (.int .i64 k) true).run Try.prog w = .ok (.tuple #[.nilFunc, .bool false]) w := by
  have hc : (Instr.checkKey es.isEmpty 10000 3 (.int .i64 k)).run Try.prog w = .ok () w := run_checkKey Try.underlying3 (show IsKey (.int .i64) (.int .i64 k) from rfl) _ 9999
  have hk := run_findKey (P := Try.prog) (w := w) Try.underlying3 hf
  have hz : (zeroValue 58).run Try.prog w = .ok .nilFunc w := by kernel_rfl
  simp [Instr.lookup, Sem.run_bind, run_underlying Try.underlying97, Result.andThen, getObj, Sem.run, hb, hc, hk, hz]
set_option maxRecDepth 100000 in
theorem says0_t (v k : Int) (h1 : k ≠ 12) (h2 : k ≠ 13) (h3 : k ≠ 14) (h4 : k ≠ 15) (w : World) : Calls Try.prog 37 #[.int .i64 v, .int .i64 k] w fun e w' => e = .returned (.tuple #[.bool false, .bool false]) ∧ Below w.heap.size w w' := by
  have hmm := @run_makeMap Try.prog
  have hsz : (w.alloc (.cells #[] 96)).heap.size = w.heap.size + 1 := by simp
  have u0 := run_insertF (w.alloc (.cells #[] 96)) #[] 0 12 (.func (.func 58) #[.agg #[]] #[]) (by kernel_rfl)
  rw [hsz] at u0
  have u1 := run_insertF (w.alloc (.cells #[] 96)) #[⟨.int .i64 12, .func (.func 58) #[.agg #[]] #[], 0⟩] 1 13 (.func (.func 58) #[.agg #[]] #[]) (by kernel_rfl)
  rw [hsz] at u1
  have u2 := run_insertF (w.alloc (.cells #[] 96)) #[⟨.int .i64 12, .func (.func 58) #[.agg #[]] #[], 0⟩, ⟨.int .i64 13, .func (.func 58) #[.agg #[]] #[], 1⟩] 2 14 (.func (.func 59) #[.agg #[]] #[]) (by kernel_rfl)
  rw [hsz] at u2
  have u3 := run_insertF (w.alloc (.cells #[] 96)) #[⟨.int .i64 12, .func (.func 58) #[.agg #[]] #[], 0⟩, ⟨.int .i64 13, .func (.func 58) #[.agg #[]] #[], 1⟩, ⟨.int .i64 14, .func (.func 59) #[.agg #[]] #[], 2⟩] 3 15 (.func (.func 59) #[.agg #[]] #[]) (by kernel_rfl)
  rw [hsz] at u3
  have hl := run_lookF0 ((w.alloc (.cells #[] 96)).alloc (.map #[⟨.int .i64 12, .func (.func 58) #[.agg #[]] #[], 0⟩, ⟨.int .i64 13, .func (.func 58) #[.agg #[]] #[], 1⟩, ⟨.int .i64 14, .func (.func 59) #[.agg #[]] #[], 2⟩, ⟨.int .i64 15, .func (.func 59) #[.agg #[]] #[], 3⟩] 4)) (w.heap.size + 1) _ 4 k (heap_alloc2_new w _ _) (findNow_other k h1 h2 h3 h4)
  clear h1 h2 h3 h4
  go_enter Try.func37, Try.ntmps37
  go_wp2
  go_ret2
  exact ⟨by first | rfl | simp, by repeat (first | exact Below.refl _ _ | (refine Below.alloc ?_ (by simp <;> omega) _))⟩
def saysB (v k : Int) : Bool × Bool := if k = 12 then (false, true) else if k = 13 then (false, true) else if k = 14 then (v == 5, true) else if k = 15 then (v == 5, true) else (false, false)
theorem says_t (v k : Int) (w : World) : Calls Try.prog 37 #[.int .i64 v, .int .i64 k] w fun e w' => e = .returned (.tuple #[.bool (saysB v k).1, .bool (saysB v k).2]) ∧ Below w.heap.size w w' := by
  by_cases h1 : k = 12
  · subst h1; exact says12_t v w
  · by_cases h2 : k = 13
    · subst h2; exact says13_t v w
    · by_cases h3 : k = 14
      · subst h3
        cases h5 : (v == 5)
        · rw [show saysB v 14 = (false, true) by simp [saysB, h5]]; exact says14_4_t v h5 w
        · rw [show saysB v 14 = (true, true) by simp [saysB, h5]]; exact says14_5_t v h5 w
      · by_cases h4 : k = 15
        · subst h4
          cases h5 : (v == 5)
          · rw [show saysB v 15 = (false, true) by simp [saysB, h5]]; exact says15_4_t v h5 w
          · rw [show saysB v 15 = (true, true) by simp [saysB, h5]]; exact says15_5_t v h5 w
        · rw [show saysB v k = (false, false) by simp [saysB, h1, h2, h3, h4]]; exact says0_t v k h1 h2 h3 h4 w
end Go.Proofs.Ytnbgmpfldoaodab
