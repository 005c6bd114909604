/- head.Same: a packet against one that has some of its fields, the others zero. -/
import Derived.Test.YtnbgmpfldoaodabWill
import Derived.BigQuiet
namespace Go.Proofs.Ytnbgmpfldoaodab
open Go.RowKit Go.Sort
set_option maxHeartbeats 2000000
set_option linter.unusedVariables false
set_option linter.unusedSimpArgs false
def sameEq (p q : Pk) : Bool := bareEq p q && (willEq p q && (p.codes.n == q.codes.n && (p.filters.n == q.filters.n && p.props.n == q.props.n)))
theorem packC_size (p : Pk) : (packC p).size = 25 := rfl
theorem load_pack_grown (g : Nat) (cs : Array Value) (w : World) (hs : cs.size = 25) (hg : w.heap[g]? = some (.cells cs 35 (0, 0))) (d : Nat) (os : Array Obj) : (loadVar 35 ⟨g, 0, none⟩).run Try.prog (grow (redrawn w d) os) = .ok (.agg cs) (grow (redrawn w d) os) :=
  load_pack g cs _ hs (by rw [(below_regrown w d os).block g (Array.getElem?_eq_some_iff.1 hg).1]; exact hg)
theorem load_will_grown (g : Nat) (p : Pk) (w : World) (hg : w.heap[g]? = some (.cells (packC p) 35 (0, 0))) (d : Nat) (os : Array Obj) : (loadVar 31 ⟨g, 15, none⟩).run Try.prog (grow (redrawn w d) os) = .ok (.agg (willC p)) (grow (redrawn w d) os) :=
  load_will g p _ (by rw [(below_regrown w d os).block g (Array.getElem?_eq_some_iff.1 hg).1]; exact hg)
theorem quiet_load {wS : World} {K : Act → Prop} {a : Act} {o : Oper} (ty : TypeId) (x : Operand) (addr : Addr) (v : Value) (h : o.op = .load ty x) (hx : a.eval x = .pointer (some addr)) (hl : ∀ p : Regrown, (loadVar ty addr).run Try.prog (grow (redrawn wS p.d) p.os) = .ok v (grow (redrawn wS p.d) p.os)) (hk : K (a.put o.dst v)) :
    o.quiet Try.prog a (fun w' => ∃ p : Regrown, w' = grow (redrawn wS p.d) p.os) K :=
  ⟨v, by
    rintro w ⟨p, rfl⟩
    unfold Oper.quietAt execOp
    simp only [h, hx, Instr.loadAt, Instr.sureAddr, Sem.run_bind, Sem.run_pure, Result.andThen_ok, hl p]
    exact ⟨rfl, rfl⟩, hk⟩
set_option maxRecDepth 100000 in
theorem same_t (p q : Pk) (cs ds : Array Value) (hcs : cs = packC p) (hds : ds = packC q) (lw lp : List Prp) (w : World) (hrw : RP w p.wProps.A p.wProps.n lw) (hrp : RP w p.props.A p.props.n lp)
    (hsw : SlRel p.wProps.A p.wProps.n p.wProps.c q.wProps.A q.wProps.n q.wProps.c) (hsp : SlRel p.props.A p.props.n p.props.c q.props.A q.props.n q.props.c)
    (hqc : q.codes = ⟨none, 0, 0⟩) (hqf : q.filters = ⟨none, 0, 0⟩) :
    Calls Try.prog 34 #[.agg cs, .agg ds] w fun e w' => e = .returned (.bool (sameEq p q)) ∧ Below w.heap.size w w' := by
  have HA := Lib.hid (heap_alloc2_old w (.cells cs 35) (.cells ds 35))
  have HD := Lib.hid (heap_alloc2_new w (.cells cs 35) (.cells ds 35))
  have HB0 := Lib.hid (((Below.refl w.heap.size w).alloc (Nat.le_refl _) (.cells cs 35)).alloc (by simp) (.cells ds 35))
  have HRW := Lib.hid hrw
  have HRP := Lib.hid hrp
  have HSW := Lib.hid hsw
  have HSP := Lib.hid hsp
  have HQC := Lib.hid hqc
  have HQF := Lib.hid hqf
  have HCS := Lib.hid hcs
  have HDS := Lib.hid hds
  clear hrw hrp hsw hsp hqc hqf hcs hds
  go_enter Try.func34, Try.ntmps34
  go_wp2_with fail
  generalize (w.alloc (.cells cs 35)).alloc (.cells ds 35) = wS at *
  have hbs := HB0.out.size
  have hL1 := load_pack_grown w.heap.size cs wS (by rw [HCS.out]; rfl) HA.out
  have hL2 := load_pack_grown (w.heap.size + 1) ds wS (by rw [HDS.out]; rfl) HD.out
  have hW1 := load_will_grown w.heap.size p wS (by have := HA.out; rw [HCS.out] at this; exact this)
  have hW2 := load_will_grown (w.heap.size + 1) q wS (by have := HD.out; rw [HDS.out] at this; exact this)
  have k22 := cell_regrown (cell_of_row wS w.heap.size 22 cs 35 (0, 0) HA.out |>.trans (show cs[22]? = some (.slice p.codes.A p.codes.n p.codes.c) by rw [HCS.out]; rfl))
  have k23 := cell_regrown (cell_of_row wS w.heap.size 23 cs 35 (0, 0) HA.out |>.trans (show cs[23]? = some (.slice p.filters.A p.filters.n p.filters.c) by rw [HCS.out]; rfl))
  have k24 := cell_regrown (cell_of_row wS w.heap.size 24 cs 35 (0, 0) HA.out |>.trans (show cs[24]? = some (.slice p.props.A p.props.n p.props.c) by rw [HCS.out]; rfl))
  have q22 := cell_regrown (cell_of_row wS (w.heap.size + 1) 22 ds 35 (0, 0) HD.out |>.trans (show ds[22]? = some (.slice none 0 0) by rw [HDS.out]; show some (Value.slice q.codes.A q.codes.n q.codes.c) = _; rw [HQC.out]))
  have q23 := cell_regrown (cell_of_row wS (w.heap.size + 1) 23 ds 35 (0, 0) HD.out |>.trans (show ds[23]? = some (.slice none 0 0) by rw [HDS.out]; show some (Value.slice q.filters.A q.filters.n q.filters.c) = _; rw [HQF.out]))
  have q24 := cell_regrown (cell_of_row wS (w.heap.size + 1) 24 ds 35 (0, 0) HD.out |>.trans (show ds[24]? = some (.slice q.props.A q.props.n q.props.c) by rw [HDS.out]; rfl))
  have HC1 := Lib.hid (fun d os => Calls.regrown_of (strip_t p cs HCS.out (grow (redrawn wS d) os)))
  have HC2 := Lib.hid (fun d os => Calls.regrown_of (strip_t q ds HDS.out (grow (redrawn wS d) os)))
  have HC3 := Lib.hid (fun d os => Calls.regrown_of (sameWill_t p q (willC p) (willC q) rfl rfl lw (grow (redrawn wS d) os) (RP.below HRW.out (below_then HB0.out hbs (below_regrown wS d os))) HSW.out))
  have HC4 := Lib.hid (fun d os => Calls.regrown_of (listi_nil p.codes.A p.codes.n p.codes.c (grow (redrawn wS d) os)))
  have HC5 := Lib.hid (fun d os => Calls.regrown_of (listf_nil p.filters.A p.filters.n p.filters.c (grow (redrawn wS d) os)))
  have HC6 := Lib.hid (fun d os => Calls.regrown_of (listp_t p.props.A q.props.A p.props.n p.props.c q.props.n q.props.c lp (grow (redrawn wS d) os) (RP.below HRP.out (below_then HB0.out hbs (below_regrown wS d os))) HSP.out))
  have hE := run_bare p q
  have hG := guard_bare p q
  have HS : Hid (sameEq p q = (bareEq p q && (willEq p q && (p.codes.n == 0 && (p.filters.n == 0 && p.props.n == q.props.n))))) := Lib.hid (by unfold sameEq; rw [HQC.out, HQF.out])
  generalize bareEq p q = b1 at *
  generalize willEq p q = b2 at *
  generalize (p.codes.n == 0) = b3 at *
  generalize (p.filters.n == 0) = b4 at *
  generalize (p.props.n == q.props.n) = b5 at *
  generalize bareV p = vp at *
  generalize bareV q = vq at *
  generalize willC p = wp at *
  generalize willC q = wq at *
  clear HA HD HRW HRP HSW HSP HQC HQF HCS HDS hbs
  rcases Bool.eq_false_or_eq_true b1 with rfl | rfl
  rcases Bool.eq_false_or_eq_true b2 with rfl | rfl
  rcases Bool.eq_false_or_eq_true b3 with rfl | rfl
  rcases Bool.eq_false_or_eq_true b4 with rfl | rfl
  all_goals
    refine wp_region_quiet_below follows_mixedh (by kernel_rfl) ?_
    repeat (first | (go_big_quiet_want; (first | (refine quiet_load 35 _ ⟨w.heap.size, 0, none⟩ (.agg cs) rfl rfl (fun p => hL1 p.d p.os) ?_) | (refine quiet_load 35 _ ⟨w.heap.size + 1, 0, none⟩ (.agg ds) rfl rfl (fun p => hL2 p.d p.os) ?_) | (refine quiet_load 31 _ ⟨w.heap.size, 15, none⟩ (.agg wp) rfl rfl (fun p => hW1 p.d p.os) ?_) | (refine quiet_load 31 _ ⟨w.heap.size + 1, 15, none⟩ (.agg wq) rfl rfl (fun p => hW2 p.d p.os) ?_)); simp only [Act.put, List.setIfInBounds_toArray, List.set_cons_succ, List.set_cons_zero]; go_big_quiet_on) | go_big_quiet_step (first | (go_at_call 53; first | (with_reducible exact HC1.out _ _) | (with_reducible exact HC2.out _ _)) | (go_at_call 54; exact HC3.out _ _) | (go_at_call 55; exact HC4.out _ _) | (go_at_call 56; exact HC5.out _ _) | (go_at_call 57; exact HC6.out _ _)))
    refine wpQuiet_nil ?_
    intro _ hw'
    obtain ⟨⟨dq, osq⟩, hw''⟩ := hw'
    subst hw''
    go_wp2
    go_ret
    exact ⟨by rw [HS.out]; rfl, below_then HB0.out HB0.out.size (below_regrown wS dq osq)⟩
end Go.Proofs.Ytnbgmpfldoaodab
