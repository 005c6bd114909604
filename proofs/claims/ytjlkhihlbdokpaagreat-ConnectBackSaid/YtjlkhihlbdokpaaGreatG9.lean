/- connect's reader: connect. -/
import Derived.Test.YtjlkhihlbdokpaaGreatG7
import Derived.Test.YtjlkhihlbdokpaaGreatG5
import Derived.Test.YtjlkhihlbdokpaaGreatG8
import Derived.RegionTactic
import Derived.Deep.RegionHeld3
namespace Go.Proofs.YtjlkhihlbdokpaaGreat
open Go.RowKit Go.Sort
set_option maxHeartbeats 8000000
set_option linter.unusedVariables false
set_option linter.unusedSimpArgs false
structure RC (w wn : World) (g : Nat) (v : Int) (q : Pk) (c : Cu) : Prop where
  box : wn.heap[w.heap.size]? = some (.cells (rdrC g v) 65 (0, 0))
  res : wn.heap[w.heap.size + 1]? = some (.cells (packC zeroPk) 28 (0, 0))
  pk : wn.heap[w.heap.size + 2]? = some (.cells (packC q) 28 (0, 0))
  cu : CurAt wn g c
  lt : g < w.heap.size
  gr : w.grownBy wn (some g)
theorem RC.size {w wn : World} {g : Nat} {v : Int} {q : Pk} {c : Cu} (h : RC w wn g v q c) : w.heap.size + 2 < wn.heap.size := (Array.getElem?_eq_some_iff.1 h.pk).1
theorem RC.cur {w wn wm : World} {g : Nat} {v : Int} {q : Pk} {c c' : Cu} (h : RC w wn g v q c) (hc : CurAt wm g c') (hg : wn.grownBy wm (some g)) : RC w wm g v q c' :=
  ⟨row_grown h.box hg (by have := h.lt; omega), row_grown h.res hg (by have := h.lt; omega), row_grown h.pk hg (by have := h.lt; omega), hc, h.lt, grown_trans h.gr hg⟩
theorem RC.put {w wn wm : World} {g : Nat} {v : Int} {q q' : Pk} {c : Cu} (h : RC w wn g v q c) (hp : wm.heap[w.heap.size + 2]? = some (.cells (packC q') 28 (0, 0))) (hg : wn.grownBy wm (some (w.heap.size + 2))) : RC w wm g v q' c := by
  have hs := h.size
  refine ⟨row_grown h.box hg (by omega), row_grown h.res hg (by omega), hp, row_grown h.cu hg (by have := h.lt; omega), h.lt, ⟨hg.os.trans h.gr.os, hg.tape.trans h.gr.tape, hg.output.trans h.gr.output, Nat.le_trans h.gr.size hg.size, fun i hi hne => ?_⟩⟩
  rw [hg.block i (by omega) (fun e => by simp only [Option.some.injEq] at e; omega)]
  exact h.gr.block i hi hne
theorem RC.drew {w wn : World} {g : Nat} {v : Int} {q : Pk} {c : Cu} (h : RC w wn g v q c) : RC w wn.drew g v q c := ⟨h.box, h.res, h.pk, h.cu, h.lt, grown_drew h.gr⟩
theorem RC.below {w wn wm : World} {g : Nat} {v : Int} {q : Pk} {c : Cu} (h : RC w wn g v q c) (hb : Below wn.heap.size wn wm) : RC w wm g v q c :=
  h.cur (cur_below h.cu hb) (grown_below' hb)
theorem RC.cells {w wn : World} {g : Nat} {v : Int} {q : Pk} {c : Cu} (h : RC w wn g v q c) : wn.cell? ⟨w.heap.size, 0, none⟩ = some (.pointer (some ⟨g, 0, none⟩)) ∧ wn.cell? ⟨w.heap.size, 1, none⟩ = some (.int .i64 v) :=
  ⟨by rw [cell_of_row _ _ _ _ _ _ h.box]; rfl, by rw [cell_of_row _ _ _ _ _ _ h.box]; rfl⟩
theorem rc_start {w w3 : World} {g : Nat} {v : Int} {q : Pk} {c : Cu} {o : Obj} (h : CurAt w g c) (hp : w3.heap[w.heap.size + 1 + 1]? = some (.cells (packC q) 28 (0, 0)))
    (hg : (((w.alloc (.cells (rdrC g v) 65)).alloc (.cells (packC zeroPk) 28)).alloc o).grownBy w3 (some (w.heap.size + 1 + 1))) : RC w w3 g v q c := by
  have hl := (Array.getElem?_eq_some_iff.1 h).1
  have z2 : ((w.alloc (.cells (rdrC g v) 65)).alloc (.cells (packC zeroPk) 28)).heap.size = w.heap.size + 2 := by simp
  have k : ∀ i, i < w.heap.size + 2 → w3.heap[i]? = ((w.alloc (.cells (rdrC g v) 65)).alloc (.cells (packC zeroPk) 28)).heap[i]? := fun i hi => by
    rw [hg.block i (by simp; omega) (fun e => by simp only [Option.some.injEq] at e; omega), heap_alloc_old _ _ (by rw [z2]; exact hi)]
  have k2 : ∀ i, i < w.heap.size → w3.heap[i]? = w.heap[i]? := fun i hi => by rw [k i (by omega), heap_alloc2_old' _ _ _ _ hi]
  refine ⟨?_, ?_, hp, ?_, hl, ⟨hg.os, hg.tape, hg.output, by have := hg.size; simp at this; omega, fun i hi _ => k2 i hi⟩⟩
  · rw [k _ (by omega)]; exact heap_alloc2_old ..
  · rw [k _ (by omega)]; exact heap_alloc2_new ..
  · unfold CurAt; rw [k2 g hl]; exact h
theorem results_pk1 {fn : Func} {s : Tmp} (h : fn.results = #[.cell s 28]) (tmps : Array Value) (w : World) (g : Nat) (p : Pk)
    (hp : tmps.getD s undef = .pointer (some ⟨g, 0, none⟩)) (hg : w.heap[g]? = some (.cells (packC p) 28 (0, 0))) :
    (results fn tmps).run Tryz.prog w = .ok (.agg (packC p)) w :=
  results_cell_row h tmps w g _ (packC p) (0, 0) _ hp hg ud_pack rfl (si_packC p)
theorem grown_own {w wn wz : World} {g : Nat} (h : w.grownBy wn (some g)) (hs : w.heap.size + 2 < wn.heap.size) (hg : wn.grownBy wz (some (w.heap.size + 1))) : w.grownBy wz (some g) :=
  ⟨hg.os.trans h.os, hg.tape.trans h.tape, hg.output.trans h.output, Nat.le_trans h.size hg.size, fun i hi hne => (hg.block i (by omega) (fun e => by simp only [Option.some.injEq] at e; omega)).trans (h.block i hi hne)⟩
set_option maxHeartbeats 40000000 in
set_option maxRecDepth 100000 in
theorem rconnect_1 (g : Nat) (v : Int) (c : Cu) (w : World) (h : CurAt w g c) (ok : CuOK c) (v0 : 0 ≤ v) (v1 : v < 256) : Calls Tryz.prog 56 #[.agg (rdrC g v)] w fun e w' => ∃ ps ws : Sl, LsAt w' (w.heap.size + 3) ps (connF v c).l1 ∧ LsAt w' (w.heap.size + 3) ws (connF v c).l2 ∧ e = .returned (.agg (packC (mkConn (connF v c).f (connF v c).keep ps (connF v c).client ws (connF v c).wt (connF v c).wp (connF v c).user (connF v c).pass))) ∧ CurAt w' g (connF v c).c ∧ w.grownBy w' (some g) := by
  have HC := Lib.hid h
  have HO := Lib.hid ok
  have hvw : IntKind.u64.wrap v = v := IntWalk.u64_in _ ⟨by omega, by omega⟩
  clear h ok
  unfold rdrC
  go_enter Tryz.func56, Tryz.ntmps56
  go_wp2_with ((with_reducible refine pk_store (w.heap.size + 1 + 1) conn0 ?nx ?ny _ (heap_new_at (by simp)) ?na ?nb ?nc ?nd ?ne ?nf); (case na => rfl); (case nb => rfl); (case nc => rfl); (case nd => rfl); (case ne => rfl))
  intro w3 hp hg
  have HRC : Hid (RC w w3 g v conn0 c) := Lib.hid (rc_start HC.out hp hg)
  clear hp hg
  rw [show w.heap.size + 1 + 1 = w.heap.size + 2 by omega]
  obtain ⟨c0, c1⟩ := HRC.out.cells
  have HRd := Lib.hid HRC.out.drew
  go_wp2_with fail
  go_region_held3 (fun w' => w'.cell? ⟨w.heap.size, 0, none⟩ = some (.pointer (some ⟨g, 0, none⟩)) ∧ w'.cell? ⟨w.heap.size, 1, none⟩ = some (.int .i64 v))
    (first
      | go_keep
      | (go_split_ands; exact (HRd.out.cur hc4 hg4).cells)
      | (go_split_ands; exact ((HRd.out.cur hc4 hg4).cur hc5 hg5).cells))
    (first
      | (go_at_call 108; refine (take_t g c 6 _ HRd.out.cu HO.out).mono ?_; rintro e w4 ⟨rfl, hc4, hg4⟩)
      | (go_at_call 58; refine (unless_t g v (takeF c 6).2 _ 5 _ hc4).mono ?_; rintro e w5 ⟨rfl, hc5, hg5⟩))
  have HR5 : Hid (RC w w5 g v conn0 (cC1 c)) := Lib.hid ((HRd.out.cur hc4 hg4).cur hc5 hg5)
  have HO5 : Hid (CuOK (cC1 c)) := Lib.hid (unlessF_ok (takeF_ok HO.out 6) _ _)
  clear hc4 hg4 hc5 hg5 c0 c1 HRd HRC
  obtain ⟨c0, c1⟩ := HR5.out.cells
  have HRd := Lib.hid HR5.out.drew
  go_wp2_with fail
  go_region_held3 (fun w' => w'.cell? ⟨w.heap.size, 0, none⟩ = some (.pointer (some ⟨g, 0, none⟩)) ∧ w'.cell? ⟨w.heap.size, 1, none⟩ = some (.int .i64 v))
    (first
      | go_keep
      | (go_split_ands; exact (HRd.out.cur hc6 hg6).cells)
      | (go_split_ands; exact ((HRd.out.cur hc6 hg6).cur hc7 hg7).cells))
    (first
      | (go_at_call 72; refine (number_t g (cC1 c) 1 _ HRd.out.cu HO5.out (by decide)).mono ?_; rintro e w6 ⟨rfl, hc6, hg6⟩)
      | (go_at_call 58; refine (unless_t g v (takeF (cC1 c) 1).2 (numF (cC1 c) 1 == v) 5 _ hc6).mono ?_; rintro e w7 ⟨rfl, hc7, hg7⟩))
  have HR7 : Hid (RC w w7 g v conn0 (cH v c)) := Lib.hid ((HRd.out.cur hc6 hg6).cur hc7 hg7)
  have HO7 : Hid (CuOK (cH v c)) := Lib.hid (unlessF_ok (takeF_ok HO5.out 1) _ _)
  clear hc6 hg6 hc7 hg7 c0 c1 HRd HR5
  obtain ⟨c0, c1⟩ := HR7.out.cells
  go_wp2_with fail
  refine (number_t g (cH v c) 1 _ HR7.out.cu HO7.out (by decide)).mono ?_
  rintro e w8 ⟨rfl, hc, hg⟩
  have HR8 := Lib.hid (HR7.out.cur hc hg)
  obtain ⟨n0, n1⟩ : 0 ≤ numF (cH v c) 1 ∧ numF (cH v c) 1 < 256 := getF_bd (k := 1) (take_size HO7.out 1)
  have hnw := i64w n0 (show numF (cH v c) 1 < 4294967296 by omega)
  clear hc hg c0 c1 HR7
  obtain ⟨c0, c1⟩ := HR8.out.cells
  have HRd := Lib.hid HR8.out.drew
  have HN : Hid (0 ≤ numF (cH v c) 1 ∧ numF (cH v c) 1 < 256) := Lib.hid ⟨n0, n1⟩
  have HO8 := Lib.hid (takeF_ok HO7.out 1)
  go_wp2_with fail
  go_region_held3 (fun w' => w'.cell? ⟨w.heap.size, 0, none⟩ = some (.pointer (some ⟨g, 0, none⟩)) ∧ w'.cell? ⟨w.heap.size, 1, none⟩ = some (.int .i64 v))
    (first
      | go_keep
      | (go_split_ands; exact (HRd.out.below hb9).cells)
      | (go_split_ands; exact ((HRd.out.below hb9).cur hc10 hg10).cells))
    (first
      | (go_at_call 109; refine (rflags_t g v (numF (cH v c) 1) _ HN.out.1 HN.out.2).mono ?_; rintro e w9 ⟨rfl, hb9⟩)
      | (go_at_call 58; refine (unless_t g v (takeF (cH v c) 1).2 (flagB v (numF (cH v c) 1)) 7 _ (HRd.out.below hb9).cu).mono ?_; rintro e w10 ⟨rfl, hc10, hg10⟩))
  have HR10 : Hid (RC w w10 g v conn0 (cC3 v (cH v c))) := Lib.hid ((HRd.out.below hb9).cur hc10 hg10)
  have HO10 : Hid (CuOK (cC3 v (cH v c))) := Lib.hid (unlessF_ok HO8.out _ _)
  clear hb9 hc10 hg10 c0 c1 HRd HR8
  obtain ⟨c0, c1⟩ := HR10.out.cells
  have HPK10 : Hid (w10.heap[w.heap.size + 2]? = some (.cells (packC (conn0)) 28 (0, 0))) := Lib.hid HR10.out.pk
  go_wp2_with ((with_reducible refine pk_set (w.heap.size + 2) 7 (conn0) ({ conn0 with clean := fb (numF (cH v c) 1) 2 }) (.bool (fb (numF (cH v c) 1) 2)) ?pt1 ?px1 ?py1 HPK10.out ?pa1 ?pb1 ?pc1 ?pd1 ?pe1 ?pf1 ?pg1 ?ph1 ?pi1); (case pa1 => rfl); (case pb1 => rfl); (case pc1 => rfl); (case pd1 => rfl); (case pe1 => kernel_rfl); (case pf1 => simp [Value.cells, Value.oneCell']); (case pg1 => simp [Value.cells]); (case ph1 => rfl))
  intro w11 hp hg
  have HR11 : Hid (RC w w11 g v ({ conn0 with clean := fb (numF (cH v c) 1) 2 }) (cC3 v (cH v c))) := Lib.hid (HR10.out.put hp hg)
  clear hp hg c0 c1 HPK10 HR10
  obtain ⟨c0, c1⟩ := HR11.out.cells
  have HPK11 : Hid (w11.heap[w.heap.size + 2]? = some (.cells (packC ({ conn0 with clean := fb (numF (cH v c) 1) 2 })) 28 (0, 0))) := Lib.hid HR11.out.pk
  go_wp2_with ((with_reducible refine pk_set (w.heap.size + 2) 14 ({ conn0 with clean := fb (numF (cH v c) 1) 2 }) ({ conn0 with clean := fb (numF (cH v c) 1) 2, hasWill := fb (numF (cH v c) 1) 4 }) (.bool (fb (numF (cH v c) 1) 4)) ?pt2 ?px2 ?py2 HPK11.out ?pa2 ?pb2 ?pc2 ?pd2 ?pe2 ?pf2 ?pg2 ?ph2 ?pi2); (case pa2 => rfl); (case pb2 => rfl); (case pc2 => rfl); (case pd2 => rfl); (case pe2 => kernel_rfl); (case pf2 => simp [Value.cells, Value.oneCell']); (case pg2 => simp [Value.cells]); (case ph2 => rfl))
  intro w12 hp hg
  have HR12 : Hid (RC w w12 g v ({ conn0 with clean := fb (numF (cH v c) 1) 2, hasWill := fb (numF (cH v c) 1) 4 }) (cC3 v (cH v c))) := Lib.hid (HR11.out.put hp hg)
  clear hp hg c0 c1 HPK11 HR11
  obtain ⟨c0, c1⟩ := HR12.out.cells
  have HPK12 : Hid (w12.heap[w.heap.size + 2]? = some (.cells (packC ({ conn0 with clean := fb (numF (cH v c) 1) 2, hasWill := fb (numF (cH v c) 1) 4 })) 28 (0, 0))) := Lib.hid HR12.out.pk
  go_wp2_with ((with_reducible refine pk_set (w.heap.size + 2) 12 ({ conn0 with clean := fb (numF (cH v c) 1) 2, hasWill := fb (numF (cH v c) 1) 4 }) ({ conn0 with clean := fb (numF (cH v c) 1) 2, hasWill := fb (numF (cH v c) 1) 4, hasPass := fb (numF (cH v c) 1) 64 }) (.bool (fb (numF (cH v c) 1) 64)) ?pt3 ?px3 ?py3 HPK12.out ?pa3 ?pb3 ?pc3 ?pd3 ?pe3 ?pf3 ?pg3 ?ph3 ?pi3); (case pa3 => rfl); (case pb3 => rfl); (case pc3 => rfl); (case pd3 => rfl); (case pe3 => kernel_rfl); (case pf3 => simp [Value.cells, Value.oneCell']); (case pg3 => simp [Value.cells]); (case ph3 => rfl))
  intro w13 hp hg
  have HR13 : Hid (RC w w13 g v ({ conn0 with clean := fb (numF (cH v c) 1) 2, hasWill := fb (numF (cH v c) 1) 4, hasPass := fb (numF (cH v c) 1) 64 }) (cC3 v (cH v c))) := Lib.hid (HR12.out.put hp hg)
  clear hp hg c0 c1 HPK12 HR12
  obtain ⟨c0, c1⟩ := HR13.out.cells
  have HPK13 : Hid (w13.heap[w.heap.size + 2]? = some (.cells (packC ({ conn0 with clean := fb (numF (cH v c) 1) 2, hasWill := fb (numF (cH v c) 1) 4, hasPass := fb (numF (cH v c) 1) 64 })) 28 (0, 0))) := Lib.hid HR13.out.pk
  go_wp2_with ((with_reducible refine pk_set (w.heap.size + 2) 10 ({ conn0 with clean := fb (numF (cH v c) 1) 2, hasWill := fb (numF (cH v c) 1) 4, hasPass := fb (numF (cH v c) 1) 64 }) ({ conn0 with clean := fb (numF (cH v c) 1) 2, hasWill := fb (numF (cH v c) 1) 4, hasPass := fb (numF (cH v c) 1) 64, hasUser := fb (numF (cH v c) 1) 128 }) (.bool (fb (numF (cH v c) 1) 128)) ?pt4 ?px4 ?py4 HPK13.out ?pa4 ?pb4 ?pc4 ?pd4 ?pe4 ?pf4 ?pg4 ?ph4 ?pi4); (case pa4 => rfl); (case pb4 => rfl); (case pc4 => rfl); (case pd4 => rfl); (case pe4 => kernel_rfl); (case pf4 => simp [Value.cells, Value.oneCell']); (case pg4 => simp [Value.cells]); (case ph4 => rfl))
  intro w14 hp hg
  have HR14 : Hid (RC w w14 g v ({ conn0 with clean := fb (numF (cH v c) 1) 2, hasWill := fb (numF (cH v c) 1) 4, hasPass := fb (numF (cH v c) 1) 64, hasUser := fb (numF (cH v c) 1) 128 }) (cC3 v (cH v c))) := Lib.hid (HR13.out.put hp hg)
  clear hp hg c0 c1 HPK13 HR13
  obtain ⟨c0, c1⟩ := HR14.out.cells
  have HPK14 : Hid (w14.heap[w.heap.size + 2]? = some (.cells (packC ({ conn0 with clean := fb (numF (cH v c) 1) 2, hasWill := fb (numF (cH v c) 1) 4, hasPass := fb (numF (cH v c) 1) 64, hasUser := fb (numF (cH v c) 1) 128 })) 28 (0, 0))) := Lib.hid HR14.out.pk
  go_wp2_with ((with_reducible refine pk_set (w.heap.size + 2) 18 ({ conn0 with clean := fb (numF (cH v c) 1) 2, hasWill := fb (numF (cH v c) 1) 4, hasPass := fb (numF (cH v c) 1) 64, hasUser := fb (numF (cH v c) 1) 128 }) ({ conn0 with clean := fb (numF (cH v c) 1) 2, hasWill := fb (numF (cH v c) 1) 4, hasPass := fb (numF (cH v c) 1) 64, hasUser := fb (numF (cH v c) 1) 128, wRetain := fb (numF (cH v c) 1) 32 }) (.bool (fb (numF (cH v c) 1) 32)) ?pt5 ?px5 ?py5 HPK14.out ?pa5 ?pb5 ?pc5 ?pd5 ?pe5 ?pf5 ?pg5 ?ph5 ?pi5); (case pa5 => rfl); (case pb5 => rfl); (case pc5 => rfl); (case pd5 => rfl); (case pe5 => kernel_rfl); (case pf5 => simp [Value.cells, Value.oneCell']); (case pg5 => simp [Value.cells]); (case ph5 => rfl))
  intro w15 hp hg
  have HR15 : Hid (RC w w15 g v ({ conn0 with clean := fb (numF (cH v c) 1) 2, hasWill := fb (numF (cH v c) 1) 4, hasPass := fb (numF (cH v c) 1) 64, hasUser := fb (numF (cH v c) 1) 128, wRetain := fb (numF (cH v c) 1) 32 }) (cC3 v (cH v c))) := Lib.hid (HR14.out.put hp hg)
  clear hp hg c0 c1 HPK14 HR14
  obtain ⟨c0, c1⟩ := HR15.out.cells
  have HPK15 : Hid (w15.heap[w.heap.size + 2]? = some (.cells (packC ({ conn0 with clean := fb (numF (cH v c) 1) 2, hasWill := fb (numF (cH v c) 1) 4, hasPass := fb (numF (cH v c) 1) 64, hasUser := fb (numF (cH v c) 1) 128, wRetain := fb (numF (cH v c) 1) 32 })) 28 (0, 0))) := Lib.hid HR15.out.pk
  go_wp2_with ((with_reducible refine pk_set (w.heap.size + 2) 17 ({ conn0 with clean := fb (numF (cH v c) 1) 2, hasWill := fb (numF (cH v c) 1) 4, hasPass := fb (numF (cH v c) 1) 64, hasUser := fb (numF (cH v c) 1) 128, wRetain := fb (numF (cH v c) 1) 32 }) ({ conn0 with clean := fb (numF (cH v c) 1) 2, hasWill := fb (numF (cH v c) 1) 4, hasPass := fb (numF (cH v c) 1) 64, hasUser := fb (numF (cH v c) 1) 128, wRetain := fb (numF (cH v c) 1) 32, wQoS := qosF (numF (cH v c) 1) }) (.int .i64 (qosF (numF (cH v c) 1))) ?pt6 ?px6 ?py6 HPK15.out ?pa6 ?pb6 ?pc6 ?pd6 ?pe6 ?pf6 ?pg6 ?ph6 ?pi6); (case pa6 => rfl); (case pb6 => rfl); (case pc6 => rfl); (case pd6 => rfl); (case pe6 => kernel_rfl); (case pf6 => simp [Value.cells, Value.oneCell']); (case pg6 => simp [Value.cells]); (case ph6 => rfl))
  intro w16 hp hg
  have HR16 : Hid (RC w w16 g v ({ conn0 with clean := fb (numF (cH v c) 1) 2, hasWill := fb (numF (cH v c) 1) 4, hasPass := fb (numF (cH v c) 1) 64, hasUser := fb (numF (cH v c) 1) 128, wRetain := fb (numF (cH v c) 1) 32, wQoS := qosF (numF (cH v c) 1) }) (cC3 v (cH v c))) := Lib.hid (HR15.out.put hp hg)
  clear hp hg c0 c1 HPK15 HR15
  obtain ⟨c0, c1⟩ := HR16.out.cells
  have HR16 : Hid (RC w w16 g v (mkConn (numF (cH v c) 1) 0 nilS ⟨#[]⟩ nilS ⟨#[]⟩ ⟨#[]⟩ ⟨#[]⟩ ⟨#[]⟩) (cC3 v (cH v c))) := HR16
  generalize hf : numF (cH v c) 1 = f at *
  generalize hc3 : cC3 v (cH v c) = c3 at *
  go_wp2_with fail
  refine (number_t g c3 2 _ HR16.out.cu HO10.out (by decide)).mono ?_
  rintro e w17 ⟨rfl, hc, hg⟩
  have HR17 := Lib.hid (HR16.out.cur hc hg)
  obtain ⟨k0, k1⟩ : 0 ≤ numF c3 2 ∧ numF c3 2 < 4294967296 := numF_bd HO10.out (by decide)
  have hkw := i64w k0 k1
  have HO17 := Lib.hid (takeF_ok HO10.out 2)
  clear hc hg c0 c1 HR16
  obtain ⟨c0, c1⟩ := HR17.out.cells
  generalize hkeep : numF c3 2 = keep at *
  generalize hc4 : (takeF c3 2).2 = c4 at *
  have HPK17 : Hid (w17.heap[w.heap.size + 2]? = some (.cells (packC (mkConn f 0 nilS ⟨#[]⟩ nilS ⟨#[]⟩ ⟨#[]⟩ ⟨#[]⟩ ⟨#[]⟩)) 28 (0, 0))) := Lib.hid HR17.out.pk
  go_wp2_with ((with_reducible refine pk_set (w.heap.size + 2) 8 (mkConn f 0 nilS ⟨#[]⟩ nilS ⟨#[]⟩ ⟨#[]⟩ ⟨#[]⟩ ⟨#[]⟩) (mkConn f keep nilS ⟨#[]⟩ nilS ⟨#[]⟩ ⟨#[]⟩ ⟨#[]⟩ ⟨#[]⟩) (.int .i64 keep) ?pt7 ?px7 ?py7 HPK17.out ?pa7 ?pb7 ?pc7 ?pd7 ?pe7 ?pf7 ?pg7 ?ph7 ?pi7); (case pa7 => rfl); (case pb7 => rfl); (case pc7 => rfl); (case pd7 => rfl); (case pe7 => kernel_rfl); (case pf7 => simp [Value.cells, Value.oneCell']); (case pg7 => simp [Value.cells]); (case ph7 => rfl))
  intro w18 hp hg
  have HR18 : Hid (RC w w18 g v (mkConn f keep nilS ⟨#[]⟩ nilS ⟨#[]⟩ ⟨#[]⟩ ⟨#[]⟩ ⟨#[]⟩) (c4)) := Lib.hid (HR17.out.put hp hg)
  clear hp hg c0 c1 HPK17 HR17
  obtain ⟨c0, c1⟩ := HR18.out.cells
  have k0 : w18.cell? ⟨w.heap.size + 2, 0, none⟩ = some (.int .i64 1) := pack_at HR18.out.pk 0 _ rfl
  go_wp2_with fail
  refine (rprops_t g v 1 c4 _ HR18.out.cu HO17.out).mono ?_
  rintro e w19 ⟨ps, rfl, hc, hg, hls⟩
  have HR19 := Lib.hid (HR18.out.cur hc hg)
  have HLps19 := Lib.hid (ls_mono hls (show w.heap.size + 3 ≤ w18.heap.size from HR18.out.size))
  have HO19 := Lib.hid (propsF_ok HO17.out v 1)
  clear hc hg hls c0 c1 k0 HR18
  obtain ⟨c0, c1⟩ := HR19.out.cells
  generalize hr1 : propsF v 1 c4 = r1 at *
  obtain ⟨l1, c5⟩ := r1
  have HPK19 : Hid (w19.heap[w.heap.size + 2]? = some (.cells (packC (mkConn f keep nilS ⟨#[]⟩ nilS ⟨#[]⟩ ⟨#[]⟩ ⟨#[]⟩ ⟨#[]⟩)) 28 (0, 0))) := Lib.hid HR19.out.pk
  go_wp2_with ((with_reducible refine pk_set (w.heap.size + 2) 24 (mkConn f keep nilS ⟨#[]⟩ nilS ⟨#[]⟩ ⟨#[]⟩ ⟨#[]⟩ ⟨#[]⟩) (mkConn f keep ps ⟨#[]⟩ nilS ⟨#[]⟩ ⟨#[]⟩ ⟨#[]⟩ ⟨#[]⟩) (.slice ps.A ps.n ps.c) ?pt8 ?px8 ?py8 HPK19.out ?pa8 ?pb8 ?pc8 ?pd8 ?pe8 ?pf8 ?pg8 ?ph8 ?pi8); (case pa8 => rfl); (case pb8 => rfl); (case pc8 => rfl); (case pd8 => rfl); (case pe8 => kernel_rfl); (case pf8 => simp [Value.cells, Value.oneCell']); (case pg8 => simp [Value.cells]); (case ph8 => rfl))
  intro w20 hp hg
  have HLps20 := Lib.hid (ls_grown HLps19.out hg (by omega))
  have HR20 : Hid (RC w w20 g v (mkConn f keep ps ⟨#[]⟩ nilS ⟨#[]⟩ ⟨#[]⟩ ⟨#[]⟩ ⟨#[]⟩) (c5)) := Lib.hid (HR19.out.put hp hg)
  clear hp hg c0 c1 HPK19 HR19
  obtain ⟨c0, c1⟩ := HR20.out.cells
  clear HLps19
  have HO20 : Hid (CuOK c5) := HO19
  go_wp2_with fail
  refine (rtext_t g v c5 _ HR20.out.cu HO20.out).mono ?_
  rintro e w21 ⟨rfl, hc, hg⟩
  have HR21 := Lib.hid (HR20.out.cur hc hg)
  have HO21' := Lib.hid (textF_ok HO20.out)
  have HLps21 := Lib.hid (ls_grown HLps20.out hg (by have := HR20.out.lt; omega))
  clear HLps20
  clear hc hg c0 c1 HR20 HO20
  obtain ⟨c0, c1⟩ := HR21.out.cells
  generalize hcl : textF c5 = rcl at *
  obtain ⟨cl, c6⟩ := rcl
  have HO21 : Hid (CuOK c6) := HO21'
  clear HO21'
  have HPK21 : Hid (w21.heap[w.heap.size + 2]? = some (.cells (packC (mkConn f keep ps ⟨#[]⟩ nilS ⟨#[]⟩ ⟨#[]⟩ ⟨#[]⟩ ⟨#[]⟩)) 28 (0, 0))) := Lib.hid HR21.out.pk
  go_wp2_with ((with_reducible refine pk_set (w.heap.size + 2) 9 (mkConn f keep ps ⟨#[]⟩ nilS ⟨#[]⟩ ⟨#[]⟩ ⟨#[]⟩ ⟨#[]⟩) (mkConn f keep ps cl nilS ⟨#[]⟩ ⟨#[]⟩ ⟨#[]⟩ ⟨#[]⟩) (.string cl) ?pt9 ?px9 ?py9 HPK21.out ?pa9 ?pb9 ?pc9 ?pd9 ?pe9 ?pf9 ?pg9 ?ph9 ?pi9); (case pa9 => rfl); (case pb9 => rfl); (case pc9 => rfl); (case pd9 => rfl); (case pe9 => kernel_rfl); (case pf9 => simp [Value.cells, Value.oneCell']); (case pg9 => simp [Value.cells]); (case ph9 => rfl))
  intro w22 hp hg
  have HLps22 := Lib.hid (ls_grown HLps21.out hg (by omega))
  have HR22 : Hid (RC w w22 g v (mkConn f keep ps cl nilS ⟨#[]⟩ ⟨#[]⟩ ⟨#[]⟩ ⟨#[]⟩) (c6)) := Lib.hid (HR21.out.put hp hg)
  clear hp hg c0 c1 HPK21 HR21
  obtain ⟨c0, c1⟩ := HR22.out.cells
  have HO22 := HO21
  clear HO21 HLps21
  have k14 : w22.cell? ⟨w.heap.size + 2, 14, none⟩ = some (.bool (fb f 4)) := pack_at HR22.out.pk 14 _ rfl
  cases hp4 : fb f 4
  case false =>
    rw [hp4] at k14
    have k10 : w22.cell? ⟨w.heap.size + 2, 10, none⟩ = some (.bool (fb f 128)) := pack_at HR22.out.pk 10 _ rfl
    cases hp128 : fb f 128
    case false =>
      rw [hp128] at k10
      have k12 : w22.cell? ⟨w.heap.size + 2, 12, none⟩ = some (.bool (fb f 64)) := pack_at HR22.out.pk 12 _ rfl
      cases hp64 : fb f 64
      case false =>
        rw [hp64] at k12
        have HQ10 : Hid (w22.heap[w.heap.size + 2]? = some (.cells (packC (mkConn f keep ps cl nilS ⟨#[]⟩ ⟨#[]⟩ ⟨#[]⟩ ⟨#[]⟩)) 28 (0, 0))) := Lib.hid HR22.out.pk
        have HZ10 : Hid (w22.heap[w.heap.size + 1]? = some (.cells (packC zeroPk) 28 (0, 0))) := Lib.hid HR22.out.res
        go_wp2_with (first | ((with_reducible refine pk_store (w.heap.size + 1) (mkConn f keep ps cl nilS ⟨#[]⟩ ⟨#[]⟩ ⟨#[]⟩ ⟨#[]⟩) ?sx10 ?sy10 _ HZ10.out ?sa10 ?sb10 ?sc10 ?sd10 ?se10 ?sf10); (case sa10 => rfl); (case sb10 => rfl); (case sc10 => rfl); (case sd10 => rfl); (case se10 => rfl)) | ((with_reducible refine pk_load (w.heap.size + 2) (mkConn f keep ps cl nilS ⟨#[]⟩ ⟨#[]⟩ ⟨#[]⟩ ⟨#[]⟩) ?lx10 HQ10.out ?la10 ?lb10 ?lc10 ?ld10); (case la10 => rfl); (case lb10 => rfl); (case lc10 => rfl)))
        intro wz hp hg
        have HFIN : Hid (wz.heap[w.heap.size + 1]? = some (.cells (packC (mkConn f keep ps cl nilS ⟨#[]⟩ ⟨#[]⟩ ⟨#[]⟩ ⟨#[]⟩)) 28 (0, 0))) := Lib.hid hp
        have HCZ : Hid (CurAt wz g c6) := Lib.hid (row_grown HR22.out.cu hg (by have := HR22.out.lt; omega))
        have HGZ : Hid (w.grownBy wz (some g)) := Lib.hid (grown_own HR22.out.gr HR22.out.size hg)
        have HLPZ := Lib.hid (ls_grown HLps22.out hg (by omega))
        have HLWZ : Hid (LsAt wz (w.heap.size + 3) nilS []) := Lib.hid (ls_nil _ _)
        have HE : Hid (connF v c = ⟨f, keep, l1, cl, [], ⟨#[]⟩, ⟨#[]⟩, ⟨#[]⟩, ⟨#[]⟩, c6⟩) := Lib.hid (connF_eq hf hc3 hkeep hc4 hr1 hcl (cW_no hp4) (cU_no hp128) (cP_no hp64))
        clear hp hg
        go_wp2
        refine bodyPost_ret (v := .agg (packC (mkConn f keep ps cl nilS ⟨#[]⟩ ⟨#[]⟩ ⟨#[]⟩ ⟨#[]⟩))) ?_ rfl ⟨ps, nilS, by rw [HE.out]; exact HLPZ.out, by rw [HE.out]; exact HLWZ.out, by rw [HE.out], by rw [HE.out]; exact HCZ.out, HGZ.out⟩
        exact results_pk1 (s := 2) rfl _ _ (w.heap.size + 1) (mkConn f keep ps cl nilS ⟨#[]⟩ ⟨#[]⟩ ⟨#[]⟩ ⟨#[]⟩) rfl HFIN.out
      case true =>
        rw [hp64] at k12
        go_wp2_with fail
        refine (rbinary_t g v c6 _ HR22.out.cu HO22.out).mono ?_
        rintro e w23 ⟨rfl, hc, hg⟩
        have HR23 := Lib.hid (HR22.out.cur hc hg)
        have HO23' := Lib.hid (binaryF_ok HO22.out)
        have HLps23 := Lib.hid (ls_grown HLps22.out hg (by have := HR22.out.lt; omega))
        clear HLps22
        clear hc hg c0 c1 HR22 HO22
        obtain ⟨c0, c1⟩ := HR23.out.cells
        generalize hpa : binaryF c6 = rpa at *
        obtain ⟨pa, cp⟩ := rpa
        have HO23 : Hid (CuOK cp) := HO23'
        clear HO23'
        have HPK23 : Hid (w23.heap[w.heap.size + 2]? = some (.cells (packC (mkConn f keep ps cl nilS ⟨#[]⟩ ⟨#[]⟩ ⟨#[]⟩ ⟨#[]⟩)) 28 (0, 0))) := Lib.hid HR23.out.pk
        go_wp2_with ((with_reducible refine pk_set (w.heap.size + 2) 13 (mkConn f keep ps cl nilS ⟨#[]⟩ ⟨#[]⟩ ⟨#[]⟩ ⟨#[]⟩) (mkConn f keep ps cl nilS ⟨#[]⟩ ⟨#[]⟩ ⟨#[]⟩ pa) (.string pa) ?pt11 ?px11 ?py11 HPK23.out ?pa11 ?pb11 ?pc11 ?pd11 ?pe11 ?pf11 ?pg11 ?ph11 ?pi11); (case pa11 => rfl); (case pb11 => rfl); (case pc11 => rfl); (case pd11 => rfl); (case pe11 => kernel_rfl); (case pf11 => simp [Value.cells, Value.oneCell']); (case pg11 => simp [Value.cells]); (case ph11 => rfl))
        intro w24 hp hg
        have HLps24 := Lib.hid (ls_grown HLps23.out hg (by omega))
        have HR24 : Hid (RC w w24 g v (mkConn f keep ps cl nilS ⟨#[]⟩ ⟨#[]⟩ ⟨#[]⟩ pa) (cp)) := Lib.hid (HR23.out.put hp hg)
        clear hp hg c0 c1 HPK23 HR23
        obtain ⟨c0, c1⟩ := HR24.out.cells
        have HO24 := HO23
        clear HO23 HLps23
        have HQ12 : Hid (w24.heap[w.heap.size + 2]? = some (.cells (packC (mkConn f keep ps cl nilS ⟨#[]⟩ ⟨#[]⟩ ⟨#[]⟩ pa)) 28 (0, 0))) := Lib.hid HR24.out.pk
        have HZ12 : Hid (w24.heap[w.heap.size + 1]? = some (.cells (packC zeroPk) 28 (0, 0))) := Lib.hid HR24.out.res
        go_wp2_with (first | ((with_reducible refine pk_store (w.heap.size + 1) (mkConn f keep ps cl nilS ⟨#[]⟩ ⟨#[]⟩ ⟨#[]⟩ pa) ?sx12 ?sy12 _ HZ12.out ?sa12 ?sb12 ?sc12 ?sd12 ?se12 ?sf12); (case sa12 => rfl); (case sb12 => rfl); (case sc12 => rfl); (case sd12 => rfl); (case se12 => rfl)) | ((with_reducible refine pk_load (w.heap.size + 2) (mkConn f keep ps cl nilS ⟨#[]⟩ ⟨#[]⟩ ⟨#[]⟩ pa) ?lx12 HQ12.out ?la12 ?lb12 ?lc12 ?ld12); (case la12 => rfl); (case lb12 => rfl); (case lc12 => rfl)))
        intro wz hp hg
        have HFIN : Hid (wz.heap[w.heap.size + 1]? = some (.cells (packC (mkConn f keep ps cl nilS ⟨#[]⟩ ⟨#[]⟩ ⟨#[]⟩ pa)) 28 (0, 0))) := Lib.hid hp
        have HCZ : Hid (CurAt wz g cp) := Lib.hid (row_grown HR24.out.cu hg (by have := HR24.out.lt; omega))
        have HGZ : Hid (w.grownBy wz (some g)) := Lib.hid (grown_own HR24.out.gr HR24.out.size hg)
        have HLPZ := Lib.hid (ls_grown HLps24.out hg (by omega))
        have HLWZ : Hid (LsAt wz (w.heap.size + 3) nilS []) := Lib.hid (ls_nil _ _)
        have HE : Hid (connF v c = ⟨f, keep, l1, cl, [], ⟨#[]⟩, ⟨#[]⟩, ⟨#[]⟩, pa, cp⟩) := Lib.hid (connF_eq hf hc3 hkeep hc4 hr1 hcl (cW_no hp4) (cU_no hp128) (cP_yes hp64 hpa))
        clear hp hg
        go_wp2
        refine bodyPost_ret (v := .agg (packC (mkConn f keep ps cl nilS ⟨#[]⟩ ⟨#[]⟩ ⟨#[]⟩ pa))) ?_ rfl ⟨ps, nilS, by rw [HE.out]; exact HLPZ.out, by rw [HE.out]; exact HLWZ.out, by rw [HE.out], by rw [HE.out]; exact HCZ.out, HGZ.out⟩
        exact results_pk1 (s := 2) rfl _ _ (w.heap.size + 1) (mkConn f keep ps cl nilS ⟨#[]⟩ ⟨#[]⟩ ⟨#[]⟩ pa) rfl HFIN.out
    case true =>
      rw [hp128] at k10
      go_wp2_with fail
      refine (rtext_t g v c6 _ HR22.out.cu HO22.out).mono ?_
      rintro e w23 ⟨rfl, hc, hg⟩
      have HR23 := Lib.hid (HR22.out.cur hc hg)
      have HO23' := Lib.hid (textF_ok HO22.out)
      have HLps23 := Lib.hid (ls_grown HLps22.out hg (by have := HR22.out.lt; omega))
      clear HLps22
      clear hc hg c0 c1 HR22 HO22
      obtain ⟨c0, c1⟩ := HR23.out.cells
      generalize hus : textF c6 = rus at *
      obtain ⟨us, cu⟩ := rus
      have HO23 : Hid (CuOK cu) := HO23'
      clear HO23'
      have HPK23 : Hid (w23.heap[w.heap.size + 2]? = some (.cells (packC (mkConn f keep ps cl nilS ⟨#[]⟩ ⟨#[]⟩ ⟨#[]⟩ ⟨#[]⟩)) 28 (0, 0))) := Lib.hid HR23.out.pk
      go_wp2_with ((with_reducible refine pk_set (w.heap.size + 2) 11 (mkConn f keep ps cl nilS ⟨#[]⟩ ⟨#[]⟩ ⟨#[]⟩ ⟨#[]⟩) (mkConn f keep ps cl nilS ⟨#[]⟩ ⟨#[]⟩ us ⟨#[]⟩) (.string us) ?pt13 ?px13 ?py13 HPK23.out ?pa13 ?pb13 ?pc13 ?pd13 ?pe13 ?pf13 ?pg13 ?ph13 ?pi13); (case pa13 => rfl); (case pb13 => rfl); (case pc13 => rfl); (case pd13 => rfl); (case pe13 => kernel_rfl); (case pf13 => simp [Value.cells, Value.oneCell']); (case pg13 => simp [Value.cells]); (case ph13 => rfl))
      intro w24 hp hg
      have HLps24 := Lib.hid (ls_grown HLps23.out hg (by omega))
      have HR24 : Hid (RC w w24 g v (mkConn f keep ps cl nilS ⟨#[]⟩ ⟨#[]⟩ us ⟨#[]⟩) (cu)) := Lib.hid (HR23.out.put hp hg)
      clear hp hg c0 c1 HPK23 HR23
      obtain ⟨c0, c1⟩ := HR24.out.cells
      have HO24 := HO23
      clear HO23 HLps23
      have k12 : w24.cell? ⟨w.heap.size + 2, 12, none⟩ = some (.bool (fb f 64)) := pack_at HR24.out.pk 12 _ rfl
      cases hp64 : fb f 64
      case false =>
        rw [hp64] at k12
        have HQ14 : Hid (w24.heap[w.heap.size + 2]? = some (.cells (packC (mkConn f keep ps cl nilS ⟨#[]⟩ ⟨#[]⟩ us ⟨#[]⟩)) 28 (0, 0))) := Lib.hid HR24.out.pk
        have HZ14 : Hid (w24.heap[w.heap.size + 1]? = some (.cells (packC zeroPk) 28 (0, 0))) := Lib.hid HR24.out.res
        go_wp2_with (first | ((with_reducible refine pk_store (w.heap.size + 1) (mkConn f keep ps cl nilS ⟨#[]⟩ ⟨#[]⟩ us ⟨#[]⟩) ?sx14 ?sy14 _ HZ14.out ?sa14 ?sb14 ?sc14 ?sd14 ?se14 ?sf14); (case sa14 => rfl); (case sb14 => rfl); (case sc14 => rfl); (case sd14 => rfl); (case se14 => rfl)) | ((with_reducible refine pk_load (w.heap.size + 2) (mkConn f keep ps cl nilS ⟨#[]⟩ ⟨#[]⟩ us ⟨#[]⟩) ?lx14 HQ14.out ?la14 ?lb14 ?lc14 ?ld14); (case la14 => rfl); (case lb14 => rfl); (case lc14 => rfl)))
        intro wz hp hg
        have HFIN : Hid (wz.heap[w.heap.size + 1]? = some (.cells (packC (mkConn f keep ps cl nilS ⟨#[]⟩ ⟨#[]⟩ us ⟨#[]⟩)) 28 (0, 0))) := Lib.hid hp
        have HCZ : Hid (CurAt wz g cu) := Lib.hid (row_grown HR24.out.cu hg (by have := HR24.out.lt; omega))
        have HGZ : Hid (w.grownBy wz (some g)) := Lib.hid (grown_own HR24.out.gr HR24.out.size hg)
        have HLPZ := Lib.hid (ls_grown HLps24.out hg (by omega))
        have HLWZ : Hid (LsAt wz (w.heap.size + 3) nilS []) := Lib.hid (ls_nil _ _)
        have HE : Hid (connF v c = ⟨f, keep, l1, cl, [], ⟨#[]⟩, ⟨#[]⟩, us, ⟨#[]⟩, cu⟩) := Lib.hid (connF_eq hf hc3 hkeep hc4 hr1 hcl (cW_no hp4) (cU_yes hp128 hus) (cP_no hp64))
        clear hp hg
        go_wp2
        refine bodyPost_ret (v := .agg (packC (mkConn f keep ps cl nilS ⟨#[]⟩ ⟨#[]⟩ us ⟨#[]⟩))) ?_ rfl ⟨ps, nilS, by rw [HE.out]; exact HLPZ.out, by rw [HE.out]; exact HLWZ.out, by rw [HE.out], by rw [HE.out]; exact HCZ.out, HGZ.out⟩
        exact results_pk1 (s := 2) rfl _ _ (w.heap.size + 1) (mkConn f keep ps cl nilS ⟨#[]⟩ ⟨#[]⟩ us ⟨#[]⟩) rfl HFIN.out
      case true =>
        rw [hp64] at k12
        go_wp2_with fail
        refine (rbinary_t g v cu _ HR24.out.cu HO24.out).mono ?_
        rintro e w25 ⟨rfl, hc, hg⟩
        have HR25 := Lib.hid (HR24.out.cur hc hg)
        have HO25' := Lib.hid (binaryF_ok HO24.out)
        have HLps25 := Lib.hid (ls_grown HLps24.out hg (by have := HR24.out.lt; omega))
        clear HLps24
        clear hc hg c0 c1 HR24 HO24
        obtain ⟨c0, c1⟩ := HR25.out.cells
        generalize hpa : binaryF cu = rpa at *
        obtain ⟨pa, cp⟩ := rpa
        have HO25 : Hid (CuOK cp) := HO25'
        clear HO25'
        have HPK25 : Hid (w25.heap[w.heap.size + 2]? = some (.cells (packC (mkConn f keep ps cl nilS ⟨#[]⟩ ⟨#[]⟩ us ⟨#[]⟩)) 28 (0, 0))) := Lib.hid HR25.out.pk
        go_wp2_with ((with_reducible refine pk_set (w.heap.size + 2) 13 (mkConn f keep ps cl nilS ⟨#[]⟩ ⟨#[]⟩ us ⟨#[]⟩) (mkConn f keep ps cl nilS ⟨#[]⟩ ⟨#[]⟩ us pa) (.string pa) ?pt15 ?px15 ?py15 HPK25.out ?pa15 ?pb15 ?pc15 ?pd15 ?pe15 ?pf15 ?pg15 ?ph15 ?pi15); (case pa15 => rfl); (case pb15 => rfl); (case pc15 => rfl); (case pd15 => rfl); (case pe15 => kernel_rfl); (case pf15 => simp [Value.cells, Value.oneCell']); (case pg15 => simp [Value.cells]); (case ph15 => rfl))
        intro w26 hp hg
        have HLps26 := Lib.hid (ls_grown HLps25.out hg (by omega))
        have HR26 : Hid (RC w w26 g v (mkConn f keep ps cl nilS ⟨#[]⟩ ⟨#[]⟩ us pa) (cp)) := Lib.hid (HR25.out.put hp hg)
        clear hp hg c0 c1 HPK25 HR25
        obtain ⟨c0, c1⟩ := HR26.out.cells
        have HO26 := HO25
        clear HO25 HLps25
        have HQ16 : Hid (w26.heap[w.heap.size + 2]? = some (.cells (packC (mkConn f keep ps cl nilS ⟨#[]⟩ ⟨#[]⟩ us pa)) 28 (0, 0))) := Lib.hid HR26.out.pk
        have HZ16 : Hid (w26.heap[w.heap.size + 1]? = some (.cells (packC zeroPk) 28 (0, 0))) := Lib.hid HR26.out.res
        go_wp2_with (first | ((with_reducible refine pk_store (w.heap.size + 1) (mkConn f keep ps cl nilS ⟨#[]⟩ ⟨#[]⟩ us pa) ?sx16 ?sy16 _ HZ16.out ?sa16 ?sb16 ?sc16 ?sd16 ?se16 ?sf16); (case sa16 => rfl); (case sb16 => rfl); (case sc16 => rfl); (case sd16 => rfl); (case se16 => rfl)) | ((with_reducible refine pk_load (w.heap.size + 2) (mkConn f keep ps cl nilS ⟨#[]⟩ ⟨#[]⟩ us pa) ?lx16 HQ16.out ?la16 ?lb16 ?lc16 ?ld16); (case la16 => rfl); (case lb16 => rfl); (case lc16 => rfl)))
        intro wz hp hg
        have HFIN : Hid (wz.heap[w.heap.size + 1]? = some (.cells (packC (mkConn f keep ps cl nilS ⟨#[]⟩ ⟨#[]⟩ us pa)) 28 (0, 0))) := Lib.hid hp
        have HCZ : Hid (CurAt wz g cp) := Lib.hid (row_grown HR26.out.cu hg (by have := HR26.out.lt; omega))
        have HGZ : Hid (w.grownBy wz (some g)) := Lib.hid (grown_own HR26.out.gr HR26.out.size hg)
        have HLPZ := Lib.hid (ls_grown HLps26.out hg (by omega))
        have HLWZ : Hid (LsAt wz (w.heap.size + 3) nilS []) := Lib.hid (ls_nil _ _)
        have HE : Hid (connF v c = ⟨f, keep, l1, cl, [], ⟨#[]⟩, ⟨#[]⟩, us, pa, cp⟩) := Lib.hid (connF_eq hf hc3 hkeep hc4 hr1 hcl (cW_no hp4) (cU_yes hp128 hus) (cP_yes hp64 hpa))
        clear hp hg
        go_wp2
        refine bodyPost_ret (v := .agg (packC (mkConn f keep ps cl nilS ⟨#[]⟩ ⟨#[]⟩ us pa))) ?_ rfl ⟨ps, nilS, by rw [HE.out]; exact HLPZ.out, by rw [HE.out]; exact HLWZ.out, by rw [HE.out], by rw [HE.out]; exact HCZ.out, HGZ.out⟩
        exact results_pk1 (s := 2) rfl _ _ (w.heap.size + 1) (mkConn f keep ps cl nilS ⟨#[]⟩ ⟨#[]⟩ us pa) rfl HFIN.out
  case true =>
    rw [hp4] at k14
    go_wp2_with fail
    refine (rprops_t g v 16 c6 _ HR22.out.cu HO22.out).mono ?_
    rintro e w23 ⟨ws, rfl, hc, hg, hls⟩
    have HLws23 := Lib.hid (ls_mono hls (show w.heap.size + 3 ≤ w22.heap.size from HR22.out.size))
    have HR23 := Lib.hid (HR22.out.cur hc hg)
    have HO23' := Lib.hid (propsF_ok HO22.out v 16)
    have HLps23 := Lib.hid (ls_grown HLps22.out hg (by have := HR22.out.lt; omega))
    clear HLps22
    clear hc hg hls c0 c1 HR22 HO22
    obtain ⟨c0, c1⟩ := HR23.out.cells
    generalize hl2 : propsF v 16 c6 = rl2 at *
    obtain ⟨l2, cw1⟩ := rl2
    have HO23 : Hid (CuOK cw1) := HO23'
    clear HO23'
    have HPK23 : Hid (w23.heap[w.heap.size + 2]? = some (.cells (packC (mkConn f keep ps cl nilS ⟨#[]⟩ ⟨#[]⟩ ⟨#[]⟩ ⟨#[]⟩)) 28 (0, 0))) := Lib.hid HR23.out.pk
    go_wp2_with ((with_reducible refine pk_set (w.heap.size + 2) 19 (mkConn f keep ps cl nilS ⟨#[]⟩ ⟨#[]⟩ ⟨#[]⟩ ⟨#[]⟩) (mkConn f keep ps cl ws ⟨#[]⟩ ⟨#[]⟩ ⟨#[]⟩ ⟨#[]⟩) (.slice ws.A ws.n ws.c) ?pt17 ?px17 ?py17 HPK23.out ?pa17 ?pb17 ?pc17 ?pd17 ?pe17 ?pf17 ?pg17 ?ph17 ?pi17); (case pa17 => rfl); (case pb17 => rfl); (case pc17 => rfl); (case pd17 => rfl); (case pe17 => kernel_rfl); (case pf17 => simp [Value.cells, Value.oneCell']); (case pg17 => simp [Value.cells]); (case ph17 => rfl))
    intro w24 hp hg
    have HLps24 := Lib.hid (ls_grown HLps23.out hg (by omega))
    have HLws24 := Lib.hid (ls_grown HLws23.out hg (by omega))
    have HR24 : Hid (RC w w24 g v (mkConn f keep ps cl ws ⟨#[]⟩ ⟨#[]⟩ ⟨#[]⟩ ⟨#[]⟩) (cw1)) := Lib.hid (HR23.out.put hp hg)
    clear hp hg c0 c1 HPK23 HR23
    obtain ⟨c0, c1⟩ := HR24.out.cells
    have HO24 := HO23
    clear HO23 HLps23 HLws23
    go_wp2_with fail
    refine (rtext_t g v cw1 _ HR24.out.cu HO24.out).mono ?_
    rintro e w25 ⟨rfl, hc, hg⟩
    have HR25 := Lib.hid (HR24.out.cur hc hg)
    have HO25' := Lib.hid (textF_ok HO24.out)
    have HLps25 := Lib.hid (ls_grown HLps24.out hg (by have := HR24.out.lt; omega))
    clear HLps24
    have HLws25 := Lib.hid (ls_grown HLws24.out hg (by have := HR24.out.lt; omega))
    clear HLws24
    clear hc hg c0 c1 HR24 HO24
    obtain ⟨c0, c1⟩ := HR25.out.cells
    generalize hwt : textF cw1 = rwt at *
    obtain ⟨wt, cw2⟩ := rwt
    have HO25 : Hid (CuOK cw2) := HO25'
    clear HO25'
    have HPK25 : Hid (w25.heap[w.heap.size + 2]? = some (.cells (packC (mkConn f keep ps cl ws ⟨#[]⟩ ⟨#[]⟩ ⟨#[]⟩ ⟨#[]⟩)) 28 (0, 0))) := Lib.hid HR25.out.pk
    go_wp2_with ((with_reducible refine pk_set (w.heap.size + 2) 15 (mkConn f keep ps cl ws ⟨#[]⟩ ⟨#[]⟩ ⟨#[]⟩ ⟨#[]⟩) (mkConn f keep ps cl ws wt ⟨#[]⟩ ⟨#[]⟩ ⟨#[]⟩) (.string wt) ?pt18 ?px18 ?py18 HPK25.out ?pa18 ?pb18 ?pc18 ?pd18 ?pe18 ?pf18 ?pg18 ?ph18 ?pi18); (case pa18 => rfl); (case pb18 => rfl); (case pc18 => rfl); (case pd18 => rfl); (case pe18 => kernel_rfl); (case pf18 => simp [Value.cells, Value.oneCell']); (case pg18 => simp [Value.cells]); (case ph18 => rfl))
    intro w26 hp hg
    have HLps26 := Lib.hid (ls_grown HLps25.out hg (by omega))
    have HLws26 := Lib.hid (ls_grown HLws25.out hg (by omega))
    have HR26 : Hid (RC w w26 g v (mkConn f keep ps cl ws wt ⟨#[]⟩ ⟨#[]⟩ ⟨#[]⟩) (cw2)) := Lib.hid (HR25.out.put hp hg)
    clear hp hg c0 c1 HPK25 HR25
    obtain ⟨c0, c1⟩ := HR26.out.cells
    have HO26 := HO25
    clear HO25 HLps25 HLws25
    go_wp2_with fail
    refine (rbinary_t g v cw2 _ HR26.out.cu HO26.out).mono ?_
    rintro e w27 ⟨rfl, hc, hg⟩
    have HR27 := Lib.hid (HR26.out.cur hc hg)
    have HO27' := Lib.hid (binaryF_ok HO26.out)
    have HLps27 := Lib.hid (ls_grown HLps26.out hg (by have := HR26.out.lt; omega))
    clear HLps26
    have HLws27 := Lib.hid (ls_grown HLws26.out hg (by have := HR26.out.lt; omega))
    clear HLws26
    clear hc hg c0 c1 HR26 HO26
    obtain ⟨c0, c1⟩ := HR27.out.cells
    generalize hwp : binaryF cw2 = rwp at *
    obtain ⟨wp, cw3⟩ := rwp
    have HO27 : Hid (CuOK cw3) := HO27'
    clear HO27'
    have HPK27 : Hid (w27.heap[w.heap.size + 2]? = some (.cells (packC (mkConn f keep ps cl ws wt ⟨#[]⟩ ⟨#[]⟩ ⟨#[]⟩)) 28 (0, 0))) := Lib.hid HR27.out.pk
    go_wp2_with ((with_reducible refine pk_set (w.heap.size + 2) 16 (mkConn f keep ps cl ws wt ⟨#[]⟩ ⟨#[]⟩ ⟨#[]⟩) (mkConn f keep ps cl ws wt wp ⟨#[]⟩ ⟨#[]⟩) (.string wp) ?pt19 ?px19 ?py19 HPK27.out ?pa19 ?pb19 ?pc19 ?pd19 ?pe19 ?pf19 ?pg19 ?ph19 ?pi19); (case pa19 => rfl); (case pb19 => rfl); (case pc19 => rfl); (case pd19 => rfl); (case pe19 => kernel_rfl); (case pf19 => simp [Value.cells, Value.oneCell']); (case pg19 => simp [Value.cells]); (case ph19 => rfl))
    intro w28 hp hg
    have HLps28 := Lib.hid (ls_grown HLps27.out hg (by omega))
    have HLws28 := Lib.hid (ls_grown HLws27.out hg (by omega))
    have HR28 : Hid (RC w w28 g v (mkConn f keep ps cl ws wt wp ⟨#[]⟩ ⟨#[]⟩) (cw3)) := Lib.hid (HR27.out.put hp hg)
    clear hp hg c0 c1 HPK27 HR27
    obtain ⟨c0, c1⟩ := HR28.out.cells
    have HO28 := HO27
    clear HO27 HLps27 HLws27
    have k10 : w28.cell? ⟨w.heap.size + 2, 10, none⟩ = some (.bool (fb f 128)) := pack_at HR28.out.pk 10 _ rfl
    cases hp128 : fb f 128
    case false =>
      rw [hp128] at k10
      have k12 : w28.cell? ⟨w.heap.size + 2, 12, none⟩ = some (.bool (fb f 64)) := pack_at HR28.out.pk 12 _ rfl
      cases hp64 : fb f 64
      case false =>
        rw [hp64] at k12
        have HQ20 : Hid (w28.heap[w.heap.size + 2]? = some (.cells (packC (mkConn f keep ps cl ws wt wp ⟨#[]⟩ ⟨#[]⟩)) 28 (0, 0))) := Lib.hid HR28.out.pk
        have HZ20 : Hid (w28.heap[w.heap.size + 1]? = some (.cells (packC zeroPk) 28 (0, 0))) := Lib.hid HR28.out.res
        go_wp2_with (first | ((with_reducible refine pk_store (w.heap.size + 1) (mkConn f keep ps cl ws wt wp ⟨#[]⟩ ⟨#[]⟩) ?sx20 ?sy20 _ HZ20.out ?sa20 ?sb20 ?sc20 ?sd20 ?se20 ?sf20); (case sa20 => rfl); (case sb20 => rfl); (case sc20 => rfl); (case sd20 => rfl); (case se20 => rfl)) | ((with_reducible refine pk_load (w.heap.size + 2) (mkConn f keep ps cl ws wt wp ⟨#[]⟩ ⟨#[]⟩) ?lx20 HQ20.out ?la20 ?lb20 ?lc20 ?ld20); (case la20 => rfl); (case lb20 => rfl); (case lc20 => rfl)))
        intro wz hp hg
        have HFIN : Hid (wz.heap[w.heap.size + 1]? = some (.cells (packC (mkConn f keep ps cl ws wt wp ⟨#[]⟩ ⟨#[]⟩)) 28 (0, 0))) := Lib.hid hp
        have HCZ : Hid (CurAt wz g cw3) := Lib.hid (row_grown HR28.out.cu hg (by have := HR28.out.lt; omega))
        have HGZ : Hid (w.grownBy wz (some g)) := Lib.hid (grown_own HR28.out.gr HR28.out.size hg)
        have HLPZ := Lib.hid (ls_grown HLps28.out hg (by omega))
        have HLWZ := Lib.hid (ls_grown HLws28.out hg (by omega))
        have HE : Hid (connF v c = ⟨f, keep, l1, cl, l2, wt, wp, ⟨#[]⟩, ⟨#[]⟩, cw3⟩) := Lib.hid (connF_eq hf hc3 hkeep hc4 hr1 hcl (cW_yes hp4 hl2 hwt hwp) (cU_no hp128) (cP_no hp64))
        clear hp hg
        go_wp2
        refine bodyPost_ret (v := .agg (packC (mkConn f keep ps cl ws wt wp ⟨#[]⟩ ⟨#[]⟩))) ?_ rfl ⟨ps, ws, by rw [HE.out]; exact HLPZ.out, by rw [HE.out]; exact HLWZ.out, by rw [HE.out], by rw [HE.out]; exact HCZ.out, HGZ.out⟩
        exact results_pk1 (s := 2) rfl _ _ (w.heap.size + 1) (mkConn f keep ps cl ws wt wp ⟨#[]⟩ ⟨#[]⟩) rfl HFIN.out
      case true =>
        rw [hp64] at k12
        go_wp2_with fail
        refine (rbinary_t g v cw3 _ HR28.out.cu HO28.out).mono ?_
        rintro e w29 ⟨rfl, hc, hg⟩
        have HR29 := Lib.hid (HR28.out.cur hc hg)
        have HO29' := Lib.hid (binaryF_ok HO28.out)
        have HLps29 := Lib.hid (ls_grown HLps28.out hg (by have := HR28.out.lt; omega))
        clear HLps28
        have HLws29 := Lib.hid (ls_grown HLws28.out hg (by have := HR28.out.lt; omega))
        clear HLws28
        clear hc hg c0 c1 HR28 HO28
        obtain ⟨c0, c1⟩ := HR29.out.cells
        generalize hpa : binaryF cw3 = rpa at *
        obtain ⟨pa, cp⟩ := rpa
        have HO29 : Hid (CuOK cp) := HO29'
        clear HO29'
        have HPK29 : Hid (w29.heap[w.heap.size + 2]? = some (.cells (packC (mkConn f keep ps cl ws wt wp ⟨#[]⟩ ⟨#[]⟩)) 28 (0, 0))) := Lib.hid HR29.out.pk
        go_wp2_with ((with_reducible refine pk_set (w.heap.size + 2) 13 (mkConn f keep ps cl ws wt wp ⟨#[]⟩ ⟨#[]⟩) (mkConn f keep ps cl ws wt wp ⟨#[]⟩ pa) (.string pa) ?pt21 ?px21 ?py21 HPK29.out ?pa21 ?pb21 ?pc21 ?pd21 ?pe21 ?pf21 ?pg21 ?ph21 ?pi21); (case pa21 => rfl); (case pb21 => rfl); (case pc21 => rfl); (case pd21 => rfl); (case pe21 => kernel_rfl); (case pf21 => simp [Value.cells, Value.oneCell']); (case pg21 => simp [Value.cells]); (case ph21 => rfl))
        intro w30 hp hg
        have HLps30 := Lib.hid (ls_grown HLps29.out hg (by omega))
        have HLws30 := Lib.hid (ls_grown HLws29.out hg (by omega))
        have HR30 : Hid (RC w w30 g v (mkConn f keep ps cl ws wt wp ⟨#[]⟩ pa) (cp)) := Lib.hid (HR29.out.put hp hg)
        clear hp hg c0 c1 HPK29 HR29
        obtain ⟨c0, c1⟩ := HR30.out.cells
        have HO30 := HO29
        clear HO29 HLps29 HLws29
        have HQ22 : Hid (w30.heap[w.heap.size + 2]? = some (.cells (packC (mkConn f keep ps cl ws wt wp ⟨#[]⟩ pa)) 28 (0, 0))) := Lib.hid HR30.out.pk
        have HZ22 : Hid (w30.heap[w.heap.size + 1]? = some (.cells (packC zeroPk) 28 (0, 0))) := Lib.hid HR30.out.res
        go_wp2_with (first | ((with_reducible refine pk_store (w.heap.size + 1) (mkConn f keep ps cl ws wt wp ⟨#[]⟩ pa) ?sx22 ?sy22 _ HZ22.out ?sa22 ?sb22 ?sc22 ?sd22 ?se22 ?sf22); (case sa22 => rfl); (case sb22 => rfl); (case sc22 => rfl); (case sd22 => rfl); (case se22 => rfl)) | ((with_reducible refine pk_load (w.heap.size + 2) (mkConn f keep ps cl ws wt wp ⟨#[]⟩ pa) ?lx22 HQ22.out ?la22 ?lb22 ?lc22 ?ld22); (case la22 => rfl); (case lb22 => rfl); (case lc22 => rfl)))
        intro wz hp hg
        have HFIN : Hid (wz.heap[w.heap.size + 1]? = some (.cells (packC (mkConn f keep ps cl ws wt wp ⟨#[]⟩ pa)) 28 (0, 0))) := Lib.hid hp
        have HCZ : Hid (CurAt wz g cp) := Lib.hid (row_grown HR30.out.cu hg (by have := HR30.out.lt; omega))
        have HGZ : Hid (w.grownBy wz (some g)) := Lib.hid (grown_own HR30.out.gr HR30.out.size hg)
        have HLPZ := Lib.hid (ls_grown HLps30.out hg (by omega))
        have HLWZ := Lib.hid (ls_grown HLws30.out hg (by omega))
        have HE : Hid (connF v c = ⟨f, keep, l1, cl, l2, wt, wp, ⟨#[]⟩, pa, cp⟩) := Lib.hid (connF_eq hf hc3 hkeep hc4 hr1 hcl (cW_yes hp4 hl2 hwt hwp) (cU_no hp128) (cP_yes hp64 hpa))
        clear hp hg
        go_wp2
        refine bodyPost_ret (v := .agg (packC (mkConn f keep ps cl ws wt wp ⟨#[]⟩ pa))) ?_ rfl ⟨ps, ws, by rw [HE.out]; exact HLPZ.out, by rw [HE.out]; exact HLWZ.out, by rw [HE.out], by rw [HE.out]; exact HCZ.out, HGZ.out⟩
        exact results_pk1 (s := 2) rfl _ _ (w.heap.size + 1) (mkConn f keep ps cl ws wt wp ⟨#[]⟩ pa) rfl HFIN.out
    case true =>
      rw [hp128] at k10
      go_wp2_with fail
      refine (rtext_t g v cw3 _ HR28.out.cu HO28.out).mono ?_
      rintro e w29 ⟨rfl, hc, hg⟩
      have HR29 := Lib.hid (HR28.out.cur hc hg)
      have HO29' := Lib.hid (textF_ok HO28.out)
      have HLps29 := Lib.hid (ls_grown HLps28.out hg (by have := HR28.out.lt; omega))
      clear HLps28
      have HLws29 := Lib.hid (ls_grown HLws28.out hg (by have := HR28.out.lt; omega))
      clear HLws28
      clear hc hg c0 c1 HR28 HO28
      obtain ⟨c0, c1⟩ := HR29.out.cells
      generalize hus : textF cw3 = rus at *
      obtain ⟨us, cu⟩ := rus
      have HO29 : Hid (CuOK cu) := HO29'
      clear HO29'
      have HPK29 : Hid (w29.heap[w.heap.size + 2]? = some (.cells (packC (mkConn f keep ps cl ws wt wp ⟨#[]⟩ ⟨#[]⟩)) 28 (0, 0))) := Lib.hid HR29.out.pk
      go_wp2_with ((with_reducible refine pk_set (w.heap.size + 2) 11 (mkConn f keep ps cl ws wt wp ⟨#[]⟩ ⟨#[]⟩) (mkConn f keep ps cl ws wt wp us ⟨#[]⟩) (.string us) ?pt23 ?px23 ?py23 HPK29.out ?pa23 ?pb23 ?pc23 ?pd23 ?pe23 ?pf23 ?pg23 ?ph23 ?pi23); (case pa23 => rfl); (case pb23 => rfl); (case pc23 => rfl); (case pd23 => rfl); (case pe23 => kernel_rfl); (case pf23 => simp [Value.cells, Value.oneCell']); (case pg23 => simp [Value.cells]); (case ph23 => rfl))
      intro w30 hp hg
      have HLps30 := Lib.hid (ls_grown HLps29.out hg (by omega))
      have HLws30 := Lib.hid (ls_grown HLws29.out hg (by omega))
      have HR30 : Hid (RC w w30 g v (mkConn f keep ps cl ws wt wp us ⟨#[]⟩) (cu)) := Lib.hid (HR29.out.put hp hg)
      clear hp hg c0 c1 HPK29 HR29
      obtain ⟨c0, c1⟩ := HR30.out.cells
      have HO30 := HO29
      clear HO29 HLps29 HLws29
      have k12 : w30.cell? ⟨w.heap.size + 2, 12, none⟩ = some (.bool (fb f 64)) := pack_at HR30.out.pk 12 _ rfl
      cases hp64 : fb f 64
      case false =>
        rw [hp64] at k12
        have HQ24 : Hid (w30.heap[w.heap.size + 2]? = some (.cells (packC (mkConn f keep ps cl ws wt wp us ⟨#[]⟩)) 28 (0, 0))) := Lib.hid HR30.out.pk
        have HZ24 : Hid (w30.heap[w.heap.size + 1]? = some (.cells (packC zeroPk) 28 (0, 0))) := Lib.hid HR30.out.res
        go_wp2_with (first | ((with_reducible refine pk_store (w.heap.size + 1) (mkConn f keep ps cl ws wt wp us ⟨#[]⟩) ?sx24 ?sy24 _ HZ24.out ?sa24 ?sb24 ?sc24 ?sd24 ?se24 ?sf24); (case sa24 => rfl); (case sb24 => rfl); (case sc24 => rfl); (case sd24 => rfl); (case se24 => rfl)) | ((with_reducible refine pk_load (w.heap.size + 2) (mkConn f keep ps cl ws wt wp us ⟨#[]⟩) ?lx24 HQ24.out ?la24 ?lb24 ?lc24 ?ld24); (case la24 => rfl); (case lb24 => rfl); (case lc24 => rfl)))
        intro wz hp hg
        have HFIN : Hid (wz.heap[w.heap.size + 1]? = some (.cells (packC (mkConn f keep ps cl ws wt wp us ⟨#[]⟩)) 28 (0, 0))) := Lib.hid hp
        have HCZ : Hid (CurAt wz g cu) := Lib.hid (row_grown HR30.out.cu hg (by have := HR30.out.lt; omega))
        have HGZ : Hid (w.grownBy wz (some g)) := Lib.hid (grown_own HR30.out.gr HR30.out.size hg)
        have HLPZ := Lib.hid (ls_grown HLps30.out hg (by omega))
        have HLWZ := Lib.hid (ls_grown HLws30.out hg (by omega))
        have HE : Hid (connF v c = ⟨f, keep, l1, cl, l2, wt, wp, us, ⟨#[]⟩, cu⟩) := Lib.hid (connF_eq hf hc3 hkeep hc4 hr1 hcl (cW_yes hp4 hl2 hwt hwp) (cU_yes hp128 hus) (cP_no hp64))
        clear hp hg
        go_wp2
        refine bodyPost_ret (v := .agg (packC (mkConn f keep ps cl ws wt wp us ⟨#[]⟩))) ?_ rfl ⟨ps, ws, by rw [HE.out]; exact HLPZ.out, by rw [HE.out]; exact HLWZ.out, by rw [HE.out], by rw [HE.out]; exact HCZ.out, HGZ.out⟩
        exact results_pk1 (s := 2) rfl _ _ (w.heap.size + 1) (mkConn f keep ps cl ws wt wp us ⟨#[]⟩) rfl HFIN.out
      case true =>
        rw [hp64] at k12
        go_wp2_with fail
        refine (rbinary_t g v cu _ HR30.out.cu HO30.out).mono ?_
        rintro e w31 ⟨rfl, hc, hg⟩
        have HR31 := Lib.hid (HR30.out.cur hc hg)
        have HO31' := Lib.hid (binaryF_ok HO30.out)
        have HLps31 := Lib.hid (ls_grown HLps30.out hg (by have := HR30.out.lt; omega))
        clear HLps30
        have HLws31 := Lib.hid (ls_grown HLws30.out hg (by have := HR30.out.lt; omega))
        clear HLws30
        clear hc hg c0 c1 HR30 HO30
        obtain ⟨c0, c1⟩ := HR31.out.cells
        generalize hpa : binaryF cu = rpa at *
        obtain ⟨pa, cp⟩ := rpa
        have HO31 : Hid (CuOK cp) := HO31'
        clear HO31'
        have HPK31 : Hid (w31.heap[w.heap.size + 2]? = some (.cells (packC (mkConn f keep ps cl ws wt wp us ⟨#[]⟩)) 28 (0, 0))) := Lib.hid HR31.out.pk
        go_wp2_with ((with_reducible refine pk_set (w.heap.size + 2) 13 (mkConn f keep ps cl ws wt wp us ⟨#[]⟩) (mkConn f keep ps cl ws wt wp us pa) (.string pa) ?pt25 ?px25 ?py25 HPK31.out ?pa25 ?pb25 ?pc25 ?pd25 ?pe25 ?pf25 ?pg25 ?ph25 ?pi25); (case pa25 => rfl); (case pb25 => rfl); (case pc25 => rfl); (case pd25 => rfl); (case pe25 => kernel_rfl); (case pf25 => simp [Value.cells, Value.oneCell']); (case pg25 => simp [Value.cells]); (case ph25 => rfl))
        intro w32 hp hg
        have HLps32 := Lib.hid (ls_grown HLps31.out hg (by omega))
        have HLws32 := Lib.hid (ls_grown HLws31.out hg (by omega))
        have HR32 : Hid (RC w w32 g v (mkConn f keep ps cl ws wt wp us pa) (cp)) := Lib.hid (HR31.out.put hp hg)
        clear hp hg c0 c1 HPK31 HR31
        obtain ⟨c0, c1⟩ := HR32.out.cells
        have HO32 := HO31
        clear HO31 HLps31 HLws31
        have HQ26 : Hid (w32.heap[w.heap.size + 2]? = some (.cells (packC (mkConn f keep ps cl ws wt wp us pa)) 28 (0, 0))) := Lib.hid HR32.out.pk
        have HZ26 : Hid (w32.heap[w.heap.size + 1]? = some (.cells (packC zeroPk) 28 (0, 0))) := Lib.hid HR32.out.res
        go_wp2_with (first | ((with_reducible refine pk_store (w.heap.size + 1) (mkConn f keep ps cl ws wt wp us pa) ?sx26 ?sy26 _ HZ26.out ?sa26 ?sb26 ?sc26 ?sd26 ?se26 ?sf26); (case sa26 => rfl); (case sb26 => rfl); (case sc26 => rfl); (case sd26 => rfl); (case se26 => rfl)) | ((with_reducible refine pk_load (w.heap.size + 2) (mkConn f keep ps cl ws wt wp us pa) ?lx26 HQ26.out ?la26 ?lb26 ?lc26 ?ld26); (case la26 => rfl); (case lb26 => rfl); (case lc26 => rfl)))
        intro wz hp hg
        have HFIN : Hid (wz.heap[w.heap.size + 1]? = some (.cells (packC (mkConn f keep ps cl ws wt wp us pa)) 28 (0, 0))) := Lib.hid hp
        have HCZ : Hid (CurAt wz g cp) := Lib.hid (row_grown HR32.out.cu hg (by have := HR32.out.lt; omega))
        have HGZ : Hid (w.grownBy wz (some g)) := Lib.hid (grown_own HR32.out.gr HR32.out.size hg)
        have HLPZ := Lib.hid (ls_grown HLps32.out hg (by omega))
        have HLWZ := Lib.hid (ls_grown HLws32.out hg (by omega))
        have HE : Hid (connF v c = ⟨f, keep, l1, cl, l2, wt, wp, us, pa, cp⟩) := Lib.hid (connF_eq hf hc3 hkeep hc4 hr1 hcl (cW_yes hp4 hl2 hwt hwp) (cU_yes hp128 hus) (cP_yes hp64 hpa))
        clear hp hg
        go_wp2
        refine bodyPost_ret (v := .agg (packC (mkConn f keep ps cl ws wt wp us pa))) ?_ rfl ⟨ps, ws, by rw [HE.out]; exact HLPZ.out, by rw [HE.out]; exact HLWZ.out, by rw [HE.out], by rw [HE.out]; exact HCZ.out, HGZ.out⟩
        exact results_pk1 (s := 2) rfl _ _ (w.heap.size + 1) (mkConn f keep ps cl ws wt wp us pa) rfl HFIN.out
end Go.Proofs.YtjlkhihlbdokpaaGreat
/- connect's reader: connack. -/
namespace Go.Proofs.YtjlkhihlbdokpaaGreat
open Go.RowKit Go.Sort
set_option maxHeartbeats 8000000
set_option linter.unusedVariables false
set_option linter.unusedSimpArgs false
structure RK (w wn : World) (g : Nat) (v : Int) (c : Cu) : Prop where
  box : wn.heap[w.heap.size]? = some (.cells (rdrC g v) 65 (0, 0))
  res : wn.heap[w.heap.size + 1]? = some (.cells (packC zeroPk) 28 (0, 0))
  cu : CurAt wn g c
  lt : g < w.heap.size
  gr : w.grownBy wn (some g)
theorem RK.size {w wn : World} {g : Nat} {v : Int} {c : Cu} (h : RK w wn g v c) : w.heap.size + 1 < wn.heap.size := (Array.getElem?_eq_some_iff.1 h.res).1
theorem RK.cur {w wn wm : World} {g : Nat} {v : Int} {c c' : Cu} (h : RK w wn g v c) (hc : CurAt wm g c') (hg : wn.grownBy wm (some g)) : RK w wm g v c' :=
  ⟨row_grown h.box hg (by have := h.lt; omega), row_grown h.res hg (by have := h.lt; omega), hc, h.lt, grown_trans h.gr hg⟩
theorem RK.cells {w wn : World} {g : Nat} {v : Int} {c : Cu} (h : RK w wn g v c) : wn.cell? ⟨w.heap.size, 0, none⟩ = some (.pointer (some ⟨g, 0, none⟩)) ∧ wn.cell? ⟨w.heap.size, 1, none⟩ = some (.int .i64 v) :=
  ⟨by rw [cell_of_row _ _ _ _ _ _ h.box]; rfl, by rw [cell_of_row _ _ _ _ _ _ h.box]; rfl⟩
theorem rk_start {w : World} {g : Nat} {v : Int} {c : Cu} (h : CurAt w g c) : RK w ((w.alloc (.cells (rdrC g v) 65)).alloc (.cells (packC zeroPk) 28)) g v c :=
  ⟨heap_alloc2_old _ _ _, heap_alloc2_new _ _ _, cur_alloc (cur_alloc h _) _, (Array.getElem?_eq_some_iff.1 h).1, grown_alloc (grown_alloc (grown_refl _ _))⟩
theorem grown_own1 {w wn wz : World} {g : Nat} (h : w.grownBy wn (some g)) (hs : w.heap.size + 1 < wn.heap.size) (hg : wn.grownBy wz (some (w.heap.size + 1))) : w.grownBy wz (some g) :=
  ⟨hg.os.trans h.os, hg.tape.trans h.tape, hg.output.trans h.output, Nat.le_trans h.size hg.size, fun i hi hne => (hg.block i (by omega) (fun e => by simp only [Option.some.injEq] at e; omega)).trans (h.block i hi hne)⟩
def mkAck (s : Bool) (code : Int) (ps : Sl) : Pk := { zeroPk with kind := 2, session := s, code := code, props := ps }
def aC1 (c : Cu) : Cu := unlessF (takeF c 1).2 (decide (numF c 1 ≤ 1)) 7
set_option maxRecDepth 100000 in
theorem rconnack_t (g : Nat) (v : Int) (c : Cu) (w : World) (h : CurAt w g c) (ok : CuOK c) : Calls Tryz.prog 57 #[.agg (rdrC g v)] w fun e w' => ∃ ps : Sl, LsAt w' (w.heap.size + 2) ps (propsF v 2 (takeF (aC1 c) 1).2).1 ∧ e = .returned (.agg (packC (mkAck (numF c 1 == 1) (numF (aC1 c) 1) ps))) ∧ CurAt w' g (propsF v 2 (takeF (aC1 c) 1).2).2 ∧ w.grownBy w' (some g) := by
  have HR1 := Lib.hid (rk_start (v := v) h)
  have HO := Lib.hid ok
  clear h ok
  obtain ⟨c0, c1⟩ := HR1.out.cells
  unfold rdrC at c0 c1 ⊢
  go_enter Tryz.func57, Tryz.ntmps57
  have HR1 : Hid (RK w ((w.alloc (.cells #[.pointer (some ⟨g, 0, none⟩), .int .i64 v] 65)).alloc (.cells (packC zeroPk) 28)) g v c) := HR1
  go_wp2_with fail
  refine (number_t g c 1 _ HR1.out.cu HO.out (by decide)).mono ?_
  rintro e w2 ⟨rfl, hc, hg⟩
  have HR2 := Lib.hid (HR1.out.cur hc hg)
  have HO2 := Lib.hid (takeF_ok HO.out 1)
  clear hc hg c0 c1 HR1
  obtain ⟨c0, c1⟩ := HR2.out.cells
  generalize hn : numF c 1 = n at *
  go_wp2_with fail
  refine (unless_t g v (takeF c 1).2 (decide (n ≤ 1)) 7 _ HR2.out.cu).mono ?_
  rintro e w3 ⟨rfl, hc, hg⟩
  have HR3 : Hid (RK w w3 g v (aC1 c)) := Lib.hid (by unfold aC1; rw [hn]; exact HR2.out.cur hc hg)
  have HO3 : Hid (CuOK (aC1 c)) := Lib.hid (unlessF_ok HO2.out _ _)
  clear hc hg c0 c1 HR2 HO2
  obtain ⟨c0, c1⟩ := HR3.out.cells
  generalize h3 : aC1 c = c3 at *
  go_wp2_with fail
  refine (number_t g c3 1 _ HR3.out.cu HO3.out (by decide)).mono ?_
  rintro e w4 ⟨rfl, hc, hg⟩
  have HR4 := Lib.hid (HR3.out.cur hc hg)
  have HO4 := Lib.hid (takeF_ok HO3.out 1)
  obtain ⟨k0, k1⟩ : 0 ≤ numF c3 1 ∧ numF c3 1 < 4294967296 := numF_bd HO3.out (by decide)
  have hkw := i64w k0 k1
  clear hc hg c0 c1 HR3
  obtain ⟨c0, c1⟩ := HR4.out.cells
  generalize hcode : numF c3 1 = code at *
  generalize h4 : (takeF c3 1).2 = c4 at *
  go_wp2_with fail
  refine (rprops_t g v 2 c4 _ HR4.out.cu HO4.out).mono ?_
  rintro e w5 ⟨ps, rfl, hc, hg, hls⟩
  have HL5 := Lib.hid (ls_mono hls (show w.heap.size + 2 ≤ w4.heap.size from HR4.out.size))
  have HR5 := Lib.hid (HR4.out.cur hc hg)
  clear hc hg hls c0 c1 HR4
  generalize hr : propsF v 2 c4 = r at *
  have HE : Hid (propsF v 2 (takeF (aC1 c) 1).2 = r ∧ numF (aC1 c) 1 = code ∧ numF c 1 = n) := Lib.hid ⟨by rw [h3, h4, hr], by rw [h3, hcode], hn⟩
  clear hr h4 hcode h3 hn
  have HZ : Hid (w5.heap[w.heap.size + 1]? = some (.cells (packC zeroPk) 28 (0, 0))) := Lib.hid HR5.out.res
  go_wp2_with ((with_reducible refine pk_store (w.heap.size + 1) (mkAck (n == 1) code ps) ?sx1 ?sy1 _ HZ.out ?sa1 ?sb1 ?sc1 ?sd1 ?se1 ?sf1); (case sa1 => rfl); (case sb1 => rfl); (case sc1 => rfl); (case sd1 => rfl); (case se1 => rfl))
  intro wz hp hg
  have HFIN := Lib.hid hp
  have HCZ : Hid (CurAt wz g r.2) := Lib.hid (row_grown HR5.out.cu hg (by have := HR5.out.lt; omega))
  have HGZ : Hid (w.grownBy wz (some g)) := Lib.hid (grown_own1 HR5.out.gr HR5.out.size hg)
  have HLZ := Lib.hid (ls_grown HL5.out hg (by omega))
  clear hp hg
  go_wp2
  refine bodyPost_ret (v := .agg (packC (mkAck (n == 1) code ps))) ?_ rfl ⟨ps, by rw [HE.out.1]; exact HLZ.out, by rw [HE.out.2.1, HE.out.2.2], by rw [HE.out.1]; exact HCZ.out, HGZ.out⟩
  exact results_pk1 (s := 2) rfl _ _ (w.heap.size + 1) (mkAck (n == 1) code ps) rfl HFIN.out
end Go.Proofs.YtjlkhihlbdokpaaGreat
/- What connect.Read answers, in plain Lean: a packet is read from its body, what is read is written as the same, a truncated body is not valid. -/
namespace Go.Proofs.YtjlkhihlbdokpaaGreat
open Go.RowKit
set_option maxHeartbeats 2000000
set_option linter.unusedVariables false
set_option linter.unusedSimpArgs false
/-- What stands behind the reading of a body: the packet, but its lists' places. -/
structure Got where
  pk : Sl → Sl → Pk
  lp : List Prp
  lw : List Prp
  c : Cu
def conGot (v : Int) (c : Cu) : Got := ⟨fun ps ws => mkConn (connF v c).f (connF v c).keep ps (connF v c).client ws (connF v c).wt (connF v c).wp (connF v c).user (connF v c).pass, (connF v c).l1, (connF v c).l2, (connF v c).c⟩
def ackGot (v : Int) (c : Cu) : Got := ⟨fun ps _ => mkAck (numF c 1 == 1) (numF (aC1 c) 1) ps, (propsF v 2 (takeF (aC1 c) 1).2).1, [], (propsF v 2 (takeF (aC1 c) 1).2).2⟩
def gotF (v kind : Int) (s : ByteArray) : Got := if kind = 1 then conGot v (newCu s) else ackGot v (newCu s)
def gotE (v : Int) (g : Got) : Int := if (endC g.c).err ≠ 0 then (endC g.c).err else connV v (g.pk (lenS g.lp.length) (lenS g.lw.length)) g.lw g.lp
def rdE (v kind : Int) (s : ByteArray) : Int := if knownB v = true then (if oursB kind = true then gotE v (gotF v kind s) else 2) else 2
/-- connect.Valid hangs on the lists' lengths alone. -/
theorem sameA_re (p : Pk) (ws cs fs ss : Sl) (h1 : ws.n = p.wProps.n) (h2 : cs.n = p.codes.n) (h3 : fs.n = p.filters.n) (h4 : ss.n = p.props.n) : sameEq (reSl p ws cs fs ss) (aloneQ (reSl p ws cs fs ss)) = sameEq p (aloneQ p) := by
  unfold sameEq aloneQ
  by_cases hk : (p.kind == 2) = true
  · rw [if_pos hk, if_pos (show ((reSl p ws cs fs ss).kind == 2) = true from hk)]
    simp only [bareEq, willEq, reSl, h1, h2, h3, h4, if_true]
    try rfl
  · rw [if_neg hk, if_neg (show ¬ ((reSl p ws cs fs ss).kind == 2) = true from hk)]
    cases hw : p.hasWill
    · simp only [bareEq, willEq, reSl, h1, h2, h3, h4, hw, if_false, Bool.false_eq_true, if_true]
    · simp only [bareEq, willEq, reSl, h1, h2, h3, h4, hw, if_true]
theorem ranges_re (v : Int) (p : Pk) (ws cs fs ss : Sl) (h1 : ws.n = p.wProps.n) (h4 : ss.n = p.props.n) : rangesB v (reSl p ws cs fs ss) = rangesB v p := by
  unfold rangesB
  simp only [reSl, h1, h4]
  rfl
theorem connV_re (v : Int) (p : Pk) (ws cs fs ss : Sl) (lw lp : List Prp) (h1 : ws.n = p.wProps.n) (h2 : cs.n = p.codes.n) (h3 : fs.n = p.filters.n) (h4 : ss.n = p.props.n) : connV v (reSl p ws cs fs ss) lw lp = connV v p lw lp := by
  unfold connV
  rw [sameA_re p ws cs fs ss h1 h2 h3 h4, ranges_re v p ws cs fs ss h1 h4]
  rfl
theorem ack_re (s : Bool) (code : Int) (ps ps' : Sl) : mkAck s code ps' = reSl (mkAck s code ps) zeroSl zeroSl zeroSl ps' := rfl
theorem con_re (f keep : Int) (ps ps' : Sl) (cl : ByteArray) (ws ws' : Sl) (wt wp us pa : ByteArray) : mkConn f keep ps' cl ws' wt wp us pa = reSl (mkConn f keep ps cl ws wt wp us pa) ws' zeroSl zeroSl ps' := rfl
theorem gotV (v kind : Int) (s : ByteArray) (ps ws : Sl) (h1 : ps.n = (gotF v kind s).lp.length) (h2 : ws.n = (gotF v kind s).lw.length) : connV v ((gotF v kind s).pk ps ws) (gotF v kind s).lw (gotF v kind s).lp = connV v ((gotF v kind s).pk (lenS (gotF v kind s).lp.length) (lenS (gotF v kind s).lw.length)) (gotF v kind s).lw (gotF v kind s).lp := by
  unfold gotF at h1 h2 ⊢
  split
  · rename_i hk
    rw [if_pos hk] at h1 h2
    unfold conGot at h1 h2 ⊢
    simp only [] at h1 h2 ⊢
    rw [con_re _ _ (lenS (connF v (newCu s)).l1.length) ps _ (lenS (connF v (newCu s)).l2.length) ws]
    exact connV_re v _ _ _ _ _ _ _ h2 rfl rfl h1
  · rename_i hk
    rw [if_neg hk] at h1 h2
    unfold ackGot at h1 h2 ⊢
    simp only [] at h1 h2 ⊢
    rw [ack_re _ _ (lenS (propsF v 2 (takeF (aC1 (newCu s)) 1).2).1.length) ps]
    exact connV_re v _ _ _ _ _ _ _ rfl rfl rfl h1
theorem got_n (v kind : Int) (s : ByteArray) (ps ws : Sl) : (((gotF v kind s).pk ps ws).wProps.n = ws.n ∨ ((gotF v kind s).pk ps ws).wProps.n = 0 ∧ (gotF v kind s).lw = []) ∧ ((gotF v kind s).pk ps ws).codes.n = 0 ∧ ((gotF v kind s).pk ps ws).filters.n = 0 ∧ ((gotF v kind s).pk ps ws).props.n = ps.n := by
  unfold gotF
  split
  · exact ⟨.inl rfl, rfl, rfl, rfl⟩
  · exact ⟨.inr ⟨rfl, rfl⟩, rfl, rfl, rfl⟩
/- CONNACK. -/
def ackL (v : Int) (p : Pk) (lp : List Prp) : List UInt8 := bl (ackFirst p) ++ (bl (be1 p.code) ++ bl (tailS v 2 lp))
theorem ackB_is (v : Int) (p : Pk) (lp : List Prp) (hk : p.kind = 2) : bl (catL [ackFirst p, be1 p.code, tailS v p.kind lp]) = ackL v p lp := by
  unfold ackL
  rw [hk]
  simp only [catL, bl_app, bl_nil, List.append_nil]
structure AkOK (v : Int) (p : Pk) (lw lp : List Prp) : Prop where
  known : v = 4 ∨ v = 5
  code : 0 ≤ p.code ∧ p.code < 256
  props : TlOK v 2 lp
  lw : lw = []
  same : sameEq p (aloneQ p) = true
theorem akOK_of {v : Int} {p : Pk} {lw lp : List Prp} (hk : p.kind = 2) (hn : p.props.n = lp.length) (hw : p.wProps.n = lw.length) (h : connV v p lw lp = 0) : AkOK v p lw lp := by
  have hcode := connV_code (v := v) (p := p) (lw := lw) (lp := lp) (by rw [hk]; rfl) (by rw [h]; rfl)
  unfold connV at h
  split at h
  case isFalse => cases h
  rename_i h1
  split at h
  case isFalse => cases h
  rename_i h2
  split at h
  case isFalse => cases h
  rename_i h3
  split at h
  case isFalse => cases h
  rename_i h4
  split at h
  case isFalse => cases h
  split at h
  case isFalse => cases h
  have hz : sizesC p lw lp = 0 := by
    split at h
    · split at h
      · exact h
      · cases h
    · exact h
  unfold sizesC at hz
  split at hz
  · cases hz
  split at hz
  · cases hz
  split at hz
  · rename_i z3; rw [hz] at z3; exact absurd z3 (by decide)
  rename_i z3
  have z3' : (bytesF 2 lp).2 = 0 := by rw [hk] at z3; simpa using z3
  have hv : v = 4 ∨ v = 5 := by
    unfold knownB at h1
    simpa using h1
  have hs := h3
  unfold sameEq at hs
  simp only [Bool.and_eq_true, beq_iff_eq] at hs
  obtain ⟨-, hwl, -, -, -⟩ := hs
  unfold willEq at hwl
  simp only [Bool.and_eq_true, beq_iff_eq] at hwl
  obtain ⟨-, -, -, -, w5⟩ := hwl
  have hq : (aloneQ p).wProps = zeroSl := by unfold aloneQ; rw [if_pos (by rw [hk]; decide)]; rfl
  rw [hq] at w5
  have hlw : lw = [] := by apply List.eq_nil_of_length_eq_zero; rw [← hw]; exact w5
  refine ⟨hv, hcode, ⟨fun e => ?_, fun _ => z3'⟩, hlw, h3⟩
  apply List.eq_nil_of_length_eq_zero
  rw [← hn]
  unfold rangesB at h4
  rw [if_pos (by rw [e]; decide)] at h4
  split at h4
  · cases h4
  · rename_i r1; simp at r1; omega
theorem ackFirst_bl (p : Pk) : ∃ x : UInt8, bl (ackFirst p) = [x] ∧ ((x.toNat : Int) == 1) = p.session ∧ decide ((x.toNat : Int) ≤ 1) = true := by
  unfold ackFirst
  cases p.session
  · exact ⟨0, rfl, by decide, by decide⟩
  · exact ⟨1, rfl, by decide, by decide⟩
theorem ack_at {v : Int} {p : Pk} {lw lp : List Prp} (h : AkOK v p lw lp) (hp : ∀ q ∈ lp, PrpOK q) {c : Cu} {r : List UInt8} (hc : At c (ackL v p lp ++ r)) :
    (numF c 1 == 1) = p.session ∧ numF (aC1 c) 1 = p.code ∧ (propsF v 2 (takeF (aC1 c) 1).2).1 = lp ∧ At (propsF v 2 (takeF (aC1 c) 1).2).2 r := by
  unfold ackL at hc
  simp only [List.append_assoc] at hc
  obtain ⟨x, hx, hx1, hx2⟩ := ackFirst_bl p
  rw [hx, List.singleton_append] at hc
  obtain ⟨n1, h1⟩ := num1_at hc
  have ha : aC1 c = (takeF c 1).2 := by unfold aC1; rw [n1]; exact unless_yes _ hx2 7
  rw [n1, hx1, ha]
  obtain ⟨y, hy, hyc⟩ := byte1 h.code.1 h.code.2
  rw [hy, List.singleton_append] at h1
  obtain ⟨n2, h2⟩ := num1_at h1
  rw [n2, hyc]
  obtain ⟨p1, h3⟩ := props_at h.props hp h2
  exact ⟨rfl, rfl, p1, h3⟩
theorem ack_back' {v : Int} {c : Cu} {r : List UInt8} (h : At c r) (he : (propsF v 2 (takeF (aC1 c) 1).2).2.err = 0) (ps : Sl) :
    ∃ rest, r = ackL v (mkAck (numF c 1 == 1) (numF (aC1 c) 1) ps) (propsF v 2 (takeF (aC1 c) 1).2).1 ++ rest ∧ At (propsF v 2 (takeF (aC1 c) 1).2).2 rest := by
  have e2 : (takeF (aC1 c) 1).2.err = 0 := by
    by_cases hq : (takeF (aC1 c) 1).2.err = 0
    · exact hq
    · rw [props_err hq] at he; exact he
  have e1 := take_back e2
  unfold aC1 at e1
  have e0 := unless_back' e1
  have hle := take_ok' h 1 e0
  obtain ⟨x, t, rfl⟩ := take1 hle
  obtain ⟨n1, h1⟩ := num1_at h
  obtain ⟨hu, hu2⟩ := unless_back h1 (by decide) e1
  have ha : aC1 c = (takeF c 1).2 := hu2
  rw [n1] at hu
  rw [ha] at he e2 ⊢
  have hle2 := take_ok' h1 1 e2
  obtain ⟨y, t2, rfl⟩ := take1 hle2
  obtain ⟨n2, h2⟩ := num1_at h1
  obtain ⟨-, rest, hr, h3⟩ := props_back h2 he
  refine ⟨rest, ?_, h3⟩
  have hb1 : bl (be1 (y.toNat : Int)) = [y] := by
    have := be1_get y
    simpa [getL] using this
  have hx : bl (ackFirst (mkAck ((x.toNat : Int) == 1) (y.toNat : Int) ps)) = [x] := by
    have hx2 : (x.toNat : Int) ≤ 1 := by simpa using hu
    rcases (show x.toNat = 0 ∨ x.toNat = 1 by omega) with e | e
    · have : x = 0 := UInt8.toNat_inj.1 e
      subst this; rfl
    · have : x = 1 := UInt8.toNat_inj.1 e
      subst this; rfl
  unfold ackL
  rw [n1, n2, hx, hr]
  show _ = [x] ++ (bl (be1 (y.toNat : Int)) ++ _) ++ rest
  rw [hb1]
  simp
/- Both. -/
theorem connB_snd (v : Int) (p : Pk) (lw lp : List Prp) : (connB v p lw lp).2 = connV v p lw lp := by
  unfold connB
  split
  · rfl
  · rename_i h
    have : connV v p lw lp = 0 := by simpa using h
    split <;> exact this.symm
theorem connB_bad {v : Int} {p : Pk} {lw lp : List Prp} (h : connV v p lw lp ≠ 0) : (connB v p lw lp).1 = ⟨#[]⟩ := by
  unfold connB
  rw [if_pos (by simpa using h)]
theorem connB_kind {v : Int} {p : Pk} {lw lp : List Prp} (h : connV v p lw lp = 0) : p.kind = 1 ∨ p.kind = 2 := by
  unfold connV at h
  split at h
  case isFalse => cases h
  split at h
  case isFalse => cases h
  rename_i h2
  unfold oursB at h2
  simpa using h2
theorem connB_known {v : Int} {p : Pk} {lw lp : List Prp} (h : connV v p lw lp = 0) : knownB v = true ∧ oursB p.kind = true := by
  unfold connV at h
  split at h
  case isFalse => cases h
  rename_i h1
  split at h
  case isFalse => cases h
  rename_i h2
  exact ⟨h1, h2⟩
theorem connB_con' {v : Int} {p : Pk} {lw lp : List Prp} (hk : p.kind = 1) (h : connV v p lw lp = 0) : bl (connB v p lw lp).1 = conL v p lw lp := by
  unfold connB
  rw [if_neg (by rw [h]; decide), if_neg (by rw [hk]; decide)]
  exact con3_bl hk
theorem connB_ack' {v : Int} {p : Pk} {lw lp : List Prp} (hk : p.kind = 2) (h : connV v p lw lp = 0) : bl (connB v p lw lp).1 = ackL v p lp := by
  unfold connB
  rw [if_neg (by rw [h]; decide), if_pos (by rw [hk]; decide)]
  exact ackB_is v p lp hk
/-- A packet is its own reading, but its lists' places. -/
theorem con_is {v : Int} {p : Pk} {lw lp : List Prp} (h : CnOK v p lw lp) (ps ws : Sl) : p = reSl (mkConn (flagsF p) p.keep ps p.client ws p.wTopic p.wPayload p.user p.pass) p.wProps p.codes p.filters p.props ∧ p.codes.n = 0 ∧ p.filters.n = 0 := by
  obtain ⟨f0, f1, f2, f3, f4, f5, f6, f7, f8⟩ := flags_all h
  have hs := h.same
  unfold sameEq at hs
  simp only [Bool.and_eq_true, beq_iff_eq] at hs
  obtain ⟨hb, -, hc, hf, -⟩ := hs
  obtain ⟨a0, a1, a2, a3, a4, a5, a6, a7, a8, a9, a10, a11, a12, a13, a14, a15, a16⟩ := bare_all hb
  have hq : (aloneQ p).qos = 0 ∧ (aloneQ p).id = 0 ∧ (aloneQ p).code = 0 ∧ (aloneQ p).dup = false ∧ (aloneQ p).retain = false ∧ (aloneQ p).session = false ∧ (aloneQ p).topic = ⟨#[]⟩ ∧ (aloneQ p).payload = ⟨#[]⟩ ∧ (aloneQ p).codes.n = 0 ∧ (aloneQ p).filters.n = 0 := by
    unfold aloneQ
    rw [if_neg (by rw [h.kind]; decide)]
    exact ⟨rfl, rfl, rfl, rfl, rfl, rfl, rfl, rfl, rfl, rfl⟩
  obtain ⟨q1, q2, q3, q4, q5, q6, q7, q8, q9, q10⟩ := hq
  rw [q1] at a1
  rw [q2] at a2
  rw [q3] at a4
  rw [q4] at a5
  rw [q5] at a6
  rw [q6] at a11
  rw [q7] at a12
  rw [q8] at a13
  rw [q9] at hc
  rw [q10] at hf
  have b12 := toL_nil a12
  have b13 := toL_nil a13
  have hk := h.kind
  refine ⟨?_, hc, hf⟩
  generalize flagsF p = f at *
  clear hb a0 a3 a7 a8 a9 a10 a12 a13 a14 a15 a16 q1 q2 q3 q4 q5 q6 q7 q8 q9 q10 hc hf h f0 f1 f8
  obtain ⟨kind, dup, retain, qos, id, topic, payload, clean, keep, client, hasUser, user, hasPass, pass, hasWill, wTopic, wPayload, wQoS, wRetain, wProps, session, code, codes, filters, props⟩ := p
  simp only [] at f2 f3 f4 f5 f6 f7 a1 a2 a4 a5 a6 a11 b12 b13 hk
  subst f2 f3 f4 f5 f6 f7 a1 a2 a4 a5 a6 a11 b12 b13 hk
  rfl
theorem ack_is' {v : Int} {p : Pk} {lw lp : List Prp} (hk : p.kind = 2) (h : AkOK v p lw lp) (ps : Sl) : p = reSl (mkAck p.session p.code ps) p.wProps p.codes p.filters p.props ∧ p.codes.n = 0 ∧ p.filters.n = 0 := by
  have hs := h.same
  unfold sameEq at hs
  simp only [Bool.and_eq_true, beq_iff_eq] at hs
  obtain ⟨hb, hw, hc, hf, -⟩ := hs
  unfold willEq at hw
  simp only [Bool.and_eq_true, beq_iff_eq] at hw
  obtain ⟨w1, w2, w3, w4, -⟩ := hw
  obtain ⟨a0, a1, a2, a3, a4, a5, a6, a7, a8, a9, a10, a11, a12, a13, a14, a15, a16⟩ := bare_all hb
  have hq : aloneQ p = { zeroPk with kind := p.kind, props := p.props, session := p.session, code := p.code } := by
    unfold aloneQ
    rw [if_pos (by rw [hk]; decide)]
  rw [hq] at w1 w2 w3 w4 a1 a2 a3 a5 a6 a7 a8 a9 a10 a12 a13 a14 a15 a16 hc hf
  have b0 := toL_nil w1
  have b1 := toL_nil w2
  have b12 := toL_nil a12
  have b13 := toL_nil a13
  have b14 := toL_nil a14
  have b15 := toL_nil a15
  have b16 := toL_nil a16
  refine ⟨?_, hc, hf⟩
  clear hb hq w1 w2 a0 a4 a11 a12 a13 a14 a15 a16 hc hf h
  obtain ⟨kind, dup, retain, qos, id, topic, payload, clean, keep, client, hasUser, user, hasPass, pass, hasWill, wTopic, wPayload, wQoS, wRetain, wProps, session, code, codes, filters, props⟩ := p
  simp only [zeroPk] at w3 w4 a1 a2 a3 a5 a6 a7 a8 a9 a10 b0 b1 b12 b13 b14 b15 b16 hk
  subst w3 w4 a1 a2 a3 a5 a6 a7 a8 a9 a10 b0 b1 b12 b13 b14 b15 b16 hk
  rfl
/-- What is read of a body, whatever stands behind it. -/
theorem got_at {v : Int} {p : Pk} {lw lp : List Prp} (hn : p.props.n = lp.length) (hw : p.wProps.n = lw.length) (hp : ∀ q ∈ lp, PrpOK q) (hpw : ∀ q ∈ lw, PrpOK q) (h : connV v p lw lp = 0) {s : ByteArray} {r : List UInt8} (hz : s.size ≤ 140737488351232) (hs : bl s = bl (connB v p lw lp).1 ++ r) :
    (gotF v p.kind s).lp = lp ∧ (gotF v p.kind s).lw = lw ∧ At (gotF v p.kind s).c r ∧ ∀ ps ws, p = reSl ((gotF v p.kind s).pk ps ws) p.wProps p.codes p.filters p.props ∧ p.codes.n = 0 ∧ p.filters.n = 0 := by
  have hA := at_new s hz
  rw [hs] at hA
  rcases connB_kind h with hk | hk
  · have hc := cnOK_of hk hn hw h
    rw [connB_con' hk h] at hA
    obtain ⟨c', hE, hat⟩ := conn_at hc hw hp hpw hA
    have hg : gotF v p.kind s = conGot v (newCu s) := by unfold gotF; rw [if_pos hk]
    rw [hg]
    unfold conGot
    rw [hE]
    exact ⟨rfl, rfl, hat, fun ps ws => con_is hc ps ws⟩
  · have hc := akOK_of hk hn hw h
    rw [connB_ack' hk h] at hA
    obtain ⟨n1, n2, n3, hat⟩ := ack_at hc hp hA
    have hg : gotF v p.kind s = ackGot v (newCu s) := by unfold gotF; rw [if_neg (by rw [hk]; decide)]
    rw [hg]
    unfold ackGot
    rw [n1, n2]
    exact ⟨n3, hc.lw.symm, hat, fun ps ws => ack_is' hk hc ps⟩
theorem endC_at {c : Cu} (h : At c []) : (endC c).err = 0 := by rw [end_ok h]; exact h.err
/-- A packet is read from its body. -/
theorem read_body {v : Int} {p : Pk} {lw lp : List Prp} (hn : p.props.n = lp.length) (hw : p.wProps.n = lw.length) (hp : ∀ q ∈ lp, PrpOK q) (hpw : ∀ q ∈ lw, PrpOK q) (h : connV v p lw lp = 0) (hz : (connB v p lw lp).1.size ≤ 140737488351232) : rdE v p.kind (connB v p lw lp).1 = 0 := by
  obtain ⟨h1, h2, h3, h4⟩ := got_at (r := []) hn hw hp hpw h hz (by rw [List.append_nil])
  obtain ⟨k1, k2⟩ := connB_known h
  unfold rdE
  rw [if_pos k1, if_pos k2]
  unfold gotE
  rw [if_neg (by rw [endC_at h3]; decide)]
  have e := (h4 (lenS (gotF v p.kind (connB v p lw lp).1).lp.length) (lenS (gotF v p.kind (connB v p lw lp).1).lw.length))
  have hre := gotV v p.kind (connB v p lw lp).1 p.props p.wProps (by rw [h1]; exact hn) (by rw [h2]; exact hw)
  rw [← hre, h1, h2]
  have e2 := h4 p.props p.wProps
  have e3 := connV_re v ((gotF v p.kind (connB v p lw lp).1).pk p.props p.wProps) p.wProps p.codes p.filters p.props lw lp
  rw [← e2.1, h] at e3
  have e4 := got_n v p.kind (connB v p lw lp).1 p.props p.wProps
  rcases e4 with ⟨q1, q2, q3, q4⟩
  exact (e3 (by rcases q1 with q | ⟨q, q0⟩ <;> rw [q]; rw [hw, ← h2, q0]; rfl) (by rw [q2]; exact e2.2.1) (by rw [q3]; exact e2.2.2) (by rw [q4])).symm
end Go.Proofs.YtjlkhihlbdokpaaGreat
/- connect.Read and Body in plain Lean: what is read is written as the same, a truncated body is not valid, the flags' error. -/
namespace Go.Proofs.YtjlkhihlbdokpaaGreat
open Go.RowKit
set_option maxHeartbeats 2000000
set_option linter.unusedVariables false
set_option linter.unusedSimpArgs false
theorem rd_ok {v kind : Int} {s : ByteArray} (h : rdE v kind s = 0) : (v = 4 ∨ v = 5) ∧ (kind = 1 ∨ kind = 2) ∧ (endC (gotF v kind s).c).err = 0 ∧ connV v ((gotF v kind s).pk (lenS (gotF v kind s).lp.length) (lenS (gotF v kind s).lw.length)) (gotF v kind s).lw (gotF v kind s).lp = 0 := by
  unfold rdE at h
  split at h
  case isFalse => cases h
  rename_i h1
  split at h
  case isFalse => cases h
  rename_i h2
  unfold gotE at h
  split at h
  · rename_i h3; exact absurd h h3
  · rename_i h3
    unfold knownB at h1
    unfold oursB at h2
    exact ⟨by simpa using h1, by simpa using h2, by simpa using h3, h⟩
theorem endC_0 {c : Cu} (h : (endC c).err = 0) : c.err = 0 := by
  by_cases hq : c.err = 0
  · exact hq
  · exact absurd h (end_err hq)
/-- What is read is valid, and is written as the same. -/
theorem read_back {v kind : Int} {s : ByteArray} (h : rdE v kind s = 0) (hz : s.size ≤ 140737488351232) (ps ws : Sl) (h1 : ps.n = (gotF v kind s).lp.length) (h2 : ws.n = (gotF v kind s).lw.length) :
    connB v ((gotF v kind s).pk ps ws) (gotF v kind s).lw (gotF v kind s).lp = (s, 0) ∧ ((gotF v kind s).pk ps ws).kind = kind ∧ connV v ((gotF v kind s).pk ps ws) (gotF v kind s).lw (gotF v kind s).lp = 0 := by
  obtain ⟨hv, hk, he, hV⟩ := rd_ok h
  have hV2 := gotV v kind s ps ws h1 h2
  rw [hV] at hV2
  have hA := at_new s hz
  have he0 := endC_0 he
  have hsnd := connB_snd v ((gotF v kind s).pk ps ws) (gotF v kind s).lw (gotF v kind s).lp
  rw [hV2] at hsnd
  rcases hk with hk | hk
  · have hg : gotF v kind s = conGot v (newCu s) := by unfold gotF; rw [if_pos hk]
    rw [hg] at he he0 hV2 hsnd ⊢
    obtain ⟨-, -, -, rest, hr, hat⟩ := conn_back hv hA he0 ps ws
    have hrest := (end_at hat).1 he
    rw [hrest, List.append_nil] at hr
    have hb := connB_con' (p := (conGot v (newCu s)).pk ps ws) rfl hV2
    have : (connB v ((conGot v (newCu s)).pk ps ws) (conGot v (newCu s)).lw (conGot v (newCu s)).lp).1 = s := bl_inj (hb.trans hr.symm)
    exact ⟨Prod.ext this hsnd, hk.symm, hV2⟩
  · have hg : gotF v kind s = ackGot v (newCu s) := by unfold gotF; rw [if_neg (by rw [hk]; decide)]
    rw [hg] at he he0 hV2 hsnd ⊢
    obtain ⟨rest, hr, hat⟩ := ack_back' hA he0 ps
    have hrest := (end_at hat).1 he
    rw [hrest, List.append_nil] at hr
    have hb := connB_ack' (p := (ackGot v (newCu s)).pk ps ws) rfl hV2
    have : (connB v ((ackGot v (newCu s)).pk ps ws) (ackGot v (newCu s)).lw (ackGot v (newCu s)).lp).1 = s := bl_inj (hb.trans hr.symm)
    exact ⟨Prod.ext this hsnd, hk.symm, hV2⟩
/-- A truncated body is not valid. -/
theorem cut_bad {v : Int} {p : Pk} {lw lp : List Prp} (hn : p.props.n = lp.length) (hw : p.wProps.n = lw.length) (hp : ∀ q ∈ lp, PrpOK q) (hpw : ∀ q ∈ lw, PrpOK q) (h : connV v p lw lp = 0) (hz : (connB v p lw lp).1.size ≤ 140737488351232)
    {s : ByteArray} {r : List UInt8} (hr : r ≠ []) (hs : bl (connB v p lw lp).1 = bl s ++ r) (h1 : ∀ q ∈ (gotF v p.kind s).lp, PrpOK q) (h2 : ∀ q ∈ (gotF v p.kind s).lw, PrpOK q) : rdE v p.kind s ≠ 0 := by
  intro h0
  have hzs : s.size ≤ 140737488351232 := by
    have := congrArg List.length hs
    rw [List.length_append, bl_len, bl_len] at this; omega
  obtain ⟨hb, hk, hV⟩ := read_back h0 hzs (lenS (gotF v p.kind s).lp.length) (lenS (gotF v p.kind s).lw.length) rfl rfl
  obtain ⟨-, -, a1, -⟩ := got_at (r := []) hn hw hp hpw h hz (by rw [List.append_nil])
  have hn2 := got_n v p.kind s (lenS (gotF v p.kind s).lp.length) (lenS (gotF v p.kind s).lw.length)
  generalize (gotF v p.kind s).pk (lenS (gotF v p.kind s).lp.length) (lenS (gotF v p.kind s).lw.length) = q at *
  obtain ⟨-, -, a2, -⟩ := got_at (p := q) (r := r) (s := (connB v p lw lp).1) (by rw [hn2.2.2.2]; rfl) (by rcases hn2.1 with e | ⟨e, e0⟩ <;> rw [e]; exact rfl; rw [e0]; rfl) h1 h2 hV hz (by rw [hb]; exact hs)
  rw [hk] at a2
  exact hr (a2.rm.symm.trans a1.rm)
/- The error of flags: 7. -/
def N7 (c : Cu) : Prop := c.err ≠ 7
theorem fail_n7 {c : Cu} (h : N7 c) {e : Int} (he : e ≠ 7) : N7 (failF c e) := by unfold failF; split; exact he; exact h
theorem take_n7 {c : Cu} (h : N7 c) (n : Int) : N7 (takeF c n).2 := by
  unfold takeF
  split
  · split
    · exact h
    · show (3 : Int) ≠ 7; decide
  · exact h
theorem unless_n7 {c : Cu} (h : N7 c) (b : Bool) {e : Int} (he : e ≠ 7) : N7 (unlessF c b e) := by unfold unlessF; split; exact h; exact fail_n7 h he
theorem binary_n7 {c : Cu} (h : N7 c) : N7 (binaryF c).2 := take_n7 (take_n7 h _) _
theorem text_n7 {c : Cu} (h : N7 c) : N7 (textF c).2 := unless_n7 (binary_n7 h) _ (by decide)
theorem need_n7 {c : Cu} (h : N7 c) (n : Int) : N7 (needF c n).2 := by
  unfold needF
  split
  · exact take_n7 (fail_n7 h (by decide)) n
  · exact take_n7 h n
theorem data_n7 {c : Cu} (h : N7 c) : N7 (dataF c).2 := need_n7 (need_n7 h _) _
theorem written_n7 {c : Cu} (h : N7 c) : N7 (writtenF c).2 := by
  unfold writtenF
  simp only []
  split
  · exact data_n7 h
  · exact fail_n7 (data_n7 h) (by decide)
theorem vi_n7 : ∀ (f : Nat) (s : ByteArray) (k : Nat) (z : Int), (viGo f s k z).2.2 ≠ 7
  | 0, s, k, z => by rw [viGo]; decide
  | f + 1, s, k, z => by
    rw [viGo]
    split
    · simp only []
      split
      · split
        · exact show (0 : Int) ≠ 7 by decide
        · exact vi_n7 f _ _ _
      · show (pushR k z _).2.1 ≠ 7
        unfold pushR
        split
        · show (if (k == 3) = true then (5 : Int) else 0) ≠ 7
          split <;> decide
        · split
          · exact show (5 : Int) ≠ 7 by decide
          · exact show (0 : Int) ≠ 7 by decide
    · decide
theorem vary_n7 {c : Cu} (h : N7 c) : N7 (varyC c) := by
  unfold varyC
  split
  · exact take_n7 (fail_n7 h (by decide)) _
  · exact take_n7 h _
theorem readP_n7 (sh : Int) (p : Prp) {c : Cu} (h : N7 c) : N7 (readP sh p c).2 := by
  unfold readP
  split
  · exact need_n7 h _
  · split
    · exact need_n7 h _
    · split
      · exact need_n7 h _
      · split
        · exact vary_n7 h
        · split
          · exact written_n7 h
          · split
            · exact data_n7 h
            · exact written_n7 (written_n7 h)
theorem check_n7 (r : Rule) (kind : Int) (p : Prp) : checkC r kind p ≠ 7 := by
  unfold checkC chknF
  repeat' split
  all_goals decide
theorem listGo_n7 : ∀ (m : Nat) (kind : Int) (c : Cu) (f : Nat → Int) (out : List Prp), N7 c → (listGo m kind c f out).2 ≠ 7
  | 0, kind, c, f, out, h => by rw [listGo]; decide
  | m + 1, kind, c, f, out, h => by
    rw [listGo]
    split
    · split
      · simp only []
        split
        · split
          · split
            · decide
            · split
              · decide
              · exact listGo_n7 m kind _ _ _ (readP_n7 _ _ (take_n7 h _))
          · exact check_n7 _ _ _
        · exact readP_n7 _ _ (take_n7 h _)
      · decide
    · split
      · exact show (9 : Int) ≠ 7 by decide
      · exact show (0 : Int) ≠ 7 by decide
theorem pread_n7 (kind : Int) (s : ByteArray) : (preadF kind s).2.2 ≠ 7 := by
  unfold preadF
  split
  · split
    · decide
    · simp only []
      split
      · exact show (0 : Int) ≠ 7 by decide
      · exact listGo_n7 _ _ _ _ _ (show (0 : Int) ≠ 7 by decide)
  · exact vi_n7 _ _ _ _
theorem props_n7 {c : Cu} (h : N7 c) (v k : Int) : N7 (propsF v k c).2 := by
  unfold propsF
  split
  · exact h
  · split
    · exact h
    · exact take_n7 (fail_n7 h (pread_n7 _ _)) _
theorem end_n7 {c : Cu} (h : N7 c) : N7 (endC c) := by unfold endC; split; exact fail_n7 h (by decide); exact h
theorem cW_n7 {c : Cu} (h : N7 c) (v : Int) (b : Bool) : N7 (cW v b c).2.2.2 := by
  unfold cW
  split
  · exact binary_n7 (text_n7 (props_n7 h _ _))
  · exact h
theorem cU_n7 {c : Cu} (h : N7 c) (b : Bool) : N7 (cU b c).2 := by
  unfold cU
  split
  · exact text_n7 h
  · exact h
theorem cP_n7 {c : Cu} (h : N7 c) (b : Bool) : N7 (cP b c).2 := by
  unfold cP
  split
  · exact binary_n7 h
  · exact h
theorem bytesGo_n7 (kind : Int) : ∀ (l : List Prp) (f : Nat → Int) (out : List Int), (bytesGo kind l f out).2 ≠ 7
  | [], f, out => by
    rw [bytesGo]
    split
    · exact show (9 : Int) ≠ 7 by decide
    · exact show (0 : Int) ≠ 7 by decide
  | p :: t, f, out => by
    rw [bytesGo]
    split
    · split
      · decide
      · exact bytesGo_n7 kind t _ _
    · exact check_n7 _ _ _
theorem bytes_n7 (kind : Int) (l : List Prp) : (bytesF kind l).2 ≠ 7 := by
  unfold bytesF
  split
  · exact bytesGo_n7 _ _ _ _
  · decide
theorem sizes_n7 (p : Pk) (lw lp : List Prp) : sizesC p lw lp ≠ 7 := by
  unfold sizesC
  split
  · decide
  · split
    · decide
    · split
      · exact bytes_n7 _ _
      · exact bytes_n7 _ _
theorem connV_n7 (v : Int) (p : Pk) (lw lp : List Prp) : connV v p lw lp ≠ 7 := by
  unfold connV
  repeat' split
  all_goals first | decide | exact sizes_n7 _ _ _
theorem end_7 {c : Cu} (h : c.err = 7) : (endC c).err = 7 := by
  unfold endC
  split
  · rw [fail_err (by rw [h]; decide)]; exact h
  · exact h
/-- The flags' byte decides alone whether the flags' error is told. -/
theorem flags_rd {v : Int} (hv : v = 4 ∨ v = 5) {s : ByteArray} (hz : s.size ≤ 140737488351232) {x : UInt8} {r : List UInt8} (hs : bl s = bl nameS ++ (bl (be1 v) ++ (x :: r))) : (rdE v 1 s = 7) ↔ flagB v (x.toNat : Int) = false := by
  have hA := at_new s hz
  rw [hs] at hA
  have h1 := cH_at (by rcases hv with e | e <;> omega) (by rcases hv with e | e <;> omega) hA
  obtain ⟨hn, h2⟩ := num1_at h1
  have hE : rdE v 1 s = gotE v (conGot v (newCu s)) := by
    unfold rdE
    rw [if_pos (by unfold knownB; rcases hv with e | e <;> rw [e] <;> rfl), if_pos (show oursB 1 = true from rfl)]
    rfl
  rw [hE]
  have h3 : cC3 v (cH v (newCu s)) = unlessF (takeF (cH v (newCu s)) 1).2 (flagB v (x.toNat : Int)) 7 := by unfold cC3; rw [hn]
  cases hf : flagB v (x.toNat : Int)
  · simp only [iff_true]
    have h4 : (cC3 v (cH v (newCu s))).err = 7 := by
      rw [h3, hf]
      unfold unlessF
      rw [if_neg Bool.false_ne_true]
      exact fail_at h2 7
    have hne : (cC3 v (cH v (newCu s))).err ≠ 0 := by rw [h4]; decide
    have hc : (connF v (newCu s)).c = cC3 v (cH v (newCu s)) := by
      have e1 : (takeF (cC3 v (cH v (newCu s))) 2).2 = cC3 v (cH v (newCu s)) := by rw [take_err hne]
      have e2 : cT v (newCu s) = (⟨#[]⟩, cC3 v (cH v (newCu s))) := by
        unfold cT
        rw [e1, props_err hne]
        exact text_err hne
      unfold connF
      simp only []
      rw [e2]
      simp only []
      rw [cW_err hne]
      have u := cU_err hne (fb (numF (cH v (newCu s)) 1) 128)
      have a := cP_err hne (fb (numF (cH v (newCu s)) 1) 64)
      rw [u, a]
    have h5 : (endC (conGot v (newCu s)).c).err = 7 := end_7 (show (connF v (newCu s)).c.err = 7 by rw [hc]; exact h4)
    unfold gotE
    rw [if_pos (by rw [h5]; decide), h5]
  · simp only [Bool.true_eq_false, iff_false]
    have h4 : N7 (cC3 v (cH v (newCu s))) := by
      rw [h3, hf, unless_yes _ rfl]
      exact show (takeF (cH v (newCu s)) 1).2.err ≠ 7 by rw [h2.err]; decide
    have h5 : N7 (connF v (newCu s)).c := cP_n7 (cU_n7 (cW_n7 (text_n7 (props_n7 (take_n7 h4 _) _ _)) _ _) _) _
    have h6 := end_n7 (c := (conGot v (newCu s)).c) h5
    unfold gotE
    split
    · exact h6
    · exact connV_n7 _ _ _ _
/-- Which flags are wrong, as the statement says it. -/
def wrongB (v c : Int) : Bool := c % 2 == 1 || c / 8 % 4 == 3 || !(c / 4 % 2 == 1) && c / 8 % 8 != 0 || v == 4 && c / 64 == 1
theorem wrong_all : ∀ c : Fin 256, flagB 4 (c.val : Int) = !wrongB 4 (c.val : Int) ∧ flagB 5 (c.val : Int) = !wrongB 5 (c.val : Int) := by decide +kernel
theorem wrong_is {v : Int} (hv : v = 4 ∨ v = 5) (x : UInt8) : flagB v (x.toNat : Int) = !wrongB v (x.toNat : Int) := by
  have h := wrong_all ⟨x.toNat, x.toNat_lt⟩
  rcases hv with rfl | rfl
  · exact h.1
  · exact h.2
end Go.Proofs.YtjlkhihlbdokpaaGreat
/- connect.Read. -/
namespace Go.Proofs.YtjlkhihlbdokpaaGreat
open Go.RowKit Go.Sort
set_option maxHeartbeats 2000000
set_option linter.unusedVariables false
set_option linter.unusedSimpArgs false
structure RD (w wn : World) (v : Int) (p : Pk) (c : Cu) : Prop where
  res : wn.heap[w.heap.size]? = some (.cells (packC zeroPk) 28 (0, 0))
  cu : CurAt wn (w.heap.size + 1) c
  box : wn.heap[w.heap.size + 2]? = some (.cells (rdrC (w.heap.size + 1) v) 65 (0, 0))
  pk : wn.heap[w.heap.size + 3]? = some (.cells (packC p) 28 (0, 0))
  bel : Below w.heap.size w wn
theorem RD.size {w wn : World} {v : Int} {p : Pk} {c : Cu} (h : RD w wn v p c) : w.heap.size + 3 < wn.heap.size := (Array.getElem?_eq_some_iff.1 h.pk).1
theorem RD.cur {w wn wm : World} {v : Int} {p : Pk} {c c' : Cu} (h : RD w wn v p c) (hc : CurAt wm (w.heap.size + 1) c') (hg : wn.grownBy wm (some (w.heap.size + 1))) : RD w wm v p c' :=
  ⟨row_grown h.res hg (by omega), hc, row_grown h.box hg (by omega), row_grown h.pk hg (by omega), grown_below h.bel hg (by omega)⟩
theorem RD.put {w wn wm : World} {v : Int} {p p' : Pk} {c : Cu} (h : RD w wn v p c) (hp : wm.heap[w.heap.size + 3]? = some (.cells (packC p') 28 (0, 0))) (hg : wn.grownBy wm (some (w.heap.size + 3))) : RD w wm v p' c :=
  ⟨row_grown h.res hg (by omega), row_grown h.cu hg (by omega), row_grown h.box hg (by omega), hp, grown_below h.bel hg (by omega)⟩
theorem RD.below {w wn wm : World} {v : Int} {p : Pk} {c : Cu} (h : RD w wn v p c) (hb : Below wn.heap.size wn wm) : RD w wm v p c :=
  ⟨row_then h.res hb, cur_below h.cu hb, row_then h.box hb, row_then h.pk hb, ext_then' h.bel hb⟩
theorem RD.drew {w wn : World} {v : Int} {p : Pk} {c : Cu} (h : RD w wn v p c) : RD w wn.drew v p c := ⟨h.res, h.cu, h.box, h.pk, h.bel.drew⟩
theorem RD.cells {w wn : World} {v : Int} {p : Pk} {c : Cu} (h : RD w wn v p c) : wn.cell? ⟨w.heap.size + 2, 0, none⟩ = some (.pointer (some ⟨w.heap.size + 1, 0, none⟩)) ∧ wn.cell? ⟨w.heap.size + 2, 1, none⟩ = some (.int .i64 v) :=
  ⟨by rw [cell_of_row _ _ _ _ _ _ h.box]; rfl, by rw [cell_of_row _ _ _ _ _ _ h.box]; rfl⟩
/-- What connect.Read leaves of a reading. -/
def rdP (v kind : Int) (s : ByteArray) : List Prp := if rdE v kind s = 0 then (gotF v kind s).lp else []
def rdW (v kind : Int) (s : ByteArray) : List Prp := if rdE v kind s = 0 then (gotF v kind s).lw else []
def rdK (v kind : Int) (s : ByteArray) (ps ws : Sl) : Pk := if rdE v kind s = 0 then (gotF v kind s).pk ps ws else zeroPk
theorem rd_start {w w3 : World} {v : Int} {c : Cu} (hr : w3.heap[w.heap.size]? = some (.cells (packC zeroPk) 28 (0, 0))) (hc : CurAt w3 (w.heap.size + 1) c) (hb : Below w.heap.size w w3) (hz : w3.heap.size = w.heap.size + 2) :
    RD w ((w3.alloc (.cells (rdrC (w.heap.size + 1) v) 65)).alloc (.cells (packC zeroPk) 28)) v zeroPk c := by
  have hbox := heap_alloc2_old w3 (.cells (rdrC (w.heap.size + 1) v) 65) (.cells (packC zeroPk) 28)
  have hpk := heap_alloc2_new w3 (.cells (rdrC (w.heap.size + 1) v) 65) (.cells (packC zeroPk) 28)
  rw [hz] at hbox hpk
  exact ⟨by rw [heap_alloc2_old' _ _ _ _ (by omega)]; exact hr, cur_alloc (cur_alloc hc _) _, hbox, hpk, (hb.alloc hb.size _).alloc (by have := hb.size; simp; omega) _⟩
theorem rcon_got (g : Nat) (v : Int) (s : ByteArray) (w : World) (h : CurAt w g (newCu s)) (hs : s.size ≤ 140737488351232) (v0 : 0 ≤ v) (v1 : v < 256) : Calls Tryz.prog 56 #[.agg (rdrC g v)] w fun e w' => ∃ ps ws : Sl, LsAt w' w.heap.size ps (gotF v 1 s).lp ∧ LsAt w' w.heap.size ws (gotF v 1 s).lw ∧ e = .returned (.agg (packC ((gotF v 1 s).pk ps ws))) ∧ CurAt w' g (gotF v 1 s).c ∧ w.grownBy w' (some g) := by
  refine (rconnect_1 g v (newCu s) w h ⟨Nat.zero_le _, hs⟩ v0 v1).mono ?_
  rintro e w' ⟨ps, ws, h1, h2, h3, h4, h5⟩
  exact ⟨ps, ws, ls_mono h1 (by omega), ls_mono h2 (by omega), h3, h4, h5⟩
theorem rack_got (g : Nat) (v : Int) (s : ByteArray) (w : World) (h : CurAt w g (newCu s)) (hs : s.size ≤ 140737488351232) : Calls Tryz.prog 57 #[.agg (rdrC g v)] w fun e w' => ∃ ps ws : Sl, LsAt w' w.heap.size ps (gotF v 2 s).lp ∧ LsAt w' w.heap.size ws (gotF v 2 s).lw ∧ e = .returned (.agg (packC ((gotF v 2 s).pk ps ws))) ∧ CurAt w' g (gotF v 2 s).c ∧ w.grownBy w' (some g) := by
  refine (rconnack_t g v (newCu s) w h ⟨Nat.zero_le _, hs⟩).mono ?_
  rintro e w' ⟨ps, h1, h3, h4, h5⟩
  exact ⟨ps, nilS, ls_mono h1 (by omega), ls_nil _ _, h3, h4, h5⟩
theorem cu_chain {c : Cu} (ok : CuOK c) (v : Int) : CuOK (cH v c) ∧ CuOK (cC3 v (cH v c)) ∧ CuOK (takeF (cC3 v (cH v c)) 2).2 ∧ CuOK (propsF v 1 (takeF (cC3 v (cH v c)) 2).2).2 ∧ CuOK (cT v c).2 := by
  have h1 : CuOK (cC1 c) := unlessF_ok (takeF_ok ok 6) _ _
  have h2 : CuOK (cH v c) := unlessF_ok (takeF_ok h1 1) _ _
  have h3 : CuOK (cC3 v (cH v c)) := unlessF_ok (takeF_ok h2 1) _ _
  have h4 := takeF_ok h3 2
  have h5 := propsF_ok h4 v 1
  exact ⟨h2, h3, h4, h5, textF_ok h5⟩
theorem mt_size : (⟨#[]⟩ : ByteArray).size ≤ 65535 := Nat.zero_le _
theorem cW_ok {c : Cu} (ok : CuOK c) (v : Int) (b : Bool) : CuOK (cW v b c).2.2.2 ∧ (cW v b c).2.1.size ≤ 65535 ∧ (cW v b c).2.2.1.size ≤ 65535 := by
  unfold cW
  split
  · have h1 := propsF_ok ok v 16
    have h2 := textF_ok h1
    exact ⟨binaryF_ok h2, binaryF_size h1, binaryF_size h2⟩
  · exact ⟨ok, mt_size, mt_size⟩
theorem cU_ok {c : Cu} (ok : CuOK c) (b : Bool) : CuOK (cU b c).2 ∧ (cU b c).1.size ≤ 65535 := by
  unfold cU
  split
  · exact ⟨textF_ok ok, binaryF_size ok⟩
  · exact ⟨ok, mt_size⟩
theorem cP_ok {c : Cu} (ok : CuOK c) (b : Bool) : CuOK (cP b c).2 ∧ (cP b c).1.size ≤ 65535 := by
  unfold cP
  split
  · exact ⟨binaryF_ok ok, binaryF_size ok⟩
  · exact ⟨ok, mt_size⟩
theorem qos_bd (f : Int) : 0 ≤ qosF f ∧ qosF f < 4 := and3_bd _
theorem connF_bd {c : Cu} (ok : CuOK c) (v : Int) : CuOK (connF v c).c ∧ (0 ≤ (connF v c).keep ∧ (connF v c).keep < 4294967296) ∧ (connF v c).client.size ≤ 65535 ∧ (connF v c).wt.size ≤ 65535 ∧ (connF v c).wp.size ≤ 65535 ∧ (connF v c).user.size ≤ 65535 ∧ (connF v c).pass.size ≤ 65535 := by
  obtain ⟨h2, h3, h4, h5, h6⟩ := cu_chain ok v
  have hk := numF_bd h3 (k := 2) (by decide)
  have ht : (cT v c).1.size ≤ 65535 := binaryF_size h5
  unfold connF
  simp only []
  generalize fb (numF (cH v c) 1) 4 = b4
  generalize fb (numF (cH v c) 1) 128 = b128
  generalize fb (numF (cH v c) 1) 64 = b64
  have hw := cW_ok h6 v b4
  have hu := cU_ok hw.1 b128
  have ha := cP_ok hu.1 b64
  exact ⟨ha.1, hk, ht, hw.2.1, hw.2.2, hu.2, ha.2⟩
theorem got_ok (v kind : Int) (s : ByteArray) (hs : s.size ≤ 140737488351232) : CuOK (gotF v kind s).c ∧ ∀ ps ws : Sl, ps.n ≤ 140737488351232 → ws.n ≤ 140737488351232 → PkOK ((gotF v kind s).pk ps ws) := by
  have ok : CuOK (newCu s) := ⟨Nat.zero_le _, hs⟩
  unfold gotF
  split
  · obtain ⟨b0, ⟨k0, k1⟩, b1, b2, b3, b4, b5⟩ := connF_bd ok v
    unfold conGot
    generalize connF v (newCu s) = R at *
    obtain ⟨q0, q1⟩ := qos_bd R.f
    refine ⟨b0, fun ps ws hp hws => ⟨by show (-9223372036854775808 : Int) ≤ 1 ∧ (1 : Int) ≤ 9223372036854775807; decide, zero_ok.qos, zero_ok.id, ⟨?_, ?_⟩, ⟨?_, ?_⟩, zero_ok.code, zero_ok.topic, zero_ok.payload, ?_, ?_, ?_, ?_, ?_, hws, hp⟩⟩
    · exact Int.le_trans (by decide) k0
    · exact Int.le_trans (Int.le_of_lt k1) (by decide)
    · exact Int.le_trans (by decide) q0
    · exact Int.le_trans (Int.le_of_lt q1) (by decide)
    · exact Nat.le_trans b1 (by decide)
    · exact Nat.le_trans b4 (by decide)
    · exact Nat.le_trans b5 (by decide)
    · exact Nat.le_trans b2 (by decide)
    · exact Nat.le_trans b3 (by decide)
  · have h1 : CuOK (aC1 (newCu s)) := unlessF_ok (takeF_ok ok 1) _ _
    have h2 := takeF_ok h1 1
    obtain ⟨k0, k1⟩ := numF_bd h1 (k := 1) (by decide)
    unfold ackGot
    refine ⟨propsF_ok h2 v 2, ?_⟩
    generalize numF (aC1 (newCu s)) 1 = code at *
    intro ps ws hp hws
    refine ⟨by show (-9223372036854775808 : Int) ≤ 2 ∧ (2 : Int) ≤ 9223372036854775807; decide, zero_ok.qos, zero_ok.id, zero_ok.keep, zero_ok.wQoS, ⟨?_, ?_⟩, zero_ok.topic, zero_ok.payload, zero_ok.client, zero_ok.user, zero_ok.pass, zero_ok.wTopic, zero_ok.wPayload, zero_ok.wN, hp⟩
    · exact Int.le_trans (by decide) k0
    · exact Int.le_trans (Int.le_of_lt k1) (by decide)
theorem got_RP (v kind : Int) (s : ByteArray) (ps ws : Sl) : (∀ w' B, LsAt w' B ws (gotF v kind s).lw → RP w' ((gotF v kind s).pk ps ws).wProps.A ((gotF v kind s).pk ps ws).wProps.n (gotF v kind s).lw) ∧ (∀ w' B, LsAt w' B ps (gotF v kind s).lp → RP w' ((gotF v kind s).pk ps ws).props.A ((gotF v kind s).pk ps ws).props.n (gotF v kind s).lp) := by
  unfold gotF
  split
  · exact ⟨fun w' B h => (ls_RP h).2, fun w' B h => (ls_RP h).2⟩
  · exact ⟨fun w' B h => nil_RP0 w', fun w' B h => (ls_RP h).2⟩
theorem len_nil : ([] : List Prp).length ≤ 1000 := by decide
theorem len_more {out : List Prp} {p : Prp} (h : out.length ≤ 1000) (hne : ¬ out.length = 1000) : (out ++ [p]).length ≤ 1000 := by rw [List.length_append]; simp; omega
theorem listGo_len : ∀ (m : Nat) (kind : Int) (c : Cu) (f : Nat → Int) (out : List Prp), out.length ≤ 1000 → (listGo m kind c f out).1.length ≤ 1000
  | 0, kind, c, f, out, h => by rw [listGo]; exact len_nil
  | m + 1, kind, c, f, out, h => by
    rw [listGo]
    split
    · split
      · simp only []
        split
        · split
          · split
            · exact len_nil
            · split
              · exact len_nil
              · rename_i hne
                exact listGo_len m kind _ _ _ (len_more h hne)
          · exact len_nil
        · exact len_nil
      · exact len_nil
    · split
      · exact len_nil
      · exact h
theorem listF_len (k : Int) (s : ByteArray) : (listF k s).1.length ≤ 1000 := by
  unfold listF
  exact listGo_len 1001 k _ _ _ len_nil
theorem pread_len (k : Int) (s : ByteArray) : (preadF k s).1.length ≤ 1000 := by
  unfold preadF
  simp only []
  generalize hL : listF k _ = L
  have hlen : L.1.length ≤ 1000 := by rw [← hL]; exact listF_len k _
  clear hL
  generalize viRead s = q
  obtain ⟨l, e⟩ := L
  split
  · split
    · exact len_nil
    · split
      · exact hlen
      · exact len_nil
  · exact len_nil
theorem props_len (v k : Int) (c : Cu) : (propsF v k c).1.length ≤ 1000 := by
  have h := pread_len k (restF c)
  unfold propsF
  generalize preadF k (restF c) = q at *
  split
  · exact len_nil
  · split
    · exact len_nil
    · exact h
theorem got_len (v kind : Int) (s : ByteArray) : (gotF v kind s).lp.length ≤ 1000 ∧ (gotF v kind s).lw.length ≤ 1000 := by
  unfold gotF
  split
  · refine ⟨props_len _ _ _, ?_⟩
    show (cW v _ _).1.length ≤ 1000
    unfold cW
    split
    · exact props_len _ _ _
    · exact Nat.zero_le _
  · exact ⟨props_len _ _ _, Nat.zero_le _⟩
theorem endC_is {c : Cu} (ok : CuOK c) : unlessF c (leftF c == 0) 5 = endC c := by
  have h := ok.pos
  unfold unlessF endC leftF
  by_cases h0 : (c.s.size : Int) - (c.pos : Int) = 0
  · rw [if_pos (by simpa using h0), if_neg (by simp; omega)]
  · rw [if_neg (by simpa using h0), if_pos (by simp; omega)]
theorem ls_drew {w : World} {B : Nat} {s : Sl} {l : List Prp} (h : LsAt w B s l) : LsAt w.drew B s l := ls_below h (Below.refl w.heap.size w).drew
set_option maxHeartbeats 40000000 in
set_option maxRecDepth 100000 in
theorem cnread_t (v kind : Int) (s : ByteArray) (w : World) (hs : s.size ≤ 140737488351232) : Calls Tryz.prog 13 #[.int .i64 v, .int .i64 kind, .string s] w fun e w' => ∃ ps ws : Sl, LsAt w' w.heap.size ps (rdP v kind s) ∧ LsAt w' w.heap.size ws (rdW v kind s) ∧ e = .returned (.tuple #[.agg (packC (rdK v kind s ps ws)), .int .i64 (rdE v kind s)]) ∧ Below w.heap.size w w' := by
  have HS := Lib.hid hs
  clear hs
  have HB1 := Lib.hid ((Below.refl w.heap.size w).alloc (Nat.le_refl _) (.cells (packC zeroPk) 28))
  have HR1 := Lib.hid (heap_alloc_new w (.cells (packC zeroPk) 28))
  have HF : Hid (rdE v kind s = _) := Lib.hid (by unfold rdE; rfl)
  go_enter Tryz.func13, Tryz.ntmps13
  go_wp2_with fail
  refine (cknown_t v _).mono ?_
  rintro e w2 ⟨rfl, hw⟩
  have HB2 : Hid (Below w.heap.size w w2) := Lib.hid (by rw [hw]; exact HB1.out)
  have HR2 : Hid (w2.heap[w.heap.size]? = some (.cells (packC zeroPk) 28 (0, 0))) := Lib.hid (by rw [hw]; exact HR1.out)
  have HZ2 : Hid (w2.heap.size = w.heap.size + 1) := Lib.hid (by rw [hw]; simp)
  clear hw HB1 HR1
  cases hkn : knownB v
  · have hne : ¬ (2 : Int) = 0 := by decide
    have HE : Hid (rdE v kind s = 2) := Lib.hid (HF.out.trans (if_neg (by rw [hkn]; decide)))
    have HNE : Hid (¬ (2 : Int) = 0) := Lib.hid hne
    have hr := HR2.out
    go_wp2_with ((with_reducible refine pk_store (w.heap.size) (zeroPk) ?sx1 ?sy1 _ hr ?sa1 ?sb1 ?sc1 ?sd1 ?se1 ?sf1); (case sa1 => rfl); (case sb1 => rfl); (case sc1 => rfl); (case sd1 => rfl); (case se1 => rfl))
    intro w99 hg hgr
    have HB99 := Lib.hid (grown_below HB2.out hgr (Nat.le_refl _))
    have HG99 := Lib.hid hg
    clear hg hgr
    go_wp2
    refine bodyPost_ret (v := .tuple #[.agg (packC (zeroPk)), .int .i64 (2)]) ?_ rfl ⟨nilS, nilS, ?_, ?_, ?_, HB99.out⟩
    · exact results_pk (s := 6) (u := 7) rfl _ _ (w.heap.size) (zeroPk) rfl HG99.out
    · unfold rdP; rw [HE.out, if_neg HNE.out]; exact ls_nil _ _
    · unfold rdW; rw [HE.out, if_neg HNE.out]; exact ls_nil _ _
    · unfold rdK; rw [HE.out, if_neg HNE.out]
  · go_wp2_with fail
    refine (cours_t kind _).mono ?_
    rintro e wx ⟨rfl, hwx⟩
    rw [hwx]
    clear hwx wx
    cases hou : oursB kind
    · have hne : ¬ (2 : Int) = 0 := by decide
      have HE : Hid (rdE v kind s = 2) := Lib.hid (HF.out.trans ((if_pos hkn).trans (if_neg (by rw [hou]; decide))))
      have HNE : Hid (¬ (2 : Int) = 0) := Lib.hid hne
      have hr := HR2.out
      go_wp2_with ((with_reducible refine pk_store (w.heap.size) (zeroPk) ?sx2 ?sy2 _ hr ?sa2 ?sb2 ?sc2 ?sd2 ?se2 ?sf2); (case sa2 => rfl); (case sb2 => rfl); (case sc2 => rfl); (case sd2 => rfl); (case se2 => rfl))
      intro w99 hg hgr
      have HB99 := Lib.hid (grown_below HB2.out hgr (Nat.le_refl _))
      have HG99 := Lib.hid hg
      clear hg hgr
      go_wp2
      refine bodyPost_ret (v := .tuple #[.agg (packC (zeroPk)), .int .i64 (2)]) ?_ rfl ⟨nilS, nilS, ?_, ?_, ?_, HB99.out⟩
      · exact results_pk (s := 6) (u := 7) rfl _ _ (w.heap.size) (zeroPk) rfl HG99.out
      · unfold rdP; rw [HE.out, if_neg HNE.out]; exact ls_nil _ _
      · unfold rdW; rw [HE.out, if_neg HNE.out]; exact ls_nil _ _
      · unfold rdK; rw [HE.out, if_neg HNE.out]
    · have HF2 := Lib.hid (HF.out.trans ((if_pos hkn).trans (if_pos hou)))
      clear HF
      have hv : 0 ≤ v ∧ v < 256 := by
        unfold knownB at hkn
        rcases (show v = 4 ∨ v = 5 by simpa using hkn) with e | e <;> omega
      have HV := Lib.hid hv
      clear hv
      go_wp2_with fail
      refine (cnew_t s _).mono ?_
      rintro e w3 ⟨rfl, hw⟩
      rw [HZ2.out]
      have HC3 : Hid (CurAt w3 (w.heap.size + 1) (newCu s)) := Lib.hid (by rw [hw, ← HZ2.out]; exact heap_alloc_new _ _)
      have HB3 : Hid (Below w.heap.size w w3) := Lib.hid (by rw [hw]; exact HB2.out.alloc HB2.out.size _)
      have HR3 : Hid (w3.heap[w.heap.size]? = some (.cells (packC zeroPk) 28 (0, 0))) := Lib.hid (by rw [hw]; exact (heap_alloc_old _ _ (Array.getElem?_eq_some_iff.1 HR2.out).1).trans HR2.out)
      have HZ3 : Hid (w3.heap.size = w.heap.size + 2) := Lib.hid (by rw [hw]; simp [HZ2.out])
      clear hw HB2 HR2 HZ2
      cases hk1 : (kind == 1)
      · obtain rfl : kind = 2 := by
          unfold oursB at hou; rw [hk1, Bool.false_or] at hou; simpa using hou
        go_wp2_with fail
        rw [HZ3.out, show w.heap.size + 2 + 1 = w.heap.size + 3 from rfl]
        have HRD5 := Lib.hid (rd_start (v := v) HR3.out HC3.out HB3.out HZ3.out)
        refine (rack_got (w.heap.size + 1) v s _ HRD5.out.cu HS.out).mono ?_
        rintro e w6 ⟨ps, ws, hlp, hlw, rfl, hc, hg⟩
        have HRD6 := Lib.hid (HRD5.out.cur hc hg)
        have HLp6 := Lib.hid (ls_mono hlp (show w.heap.size + 4 ≤ _ from HRD5.out.size))
        have HLw6 := Lib.hid (ls_mono hlw (show w.heap.size + 4 ≤ _ from HRD5.out.size))
        clear hlp hlw hc hg HRD5 HC3 HB3 HR3 HZ3
        have HGK := Lib.hid (got_ok v 2 s HS.out)
        have HGL := Lib.hid (got_len v 2 s)
        have HGV := Lib.hid (gotV v 2 s)
        have HRP := Lib.hid (got_RP v 2 s ps ws)
        have HPP : Hid (rdP v 2 s = if rdE v 2 s = 0 then (gotF v 2 s).lp else []) := Lib.hid rfl
        have HPW : Hid (rdW v 2 s = if rdE v 2 s = 0 then (gotF v 2 s).lw else []) := Lib.hid rfl
        have HPK : Hid (∀ ps ws, rdK v 2 s ps ws = if rdE v 2 s = 0 then (gotF v 2 s).pk ps ws else zeroPk) := Lib.hid fun _ _ => rfl
        generalize gotF v 2 s = gt at *
        have hn1 := (ls_RP HLp6.out).1
        have hn2 := (ls_RP HLw6.out).1
        have HOKP : Hid (PkOK (gt.pk ps ws)) := Lib.hid (HGK.out.2 ps ws (by rw [hn1]; exact Nat.le_trans HGL.out.1 (by decide)) (by rw [hn2]; exact Nat.le_trans HGL.out.2 (by decide)))
        have HV2 := Lib.hid (HGV.out ps ws hn1 hn2)
        have HCK := Lib.hid HGK.out.1
        clear hn1 hn2 HGK HGL HGV
        have hpk := HRD6.out.pk
        go_wp2_with ((with_reducible refine pk_store (w.heap.size + 3) (gt.pk ps ws) ?nx2 ?ny2 _ hpk ?na2 ?nb2 ?nc2 ?nd2 ?ne2 ?nf2); (case na2 => rfl); (case nb2 => rfl); (case nc2 => rfl); (case nd2 => rfl); (case ne2 => rfl))
        intro w7 hp hg
        have HRD7 := Lib.hid (HRD6.out.put hp hg)
        have HLp7 := Lib.hid (ls_grown HLp6.out hg (by omega))
        have HLw7 := Lib.hid (ls_grown HLw6.out hg (by omega))
        clear hp hg hpk HRD6 HLp6 HLw6
        obtain ⟨c0, c1⟩ := HRD7.out.cells
        have HRd := Lib.hid HRD7.out.drew
        go_wp2_with fail
        go_region_held3 (fun w' => w'.cell? ⟨w.heap.size + 2, 0, none⟩ = some (.pointer (some ⟨w.heap.size + 1, 0, none⟩)) ∧ w'.cell? ⟨w.heap.size + 2, 1, none⟩ = some (.int .i64 v))
          (first
            | go_keep
            | (go_split_ands; exact (HRd.out.cur hc8 hg8).cells)
            | (go_split_ands; exact ((HRd.out.cur hc8 hg8).cur hc9 hg9).cells))
          (first
            | (go_at_call 59; refine (left_t (w.heap.size + 1) gt.c _ HRd.out.cu HCK.out).mono ?_; rintro e w8 ⟨rfl, hc8, hg8⟩)
            | (go_at_call 58; refine (unless_t (w.heap.size + 1) v gt.c (leftF gt.c == 0) 5 _ hc8).mono ?_; rintro e w9 ⟨rfl, hc9, hg9⟩))
        have HRD9 : Hid (RD w w9 v (gt.pk ps ws) (endC gt.c)) := Lib.hid (by rw [← endC_is HCK.out]; exact (HRd.out.cur hc8 hg8).cur hc9 hg9)
        have HLp9 := Lib.hid (ls_grown (ls_grown (ls_drew HLp7.out) hg8 (by omega)) hg9 (by omega))
        have HLw9 := Lib.hid (ls_grown (ls_grown (ls_drew HLw7.out) hg8 (by omega)) hg9 (by omega))
        clear hc8 hg8 hc9 hg9 c0 c1 HRd HRD7 HLp7 HLw7
        obtain ⟨c0, c1⟩ := HRD9.out.cells
        go_wp2_with fail
        refine (err_t (w.heap.size + 1) (endC gt.c) _ HRD9.out.cu).mono ?_
        rintro e wy ⟨rfl, hwy⟩
        rw [hwy]
        clear hwy wy
        have HF3 : Hid (rdE v 2 s = if (endC gt.c).err ≠ 0 then (endC gt.c).err else connV v (gt.pk (lenS gt.lp.length) (lenS gt.lw.length)) gt.lw gt.lp) := HF2
        clear HF2
        generalize (endC gt.c).err = er at *
        cases her : (er != 0)
        · have h0 : er = 0 := by simpa using her
          have HF4 := Lib.hid (HF3.out.trans (if_neg (by rw [h0]; decide)))
          rw [← HV2.out] at HF4
          clear HF3 HV2 h0
          have hpk := HRD9.out.pk
          clear c0 c1
          go_wp2_with ((with_reducible refine pk_load (w.heap.size + 3) (gt.pk ps ws) ?la2 hpk ?lb2 ?lc2 ?ld2 ?le2); (case lb2 => rfl); (case lc2 => rfl); (case ld2 => rfl))
          refine (connV_t v (gt.pk ps ws) HOKP.out gt.lw gt.lp (topicH _) (topicH _) _ (HRP.out.1 _ _ HLw9.out) (HRP.out.2 _ _ HLp9.out)).mono ?_
          rintro e w10 ⟨rfl, hb⟩
          have HRD10 := Lib.hid (HRD9.out.below hb)
          have HLp10 := Lib.hid (ls_below HLp9.out hb)
          have HLw10 := Lib.hid (ls_below HLw9.out hb)
          clear hb hpk HRD9 HLp9 HLw9
          generalize connV v (gt.pk ps ws) gt.lw gt.lp = cv at *
          cases hcv : (cv != 0)
          · have h0 : cv = 0 := by simpa using hcv
            have HE : Hid (rdE v 2 s = 0) := Lib.hid (HF4.out.trans h0)
            have hpk := HRD10.out.pk
            have hr := HRD10.out.res
            go_wp2_with (first | ((with_reducible refine pk_store (w.heap.size) (gt.pk ps ws) ?sx5 ?sy5 _ hr ?sa5 ?sb5 ?sc5 ?sd5 ?se5 ?sf5); (case sa5 => rfl); (case sb5 => rfl); (case sc5 => rfl); (case sd5 => rfl); (case se5 => rfl)) | ((with_reducible refine pk_load (w.heap.size + 3) (gt.pk ps ws) ?ta5 hpk ?tb5 ?tc5 ?td5 ?te5); (case tb5 => rfl); (case tc5 => rfl); (case td5 => rfl)))
            intro w99 hg hgr
            have HB99 := Lib.hid (grown_below HRD10.out.bel hgr (Nat.le_refl _))
            have HG99 := Lib.hid hg
            have HLpZ := Lib.hid (ls_mono (ls_grown HLp10.out hgr (by omega)) (show w.heap.size ≤ w.heap.size + 4 by omega))
            have HLwZ := Lib.hid (ls_mono (ls_grown HLw10.out hgr (by omega)) (show w.heap.size ≤ w.heap.size + 4 by omega))
            clear hg hgr
            go_wp2
            refine bodyPost_ret (v := .tuple #[.agg (packC (gt.pk ps ws)), .int .i64 0]) ?_ rfl ⟨ps, ws, ?_, ?_, ?_, HB99.out⟩
            · exact results_pk (s := 6) (u := 7) rfl _ _ (w.heap.size) (gt.pk ps ws) rfl HG99.out
            · rw [HPP.out, HE.out, if_pos rfl]; exact HLpZ.out
            · rw [HPW.out, HE.out, if_pos rfl]; exact HLwZ.out
            · rw [HPK.out, HE.out, if_pos rfl]
          · have hne : ¬ cv = 0 := by simpa using hcv
            have HE : Hid (rdE v 2 s = cv) := Lib.hid (HF4.out)
            have HNE : Hid (¬ (cv : Int) = 0) := Lib.hid hne
            have hr := HRD10.out.res
            go_wp2_with ((with_reducible refine pk_store (w.heap.size) (zeroPk) ?sx6 ?sy6 _ hr ?sa6 ?sb6 ?sc6 ?sd6 ?se6 ?sf6); (case sa6 => rfl); (case sb6 => rfl); (case sc6 => rfl); (case sd6 => rfl); (case se6 => rfl))
            intro w99 hg hgr
            have HB99 := Lib.hid (grown_below HRD10.out.bel hgr (Nat.le_refl _))
            have HG99 := Lib.hid hg
            clear hg hgr
            go_wp2
            refine bodyPost_ret (v := .tuple #[.agg (packC (zeroPk)), .int .i64 (cv)]) ?_ rfl ⟨nilS, nilS, ?_, ?_, ?_, HB99.out⟩
            · exact results_pk (s := 6) (u := 7) rfl _ _ (w.heap.size) (zeroPk) rfl HG99.out
            · unfold rdP; rw [HE.out, if_neg HNE.out]; exact ls_nil _ _
            · unfold rdW; rw [HE.out, if_neg HNE.out]; exact ls_nil _ _
            · unfold rdK; rw [HE.out, if_neg HNE.out]
        · have hne : ¬ er = 0 := by simpa using her
          have HE : Hid (rdE v 2 s = er) := Lib.hid (HF3.out.trans (if_pos hne))
          have HNE : Hid (¬ (er : Int) = 0) := Lib.hid hne
          have hr := HRD9.out.res
          go_wp2_with ((with_reducible refine pk_store (w.heap.size) (zeroPk) ?sx7 ?sy7 _ hr ?sa7 ?sb7 ?sc7 ?sd7 ?se7 ?sf7); (case sa7 => rfl); (case sb7 => rfl); (case sc7 => rfl); (case sd7 => rfl); (case se7 => rfl))
          intro w99 hg hgr
          have HB99 := Lib.hid (grown_below HRD9.out.bel hgr (Nat.le_refl _))
          have HG99 := Lib.hid hg
          clear hg hgr
          go_wp2
          refine bodyPost_ret (v := .tuple #[.agg (packC (zeroPk)), .int .i64 (er)]) ?_ rfl ⟨nilS, nilS, ?_, ?_, ?_, HB99.out⟩
          · exact results_pk (s := 6) (u := 7) rfl _ _ (w.heap.size) (zeroPk) rfl HG99.out
          · unfold rdP; rw [HE.out, if_neg HNE.out]; exact ls_nil _ _
          · unfold rdW; rw [HE.out, if_neg HNE.out]; exact ls_nil _ _
          · unfold rdK; rw [HE.out, if_neg HNE.out]
      · obtain rfl : kind = 1 := by
          simpa using hk1
        go_wp2_with fail
        rw [HZ3.out, show w.heap.size + 2 + 1 = w.heap.size + 3 from rfl]
        have HRD5 := Lib.hid (rd_start (v := v) HR3.out HC3.out HB3.out HZ3.out)
        refine (rcon_got (w.heap.size + 1) v s _ HRD5.out.cu HS.out HV.out.1 HV.out.2).mono ?_
        rintro e w6 ⟨ps, ws, hlp, hlw, rfl, hc, hg⟩
        have HRD6 := Lib.hid (HRD5.out.cur hc hg)
        have HLp6 := Lib.hid (ls_mono hlp (show w.heap.size + 4 ≤ _ from HRD5.out.size))
        have HLw6 := Lib.hid (ls_mono hlw (show w.heap.size + 4 ≤ _ from HRD5.out.size))
        clear hlp hlw hc hg HRD5 HC3 HB3 HR3 HZ3
        have HGK := Lib.hid (got_ok v 1 s HS.out)
        have HGL := Lib.hid (got_len v 1 s)
        have HGV := Lib.hid (gotV v 1 s)
        have HRP := Lib.hid (got_RP v 1 s ps ws)
        have HPP : Hid (rdP v 1 s = if rdE v 1 s = 0 then (gotF v 1 s).lp else []) := Lib.hid rfl
        have HPW : Hid (rdW v 1 s = if rdE v 1 s = 0 then (gotF v 1 s).lw else []) := Lib.hid rfl
        have HPK : Hid (∀ ps ws, rdK v 1 s ps ws = if rdE v 1 s = 0 then (gotF v 1 s).pk ps ws else zeroPk) := Lib.hid fun _ _ => rfl
        generalize gotF v 1 s = gt at *
        have hn1 := (ls_RP HLp6.out).1
        have hn2 := (ls_RP HLw6.out).1
        have HOKP : Hid (PkOK (gt.pk ps ws)) := Lib.hid (HGK.out.2 ps ws (by rw [hn1]; exact Nat.le_trans HGL.out.1 (by decide)) (by rw [hn2]; exact Nat.le_trans HGL.out.2 (by decide)))
        have HV2 := Lib.hid (HGV.out ps ws hn1 hn2)
        have HCK := Lib.hid HGK.out.1
        clear hn1 hn2 HGK HGL HGV
        have hpk := HRD6.out.pk
        go_wp2_with ((with_reducible refine pk_store (w.heap.size + 3) (gt.pk ps ws) ?nx1 ?ny1 _ hpk ?na1 ?nb1 ?nc1 ?nd1 ?ne1 ?nf1); (case na1 => rfl); (case nb1 => rfl); (case nc1 => rfl); (case nd1 => rfl); (case ne1 => rfl))
        intro w7 hp hg
        have HRD7 := Lib.hid (HRD6.out.put hp hg)
        have HLp7 := Lib.hid (ls_grown HLp6.out hg (by omega))
        have HLw7 := Lib.hid (ls_grown HLw6.out hg (by omega))
        clear hp hg hpk HRD6 HLp6 HLw6
        obtain ⟨c0, c1⟩ := HRD7.out.cells
        have HRd := Lib.hid HRD7.out.drew
        go_wp2_with fail
        go_region_held3 (fun w' => w'.cell? ⟨w.heap.size + 2, 0, none⟩ = some (.pointer (some ⟨w.heap.size + 1, 0, none⟩)) ∧ w'.cell? ⟨w.heap.size + 2, 1, none⟩ = some (.int .i64 v))
          (first
            | go_keep
            | (go_split_ands; exact (HRd.out.cur hc8 hg8).cells)
            | (go_split_ands; exact ((HRd.out.cur hc8 hg8).cur hc9 hg9).cells))
          (first
            | (go_at_call 59; refine (left_t (w.heap.size + 1) gt.c _ HRd.out.cu HCK.out).mono ?_; rintro e w8 ⟨rfl, hc8, hg8⟩)
            | (go_at_call 58; refine (unless_t (w.heap.size + 1) v gt.c (leftF gt.c == 0) 5 _ hc8).mono ?_; rintro e w9 ⟨rfl, hc9, hg9⟩))
        have HRD9 : Hid (RD w w9 v (gt.pk ps ws) (endC gt.c)) := Lib.hid (by rw [← endC_is HCK.out]; exact (HRd.out.cur hc8 hg8).cur hc9 hg9)
        have HLp9 := Lib.hid (ls_grown (ls_grown (ls_drew HLp7.out) hg8 (by omega)) hg9 (by omega))
        have HLw9 := Lib.hid (ls_grown (ls_grown (ls_drew HLw7.out) hg8 (by omega)) hg9 (by omega))
        clear hc8 hg8 hc9 hg9 c0 c1 HRd HRD7 HLp7 HLw7
        obtain ⟨c0, c1⟩ := HRD9.out.cells
        go_wp2_with fail
        refine (err_t (w.heap.size + 1) (endC gt.c) _ HRD9.out.cu).mono ?_
        rintro e wy ⟨rfl, hwy⟩
        rw [hwy]
        clear hwy wy
        have HF3 : Hid (rdE v 1 s = if (endC gt.c).err ≠ 0 then (endC gt.c).err else connV v (gt.pk (lenS gt.lp.length) (lenS gt.lw.length)) gt.lw gt.lp) := HF2
        clear HF2
        generalize (endC gt.c).err = er at *
        cases her : (er != 0)
        · have h0 : er = 0 := by simpa using her
          have HF4 := Lib.hid (HF3.out.trans (if_neg (by rw [h0]; decide)))
          rw [← HV2.out] at HF4
          clear HF3 HV2 h0
          have hpk := HRD9.out.pk
          clear c0 c1
          go_wp2_with ((with_reducible refine pk_load (w.heap.size + 3) (gt.pk ps ws) ?la1 hpk ?lb1 ?lc1 ?ld1 ?le1); (case lb1 => rfl); (case lc1 => rfl); (case ld1 => rfl))
          refine (connV_t v (gt.pk ps ws) HOKP.out gt.lw gt.lp (topicH _) (topicH _) _ (HRP.out.1 _ _ HLw9.out) (HRP.out.2 _ _ HLp9.out)).mono ?_
          rintro e w10 ⟨rfl, hb⟩
          have HRD10 := Lib.hid (HRD9.out.below hb)
          have HLp10 := Lib.hid (ls_below HLp9.out hb)
          have HLw10 := Lib.hid (ls_below HLw9.out hb)
          clear hb hpk HRD9 HLp9 HLw9
          generalize connV v (gt.pk ps ws) gt.lw gt.lp = cv at *
          cases hcv : (cv != 0)
          · have h0 : cv = 0 := by simpa using hcv
            have HE : Hid (rdE v 1 s = 0) := Lib.hid (HF4.out.trans h0)
            have hpk := HRD10.out.pk
            have hr := HRD10.out.res
            go_wp2_with (first | ((with_reducible refine pk_store (w.heap.size) (gt.pk ps ws) ?sx10 ?sy10 _ hr ?sa10 ?sb10 ?sc10 ?sd10 ?se10 ?sf10); (case sa10 => rfl); (case sb10 => rfl); (case sc10 => rfl); (case sd10 => rfl); (case se10 => rfl)) | ((with_reducible refine pk_load (w.heap.size + 3) (gt.pk ps ws) ?ta10 hpk ?tb10 ?tc10 ?td10 ?te10); (case tb10 => rfl); (case tc10 => rfl); (case td10 => rfl)))
            intro w99 hg hgr
            have HB99 := Lib.hid (grown_below HRD10.out.bel hgr (Nat.le_refl _))
            have HG99 := Lib.hid hg
            have HLpZ := Lib.hid (ls_mono (ls_grown HLp10.out hgr (by omega)) (show w.heap.size ≤ w.heap.size + 4 by omega))
            have HLwZ := Lib.hid (ls_mono (ls_grown HLw10.out hgr (by omega)) (show w.heap.size ≤ w.heap.size + 4 by omega))
            clear hg hgr
            go_wp2
            refine bodyPost_ret (v := .tuple #[.agg (packC (gt.pk ps ws)), .int .i64 0]) ?_ rfl ⟨ps, ws, ?_, ?_, ?_, HB99.out⟩
            · exact results_pk (s := 6) (u := 7) rfl _ _ (w.heap.size) (gt.pk ps ws) rfl HG99.out
            · rw [HPP.out, HE.out, if_pos rfl]; exact HLpZ.out
            · rw [HPW.out, HE.out, if_pos rfl]; exact HLwZ.out
            · rw [HPK.out, HE.out, if_pos rfl]
          · have hne : ¬ cv = 0 := by simpa using hcv
            have HE : Hid (rdE v 1 s = cv) := Lib.hid (HF4.out)
            have HNE : Hid (¬ (cv : Int) = 0) := Lib.hid hne
            have hr := HRD10.out.res
            go_wp2_with ((with_reducible refine pk_store (w.heap.size) (zeroPk) ?sx11 ?sy11 _ hr ?sa11 ?sb11 ?sc11 ?sd11 ?se11 ?sf11); (case sa11 => rfl); (case sb11 => rfl); (case sc11 => rfl); (case sd11 => rfl); (case se11 => rfl))
            intro w99 hg hgr
            have HB99 := Lib.hid (grown_below HRD10.out.bel hgr (Nat.le_refl _))
            have HG99 := Lib.hid hg
            clear hg hgr
            go_wp2
            refine bodyPost_ret (v := .tuple #[.agg (packC (zeroPk)), .int .i64 (cv)]) ?_ rfl ⟨nilS, nilS, ?_, ?_, ?_, HB99.out⟩
            · exact results_pk (s := 6) (u := 7) rfl _ _ (w.heap.size) (zeroPk) rfl HG99.out
            · unfold rdP; rw [HE.out, if_neg HNE.out]; exact ls_nil _ _
            · unfold rdW; rw [HE.out, if_neg HNE.out]; exact ls_nil _ _
            · unfold rdK; rw [HE.out, if_neg HNE.out]
        · have hne : ¬ er = 0 := by simpa using her
          have HE : Hid (rdE v 1 s = er) := Lib.hid (HF3.out.trans (if_pos hne))
          have HNE : Hid (¬ (er : Int) = 0) := Lib.hid hne
          have hr := HRD9.out.res
          go_wp2_with ((with_reducible refine pk_store (w.heap.size) (zeroPk) ?sx12 ?sy12 _ hr ?sa12 ?sb12 ?sc12 ?sd12 ?se12 ?sf12); (case sa12 => rfl); (case sb12 => rfl); (case sc12 => rfl); (case sd12 => rfl); (case se12 => rfl))
          intro w99 hg hgr
          have HB99 := Lib.hid (grown_below HRD9.out.bel hgr (Nat.le_refl _))
          have HG99 := Lib.hid hg
          clear hg hgr
          go_wp2
          refine bodyPost_ret (v := .tuple #[.agg (packC (zeroPk)), .int .i64 (er)]) ?_ rfl ⟨nilS, nilS, ?_, ?_, ?_, HB99.out⟩
          · exact results_pk (s := 6) (u := 7) rfl _ _ (w.heap.size) (zeroPk) rfl HG99.out
          · unfold rdP; rw [HE.out, if_neg HNE.out]; exact ls_nil _ _
          · unfold rdW; rw [HE.out, if_neg HNE.out]; exact ls_nil _ _
          · unfold rdK; rw [HE.out, if_neg HNE.out]
end Go.Proofs.YtjlkhihlbdokpaaGreat
