/- connect.alone, ranges, Valid. -/
import Derived.Test.YtjlkhihlbdokpaaGreatG4
import Derived.Test.YtjlkhihlbdokpaaGreatG5
namespace Go.Proofs.YtjlkhihlbdokpaaGreat
open Go.RowKit Go.Sort
set_option maxHeartbeats 2000000
set_option linter.unusedVariables false
set_option linter.unusedSimpArgs false
theorem grown_three (a : World) (g i j k : Nat) (x y z : Value) : a.grownBy (((a.setCell ⟨g, i, none⟩ x).setCell ⟨g, j, none⟩ y).setCell ⟨g, k, none⟩ z).drew (some g) :=
  grown_drew ⟨rfl, rfl, rfl, by simp, fun l _ hk => by
    rw [heap_setCell_other _ _ _ _ (fun e => hk (by rw [e])), heap_setCell_other _ _ _ _ (fun e => hk (by rw [e])), heap_setCell_other _ _ _ _ (fun e => hk (by rw [e]))]⟩
theorem row_three {a : World} {g : Nat} {cs : Array Value} {T : TypeId} (h : a.heap[g]? = some (.cells cs T (0, 0))) (i j k : Nat) (x y z : Value) :
    (((a.setCell ⟨g, i, none⟩ x).setCell ⟨g, j, none⟩ y).setCell ⟨g, k, none⟩ z).drew.heap[g]? = some (.cells (((cs.setIfInBounds i x).setIfInBounds j y).setIfInBounds k z) T (0, 0)) := by
  have h1 := heap_setCell_same a g i cs T x h
  have h2 := heap_setCell_same _ g j _ T y h1
  exact heap_setCell_same _ g k _ T z h2
def noStr : ByteArray := ⟨#[]⟩
/-- The packet that connect.alone makes. -/
def aloneQ (p : Pk) : Pk :=
  if (p.kind == 2) = true then { zeroPk with kind := p.kind, props := p.props, session := p.session, code := p.code }
  else { zeroPk with kind := p.kind, props := p.props, clean := p.clean, keep := p.keep, client := p.client, hasWill := p.hasWill, wTopic := if p.hasWill = true then p.wTopic else ⟨#[]⟩, wPayload := if p.hasWill = true then p.wPayload else ⟨#[]⟩, wQoS := if p.hasWill = true then p.wQoS else 0, wRetain := if p.hasWill = true then p.wRetain else false, wProps := if p.hasWill = true then p.wProps else zeroSl, hasUser := p.hasUser, user := if p.hasUser = true then p.user else ⟨#[]⟩, hasPass := p.hasPass, pass := if p.hasPass = true then p.pass else ⟨#[]⟩ }
def q0 (p : Pk) : Pk := { zeroPk with kind := p.kind, props := p.props }
def qA (p : Pk) : Pk := { q0 p with session := p.session, code := p.code }
def q1 (p : Pk) : Pk := { q0 p with clean := p.clean, keep := p.keep, client := p.client }
def qW (p : Pk) : Pk := { q1 p with hasWill := p.hasWill }
def qWy (p : Pk) : Pk := { qW p with wTopic := p.wTopic, wPayload := p.wPayload, wQoS := p.wQoS, wRetain := p.wRetain, wProps := p.wProps }
def setU (q p : Pk) : Pk := { q with hasUser := p.hasUser }
def setUy (q p : Pk) : Pk := { q with user := p.user }
def setP (q p : Pk) : Pk := { q with hasPass := p.hasPass }
def setPy (q p : Pk) : Pk := { q with pass := p.pass }
set_option maxRecDepth 100000 in
theorem alone_t (p : Pk) (lw lp : List Prp) (w : World) (hrw : RP w p.wProps.A p.wProps.n lw) (hrp : RP w p.props.A p.props.n lp) :
    Calls Tryz.prog 50 #[.agg (packC p)] w fun e w' => e = .returned (.bool (sameEq p (aloneQ p))) ∧ Below w.heap.size w w' := by
  have HW := Lib.hid hrw
  have HP := Lib.hid hrp
  clear hrw hrp
  have HB1 := Lib.hid ((Below.refl w.heap.size w).alloc (Nat.le_refl _) (.cells (packC p) 28))
  have HGp1 := Lib.hid (heap_alloc_new w (.cells (packC p) 28))
  go_enter Tryz.func50, Tryz.ntmps50
  have cp_0 : (w.alloc (.cells (packC p) 28)).cell? ⟨w.heap.size, 0, none⟩ = some (.int .i64 (p.kind)) := pack_at HGp1.out 0 _ rfl
  have cp_24 : (w.alloc (.cells (packC p) 28)).cell? ⟨w.heap.size, 24, none⟩ = some (.slice p.props.A p.props.n p.props.c) := pack_at HGp1.out 24 _ rfl
  go_wp2_with ((with_reducible refine pk_store (w.heap.size + 1) (q0 p) ?x1 ?y1 _ (heap_alloc2_new w _ _) ?a1 ?b1 ?c1 ?d1 ?e1 ?f1); (case a1 => rfl); (case b1 => rfl); (case c1 => rfl); (case d1 => rfl); (case e1 => rfl))
  intro w2 hg hgr
  have HLT : Hid (w.heap.size ≤ w.heap.size + 1 ∧ w.heap.size ≠ w.heap.size + 1) := Lib.hid ⟨by omega, by omega⟩
  have HB2 := Lib.hid (grown_below (HB1.out.alloc HB1.out.size _) hgr HLT.out.1)
  have HGp2 := Lib.hid (row_grown (heap_alloc2_old w _ _) hgr HLT.out.2)
  have HGq2 := Lib.hid hg
  clear hg hgr HB1 HGp1
  clear cp_0 cp_24
  have cp_0 : w2.cell? ⟨w.heap.size, 0, none⟩ = some (.int .i64 (p.kind)) := pack_at HGp2.out 0 _ rfl
  cases hk : (p.kind == 2)
  · clear cp_0
    have cp_0 : w2.cell? ⟨w.heap.size, 0, none⟩ = some (.int .i64 (p.kind)) := pack_at HGp2.out 0 _ rfl
    have cp_7 : w2.cell? ⟨w.heap.size, 7, none⟩ = some (.bool (p.clean)) := pack_at HGp2.out 7 _ rfl
    have cp_8 : w2.cell? ⟨w.heap.size, 8, none⟩ = some (.int .i64 (p.keep)) := pack_at HGp2.out 8 _ rfl
    have cp_9 : w2.cell? ⟨w.heap.size, 9, none⟩ = some (.string (p.client)) := pack_at HGp2.out 9 _ rfl
    have cq_7 : w2.cell? ⟨w.heap.size + 1, 7, none⟩ = some (.bool (false)) := pack_at HGq2.out 7 _ rfl
    have cq_8 : w2.cell? ⟨w.heap.size + 1, 8, none⟩ = some (.int .i64 (0)) := pack_at HGq2.out 8 _ rfl
    have cq_9 : w2.cell? ⟨w.heap.size + 1, 9, none⟩ = some (.string (⟨#[]⟩)) := pack_at HGq2.out 9 _ rfl
    have f7 : w2.frozen? ⟨w.heap.size + 1, 7, none⟩ = false := frozen_of_row _ _ _ _ _ HGq2.out
    have f8 : w2.frozen? ⟨w.heap.size + 1, 8, none⟩ = false := frozen_of_row _ _ _ _ _ HGq2.out
    have f9 : w2.frozen? ⟨w.heap.size + 1, 9, none⟩ = false := frozen_of_row _ _ _ _ _ HGq2.out
    go_wp2_with fail
    go_region
    have hgr := grown_three w2 (w.heap.size + 1) 7 8 9 (.bool (p.clean)) (.int .i64 (p.keep)) (.string (p.client))
    have HGq3 : Hid ((((w2.setCell ⟨w.heap.size + 1, 7, none⟩ (.bool (p.clean))).setCell ⟨w.heap.size + 1, 8, none⟩ (.int .i64 (p.keep))).setCell ⟨w.heap.size + 1, 9, none⟩ (.string (p.client))).drew.heap[w.heap.size + 1]? = some (.cells (packC (q1 p)) 28 (0, 0))) := Lib.hid (row_three HGq2.out 7 8 9 _ _ _)
    have HB3 := Lib.hid (grown_below HB2.out hgr HLT.out.1)
    have HGp3 := Lib.hid (row_grown HGp2.out hgr HLT.out.2)
    generalize (((w2.setCell ⟨w.heap.size + 1, 7, none⟩ (.bool (p.clean))).setCell ⟨w.heap.size + 1, 8, none⟩ (.int .i64 (p.keep))).setCell ⟨w.heap.size + 1, 9, none⟩ (.string (p.client))).drew = w3 at *
    clear hgr f7 f8 f9 HB2 HGp2 HGq2
    clear cp_0 cp_7 cp_8 cp_9 cq_7 cq_8 cq_9
    have cp_14 : w3.cell? ⟨w.heap.size, 14, none⟩ = some (.bool (p.hasWill)) := pack_at HGp3.out 14 _ rfl
    go_wp2_with ((with_reducible refine pk_set (w.heap.size + 1) 14 (q1 p) (qW p) (.bool (p.hasWill)) ?t2 ?x2 ?y2 HGq3.out ?a2 ?b2 ?c2 ?d2 ?e2 ?f2 ?g2 ?h2 ?i2); (case a2 => rfl); (case b2 => rfl); (case c2 => rfl); (case d2 => rfl); (case e2 => kernel_rfl); (case f2 => simp [Value.cells, willC, Value.oneCell']); (case g2 => simp [Value.cells, willC]); (case h2 => rfl))
    intro w4 hg hgr
    have HB4 := Lib.hid (grown_below HB3.out hgr HLT.out.1)
    have HGp4 := Lib.hid (row_grown HGp3.out hgr HLT.out.2)
    have HGq4 := Lib.hid hg
    clear hg hgr HB3 HGp3 HGq3
    clear cp_14
    have cp_14 : w4.cell? ⟨w.heap.size, 14, none⟩ = some (.bool (p.hasWill)) := pack_at HGp4.out 14 _ rfl
    cases hw : p.hasWill
    · clear cp_14
      have cp_10 : w4.cell? ⟨w.heap.size, 10, none⟩ = some (.bool (p.hasUser)) := pack_at HGp4.out 10 _ rfl
      have cp_14 : w4.cell? ⟨w.heap.size, 14, none⟩ = some (.bool (p.hasWill)) := pack_at HGp4.out 14 _ rfl
      go_wp2_with ((with_reducible refine pk_set (w.heap.size + 1) 10 (qW p) (setU (qW p) p) (.bool (p.hasUser)) ?t3 ?x3 ?y3 HGq4.out ?a3 ?b3 ?c3 ?d3 ?e3 ?f3 ?g3 ?h3 ?i3); (case a3 => rfl); (case b3 => rfl); (case c3 => rfl); (case d3 => rfl); (case e3 => kernel_rfl); (case f3 => simp [Value.cells, willC, Value.oneCell']); (case g3 => simp [Value.cells, willC]); (case h3 => rfl))
      intro w5 hg hgr
      have HB5 := Lib.hid (grown_below HB4.out hgr HLT.out.1)
      have HGp5 := Lib.hid (row_grown HGp4.out hgr HLT.out.2)
      have HGq5 := Lib.hid hg
      clear hg hgr HB4 HGp4 HGq4
      clear cp_10 cp_14
      have cp_10 : w5.cell? ⟨w.heap.size, 10, none⟩ = some (.bool (p.hasUser)) := pack_at HGp5.out 10 _ rfl
      have cp_14 : w5.cell? ⟨w.heap.size, 14, none⟩ = some (.bool (p.hasWill)) := pack_at HGp5.out 14 _ rfl
      cases hu : p.hasUser
      · clear cp_10 cp_14
        have cp_10 : w5.cell? ⟨w.heap.size, 10, none⟩ = some (.bool (p.hasUser)) := pack_at HGp5.out 10 _ rfl
        have cp_12 : w5.cell? ⟨w.heap.size, 12, none⟩ = some (.bool (p.hasPass)) := pack_at HGp5.out 12 _ rfl
        go_wp2_with ((with_reducible refine pk_set (w.heap.size + 1) 12 (setU (qW p) p) (setP (setU (qW p) p) p) (.bool (p.hasPass)) ?t4 ?x4 ?y4 HGq5.out ?a4 ?b4 ?c4 ?d4 ?e4 ?f4 ?g4 ?h4 ?i4); (case a4 => rfl); (case b4 => rfl); (case c4 => rfl); (case d4 => rfl); (case e4 => kernel_rfl); (case f4 => simp [Value.cells, willC, Value.oneCell']); (case g4 => simp [Value.cells, willC]); (case h4 => rfl))
        intro w6 hg hgr
        have HB6 := Lib.hid (grown_below HB5.out hgr HLT.out.1)
        have HGp6 := Lib.hid (row_grown HGp5.out hgr HLT.out.2)
        have HGq6 := Lib.hid hg
        clear hg hgr HB5 HGp5 HGq5
        clear cp_10 cp_12
        have cp_10 : w6.cell? ⟨w.heap.size, 10, none⟩ = some (.bool (p.hasUser)) := pack_at HGp6.out 10 _ rfl
        have cp_12 : w6.cell? ⟨w.heap.size, 12, none⟩ = some (.bool (p.hasPass)) := pack_at HGp6.out 12 _ rfl
        cases hp : p.hasPass
        · clear cp_10 cp_12
          have cp_12 : w6.cell? ⟨w.heap.size, 12, none⟩ = some (.bool (p.hasPass)) := pack_at HGp6.out 12 _ rfl
          have HE : Hid (aloneQ p = setP (setU (qW p) p) p) := Lib.hid (by unfold aloneQ; simp only [if_neg (show ¬ ((p.kind == 2) = true) by rw [hk]; decide), if_neg (show ¬ (p.hasWill = true) by rw [hw]; decide), if_neg (show ¬ (p.hasUser = true) by rw [hu]; decide), if_neg (show ¬ (p.hasPass = true) by rw [hp]; decide)]; rfl)
          go_wp2_with (first | ((with_reducible refine pk_load (w.heap.size) (p) ?x5 HGp6.out ?a5 ?b5 ?c5 ?d5); (case a5 => rfl); (case b5 => rfl); (case c5 => rfl)) | ((with_reducible refine pk_load (w.heap.size + 1) (setP (setU (qW p) p) p) ?x6 HGq6.out ?a6 ?b6 ?c6 ?d6); (case a6 => rfl); (case b6 => rfl); (case c6 => rfl)))
          refine (same_t p (setP (setU (qW p) p) p) (packC p) (packC (setP (setU (qW p) p) p)) rfl rfl lw lp _ (HW.out.below HB6.out) (HP.out.below HB6.out) (Or.inl ⟨rfl, rfl, rfl⟩) (Or.inr ⟨rfl, rfl, rfl⟩) rfl rfl).mono ?_
          rintro e w7 ⟨rfl, hb⟩
          have HB7 := Lib.hid (ext_then' HB6.out hb)
          have HGp7 := Lib.hid (row_then HGp6.out hb)
          have HGq7 := Lib.hid (row_then HGq6.out hb)
          clear hb HB6 HGp6 HGq6
          clear cp_12
          have cp_12 : w7.cell? ⟨w.heap.size, 12, none⟩ = some (.bool (p.hasPass)) := pack_at HGp7.out 12 _ rfl
          go_wp2
          go_ret
          exact ⟨by rw [HE.out]; rfl, HB7.out⟩
        · clear cp_10 cp_12
          have cp_12 : w6.cell? ⟨w.heap.size, 12, none⟩ = some (.bool (p.hasPass)) := pack_at HGp6.out 12 _ rfl
          have cp_13 : w6.cell? ⟨w.heap.size, 13, none⟩ = some (.string (p.pass)) := pack_at HGp6.out 13 _ rfl
          go_wp2_with ((with_reducible refine pk_set (w.heap.size + 1) 13 (setP (setU (qW p) p) p) (setPy (setP (setU (qW p) p) p) p) (.string (p.pass)) ?t7 ?x7 ?y7 HGq6.out ?a7 ?b7 ?c7 ?d7 ?e7 ?f7 ?g7 ?h7 ?i7); (case a7 => rfl); (case b7 => rfl); (case c7 => rfl); (case d7 => rfl); (case e7 => kernel_rfl); (case f7 => simp [Value.cells, willC, Value.oneCell']); (case g7 => simp [Value.cells, willC]); (case h7 => rfl))
          intro w7 hg hgr
          have HB7 := Lib.hid (grown_below HB6.out hgr HLT.out.1)
          have HGp7 := Lib.hid (row_grown HGp6.out hgr HLT.out.2)
          have HGq7 := Lib.hid hg
          clear hg hgr HB6 HGp6 HGq6
          clear cp_12 cp_13
          have cp_12 : w7.cell? ⟨w.heap.size, 12, none⟩ = some (.bool (p.hasPass)) := pack_at HGp7.out 12 _ rfl
          have cp_13 : w7.cell? ⟨w.heap.size, 13, none⟩ = some (.string (p.pass)) := pack_at HGp7.out 13 _ rfl
          clear cp_12 cp_13
          have HE : Hid (aloneQ p = setPy (setP (setU (qW p) p) p) p) := Lib.hid (by unfold aloneQ; simp only [if_neg (show ¬ ((p.kind == 2) = true) by rw [hk]; decide), if_neg (show ¬ (p.hasWill = true) by rw [hw]; decide), if_neg (show ¬ (p.hasUser = true) by rw [hu]; decide), if_pos (show p.hasPass = true from hp)]; rfl)
          go_wp2_with (first | ((with_reducible refine pk_load (w.heap.size) (p) ?x8 HGp7.out ?a8 ?b8 ?c8 ?d8); (case a8 => rfl); (case b8 => rfl); (case c8 => rfl)) | ((with_reducible refine pk_load (w.heap.size + 1) (setPy (setP (setU (qW p) p) p) p) ?x9 HGq7.out ?a9 ?b9 ?c9 ?d9); (case a9 => rfl); (case b9 => rfl); (case c9 => rfl)))
          refine (same_t p (setPy (setP (setU (qW p) p) p) p) (packC p) (packC (setPy (setP (setU (qW p) p) p) p)) rfl rfl lw lp _ (HW.out.below HB7.out) (HP.out.below HB7.out) (Or.inl ⟨rfl, rfl, rfl⟩) (Or.inr ⟨rfl, rfl, rfl⟩) rfl rfl).mono ?_
          rintro e w8 ⟨rfl, hb⟩
          have HB8 := Lib.hid (ext_then' HB7.out hb)
          have HGp8 := Lib.hid (row_then HGp7.out hb)
          have HGq8 := Lib.hid (row_then HGq7.out hb)
          clear hb HB7 HGp7 HGq7
          go_wp2
          go_ret
          exact ⟨by rw [HE.out]; rfl, HB8.out⟩
      · clear cp_10 cp_14
        have cp_10 : w5.cell? ⟨w.heap.size, 10, none⟩ = some (.bool (p.hasUser)) := pack_at HGp5.out 10 _ rfl
        have cp_11 : w5.cell? ⟨w.heap.size, 11, none⟩ = some (.string (p.user)) := pack_at HGp5.out 11 _ rfl
        go_wp2_with ((with_reducible refine pk_set (w.heap.size + 1) 11 (setU (qW p) p) (setUy (setU (qW p) p) p) (.string (p.user)) ?t10 ?x10 ?y10 HGq5.out ?a10 ?b10 ?c10 ?d10 ?e10 ?f10 ?g10 ?h10 ?i10); (case a10 => rfl); (case b10 => rfl); (case c10 => rfl); (case d10 => rfl); (case e10 => kernel_rfl); (case f10 => simp [Value.cells, willC, Value.oneCell']); (case g10 => simp [Value.cells, willC]); (case h10 => rfl))
        intro w6 hg hgr
        have HB6 := Lib.hid (grown_below HB5.out hgr HLT.out.1)
        have HGp6 := Lib.hid (row_grown HGp5.out hgr HLT.out.2)
        have HGq6 := Lib.hid hg
        clear hg hgr HB5 HGp5 HGq5
        clear cp_10 cp_11
        have cp_10 : w6.cell? ⟨w.heap.size, 10, none⟩ = some (.bool (p.hasUser)) := pack_at HGp6.out 10 _ rfl
        have cp_11 : w6.cell? ⟨w.heap.size, 11, none⟩ = some (.string (p.user)) := pack_at HGp6.out 11 _ rfl
        clear cp_10 cp_11
        have cp_10 : w6.cell? ⟨w.heap.size, 10, none⟩ = some (.bool (p.hasUser)) := pack_at HGp6.out 10 _ rfl
        have cp_12 : w6.cell? ⟨w.heap.size, 12, none⟩ = some (.bool (p.hasPass)) := pack_at HGp6.out 12 _ rfl
        go_wp2_with ((with_reducible refine pk_set (w.heap.size + 1) 12 (setUy (setU (qW p) p) p) (setP (setUy (setU (qW p) p) p) p) (.bool (p.hasPass)) ?t11 ?x11 ?y11 HGq6.out ?a11 ?b11 ?c11 ?d11 ?e11 ?f11 ?g11 ?h11 ?i11); (case a11 => rfl); (case b11 => rfl); (case c11 => rfl); (case d11 => rfl); (case e11 => kernel_rfl); (case f11 => simp [Value.cells, willC, Value.oneCell']); (case g11 => simp [Value.cells, willC]); (case h11 => rfl))
        intro w7 hg hgr
        have HB7 := Lib.hid (grown_below HB6.out hgr HLT.out.1)
        have HGp7 := Lib.hid (row_grown HGp6.out hgr HLT.out.2)
        have HGq7 := Lib.hid hg
        clear hg hgr HB6 HGp6 HGq6
        clear cp_10 cp_12
        have cp_10 : w7.cell? ⟨w.heap.size, 10, none⟩ = some (.bool (p.hasUser)) := pack_at HGp7.out 10 _ rfl
        have cp_12 : w7.cell? ⟨w.heap.size, 12, none⟩ = some (.bool (p.hasPass)) := pack_at HGp7.out 12 _ rfl
        cases hp : p.hasPass
        · clear cp_10 cp_12
          have cp_12 : w7.cell? ⟨w.heap.size, 12, none⟩ = some (.bool (p.hasPass)) := pack_at HGp7.out 12 _ rfl
          have HE : Hid (aloneQ p = setP (setUy (setU (qW p) p) p) p) := Lib.hid (by unfold aloneQ; simp only [if_neg (show ¬ ((p.kind == 2) = true) by rw [hk]; decide), if_neg (show ¬ (p.hasWill = true) by rw [hw]; decide), if_pos (show p.hasUser = true from hu), if_neg (show ¬ (p.hasPass = true) by rw [hp]; decide)]; rfl)
          go_wp2_with (first | ((with_reducible refine pk_load (w.heap.size) (p) ?x12 HGp7.out ?a12 ?b12 ?c12 ?d12); (case a12 => rfl); (case b12 => rfl); (case c12 => rfl)) | ((with_reducible refine pk_load (w.heap.size + 1) (setP (setUy (setU (qW p) p) p) p) ?x13 HGq7.out ?a13 ?b13 ?c13 ?d13); (case a13 => rfl); (case b13 => rfl); (case c13 => rfl)))
          refine (same_t p (setP (setUy (setU (qW p) p) p) p) (packC p) (packC (setP (setUy (setU (qW p) p) p) p)) rfl rfl lw lp _ (HW.out.below HB7.out) (HP.out.below HB7.out) (Or.inl ⟨rfl, rfl, rfl⟩) (Or.inr ⟨rfl, rfl, rfl⟩) rfl rfl).mono ?_
          rintro e w8 ⟨rfl, hb⟩
          have HB8 := Lib.hid (ext_then' HB7.out hb)
          have HGp8 := Lib.hid (row_then HGp7.out hb)
          have HGq8 := Lib.hid (row_then HGq7.out hb)
          clear hb HB7 HGp7 HGq7
          clear cp_12
          have cp_12 : w8.cell? ⟨w.heap.size, 12, none⟩ = some (.bool (p.hasPass)) := pack_at HGp8.out 12 _ rfl
          go_wp2
          go_ret
          exact ⟨by rw [HE.out]; rfl, HB8.out⟩
        · clear cp_10 cp_12
          have cp_12 : w7.cell? ⟨w.heap.size, 12, none⟩ = some (.bool (p.hasPass)) := pack_at HGp7.out 12 _ rfl
          have cp_13 : w7.cell? ⟨w.heap.size, 13, none⟩ = some (.string (p.pass)) := pack_at HGp7.out 13 _ rfl
          go_wp2_with ((with_reducible refine pk_set (w.heap.size + 1) 13 (setP (setUy (setU (qW p) p) p) p) (setPy (setP (setUy (setU (qW p) p) p) p) p) (.string (p.pass)) ?t14 ?x14 ?y14 HGq7.out ?a14 ?b14 ?c14 ?d14 ?e14 ?f14 ?g14 ?h14 ?i14); (case a14 => rfl); (case b14 => rfl); (case c14 => rfl); (case d14 => rfl); (case e14 => kernel_rfl); (case f14 => simp [Value.cells, willC, Value.oneCell']); (case g14 => simp [Value.cells, willC]); (case h14 => rfl))
          intro w8 hg hgr
          have HB8 := Lib.hid (grown_below HB7.out hgr HLT.out.1)
          have HGp8 := Lib.hid (row_grown HGp7.out hgr HLT.out.2)
          have HGq8 := Lib.hid hg
          clear hg hgr HB7 HGp7 HGq7
          clear cp_12 cp_13
          have cp_12 : w8.cell? ⟨w.heap.size, 12, none⟩ = some (.bool (p.hasPass)) := pack_at HGp8.out 12 _ rfl
          have cp_13 : w8.cell? ⟨w.heap.size, 13, none⟩ = some (.string (p.pass)) := pack_at HGp8.out 13 _ rfl
          clear cp_12 cp_13
          have HE : Hid (aloneQ p = setPy (setP (setUy (setU (qW p) p) p) p) p) := Lib.hid (by unfold aloneQ; simp only [if_neg (show ¬ ((p.kind == 2) = true) by rw [hk]; decide), if_neg (show ¬ (p.hasWill = true) by rw [hw]; decide), if_pos (show p.hasUser = true from hu), if_pos (show p.hasPass = true from hp)]; rfl)
          go_wp2_with (first | ((with_reducible refine pk_load (w.heap.size) (p) ?x15 HGp8.out ?a15 ?b15 ?c15 ?d15); (case a15 => rfl); (case b15 => rfl); (case c15 => rfl)) | ((with_reducible refine pk_load (w.heap.size + 1) (setPy (setP (setUy (setU (qW p) p) p) p) p) ?x16 HGq8.out ?a16 ?b16 ?c16 ?d16); (case a16 => rfl); (case b16 => rfl); (case c16 => rfl)))
          refine (same_t p (setPy (setP (setUy (setU (qW p) p) p) p) p) (packC p) (packC (setPy (setP (setUy (setU (qW p) p) p) p) p)) rfl rfl lw lp _ (HW.out.below HB8.out) (HP.out.below HB8.out) (Or.inl ⟨rfl, rfl, rfl⟩) (Or.inr ⟨rfl, rfl, rfl⟩) rfl rfl).mono ?_
          rintro e w9 ⟨rfl, hb⟩
          have HB9 := Lib.hid (ext_then' HB8.out hb)
          have HGp9 := Lib.hid (row_then HGp8.out hb)
          have HGq9 := Lib.hid (row_then HGq8.out hb)
          clear hb HB8 HGp8 HGq8
          go_wp2
          go_ret
          exact ⟨by rw [HE.out]; rfl, HB9.out⟩
    · go_wp2_with (first | ((with_reducible refine will_load w.heap.size p ?x17 HGp4.out ?a17 ?b17 ?c17 ?d17); (case a17 => rfl); (case b17 => rfl); (case c17 => rfl)) | ((with_reducible refine pk_set (w.heap.size + 1) 15 (qW p) (qWy p) (.agg (willC p)) ?t18 ?x18 ?y18 HGq4.out ?a18 ?b18 ?c18 ?d18 ?e18 ?f18 ?g18 ?h18 ?i18); (case a18 => rfl); (case b18 => rfl); (case c18 => rfl); (case d18 => rfl); (case e18 => kernel_rfl); (case f18 => simp [Value.cells, willC, Value.oneCell']); (case g18 => simp [Value.cells, willC]); (case h18 => rfl)))
      intro w5 hg hgr
      have HB5 := Lib.hid (grown_below HB4.out hgr HLT.out.1)
      have HGp5 := Lib.hid (row_grown HGp4.out hgr HLT.out.2)
      have HGq5 := Lib.hid hg
      clear hg hgr HB4 HGp4 HGq4
      clear cp_14
      have cp_14 : w5.cell? ⟨w.heap.size, 14, none⟩ = some (.bool (p.hasWill)) := pack_at HGp5.out 14 _ rfl
      clear cp_14
      have cp_10 : w5.cell? ⟨w.heap.size, 10, none⟩ = some (.bool (p.hasUser)) := pack_at HGp5.out 10 _ rfl
      have cp_14 : w5.cell? ⟨w.heap.size, 14, none⟩ = some (.bool (p.hasWill)) := pack_at HGp5.out 14 _ rfl
      go_wp2_with ((with_reducible refine pk_set (w.heap.size + 1) 10 (qWy p) (setU (qWy p) p) (.bool (p.hasUser)) ?t19 ?x19 ?y19 HGq5.out ?a19 ?b19 ?c19 ?d19 ?e19 ?f19 ?g19 ?h19 ?i19); (case a19 => rfl); (case b19 => rfl); (case c19 => rfl); (case d19 => rfl); (case e19 => kernel_rfl); (case f19 => simp [Value.cells, willC, Value.oneCell']); (case g19 => simp [Value.cells, willC]); (case h19 => rfl))
      intro w6 hg hgr
      have HB6 := Lib.hid (grown_below HB5.out hgr HLT.out.1)
      have HGp6 := Lib.hid (row_grown HGp5.out hgr HLT.out.2)
      have HGq6 := Lib.hid hg
      clear hg hgr HB5 HGp5 HGq5
      clear cp_10 cp_14
      have cp_10 : w6.cell? ⟨w.heap.size, 10, none⟩ = some (.bool (p.hasUser)) := pack_at HGp6.out 10 _ rfl
      have cp_14 : w6.cell? ⟨w.heap.size, 14, none⟩ = some (.bool (p.hasWill)) := pack_at HGp6.out 14 _ rfl
      cases hu : p.hasUser
      · clear cp_10 cp_14
        have cp_10 : w6.cell? ⟨w.heap.size, 10, none⟩ = some (.bool (p.hasUser)) := pack_at HGp6.out 10 _ rfl
        have cp_12 : w6.cell? ⟨w.heap.size, 12, none⟩ = some (.bool (p.hasPass)) := pack_at HGp6.out 12 _ rfl
        go_wp2_with ((with_reducible refine pk_set (w.heap.size + 1) 12 (setU (qWy p) p) (setP (setU (qWy p) p) p) (.bool (p.hasPass)) ?t20 ?x20 ?y20 HGq6.out ?a20 ?b20 ?c20 ?d20 ?e20 ?f20 ?g20 ?h20 ?i20); (case a20 => rfl); (case b20 => rfl); (case c20 => rfl); (case d20 => rfl); (case e20 => kernel_rfl); (case f20 => simp [Value.cells, willC, Value.oneCell']); (case g20 => simp [Value.cells, willC]); (case h20 => rfl))
        intro w7 hg hgr
        have HB7 := Lib.hid (grown_below HB6.out hgr HLT.out.1)
        have HGp7 := Lib.hid (row_grown HGp6.out hgr HLT.out.2)
        have HGq7 := Lib.hid hg
        clear hg hgr HB6 HGp6 HGq6
        clear cp_10 cp_12
        have cp_10 : w7.cell? ⟨w.heap.size, 10, none⟩ = some (.bool (p.hasUser)) := pack_at HGp7.out 10 _ rfl
        have cp_12 : w7.cell? ⟨w.heap.size, 12, none⟩ = some (.bool (p.hasPass)) := pack_at HGp7.out 12 _ rfl
        cases hp : p.hasPass
        · clear cp_10 cp_12
          have cp_12 : w7.cell? ⟨w.heap.size, 12, none⟩ = some (.bool (p.hasPass)) := pack_at HGp7.out 12 _ rfl
          have HE : Hid (aloneQ p = setP (setU (qWy p) p) p) := Lib.hid (by unfold aloneQ; simp only [if_neg (show ¬ ((p.kind == 2) = true) by rw [hk]; decide), if_pos (show p.hasWill = true from hw), if_neg (show ¬ (p.hasUser = true) by rw [hu]; decide), if_neg (show ¬ (p.hasPass = true) by rw [hp]; decide)]; rfl)
          go_wp2_with (first | ((with_reducible refine pk_load (w.heap.size) (p) ?x21 HGp7.out ?a21 ?b21 ?c21 ?d21); (case a21 => rfl); (case b21 => rfl); (case c21 => rfl)) | ((with_reducible refine pk_load (w.heap.size + 1) (setP (setU (qWy p) p) p) ?x22 HGq7.out ?a22 ?b22 ?c22 ?d22); (case a22 => rfl); (case b22 => rfl); (case c22 => rfl)))
          refine (same_t p (setP (setU (qWy p) p) p) (packC p) (packC (setP (setU (qWy p) p) p)) rfl rfl lw lp _ (HW.out.below HB7.out) (HP.out.below HB7.out) (Or.inr ⟨rfl, rfl, rfl⟩) (Or.inr ⟨rfl, rfl, rfl⟩) rfl rfl).mono ?_
          rintro e w8 ⟨rfl, hb⟩
          have HB8 := Lib.hid (ext_then' HB7.out hb)
          have HGp8 := Lib.hid (row_then HGp7.out hb)
          have HGq8 := Lib.hid (row_then HGq7.out hb)
          clear hb HB7 HGp7 HGq7
          clear cp_12
          have cp_12 : w8.cell? ⟨w.heap.size, 12, none⟩ = some (.bool (p.hasPass)) := pack_at HGp8.out 12 _ rfl
          go_wp2
          go_ret
          exact ⟨by rw [HE.out]; rfl, HB8.out⟩
        · clear cp_10 cp_12
          have cp_12 : w7.cell? ⟨w.heap.size, 12, none⟩ = some (.bool (p.hasPass)) := pack_at HGp7.out 12 _ rfl
          have cp_13 : w7.cell? ⟨w.heap.size, 13, none⟩ = some (.string (p.pass)) := pack_at HGp7.out 13 _ rfl
          go_wp2_with ((with_reducible refine pk_set (w.heap.size + 1) 13 (setP (setU (qWy p) p) p) (setPy (setP (setU (qWy p) p) p) p) (.string (p.pass)) ?t23 ?x23 ?y23 HGq7.out ?a23 ?b23 ?c23 ?d23 ?e23 ?f23 ?g23 ?h23 ?i23); (case a23 => rfl); (case b23 => rfl); (case c23 => rfl); (case d23 => rfl); (case e23 => kernel_rfl); (case f23 => simp [Value.cells, willC, Value.oneCell']); (case g23 => simp [Value.cells, willC]); (case h23 => rfl))
          intro w8 hg hgr
          have HB8 := Lib.hid (grown_below HB7.out hgr HLT.out.1)
          have HGp8 := Lib.hid (row_grown HGp7.out hgr HLT.out.2)
          have HGq8 := Lib.hid hg
          clear hg hgr HB7 HGp7 HGq7
          clear cp_12 cp_13
          have cp_12 : w8.cell? ⟨w.heap.size, 12, none⟩ = some (.bool (p.hasPass)) := pack_at HGp8.out 12 _ rfl
          have cp_13 : w8.cell? ⟨w.heap.size, 13, none⟩ = some (.string (p.pass)) := pack_at HGp8.out 13 _ rfl
          clear cp_12 cp_13
          have HE : Hid (aloneQ p = setPy (setP (setU (qWy p) p) p) p) := Lib.hid (by unfold aloneQ; simp only [if_neg (show ¬ ((p.kind == 2) = true) by rw [hk]; decide), if_pos (show p.hasWill = true from hw), if_neg (show ¬ (p.hasUser = true) by rw [hu]; decide), if_pos (show p.hasPass = true from hp)]; rfl)
          go_wp2_with (first | ((with_reducible refine pk_load (w.heap.size) (p) ?x24 HGp8.out ?a24 ?b24 ?c24 ?d24); (case a24 => rfl); (case b24 => rfl); (case c24 => rfl)) | ((with_reducible refine pk_load (w.heap.size + 1) (setPy (setP (setU (qWy p) p) p) p) ?x25 HGq8.out ?a25 ?b25 ?c25 ?d25); (case a25 => rfl); (case b25 => rfl); (case c25 => rfl)))
          refine (same_t p (setPy (setP (setU (qWy p) p) p) p) (packC p) (packC (setPy (setP (setU (qWy p) p) p) p)) rfl rfl lw lp _ (HW.out.below HB8.out) (HP.out.below HB8.out) (Or.inr ⟨rfl, rfl, rfl⟩) (Or.inr ⟨rfl, rfl, rfl⟩) rfl rfl).mono ?_
          rintro e w9 ⟨rfl, hb⟩
          have HB9 := Lib.hid (ext_then' HB8.out hb)
          have HGp9 := Lib.hid (row_then HGp8.out hb)
          have HGq9 := Lib.hid (row_then HGq8.out hb)
          clear hb HB8 HGp8 HGq8
          go_wp2
          go_ret
          exact ⟨by rw [HE.out]; rfl, HB9.out⟩
      · clear cp_10 cp_14
        have cp_10 : w6.cell? ⟨w.heap.size, 10, none⟩ = some (.bool (p.hasUser)) := pack_at HGp6.out 10 _ rfl
        have cp_11 : w6.cell? ⟨w.heap.size, 11, none⟩ = some (.string (p.user)) := pack_at HGp6.out 11 _ rfl
        go_wp2_with ((with_reducible refine pk_set (w.heap.size + 1) 11 (setU (qWy p) p) (setUy (setU (qWy p) p) p) (.string (p.user)) ?t26 ?x26 ?y26 HGq6.out ?a26 ?b26 ?c26 ?d26 ?e26 ?f26 ?g26 ?h26 ?i26); (case a26 => rfl); (case b26 => rfl); (case c26 => rfl); (case d26 => rfl); (case e26 => kernel_rfl); (case f26 => simp [Value.cells, willC, Value.oneCell']); (case g26 => simp [Value.cells, willC]); (case h26 => rfl))
        intro w7 hg hgr
        have HB7 := Lib.hid (grown_below HB6.out hgr HLT.out.1)
        have HGp7 := Lib.hid (row_grown HGp6.out hgr HLT.out.2)
        have HGq7 := Lib.hid hg
        clear hg hgr HB6 HGp6 HGq6
        clear cp_10 cp_11
        have cp_10 : w7.cell? ⟨w.heap.size, 10, none⟩ = some (.bool (p.hasUser)) := pack_at HGp7.out 10 _ rfl
        have cp_11 : w7.cell? ⟨w.heap.size, 11, none⟩ = some (.string (p.user)) := pack_at HGp7.out 11 _ rfl
        clear cp_10 cp_11
        have cp_10 : w7.cell? ⟨w.heap.size, 10, none⟩ = some (.bool (p.hasUser)) := pack_at HGp7.out 10 _ rfl
        have cp_12 : w7.cell? ⟨w.heap.size, 12, none⟩ = some (.bool (p.hasPass)) := pack_at HGp7.out 12 _ rfl
        go_wp2_with ((with_reducible refine pk_set (w.heap.size + 1) 12 (setUy (setU (qWy p) p) p) (setP (setUy (setU (qWy p) p) p) p) (.bool (p.hasPass)) ?t27 ?x27 ?y27 HGq7.out ?a27 ?b27 ?c27 ?d27 ?e27 ?f27 ?g27 ?h27 ?i27); (case a27 => rfl); (case b27 => rfl); (case c27 => rfl); (case d27 => rfl); (case e27 => kernel_rfl); (case f27 => simp [Value.cells, willC, Value.oneCell']); (case g27 => simp [Value.cells, willC]); (case h27 => rfl))
        intro w8 hg hgr
        have HB8 := Lib.hid (grown_below HB7.out hgr HLT.out.1)
        have HGp8 := Lib.hid (row_grown HGp7.out hgr HLT.out.2)
        have HGq8 := Lib.hid hg
        clear hg hgr HB7 HGp7 HGq7
        clear cp_10 cp_12
        have cp_10 : w8.cell? ⟨w.heap.size, 10, none⟩ = some (.bool (p.hasUser)) := pack_at HGp8.out 10 _ rfl
        have cp_12 : w8.cell? ⟨w.heap.size, 12, none⟩ = some (.bool (p.hasPass)) := pack_at HGp8.out 12 _ rfl
        cases hp : p.hasPass
        · clear cp_10 cp_12
          have cp_12 : w8.cell? ⟨w.heap.size, 12, none⟩ = some (.bool (p.hasPass)) := pack_at HGp8.out 12 _ rfl
          have HE : Hid (aloneQ p = setP (setUy (setU (qWy p) p) p) p) := Lib.hid (by unfold aloneQ; simp only [if_neg (show ¬ ((p.kind == 2) = true) by rw [hk]; decide), if_pos (show p.hasWill = true from hw), if_pos (show p.hasUser = true from hu), if_neg (show ¬ (p.hasPass = true) by rw [hp]; decide)]; rfl)
          go_wp2_with (first | ((with_reducible refine pk_load (w.heap.size) (p) ?x28 HGp8.out ?a28 ?b28 ?c28 ?d28); (case a28 => rfl); (case b28 => rfl); (case c28 => rfl)) | ((with_reducible refine pk_load (w.heap.size + 1) (setP (setUy (setU (qWy p) p) p) p) ?x29 HGq8.out ?a29 ?b29 ?c29 ?d29); (case a29 => rfl); (case b29 => rfl); (case c29 => rfl)))
          refine (same_t p (setP (setUy (setU (qWy p) p) p) p) (packC p) (packC (setP (setUy (setU (qWy p) p) p) p)) rfl rfl lw lp _ (HW.out.below HB8.out) (HP.out.below HB8.out) (Or.inr ⟨rfl, rfl, rfl⟩) (Or.inr ⟨rfl, rfl, rfl⟩) rfl rfl).mono ?_
          rintro e w9 ⟨rfl, hb⟩
          have HB9 := Lib.hid (ext_then' HB8.out hb)
          have HGp9 := Lib.hid (row_then HGp8.out hb)
          have HGq9 := Lib.hid (row_then HGq8.out hb)
          clear hb HB8 HGp8 HGq8
          clear cp_12
          have cp_12 : w9.cell? ⟨w.heap.size, 12, none⟩ = some (.bool (p.hasPass)) := pack_at HGp9.out 12 _ rfl
          go_wp2
          go_ret
          exact ⟨by rw [HE.out]; rfl, HB9.out⟩
        · clear cp_10 cp_12
          have cp_12 : w8.cell? ⟨w.heap.size, 12, none⟩ = some (.bool (p.hasPass)) := pack_at HGp8.out 12 _ rfl
          have cp_13 : w8.cell? ⟨w.heap.size, 13, none⟩ = some (.string (p.pass)) := pack_at HGp8.out 13 _ rfl
          go_wp2_with ((with_reducible refine pk_set (w.heap.size + 1) 13 (setP (setUy (setU (qWy p) p) p) p) (setPy (setP (setUy (setU (qWy p) p) p) p) p) (.string (p.pass)) ?t30 ?x30 ?y30 HGq8.out ?a30 ?b30 ?c30 ?d30 ?e30 ?f30 ?g30 ?h30 ?i30); (case a30 => rfl); (case b30 => rfl); (case c30 => rfl); (case d30 => rfl); (case e30 => kernel_rfl); (case f30 => simp [Value.cells, willC, Value.oneCell']); (case g30 => simp [Value.cells, willC]); (case h30 => rfl))
          intro w9 hg hgr
          have HB9 := Lib.hid (grown_below HB8.out hgr HLT.out.1)
          have HGp9 := Lib.hid (row_grown HGp8.out hgr HLT.out.2)
          have HGq9 := Lib.hid hg
          clear hg hgr HB8 HGp8 HGq8
          clear cp_12 cp_13
          have cp_12 : w9.cell? ⟨w.heap.size, 12, none⟩ = some (.bool (p.hasPass)) := pack_at HGp9.out 12 _ rfl
          have cp_13 : w9.cell? ⟨w.heap.size, 13, none⟩ = some (.string (p.pass)) := pack_at HGp9.out 13 _ rfl
          clear cp_12 cp_13
          have HE : Hid (aloneQ p = setPy (setP (setUy (setU (qWy p) p) p) p) p) := Lib.hid (by unfold aloneQ; simp only [if_neg (show ¬ ((p.kind == 2) = true) by rw [hk]; decide), if_pos (show p.hasWill = true from hw), if_pos (show p.hasUser = true from hu), if_pos (show p.hasPass = true from hp)]; rfl)
          go_wp2_with (first | ((with_reducible refine pk_load (w.heap.size) (p) ?x31 HGp9.out ?a31 ?b31 ?c31 ?d31); (case a31 => rfl); (case b31 => rfl); (case c31 => rfl)) | ((with_reducible refine pk_load (w.heap.size + 1) (setPy (setP (setUy (setU (qWy p) p) p) p) p) ?x32 HGq9.out ?a32 ?b32 ?c32 ?d32); (case a32 => rfl); (case b32 => rfl); (case c32 => rfl)))
          refine (same_t p (setPy (setP (setUy (setU (qWy p) p) p) p) p) (packC p) (packC (setPy (setP (setUy (setU (qWy p) p) p) p) p)) rfl rfl lw lp _ (HW.out.below HB9.out) (HP.out.below HB9.out) (Or.inr ⟨rfl, rfl, rfl⟩) (Or.inr ⟨rfl, rfl, rfl⟩) rfl rfl).mono ?_
          rintro e w10 ⟨rfl, hb⟩
          have HB10 := Lib.hid (ext_then' HB9.out hb)
          have HGp10 := Lib.hid (row_then HGp9.out hb)
          have HGq10 := Lib.hid (row_then HGq9.out hb)
          clear hb HB9 HGp9 HGq9
          go_wp2
          go_ret
          exact ⟨by rw [HE.out]; rfl, HB10.out⟩
  · clear cp_0
    have cp_0 : w2.cell? ⟨w.heap.size, 0, none⟩ = some (.int .i64 (p.kind)) := pack_at HGp2.out 0 _ rfl
    have cp_20 : w2.cell? ⟨w.heap.size, 20, none⟩ = some (.bool (p.session)) := pack_at HGp2.out 20 _ rfl
    have cp_21 : w2.cell? ⟨w.heap.size, 21, none⟩ = some (.int .i64 (p.code)) := pack_at HGp2.out 21 _ rfl
    have cq_20 : w2.cell? ⟨w.heap.size + 1, 20, none⟩ = some (.bool (false)) := pack_at HGq2.out 20 _ rfl
    have cq_21 : w2.cell? ⟨w.heap.size + 1, 21, none⟩ = some (.int .i64 (0)) := pack_at HGq2.out 21 _ rfl
    have f20 : w2.frozen? ⟨w.heap.size + 1, 20, none⟩ = false := frozen_of_row _ _ _ _ _ HGq2.out
    have f21 : w2.frozen? ⟨w.heap.size + 1, 21, none⟩ = false := frozen_of_row _ _ _ _ _ HGq2.out
    go_wp2_with fail
    go_region
    have hgr := grown_two w2 (w.heap.size + 1) 20 21 (.bool (p.session)) (.int .i64 (p.code))
    have HGq3 : Hid (((w2.setCell ⟨w.heap.size + 1, 20, none⟩ (.bool (p.session))).setCell ⟨w.heap.size + 1, 21, none⟩ (.int .i64 (p.code))).drew.heap[w.heap.size + 1]? = some (.cells (packC (qA p)) 28 (0, 0))) := Lib.hid (row_two HGq2.out 20 21 _ _)
    have HB3 := Lib.hid (grown_below HB2.out hgr HLT.out.1)
    have HGp3 := Lib.hid (row_grown HGp2.out hgr HLT.out.2)
    generalize ((w2.setCell ⟨w.heap.size + 1, 20, none⟩ (.bool (p.session))).setCell ⟨w.heap.size + 1, 21, none⟩ (.int .i64 (p.code))).drew = w3 at *
    clear hgr f20 f21 HB2 HGp2 HGq2
    clear cp_0 cp_20 cp_21 cq_20 cq_21
    have HE : Hid (aloneQ p = qA p) := Lib.hid (by unfold aloneQ; simp only [if_pos (show (p.kind == 2) = true from hk)]; rfl)
    go_wp2_with (first | ((with_reducible refine pk_load (w.heap.size) (p) ?x33 HGp3.out ?a33 ?b33 ?c33 ?d33); (case a33 => rfl); (case b33 => rfl); (case c33 => rfl)) | ((with_reducible refine pk_load (w.heap.size + 1) (qA p) ?x34 HGq3.out ?a34 ?b34 ?c34 ?d34); (case a34 => rfl); (case b34 => rfl); (case c34 => rfl)))
    refine (same_t p (qA p) (packC p) (packC (qA p)) rfl rfl lw lp _ (HW.out.below HB3.out) (HP.out.below HB3.out) (Or.inl ⟨rfl, rfl, rfl⟩) (Or.inr ⟨rfl, rfl, rfl⟩) rfl rfl).mono ?_
    rintro e w4 ⟨rfl, hb⟩
    have HB4 := Lib.hid (ext_then' HB3.out hb)
    have HGp4 := Lib.hid (row_then HGp3.out hb)
    have HGq4 := Lib.hid (row_then HGq3.out hb)
    clear hb HB3 HGp3 HGq3
    go_wp2
    go_ret
    exact ⟨by rw [HE.out]; rfl, HB4.out⟩
end Go.Proofs.YtjlkhihlbdokpaaGreat
/- connect.known, ours, ranges, Valid. -/
namespace Go.Proofs.YtjlkhihlbdokpaaGreat
open Go.RowKit Go.Sort
set_option maxHeartbeats 2000000
set_option linter.unusedVariables false
set_option linter.unusedSimpArgs false
def knownB (v : Int) : Bool := v == 4 || v == 5
theorem cknown_t (v : Int) (w : World) : Calls Tryz.prog 48 #[.int .i64 v] w fun e w' => e = .returned (.bool (knownB v)) ∧ w' = w := by
  unfold knownB
  cases h4 : (v == 4) <;> cases h5 : (v == 5)
  all_goals
    go_enter Tryz.func48, Tryz.ntmps48
    go_wp2
    go_ret
    exact ⟨rfl, rfl⟩
def oursB (k : Int) : Bool := k == 1 || k == 2
theorem cours_t (k : Int) (w : World) : Calls Tryz.prog 49 #[.int .i64 k] w fun e w' => e = .returned (.bool (oursB k)) ∧ w' = w := by
  unfold oursB
  cases h4 : (k == 1) <;> cases h5 : (k == 2)
  all_goals
    go_enter Tryz.func49, Tryz.ntmps49
    go_wp2
    go_ret
    exact ⟨rfl, rfl⟩
def keepB (p : Pk) : Bool := if decide (0 ≤ p.keep) = true then (if decide (p.keep < 65536) = true then (if decide (0 ≤ p.wQoS) = true then decide (p.wQoS ≤ 2) else false) else false) else false
def codeOK (c : Bool) (p : Pk) : Bool := if c = true then (if (p.code == 0) = true then true else !p.session) else false
def lackB (p : Pk) : Bool := if p.hasPass = true then (if p.hasUser = true then keepB p else false) else keepB p
def rangesB (v : Int) (p : Pk) : Bool :=
  if (v == 4) = true then
    (if decide ((0 : Int) < (p.props.n : Int) + (p.wProps.n : Int)) = true then false
     else if (p.kind == 2) = true then codeOK (returnB p.code) p
     else if p.client.toList.isEmpty = true then (if p.clean = true then lackB p else false) else lackB p)
  else if (p.kind == 2) = true then codeOK (mayB p.kind p.code) p else keepB p
set_option maxRecDepth 100000 in
theorem ranges_t (v : Int) (p : Pk) (hok : PkOK p) (w : World) : Calls Tryz.prog 51 #[.int .i64 v, .agg (packC p)] w fun e w' => e = .returned (.bool (rangesB v p)) ∧ Below w.heap.size w w' := by
  obtain ⟨wN, pN⟩ := (⟨hok.wN, hok.pN⟩ : _ ∧ _)
  clear hok
  have HB1 := Lib.hid ((Below.refl w.heap.size w).alloc (Nat.le_refl _) (.cells (packC p) 28))
  have HGp1 := Lib.hid (heap_alloc_new w (.cells (packC p) 28))
  go_enter Tryz.func51, Tryz.ntmps51
  have cp_0 : (w.alloc (.cells (packC p) 28)).cell? ⟨w.heap.size, 0, none⟩ = some (.int .i64 (p.kind)) := pack_at HGp1.out 0 _ rfl
  have cp_7 : (w.alloc (.cells (packC p) 28)).cell? ⟨w.heap.size, 7, none⟩ = some (.bool (p.clean)) := pack_at HGp1.out 7 _ rfl
  have cp_8 : (w.alloc (.cells (packC p) 28)).cell? ⟨w.heap.size, 8, none⟩ = some (.int .i64 (p.keep)) := pack_at HGp1.out 8 _ rfl
  have cp_9 : (w.alloc (.cells (packC p) 28)).cell? ⟨w.heap.size, 9, none⟩ = some (.string (p.client)) := pack_at HGp1.out 9 _ rfl
  have cp_10 : (w.alloc (.cells (packC p) 28)).cell? ⟨w.heap.size, 10, none⟩ = some (.bool (p.hasUser)) := pack_at HGp1.out 10 _ rfl
  have cp_12 : (w.alloc (.cells (packC p) 28)).cell? ⟨w.heap.size, 12, none⟩ = some (.bool (p.hasPass)) := pack_at HGp1.out 12 _ rfl
  have cp_17 : (w.alloc (.cells (packC p) 28)).cell? ⟨w.heap.size, 17, none⟩ = some (.int .i64 (p.wQoS)) := pack_at HGp1.out 17 _ rfl
  have cp_19 : (w.alloc (.cells (packC p) 28)).cell? ⟨w.heap.size, 19, none⟩ = some (.slice p.wProps.A p.wProps.n p.wProps.c) := pack_at HGp1.out 19 _ rfl
  have cp_20 : (w.alloc (.cells (packC p) 28)).cell? ⟨w.heap.size, 20, none⟩ = some (.bool (p.session)) := pack_at HGp1.out 20 _ rfl
  have cp_21 : (w.alloc (.cells (packC p) 28)).cell? ⟨w.heap.size, 21, none⟩ = some (.int .i64 (p.code)) := pack_at HGp1.out 21 _ rfl
  have cp_24 : (w.alloc (.cells (packC p) 28)).cell? ⟨w.heap.size, 24, none⟩ = some (.slice p.props.A p.props.n p.props.c) := pack_at HGp1.out 24 _ rfl
  cases hv : (v == 4)
  · cases hk : (p.kind == 2)
    · cases k0 : decide (0 ≤ p.keep)
      · have HE : Hid (rangesB v p = false) := Lib.hid (by simp only [rangesB, codeOK, lackB, keepB, hv, hk, k0, if_true, if_false, Bool.false_eq_true, Bool.not_true, Bool.not_false])
        go_wp2
        go_ret
        exact ⟨by rw [HE.out]; rfl, HB1.out⟩
      · cases k1 : decide (p.keep < 65536)
        · have HE : Hid (rangesB v p = false) := Lib.hid (by simp only [rangesB, codeOK, lackB, keepB, hv, hk, k0, k1, if_true, if_false, Bool.false_eq_true, Bool.not_true, Bool.not_false])
          go_wp2
          go_ret
          exact ⟨by rw [HE.out]; rfl, HB1.out⟩
        · cases k2 : decide (0 ≤ p.wQoS)
          · have HE : Hid (rangesB v p = false) := Lib.hid (by simp only [rangesB, codeOK, lackB, keepB, hv, hk, k0, k1, k2, if_true, if_false, Bool.false_eq_true, Bool.not_true, Bool.not_false])
            go_wp2
            go_ret
            exact ⟨by rw [HE.out]; rfl, HB1.out⟩
          · cases k3 : decide (p.wQoS ≤ 2)
            · have HE : Hid (rangesB v p = false) := Lib.hid (by simp only [rangesB, codeOK, lackB, keepB, hv, hk, k0, k1, k2, k3, if_true, if_false, Bool.false_eq_true, Bool.not_true, Bool.not_false])
              go_wp2
              go_ret
              exact ⟨by rw [HE.out]; rfl, HB1.out⟩
            · have HE : Hid (rangesB v p = true) := Lib.hid (by simp only [rangesB, codeOK, lackB, keepB, hv, hk, k0, k1, k2, k3, if_true, if_false, Bool.false_eq_true, Bool.not_true, Bool.not_false])
              go_wp2
              go_ret
              exact ⟨by rw [HE.out]; rfl, HB1.out⟩
    · go_wp2_with ((with_reducible refine pk_load (w.heap.size) (p) ?x1 HGp1.out ?a1 ?b1 ?c1 ?d1); (case a1 => rfl); (case b1 => rfl); (case c1 => rfl))
      refine (may_t p.kind p.code _).mono ?_
      rintro e w2 ⟨rfl, hb⟩
      have HB2 := Lib.hid (ext_then' HB1.out hb)
      have HGp2 := Lib.hid (row_then HGp1.out hb)
      clear hb HB1 HGp1
      clear cp_0 cp_7 cp_8 cp_9 cp_10 cp_12 cp_17 cp_19 cp_20 cp_21 cp_24
      have cp_0 : w2.cell? ⟨w.heap.size, 0, none⟩ = some (.int .i64 (p.kind)) := pack_at HGp2.out 0 _ rfl
      have cp_7 : w2.cell? ⟨w.heap.size, 7, none⟩ = some (.bool (p.clean)) := pack_at HGp2.out 7 _ rfl
      have cp_8 : w2.cell? ⟨w.heap.size, 8, none⟩ = some (.int .i64 (p.keep)) := pack_at HGp2.out 8 _ rfl
      have cp_9 : w2.cell? ⟨w.heap.size, 9, none⟩ = some (.string (p.client)) := pack_at HGp2.out 9 _ rfl
      have cp_10 : w2.cell? ⟨w.heap.size, 10, none⟩ = some (.bool (p.hasUser)) := pack_at HGp2.out 10 _ rfl
      have cp_12 : w2.cell? ⟨w.heap.size, 12, none⟩ = some (.bool (p.hasPass)) := pack_at HGp2.out 12 _ rfl
      have cp_17 : w2.cell? ⟨w.heap.size, 17, none⟩ = some (.int .i64 (p.wQoS)) := pack_at HGp2.out 17 _ rfl
      have cp_19 : w2.cell? ⟨w.heap.size, 19, none⟩ = some (.slice p.wProps.A p.wProps.n p.wProps.c) := pack_at HGp2.out 19 _ rfl
      have cp_20 : w2.cell? ⟨w.heap.size, 20, none⟩ = some (.bool (p.session)) := pack_at HGp2.out 20 _ rfl
      have cp_21 : w2.cell? ⟨w.heap.size, 21, none⟩ = some (.int .i64 (p.code)) := pack_at HGp2.out 21 _ rfl
      have cp_24 : w2.cell? ⟨w.heap.size, 24, none⟩ = some (.slice p.props.A p.props.n p.props.c) := pack_at HGp2.out 24 _ rfl
      cases hc : mayB p.kind p.code
      · have HE : Hid (rangesB v p = false) := Lib.hid (by simp only [rangesB, codeOK, lackB, keepB, hv, hk, hc, if_true, if_false, Bool.false_eq_true, Bool.not_true, Bool.not_false])
        go_wp2
        go_ret
        exact ⟨by rw [HE.out]; rfl, HB2.out⟩
      · cases hz : (p.code == 0)
        · cases hq : p.session
          · have HE : Hid (rangesB v p = true) := Lib.hid (by simp only [rangesB, codeOK, lackB, keepB, hv, hk, hc, hz, hq, if_true, if_false, Bool.false_eq_true, Bool.not_true, Bool.not_false])
            go_wp2
            go_ret
            exact ⟨by rw [HE.out]; rfl, HB2.out⟩
          · have HE : Hid (rangesB v p = false) := Lib.hid (by simp only [rangesB, codeOK, lackB, keepB, hv, hk, hc, hz, hq, if_true, if_false, Bool.false_eq_true, Bool.not_true, Bool.not_false])
            go_wp2
            go_ret
            exact ⟨by rw [HE.out]; rfl, HB2.out⟩
        · have HE : Hid (rangesB v p = true) := Lib.hid (by simp only [rangesB, codeOK, lackB, keepB, hv, hk, hc, hz, if_true, if_false, Bool.false_eq_true, Bool.not_true, Bool.not_false])
          go_wp2
          go_ret
          exact ⟨by rw [HE.out]; rfl, HB2.out⟩
  · have hs' : (0 : Int) ≤ (p.props.n : Int) + (p.wProps.n : Int) := by omega
    cases hs : decide ((0 : Int) < (p.props.n : Int) + (p.wProps.n : Int))
    · cases hk : (p.kind == 2)
      · cases hcs : p.client.toList.isEmpty
        · cases hp : p.hasPass
          · cases k0 : decide (0 ≤ p.keep)
            · have HE : Hid (rangesB v p = false) := Lib.hid (by simp only [rangesB, codeOK, lackB, keepB, hv, hs, hk, hcs, hp, k0, if_true, if_false, Bool.false_eq_true, Bool.not_true, Bool.not_false])
              go_wp2
              go_ret
              exact ⟨by rw [HE.out]; rfl, HB1.out⟩
            · cases k1 : decide (p.keep < 65536)
              · have HE : Hid (rangesB v p = false) := Lib.hid (by simp only [rangesB, codeOK, lackB, keepB, hv, hs, hk, hcs, hp, k0, k1, if_true, if_false, Bool.false_eq_true, Bool.not_true, Bool.not_false])
                go_wp2
                go_ret
                exact ⟨by rw [HE.out]; rfl, HB1.out⟩
              · cases k2 : decide (0 ≤ p.wQoS)
                · have HE : Hid (rangesB v p = false) := Lib.hid (by simp only [rangesB, codeOK, lackB, keepB, hv, hs, hk, hcs, hp, k0, k1, k2, if_true, if_false, Bool.false_eq_true, Bool.not_true, Bool.not_false])
                  go_wp2
                  go_ret
                  exact ⟨by rw [HE.out]; rfl, HB1.out⟩
                · cases k3 : decide (p.wQoS ≤ 2)
                  · have HE : Hid (rangesB v p = false) := Lib.hid (by simp only [rangesB, codeOK, lackB, keepB, hv, hs, hk, hcs, hp, k0, k1, k2, k3, if_true, if_false, Bool.false_eq_true, Bool.not_true, Bool.not_false])
                    go_wp2
                    go_ret
                    exact ⟨by rw [HE.out]; rfl, HB1.out⟩
                  · have HE : Hid (rangesB v p = true) := Lib.hid (by simp only [rangesB, codeOK, lackB, keepB, hv, hs, hk, hcs, hp, k0, k1, k2, k3, if_true, if_false, Bool.false_eq_true, Bool.not_true, Bool.not_false])
                    go_wp2
                    go_ret
                    exact ⟨by rw [HE.out]; rfl, HB1.out⟩
          · cases hu : p.hasUser
            · have HE : Hid (rangesB v p = false) := Lib.hid (by simp only [rangesB, codeOK, lackB, keepB, hv, hs, hk, hcs, hp, hu, if_true, if_false, Bool.false_eq_true, Bool.not_true, Bool.not_false])
              go_wp2
              go_ret
              exact ⟨by rw [HE.out]; rfl, HB1.out⟩
            · cases k0 : decide (0 ≤ p.keep)
              · have HE : Hid (rangesB v p = false) := Lib.hid (by simp only [rangesB, codeOK, lackB, keepB, hv, hs, hk, hcs, hp, hu, k0, if_true, if_false, Bool.false_eq_true, Bool.not_true, Bool.not_false])
                go_wp2
                go_ret
                exact ⟨by rw [HE.out]; rfl, HB1.out⟩
              · cases k1 : decide (p.keep < 65536)
                · have HE : Hid (rangesB v p = false) := Lib.hid (by simp only [rangesB, codeOK, lackB, keepB, hv, hs, hk, hcs, hp, hu, k0, k1, if_true, if_false, Bool.false_eq_true, Bool.not_true, Bool.not_false])
                  go_wp2
                  go_ret
                  exact ⟨by rw [HE.out]; rfl, HB1.out⟩
                · cases k2 : decide (0 ≤ p.wQoS)
                  · have HE : Hid (rangesB v p = false) := Lib.hid (by simp only [rangesB, codeOK, lackB, keepB, hv, hs, hk, hcs, hp, hu, k0, k1, k2, if_true, if_false, Bool.false_eq_true, Bool.not_true, Bool.not_false])
                    go_wp2
                    go_ret
                    exact ⟨by rw [HE.out]; rfl, HB1.out⟩
                  · cases k3 : decide (p.wQoS ≤ 2)
                    · have HE : Hid (rangesB v p = false) := Lib.hid (by simp only [rangesB, codeOK, lackB, keepB, hv, hs, hk, hcs, hp, hu, k0, k1, k2, k3, if_true, if_false, Bool.false_eq_true, Bool.not_true, Bool.not_false])
                      go_wp2
                      go_ret
                      exact ⟨by rw [HE.out]; rfl, HB1.out⟩
                    · have HE : Hid (rangesB v p = true) := Lib.hid (by simp only [rangesB, codeOK, lackB, keepB, hv, hs, hk, hcs, hp, hu, k0, k1, k2, k3, if_true, if_false, Bool.false_eq_true, Bool.not_true, Bool.not_false])
                      go_wp2
                      go_ret
                      exact ⟨by rw [HE.out]; rfl, HB1.out⟩
        · cases hcl : p.clean
          · have HE : Hid (rangesB v p = false) := Lib.hid (by simp only [rangesB, codeOK, lackB, keepB, hv, hs, hk, hcs, hcl, if_true, if_false, Bool.false_eq_true, Bool.not_true, Bool.not_false])
            go_wp2
            go_ret
            exact ⟨by rw [HE.out]; rfl, HB1.out⟩
          · cases hp : p.hasPass
            · cases k0 : decide (0 ≤ p.keep)
              · have HE : Hid (rangesB v p = false) := Lib.hid (by simp only [rangesB, codeOK, lackB, keepB, hv, hs, hk, hcs, hcl, hp, k0, if_true, if_false, Bool.false_eq_true, Bool.not_true, Bool.not_false])
                go_wp2
                go_ret
                exact ⟨by rw [HE.out]; rfl, HB1.out⟩
              · cases k1 : decide (p.keep < 65536)
                · have HE : Hid (rangesB v p = false) := Lib.hid (by simp only [rangesB, codeOK, lackB, keepB, hv, hs, hk, hcs, hcl, hp, k0, k1, if_true, if_false, Bool.false_eq_true, Bool.not_true, Bool.not_false])
                  go_wp2
                  go_ret
                  exact ⟨by rw [HE.out]; rfl, HB1.out⟩
                · cases k2 : decide (0 ≤ p.wQoS)
                  · have HE : Hid (rangesB v p = false) := Lib.hid (by simp only [rangesB, codeOK, lackB, keepB, hv, hs, hk, hcs, hcl, hp, k0, k1, k2, if_true, if_false, Bool.false_eq_true, Bool.not_true, Bool.not_false])
                    go_wp2
                    go_ret
                    exact ⟨by rw [HE.out]; rfl, HB1.out⟩
                  · cases k3 : decide (p.wQoS ≤ 2)
                    · have HE : Hid (rangesB v p = false) := Lib.hid (by simp only [rangesB, codeOK, lackB, keepB, hv, hs, hk, hcs, hcl, hp, k0, k1, k2, k3, if_true, if_false, Bool.false_eq_true, Bool.not_true, Bool.not_false])
                      go_wp2
                      go_ret
                      exact ⟨by rw [HE.out]; rfl, HB1.out⟩
                    · have HE : Hid (rangesB v p = true) := Lib.hid (by simp only [rangesB, codeOK, lackB, keepB, hv, hs, hk, hcs, hcl, hp, k0, k1, k2, k3, if_true, if_false, Bool.false_eq_true, Bool.not_true, Bool.not_false])
                      go_wp2
                      go_ret
                      exact ⟨by rw [HE.out]; rfl, HB1.out⟩
            · cases hu : p.hasUser
              · have HE : Hid (rangesB v p = false) := Lib.hid (by simp only [rangesB, codeOK, lackB, keepB, hv, hs, hk, hcs, hcl, hp, hu, if_true, if_false, Bool.false_eq_true, Bool.not_true, Bool.not_false])
                go_wp2
                go_ret
                exact ⟨by rw [HE.out]; rfl, HB1.out⟩
              · cases k0 : decide (0 ≤ p.keep)
                · have HE : Hid (rangesB v p = false) := Lib.hid (by simp only [rangesB, codeOK, lackB, keepB, hv, hs, hk, hcs, hcl, hp, hu, k0, if_true, if_false, Bool.false_eq_true, Bool.not_true, Bool.not_false])
                  go_wp2
                  go_ret
                  exact ⟨by rw [HE.out]; rfl, HB1.out⟩
                · cases k1 : decide (p.keep < 65536)
                  · have HE : Hid (rangesB v p = false) := Lib.hid (by simp only [rangesB, codeOK, lackB, keepB, hv, hs, hk, hcs, hcl, hp, hu, k0, k1, if_true, if_false, Bool.false_eq_true, Bool.not_true, Bool.not_false])
                    go_wp2
                    go_ret
                    exact ⟨by rw [HE.out]; rfl, HB1.out⟩
                  · cases k2 : decide (0 ≤ p.wQoS)
                    · have HE : Hid (rangesB v p = false) := Lib.hid (by simp only [rangesB, codeOK, lackB, keepB, hv, hs, hk, hcs, hcl, hp, hu, k0, k1, k2, if_true, if_false, Bool.false_eq_true, Bool.not_true, Bool.not_false])
                      go_wp2
                      go_ret
                      exact ⟨by rw [HE.out]; rfl, HB1.out⟩
                    · cases k3 : decide (p.wQoS ≤ 2)
                      · have HE : Hid (rangesB v p = false) := Lib.hid (by simp only [rangesB, codeOK, lackB, keepB, hv, hs, hk, hcs, hcl, hp, hu, k0, k1, k2, k3, if_true, if_false, Bool.false_eq_true, Bool.not_true, Bool.not_false])
                        go_wp2
                        go_ret
                        exact ⟨by rw [HE.out]; rfl, HB1.out⟩
                      · have HE : Hid (rangesB v p = true) := Lib.hid (by simp only [rangesB, codeOK, lackB, keepB, hv, hs, hk, hcs, hcl, hp, hu, k0, k1, k2, k3, if_true, if_false, Bool.false_eq_true, Bool.not_true, Bool.not_false])
                        go_wp2
                        go_ret
                        exact ⟨by rw [HE.out]; rfl, HB1.out⟩
      · go_wp2_with ((with_reducible refine pk_load (w.heap.size) (p) ?x2 HGp1.out ?a2 ?b2 ?c2 ?d2); (case a2 => rfl); (case b2 => rfl); (case c2 => rfl))
        refine (may_t p.kind p.code _).mono ?_
        rintro e w2 ⟨rfl, hb⟩
        have HB2 := Lib.hid (ext_then' HB1.out hb)
        have HGp2 := Lib.hid (row_then HGp1.out hb)
        clear hb HB1 HGp1
        clear cp_0 cp_7 cp_8 cp_9 cp_10 cp_12 cp_17 cp_19 cp_20 cp_21 cp_24
        have cp_0 : w2.cell? ⟨w.heap.size, 0, none⟩ = some (.int .i64 (p.kind)) := pack_at HGp2.out 0 _ rfl
        have cp_7 : w2.cell? ⟨w.heap.size, 7, none⟩ = some (.bool (p.clean)) := pack_at HGp2.out 7 _ rfl
        have cp_8 : w2.cell? ⟨w.heap.size, 8, none⟩ = some (.int .i64 (p.keep)) := pack_at HGp2.out 8 _ rfl
        have cp_9 : w2.cell? ⟨w.heap.size, 9, none⟩ = some (.string (p.client)) := pack_at HGp2.out 9 _ rfl
        have cp_10 : w2.cell? ⟨w.heap.size, 10, none⟩ = some (.bool (p.hasUser)) := pack_at HGp2.out 10 _ rfl
        have cp_12 : w2.cell? ⟨w.heap.size, 12, none⟩ = some (.bool (p.hasPass)) := pack_at HGp2.out 12 _ rfl
        have cp_17 : w2.cell? ⟨w.heap.size, 17, none⟩ = some (.int .i64 (p.wQoS)) := pack_at HGp2.out 17 _ rfl
        have cp_19 : w2.cell? ⟨w.heap.size, 19, none⟩ = some (.slice p.wProps.A p.wProps.n p.wProps.c) := pack_at HGp2.out 19 _ rfl
        have cp_20 : w2.cell? ⟨w.heap.size, 20, none⟩ = some (.bool (p.session)) := pack_at HGp2.out 20 _ rfl
        have cp_21 : w2.cell? ⟨w.heap.size, 21, none⟩ = some (.int .i64 (p.code)) := pack_at HGp2.out 21 _ rfl
        have cp_24 : w2.cell? ⟨w.heap.size, 24, none⟩ = some (.slice p.props.A p.props.n p.props.c) := pack_at HGp2.out 24 _ rfl
        go_wp2_with ((with_reducible refine pk_load (w.heap.size) (p) ?x3 HGp2.out ?a3 ?b3 ?c3 ?d3); (case a3 => rfl); (case b3 => rfl); (case c3 => rfl))
        refine (return_t p.code _).mono ?_
        rintro e w3 ⟨rfl, hb⟩
        have HB3 := Lib.hid (ext_then' HB2.out hb)
        have HGp3 := Lib.hid (row_then HGp2.out hb)
        clear hb HB2 HGp2
        clear cp_0 cp_7 cp_8 cp_9 cp_10 cp_12 cp_17 cp_19 cp_20 cp_21 cp_24
        have cp_0 : w3.cell? ⟨w.heap.size, 0, none⟩ = some (.int .i64 (p.kind)) := pack_at HGp3.out 0 _ rfl
        have cp_7 : w3.cell? ⟨w.heap.size, 7, none⟩ = some (.bool (p.clean)) := pack_at HGp3.out 7 _ rfl
        have cp_8 : w3.cell? ⟨w.heap.size, 8, none⟩ = some (.int .i64 (p.keep)) := pack_at HGp3.out 8 _ rfl
        have cp_9 : w3.cell? ⟨w.heap.size, 9, none⟩ = some (.string (p.client)) := pack_at HGp3.out 9 _ rfl
        have cp_10 : w3.cell? ⟨w.heap.size, 10, none⟩ = some (.bool (p.hasUser)) := pack_at HGp3.out 10 _ rfl
        have cp_12 : w3.cell? ⟨w.heap.size, 12, none⟩ = some (.bool (p.hasPass)) := pack_at HGp3.out 12 _ rfl
        have cp_17 : w3.cell? ⟨w.heap.size, 17, none⟩ = some (.int .i64 (p.wQoS)) := pack_at HGp3.out 17 _ rfl
        have cp_19 : w3.cell? ⟨w.heap.size, 19, none⟩ = some (.slice p.wProps.A p.wProps.n p.wProps.c) := pack_at HGp3.out 19 _ rfl
        have cp_20 : w3.cell? ⟨w.heap.size, 20, none⟩ = some (.bool (p.session)) := pack_at HGp3.out 20 _ rfl
        have cp_21 : w3.cell? ⟨w.heap.size, 21, none⟩ = some (.int .i64 (p.code)) := pack_at HGp3.out 21 _ rfl
        have cp_24 : w3.cell? ⟨w.heap.size, 24, none⟩ = some (.slice p.props.A p.props.n p.props.c) := pack_at HGp3.out 24 _ rfl
        cases hc : returnB p.code
        · have HE : Hid (rangesB v p = false) := Lib.hid (by simp only [rangesB, codeOK, lackB, keepB, hv, hs, hk, hc, if_true, if_false, Bool.false_eq_true, Bool.not_true, Bool.not_false])
          go_wp2
          go_ret
          exact ⟨by rw [HE.out]; rfl, HB3.out⟩
        · cases hz : (p.code == 0)
          · cases hq : p.session
            · have HE : Hid (rangesB v p = true) := Lib.hid (by simp only [rangesB, codeOK, lackB, keepB, hv, hs, hk, hc, hz, hq, if_true, if_false, Bool.false_eq_true, Bool.not_true, Bool.not_false])
              go_wp2
              go_ret
              exact ⟨by rw [HE.out]; rfl, HB3.out⟩
            · have HE : Hid (rangesB v p = false) := Lib.hid (by simp only [rangesB, codeOK, lackB, keepB, hv, hs, hk, hc, hz, hq, if_true, if_false, Bool.false_eq_true, Bool.not_true, Bool.not_false])
              go_wp2
              go_ret
              exact ⟨by rw [HE.out]; rfl, HB3.out⟩
          · have HE : Hid (rangesB v p = true) := Lib.hid (by simp only [rangesB, codeOK, lackB, keepB, hv, hs, hk, hc, hz, if_true, if_false, Bool.false_eq_true, Bool.not_true, Bool.not_false])
            go_wp2
            go_ret
            exact ⟨by rw [HE.out]; rfl, HB3.out⟩
    · have HE : Hid (rangesB v p = false) := Lib.hid (by simp only [rangesB, codeOK, lackB, keepB, hv, hs, if_true, if_false, Bool.false_eq_true, Bool.not_true, Bool.not_false])
      go_wp2
      go_ret
      exact ⟨by rw [HE.out]; rfl, HB1.out⟩
def sizesC (p : Pk) (lw lp : List Prp) : Int :=
  if decide ((65535 : Int) < (p.wPayload.size : Int)) = true then 2 else if decide ((65535 : Int) < (p.pass.size : Int)) = true then 2
  else if ((bytesF p.kind lp).2 != 0) = true then (bytesF p.kind lp).2 else (bytesF 16 lw).2
def connV (v : Int) (p : Pk) (lw lp : List Prp) : Int :=
  if knownB v = true then (if oursB p.kind = true then (if sameEq p (aloneQ p) = true then (if rangesB v p = true then
    (if validU p.client = true then (if validU p.user = true then (if p.hasWill = true then (if nameB p.wTopic = true then sizesC p lw lp else 10) else sizesC p lw lp) else 6) else 6)
    else 2) else 2) else 2) else 2
set_option maxRecDepth 100000 in
theorem connV_t (v : Int) (p : Pk) (hok : PkOK p) (lw lp : List Prp) (HTw : Hid (lw ≠ [] → TopicOK)) (HTp : Hid (lp ≠ [] → TopicOK)) (w : World) (hrw : RP w p.wProps.A p.wProps.n lw) (hrp : RP w p.props.A p.props.n lp) :
    Calls Tryz.prog 12 #[.int .i64 v, .agg (packC p)] w fun e w' => e = .returned (.int .i64 (connV v p lw lp)) ∧ Below w.heap.size w w' := by
  have HW := Lib.hid hrw
  have HP := Lib.hid hrp
  have HOK := Lib.hid hok
  clear hrw hrp hok
  have HB1 := Lib.hid ((Below.refl w.heap.size w).alloc (Nat.le_refl _) (.cells (packC p) 28))
  have HGp1 := Lib.hid (heap_alloc_new w (.cells (packC p) 28))
  go_enter Tryz.func12, Tryz.ntmps12
  have cp_0 : (w.alloc (.cells (packC p) 28)).cell? ⟨w.heap.size, 0, none⟩ = some (.int .i64 (p.kind)) := pack_at HGp1.out 0 _ rfl
  go_wp2_with fail
  refine (cknown_t v _).mono ?_
  rintro e w1x ⟨rfl, hw⟩
  subst hw
  cases hkn : knownB v
  · have HE : Hid (connV v p lw lp = 2) := Lib.hid (by simp only [connV, sizesC, hkn, if_true, if_false, Bool.false_eq_true])
    go_wp2
    go_ret
    exact ⟨by rw [HE.out]; rfl, HB1.out⟩
  · go_wp2_with fail
    refine (cours_t p.kind _).mono ?_
    rintro e w1x ⟨rfl, hw⟩
    subst hw
    cases ho : oursB p.kind
    · have HE : Hid (connV v p lw lp = 2) := Lib.hid (by simp only [connV, sizesC, hkn, ho, if_true, if_false, Bool.false_eq_true])
      go_wp2
      go_ret
      exact ⟨by rw [HE.out]; rfl, HB1.out⟩
    · go_wp2_with ((with_reducible refine pk_load (w.heap.size) (p) ?x1 HGp1.out ?a1 ?b1 ?c1 ?d1); (case a1 => rfl); (case b1 => rfl); (case c1 => rfl))
      refine (alone_t p lw lp _ (HW.out.below HB1.out) (HP.out.below HB1.out)).mono ?_
      rintro e w2 ⟨rfl, hb⟩
      have HB2 := Lib.hid (ext_then' HB1.out hb)
      have HGp2 := Lib.hid (row_then HGp1.out hb)
      clear hb HB1 HGp1
      clear cp_0
      have cp_0 : w2.cell? ⟨w.heap.size, 0, none⟩ = some (.int .i64 (p.kind)) := pack_at HGp2.out 0 _ rfl
      cases ha : sameEq p (aloneQ p)
      · have HE : Hid (connV v p lw lp = 2) := Lib.hid (by simp only [connV, sizesC, hkn, ho, ha, if_true, if_false, Bool.false_eq_true])
        go_wp2
        go_ret
        exact ⟨by rw [HE.out]; rfl, HB2.out⟩
      · go_wp2_with ((with_reducible refine pk_load (w.heap.size) (p) ?x2 HGp2.out ?a2 ?b2 ?c2 ?d2); (case a2 => rfl); (case b2 => rfl); (case c2 => rfl))
        refine (ranges_t v p HOK.out _).mono ?_
        rintro e w3 ⟨rfl, hb⟩
        have HB3 := Lib.hid (ext_then' HB2.out hb)
        have HGp3 := Lib.hid (row_then HGp2.out hb)
        clear hb HB2 HGp2
        clear cp_0
        have cp_0 : w3.cell? ⟨w.heap.size, 0, none⟩ = some (.int .i64 (p.kind)) := pack_at HGp3.out 0 _ rfl
        cases hr : rangesB v p
        · have HE : Hid (connV v p lw lp = 2) := Lib.hid (by simp only [connV, sizesC, hkn, ho, ha, hr, if_true, if_false, Bool.false_eq_true])
          go_wp2
          go_ret
          exact ⟨by rw [HE.out]; rfl, HB3.out⟩
        · clear cp_0
          have cp_9 : w3.cell? ⟨w.heap.size, 9, none⟩ = some (.string (p.client)) := pack_at HGp3.out 9 _ rfl
          have cp_11 : w3.cell? ⟨w.heap.size, 11, none⟩ = some (.string (p.user)) := pack_at HGp3.out 11 _ rfl
          go_wp2_with ((with_reducible refine pk_load (w.heap.size) (p) ?x3 HGp3.out ?a3 ?b3 ?c3 ?d3); (case a3 => rfl); (case b3 => rfl); (case c3 => rfl))
          refine (validu_t p.client _ HOK.out.client).mono ?_
          rintro e w4 ⟨rfl, hb⟩
          have HB4 := Lib.hid (ext_then' HB3.out hb)
          have HGp4 := Lib.hid (row_then HGp3.out hb)
          clear hb HB3 HGp3
          clear cp_9 cp_11
          have cp_9 : w4.cell? ⟨w.heap.size, 9, none⟩ = some (.string (p.client)) := pack_at HGp4.out 9 _ rfl
          have cp_11 : w4.cell? ⟨w.heap.size, 11, none⟩ = some (.string (p.user)) := pack_at HGp4.out 11 _ rfl
          cases hc : validU p.client
          · have HE : Hid (connV v p lw lp = 6) := Lib.hid (by simp only [connV, sizesC, hkn, ho, ha, hr, hc, if_true, if_false, Bool.false_eq_true])
            go_wp2
            go_ret
            exact ⟨by rw [HE.out]; rfl, HB4.out⟩
          · go_wp2_with ((with_reducible refine pk_load (w.heap.size) (p) ?x4 HGp4.out ?a4 ?b4 ?c4 ?d4); (case a4 => rfl); (case b4 => rfl); (case c4 => rfl))
            refine (validu_t p.user _ HOK.out.user).mono ?_
            rintro e w5 ⟨rfl, hb⟩
            have HB5 := Lib.hid (ext_then' HB4.out hb)
            have HGp5 := Lib.hid (row_then HGp4.out hb)
            clear hb HB4 HGp4
            clear cp_9 cp_11
            have cp_9 : w5.cell? ⟨w.heap.size, 9, none⟩ = some (.string (p.client)) := pack_at HGp5.out 9 _ rfl
            have cp_11 : w5.cell? ⟨w.heap.size, 11, none⟩ = some (.string (p.user)) := pack_at HGp5.out 11 _ rfl
            cases hu : validU p.user
            · have HE : Hid (connV v p lw lp = 6) := Lib.hid (by simp only [connV, sizesC, hkn, ho, ha, hr, hc, hu, if_true, if_false, Bool.false_eq_true])
              go_wp2
              go_ret
              exact ⟨by rw [HE.out]; rfl, HB5.out⟩
            · clear cp_9 cp_11
              have cp_0 : w5.cell? ⟨w.heap.size, 0, none⟩ = some (.int .i64 (p.kind)) := pack_at HGp5.out 0 _ rfl
              have cp_13 : w5.cell? ⟨w.heap.size, 13, none⟩ = some (.string (p.pass)) := pack_at HGp5.out 13 _ rfl
              have cp_14 : w5.cell? ⟨w.heap.size, 14, none⟩ = some (.bool (p.hasWill)) := pack_at HGp5.out 14 _ rfl
              have cp_15 : w5.cell? ⟨w.heap.size, 15, none⟩ = some (.string (p.wTopic)) := pack_at HGp5.out 15 _ rfl
              have cp_16 : w5.cell? ⟨w.heap.size, 16, none⟩ = some (.string (p.wPayload)) := pack_at HGp5.out 16 _ rfl
              have cp_24 : w5.cell? ⟨w.heap.size, 24, none⟩ = some (.slice p.props.A p.props.n p.props.c) := pack_at HGp5.out 24 _ rfl
              cases hw : p.hasWill
              · obtain ⟨z1, z2⟩ := (⟨HOK.out.wPayload, HOK.out.pass⟩ : _ ∧ _)
                cases s1 : decide ((65535 : Int) < (p.wPayload.size : Int))
                · have s1' : decide (65535 < p.wPayload.size) = false := by simp at s1 ⊢; omega
                  cases s2 : decide ((65535 : Int) < (p.pass.size : Int))
                  · have s2' : decide (65535 < p.pass.size) = false := by simp at s2 ⊢; omega
                    go_wp2_with ((with_reducible refine pk_load (w.heap.size) (p) ?x5 HGp5.out ?a5 ?b5 ?c5 ?d5); (case a5 => rfl); (case b5 => rfl); (case c5 => rfl))
                    refine (pvalid_t p.kind p.props.A p.props.n p.props.c lp HTp _ (HP.out.below HB5.out)).mono ?_
                    rintro e w6 ⟨rfl, hb⟩
                    have HB6 := Lib.hid (ext_then' HB5.out hb)
                    have HGp6 := Lib.hid (row_then HGp5.out hb)
                    clear hb HB5 HGp5
                    clear cp_0 cp_13 cp_14 cp_15 cp_16 cp_24
                    have cp_19 : w6.cell? ⟨w.heap.size, 19, none⟩ = some (.slice p.wProps.A p.wProps.n p.wProps.c) := pack_at HGp6.out 19 _ rfl
                    cases hb : ((bytesF p.kind lp).2 != 0)
                    · have HE : Hid (connV v p lw lp = (bytesF 16 lw).2) := Lib.hid (by simp only [connV, sizesC, hkn, ho, ha, hr, hc, hu, hw, s1, s2, hb, if_true, if_false, Bool.false_eq_true])
                      go_wp2_with ((with_reducible refine pk_load (w.heap.size) (p) ?x6 HGp6.out ?a6 ?b6 ?c6 ?d6); (case a6 => rfl); (case b6 => rfl); (case c6 => rfl))
                      refine (pvalid_t 16 p.wProps.A p.wProps.n p.wProps.c lw HTw _ (HW.out.below HB6.out)).mono ?_
                      rintro e w7 ⟨rfl, hb⟩
                      have HB7 := Lib.hid (ext_then' HB6.out hb)
                      have HGp7 := Lib.hid (row_then HGp6.out hb)
                      clear hb HB6 HGp6
                      clear cp_19
                      have cp_19 : w7.cell? ⟨w.heap.size, 19, none⟩ = some (.slice p.wProps.A p.wProps.n p.wProps.c) := pack_at HGp7.out 19 _ rfl
                      go_wp2
                      go_ret
                      exact ⟨by rw [HE.out]; rfl, HB7.out⟩
                    · have HE : Hid (connV v p lw lp = (bytesF p.kind lp).2) := Lib.hid (by simp only [connV, sizesC, hkn, ho, ha, hr, hc, hu, hw, s1, s2, hb, if_true, if_false, Bool.false_eq_true])
                      go_wp2
                      go_ret
                      exact ⟨by rw [HE.out]; rfl, HB6.out⟩
                  · have s2' : decide (65535 < p.pass.size) = true := by simp at s2 ⊢; omega
                    have HE : Hid (connV v p lw lp = 2) := Lib.hid (by simp only [connV, sizesC, hkn, ho, ha, hr, hc, hu, hw, s1, s2, if_true, if_false, Bool.false_eq_true])
                    go_wp2
                    go_ret
                    exact ⟨by rw [HE.out]; rfl, HB5.out⟩
                · have s1' : decide (65535 < p.wPayload.size) = true := by simp at s1 ⊢; omega
                  have HE : Hid (connV v p lw lp = 2) := Lib.hid (by simp only [connV, sizesC, hkn, ho, ha, hr, hc, hu, hw, s1, if_true, if_false, Bool.false_eq_true])
                  go_wp2
                  go_ret
                  exact ⟨by rw [HE.out]; rfl, HB5.out⟩
              · go_wp2_with ((with_reducible refine pk_load (w.heap.size) (p) ?x7 HGp5.out ?a7 ?b7 ?c7 ?d7); (case a7 => rfl); (case b7 => rfl); (case c7 => rfl))
                refine (topic_ok p.wTopic _ HOK.out.wTopic).mono ?_
                rintro e w6 ⟨rfl, hb⟩
                have HB6 := Lib.hid (ext_then' HB5.out hb)
                have HGp6 := Lib.hid (row_then HGp5.out hb)
                clear hb HB5 HGp5
                clear cp_0 cp_13 cp_14 cp_15 cp_16 cp_24
                have cp_0 : w6.cell? ⟨w.heap.size, 0, none⟩ = some (.int .i64 (p.kind)) := pack_at HGp6.out 0 _ rfl
                have cp_13 : w6.cell? ⟨w.heap.size, 13, none⟩ = some (.string (p.pass)) := pack_at HGp6.out 13 _ rfl
                have cp_14 : w6.cell? ⟨w.heap.size, 14, none⟩ = some (.bool (p.hasWill)) := pack_at HGp6.out 14 _ rfl
                have cp_15 : w6.cell? ⟨w.heap.size, 15, none⟩ = some (.string (p.wTopic)) := pack_at HGp6.out 15 _ rfl
                have cp_16 : w6.cell? ⟨w.heap.size, 16, none⟩ = some (.string (p.wPayload)) := pack_at HGp6.out 16 _ rfl
                have cp_24 : w6.cell? ⟨w.heap.size, 24, none⟩ = some (.slice p.props.A p.props.n p.props.c) := pack_at HGp6.out 24 _ rfl
                cases hn : nameB p.wTopic
                · have HE : Hid (connV v p lw lp = 10) := Lib.hid (by simp only [connV, sizesC, hkn, ho, ha, hr, hc, hu, hw, hn, if_true, if_false, Bool.false_eq_true])
                  go_wp2
                  go_ret
                  exact ⟨by rw [HE.out]; rfl, HB6.out⟩
                · obtain ⟨z1, z2⟩ := (⟨HOK.out.wPayload, HOK.out.pass⟩ : _ ∧ _)
                  cases s1 : decide ((65535 : Int) < (p.wPayload.size : Int))
                  · have s1' : decide (65535 < p.wPayload.size) = false := by simp at s1 ⊢; omega
                    cases s2 : decide ((65535 : Int) < (p.pass.size : Int))
                    · have s2' : decide (65535 < p.pass.size) = false := by simp at s2 ⊢; omega
                      go_wp2_with ((with_reducible refine pk_load (w.heap.size) (p) ?x8 HGp6.out ?a8 ?b8 ?c8 ?d8); (case a8 => rfl); (case b8 => rfl); (case c8 => rfl))
                      refine (pvalid_t p.kind p.props.A p.props.n p.props.c lp HTp _ (HP.out.below HB6.out)).mono ?_
                      rintro e w7 ⟨rfl, hb⟩
                      have HB7 := Lib.hid (ext_then' HB6.out hb)
                      have HGp7 := Lib.hid (row_then HGp6.out hb)
                      clear hb HB6 HGp6
                      clear cp_0 cp_13 cp_14 cp_15 cp_16 cp_24
                      have cp_19 : w7.cell? ⟨w.heap.size, 19, none⟩ = some (.slice p.wProps.A p.wProps.n p.wProps.c) := pack_at HGp7.out 19 _ rfl
                      cases hb : ((bytesF p.kind lp).2 != 0)
                      · have HE : Hid (connV v p lw lp = (bytesF 16 lw).2) := Lib.hid (by simp only [connV, sizesC, hkn, ho, ha, hr, hc, hu, hw, hn, s1, s2, hb, if_true, if_false, Bool.false_eq_true])
                        go_wp2_with ((with_reducible refine pk_load (w.heap.size) (p) ?x9 HGp7.out ?a9 ?b9 ?c9 ?d9); (case a9 => rfl); (case b9 => rfl); (case c9 => rfl))
                        refine (pvalid_t 16 p.wProps.A p.wProps.n p.wProps.c lw HTw _ (HW.out.below HB7.out)).mono ?_
                        rintro e w8 ⟨rfl, hb⟩
                        have HB8 := Lib.hid (ext_then' HB7.out hb)
                        have HGp8 := Lib.hid (row_then HGp7.out hb)
                        clear hb HB7 HGp7
                        clear cp_19
                        have cp_19 : w8.cell? ⟨w.heap.size, 19, none⟩ = some (.slice p.wProps.A p.wProps.n p.wProps.c) := pack_at HGp8.out 19 _ rfl
                        go_wp2
                        go_ret
                        exact ⟨by rw [HE.out]; rfl, HB8.out⟩
                      · have HE : Hid (connV v p lw lp = (bytesF p.kind lp).2) := Lib.hid (by simp only [connV, sizesC, hkn, ho, ha, hr, hc, hu, hw, hn, s1, s2, hb, if_true, if_false, Bool.false_eq_true])
                        go_wp2
                        go_ret
                        exact ⟨by rw [HE.out]; rfl, HB7.out⟩
                    · have s2' : decide (65535 < p.pass.size) = true := by simp at s2 ⊢; omega
                      have HE : Hid (connV v p lw lp = 2) := Lib.hid (by simp only [connV, sizesC, hkn, ho, ha, hr, hc, hu, hw, hn, s1, s2, if_true, if_false, Bool.false_eq_true])
                      go_wp2
                      go_ret
                      exact ⟨by rw [HE.out]; rfl, HB6.out⟩
                  · have s1' : decide (65535 < p.wPayload.size) = true := by simp at s1 ⊢; omega
                    have HE : Hid (connV v p lw lp = 2) := Lib.hid (by simp only [connV, sizesC, hkn, ho, ha, hr, hc, hu, hw, hn, s1, if_true, if_false, Bool.false_eq_true])
                    go_wp2
                    go_ret
                    exact ⟨by rw [HE.out]; rfl, HB6.out⟩
end Go.Proofs.YtjlkhihlbdokpaaGreat
/- connect.put, tail, data; Body of a CONNACK; lives of chapter 8. -/
namespace Go.Proofs.YtjlkhihlbdokpaaGreat
open Go.RowKit Go.Sort
set_option maxHeartbeats 2000000
set_option linter.unusedVariables false
set_option linter.unusedSimpArgs false
theorem ext_alloc {w w1 w2 : World} {o : Obj} (h : Below w.heap.size w w1) (k : Below (w1.alloc o).heap.size (w1.alloc o) w2) : Below w.heap.size w w2 := ext_then' (h.alloc h.size o) k
theorem row_alloc {a b : World} {g : Nat} {o o' : Obj} (h : a.heap[g]? = some o) (k : Below (a.alloc o').heap.size (a.alloc o') b) : b.heap[g]? = some o :=
  row_then ((heap_alloc_old _ _ (Array.getElem?_eq_some_iff.1 h).1).trans h) k
def catL : List ByteArray → ByteArray
  | [] => ⟨#[]⟩
  | a :: r => a ++ catL r
theorem catL_data : ∀ xs : List ByteArray, (catL xs).data.toList = (xs.map (·.data.toList)).flatten
  | [] => rfl
  | a :: r => by rw [catL, ByteArray.data_append, Array.toList_append, catL_data r]; rfl
theorem catL_join (xs : List ByteArray) : (⟨(Lib.join (xs.map (·.data.toList)) (⟨#[]⟩ : ByteArray).data.toList).toArray⟩ : ByteArray) = catL xs := by
  apply ByteArray.ext
  apply Array.ext'
  rw [catL_data]
  cases xs with
  | nil => rfl
  | cons a r =>
    rw [List.map_cons, Lib.join_cons]
    simp [Lib.joinTail, Function.comp_def]
theorem join_len (xs : List ByteArray) : (Lib.join (xs.map (·.data.toList)) (⟨#[]⟩ : ByteArray).data.toList).length = (catL xs).size := by
  rw [← catL_join]; simp [ByteArray.size]
set_option maxRecDepth 100000 in
theorem put_new (w : World) (xs : List ByteArray) (n : Nat) (hn : xs.length = n) (T : TypeId) (C : Array Value) (hC : C = (xs.map Value.string).toArray) (h0 : 0 < n) (hn2 : n ≤ 140737488355328) (hsz : (catL xs).size ≤ 140737488355328) :
    Calls Tryz.prog 45 #[.slice (some ⟨w.heap.size, 0, none⟩) n n] (w.alloc (.cells C T)) fun e w' => e = .returned (.string (catL xs)) ∧ Below (w.alloc (.cells C T)).heap.size (w.alloc (.cells C T)) w' := by
  have hj := Tryz.strings_Join w.heap.size 0 n xs ⟨#[]⟩ (w.alloc (.cells C T)) (fun j x hx => by
    rw [cell_of_row _ _ _ _ _ _ (heap_alloc_new w _), hC, Nat.zero_add]
    simp [hx]) (by simp) (by omega) (by omega) (by rw [join_len]; exact hsz)
  rw [catL_join, hn] at hj
  have HJ := Lib.hid hj
  clear hj hC hsz hn
  go_enter Tryz.func45, Tryz.ntmps45
  go_wp2_with fail
  refine HJ.out.mono ?_
  rintro e w1 ⟨rfl, hb⟩
  have HB := Lib.hid hb
  clear hb
  go_wp2
  go_ret
  exact ⟨rfl, HB.out⟩
def tailS (v kind : Int) (l : List Prp) : ByteArray := if (v == 4) = true then ⟨#[]⟩ else (bytesF kind l).1
set_option maxRecDepth 100000 in
theorem tail_t (v kind : Int) (A : Option Addr) (n cp : Nat) (l : List Prp) (HT : Hid (l ≠ [] → TopicOK)) (w : World) (hr : RP w A n l) :
    Calls Tryz.prog 44 #[.int .i64 v, .int .i64 kind, .slice A n cp] w fun e w' => e = .returned (.string (tailS v kind l)) ∧ Below w.heap.size w w' := by
  have HP := Lib.hid hr
  clear hr
  have HB1 := Lib.hid (Below.refl w.heap.size w)
  go_enter Tryz.func44, Tryz.ntmps44
  cases hv : (v == 4)
  · go_wp2_with fail
    refine (bytes_t kind A n cp l HT _ HP.out).mono ?_
    rintro e w2 ⟨rfl, hb⟩
    have HB2 := Lib.hid (ext_then' HB1.out hb)
    clear hb HB1
    have HE : Hid (tailS v kind l = (bytesF kind l).1) := Lib.hid (by simp only [tailS, hv, if_true, if_false, Bool.false_eq_true])
    go_wp2
    go_ret
    exact ⟨by rw [HE.out]; rfl, HB2.out⟩
  · have HE : Hid (tailS v kind l = ⟨#[]⟩) := Lib.hid (by simp only [tailS, hv, if_true, if_false, Bool.false_eq_true])
    go_wp2
    go_ret
    exact ⟨by rw [HE.out]; rfl, HB1.out⟩
theorem tailS_size (v kind : Int) (l : List Prp) : (tailS v kind l).size ≤ 131075004 := by
  unfold tailS
  split
  · exact Nat.zero_le _
  · exact bytesF_size kind l
set_option maxRecDepth 100000 in
theorem data_t (s : ByteArray) (w : World) (h : s.size ≤ 65535) : Calls Tryz.prog 47 #[.string s] w fun e w' => e = .returned (.string (framedS s)) ∧ Below w.heap.size w w' := by
  go_enter Tryz.func47, Tryz.ntmps47
  go_wp2_with fail
  refine (binary_t s _ h).mono ?_
  rintro e w1 ⟨rfl, hb⟩
  have HB := Lib.hid hb
  clear hb
  go_wp2
  go_ret
  exact ⟨rfl, HB.out⟩
def ackFirst (p : Pk) : ByteArray := if p.session = true then ⟨#[1]⟩ else ⟨#[0]⟩
def nameS : ByteArray := ⟨#[0, 4, 77, 81, 84, 84]⟩
def b2i (b : Bool) (n : Int) : Int := if b = true then n else 0
def flagsF (p : Pk) : Int := if (p.kind == 1) = true then b2i p.hasUser 128 + b2i p.hasPass 64 + b2i p.wRetain 32 + p.wQoS % 4 * 8 + b2i p.hasWill 4 + b2i p.clean 2 else 0
def con0 (v : Int) (p : Pk) (lp : List Prp) : ByteArray := catL [nameS, be1 v, be1 (flagsF p), be2 p.keep, tailS v p.kind lp, framedS p.client]
def con1 (v : Int) (p : Pk) (lw lp : List Prp) : ByteArray := if p.hasWill = true then catL [con0 v p lp, tailS v 16 lw, framedS p.wTopic, framedS p.wPayload] else con0 v p lp
def con2 (v : Int) (p : Pk) (lw lp : List Prp) : ByteArray := if p.hasUser = true then catL [con1 v p lw lp, framedS p.user] else con1 v p lw lp
def con3 (v : Int) (p : Pk) (lw lp : List Prp) : ByteArray := if p.hasPass = true then catL [con2 v p lw lp, framedS p.pass] else con2 v p lw lp
def connB (v : Int) (p : Pk) (lw lp : List Prp) : ByteArray × Int :=
  if (connV v p lw lp != 0) = true then (⟨#[]⟩, connV v p lw lp)
  else if (p.kind == 2) = true then (catL [ackFirst p, be1 p.code, tailS v p.kind lp], 0)
  else (con3 v p lw lp, 0)
theorem connV_code {v : Int} {p : Pk} {lw lp : List Prp} (hk : (p.kind == 2) = true) (h : (connV v p lw lp != 0) = false) : 0 ≤ p.code ∧ p.code < 256 := by
  have h0 : connV v p lw lp = 0 := by simpa using h
  have hr : rangesB v p = true := by
    unfold connV at h0
    repeat' split at h0
    all_goals first | assumption | omega
  unfold rangesB at hr
  have hm : returnB p.code = true ∨ mayB p.kind p.code = true := by
    rw [hk] at hr
    simp only [if_true] at hr
    split at hr
    · split at hr
      · cases hr
      · unfold codeOK at hr; split at hr
        · rename_i h; exact .inl h
        · cases hr
    · unfold codeOK at hr; split at hr
      · rename_i h; exact .inr h
      · cases hr
  rcases hm with h | h
  · unfold returnB at h
    rw [Bool.and_eq_true] at h
    have h1 : 0 ≤ p.code := by simpa using h.1
    have h2 : p.code ≤ 5 := by simpa using h.2
    omega
  · exact mayB_range' h
set_option maxRecDepth 100000 in
theorem connB_ack (v : Int) (p : Pk) (hk : (p.kind == 2) = true) (hok : PkOK p) (lw lp : List Prp) (HTw : Hid (lw ≠ [] → TopicOK)) (HTp : Hid (lp ≠ [] → TopicOK)) (w : World) (hrw : RP w p.wProps.A p.wProps.n lw) (hrp : RP w p.props.A p.props.n lp) :
    Calls Tryz.prog 11 #[.int .i64 v, .agg (packC p)] w fun e w' => e = .returned (.tuple #[.string (connB v p lw lp).1, .int .i64 (connB v p lw lp).2]) ∧ Below w.heap.size w w' := by
  have HW := Lib.hid hrw
  have HP := Lib.hid hrp
  have HOK := Lib.hid hok
  clear hrw hrp hok
  have HB1 := Lib.hid ((Below.refl w.heap.size w).alloc (Nat.le_refl _) (.cells (packC p) 28))
  have HGp1 := Lib.hid (heap_alloc_new w (.cells (packC p) 28))
  go_enter Tryz.func11, Tryz.ntmps11
  go_wp2_with ((with_reducible refine pk_load (w.heap.size) (p) ?x1 HGp1.out ?a1 ?b1 ?c1 ?d1); (case a1 => rfl); (case b1 => rfl); (case c1 => rfl))
  refine (connV_t v p HOK.out lw lp HTw HTp _ (HW.out.below HB1.out) (HP.out.below HB1.out)).mono ?_
  rintro e w2 ⟨rfl, hb⟩
  have HB2 := Lib.hid (ext_then' HB1.out hb)
  have HGp2 := Lib.hid (row_then HGp1.out hb)
  clear hb HB1 HGp1
  have cp_0 : w2.cell? ⟨w.heap.size, 0, none⟩ = some (.int .i64 (p.kind)) := pack_at HGp2.out 0 _ rfl
  have cp_20 : w2.cell? ⟨w.heap.size, 20, none⟩ = some (.bool (p.session)) := pack_at HGp2.out 20 _ rfl
  have cp_21 : w2.cell? ⟨w.heap.size, 21, none⟩ = some (.int .i64 (p.code)) := pack_at HGp2.out 21 _ rfl
  have cp_24 : w2.cell? ⟨w.heap.size, 24, none⟩ = some (.slice p.props.A p.props.n p.props.c) := pack_at HGp2.out 24 _ rfl
  cases he : (connV v p lw lp != 0)
  · have hcr := connV_code hk he
    obtain ⟨r0, r1⟩ := hcr
    go_wp2_with ((with_reducible refine pk_load (w.heap.size) (p) ?x2 HGp2.out ?a2 ?b2 ?c2 ?d2); (case a2 => rfl); (case b2 => rfl); (case c2 => rfl))
    refine (tail_t v p.kind p.props.A p.props.n p.props.c lp HTp _ (HP.out.below HB2.out)).mono ?_
    rintro e w3 ⟨rfl, hb⟩
    have HB3 := Lib.hid (ext_then' HB2.out hb)
    have HGp3 := Lib.hid (row_then HGp2.out hb)
    clear hb HB2 HGp2
    clear cp_0 cp_20 cp_21 cp_24
    have cp_0 : w3.cell? ⟨w.heap.size, 0, none⟩ = some (.int .i64 (p.kind)) := pack_at HGp3.out 0 _ rfl
    have cp_20 : w3.cell? ⟨w.heap.size, 20, none⟩ = some (.bool (p.session)) := pack_at HGp3.out 20 _ rfl
    have cp_21 : w3.cell? ⟨w.heap.size, 21, none⟩ = some (.int .i64 (p.code)) := pack_at HGp3.out 21 _ rfl
    have cp_24 : w3.cell? ⟨w.heap.size, 24, none⟩ = some (.slice p.props.A p.props.n p.props.c) := pack_at HGp3.out 24 _ rfl
    have hts := tailS_size v p.kind lp
    have hz1 : (be1 p.code).size = 1 := by simp [be1, strOfNums_size]
    cases hs : p.session
    · go_wp2_with ((with_reducible refine pk_load (w.heap.size) (p) ?x3 HGp3.out ?a3 ?b3 ?c3 ?d3); (case a3 => rfl); (case b3 => rfl); (case c3 => rfl))
      refine (put1_t p.code _ r0 (by omega)).mono ?_
      rintro e w4 ⟨rfl, hb⟩
      have HB4 := Lib.hid (ext_then' HB3.out hb)
      have HGp4 := Lib.hid (row_then HGp3.out hb)
      clear hb HB3 HGp3
      clear cp_0 cp_20 cp_21 cp_24
      have cp_0 : w4.cell? ⟨w.heap.size, 0, none⟩ = some (.int .i64 (p.kind)) := pack_at HGp4.out 0 _ rfl
      have cp_20 : w4.cell? ⟨w.heap.size, 20, none⟩ = some (.bool (p.session)) := pack_at HGp4.out 20 _ rfl
      have cp_21 : w4.cell? ⟨w.heap.size, 21, none⟩ = some (.int .i64 (p.code)) := pack_at HGp4.out 21 _ rfl
      have cp_24 : w4.cell? ⟨w.heap.size, 24, none⟩ = some (.slice p.props.A p.props.n p.props.c) := pack_at HGp4.out 24 _ rfl
      go_wp2_with ((with_reducible refine pk_load (w.heap.size) (p) ?x4 HGp4.out ?a4 ?b4 ?c4 ?d4); (case a4 => rfl); (case b4 => rfl); (case c4 => rfl))
      refine (put_new _ [⟨#[0]⟩, be1 p.code, tailS v p.kind lp] 3 rfl _ _ rfl (by omega) (by omega) (by simp only [catL, ByteArray.size_append, hz1]; have e1 : (⟨#[0]⟩ : ByteArray).size = 1 := rfl; have e0 : (⟨#[]⟩ : ByteArray).size = 0 := rfl; rw [e1, e0]; omega)).mono ?_
      rintro e w5 ⟨rfl, hb⟩
      have HB5 := Lib.hid (ext_alloc HB4.out hb)
      have HGp5 := Lib.hid (row_alloc HGp4.out hb)
      clear hb HB4 HGp4
      clear cp_0 cp_20 cp_21 cp_24
      have cp_0 : w5.cell? ⟨w.heap.size, 0, none⟩ = some (.int .i64 (p.kind)) := pack_at HGp5.out 0 _ rfl
      have cp_20 : w5.cell? ⟨w.heap.size, 20, none⟩ = some (.bool (p.session)) := pack_at HGp5.out 20 _ rfl
      have cp_21 : w5.cell? ⟨w.heap.size, 21, none⟩ = some (.int .i64 (p.code)) := pack_at HGp5.out 21 _ rfl
      have cp_24 : w5.cell? ⟨w.heap.size, 24, none⟩ = some (.slice p.props.A p.props.n p.props.c) := pack_at HGp5.out 24 _ rfl
      have HE : Hid (connB v p lw lp = (catL [⟨#[0]⟩, be1 p.code, tailS v p.kind lp], 0)) := Lib.hid (by simp only [connB, ackFirst, he, hk, hs, if_true, if_false, Bool.false_eq_true])
      go_wp2
      go_ret2
      exact ⟨by rw [HE.out]; rfl, HB5.out⟩
    · go_wp2_with ((with_reducible refine pk_load (w.heap.size) (p) ?x5 HGp3.out ?a5 ?b5 ?c5 ?d5); (case a5 => rfl); (case b5 => rfl); (case c5 => rfl))
      refine (put1_t p.code _ r0 (by omega)).mono ?_
      rintro e w4 ⟨rfl, hb⟩
      have HB4 := Lib.hid (ext_then' HB3.out hb)
      have HGp4 := Lib.hid (row_then HGp3.out hb)
      clear hb HB3 HGp3
      clear cp_0 cp_20 cp_21 cp_24
      have cp_0 : w4.cell? ⟨w.heap.size, 0, none⟩ = some (.int .i64 (p.kind)) := pack_at HGp4.out 0 _ rfl
      have cp_20 : w4.cell? ⟨w.heap.size, 20, none⟩ = some (.bool (p.session)) := pack_at HGp4.out 20 _ rfl
      have cp_21 : w4.cell? ⟨w.heap.size, 21, none⟩ = some (.int .i64 (p.code)) := pack_at HGp4.out 21 _ rfl
      have cp_24 : w4.cell? ⟨w.heap.size, 24, none⟩ = some (.slice p.props.A p.props.n p.props.c) := pack_at HGp4.out 24 _ rfl
      go_wp2_with ((with_reducible refine pk_load (w.heap.size) (p) ?x6 HGp4.out ?a6 ?b6 ?c6 ?d6); (case a6 => rfl); (case b6 => rfl); (case c6 => rfl))
      refine (put_new _ [⟨#[1]⟩, be1 p.code, tailS v p.kind lp] 3 rfl _ _ rfl (by omega) (by omega) (by simp only [catL, ByteArray.size_append, hz1]; have e1 : (⟨#[1]⟩ : ByteArray).size = 1 := rfl; have e0 : (⟨#[]⟩ : ByteArray).size = 0 := rfl; rw [e1, e0]; omega)).mono ?_
      rintro e w5 ⟨rfl, hb⟩
      have HB5 := Lib.hid (ext_alloc HB4.out hb)
      have HGp5 := Lib.hid (row_alloc HGp4.out hb)
      clear hb HB4 HGp4
      clear cp_0 cp_20 cp_21 cp_24
      have cp_0 : w5.cell? ⟨w.heap.size, 0, none⟩ = some (.int .i64 (p.kind)) := pack_at HGp5.out 0 _ rfl
      have cp_20 : w5.cell? ⟨w.heap.size, 20, none⟩ = some (.bool (p.session)) := pack_at HGp5.out 20 _ rfl
      have cp_21 : w5.cell? ⟨w.heap.size, 21, none⟩ = some (.int .i64 (p.code)) := pack_at HGp5.out 21 _ rfl
      have cp_24 : w5.cell? ⟨w.heap.size, 24, none⟩ = some (.slice p.props.A p.props.n p.props.c) := pack_at HGp5.out 24 _ rfl
      have HE : Hid (connB v p lw lp = (catL [⟨#[1]⟩, be1 p.code, tailS v p.kind lp], 0)) := Lib.hid (by simp only [connB, ackFirst, he, hk, hs, if_true, if_false, Bool.false_eq_true])
      go_wp2
      go_ret2
      exact ⟨by rw [HE.out]; rfl, HB5.out⟩
  · have HE : Hid (connB v p lw lp = (⟨#[]⟩, connV v p lw lp)) := Lib.hid (by simp only [connB, ackFirst, he, if_true, if_false, Bool.false_eq_true])
    go_wp2
    go_ret2
    exact ⟨by rw [HE.out]; rfl, HB2.out⟩
def ansPk (s : Bool) (c : Int) : Pk := { zeroPk with kind := 2, session := s, code := c }
theorem ans_ok {s : Bool} {c : Int} (hc : -9223372036854775808 ≤ c ∧ c ≤ 9223372036854775807) : PkOK (ansPk s c) :=
  ⟨by show (-9223372036854775808 : Int) ≤ 2 ∧ (2 : Int) ≤ 9223372036854775807; decide, zero_ok.qos, zero_ok.id, zero_ok.keep, zero_ok.wQoS, hc, zero_ok.topic, zero_ok.payload, zero_ok.client, zero_ok.user, zero_ok.pass, zero_ok.wTopic, zero_ok.wPayload, zero_ok.wN, zero_ok.pN⟩
theorem same_ans (s : Bool) (c : Int) : sameEq (ansPk s c) (aloneQ (ansPk s c)) = true := by
  simp [sameEq, bareEq, willEq, aloneQ, ansPk, zeroPk, zeroSl]
theorem sizes_ans (s : Bool) (c : Int) : sizesC (ansPk s c) [] [] = 0 := by
  unfold sizesC
  change (if decide ((65535 : Int) < ((0 : Nat) : Int)) = true then 2 else if decide ((65535 : Int) < ((0 : Nat) : Int)) = true then 2 else if ((bytesF 2 []).2 != 0) = true then (bytesF 2 []).2 else (bytesF 16 []).2) = _
  rw [bytes_none, bytes_none]
  rfl
theorem valid_empty : validU ⟨#[]⟩ = true := by decide
theorem connV_ans {v : Int} (hv : knownB v = true) (s : Bool) (c : Int) : connV v (ansPk s c) [] [] = if rangesB v (ansPk s c) = true then 0 else 2 := by
  unfold connV
  rw [hv, same_ans]
  change (if true = true then (if oursB 2 = true then (if true = true then (if rangesB v (ansPk s c) = true then (if validU ⟨#[]⟩ = true then (if validU ⟨#[]⟩ = true then (if false = true then _ else sizesC (ansPk s c) [] []) else 6) else 6) else 2) else 2) else 2) else 2) = _
  rw [valid_empty, sizes_ans]
  rfl
theorem ranges_ans4 (s : Bool) (c : Int) : rangesB 4 (ansPk s c) = codeOK (returnB c) (ansPk s c) := rfl
theorem ranges_ans5 (s : Bool) (c : Int) : rangesB 5 (ansPk s c) = codeOK (mayB 2 c) (ansPk s c) := rfl
theorem ansB_t (v : Int) (s : Bool) (c : Int) (hc : -9223372036854775808 ≤ c ∧ c ≤ 9223372036854775807) (w : World) : Calls Tryz.prog 11 #[.int .i64 v, .agg (packC (ansPk s c))] w fun e w' => e = .returned (.tuple #[.string (connB v (ansPk s c) [] []).1, .int .i64 (connB v (ansPk s c) [] []).2]) ∧ Below w.heap.size w w' :=
  connB_ack v (ansPk s c) rfl (ans_ok hc) [] [] noTopic noTopic w (nil_RP w) (nil_RP w)
theorem connB_ans {v : Int} {s : Bool} {c : Int} (hv : knownB v = true) (h : rangesB v (ansPk s c) = true) : connB v (ansPk s c) [] [] = (catL [ackFirst (ansPk s c), be1 c, tailS v 2 []], 0) := by
  unfold connB
  rw [connV_ans hv, h]
  rfl
theorem connB_ansN {v : Int} {s : Bool} {c : Int} (hv : knownB v = true) (h : rangesB v (ansPk s c) = false) : connB v (ansPk s c) [] [] = (⟨#[]⟩, 2) := by
  unfold connB
  rw [connV_ans hv, h]
  rfl
theorem clive : connB 4 (ansPk false 5) [] [] = (⟨#[0, 5]⟩, 0) := by
  rw [connB_ans (by decide) (by decide)]; rfl
set_option maxRecDepth 100000 in
theorem lives08_t (w : World) : Calls Tryz.prog 9 #[] w fun e w' => e = .returned (.bool true) ∧ Below w.heap.size w w' := by
  have HB0 := Lib.hid (Below.refl w.heap.size w)
  go_enter Tryz.func9, Tryz.ntmps9
  go_wp2_with fail
  refine (ansB_t 4 false 5 (by omega) _).mono ?_
  rintro e w1 ⟨rfl, hb⟩
  have HB1 := Lib.hid (ext_then' (w := w) (by repeat (first | exact HB0.out | refine Below.drew ?_ | (refine Below.alloc ?_ (by first | exact (HB0.out).size | (simp; done) | (have := (HB0.out).size; simp; omega)) _) | (refine Below.setCell ?_ (by first | (simp; done) | (have := (HB0.out).size; simp; omega)) _))) hb)
  clear hb HB0
  rw [clive]
  go_wp2
  go_ret
  exact ⟨rfl, (by repeat (first | exact HB1.out | refine Below.drew ?_ | (refine Below.alloc ?_ (by first | exact (HB1.out).size | (simp; done) | (have := (HB1.out).size; simp; omega)) _) | (refine Below.setCell ?_ (by first | (simp; done) | (have := (HB1.out).size; simp; omega)) _)))⟩
end Go.Proofs.YtjlkhihlbdokpaaGreat
/- connect's reader: unless, binary, text, props. -/
namespace Go.Proofs.YtjlkhihlbdokpaaGreat
open Go.RowKit Go.Sort
set_option maxHeartbeats 4000000
set_option linter.unusedVariables false
set_option linter.unusedSimpArgs false
def rdrC (g : Nat) (v : Int) : Array Value := #[.pointer (some ⟨g, 0, none⟩), .int .i64 v]
theorem cur_alloc {w : World} {g : Nat} {c : Cu} (h : CurAt w g c) (o : Obj) : CurAt (w.alloc o) g c := by
  unfold CurAt; rw [heap_alloc_old _ _ (Array.getElem?_eq_some_iff.1 h).1]; exact h
theorem grown_alloc {w w' : World} {g : Nat} {o : Obj} (h : (w.alloc o).grownBy w' (some g)) : w.grownBy w' (some g) := by
  refine ⟨h.os, h.tape, h.output, by have := h.size; simp at this; omega, fun i hi hne => ?_⟩
  rw [h.block i (by simp; omega) hne, heap_alloc_old _ _ hi]
theorem grown_below' {a b : World} {g : Nat} (h : Below a.heap.size a b) : a.grownBy b (some g) := ⟨h.os, h.tape, h.output, h.size, fun i hi _ => h.block i hi⟩
def unlessF (c : Cu) (b : Bool) (e : Int) : Cu := if b = true then c else failF c e
theorem unlessF_ok {c : Cu} (ok : CuOK c) (b : Bool) (e : Int) : CuOK (unlessF c b e) := by unfold unlessF; split; exact ok; exact failF_ok ok e
set_option maxRecDepth 100000 in
theorem unless_t (g : Nat) (v : Int) (c : Cu) (b : Bool) (e0 : Int) (w : World) (h : CurAt w g c) : Calls Tryz.prog 58 #[.agg (rdrC g v), .bool b, .int .i64 e0] w fun e w' => e = .returned (.tuple #[]) ∧ CurAt w' g (unlessF c b e0) ∧ w.grownBy w' (some g) := by
  have HC := Lib.hid (cur_alloc h (.cells (rdrC g v) 65))
  have HR := Lib.hid (heap_alloc_new w (.cells (rdrC g v) 65))
  clear h
  unfold rdrC
  cases b
  · go_enter Tryz.func58, Tryz.ntmps58
    go_wp2_with fail
    refine (fail_t g c e0 _ HC.out).mono ?_
    rintro e w2 ⟨rfl, hc, hg⟩
    have HX := Lib.hid hc
    have HG := Lib.hid (grown_alloc hg)
    clear hc hg
    go_wp2
    go_end0
    exact ⟨rfl, HX.out, HG.out⟩
  · go_enter Tryz.func58, Tryz.ntmps58
    go_wp2
    go_end0
    exact ⟨rfl, HC.out, grown_alloc (grown_refl _ _)⟩
def binaryF (c : Cu) : ByteArray × Cu := takeF (takeF c 2).2 (numF c 2)
theorem binaryF_ok {c : Cu} (ok : CuOK c) : CuOK (binaryF c).2 := takeF_ok (takeF_ok ok 2) _
theorem numF_bd {c : Cu} (ok : CuOK c) {k : Int} (hk : k ≤ 4) : 0 ≤ numF c k ∧ numF c k < 4294967296 := getF_bd (k := 4) (Nat.le_trans (take_size ok k) (by omega))
theorem binaryF_size {c : Cu} (ok : CuOK c) : (binaryF c).1.size ≤ 65535 := by
  have h := take_size (takeF_ok ok 2) (numF c 2)
  have h2 := getF_bd (s := (takeF c 2).1) (k := 2) (take_size ok 2)
  have e : numF c 2 = getF (takeF c 2).1 := rfl
  have e2 : (binaryF c).1 = (takeF (takeF c 2).2 (numF c 2)).1 := rfl
  rw [e2]; rw [e] at h ⊢; omega
set_option maxRecDepth 100000 in
theorem rbinary_t (g : Nat) (v : Int) (c : Cu) (w : World) (h : CurAt w g c) (ok : CuOK c) : Calls Tryz.prog 112 #[.agg (rdrC g v)] w fun e w' => e = .returned (.string (binaryF c).1) ∧ CurAt w' g (binaryF c).2 ∧ w.grownBy w' (some g) := by
  have HC := Lib.hid (cur_alloc h (.cells (rdrC g v) 65))
  have HR := Lib.hid (heap_alloc_new w (.cells (rdrC g v) 65))
  have HGL : Hid (g < w.heap.size) := Lib.hid (Array.getElem?_eq_some_iff.1 h).1
  have HO := Lib.hid ok
  have HE : Hid (binaryF c = takeF (takeF c 2).2 (numF c 2)) := Lib.hid rfl
  clear h ok
  unfold rdrC
  go_enter Tryz.func112, Tryz.ntmps112
  go_wp2_with fail
  refine (number_t g c 2 _ HC.out HO.out (by decide)).mono ?_
  rintro e w2 ⟨rfl, hc, hg⟩
  have HX := Lib.hid hc
  have HG := Lib.hid (grown_alloc hg)
  have HR2 := Lib.hid (row_grown HR.out hg (by have := HGL.out; omega))
  obtain ⟨z0, z1⟩ := numF_bd HO.out (k := 2) (by decide)
  have hz := i64w z0 z1
  clear hc hg
  have c0 : w2.cell? ⟨w.heap.size, 0, none⟩ = some (.pointer (some ⟨g, 0, none⟩)) := by rw [cell_of_row _ _ _ _ _ _ HR2.out]; rfl
  go_wp2_with fail
  refine (take_t g (takeF c 2).2 (numF c 2) _ HX.out (takeF_ok HO.out 2)).mono ?_
  rintro e w3 ⟨rfl, hc, hg⟩
  have HX3 := Lib.hid hc
  have HG3 := Lib.hid (grown_trans HG.out hg)
  clear hc hg
  go_wp2
  go_ret
  exact ⟨by rw [HE.out]; rfl, by rw [HE.out]; exact HX3.out, HG3.out⟩
def textF (c : Cu) : ByteArray × Cu := ((binaryF c).1, unlessF (binaryF c).2 (validU (binaryF c).1) 6)
theorem textF_ok {c : Cu} (ok : CuOK c) : CuOK (textF c).2 := unlessF_ok (binaryF_ok ok) _ _
set_option maxRecDepth 100000 in
theorem rtext_t (g : Nat) (v : Int) (c : Cu) (w : World) (h : CurAt w g c) (ok : CuOK c) : Calls Tryz.prog 111 #[.agg (rdrC g v)] w fun e w' => e = .returned (.string (textF c).1) ∧ CurAt w' g (textF c).2 ∧ w.grownBy w' (some g) := by
  have HC := Lib.hid (cur_alloc h (.cells (rdrC g v) 65))
  have HR := Lib.hid (heap_alloc_new w (.cells (rdrC g v) 65))
  have HGL : Hid (g < w.heap.size) := Lib.hid (Array.getElem?_eq_some_iff.1 h).1
  have HO := Lib.hid ok
  have HZ := Lib.hid (binaryF_size ok)
  have HE : Hid (textF c = ((binaryF c).1, unlessF (binaryF c).2 (validU (binaryF c).1) 6)) := Lib.hid rfl
  clear h ok
  unfold rdrC
  go_enter Tryz.func111, Tryz.ntmps111
  go_wp2_with fail
  refine (rbinary_t g v c _ HC.out HO.out).mono ?_
  rintro e w2 ⟨rfl, hc, hg⟩
  have HX := Lib.hid hc
  have HG := Lib.hid (grown_alloc hg)
  have HR2 := Lib.hid (row_grown HR.out hg (by have := HGL.out; omega))
  clear hc hg
  have c0 : w2.cell? ⟨w.heap.size, 0, none⟩ = some (.pointer (some ⟨g, 0, none⟩)) := by rw [cell_of_row _ _ _ _ _ _ HR2.out]; rfl
  have c1 : w2.cell? ⟨w.heap.size, 1, none⟩ = some (.int .i64 v) := by rw [cell_of_row _ _ _ _ _ _ HR2.out]; rfl
  have HXd : Hid (CurAt w2.drew g (binaryF c).2) := HX
  have HGd : Hid (w.grownBy w2.drew (some g)) := Lib.hid (grown_drew HG.out)
  have HRL : Hid (w.heap.size < w2.drew.heap.size) := Lib.hid (Array.getElem?_eq_some_iff.1 HR2.out).1
  go_wp2_with fail
  go_region_held3 (fun w' => w'.cell? ⟨w.heap.size, 0, none⟩ = some (.pointer (some ⟨g, 0, none⟩)) ∧ w'.cell? ⟨w.heap.size, 1, none⟩ = some (.int .i64 v))
    (first
      | go_keep
      | (go_split_ands; exact ⟨(hb5.cell (p := ⟨w.heap.size, 0, none⟩) HRL.out).trans (by assumption), (hb5.cell (p := ⟨w.heap.size, 1, none⟩) HRL.out).trans (by assumption)⟩)
      | (go_split_ands; exact ⟨(hg6.cell_far ⟨w.heap.size, 0, none⟩ (Nat.lt_of_lt_of_le HRL.out hb5.size) (fun e => by have := HGL.out; simp only [Option.some.injEq] at e; omega)).trans (by assumption), (hg6.cell_far ⟨w.heap.size, 1, none⟩ (Nat.lt_of_lt_of_le HRL.out hb5.size) (fun e => by have := HGL.out; simp only [Option.some.injEq] at e; omega)).trans (by assumption)⟩))
    (first
      | (go_at_call 52; refine (validu_t (binaryF c).1 _ (Nat.le_trans HZ.out (by decide))).mono ?_; rintro e w5 ⟨rfl, hb5⟩)
      | (go_at_call 58; refine (unless_t g v (binaryF c).2 (validU (binaryF c).1) 6 _ (cur_below HXd.out hb5)).mono ?_; rintro e w6 ⟨rfl, hc6, hg6⟩))
  have HX6 := Lib.hid hc6
  have HG6 := Lib.hid (grown_trans (grown_trans HGd.out (grown_below' hb5)) hg6)
  clear hb5 hc6 hg6
  go_wp2
  go_ret
  exact ⟨by rw [HE.out]; rfl, by rw [HE.out]; exact HX6.out, HG6.out⟩
end Go.Proofs.YtjlkhihlbdokpaaGreat
/- connect's reader: props, flags. -/
namespace Go.Proofs.YtjlkhihlbdokpaaGreat
open Go.RowKit Go.Sort
set_option maxHeartbeats 4000000
set_option linter.unusedVariables false
set_option linter.unusedSimpArgs false
def propsF (v kind : Int) (c : Cu) : List Prp × Cu :=
  if (v == 4) = true then ([], c) else if (c.err != 0) = true then ([], c)
  else ((preadF kind (restF c)).1, (takeF (failF c (preadF kind (restF c)).2.2) (preadF kind (restF c)).2.1).2)
theorem propsF_ok {c : Cu} (ok : CuOK c) (v kind : Int) : CuOK (propsF v kind c).2 := by
  unfold propsF
  split
  · exact ok
  · split
    · exact ok
    · exact takeF_ok (failF_ok ok _) _
theorem ls_grown {w w' : World} {B g : Nat} {s : Sl} {l : List Prp} (h : LsAt w B s l) (hg : w.grownBy w' (some g)) (hR : g < B) : LsAt w' B s l :=
  ⟨own_two h.1 (fun i hi hB => hg.block i hi (fun e => by simp only [Option.some.injEq] at e; omega)), h.2⟩
set_option maxRecDepth 100000 in
theorem rprops_t (g : Nat) (v kind : Int) (c : Cu) (w : World) (h : CurAt w g c) (ok : CuOK c) : Calls Tryz.prog 110 #[.agg (rdrC g v), .int .i64 kind] w fun e w' => ∃ sl : Sl, e = .returned (.slice sl.A sl.n sl.c) ∧ CurAt w' g (propsF v kind c).2 ∧ w.grownBy w' (some g) ∧ LsAt w' w.heap.size sl (propsF v kind c).1 := by
  have HC := Lib.hid (cur_alloc h (.cells (rdrC g v) 65))
  have HR := Lib.hid (heap_alloc_new w (.cells (rdrC g v) 65))
  have HGL : Hid (g < w.heap.size) := Lib.hid (Array.getElem?_eq_some_iff.1 h).1
  have HO := Lib.hid ok
  have HF : Hid (propsF v kind c = _) := Lib.hid (by unfold propsF; rfl)
  clear h ok
  unfold rdrC
  cases h4 : (v == 4)
  case true =>
    have HE : Hid (propsF v kind c = ([], c)) := Lib.hid (HF.out.trans (if_pos h4))
    go_enter Tryz.func110, Tryz.ntmps110
    go_wp2
    go_ret
    exact ⟨nilS, rfl, by rw [HE.out]; exact HC.out, grown_alloc (grown_refl _ _), by rw [HE.out]; exact ls_nil _ _⟩
  have HF1 := Lib.hid (HF.out.trans (if_neg (by rw [h4]; decide)))
  go_enter Tryz.func110, Tryz.ntmps110
  go_wp2_with fail
  refine (err_t g c _ HC.out).mono ?_
  rintro e w2 ⟨rfl, hw⟩
  have HC2 : Hid (CurAt w2 g c) := Lib.hid (by rw [hw]; exact HC.out)
  have HG2 : Hid (w.grownBy w2 (some g)) := Lib.hid (by rw [hw]; exact grown_alloc (grown_refl _ _))
  have HR2 : Hid (w2.heap[w.heap.size]? = some (.cells (rdrC g v) 65 (0, 0))) := Lib.hid (by rw [hw]; exact HR.out)
  clear hw HC HR
  have c0 : w2.cell? ⟨w.heap.size, 0, none⟩ = some (.pointer (some ⟨g, 0, none⟩)) := by rw [cell_of_row _ _ _ _ _ _ HR2.out]; rfl
  cases he : (c.err != 0)
  case true =>
    have HE : Hid (propsF v kind c = ([], c)) := Lib.hid (HF1.out.trans (if_pos he))
    go_wp2
    go_ret
    exact ⟨nilS, rfl, by rw [HE.out]; exact HC2.out, HG2.out, by rw [HE.out]; exact ls_nil _ _⟩
  have HF2 := Lib.hid (HF1.out.trans (if_neg (by rw [he]; decide)))
  clear HF HF1
  go_wp2_with fail
  refine (rest_t g c _ HC2.out HO.out).mono ?_
  rintro e w3 ⟨rfl, hc, hg⟩
  have HC3 := Lib.hid hc
  have HG3 := Lib.hid (grown_trans HG2.out hg)
  have HR3 := Lib.hid (row_grown HR2.out hg (by have := HGL.out; omega))
  clear hc hg c0 HC2 HG2 HR2
  go_wp2_with fail
  refine (pread_t kind (restF c) _ (rest_le HO.out)).mono ?_
  rintro e w4 ⟨v4, rfl, hb, hown, hok⟩
  obtain ⟨sl, rfl, hn, hls⟩ := ls_of hown hok
  have HLS := Lib.hid (ls_mono hls HG3.out.size)
  have HC4 := Lib.hid (cur_below HC3.out hb)
  have HG4 := Lib.hid (grown_trans HG3.out (grown_below' hb))
  have HR4 := Lib.hid (row_then HR3.out hb)
  clear hb hown hok hls hn HC3 HG3 HR3
  generalize preadF kind (restF c) = r at *
  obtain ⟨l, size, e5⟩ := r
  have HF3 : Hid (propsF v kind c = (l, (takeF (failF c e5) size).2)) := HF2
  clear HF2
  have c0 : w4.cell? ⟨w.heap.size, 0, none⟩ = some (.pointer (some ⟨g, 0, none⟩)) := by rw [cell_of_row _ _ _ _ _ _ HR4.out]; rfl
  go_wp2_with fail
  refine (fail_t g c e5 _ HC4.out).mono ?_
  rintro e w5 ⟨rfl, hc, hg⟩
  have HC5 := Lib.hid hc
  have HG5 := Lib.hid (grown_trans HG4.out hg)
  have HR5 := Lib.hid (row_grown HR4.out hg (by have := HGL.out; omega))
  have HLS5 := Lib.hid (ls_grown HLS.out hg HGL.out)
  clear hc hg c0 HC4 HG4 HR4 HLS
  have c0 : w5.cell? ⟨w.heap.size, 0, none⟩ = some (.pointer (some ⟨g, 0, none⟩)) := by rw [cell_of_row _ _ _ _ _ _ HR5.out]; rfl
  go_wp2_with fail
  refine (take_t g (failF c e5) size _ HC5.out (failF_ok HO.out e5)).mono ?_
  rintro e w6 ⟨rfl, hc, hg⟩
  have HC6 := Lib.hid hc
  have HG6 := Lib.hid (grown_trans HG5.out hg)
  have HLS6 := Lib.hid (ls_grown HLS5.out hg HGL.out)
  clear hc hg c0 HC5 HG5 HR5 HLS5
  go_wp2
  go_ret
  exact ⟨sl, rfl, by rw [HF3.out]; exact HC6.out, HG6.out, by rw [HF3.out]; exact HLS6.out⟩
/-- Which flags can be. -/
def flagB (v f : Int) : Bool :=
  if bits .and .i64 f 1 != 0 then false
  else if bits .and .i64 (f / 8) 3 == 3 then false
  else if (bits .and .i64 f 4 == 0) && (bits .and .i64 (f / 8) 7 != 0) then false
  else if v == 5 then true else if bits .and .i64 f 64 == 0 then true else bits .and .i64 f 128 != 0
set_option maxRecDepth 100000 in
theorem rflags_t (g : Nat) (v f : Int) (w : World) (f0 : 0 ≤ f) (f1 : f < 256) : Calls Tryz.prog 109 #[.agg (rdrC g v), .int .i64 f] w fun e w' => e = .returned (.bool (flagB v f)) ∧ Below w.heap.size w w' := by
  have HR := Lib.hid (heap_alloc_new w (.cells (rdrC g v) 65))
  have HB := Lib.hid ((Below.refl w.heap.size w).alloc (Nat.le_refl _) (.cells (rdrC g v) 65))
  have HF : Hid (flagB v f = _) := Lib.hid (by unfold flagB; rfl)
  unfold rdrC
  cases h1 : (bits .and .i64 f 1 != 0)
  · cases h2 : (bits .and .i64 (f / 8) 3 == 3)
    · cases h3 : (bits .and .i64 f 4 == 0) <;> cases h4 : (bits .and .i64 (f / 8) 7 != 0)
      all_goals (cases h5 : (v == 5) <;> cases h6 : (bits .and .i64 f 64 == 0) <;> cases h7 : (bits .and .i64 f 128 != 0))
      all_goals (rw [h1, h2, h3, h4, h5, h6, h7] at HF; go_enter Tryz.func109, Tryz.ntmps109; go_wp2; go_ret; exact ⟨by rw [HF.out]; rfl, HB.out⟩)
    · rw [h1, h2] at HF
      go_enter Tryz.func109, Tryz.ntmps109
      go_wp2
      go_ret
      exact ⟨by rw [HF.out]; rfl, HB.out⟩
  · rw [h1] at HF
    go_enter Tryz.func109, Tryz.ntmps109
    go_wp2
    go_ret
    exact ⟨by rw [HF.out]; rfl, HB.out⟩
end Go.Proofs.YtjlkhihlbdokpaaGreat
/- What connect's reader makes, in plain Lean. -/
namespace Go.Proofs.YtjlkhihlbdokpaaGreat
open Go.RowKit Go.Sort
set_option maxHeartbeats 2000000
set_option linter.unusedVariables false
set_option linter.unusedSimpArgs false
def conn0 : Pk := { zeroPk with kind := 1 }
def cC1 (c : Cu) : Cu := unlessF (takeF c 6).2 ((takeF c 6).1.toList == [0, 4, 77, 81, 84, 84]) 5
def cC2 (v : Int) (c : Cu) : Cu := unlessF (takeF c 1).2 (numF c 1 == v) 5
def cC3 (v : Int) (c : Cu) : Cu := unlessF (takeF c 1).2 (flagB v (numF c 1)) 7
def fb (f m : Int) : Bool := bits .and .i64 f m != 0
def qosF (f : Int) : Int := bits .and .i64 (f / 8) 3
def mkConn (f keep : Int) (ps : Sl) (client : ByteArray) (ws : Sl) (wt wp user pass : ByteArray) : Pk :=
  { conn0 with clean := fb f 2, hasWill := fb f 4, hasPass := fb f 64, hasUser := fb f 128, wRetain := fb f 32, wQoS := qosF f, keep := keep, props := ps, client := client, wProps := ws, wTopic := wt, wPayload := wp, user := user, pass := pass }
structure CRes where
  f : Int
  keep : Int
  l1 : List Prp
  client : ByteArray
  l2 : List Prp
  wt : ByteArray
  wp : ByteArray
  user : ByteArray
  pass : ByteArray
  c : Cu
def cH (v : Int) (c : Cu) : Cu := cC2 v (cC1 c)
def cT (v : Int) (c : Cu) : ByteArray × Cu := textF (propsF v 1 (takeF (cC3 v (cH v c)) 2).2).2
def cW (v : Int) (b : Bool) (c : Cu) : List Prp × ByteArray × ByteArray × Cu :=
  if b = true then ((propsF v 16 c).1, (textF (propsF v 16 c).2).1, (binaryF (textF (propsF v 16 c).2).2).1, (binaryF (textF (propsF v 16 c).2).2).2) else ([], ⟨#[]⟩, ⟨#[]⟩, c)
def cU (b : Bool) (c : Cu) : ByteArray × Cu := if b = true then textF c else (⟨#[]⟩, c)
def cP (b : Bool) (c : Cu) : ByteArray × Cu := if b = true then binaryF c else (⟨#[]⟩, c)
def connF (v : Int) (c : Cu) : CRes :=
  let f := numF (cH v c) 1
  let w := cW v (fb f 4) (cT v c).2
  let u := cU (fb f 128) w.2.2.2
  let p := cP (fb f 64) u.2
  ⟨f, numF (cC3 v (cH v c)) 2, (propsF v 1 (takeF (cC3 v (cH v c)) 2).2).1, (cT v c).1, w.1, w.2.1, w.2.2.1, u.1, p.1, p.2⟩
theorem cW_no {v f : Int} {c : Cu} (h : fb f 4 = false) : cW v (fb f 4) c = ([], ⟨#[]⟩, ⟨#[]⟩, c) := by rw [h]; rfl
theorem cW_yes {v f : Int} {c c1 c2 c3 : Cu} {l : List Prp} {t p : ByteArray} (h : fb f 4 = true) (h1 : propsF v 16 c = (l, c1)) (h2 : textF c1 = (t, c2)) (h3 : binaryF c2 = (p, c3)) : cW v (fb f 4) c = (l, t, p, c3) := by
  rw [h]
  unfold cW
  rw [if_pos rfl, h1]
  simp only []
  rw [h2]
  simp only []
  rw [h3]
theorem cU_no {f : Int} {c : Cu} (h : fb f 128 = false) : cU (fb f 128) c = (⟨#[]⟩, c) := by rw [h]; rfl
theorem cU_yes {f : Int} {c c1 : Cu} {t : ByteArray} (h : fb f 128 = true) (h1 : textF c = (t, c1)) : cU (fb f 128) c = (t, c1) := by rw [h, ← h1]; rfl
theorem cP_no {f : Int} {c : Cu} (h : fb f 64 = false) : cP (fb f 64) c = (⟨#[]⟩, c) := by rw [h]; rfl
theorem cP_yes {f : Int} {c c1 : Cu} {t : ByteArray} (h : fb f 64 = true) (h1 : binaryF c = (t, c1)) : cP (fb f 64) c = (t, c1) := by rw [h, ← h1]; rfl
theorem connF_eq {v : Int} {c : Cu} {f keep : Int} {c3 c4 c5 c6 cw cu cp : Cu} {l1 l2 : List Prp} {cl wt wp us pa : ByteArray} (hf : numF (cH v c) 1 = f) (hc3 : cC3 v (cH v c) = c3) (hkeep : numF c3 2 = keep) (hc4 : (takeF c3 2).2 = c4) (hr1 : propsF v 1 c4 = (l1, c5)) (hcl : textF c5 = (cl, c6))
    (hw : cW v (fb f 4) c6 = (l2, wt, wp, cw)) (hu : cU (fb f 128) cw = (us, cu)) (hp : cP (fb f 64) cu = (pa, cp)) : connF v c = ⟨f, keep, l1, cl, l2, wt, wp, us, pa, cp⟩ := by
  have hT : cT v c = (cl, c6) := by unfold cT; rw [hc3, hc4, hr1]; exact hcl
  unfold connF
  simp only []
  rw [hf, hT]
  simp only []
  rw [hw]
  simp only []
  rw [hu]
  simp only []
  rw [hp, hc3, hkeep, hc4, hr1]
end Go.Proofs.YtjlkhihlbdokpaaGreat
