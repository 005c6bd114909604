/- connect.alone, ranges, Valid. -/
import Derived.Test.YtnbgmpfldoaodaaBase
import Derived.Test.YtnbgmpfldoaodaaSamePk
namespace Go.Proofs.Ytnbgmpfldoaodaa
open Go.RowKit Go.Sort
set_option maxHeartbeats 2000000
set_option linter.unusedVariables false
set_option linter.unusedSimpArgs false
theorem grown_three (a : World) (g i j k : Nat) (x y z : Value) : a.grownBy (((a.setCell ⟨g, i, none⟩ x).setCell ⟨g, j, none⟩ y).setCell ⟨g, k, none⟩ z).drew (some g) :=
  grown_drew ⟨rfl, rfl, rfl, by simp, fun l _ hk => by
    rw [heap_setCell_other _ _ _ _ (fun e => hk (by rw [e])), heap_setCell_other _ _ _ _ (fun e => hk (by rw [e])), heap_setCell_other _ _ _ _ (fun e => hk (by rw [e]))]⟩
theorem row_three {a : World} {g : Nat} {cs : Array Value} {T : TypeId} (h : a.heap[g]? = some (.cells cs T (0, 0))) (i j k : Nat) (x y z : Value) :
    (((a.setCell ⟨g, i, none⟩ x).setCell ⟨g, j, none⟩ y).setCell ⟨g, k, none⟩ z).drew.heap[g]? = some (.cells (((cs.setIfInBounds i x).setIfInBounds j y).setIfInBounds k z) T (0, 0)) := by
  have h1 := heap_setCell_same a g i cs T x h
  have h2 := heap_setCell_same _ g j _ T y h1
  exact heap_setCell_same _ g k _ T z h2
def noStr : ByteArray := ⟨#[]⟩
/-- The packet that connect.alone makes. -/
def aloneQ (p : Pk) : Pk :=
  if (p.kind == 2) = true then { zeroPk with kind := p.kind, props := p.props, session := p.session, code := p.code }
  else { zeroPk with kind := p.kind, props := p.props, clean := p.clean, keep := p.keep, client := p.client, hasWill := p.hasWill, wTopic := if p.hasWill = true then p.wTopic else ⟨#[]⟩, wPayload := if p.hasWill = true then p.wPayload else ⟨#[]⟩, wQoS := if p.hasWill = true then p.wQoS else 0, wRetain := if p.hasWill = true then p.wRetain else false, wProps := if p.hasWill = true then p.wProps else zeroSl, hasUser := p.hasUser, user := if p.hasUser = true then p.user else ⟨#[]⟩, hasPass := p.hasPass, pass := if p.hasPass = true then p.pass else ⟨#[]⟩ }
def q0 (p : Pk) : Pk := { zeroPk with kind := p.kind, props := p.props }
def qA (p : Pk) : Pk := { q0 p with session := p.session, code := p.code }
def q1 (p : Pk) : Pk := { q0 p with clean := p.clean, keep := p.keep, client := p.client }
def qW (p : Pk) : Pk := { q1 p with hasWill := p.hasWill }
def qWy (p : Pk) : Pk := { qW p with wTopic := p.wTopic, wPayload := p.wPayload, wQoS := p.wQoS, wRetain := p.wRetain, wProps := p.wProps }
def setU (q p : Pk) : Pk := { q with hasUser := p.hasUser }
def setUy (q p : Pk) : Pk := { q with user := p.user }
def setP (q p : Pk) : Pk := { q with hasPass := p.hasPass }
def setPy (q p : Pk) : Pk := { q with pass := p.pass }
set_option maxRecDepth 100000 in
theorem alone_t (p : Pk) (lw lp : List Prp) (w : World) (hrw : RP w p.wProps.A p.wProps.n lw) (hrp : RP w p.props.A p.props.n lp) :
    Calls Try.prog 88 #[.agg (packC p)] w fun e w' => e = .returned (.bool (sameEq p (aloneQ p))) ∧ Below w.heap.size w w' := by
  have HW := Lib.hid hrw
  have HP := Lib.hid hrp
  clear hrw hrp
  have HB1 := Lib.hid ((Below.refl w.heap.size w).alloc (Nat.le_refl _) (.cells (packC p) 39))
  have HGp1 := Lib.hid (heap_alloc_new w (.cells (packC p) 39))
  go_enter Try.func88, Try.ntmps88
  have cp_0 : (w.alloc (.cells (packC p) 39)).cell? ⟨w.heap.size, 0, none⟩ = some (.int .i64 (p.kind)) := pack_at HGp1.out 0 _ rfl
  have cp_24 : (w.alloc (.cells (packC p) 39)).cell? ⟨w.heap.size, 24, none⟩ = some (.slice p.props.A p.props.n p.props.c) := pack_at HGp1.out 24 _ rfl
  go_wp2_with ((with_reducible refine pk_store (w.heap.size + 1) (q0 p) ?x1 ?y1 _ (heap_alloc2_new w _ _) ?a1 ?b1 ?c1 ?d1 ?e1 ?f1); (case a1 => rfl); (case b1 => rfl); (case c1 => rfl); (case d1 => rfl); (case e1 => rfl))
  intro w2 hg hgr
  have HLT : Hid (w.heap.size ≤ w.heap.size + 1 ∧ w.heap.size ≠ w.heap.size + 1) := Lib.hid ⟨by omega, by omega⟩
  have HB2 := Lib.hid (grown_below (HB1.out.alloc HB1.out.size _) hgr HLT.out.1)
  have HGp2 := Lib.hid (row_grown (heap_alloc2_old w _ _) hgr HLT.out.2)
  have HGq2 := Lib.hid hg
  clear hg hgr HB1 HGp1
  clear cp_0 cp_24
  have cp_0 : w2.cell? ⟨w.heap.size, 0, none⟩ = some (.int .i64 (p.kind)) := pack_at HGp2.out 0 _ rfl
  cases hk : (p.kind == 2)
  · clear cp_0
    have cp_0 : w2.cell? ⟨w.heap.size, 0, none⟩ = some (.int .i64 (p.kind)) := pack_at HGp2.out 0 _ rfl
    have cp_7 : w2.cell? ⟨w.heap.size, 7, none⟩ = some (.bool (p.clean)) := pack_at HGp2.out 7 _ rfl
    have cp_8 : w2.cell? ⟨w.heap.size, 8, none⟩ = some (.int .i64 (p.keep)) := pack_at HGp2.out 8 _ rfl
    have cp_9 : w2.cell? ⟨w.heap.size, 9, none⟩ = some (.string (p.client)) := pack_at HGp2.out 9 _ rfl
    have cq_7 : w2.cell? ⟨w.heap.size + 1, 7, none⟩ = some (.bool (false)) := pack_at HGq2.out 7 _ rfl
    have cq_8 : w2.cell? ⟨w.heap.size + 1, 8, none⟩ = some (.int .i64 (0)) := pack_at HGq2.out 8 _ rfl
    have cq_9 : w2.cell? ⟨w.heap.size + 1, 9, none⟩ = some (.string (⟨#[]⟩)) := pack_at HGq2.out 9 _ rfl
    have f7 : w2.frozen? ⟨w.heap.size + 1, 7, none⟩ = false := frozen_of_row _ _ _ _ _ HGq2.out
    have f8 : w2.frozen? ⟨w.heap.size + 1, 8, none⟩ = false := frozen_of_row _ _ _ _ _ HGq2.out
    have f9 : w2.frozen? ⟨w.heap.size + 1, 9, none⟩ = false := frozen_of_row _ _ _ _ _ HGq2.out
    go_wp2_with fail
    go_region
    have hgr := grown_three w2 (w.heap.size + 1) 7 8 9 (.bool (p.clean)) (.int .i64 (p.keep)) (.string (p.client))
    have HGq3 : Hid ((((w2.setCell ⟨w.heap.size + 1, 7, none⟩ (.bool (p.clean))).setCell ⟨w.heap.size + 1, 8, none⟩ (.int .i64 (p.keep))).setCell ⟨w.heap.size + 1, 9, none⟩ (.string (p.client))).drew.heap[w.heap.size + 1]? = some (.cells (packC (q1 p)) 39 (0, 0))) := Lib.hid (row_three HGq2.out 7 8 9 _ _ _)
    have HB3 := Lib.hid (grown_below HB2.out hgr HLT.out.1)
    have HGp3 := Lib.hid (row_grown HGp2.out hgr HLT.out.2)
    generalize (((w2.setCell ⟨w.heap.size + 1, 7, none⟩ (.bool (p.clean))).setCell ⟨w.heap.size + 1, 8, none⟩ (.int .i64 (p.keep))).setCell ⟨w.heap.size + 1, 9, none⟩ (.string (p.client))).drew = w3 at *
    clear hgr f7 f8 f9 HB2 HGp2 HGq2
    clear cp_0 cp_7 cp_8 cp_9 cq_7 cq_8 cq_9
    have cp_14 : w3.cell? ⟨w.heap.size, 14, none⟩ = some (.bool (p.hasWill)) := pack_at HGp3.out 14 _ rfl
    go_wp2_with ((with_reducible refine pk_set (w.heap.size + 1) 14 (q1 p) (qW p) (.bool (p.hasWill)) ?t2 ?x2 ?y2 HGq3.out ?a2 ?b2 ?c2 ?d2 ?e2 ?f2 ?g2 ?h2 ?i2); (case a2 => rfl); (case b2 => rfl); (case c2 => rfl); (case d2 => rfl); (case e2 => kernel_rfl); (case f2 => simp [Value.cells, willC, Value.oneCell']); (case g2 => simp [Value.cells, willC]); (case h2 => rfl))
    intro w4 hg hgr
    have HB4 := Lib.hid (grown_below HB3.out hgr HLT.out.1)
    have HGp4 := Lib.hid (row_grown HGp3.out hgr HLT.out.2)
    have HGq4 := Lib.hid hg
    clear hg hgr HB3 HGp3 HGq3
    clear cp_14
    have cp_14 : w4.cell? ⟨w.heap.size, 14, none⟩ = some (.bool (p.hasWill)) := pack_at HGp4.out 14 _ rfl
    cases hw : p.hasWill
    · clear cp_14
      have cp_10 : w4.cell? ⟨w.heap.size, 10, none⟩ = some (.bool (p.hasUser)) := pack_at HGp4.out 10 _ rfl
      have cp_14 : w4.cell? ⟨w.heap.size, 14, none⟩ = some (.bool (p.hasWill)) := pack_at HGp4.out 14 _ rfl
      go_wp2_with ((with_reducible refine pk_set (w.heap.size + 1) 10 (qW p) (setU (qW p) p) (.bool (p.hasUser)) ?t3 ?x3 ?y3 HGq4.out ?a3 ?b3 ?c3 ?d3 ?e3 ?f3 ?g3 ?h3 ?i3); (case a3 => rfl); (case b3 => rfl); (case c3 => rfl); (case d3 => rfl); (case e3 => kernel_rfl); (case f3 => simp [Value.cells, willC, Value.oneCell']); (case g3 => simp [Value.cells, willC]); (case h3 => rfl))
      intro w5 hg hgr
      have HB5 := Lib.hid (grown_below HB4.out hgr HLT.out.1)
      have HGp5 := Lib.hid (row_grown HGp4.out hgr HLT.out.2)
      have HGq5 := Lib.hid hg
      clear hg hgr HB4 HGp4 HGq4
      clear cp_10 cp_14
      have cp_10 : w5.cell? ⟨w.heap.size, 10, none⟩ = some (.bool (p.hasUser)) := pack_at HGp5.out 10 _ rfl
      have cp_14 : w5.cell? ⟨w.heap.size, 14, none⟩ = some (.bool (p.hasWill)) := pack_at HGp5.out 14 _ rfl
      cases hu : p.hasUser
      · clear cp_10 cp_14
        have cp_10 : w5.cell? ⟨w.heap.size, 10, none⟩ = some (.bool (p.hasUser)) := pack_at HGp5.out 10 _ rfl
        have cp_12 : w5.cell? ⟨w.heap.size, 12, none⟩ = some (.bool (p.hasPass)) := pack_at HGp5.out 12 _ rfl
        go_wp2_with ((with_reducible refine pk_set (w.heap.size + 1) 12 (setU (qW p) p) (setP (setU (qW p) p) p) (.bool (p.hasPass)) ?t4 ?x4 ?y4 HGq5.out ?a4 ?b4 ?c4 ?d4 ?e4 ?f4 ?g4 ?h4 ?i4); (case a4 => rfl); (case b4 => rfl); (case c4 => rfl); (case d4 => rfl); (case e4 => kernel_rfl); (case f4 => simp [Value.cells, willC, Value.oneCell']); (case g4 => simp [Value.cells, willC]); (case h4 => rfl))
        intro w6 hg hgr
        have HB6 := Lib.hid (grown_below HB5.out hgr HLT.out.1)
        have HGp6 := Lib.hid (row_grown HGp5.out hgr HLT.out.2)
        have HGq6 := Lib.hid hg
        clear hg hgr HB5 HGp5 HGq5
        clear cp_10 cp_12
        have cp_10 : w6.cell? ⟨w.heap.size, 10, none⟩ = some (.bool (p.hasUser)) := pack_at HGp6.out 10 _ rfl
        have cp_12 : w6.cell? ⟨w.heap.size, 12, none⟩ = some (.bool (p.hasPass)) := pack_at HGp6.out 12 _ rfl
        cases hp : p.hasPass
        · clear cp_10 cp_12
          have cp_12 : w6.cell? ⟨w.heap.size, 12, none⟩ = some (.bool (p.hasPass)) := pack_at HGp6.out 12 _ rfl
          have HE : Hid (aloneQ p = setP (setU (qW p) p) p) := Lib.hid (by unfold aloneQ; simp only [if_neg (show ¬ ((p.kind == 2) = true) by rw [hk]; decide), if_neg (show ¬ (p.hasWill = true) by rw [hw]; decide), if_neg (show ¬ (p.hasUser = true) by rw [hu]; decide), if_neg (show ¬ (p.hasPass = true) by rw [hp]; decide)]; rfl)
          go_wp2_with (first | ((with_reducible refine pk_load (w.heap.size) (p) ?x5 HGp6.out ?a5 ?b5 ?c5 ?d5); (case a5 => rfl); (case b5 => rfl); (case c5 => rfl)) | ((with_reducible refine pk_load (w.heap.size + 1) (setP (setU (qW p) p) p) ?x6 HGq6.out ?a6 ?b6 ?c6 ?d6); (case a6 => rfl); (case b6 => rfl); (case c6 => rfl)))
          refine (same_t p (setP (setU (qW p) p) p) (packC p) (packC (setP (setU (qW p) p) p)) rfl rfl lw lp _ (HW.out.below HB6.out) (HP.out.below HB6.out) (Or.inl ⟨rfl, rfl, rfl⟩) (Or.inr ⟨rfl, rfl, rfl⟩) rfl rfl).mono ?_
          rintro e w7 ⟨rfl, hb⟩
          have HB7 := Lib.hid (ext_then' HB6.out hb)
          have HGp7 := Lib.hid (row_then HGp6.out hb)
          have HGq7 := Lib.hid (row_then HGq6.out hb)
          clear hb HB6 HGp6 HGq6
          clear cp_12
          have cp_12 : w7.cell? ⟨w.heap.size, 12, none⟩ = some (.bool (p.hasPass)) := pack_at HGp7.out 12 _ rfl
          go_wp2
          go_ret
          exact ⟨by rw [HE.out]; rfl, HB7.out⟩
        · clear cp_10 cp_12
          have cp_12 : w6.cell? ⟨w.heap.size, 12, none⟩ = some (.bool (p.hasPass)) := pack_at HGp6.out 12 _ rfl
          have cp_13 : w6.cell? ⟨w.heap.size, 13, none⟩ = some (.string (p.pass)) := pack_at HGp6.out 13 _ rfl
          go_wp2_with ((with_reducible refine pk_set (w.heap.size + 1) 13 (setP (setU (qW p) p) p) (setPy (setP (setU (qW p) p) p) p) (.string (p.pass)) ?t7 ?x7 ?y7 HGq6.out ?a7 ?b7 ?c7 ?d7 ?e7 ?f7 ?g7 ?h7 ?i7); (case a7 => rfl); (case b7 => rfl); (case c7 => rfl); (case d7 => rfl); (case e7 => kernel_rfl); (case f7 => simp [Value.cells, willC, Value.oneCell']); (case g7 => simp [Value.cells, willC]); (case h7 => rfl))
          intro w7 hg hgr
          have HB7 := Lib.hid (grown_below HB6.out hgr HLT.out.1)
          have HGp7 := Lib.hid (row_grown HGp6.out hgr HLT.out.2)
          have HGq7 := Lib.hid hg
          clear hg hgr HB6 HGp6 HGq6
          clear cp_12 cp_13
          have cp_12 : w7.cell? ⟨w.heap.size, 12, none⟩ = some (.bool (p.hasPass)) := pack_at HGp7.out 12 _ rfl
          have cp_13 : w7.cell? ⟨w.heap.size, 13, none⟩ = some (.string (p.pass)) := pack_at HGp7.out 13 _ rfl
          clear cp_12 cp_13
          have HE : Hid (aloneQ p = setPy (setP (setU (qW p) p) p) p) := Lib.hid (by unfold aloneQ; simp only [if_neg (show ¬ ((p.kind == 2) = true) by rw [hk]; decide), if_neg (show ¬ (p.hasWill = true) by rw [hw]; decide), if_neg (show ¬ (p.hasUser = true) by rw [hu]; decide), if_pos (show p.hasPass = true from hp)]; rfl)
          go_wp2_with (first | ((with_reducible refine pk_load (w.heap.size) (p) ?x8 HGp7.out ?a8 ?b8 ?c8 ?d8); (case a8 => rfl); (case b8 => rfl); (case c8 => rfl)) | ((with_reducible refine pk_load (w.heap.size + 1) (setPy (setP (setU (qW p) p) p) p) ?x9 HGq7.out ?a9 ?b9 ?c9 ?d9); (case a9 => rfl); (case b9 => rfl); (case c9 => rfl)))
          refine (same_t p (setPy (setP (setU (qW p) p) p) p) (packC p) (packC (setPy (setP (setU (qW p) p) p) p)) rfl rfl lw lp _ (HW.out.below HB7.out) (HP.out.below HB7.out) (Or.inl ⟨rfl, rfl, rfl⟩) (Or.inr ⟨rfl, rfl, rfl⟩) rfl rfl).mono ?_
          rintro e w8 ⟨rfl, hb⟩
          have HB8 := Lib.hid (ext_then' HB7.out hb)
          have HGp8 := Lib.hid (row_then HGp7.out hb)
          have HGq8 := Lib.hid (row_then HGq7.out hb)
          clear hb HB7 HGp7 HGq7
          go_wp2
          go_ret
          exact ⟨by rw [HE.out]; rfl, HB8.out⟩
      · clear cp_10 cp_14
        have cp_10 : w5.cell? ⟨w.heap.size, 10, none⟩ = some (.bool (p.hasUser)) := pack_at HGp5.out 10 _ rfl
        have cp_11 : w5.cell? ⟨w.heap.size, 11, none⟩ = some (.string (p.user)) := pack_at HGp5.out 11 _ rfl
        go_wp2_with ((with_reducible refine pk_set (w.heap.size + 1) 11 (setU (qW p) p) (setUy (setU (qW p) p) p) (.string (p.user)) ?t10 ?x10 ?y10 HGq5.out ?a10 ?b10 ?c10 ?d10 ?e10 ?f10 ?g10 ?h10 ?i10); (case a10 => rfl); (case b10 => rfl); (case c10 => rfl); (case d10 => rfl); (case e10 => kernel_rfl); (case f10 => simp [Value.cells, willC, Value.oneCell']); (case g10 => simp [Value.cells, willC]); (case h10 => rfl))
        intro w6 hg hgr
        have HB6 := Lib.hid (grown_below HB5.out hgr HLT.out.1)
        have HGp6 := Lib.hid (row_grown HGp5.out hgr HLT.out.2)
        have HGq6 := Lib.hid hg
        clear hg hgr HB5 HGp5 HGq5
        clear cp_10 cp_11
        have cp_10 : w6.cell? ⟨w.heap.size, 10, none⟩ = some (.bool (p.hasUser)) := pack_at HGp6.out 10 _ rfl
        have cp_11 : w6.cell? ⟨w.heap.size, 11, none⟩ = some (.string (p.user)) := pack_at HGp6.out 11 _ rfl
        clear cp_10 cp_11
        have cp_10 : w6.cell? ⟨w.heap.size, 10, none⟩ = some (.bool (p.hasUser)) := pack_at HGp6.out 10 _ rfl
        have cp_12 : w6.cell? ⟨w.heap.size, 12, none⟩ = some (.bool (p.hasPass)) := pack_at HGp6.out 12 _ rfl
        go_wp2_with ((with_reducible refine pk_set (w.heap.size + 1) 12 (setUy (setU (qW p) p) p) (setP (setUy (setU (qW p) p) p) p) (.bool (p.hasPass)) ?t11 ?x11 ?y11 HGq6.out ?a11 ?b11 ?c11 ?d11 ?e11 ?f11 ?g11 ?h11 ?i11); (case a11 => rfl); (case b11 => rfl); (case c11 => rfl); (case d11 => rfl); (case e11 => kernel_rfl); (case f11 => simp [Value.cells, willC, Value.oneCell']); (case g11 => simp [Value.cells, willC]); (case h11 => rfl))
        intro w7 hg hgr
        have HB7 := Lib.hid (grown_below HB6.out hgr HLT.out.1)
        have HGp7 := Lib.hid (row_grown HGp6.out hgr HLT.out.2)
        have HGq7 := Lib.hid hg
        clear hg hgr HB6 HGp6 HGq6
        clear cp_10 cp_12
        have cp_10 : w7.cell? ⟨w.heap.size, 10, none⟩ = some (.bool (p.hasUser)) := pack_at HGp7.out 10 _ rfl
        have cp_12 : w7.cell? ⟨w.heap.size, 12, none⟩ = some (.bool (p.hasPass)) := pack_at HGp7.out 12 _ rfl
        cases hp : p.hasPass
        · clear cp_10 cp_12
          have cp_12 : w7.cell? ⟨w.heap.size, 12, none⟩ = some (.bool (p.hasPass)) := pack_at HGp7.out 12 _ rfl
          have HE : Hid (aloneQ p = setP (setUy (setU (qW p) p) p) p) := Lib.hid (by unfold aloneQ; simp only [if_neg (show ¬ ((p.kind == 2) = true) by rw [hk]; decide), if_neg (show ¬ (p.hasWill = true) by rw [hw]; decide), if_pos (show p.hasUser = true from hu), if_neg (show ¬ (p.hasPass = true) by rw [hp]; decide)]; rfl)
          go_wp2_with (first | ((with_reducible refine pk_load (w.heap.size) (p) ?x12 HGp7.out ?a12 ?b12 ?c12 ?d12); (case a12 => rfl); (case b12 => rfl); (case c12 => rfl)) | ((with_reducible refine pk_load (w.heap.size + 1) (setP (setUy (setU (qW p) p) p) p) ?x13 HGq7.out ?a13 ?b13 ?c13 ?d13); (case a13 => rfl); (case b13 => rfl); (case c13 => rfl)))
          refine (same_t p (setP (setUy (setU (qW p) p) p) p) (packC p) (packC (setP (setUy (setU (qW p) p) p) p)) rfl rfl lw lp _ (HW.out.below HB7.out) (HP.out.below HB7.out) (Or.inl ⟨rfl, rfl, rfl⟩) (Or.inr ⟨rfl, rfl, rfl⟩) rfl rfl).mono ?_
          rintro e w8 ⟨rfl, hb⟩
          have HB8 := Lib.hid (ext_then' HB7.out hb)
          have HGp8 := Lib.hid (row_then HGp7.out hb)
          have HGq8 := Lib.hid (row_then HGq7.out hb)
          clear hb HB7 HGp7 HGq7
          clear cp_12
          have cp_12 : w8.cell? ⟨w.heap.size, 12, none⟩ = some (.bool (p.hasPass)) := pack_at HGp8.out 12 _ rfl
          go_wp2
          go_ret
          exact ⟨by rw [HE.out]; rfl, HB8.out⟩
        · clear cp_10 cp_12
          have cp_12 : w7.cell? ⟨w.heap.size, 12, none⟩ = some (.bool (p.hasPass)) := pack_at HGp7.out 12 _ rfl
          have cp_13 : w7.cell? ⟨w.heap.size, 13, none⟩ = some (.string (p.pass)) := pack_at HGp7.out 13 _ rfl
          go_wp2_with ((with_reducible refine pk_set (w.heap.size + 1) 13 (setP (setUy (setU (qW p) p) p) p) (setPy (setP (setUy (setU (qW p) p) p) p) p) (.string (p.pass)) ?t14 ?x14 ?y14 HGq7.out ?a14 ?b14 ?c14 ?d14 ?e14 ?f14 ?g14 ?h14 ?i14); (case a14 => rfl); (case b14 => rfl); (case c14 => rfl); (case d14 => rfl); (case e14 => kernel_rfl); (case f14 => simp [Value.cells, willC, Value.oneCell']); (case g14 => simp [Value.cells, willC]); (case h14 => rfl))
          intro w8 hg hgr
          have HB8 := Lib.hid (grown_below HB7.out hgr HLT.out.1)
          have HGp8 := Lib.hid (row_grown HGp7.out hgr HLT.out.2)
          have HGq8 := Lib.hid hg
          clear hg hgr HB7 HGp7 HGq7
          clear cp_12 cp_13
          have cp_12 : w8.cell? ⟨w.heap.size, 12, none⟩ = some (.bool (p.hasPass)) := pack_at HGp8.out 12 _ rfl
          have cp_13 : w8.cell? ⟨w.heap.size, 13, none⟩ = some (.string (p.pass)) := pack_at HGp8.out 13 _ rfl
          clear cp_12 cp_13
          have HE : Hid (aloneQ p = setPy (setP (setUy (setU (qW p) p) p) p) p) := Lib.hid (by unfold aloneQ; simp only [if_neg (show ¬ ((p.kind == 2) = true) by rw [hk]; decide), if_neg (show ¬ (p.hasWill = true) by rw [hw]; decide), if_pos (show p.hasUser = true from hu), if_pos (show p.hasPass = true from hp)]; rfl)
          go_wp2_with (first | ((with_reducible refine pk_load (w.heap.size) (p) ?x15 HGp8.out ?a15 ?b15 ?c15 ?d15); (case a15 => rfl); (case b15 => rfl); (case c15 => rfl)) | ((with_reducible refine pk_load (w.heap.size + 1) (setPy (setP (setUy (setU (qW p) p) p) p) p) ?x16 HGq8.out ?a16 ?b16 ?c16 ?d16); (case a16 => rfl); (case b16 => rfl); (case c16 => rfl)))
          refine (same_t p (setPy (setP (setUy (setU (qW p) p) p) p) p) (packC p) (packC (setPy (setP (setUy (setU (qW p) p) p) p) p)) rfl rfl lw lp _ (HW.out.below HB8.out) (HP.out.below HB8.out) (Or.inl ⟨rfl, rfl, rfl⟩) (Or.inr ⟨rfl, rfl, rfl⟩) rfl rfl).mono ?_
          rintro e w9 ⟨rfl, hb⟩
          have HB9 := Lib.hid (ext_then' HB8.out hb)
          have HGp9 := Lib.hid (row_then HGp8.out hb)
          have HGq9 := Lib.hid (row_then HGq8.out hb)
          clear hb HB8 HGp8 HGq8
          go_wp2
          go_ret
          exact ⟨by rw [HE.out]; rfl, HB9.out⟩
    · go_wp2_with (first | ((with_reducible refine will_load w.heap.size p ?x17 HGp4.out ?a17 ?b17 ?c17 ?d17); (case a17 => rfl); (case b17 => rfl); (case c17 => rfl)) | ((with_reducible refine pk_set (w.heap.size + 1) 15 (qW p) (qWy p) (.agg (willC p)) ?t18 ?x18 ?y18 HGq4.out ?a18 ?b18 ?c18 ?d18 ?e18 ?f18 ?g18 ?h18 ?i18); (case a18 => rfl); (case b18 => rfl); (case c18 => rfl); (case d18 => rfl); (case e18 => kernel_rfl); (case f18 => simp [Value.cells, willC, Value.oneCell']); (case g18 => simp [Value.cells, willC]); (case h18 => rfl)))
      intro w5 hg hgr
      have HB5 := Lib.hid (grown_below HB4.out hgr HLT.out.1)
      have HGp5 := Lib.hid (row_grown HGp4.out hgr HLT.out.2)
      have HGq5 := Lib.hid hg
      clear hg hgr HB4 HGp4 HGq4
      clear cp_14
      have cp_14 : w5.cell? ⟨w.heap.size, 14, none⟩ = some (.bool (p.hasWill)) := pack_at HGp5.out 14 _ rfl
      clear cp_14
      have cp_10 : w5.cell? ⟨w.heap.size, 10, none⟩ = some (.bool (p.hasUser)) := pack_at HGp5.out 10 _ rfl
      have cp_14 : w5.cell? ⟨w.heap.size, 14, none⟩ = some (.bool (p.hasWill)) := pack_at HGp5.out 14 _ rfl
      go_wp2_with ((with_reducible refine pk_set (w.heap.size + 1) 10 (qWy p) (setU (qWy p) p) (.bool (p.hasUser)) ?t19 ?x19 ?y19 HGq5.out ?a19 ?b19 ?c19 ?d19 ?e19 ?f19 ?g19 ?h19 ?i19); (case a19 => rfl); (case b19 => rfl); (case c19 => rfl); (case d19 => rfl); (case e19 => kernel_rfl); (case f19 => simp [Value.cells, willC, Value.oneCell']); (case g19 => simp [Value.cells, willC]); (case h19 => rfl))
      intro w6 hg hgr
      have HB6 := Lib.hid (grown_below HB5.out hgr HLT.out.1)
      have HGp6 := Lib.hid (row_grown HGp5.out hgr HLT.out.2)
      have HGq6 := Lib.hid hg
      clear hg hgr HB5 HGp5 HGq5
      clear cp_10 cp_14
      have cp_10 : w6.cell? ⟨w.heap.size, 10, none⟩ = some (.bool (p.hasUser)) := pack_at HGp6.out 10 _ rfl
      have cp_14 : w6.cell? ⟨w.heap.size, 14, none⟩ = some (.bool (p.hasWill)) := pack_at HGp6.out 14 _ rfl
      cases hu : p.hasUser
      · clear cp_10 cp_14
        have cp_10 : w6.cell? ⟨w.heap.size, 10, none⟩ = some (.bool (p.hasUser)) := pack_at HGp6.out 10 _ rfl
        have cp_12 : w6.cell? ⟨w.heap.size, 12, none⟩ = some (.bool (p.hasPass)) := pack_at HGp6.out 12 _ rfl
        go_wp2_with ((with_reducible refine pk_set (w.heap.size + 1) 12 (setU (qWy p) p) (setP (setU (qWy p) p) p) (.bool (p.hasPass)) ?t20 ?x20 ?y20 HGq6.out ?a20 ?b20 ?c20 ?d20 ?e20 ?f20 ?g20 ?h20 ?i20); (case a20 => rfl); (case b20 => rfl); (case c20 => rfl); (case d20 => rfl); (case e20 => kernel_rfl); (case f20 => simp [Value.cells, willC, Value.oneCell']); (case g20 => simp [Value.cells, willC]); (case h20 => rfl))
        intro w7 hg hgr
        have HB7 := Lib.hid (grown_below HB6.out hgr HLT.out.1)
        have HGp7 := Lib.hid (row_grown HGp6.out hgr HLT.out.2)
        have HGq7 := Lib.hid hg
        clear hg hgr HB6 HGp6 HGq6
        clear cp_10 cp_12
        have cp_10 : w7.cell? ⟨w.heap.size, 10, none⟩ = some (.bool (p.hasUser)) := pack_at HGp7.out 10 _ rfl
        have cp_12 : w7.cell? ⟨w.heap.size, 12, none⟩ = some (.bool (p.hasPass)) := pack_at HGp7.out 12 _ rfl
        cases hp : p.hasPass
        · clear cp_10 cp_12
          have cp_12 : w7.cell? ⟨w.heap.size, 12, none⟩ = some (.bool (p.hasPass)) := pack_at HGp7.out 12 _ rfl
          have HE : Hid (aloneQ p = setP (setU (qWy p) p) p) := Lib.hid (by unfold aloneQ; simp only [if_neg (show ¬ ((p.kind == 2) = true) by rw [hk]; decide), if_pos (show p.hasWill = true from hw), if_neg (show ¬ (p.hasUser = true) by rw [hu]; decide), if_neg (show ¬ (p.hasPass = true) by rw [hp]; decide)]; rfl)
          go_wp2_with (first | ((with_reducible refine pk_load (w.heap.size) (p) ?x21 HGp7.out ?a21 ?b21 ?c21 ?d21); (case a21 => rfl); (case b21 => rfl); (case c21 => rfl)) | ((with_reducible refine pk_load (w.heap.size + 1) (setP (setU (qWy p) p) p) ?x22 HGq7.out ?a22 ?b22 ?c22 ?d22); (case a22 => rfl); (case b22 => rfl); (case c22 => rfl)))
          refine (same_t p (setP (setU (qWy p) p) p) (packC p) (packC (setP (setU (qWy p) p) p)) rfl rfl lw lp _ (HW.out.below HB7.out) (HP.out.below HB7.out) (Or.inr ⟨rfl, rfl, rfl⟩) (Or.inr ⟨rfl, rfl, rfl⟩) rfl rfl).mono ?_
          rintro e w8 ⟨rfl, hb⟩
          have HB8 := Lib.hid (ext_then' HB7.out hb)
          have HGp8 := Lib.hid (row_then HGp7.out hb)
          have HGq8 := Lib.hid (row_then HGq7.out hb)
          clear hb HB7 HGp7 HGq7
          clear cp_12
          have cp_12 : w8.cell? ⟨w.heap.size, 12, none⟩ = some (.bool (p.hasPass)) := pack_at HGp8.out 12 _ rfl
          go_wp2
          go_ret
          exact ⟨by rw [HE.out]; rfl, HB8.out⟩
        · clear cp_10 cp_12
          have cp_12 : w7.cell? ⟨w.heap.size, 12, none⟩ = some (.bool (p.hasPass)) := pack_at HGp7.out 12 _ rfl
          have cp_13 : w7.cell? ⟨w.heap.size, 13, none⟩ = some (.string (p.pass)) := pack_at HGp7.out 13 _ rfl
          go_wp2_with ((with_reducible refine pk_set (w.heap.size + 1) 13 (setP (setU (qWy p) p) p) (setPy (setP (setU (qWy p) p) p) p) (.string (p.pass)) ?t23 ?x23 ?y23 HGq7.out ?a23 ?b23 ?c23 ?d23 ?e23 ?f23 ?g23 ?h23 ?i23); (case a23 => rfl); (case b23 => rfl); (case c23 => rfl); (case d23 => rfl); (case e23 => kernel_rfl); (case f23 => simp [Value.cells, willC, Value.oneCell']); (case g23 => simp [Value.cells, willC]); (case h23 => rfl))
          intro w8 hg hgr
          have HB8 := Lib.hid (grown_below HB7.out hgr HLT.out.1)
          have HGp8 := Lib.hid (row_grown HGp7.out hgr HLT.out.2)
          have HGq8 := Lib.hid hg
          clear hg hgr HB7 HGp7 HGq7
          clear cp_12 cp_13
          have cp_12 : w8.cell? ⟨w.heap.size, 12, none⟩ = some (.bool (p.hasPass)) := pack_at HGp8.out 12 _ rfl
          have cp_13 : w8.cell? ⟨w.heap.size, 13, none⟩ = some (.string (p.pass)) := pack_at HGp8.out 13 _ rfl
          clear cp_12 cp_13
          have HE : Hid (aloneQ p = setPy (setP (setU (qWy p) p) p) p) := Lib.hid (by unfold aloneQ; simp only [if_neg (show ¬ ((p.kind == 2) = true) by rw [hk]; decide), if_pos (show p.hasWill = true from hw), if_neg (show ¬ (p.hasUser = true) by rw [hu]; decide), if_pos (show p.hasPass = true from hp)]; rfl)
          go_wp2_with (first | ((with_reducible refine pk_load (w.heap.size) (p) ?x24 HGp8.out ?a24 ?b24 ?c24 ?d24); (case a24 => rfl); (case b24 => rfl); (case c24 => rfl)) | ((with_reducible refine pk_load (w.heap.size + 1) (setPy (setP (setU (qWy p) p) p) p) ?x25 HGq8.out ?a25 ?b25 ?c25 ?d25); (case a25 => rfl); (case b25 => rfl); (case c25 => rfl)))
          refine (same_t p (setPy (setP (setU (qWy p) p) p) p) (packC p) (packC (setPy (setP (setU (qWy p) p) p) p)) rfl rfl lw lp _ (HW.out.below HB8.out) (HP.out.below HB8.out) (Or.inr ⟨rfl, rfl, rfl⟩) (Or.inr ⟨rfl, rfl, rfl⟩) rfl rfl).mono ?_
          rintro e w9 ⟨rfl, hb⟩
          have HB9 := Lib.hid (ext_then' HB8.out hb)
          have HGp9 := Lib.hid (row_then HGp8.out hb)
          have HGq9 := Lib.hid (row_then HGq8.out hb)
          clear hb HB8 HGp8 HGq8
          go_wp2
          go_ret
          exact ⟨by rw [HE.out]; rfl, HB9.out⟩
      · clear cp_10 cp_14
        have cp_10 : w6.cell? ⟨w.heap.size, 10, none⟩ = some (.bool (p.hasUser)) := pack_at HGp6.out 10 _ rfl
        have cp_11 : w6.cell? ⟨w.heap.size, 11, none⟩ = some (.string (p.user)) := pack_at HGp6.out 11 _ rfl
        go_wp2_with ((with_reducible refine pk_set (w.heap.size + 1) 11 (setU (qWy p) p) (setUy (setU (qWy p) p) p) (.string (p.user)) ?t26 ?x26 ?y26 HGq6.out ?a26 ?b26 ?c26 ?d26 ?e26 ?f26 ?g26 ?h26 ?i26); (case a26 => rfl); (case b26 => rfl); (case c26 => rfl); (case d26 => rfl); (case e26 => kernel_rfl); (case f26 => simp [Value.cells, willC, Value.oneCell']); (case g26 => simp [Value.cells, willC]); (case h26 => rfl))
        intro w7 hg hgr
        have HB7 := Lib.hid (grown_below HB6.out hgr HLT.out.1)
        have HGp7 := Lib.hid (row_grown HGp6.out hgr HLT.out.2)
        have HGq7 := Lib.hid hg
        clear hg hgr HB6 HGp6 HGq6
        clear cp_10 cp_11
        have cp_10 : w7.cell? ⟨w.heap.size, 10, none⟩ = some (.bool (p.hasUser)) := pack_at HGp7.out 10 _ rfl
        have cp_11 : w7.cell? ⟨w.heap.size, 11, none⟩ = some (.string (p.user)) := pack_at HGp7.out 11 _ rfl
        clear cp_10 cp_11
        have cp_10 : w7.cell? ⟨w.heap.size, 10, none⟩ = some (.bool (p.hasUser)) := pack_at HGp7.out 10 _ rfl
        have cp_12 : w7.cell? ⟨w.heap.size, 12, none⟩ = some (.bool (p.hasPass)) := pack_at HGp7.out 12 _ rfl
        go_wp2_with ((with_reducible refine pk_set (w.heap.size + 1) 12 (setUy (setU (qWy p) p) p) (setP (setUy (setU (qWy p) p) p) p) (.bool (p.hasPass)) ?t27 ?x27 ?y27 HGq7.out ?a27 ?b27 ?c27 ?d27 ?e27 ?f27 ?g27 ?h27 ?i27); (case a27 => rfl); (case b27 => rfl); (case c27 => rfl); (case d27 => rfl); (case e27 => kernel_rfl); (case f27 => simp [Value.cells, willC, Value.oneCell']); (case g27 => simp [Value.cells, willC]); (case h27 => rfl))
        intro w8 hg hgr
        have HB8 := Lib.hid (grown_below HB7.out hgr HLT.out.1)
        have HGp8 := Lib.hid (row_grown HGp7.out hgr HLT.out.2)
        have HGq8 := Lib.hid hg
        clear hg hgr HB7 HGp7 HGq7
        clear cp_10 cp_12
        have cp_10 : w8.cell? ⟨w.heap.size, 10, none⟩ = some (.bool (p.hasUser)) := pack_at HGp8.out 10 _ rfl
        have cp_12 : w8.cell? ⟨w.heap.size, 12, none⟩ = some (.bool (p.hasPass)) := pack_at HGp8.out 12 _ rfl
        cases hp : p.hasPass
        · clear cp_10 cp_12
          have cp_12 : w8.cell? ⟨w.heap.size, 12, none⟩ = some (.bool (p.hasPass)) := pack_at HGp8.out 12 _ rfl
          have HE : Hid (aloneQ p = setP (setUy (setU (qWy p) p) p) p) := Lib.hid (by unfold aloneQ; simp only [if_neg (show ¬ ((p.kind == 2) = true) by rw [hk]; decide), if_pos (show p.hasWill = true from hw), if_pos (show p.hasUser = true from hu), if_neg (show ¬ (p.hasPass = true) by rw [hp]; decide)]; rfl)
          go_wp2_with (first | ((with_reducible refine pk_load (w.heap.size) (p) ?x28 HGp8.out ?a28 ?b28 ?c28 ?d28); (case a28 => rfl); (case b28 => rfl); (case c28 => rfl)) | ((with_reducible refine pk_load (w.heap.size + 1) (setP (setUy (setU (qWy p) p) p) p) ?x29 HGq8.out ?a29 ?b29 ?c29 ?d29); (case a29 => rfl); (case b29 => rfl); (case c29 => rfl)))
          refine (same_t p (setP (setUy (setU (qWy p) p) p) p) (packC p) (packC (setP (setUy (setU (qWy p) p) p) p)) rfl rfl lw lp _ (HW.out.below HB8.out) (HP.out.below HB8.out) (Or.inr ⟨rfl, rfl, rfl⟩) (Or.inr ⟨rfl, rfl, rfl⟩) rfl rfl).mono ?_
          rintro e w9 ⟨rfl, hb⟩
          have HB9 := Lib.hid (ext_then' HB8.out hb)
          have HGp9 := Lib.hid (row_then HGp8.out hb)
          have HGq9 := Lib.hid (row_then HGq8.out hb)
          clear hb HB8 HGp8 HGq8
          clear cp_12
          have cp_12 : w9.cell? ⟨w.heap.size, 12, none⟩ = some (.bool (p.hasPass)) := pack_at HGp9.out 12 _ rfl
          go_wp2
          go_ret
          exact ⟨by rw [HE.out]; rfl, HB9.out⟩
        · clear cp_10 cp_12
          have cp_12 : w8.cell? ⟨w.heap.size, 12, none⟩ = some (.bool (p.hasPass)) := pack_at HGp8.out 12 _ rfl
          have cp_13 : w8.cell? ⟨w.heap.size, 13, none⟩ = some (.string (p.pass)) := pack_at HGp8.out 13 _ rfl
          go_wp2_with ((with_reducible refine pk_set (w.heap.size + 1) 13 (setP (setUy (setU (qWy p) p) p) p) (setPy (setP (setUy (setU (qWy p) p) p) p) p) (.string (p.pass)) ?t30 ?x30 ?y30 HGq8.out ?a30 ?b30 ?c30 ?d30 ?e30 ?f30 ?g30 ?h30 ?i30); (case a30 => rfl); (case b30 => rfl); (case c30 => rfl); (case d30 => rfl); (case e30 => kernel_rfl); (case f30 => simp [Value.cells, willC, Value.oneCell']); (case g30 => simp [Value.cells, willC]); (case h30 => rfl))
          intro w9 hg hgr
          have HB9 := Lib.hid (grown_below HB8.out hgr HLT.out.1)
          have HGp9 := Lib.hid (row_grown HGp8.out hgr HLT.out.2)
          have HGq9 := Lib.hid hg
          clear hg hgr HB8 HGp8 HGq8
          clear cp_12 cp_13
          have cp_12 : w9.cell? ⟨w.heap.size, 12, none⟩ = some (.bool (p.hasPass)) := pack_at HGp9.out 12 _ rfl
          have cp_13 : w9.cell? ⟨w.heap.size, 13, none⟩ = some (.string (p.pass)) := pack_at HGp9.out 13 _ rfl
          clear cp_12 cp_13
          have HE : Hid (aloneQ p = setPy (setP (setUy (setU (qWy p) p) p) p) p) := Lib.hid (by unfold aloneQ; simp only [if_neg (show ¬ ((p.kind == 2) = true) by rw [hk]; decide), if_pos (show p.hasWill = true from hw), if_pos (show p.hasUser = true from hu), if_pos (show p.hasPass = true from hp)]; rfl)
          go_wp2_with (first | ((with_reducible refine pk_load (w.heap.size) (p) ?x31 HGp9.out ?a31 ?b31 ?c31 ?d31); (case a31 => rfl); (case b31 => rfl); (case c31 => rfl)) | ((with_reducible refine pk_load (w.heap.size + 1) (setPy (setP (setUy (setU (qWy p) p) p) p) p) ?x32 HGq9.out ?a32 ?b32 ?c32 ?d32); (case a32 => rfl); (case b32 => rfl); (case c32 => rfl)))
          refine (same_t p (setPy (setP (setUy (setU (qWy p) p) p) p) p) (packC p) (packC (setPy (setP (setUy (setU (qWy p) p) p) p) p)) rfl rfl lw lp _ (HW.out.below HB9.out) (HP.out.below HB9.out) (Or.inr ⟨rfl, rfl, rfl⟩) (Or.inr ⟨rfl, rfl, rfl⟩) rfl rfl).mono ?_
          rintro e w10 ⟨rfl, hb⟩
          have HB10 := Lib.hid (ext_then' HB9.out hb)
          have HGp10 := Lib.hid (row_then HGp9.out hb)
          have HGq10 := Lib.hid (row_then HGq9.out hb)
          clear hb HB9 HGp9 HGq9
          go_wp2
          go_ret
          exact ⟨by rw [HE.out]; rfl, HB10.out⟩
  · clear cp_0
    have cp_0 : w2.cell? ⟨w.heap.size, 0, none⟩ = some (.int .i64 (p.kind)) := pack_at HGp2.out 0 _ rfl
    have cp_20 : w2.cell? ⟨w.heap.size, 20, none⟩ = some (.bool (p.session)) := pack_at HGp2.out 20 _ rfl
    have cp_21 : w2.cell? ⟨w.heap.size, 21, none⟩ = some (.int .i64 (p.code)) := pack_at HGp2.out 21 _ rfl
    have cq_20 : w2.cell? ⟨w.heap.size + 1, 20, none⟩ = some (.bool (false)) := pack_at HGq2.out 20 _ rfl
    have cq_21 : w2.cell? ⟨w.heap.size + 1, 21, none⟩ = some (.int .i64 (0)) := pack_at HGq2.out 21 _ rfl
    have f20 : w2.frozen? ⟨w.heap.size + 1, 20, none⟩ = false := frozen_of_row _ _ _ _ _ HGq2.out
    have f21 : w2.frozen? ⟨w.heap.size + 1, 21, none⟩ = false := frozen_of_row _ _ _ _ _ HGq2.out
    go_wp2_with fail
    go_region
    have hgr := grown_two w2 (w.heap.size + 1) 20 21 (.bool (p.session)) (.int .i64 (p.code))
    have HGq3 : Hid (((w2.setCell ⟨w.heap.size + 1, 20, none⟩ (.bool (p.session))).setCell ⟨w.heap.size + 1, 21, none⟩ (.int .i64 (p.code))).drew.heap[w.heap.size + 1]? = some (.cells (packC (qA p)) 39 (0, 0))) := Lib.hid (row_two HGq2.out 20 21 _ _)
    have HB3 := Lib.hid (grown_below HB2.out hgr HLT.out.1)
    have HGp3 := Lib.hid (row_grown HGp2.out hgr HLT.out.2)
    generalize ((w2.setCell ⟨w.heap.size + 1, 20, none⟩ (.bool (p.session))).setCell ⟨w.heap.size + 1, 21, none⟩ (.int .i64 (p.code))).drew = w3 at *
    clear hgr f20 f21 HB2 HGp2 HGq2
    clear cp_0 cp_20 cp_21 cq_20 cq_21
    have HE : Hid (aloneQ p = qA p) := Lib.hid (by unfold aloneQ; simp only [if_pos (show (p.kind == 2) = true from hk)]; rfl)
    go_wp2_with (first | ((with_reducible refine pk_load (w.heap.size) (p) ?x33 HGp3.out ?a33 ?b33 ?c33 ?d33); (case a33 => rfl); (case b33 => rfl); (case c33 => rfl)) | ((with_reducible refine pk_load (w.heap.size + 1) (qA p) ?x34 HGq3.out ?a34 ?b34 ?c34 ?d34); (case a34 => rfl); (case b34 => rfl); (case c34 => rfl)))
    refine (same_t p (qA p) (packC p) (packC (qA p)) rfl rfl lw lp _ (HW.out.below HB3.out) (HP.out.below HB3.out) (Or.inl ⟨rfl, rfl, rfl⟩) (Or.inr ⟨rfl, rfl, rfl⟩) rfl rfl).mono ?_
    rintro e w4 ⟨rfl, hb⟩
    have HB4 := Lib.hid (ext_then' HB3.out hb)
    have HGp4 := Lib.hid (row_then HGp3.out hb)
    have HGq4 := Lib.hid (row_then HGq3.out hb)
    clear hb HB3 HGp3 HGq3
    go_wp2
    go_ret
    exact ⟨by rw [HE.out]; rfl, HB4.out⟩
end Go.Proofs.Ytnbgmpfldoaodaa
