/- control.known, Valid. -/
import Derived.Test.YtnbgmpfldoaodabControl
import Derived.Test.YtnbgmpfldoaodabNext
namespace Go.Proofs.Ytnbgmpfldoaodab
open Go.RowKit Go.Sort
set_option maxHeartbeats 2000000
set_option linter.unusedVariables false
set_option linter.unusedSimpArgs false
def knownC (v k : Int) : Int := if (saysB v k).2 = true then (if (v == 4) = true then (if (k == 15) = true then 8 else 0) else if (v == 5) = true then 0 else 2) else 2
set_option maxRecDepth 100000 in
theorem knownC_t (v k : Int) (w : World) : Calls Try.prog 36 #[.int .i64 v, .int .i64 k] w fun e w' => e = .returned (.int .i64 (knownC v k)) ∧ Below w.heap.size w w' := by
  have HB1 := Lib.hid (Below.refl w.heap.size w)
  go_enter Try.func36, Try.ntmps36
  go_wp2_with fail
  refine (says_t v k _).mono ?_
  rintro e w2 ⟨rfl, hb⟩
  have HB2 := Lib.hid (ext_then' HB1.out hb)
  clear hb HB1
  cases hs : (saysB v k).2
  · have HE : Hid (knownC v k = 2) := Lib.hid (by simp only [knownC, hs, if_true, if_false, Bool.false_eq_true])
    go_wp2
    go_ret
    exact ⟨by rw [HE.out]; rfl, HB2.out⟩
  · cases h4 : (v == 4)
    · have n4 : (v != 4) = true := by rw [bne, h4]; rfl
      cases h5 : (v == 5)
      · have n5 : (v != 5) = true := by rw [bne, h5]; rfl
        have HE : Hid (knownC v k = 2) := Lib.hid (by simp only [knownC, hs, h4, h5, if_true, if_false, Bool.false_eq_true])
        go_wp2
        go_ret
        exact ⟨by rw [HE.out]; rfl, HB2.out⟩
      · have n5 : (v != 5) = false := by rw [bne, h5]; rfl
        cases hk : (k == 15)
        · have HE : Hid (knownC v k = 0) := Lib.hid (by simp only [knownC, hs, h4, h5, if_true, if_false, Bool.false_eq_true])
          go_wp2
          go_ret
          exact ⟨by rw [HE.out]; rfl, HB2.out⟩
        · have HE : Hid (knownC v k = 0) := Lib.hid (by simp only [knownC, hs, h4, h5, if_true, if_false, Bool.false_eq_true])
          go_wp2
          go_ret
          exact ⟨by rw [HE.out]; rfl, HB2.out⟩
    · have n4 : (v != 4) = false := by rw [bne, h4]; rfl
      cases hk : (k == 15)
      · have HE : Hid (knownC v k = 0) := Lib.hid (by simp only [knownC, hs, h4, hk, if_true, if_false, Bool.false_eq_true])
        go_wp2
        go_ret
        exact ⟨by rw [HE.out]; rfl, HB2.out⟩
      · have HE : Hid (knownC v k = 8) := Lib.hid (by simp only [knownC, hs, h4, hk, if_true, if_false, Bool.false_eq_true])
        go_wp2
        go_ret
        exact ⟨by rw [HE.out]; rfl, HB2.out⟩
def conQ (p : Pk) : Pk := { zeroPk with kind := p.kind, code := p.code, props := p.props }
def kindQ (p : Pk) : Pk := { zeroPk with kind := p.kind }
def contV (v : Int) (p : Pk) (l : List Prp) : Int :=
  if (knownC v p.kind != 0) = true then knownC v p.kind
  else if (saysB v p.kind).1 = true then (if mayB p.kind p.code = true then (if sameEq p (conQ p) = true then (bytesF p.kind l).2 else 2) else 2)
  else if sameEq p (kindQ p) = true then (bytesF p.kind l).2 else 2
set_option maxRecDepth 100000 in
theorem contV_t (v : Int) (p : Pk) (lw lp : List Prp) (HT : Hid (lp ≠ [] → TopicOK)) (w : World) (hrw : RP w p.wProps.A p.wProps.n lw) (hrp : RP w p.props.A p.props.n lp) :
    Calls Try.prog 16 #[.int .i64 v, .agg (packC p)] w fun e w' => e = .returned (.int .i64 (contV v p lp)) ∧ Below w.heap.size w w' := by
  have HW := Lib.hid hrw
  have HP := Lib.hid hrp
  clear hrw hrp
  have HB1 := Lib.hid ((Below.refl w.heap.size w).alloc (Nat.le_refl _) (.cells (packC p) 35))
  have HGp1 := Lib.hid (heap_alloc_new w (.cells (packC p) 35))
  go_enter Try.func16, Try.ntmps16
  have cp_0 : (w.alloc (.cells (packC p) 35)).cell? ⟨w.heap.size, 0, none⟩ = some (.int .i64 (p.kind)) := pack_at HGp1.out 0 _ rfl
  go_wp2_with ((with_reducible refine pk_load (w.heap.size) (p) ?x1 HGp1.out ?a1 ?b1 ?c1 ?d1); (case a1 => rfl); (case b1 => rfl); (case c1 => rfl))
  refine (knownC_t v p.kind _).mono ?_
  rintro e w2 ⟨rfl, hb⟩
  have HB2 := Lib.hid (ext_then' HB1.out hb)
  have HGp2 := Lib.hid (row_then HGp1.out hb)
  clear hb HB1 HGp1
  clear cp_0
  have cp_0 : w2.cell? ⟨w.heap.size, 0, none⟩ = some (.int .i64 (p.kind)) := pack_at HGp2.out 0 _ rfl
  cases hk : (knownC v p.kind != 0)
  · have HGp2' := HGp2
    go_wp2_with (first | ((with_reducible refine pk_store w2.heap.size (kindQ p) ?x2 ?y2 _ (heap_alloc_new _ _) ?a2 ?b2 ?c2 ?d2 ?e2 ?f2); (case a2 => rfl); (case b2 => rfl); (case c2 => rfl); (case d2 => rfl); (case e2 => rfl)) | ((with_reducible refine pk_load (w.heap.size) (p) ?x3 HGp2.out ?a3 ?b3 ?c3 ?d3); (case a3 => rfl); (case b3 => rfl); (case c3 => rfl)))
    intro w3 hg hgr
    have HB3 := Lib.hid (below_store HB2.out hgr)
    have HGp3 := Lib.hid (row_store HGp2.out hgr)
    have HGq3 := Lib.hid hg
    clear hg hgr HB2 HGp2
    clear cp_0
    have cp_0 : w3.cell? ⟨w.heap.size, 0, none⟩ = some (.int .i64 (p.kind)) := pack_at HGp3.out 0 _ rfl
    have cp_21 : w3.cell? ⟨w.heap.size, 21, none⟩ = some (.int .i64 (p.code)) := pack_at HGp3.out 21 _ rfl
    have cp_24 : w3.cell? ⟨w.heap.size, 24, none⟩ = some (.slice p.props.A p.props.n p.props.c) := pack_at HGp3.out 24 _ rfl
    go_wp2_with (first | ((with_reducible refine pk_load (w.heap.size) (p) ?x4 HGp3.out ?a4 ?b4 ?c4 ?d4); (case a4 => rfl); (case b4 => rfl); (case c4 => rfl)) | ((with_reducible refine pk_load (w2.heap.size) (kindQ p) ?x5 HGq3.out ?a5 ?b5 ?c5 ?d5); (case a5 => rfl); (case b5 => rfl); (case c5 => rfl)))
    refine (says_t v p.kind _).mono ?_
    rintro e w4 ⟨rfl, hb⟩
    have HB4 := Lib.hid (ext_then' HB3.out hb)
    have HGp4 := Lib.hid (row_then HGp3.out hb)
    have HGq4 := Lib.hid (row_then HGq3.out hb)
    clear hb HB3 HGp3 HGq3
    clear cp_0 cp_21 cp_24
    have cp_0 : w4.cell? ⟨w.heap.size, 0, none⟩ = some (.int .i64 (p.kind)) := pack_at HGp4.out 0 _ rfl
    have cp_21 : w4.cell? ⟨w.heap.size, 21, none⟩ = some (.int .i64 (p.code)) := pack_at HGp4.out 21 _ rfl
    have cp_24 : w4.cell? ⟨w.heap.size, 24, none⟩ = some (.slice p.props.A p.props.n p.props.c) := pack_at HGp4.out 24 _ rfl
    cases hs : (saysB v p.kind).1
    · go_wp2_with (first | ((with_reducible refine pk_load (w.heap.size) (p) ?x6 HGp4.out ?a6 ?b6 ?c6 ?d6); (case a6 => rfl); (case b6 => rfl); (case c6 => rfl)) | ((with_reducible refine pk_load (w2.heap.size) (kindQ p) ?x7 HGq4.out ?a7 ?b7 ?c7 ?d7); (case a7 => rfl); (case b7 => rfl); (case c7 => rfl)))
      refine (same_t p (kindQ p) (packC p) (packC (kindQ p)) rfl rfl lw lp _ (HW.out.below HB4.out) (HP.out.below HB4.out) (Or.inl ⟨rfl, rfl, rfl⟩) (Or.inl ⟨rfl, rfl, rfl⟩) rfl rfl).mono ?_
      rintro e w5 ⟨rfl, hb⟩
      have HB5 := Lib.hid (ext_then' HB4.out hb)
      have HGp5 := Lib.hid (row_then HGp4.out hb)
      have HGq5 := Lib.hid (row_then HGq4.out hb)
      clear hb HB4 HGp4 HGq4
      clear cp_0 cp_21 cp_24
      have cp_0 : w5.cell? ⟨w.heap.size, 0, none⟩ = some (.int .i64 (p.kind)) := pack_at HGp5.out 0 _ rfl
      have cp_21 : w5.cell? ⟨w.heap.size, 21, none⟩ = some (.int .i64 (p.code)) := pack_at HGp5.out 21 _ rfl
      have cp_24 : w5.cell? ⟨w.heap.size, 24, none⟩ = some (.slice p.props.A p.props.n p.props.c) := pack_at HGp5.out 24 _ rfl
      cases hq : sameEq p (kindQ p)
      · have HE : Hid (contV v p lp = 2) := Lib.hid (by simp only [contV, hk, hs, hq, if_true, if_false, Bool.false_eq_true])
        go_wp2
        go_ret
        exact ⟨by rw [HE.out]; rfl, HB5.out⟩
      · have HE : Hid (contV v p lp = (bytesF p.kind lp).2) := Lib.hid (by simp only [contV, hk, hs, hq, if_true, if_false, Bool.false_eq_true])
        go_wp2_with (first | ((with_reducible refine pk_load (w.heap.size) (p) ?x8 HGp5.out ?a8 ?b8 ?c8 ?d8); (case a8 => rfl); (case b8 => rfl); (case c8 => rfl)) | ((with_reducible refine pk_load (w2.heap.size) (kindQ p) ?x9 HGq5.out ?a9 ?b9 ?c9 ?d9); (case a9 => rfl); (case b9 => rfl); (case c9 => rfl)))
        refine (pvalid_t p.kind p.props.A p.props.n p.props.c lp HT _ (HP.out.below HB5.out)).mono ?_
        rintro e w6 ⟨rfl, hb⟩
        have HB6 := Lib.hid (ext_then' HB5.out hb)
        have HGp6 := Lib.hid (row_then HGp5.out hb)
        have HGq6 := Lib.hid (row_then HGq5.out hb)
        clear hb HB5 HGp5 HGq5
        clear cp_0 cp_21 cp_24
        have cp_0 : w6.cell? ⟨w.heap.size, 0, none⟩ = some (.int .i64 (p.kind)) := pack_at HGp6.out 0 _ rfl
        have cp_21 : w6.cell? ⟨w.heap.size, 21, none⟩ = some (.int .i64 (p.code)) := pack_at HGp6.out 21 _ rfl
        have cp_24 : w6.cell? ⟨w.heap.size, 24, none⟩ = some (.slice p.props.A p.props.n p.props.c) := pack_at HGp6.out 24 _ rfl
        go_wp2
        go_ret
        exact ⟨by rw [HE.out]; rfl, HB6.out⟩
    · go_wp2_with (first | ((with_reducible refine pk_load (w.heap.size) (p) ?x10 HGp4.out ?a10 ?b10 ?c10 ?d10); (case a10 => rfl); (case b10 => rfl); (case c10 => rfl)) | ((with_reducible refine pk_load (w2.heap.size) (kindQ p) ?x11 HGq4.out ?a11 ?b11 ?c11 ?d11); (case a11 => rfl); (case b11 => rfl); (case c11 => rfl)))
      refine (may_t p.kind p.code _).mono ?_
      rintro e w5 ⟨rfl, hb⟩
      have HB5 := Lib.hid (ext_then' HB4.out hb)
      have HGp5 := Lib.hid (row_then HGp4.out hb)
      have HGq5 := Lib.hid (row_then HGq4.out hb)
      clear hb HB4 HGp4 HGq4
      clear cp_0 cp_21 cp_24
      have cp_0 : w5.cell? ⟨w.heap.size, 0, none⟩ = some (.int .i64 (p.kind)) := pack_at HGp5.out 0 _ rfl
      have cp_21 : w5.cell? ⟨w.heap.size, 21, none⟩ = some (.int .i64 (p.code)) := pack_at HGp5.out 21 _ rfl
      have cp_24 : w5.cell? ⟨w.heap.size, 24, none⟩ = some (.slice p.props.A p.props.n p.props.c) := pack_at HGp5.out 24 _ rfl
      have cq_21 : w5.cell? ⟨w2.heap.size, 21, none⟩ = some (.int .i64 (0)) := pack_at HGq5.out 21 _ rfl
      have cq_24 : w5.cell? ⟨w2.heap.size, 24, none⟩ = some (.slice zeroSl.A zeroSl.n zeroSl.c) := pack_at HGq5.out 24 _ rfl
      cases hm : mayB p.kind p.code
      · have HE : Hid (contV v p lp = 2) := Lib.hid (by simp only [contV, hk, hs, hm, if_true, if_false, Bool.false_eq_true])
        go_wp2
        go_ret
        exact ⟨by rw [HE.out]; rfl, HB5.out⟩
      · have f21 : w5.frozen? ⟨w2.heap.size, 21, none⟩ = false := frozen_of_row _ _ _ _ _ HGq5.out
        have f24 : w5.frozen? ⟨w2.heap.size, 24, none⟩ = false := frozen_of_row _ _ _ _ _ HGq5.out
        go_wp2_with fail
        go_region
        have hgr := grown_two w5 (w2.heap.size) 21 24 (.int .i64 p.code) (.slice p.props.A p.props.n p.props.c)
        have HGq6 : Hid (((w5.setCell ⟨w2.heap.size, 21, none⟩ (.int .i64 p.code)).setCell ⟨w2.heap.size, 24, none⟩ (.slice p.props.A p.props.n p.props.c)).drew.heap[w2.heap.size]? = some (.cells (packC (conQ p)) 35 (0, 0))) := Lib.hid (row_two HGq5.out 21 24 _ _)
        have HB6 := Lib.hid (grown_below HB5.out hgr (Nat.le_of_lt (Array.getElem?_eq_some_iff.1 HGp2'.out).1))
        have HGp6 := Lib.hid (row_grown HGp5.out hgr (Nat.ne_of_lt (Array.getElem?_eq_some_iff.1 HGp2'.out).1))
        generalize ((w5.setCell ⟨w2.heap.size, 21, none⟩ (.int .i64 p.code)).setCell ⟨w2.heap.size, 24, none⟩ (.slice p.props.A p.props.n p.props.c)).drew = w6 at *
        clear hgr f21 f24 HB5 HGp5 HGq5
        clear cp_0 cp_21 cp_24 cq_21 cq_24
        have cp_0 : w6.cell? ⟨w.heap.size, 0, none⟩ = some (.int .i64 (p.kind)) := pack_at HGp6.out 0 _ rfl
        have cp_24 : w6.cell? ⟨w.heap.size, 24, none⟩ = some (.slice p.props.A p.props.n p.props.c) := pack_at HGp6.out 24 _ rfl
        go_wp2_with (first | ((with_reducible refine pk_load (w.heap.size) (p) ?x12 HGp6.out ?a12 ?b12 ?c12 ?d12); (case a12 => rfl); (case b12 => rfl); (case c12 => rfl)) | ((with_reducible refine pk_load (w2.heap.size) (conQ p) ?x13 HGq6.out ?a13 ?b13 ?c13 ?d13); (case a13 => rfl); (case b13 => rfl); (case c13 => rfl)))
        refine (same_t p (conQ p) (packC p) (packC (conQ p)) rfl rfl lw lp _ (HW.out.below HB6.out) (HP.out.below HB6.out) (Or.inl ⟨rfl, rfl, rfl⟩) (Or.inr ⟨rfl, rfl, rfl⟩) rfl rfl).mono ?_
        rintro e w7 ⟨rfl, hb⟩
        have HB7 := Lib.hid (ext_then' HB6.out hb)
        have HGp7 := Lib.hid (row_then HGp6.out hb)
        have HGq7 := Lib.hid (row_then HGq6.out hb)
        clear hb HB6 HGp6 HGq6
        clear cp_0 cp_24
        have cp_0 : w7.cell? ⟨w.heap.size, 0, none⟩ = some (.int .i64 (p.kind)) := pack_at HGp7.out 0 _ rfl
        have cp_24 : w7.cell? ⟨w.heap.size, 24, none⟩ = some (.slice p.props.A p.props.n p.props.c) := pack_at HGp7.out 24 _ rfl
        cases hq : sameEq p (conQ p)
        · have HE : Hid (contV v p lp = 2) := Lib.hid (by simp only [contV, hk, hs, hm, hq, if_true, if_false, Bool.false_eq_true])
          go_wp2
          go_ret
          exact ⟨by rw [HE.out]; rfl, HB7.out⟩
        · have HE : Hid (contV v p lp = (bytesF p.kind lp).2) := Lib.hid (by simp only [contV, hk, hs, hm, hq, if_true, if_false, Bool.false_eq_true])
          go_wp2_with (first | ((with_reducible refine pk_load (w.heap.size) (p) ?x14 HGp7.out ?a14 ?b14 ?c14 ?d14); (case a14 => rfl); (case b14 => rfl); (case c14 => rfl)) | ((with_reducible refine pk_load (w2.heap.size) (conQ p) ?x15 HGq7.out ?a15 ?b15 ?c15 ?d15); (case a15 => rfl); (case b15 => rfl); (case c15 => rfl)))
          refine (pvalid_t p.kind p.props.A p.props.n p.props.c lp HT _ (HP.out.below HB7.out)).mono ?_
          rintro e w8 ⟨rfl, hb⟩
          have HB8 := Lib.hid (ext_then' HB7.out hb)
          have HGp8 := Lib.hid (row_then HGp7.out hb)
          have HGq8 := Lib.hid (row_then HGq7.out hb)
          clear hb HB7 HGp7 HGq7
          clear cp_0 cp_24
          have cp_0 : w8.cell? ⟨w.heap.size, 0, none⟩ = some (.int .i64 (p.kind)) := pack_at HGp8.out 0 _ rfl
          have cp_24 : w8.cell? ⟨w.heap.size, 24, none⟩ = some (.slice p.props.A p.props.n p.props.c) := pack_at HGp8.out 24 _ rfl
          go_wp2
          go_ret
          exact ⟨by rw [HE.out]; rfl, HB8.out⟩
  · have HE : Hid (contV v p lp = knownC v p.kind) := Lib.hid (by simp only [contV, hk, if_true, if_false, Bool.false_eq_true])
    go_wp2
    go_ret
    exact ⟨by rw [HE.out]; rfl, HB2.out⟩
end Go.Proofs.Ytnbgmpfldoaodab
