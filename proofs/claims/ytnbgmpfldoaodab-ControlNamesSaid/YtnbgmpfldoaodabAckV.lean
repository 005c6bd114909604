/- ack.Valid. -/
import Derived.Test.YtnbgmpfldoaodabBase
namespace Go.Proofs.Ytnbgmpfldoaodab
open Go.RowKit Go.Sort
set_option maxHeartbeats 2000000
set_option linter.unusedVariables false
set_option linter.unusedSimpArgs false
def knownA (v k : Int) : Bool := (v == 4 || v == 5) && (decide (4 ≤ k) && decide (k ≤ 7))
theorem knownA_t (v k : Int) (w : World) : Calls Try.prog 22 #[.int .i64 v, .int .i64 k] w fun e w' => e = .returned (.bool (knownA v k)) ∧ w' = w := by
  unfold knownA
  cases h4 : (v == 4) <;> cases h5 : (v == 5) <;> cases hk : decide (4 ≤ k) <;> cases hl : decide (k ≤ 7)
  all_goals
    go_enter Try.func22, Try.ntmps22
    go_wp2
    go_ret
    exact ⟨rfl, rfl⟩
def ackQ (p : Pk) : Pk := { zeroPk with kind := p.kind, id := p.id, code := p.code, props := p.props }
def ackT (p : Pk) (l : List Prp) : Int := if sameEq p (ackQ p) = true then (bytesF p.kind l).2 else 2
def ackV (v : Int) (p : Pk) (l : List Prp) : Int :=
  if knownA v p.kind = true then
    (if decide (p.id ≤ 0) = true then 2 else if decide (65536 ≤ p.id) = true then 2 else
      if mayB p.kind p.code = true then (if (v == 4) = true then (if (p.code != 0) = true then 2 else if ((p.props.n : Int) != 0) = true then 2 else ackT p l) else ackT p l) else 2)
  else 2
set_option maxRecDepth 100000 in
theorem ackV_t (v : Int) (p : Pk) (cs : Array Value) (hcs : cs = packC p) (lw lp : List Prp) (HT : Hid (lp ≠ [] → TopicOK)) (w : World) (hrw : RP w p.wProps.A p.wProps.n lw) (hrp : RP w p.props.A p.props.n lp) :
    Calls Try.prog 11 #[.int .i64 v, .agg cs] w fun e w' => e = .returned (.int .i64 (ackV v p lp)) ∧ Below w.heap.size w w' := by
  have HW := Lib.hid hrw
  have HP := Lib.hid hrp
  have HCS := Lib.hid hcs
  clear hrw hrp
  have c0 : cs[0]? = some (.int .i64 p.kind) := by rw [hcs]; rfl
  have c4 : cs[4]? = some (.int .i64 p.id) := by rw [hcs]; rfl
  have c21 : cs[21]? = some (.int .i64 p.code) := by rw [hcs]; rfl
  clear hcs
  go_enter Try.func11, Try.ntmps11
  go_wp2_with fail
  refine (knownA_t v p.kind _).mono ?_
  rintro e w1 ⟨rfl, rfl⟩
  cases hk : knownA v p.kind
  · have HE : Hid (ackV v p lp = 2) := Lib.hid (by simp only [ackV, ackT, hk, if_true, if_false, Bool.false_eq_true])
    go_wp2
    go_ret
    exact ⟨by rw [HE.out]; rfl, (Below.refl _ _).alloc (Nat.le_refl _) _⟩
  · cases hi : decide (p.id ≤ 0)
    · cases hj : decide (65536 ≤ p.id)
      · go_wp2_with fail
        refine (may_t p.kind p.code _).mono ?_
        rintro e w2 ⟨rfl, hb⟩
        have HB2 := Lib.hid (below_then ((Below.refl _ _).alloc (Nat.le_refl _) _) (by simp) hb)
        have HG2 : Hid (w2.heap[w.heap.size]? = some (.cells (packC p) 35 (0, 0))) := Lib.hid (row_then (by rw [← HCS.out]; exact heap_alloc_new _ _) hb)
        clear hb c0 c4 c21
        have c0 : w2.cell? ⟨w.heap.size, 0, none⟩ = some (.int .i64 p.kind) := pack_at HG2.out 0 _ rfl
        have c4 : w2.cell? ⟨w.heap.size, 4, none⟩ = some (.int .i64 p.id) := pack_at HG2.out 4 _ rfl
        have c21 : w2.cell? ⟨w.heap.size, 21, none⟩ = some (.int .i64 p.code) := pack_at HG2.out 21 _ rfl
        have c24 : w2.cell? ⟨w.heap.size, 24, none⟩ = some (.slice p.props.A p.props.n p.props.c) := pack_at HG2.out 24 _ rfl
        cases hm : mayB p.kind p.code
        · have HE : Hid (ackV v p lp = 2) := Lib.hid (by simp only [ackV, ackT, hk, hi, hj, hm, if_true, if_false, Bool.false_eq_true])
          go_wp2
          go_ret
          exact ⟨by rw [HE.out]; rfl, HB2.out⟩
        · cases hv : (v == 4)
          · go_wp2_with ((with_reducible refine pack_load w.heap.size p (.tmp 3) HG2.out ?a1 ?b1 ?c1 ?d1); (case a1 => rfl); (case b1 => rfl); (case c1 => rfl))
            refine (same_t p (ackQ p) (packC p) (packC (ackQ p)) rfl rfl lw lp _ (HW.out.below HB2.out) (HP.out.below HB2.out) (Or.inl ⟨rfl, rfl, rfl⟩) (Or.inr ⟨rfl, rfl, rfl⟩) rfl rfl).mono ?_
            rintro e w3 ⟨rfl, hb⟩
            have HB3 := Lib.hid (ext_then' HB2.out hb)
            have HG3 := Lib.hid (row_then HG2.out hb)
            clear hb HG2 HB2 c0 c4 c21 c24
            have c0 : w3.cell? ⟨w.heap.size, 0, none⟩ = some (.int .i64 p.kind) := pack_at HG3.out 0 _ rfl
            have c24 : w3.cell? ⟨w.heap.size, 24, none⟩ = some (.slice p.props.A p.props.n p.props.c) := pack_at HG3.out 24 _ rfl
            cases hs : sameEq p (ackQ p)
            · have HE : Hid (ackV v p lp = 2) := Lib.hid (by simp only [ackV, ackT, hk, hi, hj, hm, hv, hs, if_true, if_false, Bool.false_eq_true])
              go_wp2
              go_ret
              exact ⟨by rw [HE.out]; rfl, HB3.out⟩
            · have HE : Hid (ackV v p lp = (bytesF p.kind lp).2) := Lib.hid (by simp only [ackV, ackT, hk, hi, hj, hm, hv, hs, if_true, if_false, Bool.false_eq_true])
              go_wp2_with fail
              refine (pvalid_t p.kind p.props.A p.props.n p.props.c lp HT _ (HP.out.below HB3.out)).mono ?_
              rintro e w4 ⟨rfl, hb⟩
              have HB4 := Lib.hid (ext_then' HB3.out hb)
              clear hb HB3 HG3 c0 c24
              go_wp2
              go_ret
              exact ⟨by rw [HE.out]; rfl, HB4.out⟩
          · cases hc : (p.code != 0)
            · cases hn : ((p.props.n : Int) != 0)
              · go_wp2_with ((with_reducible refine pack_load w.heap.size p (.tmp 3) HG2.out ?a2 ?b2 ?c2 ?d2); (case a2 => rfl); (case b2 => rfl); (case c2 => rfl))
                refine (same_t p (ackQ p) (packC p) (packC (ackQ p)) rfl rfl lw lp _ (HW.out.below HB2.out) (HP.out.below HB2.out) (Or.inl ⟨rfl, rfl, rfl⟩) (Or.inr ⟨rfl, rfl, rfl⟩) rfl rfl).mono ?_
                rintro e w3 ⟨rfl, hb⟩
                have HB3 := Lib.hid (ext_then' HB2.out hb)
                have HG3 := Lib.hid (row_then HG2.out hb)
                clear hb HG2 HB2 c0 c4 c21 c24
                have c0 : w3.cell? ⟨w.heap.size, 0, none⟩ = some (.int .i64 p.kind) := pack_at HG3.out 0 _ rfl
                have c24 : w3.cell? ⟨w.heap.size, 24, none⟩ = some (.slice p.props.A p.props.n p.props.c) := pack_at HG3.out 24 _ rfl
                cases hs : sameEq p (ackQ p)
                · have HE : Hid (ackV v p lp = 2) := Lib.hid (by simp only [ackV, ackT, hk, hi, hj, hm, hv, hc, hn, hs, if_true, if_false, Bool.false_eq_true])
                  go_wp2
                  go_ret
                  exact ⟨by rw [HE.out]; rfl, HB3.out⟩
                · have HE : Hid (ackV v p lp = (bytesF p.kind lp).2) := Lib.hid (by simp only [ackV, ackT, hk, hi, hj, hm, hv, hc, hn, hs, if_true, if_false, Bool.false_eq_true])
                  go_wp2_with fail
                  refine (pvalid_t p.kind p.props.A p.props.n p.props.c lp HT _ (HP.out.below HB3.out)).mono ?_
                  rintro e w4 ⟨rfl, hb⟩
                  have HB4 := Lib.hid (ext_then' HB3.out hb)
                  clear hb HB3 HG3 c0 c24
                  go_wp2
                  go_ret
                  exact ⟨by rw [HE.out]; rfl, HB4.out⟩
              · have HE : Hid (ackV v p lp = 2) := Lib.hid (by simp only [ackV, ackT, hk, hi, hj, hm, hv, hc, hn, if_true, if_false, Bool.false_eq_true])
                go_wp2
                go_ret
                exact ⟨by rw [HE.out]; rfl, HB2.out⟩
            · have HE : Hid (ackV v p lp = 2) := Lib.hid (by simp only [ackV, ackT, hk, hi, hj, hm, hv, hc, if_true, if_false, Bool.false_eq_true])
              go_wp2
              go_ret
              exact ⟨by rw [HE.out]; rfl, HB2.out⟩
      · have HE : Hid (ackV v p lp = 2) := Lib.hid (by simp only [ackV, ackT, hk, hi, hj, if_true, if_false, Bool.false_eq_true])
        go_wp2
        go_ret
        exact ⟨by rw [HE.out]; rfl, (Below.refl _ _).alloc (Nat.le_refl _) _⟩
    · have HE : Hid (ackV v p lp = 2) := Lib.hid (by simp only [ackV, ackT, hk, hi, if_true, if_false, Bool.false_eq_true])
      go_wp2
      go_ret
      exact ⟨by rw [HE.out]; rfl, (Below.refl _ _).alloc (Nat.le_refl _) _⟩
end Go.Proofs.Ytnbgmpfldoaodab
