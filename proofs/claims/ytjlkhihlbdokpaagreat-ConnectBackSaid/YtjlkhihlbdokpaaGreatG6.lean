/- ack.Valid. -/
import Derived.Test.YtjlkhihlbdokpaaGreatG4
import Derived.Test.YtjlkhihlbdokpaaGreatG5
namespace Go.Proofs.YtjlkhihlbdokpaaGreat
open Go.RowKit Go.Sort
set_option maxHeartbeats 2000000
set_option linter.unusedVariables false
set_option linter.unusedSimpArgs false
def knownA (v k : Int) : Bool := (v == 4 || v == 5) && (decide (4 ≤ k) && decide (k ≤ 7))
theorem knownA_t (v k : Int) (w : World) : Calls Tryz.prog 71 #[.int .i64 v, .int .i64 k] w fun e w' => e = .returned (.bool (knownA v k)) ∧ w' = w := by
  unfold knownA
  cases h4 : (v == 4) <;> cases h5 : (v == 5) <;> cases hk : decide (4 ≤ k) <;> cases hl : decide (k ≤ 7)
  all_goals
    go_enter Tryz.func71, Tryz.ntmps71
    go_wp2
    go_ret
    exact ⟨rfl, rfl⟩
def ackQ (p : Pk) : Pk := { zeroPk with kind := p.kind, id := p.id, code := p.code, props := p.props }
def ackT (p : Pk) (l : List Prp) : Int := if sameEq p (ackQ p) = true then (bytesF p.kind l).2 else 2
def ackV (v : Int) (p : Pk) (l : List Prp) : Int :=
  if knownA v p.kind = true then
    (if decide (p.id ≤ 0) = true then 2 else if decide (65536 ≤ p.id) = true then 2 else
      if mayB p.kind p.code = true then (if (v == 4) = true then (if (p.code != 0) = true then 2 else if ((p.props.n : Int) != 0) = true then 2 else ackT p l) else ackT p l) else 2)
  else 2
set_option maxRecDepth 100000 in
theorem ackV_t (v : Int) (p : Pk) (cs : Array Value) (hcs : cs = packC p) (lw lp : List Prp) (HT : Hid (lp ≠ [] → TopicOK)) (w : World) (hrw : RP w p.wProps.A p.wProps.n lw) (hrp : RP w p.props.A p.props.n lp) :
    Calls Tryz.prog 27 #[.int .i64 v, .agg cs] w fun e w' => e = .returned (.int .i64 (ackV v p lp)) ∧ Below w.heap.size w w' := by
  have HW := Lib.hid hrw
  have HP := Lib.hid hrp
  have HCS := Lib.hid hcs
  clear hrw hrp
  have c0 : cs[0]? = some (.int .i64 p.kind) := by rw [hcs]; rfl
  have c4 : cs[4]? = some (.int .i64 p.id) := by rw [hcs]; rfl
  have c21 : cs[21]? = some (.int .i64 p.code) := by rw [hcs]; rfl
  clear hcs
  go_enter Tryz.func27, Tryz.ntmps27
  go_wp2_with fail
  refine (knownA_t v p.kind _).mono ?_
  rintro e w1 ⟨rfl, rfl⟩
  cases hk : knownA v p.kind
  · have HE : Hid (ackV v p lp = 2) := Lib.hid (by simp only [ackV, ackT, hk, if_true, if_false, Bool.false_eq_true])
    go_wp2
    go_ret
    exact ⟨by rw [HE.out]; rfl, (Below.refl _ _).alloc (Nat.le_refl _) _⟩
  · cases hi : decide (p.id ≤ 0)
    · cases hj : decide (65536 ≤ p.id)
      · go_wp2_with fail
        refine (may_t p.kind p.code _).mono ?_
        rintro e w2 ⟨rfl, hb⟩
        have HB2 := Lib.hid (below_then ((Below.refl _ _).alloc (Nat.le_refl _) _) (by simp) hb)
        have HG2 : Hid (w2.heap[w.heap.size]? = some (.cells (packC p) 28 (0, 0))) := Lib.hid (row_then (by rw [← HCS.out]; exact heap_alloc_new _ _) hb)
        clear hb c0 c4 c21
        have c0 : w2.cell? ⟨w.heap.size, 0, none⟩ = some (.int .i64 p.kind) := pack_at HG2.out 0 _ rfl
        have c4 : w2.cell? ⟨w.heap.size, 4, none⟩ = some (.int .i64 p.id) := pack_at HG2.out 4 _ rfl
        have c21 : w2.cell? ⟨w.heap.size, 21, none⟩ = some (.int .i64 p.code) := pack_at HG2.out 21 _ rfl
        have c24 : w2.cell? ⟨w.heap.size, 24, none⟩ = some (.slice p.props.A p.props.n p.props.c) := pack_at HG2.out 24 _ rfl
        cases hm : mayB p.kind p.code
        · have HE : Hid (ackV v p lp = 2) := Lib.hid (by simp only [ackV, ackT, hk, hi, hj, hm, if_true, if_false, Bool.false_eq_true])
          go_wp2
          go_ret
          exact ⟨by rw [HE.out]; rfl, HB2.out⟩
        · cases hv : (v == 4)
          · go_wp2_with ((with_reducible refine pack_load w.heap.size p (.tmp 3) HG2.out ?a1 ?b1 ?c1 ?d1); (case a1 => rfl); (case b1 => rfl); (case c1 => rfl))
            refine (same_t p (ackQ p) (packC p) (packC (ackQ p)) rfl rfl lw lp _ (HW.out.below HB2.out) (HP.out.below HB2.out) (Or.inl ⟨rfl, rfl, rfl⟩) (Or.inr ⟨rfl, rfl, rfl⟩) rfl rfl).mono ?_
            rintro e w3 ⟨rfl, hb⟩
            have HB3 := Lib.hid (ext_then' HB2.out hb)
            have HG3 := Lib.hid (row_then HG2.out hb)
            clear hb HG2 HB2 c0 c4 c21 c24
            have c0 : w3.cell? ⟨w.heap.size, 0, none⟩ = some (.int .i64 p.kind) := pack_at HG3.out 0 _ rfl
            have c24 : w3.cell? ⟨w.heap.size, 24, none⟩ = some (.slice p.props.A p.props.n p.props.c) := pack_at HG3.out 24 _ rfl
            cases hs : sameEq p (ackQ p)
            · have HE : Hid (ackV v p lp = 2) := Lib.hid (by simp only [ackV, ackT, hk, hi, hj, hm, hv, hs, if_true, if_false, Bool.false_eq_true])
              go_wp2
              go_ret
              exact ⟨by rw [HE.out]; rfl, HB3.out⟩
            · have HE : Hid (ackV v p lp = (bytesF p.kind lp).2) := Lib.hid (by simp only [ackV, ackT, hk, hi, hj, hm, hv, hs, if_true, if_false, Bool.false_eq_true])
              go_wp2_with fail
              refine (pvalid_t p.kind p.props.A p.props.n p.props.c lp HT _ (HP.out.below HB3.out)).mono ?_
              rintro e w4 ⟨rfl, hb⟩
              have HB4 := Lib.hid (ext_then' HB3.out hb)
              clear hb HB3 HG3 c0 c24
              go_wp2
              go_ret
              exact ⟨by rw [HE.out]; rfl, HB4.out⟩
          · cases hc : (p.code != 0)
            · cases hn : ((p.props.n : Int) != 0)
              · go_wp2_with ((with_reducible refine pack_load w.heap.size p (.tmp 3) HG2.out ?a2 ?b2 ?c2 ?d2); (case a2 => rfl); (case b2 => rfl); (case c2 => rfl))
                refine (same_t p (ackQ p) (packC p) (packC (ackQ p)) rfl rfl lw lp _ (HW.out.below HB2.out) (HP.out.below HB2.out) (Or.inl ⟨rfl, rfl, rfl⟩) (Or.inr ⟨rfl, rfl, rfl⟩) rfl rfl).mono ?_
                rintro e w3 ⟨rfl, hb⟩
                have HB3 := Lib.hid (ext_then' HB2.out hb)
                have HG3 := Lib.hid (row_then HG2.out hb)
                clear hb HG2 HB2 c0 c4 c21 c24
                have c0 : w3.cell? ⟨w.heap.size, 0, none⟩ = some (.int .i64 p.kind) := pack_at HG3.out 0 _ rfl
                have c24 : w3.cell? ⟨w.heap.size, 24, none⟩ = some (.slice p.props.A p.props.n p.props.c) := pack_at HG3.out 24 _ rfl
                cases hs : sameEq p (ackQ p)
                · have HE : Hid (ackV v p lp = 2) := Lib.hid (by simp only [ackV, ackT, hk, hi, hj, hm, hv, hc, hn, hs, if_true, if_false, Bool.false_eq_true])
                  go_wp2
                  go_ret
                  exact ⟨by rw [HE.out]; rfl, HB3.out⟩
                · have HE : Hid (ackV v p lp = (bytesF p.kind lp).2) := Lib.hid (by simp only [ackV, ackT, hk, hi, hj, hm, hv, hc, hn, hs, if_true, if_false, Bool.false_eq_true])
                  go_wp2_with fail
                  refine (pvalid_t p.kind p.props.A p.props.n p.props.c lp HT _ (HP.out.below HB3.out)).mono ?_
                  rintro e w4 ⟨rfl, hb⟩
                  have HB4 := Lib.hid (ext_then' HB3.out hb)
                  clear hb HB3 HG3 c0 c24
                  go_wp2
                  go_ret
                  exact ⟨by rw [HE.out]; rfl, HB4.out⟩
              · have HE : Hid (ackV v p lp = 2) := Lib.hid (by simp only [ackV, ackT, hk, hi, hj, hm, hv, hc, hn, if_true, if_false, Bool.false_eq_true])
                go_wp2
                go_ret
                exact ⟨by rw [HE.out]; rfl, HB2.out⟩
            · have HE : Hid (ackV v p lp = 2) := Lib.hid (by simp only [ackV, ackT, hk, hi, hj, hm, hv, hc, if_true, if_false, Bool.false_eq_true])
              go_wp2
              go_ret
              exact ⟨by rw [HE.out]; rfl, HB2.out⟩
      · have HE : Hid (ackV v p lp = 2) := Lib.hid (by simp only [ackV, ackT, hk, hi, hj, if_true, if_false, Bool.false_eq_true])
        go_wp2
        go_ret
        exact ⟨by rw [HE.out]; rfl, (Below.refl _ _).alloc (Nat.le_refl _) _⟩
    · have HE : Hid (ackV v p lp = 2) := Lib.hid (by simp only [ackV, ackT, hk, hi, if_true, if_false, Bool.false_eq_true])
      go_wp2
      go_ret
      exact ⟨by rw [HE.out]; rfl, (Below.refl _ _).alloc (Nat.le_refl _) _⟩
end Go.Proofs.YtjlkhihlbdokpaaGreat
/- ack.Body. -/
namespace Go.Proofs.YtjlkhihlbdokpaaGreat
open Go.RowKit Go.Sort
set_option maxHeartbeats 2000000
set_option linter.unusedVariables false
set_option linter.unusedSimpArgs false
theorem ackV_zero {v : Int} {p : Pk} {l : List Prp} (h : (ackV v p l != 0) = false) : 0 < p.id ∧ p.id < 65536 ∧ mayB p.kind p.code = true ∧ (bytesF p.kind l).2 = 0 ∧ knownA v p.kind = true ∧ sameEq p (ackQ p) = true ∧ ((v == 4) = true → p.code = 0 ∧ p.props.n = 0) := by
  have h0 : ackV v p l = 0 := by simpa using h
  unfold ackV ackT at h0
  repeat' split at h0
  all_goals simp_all
  all_goals omega
def ackB (v : Int) (p : Pk) (l : List Prp) : ByteArray × Int :=
  if (ackV v p l != 0) = true then (⟨#[]⟩, ackV v p l)
  else if (p.code != 0) = true then (if ((p.props.n : Int) != 0) = true then ((be2 p.id ++ be1 p.code) ++ (bytesF p.kind l).1, 0) else (be2 p.id ++ be1 p.code, 0))
  else if ((p.props.n : Int) != 0) = true then ((be2 p.id ++ be1 p.code) ++ (bytesF p.kind l).1, 0) else (be2 p.id, 0)
set_option maxRecDepth 100000 in
theorem ackB_t (v : Int) (p : Pk) (lw lp : List Prp) (HT : Hid (lp ≠ [] → TopicOK)) (w : World) (hrw : RP w p.wProps.A p.wProps.n lw) (hrp : RP w p.props.A p.props.n lp) :
    Calls Tryz.prog 20 #[.int .i64 v, .agg (packC p)] w fun e w' => e = .returned (.tuple #[.string (ackB v p lp).1, .int .i64 (ackB v p lp).2]) ∧ Below w.heap.size w w' := by
  have HW := Lib.hid hrw
  have HP := Lib.hid hrp
  have HB1 := Lib.hid ((Below.refl w.heap.size w).alloc (Nat.le_refl _) (.cells (packC p) 28))
  have HG1 := Lib.hid (heap_alloc_new w (.cells (packC p) 28))
  clear hrw hrp
  go_enter Tryz.func20, Tryz.ntmps20
  go_wp2_with ((with_reducible refine pack_load w.heap.size p (.tmp 3) HG1.out ?a1 ?b1 ?c1 ?d1); (case a1 => rfl); (case b1 => rfl); (case c1 => rfl))
  refine (ackV_t v p (packC p) rfl lw lp HT _ (HW.out.below HB1.out) (HP.out.below HB1.out)).mono ?_
  rintro e w2 ⟨rfl, hb⟩
  have HB2 := Lib.hid (ext_then' HB1.out hb)
  have HG2 := Lib.hid (row_then HG1.out hb)
  clear hb HG1 HB1
  cases he : (ackV v p lp != 0)
  rotate_left
  · have HE : Hid (ackB v p lp = (⟨#[]⟩, ackV v p lp)) := Lib.hid (by simp only [ackB, he, if_true])
    go_wp2
    go_ret2
    exact ⟨by rw [HE.out]; rfl, HB2.out⟩
  obtain ⟨hid0, hid1, hmay, -⟩ := ackV_zero he
  obtain ⟨hx0, hx1⟩ := mayB_range' hmay
  clear hmay
  have hz2 : (be2 p.id).size = 2 := by simp [be2, strOfNums_size]
  have hz1 : (be1 p.code).size = 1 := by simp [be1, strOfNums_size]
  have hz3 := bytesF_size p.kind lp
  have c0 : w2.cell? ⟨w.heap.size, 0, none⟩ = some (.int .i64 p.kind) := pack_at HG2.out 0 _ rfl
  have c4 : w2.cell? ⟨w.heap.size, 4, none⟩ = some (.int .i64 p.id) := pack_at HG2.out 4 _ rfl
  have c21 : w2.cell? ⟨w.heap.size, 21, none⟩ = some (.int .i64 p.code) := pack_at HG2.out 21 _ rfl
  have c24 : w2.cell? ⟨w.heap.size, 24, none⟩ = some (.slice p.props.A p.props.n p.props.c) := pack_at HG2.out 24 _ rfl
  go_wp2_with fail
  refine (put2_t p.id _ (by omega) (by omega)).mono ?_
  rintro e w3 ⟨rfl, hb⟩
  have HB3 := Lib.hid (ext_then' HB2.out hb)
  have HG3 := Lib.hid (row_then HG2.out hb)
  clear hb HG2 HB2 c0 c4 c21 c24
  have c0 : w3.cell? ⟨w.heap.size, 0, none⟩ = some (.int .i64 p.kind) := pack_at HG3.out 0 _ rfl
  have c21 : w3.cell? ⟨w.heap.size, 21, none⟩ = some (.int .i64 p.code) := pack_at HG3.out 21 _ rfl
  have c24 : w3.cell? ⟨w.heap.size, 24, none⟩ = some (.slice p.props.A p.props.n p.props.c) := pack_at HG3.out 24 _ rfl
  cases hc : (p.code != 0)
  · cases hn : ((p.props.n : Int) != 0)
    · have HE : Hid (ackB v p lp = (be2 p.id, 0)) := Lib.hid (by simp only [ackB, he, hc, hn, if_true, if_false, Bool.false_eq_true])
      go_wp2
      go_ret2
      exact ⟨by rw [HE.out]; rfl, HB3.out⟩
    · go_wp2_with fail
      refine (put1_t p.code _ (by omega) (by omega)).mono ?_
      rintro e w4 ⟨rfl, hb⟩
      have HB4 := Lib.hid (ext_then' HB3.out hb)
      have HG4 := Lib.hid (row_then HG3.out hb)
      clear hb HG3 HB3 c0 c21 c24
      have c0 : w4.cell? ⟨w.heap.size, 0, none⟩ = some (.int .i64 p.kind) := pack_at HG4.out 0 _ rfl
      have c24 : w4.cell? ⟨w.heap.size, 24, none⟩ = some (.slice p.props.A p.props.n p.props.c) := pack_at HG4.out 24 _ rfl
      have HE : Hid (ackB v p lp = ((be2 p.id ++ be1 p.code) ++ (bytesF p.kind lp).1, 0)) := Lib.hid (by simp only [ackB, he, hc, hn, if_true, if_false, Bool.false_eq_true])
      go_wp2_with fail
      refine (bytes_t p.kind p.props.A p.props.n p.props.c lp HT _ (HP.out.below HB4.out)).mono ?_
      rintro e w5 ⟨rfl, hb⟩
      have HB5 := Lib.hid (ext_then' HB4.out hb)
      clear hb HB4 HG4 c0 c24
      go_wp2
      go_ret2
      exact ⟨by rw [HE.out]; rfl, HB5.out⟩
  · go_wp2_with fail
    refine (put1_t p.code _ (by omega) (by omega)).mono ?_
    rintro e w4 ⟨rfl, hb⟩
    have HB4 := Lib.hid (ext_then' HB3.out hb)
    have HG4 := Lib.hid (row_then HG3.out hb)
    clear hb HG3 HB3 c0 c21 c24
    have c0 : w4.cell? ⟨w.heap.size, 0, none⟩ = some (.int .i64 p.kind) := pack_at HG4.out 0 _ rfl
    have c24 : w4.cell? ⟨w.heap.size, 24, none⟩ = some (.slice p.props.A p.props.n p.props.c) := pack_at HG4.out 24 _ rfl
    cases hn : ((p.props.n : Int) != 0)
    · have HE : Hid (ackB v p lp = (be2 p.id ++ be1 p.code, 0)) := Lib.hid (by simp only [ackB, he, hc, hn, if_true, if_false, Bool.false_eq_true])
      go_wp2
      go_ret2
      exact ⟨by rw [HE.out]; rfl, HB4.out⟩
    · have HE : Hid (ackB v p lp = ((be2 p.id ++ be1 p.code) ++ (bytesF p.kind lp).1, 0)) := Lib.hid (by simp only [ackB, he, hc, hn, if_true, if_false, Bool.false_eq_true])
      go_wp2_with fail
      refine (bytes_t p.kind p.props.A p.props.n p.props.c lp HT _ (HP.out.below HB4.out)).mono ?_
      rintro e w5 ⟨rfl, hb⟩
      have HB5 := Lib.hid (ext_then' HB4.out hb)
      clear hb HB4 HG4 c0 c24
      go_wp2
      go_ret2
      exact ⟨by rw [HE.out]; rfl, HB5.out⟩
end Go.Proofs.YtjlkhihlbdokpaaGreat
/- ack.rest: its walk. -/
namespace Go.Proofs.YtjlkhihlbdokpaaGreat
open Go.RowKit Go.Sort
set_option maxHeartbeats 2000000
set_option linter.unusedVariables false
set_option linter.unusedSimpArgs false
def restA (kind : Int) (c : Cu) : Int × List Prp × Cu :=
  if leftF c == 0 then (0, [], c)
  else if leftF (takeF c 1).2 == 0 then (numF c 1, [], if numF c 1 == 0 then failF (takeF c 1).2 5 else (takeF c 1).2)
  else
    (numF c 1, (preadF kind (restF (takeF c 1).2)).1,
      let c3 := (takeF (failF (takeF c 1).2 (preadF kind (restF (takeF c 1).2)).2.2) (preadF kind (restF (takeF c 1).2)).2.1).2
      if ((preadF kind (restF (takeF c 1).2)).1.length : Int) == 0 then failF c3 5 else c3)
theorem restA_ok (kind : Int) {c : Cu} (ok : CuOK c) : CuOK (restA kind c).2.2 := by
  unfold restA
  split
  · exact ok
  · split
    · simp only []; split
      · exact failF_ok (takeF_ok ok 1) 5
      · exact takeF_ok ok 1
    · simp only []; split
      · exact failF_ok (takeF_ok (failF_ok (takeF_ok ok 1) _) _) 5
      · exact takeF_ok (failF_ok (takeF_ok ok 1) _) _
def setC (p : Pk) (z : Int) : Pk := { p with code := z }
def setS (p : Pk) (s : Sl) : Pk := { p with props := s }
set_option maxRecDepth 100000 in
theorem ackrest_t (P g : Nat) (p : Pk) (c : Cu) (w : World) (h : PcAt w P g p c) (ok : CuOK c) (hp0 : p.props = nilS) (hc0 : p.code = 0) (hP : P < w.heap.size) (hg : g < w.heap.size) :
    Calls Tryz.prog 73 #[.pointer (some ⟨P, 0, none⟩), .pointer (some ⟨g, 0, none⟩)] w fun e w' =>
      e = .returned (.tuple #[]) ∧ ∃ sl, PcAt w' P g (setS (setC p (restA p.kind c).1) sl) (restA p.kind c).2.2 ∧ TwoBy P g w w' ∧ LsAt w' w.heap.size sl (restA p.kind c).2.1 := by
  have HLT := Lib.hid (⟨hP, hg⟩ : _ ∧ _)
  clear hP hg
  have HC := Lib.hid h
  have HO := Lib.hid ok
  have HR : Hid (restA p.kind c = _) := Lib.hid (by unfold restA; rfl)
  have HP0 := Lib.hid hp0
  have HC0 := Lib.hid hc0
  have k0 := pack_at h.pk 0 _ rfl
  clear h ok hp0 hc0
  go_enter Tryz.func73, Tryz.ntmps73
  go_wp2_with fail
  refine (left_t g c _ HC.out.cu HO.out).mono ?_
  rintro e w1 ⟨rfl, hc, hg⟩
  have HC1 := Lib.hid (pc_cur HC.out hc hg)
  have HT1 := Lib.hid (two_g (S := P) hg)
  clear hc hg k0
  cases hl : (leftF c == 0)
  case true =>
    have HE : Hid (restA p.kind c = (0, [], c)) := Lib.hid (HR.out.trans (if_pos hl))
    go_wp2
    refine bodyPost_ret (results_none rfl _ _ _) rfl ?_
    refine ⟨rfl, nilS, ?_, HT1.out, ?_⟩
    · rw [HE.out]; rw [show setS (setC p (0, ([] : List Prp), c).1) nilS = p from by rw [← HC0.out, ← HP0.out]; rfl]; exact HC1.out
    · rw [HE.out]; exact ls_nil _ _
  have HR1 := Lib.hid (HR.out.trans (if_neg (by rw [hl]; decide)))
  go_wp2_with fail
  refine (number_t g c 1 _ HC1.out.cu HO.out (by decide)).mono ?_
  rintro e w2 ⟨rfl, hc, hg⟩
  have HC2 := Lib.hid (pc_cur HC1.out hc hg)
  have HT2 := Lib.hid (HT1.out.trans (two_g (S := P) hg))
  have HO2 := Lib.hid (takeF_ok HO.out 1)
  obtain ⟨n0, n1⟩ : 0 ≤ numF c 1 ∧ numF c 1 < 4294967296 := getF_bd (k := 4) (Nat.le_trans (take_size HO.out 1) (by decide))
  have hnw := i64w n0 n1
  clear hc hg HR
  generalize numF c 1 = z at *
  generalize (takeF c 1).2 = c2 at *
  have HP2 : Hid (w2.heap[P]? = some (.cells (packC p) 28 (0, 0))) := Lib.hid HC2.out.pk
  go_wp2_with ((with_reducible refine pk_set P 21 (p) (setC p z) (.int .i64 z) ?t1 ?x1 ?y1 HP2.out ?a1 ?b1 ?c1 ?d1 ?e1 ?f1 ?g1 ?h1 ?i1); (case a1 => rfl); (case b1 => rfl); (case c1 => rfl); (case d1 => rfl); (case e1 => kernel_rfl); (case f1 => simp [Value.cells, Value.oneCell']); (case g1 => simp [Value.cells]); (case h1 => rfl))
  intro w3 hp3 hg3
  have HC3 := Lib.hid (pc_pk HC2.out hp3 hg3)
  have HT3 := Lib.hid (HT2.out.trans (two_S (g := g) hg3))
  clear hp3 hg3 HP2
  go_wp2_with fail
  refine (left_t g c2 _ HC3.out.cu HO2.out).mono ?_
  rintro e w4 ⟨rfl, hc, hg⟩
  have HC4 := Lib.hid (pc_cur HC3.out hc hg)
  have HT4 := Lib.hid (HT3.out.trans (two_g (S := P) hg))
  clear hc hg
  cases hl2 : (leftF c2 == 0)
  case true =>
    have HR2 := Lib.hid (HR1.out.trans (if_pos hl2))
    have k21 := pack_at HC4.out.pk 21 (.int .i64 z) rfl
    cases hz : (z == 0)
    case true =>
      go_wp2_with fail
      refine (fail_t g c2 5 _ HC4.out.cu).mono ?_
      rintro e w5 ⟨rfl, hc, hg⟩
      have HC5 := Lib.hid (pc_cur HC4.out hc hg)
      have HT5 := Lib.hid (HT4.out.trans (two_g (S := P) hg))
      clear hc hg k21
      rw [hz, if_pos rfl] at HR2
      go_wp2
      refine bodyPost_ret (results_none rfl _ _ _) rfl ?_
      refine ⟨rfl, nilS, ?_, HT5.out, ?_⟩
      · rw [HR2.out]; rw [show setS (setC p z) nilS = setC p z from by rw [← HP0.out]; rfl]; exact HC5.out
      · rw [HR2.out]; exact ls_nil _ _
    case false =>
      rw [hz, if_neg Bool.false_ne_true] at HR2
      go_wp2
      refine bodyPost_ret (results_none rfl _ _ _) rfl ?_
      refine ⟨rfl, nilS, ?_, HT4.out, ?_⟩
      · rw [HR2.out]; rw [show setS (setC p z) nilS = setC p z from by rw [← HP0.out]; rfl]; exact HC4.out
      · rw [HR2.out]; exact ls_nil _ _
  have HR3 := Lib.hid (HR1.out.trans (if_neg (by rw [hl2]; decide)))
  have k0 := pack_at HC4.out.pk 0 (.int .i64 p.kind) rfl
  have HA : Hid (PcAt w4.drew P g (setC p z) c2) := Lib.hid ⟨HC4.out.pk, HC4.out.cu, HC4.out.ne⟩
  have HTA : Hid (TwoBy P g w w4.drew) := Lib.hid ⟨HT4.out.os, HT4.out.tape, HT4.out.output, HT4.out.size, HT4.out.block⟩
  have HSZ := Lib.hid (rest_le HO2.out)
  go_wp2_with fail
  go_region_held3 (fun w' => w'.cell? ⟨P, 0, none⟩ = some (.int .i64 p.kind))
    (first
      | go_keep
      | (rw [hg5.cell_far _ (Array.getElem?_eq_some_iff.1 HA.out.pk).1 (fun e => HA.out.ne (by simpa using e))]; assumption)
      | (rw [hb6.cell (p := ⟨P, 0, none⟩) (Nat.lt_of_lt_of_le (Array.getElem?_eq_some_iff.1 HA.out.pk).1 hg5.size)]; assumption))
    (first
      | (go_at_call 113; refine (rest_t g c2 _ HA.out.cu HO2.out).mono ?_; rintro e w5 ⟨rfl, hc5, hg5⟩)
      | (go_at_call 121; refine (pread_t p.kind (restF c2) _ HSZ.out).mono ?_; rintro e w6 ⟨v, rfl, hb6, hown6, hok6⟩))
  have HC6 := Lib.hid (pc_below (pc_cur HA.out hc5 hg5) hb6)
  have HT6 := Lib.hid ((HTA.out.trans (two_g (S := P) hg5)).trans (two_below hb6))
  obtain ⟨sl, rfl, hn, hls⟩ := ls_of hown6 hok6
  have HN := Lib.hid hn
  have HLS := Lib.hid (ls_mono hls (Nat.le_trans HTA.out.size hg5.size))
  clear hc5 hg5 hb6 hown6 hok6 hls k0 HA HTA hn
  generalize hpr : preadF p.kind (restF c2) = pr at *
  obtain ⟨l, size, e⟩ := pr
  go_wp2_with fail
  refine (fail_t g c2 e _ HC6.out.cu).mono ?_
  rintro e7 w7 ⟨rfl, hc, hg⟩
  have HC7 := Lib.hid (pc_cur HC6.out hc hg)
  have HT7 := Lib.hid (HT6.out.trans (two_g (S := P) hg))
  have HLS7 := Lib.hid (ls_two HLS.out (two_g (S := P) hg) HLT.out.1 HLT.out.2)
  clear hc hg
  go_wp2_with fail
  refine (take_t g (failF c2 e) size _ HC7.out.cu (failF_ok HO2.out e)).mono ?_
  rintro e8 w8 ⟨rfl, hc, hg⟩
  have HC8 := Lib.hid (pc_cur HC7.out hc hg)
  have HT8 := Lib.hid (HT7.out.trans (two_g (S := P) hg))
  have HLS8 := Lib.hid (ls_two HLS7.out (two_g (S := P) hg) HLT.out.1 HLT.out.2)
  clear hc hg
  have HR4 : Hid (restA p.kind c = (z, l, if ((l.length : Int) == 0) = true then failF (takeF (failF c2 e) size).2 5 else (takeF (failF c2 e) size).2)) := HR3
  generalize (takeF (failF c2 e) size).2 = c8 at *
  cases hl0 : ((l.length : Int) == 0)
  case true =>
    have hn0 : ((sl.n : Int) == 0) = true := by rw [HN.out]; exact hl0
    rw [hl0, if_pos rfl] at HR4
    go_wp2_with fail
    refine (fail_t g c8 5 _ HC8.out.cu).mono ?_
    rintro e9 w9 ⟨rfl, hc, hg⟩
    have HC9 := Lib.hid (pc_cur HC8.out hc hg)
    have HT9 := Lib.hid (HT8.out.trans (two_g (S := P) hg))
    have HLS9 := Lib.hid (ls_two HLS8.out (two_g (S := P) hg) HLT.out.1 HLT.out.2)
    clear hc hg
    have HP9 : Hid (w9.heap[P]? = some (.cells (packC (setC p z)) 28 (0, 0))) := Lib.hid HC9.out.pk
    go_wp2_with ((with_reducible refine pk_set P 24 (setC p z) (setS (setC p z) sl) (.slice sl.A sl.n sl.c) ?t2 ?x2 ?y2 HP9.out ?a2 ?b2 ?c2 ?d2 ?e2 ?f2 ?g2 ?h2 ?i2); (case a2 => rfl); (case b2 => rfl); (case c2 => rfl); (case d2 => rfl); (case e2 => kernel_rfl); (case f2 => simp [Value.cells, Value.oneCell']); (case g2 => simp [Value.cells]); (case h2 => rfl))
    intro w10 hp10 hg10
    have HC10 := Lib.hid (pc_pk HC9.out hp10 hg10)
    have HT10 := Lib.hid (HT9.out.trans (two_S (g := g) hg10))
    have HLS10 := Lib.hid (ls_two HLS9.out (two_S (g := g) hg10) HLT.out.1 HLT.out.2)
    clear hp10 hg10 HP9
    go_wp2
    go_end0
    exact ⟨rfl, sl, by rw [HR4.out]; exact HC10.out, HT10.out, by rw [HR4.out]; exact HLS10.out⟩
  case false =>
    have hn0 : ((sl.n : Int) == 0) = false := by rw [HN.out]; exact hl0
    rw [hl0, if_neg Bool.false_ne_true] at HR4
    have HP9 : Hid (w8.heap[P]? = some (.cells (packC (setC p z)) 28 (0, 0))) := Lib.hid HC8.out.pk
    go_wp2_with ((with_reducible refine pk_set P 24 (setC p z) (setS (setC p z) sl) (.slice sl.A sl.n sl.c) ?t3 ?x3 ?y3 HP9.out ?a3 ?b3 ?c3 ?d3 ?e3 ?f3 ?g3 ?h3 ?i3); (case a3 => rfl); (case b3 => rfl); (case c3 => rfl); (case d3 => rfl); (case e3 => kernel_rfl); (case f3 => simp [Value.cells, Value.oneCell']); (case g3 => simp [Value.cells]); (case h3 => rfl))
    intro w10 hp10 hg10
    have HC10 := Lib.hid (pc_pk HC8.out hp10 hg10)
    have HT10 := Lib.hid (HT8.out.trans (two_S (g := g) hg10))
    have HLS10 := Lib.hid (ls_two HLS8.out (two_S (g := g) hg10) HLT.out.1 HLT.out.2)
    clear hp10 hg10 HP9
    go_wp2
    go_end0
    exact ⟨rfl, sl, by rw [HR4.out]; exact HC10.out, HT10.out, by rw [HR4.out]; exact HLS10.out⟩
end Go.Proofs.YtjlkhihlbdokpaaGreat
/- ack.Read. -/
namespace Go.Proofs.YtjlkhihlbdokpaaGreat
open Go.RowKit Go.Sort
set_option maxHeartbeats 2000000
set_option linter.unusedVariables false
set_option linter.unusedSimpArgs false
def idPk (k i : Int) : Pk := { zeroPk with kind := k, id := i }
def mkP (k i c : Int) (s : Sl) : Pk := setS (setC (idPk k i) c) s
def midA (v kind : Int) (c : Cu) : Int × List Prp × Cu := if v == 5 then (if c.err == 0 then restA kind c else (0, [], c)) else (0, [], c)
def endC (c : Cu) : Cu := if decide (0 < leftF c) = true then failF c 5 else c
theorem endC_ok {c : Cu} (ok : CuOK c) : CuOK (endC c) := by unfold endC; split; exact failF_ok ok 5; exact ok
def lenS (n : Nat) : Sl := ⟨none, n, 0⟩
def ackE (v kind i : Int) (r : Int × List Prp × Cu) : Int := (failF (endC r.2.2) (ackV v (mkP kind i r.1 (lenS r.2.1.length)) r.2.1)).err
def ackRd (v kind : Int) (s : ByteArray) : Int × Int × List Prp × Int :=
  if knownA v kind = true then
    (if ackE v kind (numF (newCu s) 2) (midA v kind (takeF (newCu s) 2).2) = 0 then (numF (newCu s) 2, (midA v kind (takeF (newCu s) 2).2).1, (midA v kind (takeF (newCu s) 2).2).2.1, 0)
     else (0, 0, [], ackE v kind (numF (newCu s) 2) (midA v kind (takeF (newCu s) 2).2)))
  else (0, 0, [], 2)
def resA (kind : Int) (r : Int × Int × List Prp × Int) (s : Sl) : Pk := if r.2.2.2 = 0 then mkP kind r.1 r.2.1 s else zeroPk
theorem two_row {P g R : Nat} {a b : World} {o : Obj} (ha : a.heap[R]? = some o) (h : TwoBy P g a b) (h1 : R ≠ P) (h2 : R ≠ g) : b.heap[R]? = some o := by
  rw [h.block R (Array.getElem?_eq_some_iff.1 ha).1 h1 h2]; exact ha
theorem two_Below {P g N : Nat} {w a b : World} (ha : Below N w a) (hN : N ≤ a.heap.size) (h : TwoBy P g a b) (h1 : N ≤ P) (h2 : N ≤ g) : Below N w b :=
  ⟨h.os.trans ha.os, h.tape.trans ha.tape, h.output.trans ha.output, Nat.le_trans ha.size h.size, fun i hi => (h.block i (by omega) (by omega) (by omega)).trans (ha.block i hi)⟩
theorem ls_one {w w' : World} {B R : Nat} {s : Sl} {l : List Prp} (h : LsAt w B s l) (hg : w.grownBy w' (some R)) (hR : R < B) : LsAt w' B s l :=
  ⟨own_two h.1 (fun i hi hB => hg.block i hi (fun e => by simp only [Option.some.injEq] at e; omega)), h.2⟩
theorem ackV_sl (v k i c : Int) (s s' : Sl) (l : List Prp) (h : s.n = s'.n) : ackV v (mkP k i c s) l = ackV v (mkP k i c s') l := by
  have e1 : (mkP k i c s).props.n = (mkP k i c s').props.n := h
  have e2 : sameEq (mkP k i c s) (ackQ (mkP k i c s)) = sameEq (mkP k i c s') (ackQ (mkP k i c s')) := by
    show (_ && (_ && (_ && (_ && (s.n == s.n))))) = (_ && (_ && (_ && (_ && (s'.n == s'.n)))))
    rw [h]
    rfl
  have e3 : ackT (mkP k i c s) l = ackT (mkP k i c s') l := by unfold ackT; rw [e2]; rfl
  unfold ackV
  rw [e1, e3]
  rfl
set_option maxHeartbeats 20000000 in
set_option maxRecDepth 100000 in
theorem ackread_t (v kind : Int) (s : ByteArray) (w : World) (hs : s.size ≤ 140737488351232) : Calls Tryz.prog 23 #[.int .i64 v, .int .i64 kind, .string s] w fun e w' => ∃ sl, e = .returned (.tuple #[.agg (packC (resA kind (ackRd v kind s) sl)), .int .i64 (ackRd v kind s).2.2.2]) ∧ Below w.heap.size w w' ∧ LsAt w' w.heap.size sl (ackRd v kind s).2.2.1 := by
  have HB1 := Lib.hid ((Below.refl w.heap.size w).alloc (Nat.le_refl _) (.cells (packC zeroPk) 28))
  have HR1 := Lib.hid (heap_alloc_new w (.cells (packC zeroPk) 28))
  have HF : Hid (ackRd v kind s = _) := Lib.hid (by unfold ackRd; rfl)
  have HS := Lib.hid hs
  go_enter Tryz.func23, Tryz.ntmps23
  go_wp2_with fail
  refine (knownA_t v kind _).mono ?_
  rintro e w1x ⟨rfl, rfl⟩
  cases hk : knownA v kind
  case false =>
    have HE : Hid (ackRd v kind s = (0, 0, [], 2)) := Lib.hid (HF.out.trans (if_neg (by rw [hk]; decide)))
    have HR := HR1
    clear HF
    go_wp2_with (first | ((with_reducible refine pk_store (w.heap.size) (zeroPk) ?sx1 ?sy1 _ (heap_alloc_new _ _) ?sa1 ?sb1 ?sc1 ?sd1 ?se1 ?sf1); (case sa1 => rfl); (case sb1 => rfl); (case sc1 => rfl); (case sd1 => rfl); (case se1 => rfl)))
    intro w9 hg hgr
    have HB9 := Lib.hid (grown_below HB1.out hgr (Nat.le_refl _))
    have HG9 := Lib.hid hg
    clear hg hgr
    go_wp2
    refine bodyPost_ret (v := .tuple #[.agg (packC (zeroPk)), .int .i64 2]) ?_ rfl ⟨nilS, by rw [HE.out]; rfl, HB9.out, by rw [HE.out]; exact ls_nil _ _⟩
    exact results_pk (s := 6) (u := 7) rfl _ _ (w.heap.size) (zeroPk) rfl HG9.out
  have HF2 := Lib.hid (HF.out.trans (if_pos hk))
  go_wp2_with fail
  refine (cnew_t s _).mono ?_
  rintro e w2 ⟨rfl, hw2⟩
  have z2 : w2.heap.size = w.heap.size + 2 := by rw [hw2]; simp
  have HR2 : Hid (w2.heap[w.heap.size]? = some (.cells (packC zeroPk) 28 (0, 0))) := Lib.hid (by rw [hw2, heap_alloc_old _ _ (by simp)]; exact HR1.out)
  have HC2 : Hid (CurAt w2 (w.heap.size + 1) (newCu s)) := Lib.hid (by unfold CurAt; rw [hw2]; exact heap_new_at (by simp))
  have HB2 : Hid (Below w.heap.size w w2) := Lib.hid (by rw [hw2]; exact HB1.out.alloc HB1.out.size _)
  have HO2 : Hid (CuOK (newCu s)) := Lib.hid ⟨Nat.zero_le _, HS.out⟩
  clear hw2 HR1 HB1 HF
  have HZ2 := Lib.hid z2
  clear z2
  rw [show (w.alloc _).heap.size = w.heap.size + 1 by simp]
  go_wp2_with fail
  refine (number_t (w.heap.size + 1) (newCu s) 2 _ HC2.out HO2.out (by decide)).mono ?_
  rintro e w3 ⟨rfl, hc, hg⟩
  have HC3 := Lib.hid hc
  have HR3 := Lib.hid (row_grown HR2.out hg (by omega))
  have HB3 := Lib.hid (grown_below HB2.out hg (by omega))
  have HZ3 : Hid (w.heap.size + 2 ≤ w3.heap.size) := Lib.hid (by rw [← HZ2.out]; exact hg.size)
  have HO3 := Lib.hid (takeF_ok HO2.out 2)
  obtain ⟨n0, n1⟩ : 0 ≤ numF (newCu s) 2 ∧ numF (newCu s) 2 < 4294967296 := getF_bd (k := 4) (Nat.le_trans (take_size HO2.out 2) (by decide))
  have hnw := i64w n0 n1
  clear hc hg HC2 HR2 HB2 HZ2 HO2
  generalize numF (newCu s) 2 = z at *
  generalize (takeF (newCu s) 2).2 = c1 at *
  go_wp2_with ((with_reducible refine pk_store w3.heap.size (idPk kind z) ?nx ?ny _ (heap_alloc_new _ _) ?na ?nb ?nc ?nd ?ne ?nf); (case na => rfl); (case nb => rfl); (case nc => rfl); (case nd => rfl); (case ne => rfl))
  intro w4 hg hgr
  have HPc4 : Hid (PcAt w4 w3.heap.size (w.heap.size + 1) (idPk kind z) c1) := Lib.hid ⟨hg, row_store HC3.out hgr, by have := HZ3.out; omega⟩
  have HR4 := Lib.hid (row_store HR3.out hgr)
  have HB4 := Lib.hid (below_store HB3.out hgr)
  have HZ4 : Hid (w3.heap.size < w4.heap.size) := Lib.hid (by have := hgr.size; simp at this; omega)
  clear hg hgr HC3 HR3 HB3
  generalize w3.heap.size = P at *
  have HLT : Hid (P < w4.heap.size ∧ w.heap.size + 1 < w4.heap.size ∧ w.heap.size < w4.heap.size ∧ w.heap.size ≤ w4.heap.size) := Lib.hid (by have := HZ3.out; have := HZ4.out; exact ⟨by omega, by omega, by omega, by omega⟩)
  have HPR : Hid (w.heap.size + 2 ≤ P) := HZ3
  obtain ⟨B, hB⟩ : ∃ B, w4.heap.size = B := ⟨_, rfl⟩
  rw [hB] at HLT
  have HBB := Lib.hid hB
  clear hB HZ3 HZ4
  cases h5 : (v == 5)
  case false =>
    have HM : Hid (midA v kind c1 = (0, [], c1)) := Lib.hid (by unfold midA; rw [h5]; rfl)
    have HP : Hid (PcAt w4 P (w.heap.size + 1) (mkP kind z 0 nilS) c1) := HPc4
    have HLS : Hid (LsAt w4 B nilS []) := Lib.hid (ls_nil _ _)
    have HRW := HR4
    have HBW := HB4
    have HO := HO3
    clear HPc4 HR4 HB4 HO3
    obtain ⟨code, hcode⟩ : ∃ x : Int, 0 = x := ⟨_, rfl⟩
    obtain ⟨l, hl⟩ : ∃ x : List Prp, [] = x := ⟨_, rfl⟩
    rw [hcode] at HM HP
    rw [hl] at HM HLS
    obtain ⟨sl, hsl⟩ : ∃ x : Sl, nilS = x := ⟨_, rfl⟩
    rw [hsl] at HP HLS
    obtain ⟨c2, hc2⟩ : ∃ x : Cu, c1 = x := ⟨_, rfl⟩
    rw [hc2] at HP HO
    have HM : Hid (midA v kind c1 = (code, l, c2)) := Lib.hid (by rw [HM.out, hc2])
    clear hcode hl hsl hc2
    go_wp2_with fail
    refine (left_t (w.heap.size + 1) c2 _ HP.out.cu HO.out).mono ?_
    rintro e w11 ⟨rfl, hc, hg⟩
    have HP11 := Lib.hid (pc_cur HP.out hc hg)
    have HLS11 := Lib.hid (ls_two HLS.out (two_g (S := P) hg) HLT.out.1 HLT.out.2.1)
    have HR11 := Lib.hid (row_grown HRW.out hg (by omega))
    have HB11 := Lib.hid (grown_below HBW.out hg (by omega))
    clear hc hg HP HLS HRW HBW
    cases hlf : decide (0 < leftF c2)
    case true =>
      go_wp2_with fail
      refine (fail_t (w.heap.size + 1) c2 5 _ HP11.out.cu).mono ?_
      rintro e w12 ⟨rfl, hc, hg⟩
      have HP12 := Lib.hid (pc_cur HP11.out hc hg)
      have HLS12 := Lib.hid (ls_two HLS11.out (two_g (S := P) hg) HLT.out.1 HLT.out.2.1)
      have HR12 := Lib.hid (row_grown HR11.out hg (by omega))
      have HB12 := Lib.hid (grown_below HB11.out hg (by omega))
      clear hc hg HP11 HLS11 HR11 HB11
      have HEC : Hid (endC c2 = failF c2 5) := Lib.hid (by unfold endC; rw [hlf]; rfl)
      have HQ : Hid (w12.heap[P]? = some (.cells (packC (mkP kind z code sl)) 28 (0, 0))) := Lib.hid HP12.out.pk
      have HRPs := Lib.hid (ls_RP HLS12.out)
      go_wp2_with (((with_reducible refine pk_load (P) (mkP kind z code sl) ?lx2 HQ.out ?la2 ?lb2 ?lc2 ?ld2); (case la2 => rfl); (case lb2 => rfl); (case lc2 => rfl)))
      refine (ackV_t v (mkP kind z code sl) (packC (mkP kind z code sl)) rfl [] l (topicH l) _ (nil_RP _) HRPs.out.2).mono ?_
      rintro e w13 ⟨rfl, hb⟩
      have HP13 := Lib.hid (pc_below HP12.out hb)
      have HLS13 := Lib.hid (ls_below HLS12.out hb)
      have HR13 := Lib.hid (row_then HR12.out hb)
      have HB13 := Lib.hid (ext_then' HB12.out hb)
      have HAV : Hid (ackE v kind z (code, l, c2) = (failF (failF c2 5) (ackV v (mkP kind z code sl) l)).err) := Lib.hid (by unfold ackE; simp only []; rw [HEC.out, ackV_sl v kind z code sl (lenS l.length) l HRPs.out.1])
      clear hb HP12 HLS12 HR12 HB12 HQ
      generalize ackV v (mkP kind z code sl) l = av at *
      go_wp2_with fail
      refine (fail_t (w.heap.size + 1) (failF c2 5) av _ HP13.out.cu).mono ?_
      rintro e w14 ⟨rfl, hc, hg⟩
      have HP14 := Lib.hid (pc_cur HP13.out hc hg)
      have HLS14 := Lib.hid (ls_two HLS13.out (two_g (S := P) hg) HLT.out.1 HLT.out.2.1)
      have HR14 := Lib.hid (row_grown HR13.out hg (by omega))
      have HB14 := Lib.hid (grown_below HB13.out hg (by omega))
      clear hc hg HP13 HLS13 HR13 HB13
      generalize failF (failF c2 5) av = c4 at *
      go_wp2_with fail
      refine (err_t (w.heap.size + 1) c4 _ HP14.out.cu).mono ?_
      rintro e w15 ⟨rfl, hw⟩
      subst hw
      rw [HM.out] at HF2
      rw [HAV.out] at HF2
      have HR := HR14
      cases he : (c4.err != 0)
      case true =>
        have HE : Hid (ackRd v kind s = (0, 0, [], c4.err)) := Lib.hid (HF2.out.trans (if_neg (by simpa using he)))
        have hne : ¬ c4.err = 0 := by simpa using he
        go_wp2_with (first | ((with_reducible refine pk_store (w.heap.size) (zeroPk) ?sx3 ?sy3 _ HR.out ?sa3 ?sb3 ?sc3 ?sd3 ?se3 ?sf3); (case sa3 => rfl); (case sb3 => rfl); (case sc3 => rfl); (case sd3 => rfl); (case se3 => rfl)))
        intro w9 hg hgr
        have HB9 := Lib.hid (grown_below HB14.out hgr (Nat.le_refl _))
        have HG9 := Lib.hid hg
        clear hg hgr
        go_wp2
        refine bodyPost_ret (v := .tuple #[.agg (packC (zeroPk)), .int .i64 c4.err]) ?_ rfl ⟨nilS, by rw [HE.out]; unfold resA; rw [if_neg hne], HB9.out, by rw [HE.out]; exact ls_nil _ _⟩
        exact results_pk (s := 6) (u := 7) rfl _ _ (w.heap.size) (zeroPk) rfl HG9.out
      have HE : Hid (ackRd v kind s = (z, code, l, 0)) := Lib.hid (HF2.out.trans (if_pos (by simpa using he)))
      have HQ : Hid (w15.heap[P]? = some (.cells (packC (mkP kind z code sl)) 28 (0, 0))) := Lib.hid HP14.out.pk
      go_wp2_with (first | ((with_reducible refine pk_store (w.heap.size) (mkP kind z code sl) ?sx5 ?sy5 _ HR.out ?sa5 ?sb5 ?sc5 ?sd5 ?se5 ?sf5); (case sa5 => rfl); (case sb5 => rfl); (case sc5 => rfl); (case sd5 => rfl); (case se5 => rfl)) | ((with_reducible refine pk_load (P) (mkP kind z code sl) ?lx4 HQ.out ?la4 ?lb4 ?lc4 ?ld4); (case la4 => rfl); (case lb4 => rfl); (case lc4 => rfl)))
      intro w9 hg hgr
      have HB9 := Lib.hid (grown_below HB14.out hgr (Nat.le_refl _))
      have HG9 := Lib.hid hg
      have HG9K := Lib.hid hgr
      clear hg hgr
      go_wp2
      refine bodyPost_ret (v := .tuple #[.agg (packC (mkP kind z code sl)), .int .i64 0]) ?_ rfl ⟨sl, by rw [HE.out]; rfl, HB9.out, by rw [HE.out]; exact ls_mono (ls_one HLS14.out HG9K.out HLT.out.2.2.1) HLT.out.2.2.2⟩
      exact results_pk (s := 6) (u := 7) rfl _ _ (w.heap.size) (mkP kind z code sl) rfl HG9.out
    have HP12 := HP11
    have HLS12 := HLS11
    have HR12 := HR11
    have HB12 := HB11
    clear HP11 HLS11 HR11 HB11
    have HEC : Hid (endC c2 = c2) := Lib.hid (by unfold endC; rw [hlf]; rfl)
    have HQ : Hid (w11.heap[P]? = some (.cells (packC (mkP kind z code sl)) 28 (0, 0))) := Lib.hid HP12.out.pk
    have HRPs := Lib.hid (ls_RP HLS12.out)
    go_wp2_with (((with_reducible refine pk_load (P) (mkP kind z code sl) ?lx6 HQ.out ?la6 ?lb6 ?lc6 ?ld6); (case la6 => rfl); (case lb6 => rfl); (case lc6 => rfl)))
    refine (ackV_t v (mkP kind z code sl) (packC (mkP kind z code sl)) rfl [] l (topicH l) _ (nil_RP _) HRPs.out.2).mono ?_
    rintro e w13 ⟨rfl, hb⟩
    have HP13 := Lib.hid (pc_below HP12.out hb)
    have HLS13 := Lib.hid (ls_below HLS12.out hb)
    have HR13 := Lib.hid (row_then HR12.out hb)
    have HB13 := Lib.hid (ext_then' HB12.out hb)
    have HAV : Hid (ackE v kind z (code, l, c2) = (failF (c2) (ackV v (mkP kind z code sl) l)).err) := Lib.hid (by unfold ackE; simp only []; rw [HEC.out, ackV_sl v kind z code sl (lenS l.length) l HRPs.out.1])
    clear hb HP12 HLS12 HR12 HB12 HQ
    generalize ackV v (mkP kind z code sl) l = av at *
    go_wp2_with fail
    refine (fail_t (w.heap.size + 1) (c2) av _ HP13.out.cu).mono ?_
    rintro e w14 ⟨rfl, hc, hg⟩
    have HP14 := Lib.hid (pc_cur HP13.out hc hg)
    have HLS14 := Lib.hid (ls_two HLS13.out (two_g (S := P) hg) HLT.out.1 HLT.out.2.1)
    have HR14 := Lib.hid (row_grown HR13.out hg (by omega))
    have HB14 := Lib.hid (grown_below HB13.out hg (by omega))
    clear hc hg HP13 HLS13 HR13 HB13
    generalize failF (c2) av = c4 at *
    go_wp2_with fail
    refine (err_t (w.heap.size + 1) c4 _ HP14.out.cu).mono ?_
    rintro e w15 ⟨rfl, hw⟩
    subst hw
    rw [HM.out] at HF2
    rw [HAV.out] at HF2
    have HR := HR14
    cases he : (c4.err != 0)
    case true =>
      have HE : Hid (ackRd v kind s = (0, 0, [], c4.err)) := Lib.hid (HF2.out.trans (if_neg (by simpa using he)))
      have hne : ¬ c4.err = 0 := by simpa using he
      go_wp2_with (first | ((with_reducible refine pk_store (w.heap.size) (zeroPk) ?sx7 ?sy7 _ HR.out ?sa7 ?sb7 ?sc7 ?sd7 ?se7 ?sf7); (case sa7 => rfl); (case sb7 => rfl); (case sc7 => rfl); (case sd7 => rfl); (case se7 => rfl)))
      intro w9 hg hgr
      have HB9 := Lib.hid (grown_below HB14.out hgr (Nat.le_refl _))
      have HG9 := Lib.hid hg
      clear hg hgr
      go_wp2
      refine bodyPost_ret (v := .tuple #[.agg (packC (zeroPk)), .int .i64 c4.err]) ?_ rfl ⟨nilS, by rw [HE.out]; unfold resA; rw [if_neg hne], HB9.out, by rw [HE.out]; exact ls_nil _ _⟩
      exact results_pk (s := 6) (u := 7) rfl _ _ (w.heap.size) (zeroPk) rfl HG9.out
    have HE : Hid (ackRd v kind s = (z, code, l, 0)) := Lib.hid (HF2.out.trans (if_pos (by simpa using he)))
    have HQ : Hid (w15.heap[P]? = some (.cells (packC (mkP kind z code sl)) 28 (0, 0))) := Lib.hid HP14.out.pk
    go_wp2_with (first | ((with_reducible refine pk_store (w.heap.size) (mkP kind z code sl) ?sx9 ?sy9 _ HR.out ?sa9 ?sb9 ?sc9 ?sd9 ?se9 ?sf9); (case sa9 => rfl); (case sb9 => rfl); (case sc9 => rfl); (case sd9 => rfl); (case se9 => rfl)) | ((with_reducible refine pk_load (P) (mkP kind z code sl) ?lx8 HQ.out ?la8 ?lb8 ?lc8 ?ld8); (case la8 => rfl); (case lb8 => rfl); (case lc8 => rfl)))
    intro w9 hg hgr
    have HB9 := Lib.hid (grown_below HB14.out hgr (Nat.le_refl _))
    have HG9 := Lib.hid hg
    have HG9K := Lib.hid hgr
    clear hg hgr
    go_wp2
    refine bodyPost_ret (v := .tuple #[.agg (packC (mkP kind z code sl)), .int .i64 0]) ?_ rfl ⟨sl, by rw [HE.out]; rfl, HB9.out, by rw [HE.out]; exact ls_mono (ls_one HLS14.out HG9K.out HLT.out.2.2.1) HLT.out.2.2.2⟩
    exact results_pk (s := 6) (u := 7) rfl _ _ (w.heap.size) (mkP kind z code sl) rfl HG9.out
  go_wp2_with fail
  refine (err_t (w.heap.size + 1) c1 _ HPc4.out.cu).mono ?_
  rintro e w5x ⟨rfl, hw⟩
  subst hw
  cases he1 : (c1.err == 0)
  case false =>
    have HM : Hid (midA v kind c1 = (0, [], c1)) := Lib.hid (by unfold midA; rw [h5, he1]; rfl)
    have HP : Hid (PcAt w5x P (w.heap.size + 1) (mkP kind z 0 nilS) c1) := HPc4
    have HLS : Hid (LsAt w5x B nilS []) := Lib.hid (ls_nil _ _)
    have HRW := HR4
    have HBW := HB4
    have HO := HO3
    clear HPc4 HR4 HB4 HO3
    obtain ⟨code, hcode⟩ : ∃ x : Int, 0 = x := ⟨_, rfl⟩
    obtain ⟨l, hl⟩ : ∃ x : List Prp, [] = x := ⟨_, rfl⟩
    rw [hcode] at HM HP
    rw [hl] at HM HLS
    obtain ⟨sl, hsl⟩ : ∃ x : Sl, nilS = x := ⟨_, rfl⟩
    rw [hsl] at HP HLS
    obtain ⟨c2, hc2⟩ : ∃ x : Cu, c1 = x := ⟨_, rfl⟩
    rw [hc2] at HP HO
    have HM : Hid (midA v kind c1 = (code, l, c2)) := Lib.hid (by rw [HM.out, hc2])
    clear hcode hl hsl hc2
    go_wp2_with fail
    refine (left_t (w.heap.size + 1) c2 _ HP.out.cu HO.out).mono ?_
    rintro e w11 ⟨rfl, hc, hg⟩
    have HP11 := Lib.hid (pc_cur HP.out hc hg)
    have HLS11 := Lib.hid (ls_two HLS.out (two_g (S := P) hg) HLT.out.1 HLT.out.2.1)
    have HR11 := Lib.hid (row_grown HRW.out hg (by omega))
    have HB11 := Lib.hid (grown_below HBW.out hg (by omega))
    clear hc hg HP HLS HRW HBW
    cases hlf : decide (0 < leftF c2)
    case true =>
      go_wp2_with fail
      refine (fail_t (w.heap.size + 1) c2 5 _ HP11.out.cu).mono ?_
      rintro e w12 ⟨rfl, hc, hg⟩
      have HP12 := Lib.hid (pc_cur HP11.out hc hg)
      have HLS12 := Lib.hid (ls_two HLS11.out (two_g (S := P) hg) HLT.out.1 HLT.out.2.1)
      have HR12 := Lib.hid (row_grown HR11.out hg (by omega))
      have HB12 := Lib.hid (grown_below HB11.out hg (by omega))
      clear hc hg HP11 HLS11 HR11 HB11
      have HEC : Hid (endC c2 = failF c2 5) := Lib.hid (by unfold endC; rw [hlf]; rfl)
      have HQ : Hid (w12.heap[P]? = some (.cells (packC (mkP kind z code sl)) 28 (0, 0))) := Lib.hid HP12.out.pk
      have HRPs := Lib.hid (ls_RP HLS12.out)
      go_wp2_with (((with_reducible refine pk_load (P) (mkP kind z code sl) ?lx10 HQ.out ?la10 ?lb10 ?lc10 ?ld10); (case la10 => rfl); (case lb10 => rfl); (case lc10 => rfl)))
      refine (ackV_t v (mkP kind z code sl) (packC (mkP kind z code sl)) rfl [] l (topicH l) _ (nil_RP _) HRPs.out.2).mono ?_
      rintro e w13 ⟨rfl, hb⟩
      have HP13 := Lib.hid (pc_below HP12.out hb)
      have HLS13 := Lib.hid (ls_below HLS12.out hb)
      have HR13 := Lib.hid (row_then HR12.out hb)
      have HB13 := Lib.hid (ext_then' HB12.out hb)
      have HAV : Hid (ackE v kind z (code, l, c2) = (failF (failF c2 5) (ackV v (mkP kind z code sl) l)).err) := Lib.hid (by unfold ackE; simp only []; rw [HEC.out, ackV_sl v kind z code sl (lenS l.length) l HRPs.out.1])
      clear hb HP12 HLS12 HR12 HB12 HQ
      generalize ackV v (mkP kind z code sl) l = av at *
      go_wp2_with fail
      refine (fail_t (w.heap.size + 1) (failF c2 5) av _ HP13.out.cu).mono ?_
      rintro e w14 ⟨rfl, hc, hg⟩
      have HP14 := Lib.hid (pc_cur HP13.out hc hg)
      have HLS14 := Lib.hid (ls_two HLS13.out (two_g (S := P) hg) HLT.out.1 HLT.out.2.1)
      have HR14 := Lib.hid (row_grown HR13.out hg (by omega))
      have HB14 := Lib.hid (grown_below HB13.out hg (by omega))
      clear hc hg HP13 HLS13 HR13 HB13
      generalize failF (failF c2 5) av = c4 at *
      go_wp2_with fail
      refine (err_t (w.heap.size + 1) c4 _ HP14.out.cu).mono ?_
      rintro e w15 ⟨rfl, hw⟩
      subst hw
      rw [HM.out] at HF2
      rw [HAV.out] at HF2
      have HR := HR14
      cases he : (c4.err != 0)
      case true =>
        have HE : Hid (ackRd v kind s = (0, 0, [], c4.err)) := Lib.hid (HF2.out.trans (if_neg (by simpa using he)))
        have hne : ¬ c4.err = 0 := by simpa using he
        go_wp2_with (first | ((with_reducible refine pk_store (w.heap.size) (zeroPk) ?sx11 ?sy11 _ HR.out ?sa11 ?sb11 ?sc11 ?sd11 ?se11 ?sf11); (case sa11 => rfl); (case sb11 => rfl); (case sc11 => rfl); (case sd11 => rfl); (case se11 => rfl)))
        intro w9 hg hgr
        have HB9 := Lib.hid (grown_below HB14.out hgr (Nat.le_refl _))
        have HG9 := Lib.hid hg
        clear hg hgr
        go_wp2
        refine bodyPost_ret (v := .tuple #[.agg (packC (zeroPk)), .int .i64 c4.err]) ?_ rfl ⟨nilS, by rw [HE.out]; unfold resA; rw [if_neg hne], HB9.out, by rw [HE.out]; exact ls_nil _ _⟩
        exact results_pk (s := 6) (u := 7) rfl _ _ (w.heap.size) (zeroPk) rfl HG9.out
      have HE : Hid (ackRd v kind s = (z, code, l, 0)) := Lib.hid (HF2.out.trans (if_pos (by simpa using he)))
      have HQ : Hid (w15.heap[P]? = some (.cells (packC (mkP kind z code sl)) 28 (0, 0))) := Lib.hid HP14.out.pk
      go_wp2_with (first | ((with_reducible refine pk_store (w.heap.size) (mkP kind z code sl) ?sx13 ?sy13 _ HR.out ?sa13 ?sb13 ?sc13 ?sd13 ?se13 ?sf13); (case sa13 => rfl); (case sb13 => rfl); (case sc13 => rfl); (case sd13 => rfl); (case se13 => rfl)) | ((with_reducible refine pk_load (P) (mkP kind z code sl) ?lx12 HQ.out ?la12 ?lb12 ?lc12 ?ld12); (case la12 => rfl); (case lb12 => rfl); (case lc12 => rfl)))
      intro w9 hg hgr
      have HB9 := Lib.hid (grown_below HB14.out hgr (Nat.le_refl _))
      have HG9 := Lib.hid hg
      have HG9K := Lib.hid hgr
      clear hg hgr
      go_wp2
      refine bodyPost_ret (v := .tuple #[.agg (packC (mkP kind z code sl)), .int .i64 0]) ?_ rfl ⟨sl, by rw [HE.out]; rfl, HB9.out, by rw [HE.out]; exact ls_mono (ls_one HLS14.out HG9K.out HLT.out.2.2.1) HLT.out.2.2.2⟩
      exact results_pk (s := 6) (u := 7) rfl _ _ (w.heap.size) (mkP kind z code sl) rfl HG9.out
    have HP12 := HP11
    have HLS12 := HLS11
    have HR12 := HR11
    have HB12 := HB11
    clear HP11 HLS11 HR11 HB11
    have HEC : Hid (endC c2 = c2) := Lib.hid (by unfold endC; rw [hlf]; rfl)
    have HQ : Hid (w11.heap[P]? = some (.cells (packC (mkP kind z code sl)) 28 (0, 0))) := Lib.hid HP12.out.pk
    have HRPs := Lib.hid (ls_RP HLS12.out)
    go_wp2_with (((with_reducible refine pk_load (P) (mkP kind z code sl) ?lx14 HQ.out ?la14 ?lb14 ?lc14 ?ld14); (case la14 => rfl); (case lb14 => rfl); (case lc14 => rfl)))
    refine (ackV_t v (mkP kind z code sl) (packC (mkP kind z code sl)) rfl [] l (topicH l) _ (nil_RP _) HRPs.out.2).mono ?_
    rintro e w13 ⟨rfl, hb⟩
    have HP13 := Lib.hid (pc_below HP12.out hb)
    have HLS13 := Lib.hid (ls_below HLS12.out hb)
    have HR13 := Lib.hid (row_then HR12.out hb)
    have HB13 := Lib.hid (ext_then' HB12.out hb)
    have HAV : Hid (ackE v kind z (code, l, c2) = (failF (c2) (ackV v (mkP kind z code sl) l)).err) := Lib.hid (by unfold ackE; simp only []; rw [HEC.out, ackV_sl v kind z code sl (lenS l.length) l HRPs.out.1])
    clear hb HP12 HLS12 HR12 HB12 HQ
    generalize ackV v (mkP kind z code sl) l = av at *
    go_wp2_with fail
    refine (fail_t (w.heap.size + 1) (c2) av _ HP13.out.cu).mono ?_
    rintro e w14 ⟨rfl, hc, hg⟩
    have HP14 := Lib.hid (pc_cur HP13.out hc hg)
    have HLS14 := Lib.hid (ls_two HLS13.out (two_g (S := P) hg) HLT.out.1 HLT.out.2.1)
    have HR14 := Lib.hid (row_grown HR13.out hg (by omega))
    have HB14 := Lib.hid (grown_below HB13.out hg (by omega))
    clear hc hg HP13 HLS13 HR13 HB13
    generalize failF (c2) av = c4 at *
    go_wp2_with fail
    refine (err_t (w.heap.size + 1) c4 _ HP14.out.cu).mono ?_
    rintro e w15 ⟨rfl, hw⟩
    subst hw
    rw [HM.out] at HF2
    rw [HAV.out] at HF2
    have HR := HR14
    cases he : (c4.err != 0)
    case true =>
      have HE : Hid (ackRd v kind s = (0, 0, [], c4.err)) := Lib.hid (HF2.out.trans (if_neg (by simpa using he)))
      have hne : ¬ c4.err = 0 := by simpa using he
      go_wp2_with (first | ((with_reducible refine pk_store (w.heap.size) (zeroPk) ?sx15 ?sy15 _ HR.out ?sa15 ?sb15 ?sc15 ?sd15 ?se15 ?sf15); (case sa15 => rfl); (case sb15 => rfl); (case sc15 => rfl); (case sd15 => rfl); (case se15 => rfl)))
      intro w9 hg hgr
      have HB9 := Lib.hid (grown_below HB14.out hgr (Nat.le_refl _))
      have HG9 := Lib.hid hg
      clear hg hgr
      go_wp2
      refine bodyPost_ret (v := .tuple #[.agg (packC (zeroPk)), .int .i64 c4.err]) ?_ rfl ⟨nilS, by rw [HE.out]; unfold resA; rw [if_neg hne], HB9.out, by rw [HE.out]; exact ls_nil _ _⟩
      exact results_pk (s := 6) (u := 7) rfl _ _ (w.heap.size) (zeroPk) rfl HG9.out
    have HE : Hid (ackRd v kind s = (z, code, l, 0)) := Lib.hid (HF2.out.trans (if_pos (by simpa using he)))
    have HQ : Hid (w15.heap[P]? = some (.cells (packC (mkP kind z code sl)) 28 (0, 0))) := Lib.hid HP14.out.pk
    go_wp2_with (first | ((with_reducible refine pk_store (w.heap.size) (mkP kind z code sl) ?sx17 ?sy17 _ HR.out ?sa17 ?sb17 ?sc17 ?sd17 ?se17 ?sf17); (case sa17 => rfl); (case sb17 => rfl); (case sc17 => rfl); (case sd17 => rfl); (case se17 => rfl)) | ((with_reducible refine pk_load (P) (mkP kind z code sl) ?lx16 HQ.out ?la16 ?lb16 ?lc16 ?ld16); (case la16 => rfl); (case lb16 => rfl); (case lc16 => rfl)))
    intro w9 hg hgr
    have HB9 := Lib.hid (grown_below HB14.out hgr (Nat.le_refl _))
    have HG9 := Lib.hid hg
    have HG9K := Lib.hid hgr
    clear hg hgr
    go_wp2
    refine bodyPost_ret (v := .tuple #[.agg (packC (mkP kind z code sl)), .int .i64 0]) ?_ rfl ⟨sl, by rw [HE.out]; rfl, HB9.out, by rw [HE.out]; exact ls_mono (ls_one HLS14.out HG9K.out HLT.out.2.2.1) HLT.out.2.2.2⟩
    exact results_pk (s := 6) (u := 7) rfl _ _ (w.heap.size) (mkP kind z code sl) rfl HG9.out
  go_wp2_with fail
  refine (ackrest_t P (w.heap.size + 1) (idPk kind z) c1 _ HPc4.out HO3.out rfl rfl (by rw [HBB.out]; exact HLT.out.1) (by rw [HBB.out]; exact HLT.out.2.1)).mono ?_
  rintro e w10 ⟨rfl, sl, hp, ht, hls⟩
  have HM0 : Hid (midA v kind c1 = restA kind c1) := Lib.hid (by unfold midA; rw [h5, he1]; rfl)
  have HO0 := Lib.hid (restA_ok kind HO3.out)
  have HP0 : Hid (PcAt w10 P (w.heap.size + 1) (setS (setC (idPk kind z) (restA kind c1).1) sl) (restA kind c1).2.2) := Lib.hid hp
  have HLS0 : Hid (LsAt w10 B sl (restA kind c1).2.1) := Lib.hid (by rw [← HBB.out]; exact hls)
  have HRW := Lib.hid (two_row HR4.out ht (by have := HPR.out; omega) (by omega))
  have HBW := Lib.hid (two_Below HB4.out HB4.out.size ht (by have := HPR.out; omega) (by omega))
  clear hp ht hls HPc4 HR4 HB4 HO3
  obtain ⟨⟨code, l, c2⟩, hr⟩ : ∃ r, restA kind c1 = r := ⟨_, rfl⟩
  rw [hr] at HM0 HO0 HP0 HLS0
  have HM : Hid (midA v kind c1 = (code, l, c2)) := HM0
  have HO : Hid (CuOK c2) := HO0
  have HP : Hid (PcAt w10 P (w.heap.size + 1) (mkP kind z code sl) c2) := HP0
  have HLS : Hid (LsAt w10 B sl l) := HLS0
  clear HM0 HO0 HP0 HLS0 hr
  go_wp2_with fail
  refine (left_t (w.heap.size + 1) c2 _ HP.out.cu HO.out).mono ?_
  rintro e w11 ⟨rfl, hc, hg⟩
  have HP11 := Lib.hid (pc_cur HP.out hc hg)
  have HLS11 := Lib.hid (ls_two HLS.out (two_g (S := P) hg) HLT.out.1 HLT.out.2.1)
  have HR11 := Lib.hid (row_grown HRW.out hg (by omega))
  have HB11 := Lib.hid (grown_below HBW.out hg (by omega))
  clear hc hg HP HLS HRW HBW
  cases hlf : decide (0 < leftF c2)
  case true =>
    go_wp2_with fail
    refine (fail_t (w.heap.size + 1) c2 5 _ HP11.out.cu).mono ?_
    rintro e w12 ⟨rfl, hc, hg⟩
    have HP12 := Lib.hid (pc_cur HP11.out hc hg)
    have HLS12 := Lib.hid (ls_two HLS11.out (two_g (S := P) hg) HLT.out.1 HLT.out.2.1)
    have HR12 := Lib.hid (row_grown HR11.out hg (by omega))
    have HB12 := Lib.hid (grown_below HB11.out hg (by omega))
    clear hc hg HP11 HLS11 HR11 HB11
    have HEC : Hid (endC c2 = failF c2 5) := Lib.hid (by unfold endC; rw [hlf]; rfl)
    have HQ : Hid (w12.heap[P]? = some (.cells (packC (mkP kind z code sl)) 28 (0, 0))) := Lib.hid HP12.out.pk
    have HRPs := Lib.hid (ls_RP HLS12.out)
    go_wp2_with (((with_reducible refine pk_load (P) (mkP kind z code sl) ?lx18 HQ.out ?la18 ?lb18 ?lc18 ?ld18); (case la18 => rfl); (case lb18 => rfl); (case lc18 => rfl)))
    refine (ackV_t v (mkP kind z code sl) (packC (mkP kind z code sl)) rfl [] l (topicH l) _ (nil_RP _) HRPs.out.2).mono ?_
    rintro e w13 ⟨rfl, hb⟩
    have HP13 := Lib.hid (pc_below HP12.out hb)
    have HLS13 := Lib.hid (ls_below HLS12.out hb)
    have HR13 := Lib.hid (row_then HR12.out hb)
    have HB13 := Lib.hid (ext_then' HB12.out hb)
    have HAV : Hid (ackE v kind z (code, l, c2) = (failF (failF c2 5) (ackV v (mkP kind z code sl) l)).err) := Lib.hid (by unfold ackE; simp only []; rw [HEC.out, ackV_sl v kind z code sl (lenS l.length) l HRPs.out.1])
    clear hb HP12 HLS12 HR12 HB12 HQ
    generalize ackV v (mkP kind z code sl) l = av at *
    go_wp2_with fail
    refine (fail_t (w.heap.size + 1) (failF c2 5) av _ HP13.out.cu).mono ?_
    rintro e w14 ⟨rfl, hc, hg⟩
    have HP14 := Lib.hid (pc_cur HP13.out hc hg)
    have HLS14 := Lib.hid (ls_two HLS13.out (two_g (S := P) hg) HLT.out.1 HLT.out.2.1)
    have HR14 := Lib.hid (row_grown HR13.out hg (by omega))
    have HB14 := Lib.hid (grown_below HB13.out hg (by omega))
    clear hc hg HP13 HLS13 HR13 HB13
    generalize failF (failF c2 5) av = c4 at *
    go_wp2_with fail
    refine (err_t (w.heap.size + 1) c4 _ HP14.out.cu).mono ?_
    rintro e w15 ⟨rfl, hw⟩
    subst hw
    rw [HM.out] at HF2
    rw [HAV.out] at HF2
    have HR := HR14
    cases he : (c4.err != 0)
    case true =>
      have HE : Hid (ackRd v kind s = (0, 0, [], c4.err)) := Lib.hid (HF2.out.trans (if_neg (by simpa using he)))
      have hne : ¬ c4.err = 0 := by simpa using he
      go_wp2_with (first | ((with_reducible refine pk_store (w.heap.size) (zeroPk) ?sx19 ?sy19 _ HR.out ?sa19 ?sb19 ?sc19 ?sd19 ?se19 ?sf19); (case sa19 => rfl); (case sb19 => rfl); (case sc19 => rfl); (case sd19 => rfl); (case se19 => rfl)))
      intro w9 hg hgr
      have HB9 := Lib.hid (grown_below HB14.out hgr (Nat.le_refl _))
      have HG9 := Lib.hid hg
      clear hg hgr
      go_wp2
      refine bodyPost_ret (v := .tuple #[.agg (packC (zeroPk)), .int .i64 c4.err]) ?_ rfl ⟨nilS, by rw [HE.out]; unfold resA; rw [if_neg hne], HB9.out, by rw [HE.out]; exact ls_nil _ _⟩
      exact results_pk (s := 6) (u := 7) rfl _ _ (w.heap.size) (zeroPk) rfl HG9.out
    have HE : Hid (ackRd v kind s = (z, code, l, 0)) := Lib.hid (HF2.out.trans (if_pos (by simpa using he)))
    have HQ : Hid (w15.heap[P]? = some (.cells (packC (mkP kind z code sl)) 28 (0, 0))) := Lib.hid HP14.out.pk
    go_wp2_with (first | ((with_reducible refine pk_store (w.heap.size) (mkP kind z code sl) ?sx21 ?sy21 _ HR.out ?sa21 ?sb21 ?sc21 ?sd21 ?se21 ?sf21); (case sa21 => rfl); (case sb21 => rfl); (case sc21 => rfl); (case sd21 => rfl); (case se21 => rfl)) | ((with_reducible refine pk_load (P) (mkP kind z code sl) ?lx20 HQ.out ?la20 ?lb20 ?lc20 ?ld20); (case la20 => rfl); (case lb20 => rfl); (case lc20 => rfl)))
    intro w9 hg hgr
    have HB9 := Lib.hid (grown_below HB14.out hgr (Nat.le_refl _))
    have HG9 := Lib.hid hg
    have HG9K := Lib.hid hgr
    clear hg hgr
    go_wp2
    refine bodyPost_ret (v := .tuple #[.agg (packC (mkP kind z code sl)), .int .i64 0]) ?_ rfl ⟨sl, by rw [HE.out]; rfl, HB9.out, by rw [HE.out]; exact ls_mono (ls_one HLS14.out HG9K.out HLT.out.2.2.1) HLT.out.2.2.2⟩
    exact results_pk (s := 6) (u := 7) rfl _ _ (w.heap.size) (mkP kind z code sl) rfl HG9.out
  have HP12 := HP11
  have HLS12 := HLS11
  have HR12 := HR11
  have HB12 := HB11
  clear HP11 HLS11 HR11 HB11
  have HEC : Hid (endC c2 = c2) := Lib.hid (by unfold endC; rw [hlf]; rfl)
  have HQ : Hid (w11.heap[P]? = some (.cells (packC (mkP kind z code sl)) 28 (0, 0))) := Lib.hid HP12.out.pk
  have HRPs := Lib.hid (ls_RP HLS12.out)
  go_wp2_with (((with_reducible refine pk_load (P) (mkP kind z code sl) ?lx22 HQ.out ?la22 ?lb22 ?lc22 ?ld22); (case la22 => rfl); (case lb22 => rfl); (case lc22 => rfl)))
  refine (ackV_t v (mkP kind z code sl) (packC (mkP kind z code sl)) rfl [] l (topicH l) _ (nil_RP _) HRPs.out.2).mono ?_
  rintro e w13 ⟨rfl, hb⟩
  have HP13 := Lib.hid (pc_below HP12.out hb)
  have HLS13 := Lib.hid (ls_below HLS12.out hb)
  have HR13 := Lib.hid (row_then HR12.out hb)
  have HB13 := Lib.hid (ext_then' HB12.out hb)
  have HAV : Hid (ackE v kind z (code, l, c2) = (failF (c2) (ackV v (mkP kind z code sl) l)).err) := Lib.hid (by unfold ackE; simp only []; rw [HEC.out, ackV_sl v kind z code sl (lenS l.length) l HRPs.out.1])
  clear hb HP12 HLS12 HR12 HB12 HQ
  generalize ackV v (mkP kind z code sl) l = av at *
  go_wp2_with fail
  refine (fail_t (w.heap.size + 1) (c2) av _ HP13.out.cu).mono ?_
  rintro e w14 ⟨rfl, hc, hg⟩
  have HP14 := Lib.hid (pc_cur HP13.out hc hg)
  have HLS14 := Lib.hid (ls_two HLS13.out (two_g (S := P) hg) HLT.out.1 HLT.out.2.1)
  have HR14 := Lib.hid (row_grown HR13.out hg (by omega))
  have HB14 := Lib.hid (grown_below HB13.out hg (by omega))
  clear hc hg HP13 HLS13 HR13 HB13
  generalize failF (c2) av = c4 at *
  go_wp2_with fail
  refine (err_t (w.heap.size + 1) c4 _ HP14.out.cu).mono ?_
  rintro e w15 ⟨rfl, hw⟩
  subst hw
  rw [HM.out] at HF2
  rw [HAV.out] at HF2
  have HR := HR14
  cases he : (c4.err != 0)
  case true =>
    have HE : Hid (ackRd v kind s = (0, 0, [], c4.err)) := Lib.hid (HF2.out.trans (if_neg (by simpa using he)))
    have hne : ¬ c4.err = 0 := by simpa using he
    go_wp2_with (first | ((with_reducible refine pk_store (w.heap.size) (zeroPk) ?sx23 ?sy23 _ HR.out ?sa23 ?sb23 ?sc23 ?sd23 ?se23 ?sf23); (case sa23 => rfl); (case sb23 => rfl); (case sc23 => rfl); (case sd23 => rfl); (case se23 => rfl)))
    intro w9 hg hgr
    have HB9 := Lib.hid (grown_below HB14.out hgr (Nat.le_refl _))
    have HG9 := Lib.hid hg
    clear hg hgr
    go_wp2
    refine bodyPost_ret (v := .tuple #[.agg (packC (zeroPk)), .int .i64 c4.err]) ?_ rfl ⟨nilS, by rw [HE.out]; unfold resA; rw [if_neg hne], HB9.out, by rw [HE.out]; exact ls_nil _ _⟩
    exact results_pk (s := 6) (u := 7) rfl _ _ (w.heap.size) (zeroPk) rfl HG9.out
  have HE : Hid (ackRd v kind s = (z, code, l, 0)) := Lib.hid (HF2.out.trans (if_pos (by simpa using he)))
  have HQ : Hid (w15.heap[P]? = some (.cells (packC (mkP kind z code sl)) 28 (0, 0))) := Lib.hid HP14.out.pk
  go_wp2_with (first | ((with_reducible refine pk_store (w.heap.size) (mkP kind z code sl) ?sx25 ?sy25 _ HR.out ?sa25 ?sb25 ?sc25 ?sd25 ?se25 ?sf25); (case sa25 => rfl); (case sb25 => rfl); (case sc25 => rfl); (case sd25 => rfl); (case se25 => rfl)) | ((with_reducible refine pk_load (P) (mkP kind z code sl) ?lx24 HQ.out ?la24 ?lb24 ?lc24 ?ld24); (case la24 => rfl); (case lb24 => rfl); (case lc24 => rfl)))
  intro w9 hg hgr
  have HB9 := Lib.hid (grown_below HB14.out hgr (Nat.le_refl _))
  have HG9 := Lib.hid hg
  have HG9K := Lib.hid hgr
  clear hg hgr
  go_wp2
  refine bodyPost_ret (v := .tuple #[.agg (packC (mkP kind z code sl)), .int .i64 0]) ?_ rfl ⟨sl, by rw [HE.out]; rfl, HB9.out, by rw [HE.out]; exact ls_mono (ls_one HLS14.out HG9K.out HLT.out.2.2.1) HLT.out.2.2.2⟩
  exact results_pk (s := 6) (u := 7) rfl _ _ (w.heap.size) (mkP kind z code sl) rfl HG9.out
end Go.Proofs.YtjlkhihlbdokpaaGreat
/- The acknowledgements' bytes in plain Lean: both ways. -/
namespace Go.Proofs.YtjlkhihlbdokpaaGreat
open Go.RowKit
set_option maxHeartbeats 2000000
set_option linter.unusedVariables false
set_option linter.unusedSimpArgs false
theorem sameEq_self (p : Pk) : sameEq p p = true := by unfold sameEq bareEq willEq; simp
theorem ackB_snd (v : Int) (p : Pk) (l : List Prp) : (ackB v p l).2 = ackV v p l := by
  unfold ackB
  by_cases h : (ackV v p l != 0) = true
  · rw [if_pos h]
  · have h0 : ackV v p l = 0 := by simpa using h
    rw [if_neg h, h0]
    split <;> split <;> rfl
theorem ackB_bad {v : Int} {p : Pk} {l : List Prp} (h : ackV v p l ≠ 0) : (ackB v p l).1 = ⟨#[]⟩ := by
  unfold ackB
  rw [if_pos (by simpa using h)]
/-- What a valid packet is. -/
structure AckOK (v : Int) (p : Pk) (l : List Prp) : Prop where
  known : knownA v p.kind = true
  id0 : 1 ≤ p.id
  id1 : p.id < 65536
  may : mayB p.kind p.code = true
  four : v = 4 → p.code = 0 ∧ p.props.n = 0
  bytes : (bytesF p.kind l).2 = 0
theorem ackOK_of {v : Int} {p : Pk} {l : List Prp} (h : ackV v p l = 0) : AckOK v p l := by
  unfold ackV at h
  split at h
  · rename_i hk
    split at h
    · cases h
    · rename_i h0
      split at h
      · cases h
      · rename_i h1
        split at h
        · rename_i hm
          have hT : ackT p l = 0 → (bytesF p.kind l).2 = 0 := by
            intro hT
            unfold ackT at hT
            split at hT
            · exact hT
            · cases hT
          have i0 : 1 ≤ p.id := by simp at h0; omega
          have i1 : p.id < 65536 := by simpa using h1
          split at h
          · split at h
            · cases h
            · rename_i hc
              split at h
              · cases h
              · rename_i hn
                exact ⟨hk, i0, i1, hm, fun _ => ⟨by simpa using hc, by simpa using hn⟩, hT h⟩
          · rename_i h4
            exact ⟨hk, i0, i1, hm, fun e => absurd (by simpa using e) h4, hT h⟩
        · cases h
  · cases h
theorem ackV_mk {v k i c : Int} {s : Sl} {l : List Prp} (h : AckOK v (mkP k i c s) l) : ackV v (mkP k i c s) l = 0 := by
  unfold ackV
  have hT : ackT (mkP k i c s) l = 0 := by
    unfold ackT
    rw [if_pos (show sameEq (mkP k i c s) (ackQ (mkP k i c s)) = true from sameEq_self (mkP k i c s))]
    exact h.bytes
  have i0 : (mkP k i c s).id = i := rfl
  have h0 := h.id0
  have h1 := h.id1
  rw [if_pos h.known, if_neg (by simp; omega), if_neg (by simp; omega), if_pos h.may]
  split
  · rename_i h4
    obtain ⟨a, b⟩ := h.four (by simpa using h4)
    rw [if_neg (by rw [a]; decide), if_neg (by rw [b]; decide)]
    exact hT
  · exact hT
theorem ackOK_mk {v : Int} {p : Pk} {l : List Prp} (h : AckOK v p l) (s : Sl) (hs : s.n = p.props.n) : AckOK v (mkP p.kind p.id p.code s) l :=
  ⟨h.known, h.id0, h.id1, h.may, fun e => by obtain ⟨a, b⟩ := h.four e; exact ⟨a, by rw [← b]; exact hs⟩, h.bytes⟩
theorem ackB_ok {v : Int} {p : Pk} {l : List Prp} (h : ackV v p l = 0) : ackB v p l = (if (p.code != 0) = true then (if ((p.props.n : Int) != 0) = true then ((be2 p.id ++ be1 p.code) ++ (bytesF p.kind l).1, 0) else (be2 p.id ++ be1 p.code, 0))
  else if ((p.props.n : Int) != 0) = true then ((be2 p.id ++ be1 p.code) ++ (bytesF p.kind l).1, 0) else (be2 p.id, 0)) := by
  unfold ackB
  rw [if_neg (by rw [h]; decide)]
/-- The bytes behind the id. -/
def ackTl (k c : Int) (l : List Prp) : List UInt8 := if l = [] then (if c = 0 then [] else bl (be1 c)) else bl (be1 c) ++ bl (bytesF k l).1
theorem ackB_bl {v : Int} {p : Pk} {l : List Prp} (h : ackV v p l = 0) (hn : p.props.n = l.length) : bl (ackB v p l).1 = bl (be2 p.id) ++ ackTl p.kind p.code l := by
  rw [ackB_ok h]
  unfold ackTl
  have hl : l = [] ↔ p.props.n = 0 := by rw [hn]; simp
  by_cases hc : p.code = 0
  · rw [if_neg (by simpa using hc)]
    by_cases h0 : p.props.n = 0
    · rw [if_neg (by simp [h0]), if_pos (hl.2 h0), if_pos hc, List.append_nil]
    · rw [if_pos (by simp; omega), if_neg (fun e => h0 (hl.1 e)), bl_app, bl_app, List.append_assoc]
  · rw [if_pos (by simpa using hc)]
    by_cases h0 : p.props.n = 0
    · rw [if_neg (by simp [h0]), if_pos (hl.2 h0), if_neg hc, bl_app]
    · rw [if_pos (by simp; omega), if_neg (fun e => h0 (hl.1 e)), bl_app, bl_app, List.append_assoc]
theorem bytesF_two {k : Int} {l : List Prp} (h : (bytesF k l).2 = 0) (hl : l ≠ []) : 2 ≤ (bl (bytesF k l).1).length := by
  obtain ⟨-, -, hb⟩ := bytesF_ok h
  rw [hb, List.length_append, viS_bl]
  have := viB_pos 3 ((bodyL l).length : Int)
  have h2 : 1 ≤ (bodyL l).length := by
    cases l with
    | nil => exact absurd rfl hl
    | cons p t => simp [bodyL]
  omega
theorem end_at {c : Cu} {r : List UInt8} (h : At c r) : (endC c).err = 0 ↔ r = [] := by
  unfold endC
  rw [h.left]
  cases r with
  | nil => simp [h.err]
  | cons x t =>
    rw [if_pos (by simp), fail_at h]
    simp
theorem end_ok {c : Cu} (h : At c []) : endC c = c := by unfold endC; rw [h.left]; rfl
theorem end_err {c : Cu} (h : c.err ≠ 0) : (endC c).err ≠ 0 := by
  unfold endC
  split
  · rw [fail_err h]; exact h
  · exact h
theorem byte1 {c : Int} (h0 : 0 ≤ c) (h1 : c < 256) : ∃ x : UInt8, bl (be1 c) = [x] ∧ (x.toNat : Int) = c := by
  obtain ⟨l1, g1⟩ := bl_be1 h0 h1
  obtain ⟨x, t, e⟩ := take1 (r := bl (be1 c)) (by omega)
  rw [e] at l1 g1
  have : t = [] := by apply List.eq_nil_of_length_eq_zero; simpa using l1
  subst this
  exact ⟨x, e, by simpa [getL] using g1⟩
/-- ack.rest reads what stands behind the id. -/
theorem rest_at {k c : Int} {l : List Prp} (h0 : 0 ≤ c) (h1 : c < 256) (hb : (bytesF k l).2 = 0) (hp : ∀ p ∈ l, PrpOK p) {u : Cu} (h : At u (ackTl k c l)) : (restA k u).1 = c ∧ (restA k u).2.1 = l ∧ At (restA k u).2.2 [] := by
  obtain ⟨x, hx, hxc⟩ := byte1 h0 h1
  unfold ackTl at h
  unfold restA
  by_cases hl : l = []
  · rw [if_pos hl] at h
    by_cases hc : c = 0
    · rw [if_pos hc] at h
      rw [if_pos (by rw [h.left]; rfl)]
      exact ⟨hc.symm, hl.symm, h⟩
    · rw [if_neg hc, hx] at h
      have ht := take_at h 1 (Nat.le_refl 1)
      have ha : At (takeF u 1).2 [] := ht.2
      have hn : numF u 1 = c := by
        have : numF u (1 : Nat) = c := by unfold numF; rw [getF_bl ht.1, ← hxc]; simp [getL]
        exact this
      rw [if_neg (by rw [h.left]; simp), if_pos (by rw [ha.left]; rfl), hn, if_neg (by simpa using hc)]
      exact ⟨rfl, hl.symm, ha⟩
  · rw [if_neg hl, hx] at h
    have h2 := bytesF_two hb hl
    have ht := take_at h 1 (by simp)
    have ha : At (takeF u 1).2 (bl (bytesF k l).1) := ht.2
    have hn : numF u 1 = c := by
      have : numF u (1 : Nat) = c := by unfold numF; rw [getF_bl ht.1, ← hxc]; simp [getL]
      exact this
    have hr := pread_at (s := restF (takeF u 1).2) (rest := []) hb hp (by rw [bl_rest ha, List.append_nil]) (by rw [← bl_len, bl_rest ha, bl_len]; have := ha.ok.size; have := ha.len; rw [bl_len] at this; omega)
    have hne : bl (bytesF k l).1 ≠ [] := by intro e; rw [e] at h2; simp at h2
    rw [if_neg (by rw [h.left]; simp; omega), if_neg (by rw [ha.left]; simpa using hne), hn, hr]
    simp only []
    rw [fail_0 ha, if_neg (by simpa using hl)]
    have h3 := (take_at ha (bl (bytesF k l).1).length (Nat.le_refl _)).2
    rw [List.drop_length] at h3
    exact ⟨trivial, trivial, h3⟩
/-- A packet is read from its body. -/
theorem ack_read {v : Int} {p : Pk} {l : List Prp} (h : ackV v p l = 0) (hn : p.props.n = l.length) (hp : ∀ q ∈ l, PrpOK q) (hz : (ackB v p l).1.size ≤ 140737488351232) : ackRd v p.kind (ackB v p l).1 = (p.id, p.code, l, 0) := by
  have hk := ackOK_of h
  have hb := ackB_bl h hn
  obtain ⟨c0, c1⟩ := mayB_range' hk.may
  have h0 := at_new _ hz
  rw [hb] at h0
  generalize (ackB v p l).1 = s at *
  obtain ⟨l2, g2⟩ := bl_be2 (n := p.id) (by have := hk.id0; omega) hk.id1
  have ht := take_at h0 2 (by rw [List.length_append, l2]; omega)
  rw [List.take_left' l2, List.drop_left' l2] at ht
  have hid : numF (newCu s) 2 = p.id := by
    have : numF (newCu s) (2 : Nat) = p.id := by unfold numF; rw [getF_bl ht.1, g2]
    exact this
  have ha : At (takeF (newCu s) 2).2 (ackTl p.kind p.code l) := ht.2
  have hm : (midA v p.kind (takeF (newCu s) 2).2).1 = p.code ∧ (midA v p.kind (takeF (newCu s) 2).2).2.1 = l ∧ At (midA v p.kind (takeF (newCu s) 2).2).2.2 [] := by
    unfold midA
    by_cases h5 : v = 5
    · rw [if_pos (by simpa using h5), if_pos (by rw [ha.err]; rfl)]
      exact rest_at c0 (by omega) hk.bytes hp ha
    · rw [if_neg (by simpa using h5)]
      have h4 : v = 4 := by
        have := hk.known
        unfold knownA at this
        simp only [Bool.and_eq_true, Bool.or_eq_true, beq_iff_eq] at this
        rcases this.1 with e | e
        · exact e
        · exact absurd e h5
      obtain ⟨e1, e2⟩ := hk.four h4
      have hl : l = [] := by apply List.eq_nil_of_length_eq_zero; omega
      unfold ackTl at ha
      rw [if_pos hl, if_pos e1] at ha
      exact ⟨e1.symm, hl.symm, ha⟩
  obtain ⟨m1, m2, m3⟩ := hm
  obtain ⟨⟨code, l', c2⟩, hr⟩ : ∃ q, midA v p.kind (takeF (newCu s) 2).2 = q := ⟨_, rfl⟩
  rw [hr] at m1 m2 m3
  simp only [] at m1 m2 m3
  subst m1
  subst m2
  have hE : ackE v p.kind p.id (p.code, l', c2) = 0 := by
    unfold ackE
    simp only []
    rw [end_ok m3, ackV_mk (ackOK_mk hk (lenS l'.length) hn.symm), fail_at m3]
  unfold ackRd
  rw [if_pos hk.known, hr, hid, if_pos hE]
theorem fail_ne (c : Cu) {e : Int} (he : e ≠ 0) : (failF c e).err ≠ 0 := by
  unfold failF
  split
  · exact he
  · rename_i hr
    intro e0
    exact hr (by unfold readyB; rw [e0]; rfl)
theorem rest_back {k : Int} {u : Cu} {r : List UInt8} (h : At u r) (he : (endC (restA k u).2.2).err = 0) : 0 ≤ (restA k u).1 ∧ (restA k u).1 < 256 ∧ ((restA k u).2.1 ≠ [] → (bytesF k (restA k u).2.1).2 = 0) ∧ r = ackTl k (restA k u).1 (restA k u).2.1 ∧ At (restA k u).2.2 [] := by
  unfold restA at he ⊢
  by_cases hr : r = []
  · have hl : (leftF u == 0) = true := by rw [h.left, hr]; rfl
    rw [if_pos hl]
    rw [hr] at h
    exact ⟨Int.le_refl 0, show (0 : Int) < 256 by decide, fun e => absurd rfl e, hr, h⟩
  · have hl : ¬ (leftF u == 0) = true := by rw [h.left]; simpa using hr
    have hlen : 1 ≤ r.length := by
      cases r with
      | nil => exact absurd rfl hr
      | cons a t => simp
    have ht := take_at h 1 hlen
    obtain ⟨x, t, rfl⟩ := take1 hlen
    have ha : At (takeF u 1).2 t := ht.2
    have hx := x.toNat_lt
    have hn : numF u 1 = (x.toNat : Int) := by
      have : numF u (1 : Nat) = (x.toNat : Int) := by unfold numF; rw [getF_bl ht.1]; simp [getL]
      exact this
    have hb1 : bl (be1 (x.toNat : Int)) = [x] := by
      have := be1_get x
      simpa [getL] using this
    rw [if_neg hl] at he ⊢
    by_cases ht0 : t = []
    · have hl2 : (leftF (takeF u 1).2 == 0) = true := by rw [ha.left, ht0]; rfl
      rw [if_pos hl2] at he ⊢
      rw [hn] at he ⊢
      rw [ht0] at ha
      by_cases hz : (x.toNat : Int) = 0
      · exfalso
        simp only [] at he
        rw [if_pos (by simpa using hz)] at he
        exact end_err (by rw [fail_at ha]; decide) he
      · simp only []
        rw [if_neg (by simpa using hz)]
        refine ⟨by omega, by omega, fun e => absurd rfl e, ?_, ha⟩
        unfold ackTl
        rw [if_pos rfl, if_neg hz, hb1, ht0]
    · have hl2 : ¬ (leftF (takeF u 1).2 == 0) = true := by rw [ha.left]; simpa using ht0
      rw [if_neg hl2] at he ⊢
      rw [hn] at he ⊢
      obtain ⟨⟨l, size, e⟩, hp⟩ : ∃ q, preadF k (restF (takeF u 1).2) = q := ⟨_, rfl⟩
      rw [hp] at he ⊢
      simp only [] at he ⊢
      have hsz : (restF (takeF u 1).2).size ≤ 140737488351232 := by
        rw [← bl_len, bl_rest ha]; have := ha.ok.size; have := ha.len; omega
      by_cases hl0 : l = []
      · exfalso
        rw [if_pos (by rw [hl0]; rfl)] at he
        exact end_err (fail_ne _ (by decide)) he
      · rw [if_neg (by simpa using hl0)] at he ⊢
        have he3 : (takeF (failF (takeF u 1).2 e) size).2.err = 0 := by
          by_cases hq : (takeF (failF (takeF u 1).2 e) size).2.err = 0
          · exact hq
          · exact absurd he (end_err hq)
        have he0 : e = 0 := by
          by_cases hq : e = 0
          · exact hq
          · exfalso
            have hf : (failF (takeF u 1).2 e).err = e := fail_at ha e
            rw [take_err (by rw [hf]; exact hq), hf] at he3
            exact hq he3
        subst he0
        rw [fail_0 ha] at he he3 ⊢
        obtain ⟨hok, rest, hb, rfl⟩ := pread_back hp hsz
        rw [bl_rest ha] at hb
        subst hb
        have h3 := (take_at ha (bl (bytesF k l).1).length (by rw [List.length_append]; omega)).2
        rw [List.drop_left' rfl] at h3
        have hrest := (end_at h3).1 he
        subst hrest
        refine ⟨by omega, by omega, fun _ => hok, ?_, h3⟩
        unfold ackTl
        rw [if_neg hl0, hb1, List.append_nil]
        rfl
/-- What is read is valid, and is written as the same. -/
theorem ack_back {v kind id code : Int} {l : List Prp} {s : ByteArray} (h : ackRd v kind s = (id, code, l, 0)) (hz : s.size ≤ 140737488351232) (sl : Sl) (hs : sl.n = l.length) : ackB v (mkP kind id code sl) l = (s, 0) := by
  unfold ackRd at h
  split at h
  · rename_i hk
    split at h
    · rename_i hE
      simp only [Prod.mk.injEq] at h
      obtain ⟨hid, hcode, hl, -⟩ := h
      obtain ⟨⟨code', l', c2⟩, hm⟩ : ∃ q, midA v kind (takeF (newCu s) 2).2 = q := ⟨_, rfl⟩
      rw [hm] at hE hcode hl
      simp only [] at hcode hl
      subst hcode
      subst hl
      rw [hid] at hE
      unfold ackE at hE
      simp only [] at hE
      have hend : (endC c2).err = 0 := by
        by_cases hq : (endC c2).err = 0
        · exact hq
        · rw [fail_err hq] at hE; exact hE
      have hav : ackV v (mkP kind id code' (lenS l'.length)) l' = 0 := by
        unfold failF at hE
        rw [if_pos (by unfold readyB; rw [hend]; rfl)] at hE
        exact hE
      have hav2 : ackV v (mkP kind id code' sl) l' = 0 := by rw [ackV_sl v kind id code' sl (lenS l'.length) l' hs]; exact hav
      have h0 := at_new s hz
      have he1 : (takeF (newCu s) 2).2.err = 0 := by
        by_cases hq : (takeF (newCu s) 2).2.err = 0
        · exact hq
        · exfalso
          have : midA v kind (takeF (newCu s) 2).2 = (0, [], (takeF (newCu s) 2).2) := by
            unfold midA
            split
            · rw [if_neg (by simpa using hq)]
            · rfl
          rw [hm] at this
          simp only [Prod.mk.injEq] at this
          rw [this.2.2] at hend
          exact end_err hq hend
      have hlen := take_ok' h0 2 he1
      have ht := take_at h0 2 hlen
      obtain ⟨x, y, t, hxy⟩ := take2 hlen
      have ha : At (takeF (newCu s) 2).2 t := by have := ht.2; rw [hxy] at this; exact this
      have hnum : numF (newCu s) 2 = getL [x, y] := by
        have : numF (newCu s) (2 : Nat) = getL [x, y] := by unfold numF; rw [getF_bl ht.1, hxy]; rfl
        exact this
      have hbe : bl (be2 id) = [x, y] := by rw [← hid, hnum]; exact be2_get x y
      have hT : t = ackTl kind code' l' := by
        unfold midA at hm
        split at hm
        · rw [if_pos (by rw [ha.err]; rfl)] at hm
          have := rest_back (k := kind) ha (by rw [hm]; exact hend)
          rw [hm] at this
          exact this.2.2.2.1
        · simp only [Prod.mk.injEq] at hm
          obtain ⟨rfl, rfl, hc⟩ := hm
          rw [← hc] at hend
          rw [(end_at ha).1 hend]
          unfold ackTl
          rw [if_pos rfl, if_pos rfl]
      have hb := ackB_bl hav2 (show (mkP kind id code' sl).props.n = l'.length from hs)
      have e1 : bl (ackB v (mkP kind id code' sl) l').1 = bl s := by
        rw [hb, hxy]
        show bl (be2 id) ++ ackTl kind code' l' = _
        rw [hbe, ← hT]
        rfl
      have e2 := ackB_snd v (mkP kind id code' sl) l'
      rw [hav2] at e2
      exact Prod.ext (bl_inj e1) e2
    · rename_i hne
      simp only [Prod.mk.injEq] at h; exact absurd h.2.2.2 hne
  · simp only [Prod.mk.injEq] at h; exact absurd h.2.2.2 (by decide)
/-- The sizes. -/
theorem ackTl_size {k c : Int} {l : List Prp} (hb : (bytesF k l).2 = 0) : ((ackTl k c l).length = 0 ↔ c = 0 ∧ l = []) ∧ ((ackTl k c l).length = 1 ↔ c ≠ 0 ∧ l = []) := by
  unfold ackTl
  have l1 : (bl (be1 c)).length = 1 := rfl
  by_cases hl : l = []
  · by_cases hc : c = 0
    · rw [if_pos hl, if_pos hc]; simp [hl, hc]
    · rw [if_pos hl, if_neg hc, l1]; simp [hl, hc]
  · have := bytesF_two hb hl
    rw [if_neg hl, List.length_append, l1]
    constructor
    · constructor
      · intro e; omega
      · intro e; exact absurd e.2 hl
    · constructor
      · intro e; omega
      · intro e; exact absurd e.2 hl
end Go.Proofs.YtjlkhihlbdokpaaGreat
/- Packets that are read, in plain Lean. -/
namespace Go.Proofs.YtjlkhihlbdokpaaGreat
open Go.RowKit Go.Sort
set_option maxHeartbeats 2000000
set_option linter.unusedVariables false
set_option linter.unusedSimpArgs false
theorem ls_store {w b : World} {B : Nat} {s : Sl} {l : List Prp} {o : Obj} (h : LsAt w B s l) (hb : (w.alloc o).grownBy b (some w.heap.size)) : LsAt b B s l :=
  ⟨own_two h.1 (fun i hi _ => by rw [hb.block i (by simp; omega) (fun e => by simp only [Option.some.injEq] at e; omega), heap_alloc_old _ _ hi]), h.2⟩
theorem toL_eq {s t : ByteArray} (h : s.toList = t.toList) : s = t := by
  rw [ByteArray.toList_eq, ByteArray.toList_eq] at h
  exact bl_inj h
theorem bare_all {p q : Pk} (h : bareEq p q = true) : p.kind = q.kind ∧ p.qos = q.qos ∧ p.id = q.id ∧ p.keep = q.keep ∧ p.code = q.code ∧ p.dup = q.dup ∧ p.retain = q.retain ∧ p.clean = q.clean ∧ p.hasUser = q.hasUser ∧ p.hasPass = q.hasPass ∧ p.hasWill = q.hasWill ∧ p.session = q.session ∧ p.topic.toList = q.topic.toList ∧ p.payload.toList = q.payload.toList ∧ p.client.toList = q.client.toList ∧ p.user.toList = q.user.toList ∧ p.pass.toList = q.pass.toList := by
  simpa [bareEq] using h
/-- A packet that has no more than an acknowledgement's fields. -/
theorem ack_is {v : Int} {p : Pk} {l : List Prp} (h : ackV v p l = 0) (sl : Sl) : p = reSl (mkP p.kind p.id p.code sl) p.wProps p.codes p.filters p.props ∧ p.wProps.n = 0 ∧ p.codes.n = 0 ∧ p.filters.n = 0 := by
  have hs : sameEq p (ackQ p) = true := by
    have hT : ackT p l = 0 := by
      have hk := ackOK_of h
      unfold ackV at h
      have := hk.id0
      have := hk.id1
      rw [if_pos hk.known, if_neg (by simp; omega), if_neg (by simp; omega), if_pos hk.may] at h
      split at h
      · rename_i h4
        obtain ⟨a, b⟩ := hk.four (by simpa using h4)
        rw [if_neg (by rw [a]; decide), if_neg (by rw [b]; decide)] at h
        exact h
      · exact h
    unfold ackT at hT
    split at hT
    · rename_i hh; exact hh
    · cases hT
  unfold sameEq at hs
  simp only [Bool.and_eq_true, beq_iff_eq] at hs
  obtain ⟨hb, hw, hc, hf, -⟩ := hs
  unfold willEq at hw
  simp only [Bool.and_eq_true, beq_iff_eq] at hw
  obtain ⟨w1, w2, w3, w4, w5⟩ := hw
  obtain ⟨a0, a1, a2, a3, a4, a5, a6, a7, a8, a9, a10, a11, a12, a13, a14, a15, a16⟩ := bare_all hb
  have b0 := toL_eq w1
  have b1 := toL_eq w2
  have b2 := toL_eq a12
  have b3 := toL_eq a13
  have b4 := toL_eq a14
  have b5 := toL_eq a15
  have b6 := toL_eq a16
  refine ⟨?_, w5, hc, hf⟩
  clear h w1 w2 w5 hc hf a12 a13 a14 a15 a16 hb
  obtain ⟨kind, dup, retain, qos, id, topic, payload, clean, keep, client, hasUser, user, hasPass, pass, hasWill, wTopic, wPayload, wQoS, wRetain, wProps, session, code, codes, filters, props⟩ := p
  simp only [ackQ, zeroPk] at a1 a3 a5 a6 a7 a8 a9 a10 a11 w3 w4 b0 b1 b2 b3 b4 b5 b6
  rw [a1, a3, a5, a6, a7, a8, a9, a10, a11, w3, w4, b0, b1, b2, b3, b4, b5, b6]
  rfl
theorem ackB_size {v : Int} {p : Pk} {l : List Prp} (hn : p.props.n = l.length) : (ackB v p l).1.size ≤ 140737488351232 := by
  by_cases h : ackV v p l = 0
  · have hk := ackOK_of h
    obtain ⟨h1, h2, h3⟩ := bytesF_ok hk.bytes
    have hb := ackB_bl h hn
    have hl := bodyL_len _ _ h2
    have l2 : (bl (be2 p.id)).length = 2 := rfl
    have l1 : (bl (be1 p.code)).length = 1 := rfl
    have lv : (bl (viS (bodyL l).length)).length ≤ 4 := by
      have : ∀ (f : Nat) (n : Int), (viB f n).length ≤ f + 1 := by
        intro f
        induction f with
        | zero => intro n; exact Nat.le_refl 1
        | succ f ih => intro n; unfold viB viL; split
                       · rw [bl_nums, List.map_cons, List.length_cons]; have := ih (n / 128); unfold viB at this; rw [bl_nums] at this; omega
                       · rw [bl_nums]; simp
      exact this 3 _
    rw [← bl_len, hb, List.length_append, l2]
    unfold ackTl
    split
    · split
      · simp
      · rw [l1]; omega
    · rw [List.length_append, l1, h3, List.length_append]; omega
  · rw [ackB_bad h]; exact Nat.zero_le _
theorem mk_ok {k i c : Int} (s : Sl) (hk : -9223372036854775808 ≤ k ∧ k ≤ 9223372036854775807) (hi : 0 ≤ i ∧ i < 65536) (hc : 0 ≤ c ∧ c < 65536) (hs : s.n ≤ 140737488351232) : PkOK (mkP k i c s) := by
  refine ⟨hk, zero_ok.qos, ⟨by show _ ≤ i; omega, by show i ≤ _; omega⟩, zero_ok.keep, zero_ok.wQoS, ⟨by show _ ≤ c; omega, by show c ≤ _; omega⟩, Nat.zero_le _, Nat.zero_le _, Nat.zero_le _, Nat.zero_le _, Nat.zero_le _, Nat.zero_le _, Nat.zero_le _, Nat.zero_le _, hs⟩
theorem nil_of {w : World} {A : Option Addr} {n : Nat} {l : List Prp} (h : RP w A n l) (h0 : n = 0) : l = [] := List.eq_nil_of_length_eq_zero (by rw [h.1, h0])
end Go.Proofs.YtjlkhihlbdokpaaGreat
