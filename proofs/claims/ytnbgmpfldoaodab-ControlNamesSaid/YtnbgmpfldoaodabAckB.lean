/- ack.Body. -/
import Derived.Test.YtnbgmpfldoaodabAckV
namespace Go.Proofs.Ytnbgmpfldoaodab
open Go.RowKit Go.Sort
set_option maxHeartbeats 2000000
set_option linter.unusedVariables false
set_option linter.unusedSimpArgs false
theorem ackV_zero {v : Int} {p : Pk} {l : List Prp} (h : (ackV v p l != 0) = false) : 0 < p.id ∧ p.id < 65536 ∧ mayB p.kind p.code = true ∧ (bytesF p.kind l).2 = 0 ∧ knownA v p.kind = true ∧ sameEq p (ackQ p) = true ∧ ((v == 4) = true → p.code = 0 ∧ p.props.n = 0) := by
  have h0 : ackV v p l = 0 := by simpa using h
  unfold ackV ackT at h0
  repeat' split at h0
  all_goals simp_all
  all_goals omega
def ackB (v : Int) (p : Pk) (l : List Prp) : ByteArray × Int :=
  if (ackV v p l != 0) = true then (⟨#[]⟩, ackV v p l)
  else if (p.code != 0) = true then (if ((p.props.n : Int) != 0) = true then ((be2 p.id ++ be1 p.code) ++ (bytesF p.kind l).1, 0) else (be2 p.id ++ be1 p.code, 0))
  else if ((p.props.n : Int) != 0) = true then ((be2 p.id ++ be1 p.code) ++ (bytesF p.kind l).1, 0) else (be2 p.id, 0)
set_option maxRecDepth 100000 in
theorem ackB_t (v : Int) (p : Pk) (lw lp : List Prp) (HT : Hid (lp ≠ [] → TopicOK)) (w : World) (hrw : RP w p.wProps.A p.wProps.n lw) (hrp : RP w p.props.A p.props.n lp) :
    Calls Try.prog 7 #[.int .i64 v, .agg (packC p)] w fun e w' => e = .returned (.tuple #[.string (ackB v p lp).1, .int .i64 (ackB v p lp).2]) ∧ Below w.heap.size w w' := by
  have HW := Lib.hid hrw
  have HP := Lib.hid hrp
  have HB1 := Lib.hid ((Below.refl w.heap.size w).alloc (Nat.le_refl _) (.cells (packC p) 35))
  have HG1 := Lib.hid (heap_alloc_new w (.cells (packC p) 35))
  clear hrw hrp
  go_enter Try.func7, Try.ntmps7
  go_wp2_with ((with_reducible refine pack_load w.heap.size p (.tmp 3) HG1.out ?a1 ?b1 ?c1 ?d1); (case a1 => rfl); (case b1 => rfl); (case c1 => rfl))
  refine (ackV_t v p (packC p) rfl lw lp HT _ (HW.out.below HB1.out) (HP.out.below HB1.out)).mono ?_
  rintro e w2 ⟨rfl, hb⟩
  have HB2 := Lib.hid (ext_then' HB1.out hb)
  have HG2 := Lib.hid (row_then HG1.out hb)
  clear hb HG1 HB1
  cases he : (ackV v p lp != 0)
  rotate_left
  · have HE : Hid (ackB v p lp = (⟨#[]⟩, ackV v p lp)) := Lib.hid (by simp only [ackB, he, if_true])
    go_wp2
    go_ret2
    exact ⟨by rw [HE.out]; rfl, HB2.out⟩
  obtain ⟨hid0, hid1, hmay, -⟩ := ackV_zero he
  obtain ⟨hx0, hx1⟩ := mayB_range' hmay
  clear hmay
  have hz2 : (be2 p.id).size = 2 := by simp [be2, strOfNums_size]
  have hz1 : (be1 p.code).size = 1 := by simp [be1, strOfNums_size]
  have hz3 := bytesF_size p.kind lp
  have c0 : w2.cell? ⟨w.heap.size, 0, none⟩ = some (.int .i64 p.kind) := pack_at HG2.out 0 _ rfl
  have c4 : w2.cell? ⟨w.heap.size, 4, none⟩ = some (.int .i64 p.id) := pack_at HG2.out 4 _ rfl
  have c21 : w2.cell? ⟨w.heap.size, 21, none⟩ = some (.int .i64 p.code) := pack_at HG2.out 21 _ rfl
  have c24 : w2.cell? ⟨w.heap.size, 24, none⟩ = some (.slice p.props.A p.props.n p.props.c) := pack_at HG2.out 24 _ rfl
  go_wp2_with fail
  refine (put2_t p.id _ (by omega) (by omega)).mono ?_
  rintro e w3 ⟨rfl, hb⟩
  have HB3 := Lib.hid (ext_then' HB2.out hb)
  have HG3 := Lib.hid (row_then HG2.out hb)
  clear hb HG2 HB2 c0 c4 c21 c24
  have c0 : w3.cell? ⟨w.heap.size, 0, none⟩ = some (.int .i64 p.kind) := pack_at HG3.out 0 _ rfl
  have c21 : w3.cell? ⟨w.heap.size, 21, none⟩ = some (.int .i64 p.code) := pack_at HG3.out 21 _ rfl
  have c24 : w3.cell? ⟨w.heap.size, 24, none⟩ = some (.slice p.props.A p.props.n p.props.c) := pack_at HG3.out 24 _ rfl
  cases hc : (p.code != 0)
  · cases hn : ((p.props.n : Int) != 0)
    · have HE : Hid (ackB v p lp = (be2 p.id, 0)) := Lib.hid (by simp only [ackB, he, hc, hn, if_true, if_false, Bool.false_eq_true])
      go_wp2
      go_ret2
      exact ⟨by rw [HE.out]; rfl, HB3.out⟩
    · go_wp2_with fail
      refine (put1_t p.code _ (by omega) (by omega)).mono ?_
      rintro e w4 ⟨rfl, hb⟩
      have HB4 := Lib.hid (ext_then' HB3.out hb)
      have HG4 := Lib.hid (row_then HG3.out hb)
      clear hb HG3 HB3 c0 c21 c24
      have c0 : w4.cell? ⟨w.heap.size, 0, none⟩ = some (.int .i64 p.kind) := pack_at HG4.out 0 _ rfl
      have c24 : w4.cell? ⟨w.heap.size, 24, none⟩ = some (.slice p.props.A p.props.n p.props.c) := pack_at HG4.out 24 _ rfl
      have HE : Hid (ackB v p lp = ((be2 p.id ++ be1 p.code) ++ (bytesF p.kind lp).1, 0)) := Lib.hid (by simp only [ackB, he, hc, hn, if_true, if_false, Bool.false_eq_true])
      go_wp2_with fail
      refine (bytes_t p.kind p.props.A p.props.n p.props.c lp HT _ (HP.out.below HB4.out)).mono ?_
      rintro e w5 ⟨rfl, hb⟩
      have HB5 := Lib.hid (ext_then' HB4.out hb)
      clear hb HB4 HG4 c0 c24
      go_wp2
      go_ret2
      exact ⟨by rw [HE.out]; rfl, HB5.out⟩
  · go_wp2_with fail
    refine (put1_t p.code _ (by omega) (by omega)).mono ?_
    rintro e w4 ⟨rfl, hb⟩
    have HB4 := Lib.hid (ext_then' HB3.out hb)
    have HG4 := Lib.hid (row_then HG3.out hb)
    clear hb HG3 HB3 c0 c21 c24
    have c0 : w4.cell? ⟨w.heap.size, 0, none⟩ = some (.int .i64 p.kind) := pack_at HG4.out 0 _ rfl
    have c24 : w4.cell? ⟨w.heap.size, 24, none⟩ = some (.slice p.props.A p.props.n p.props.c) := pack_at HG4.out 24 _ rfl
    cases hn : ((p.props.n : Int) != 0)
    · have HE : Hid (ackB v p lp = (be2 p.id ++ be1 p.code, 0)) := Lib.hid (by simp only [ackB, he, hc, hn, if_true, if_false, Bool.false_eq_true])
      go_wp2
      go_ret2
      exact ⟨by rw [HE.out]; rfl, HB4.out⟩
    · have HE : Hid (ackB v p lp = ((be2 p.id ++ be1 p.code) ++ (bytesF p.kind lp).1, 0)) := Lib.hid (by simp only [ackB, he, hc, hn, if_true, if_false, Bool.false_eq_true])
      go_wp2_with fail
      refine (bytes_t p.kind p.props.A p.props.n p.props.c lp HT _ (HP.out.below HB4.out)).mono ?_
      rintro e w5 ⟨rfl, hb⟩
      have HB5 := Lib.hid (ext_then' HB4.out hb)
      clear hb HB4 HG4 c0 c24
      go_wp2
      go_ret2
      exact ⟨by rw [HE.out]; rfl, HB5.out⟩
end Go.Proofs.Ytnbgmpfldoaodab
