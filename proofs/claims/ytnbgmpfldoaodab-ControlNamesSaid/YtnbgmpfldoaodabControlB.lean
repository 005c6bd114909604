/- control.Tail, Body; lives of chapter 12. -/
import Derived.Test.YtnbgmpfldoaodabControlV
import Derived.Test.YtnbgmpfldoaodabAckC
namespace Go.Proofs.Ytnbgmpfldoaodab
open Go.RowKit Go.Sort
set_option maxHeartbeats 2000000
set_option linter.unusedVariables false
set_option linter.unusedSimpArgs false
def conTail (code : Int) (n : Nat) (kind : Int) (l : List Prp) : ByteArray :=
  if decide (code < 0) = true then ⟨#[]⟩ else if decide (255 < code) = true then ⟨#[]⟩ else if ((bytesF kind l).2 != 0) = true then ⟨#[]⟩
  else if decide ((0 : Int) < (n : Int)) = true then be1 code ++ (bytesF kind l).1 else if decide (0 < code) = true then be1 code else ⟨#[]⟩
set_option maxRecDepth 100000 in
theorem ctail_t (code : Int) (A : Option Addr) (n cp : Nat) (kind : Int) (l : List Prp) (HT : Hid (l ≠ [] → TopicOK)) (w : World) (hr : RP w A n l) :
    Calls Try.prog 17 #[.int .i64 code, .slice A n cp, .int .i64 kind] w fun e w' => e = .returned (.string (conTail code n kind l)) ∧ Below w.heap.size w w' := by
  have HP := Lib.hid hr
  have hn63 := hr.2.1
  clear hr
  have HB1 := Lib.hid (Below.refl w.heap.size w)
  go_enter Try.func17, Try.ntmps17
  go_wp2_with fail
  refine (bytes_t kind A n cp l HT _ HP.out).mono ?_
  rintro e w2 ⟨rfl, hb⟩
  have HB2 := Lib.hid (ext_then' HB1.out hb)
  clear hb HB1
  have hz3 := bytesF_size kind l
  cases h0 : decide (code < 0)
  · cases h1 : decide (255 < code)
    · have k0 : 0 ≤ code := by simp at h0; omega
      have k1 : code ≤ 255 := by simp at h1; omega
      cases he : ((bytesF kind l).2 != 0)
      · go_wp2_with fail
        refine (put1_t code _ k0 (by omega)).mono ?_
        rintro e w3 ⟨rfl, hb⟩
        have HB3 := Lib.hid (ext_then' HB2.out hb)
        clear hb HB2
        have hz1 : (be1 code).size = 1 := by simp [be1, strOfNums_size]
        cases hn : decide ((0 : Int) < (n : Int))
        · have hn2 : decide (0 < n) = false := by simp at hn ⊢; omega
          cases hc : decide (0 < code)
          · have HE : Hid (conTail code n kind l = ⟨#[]⟩) := Lib.hid (by simp only [conTail, h0, h1, he, hn, hc, if_true, if_false, Bool.false_eq_true])
            go_wp2
            go_ret
            exact ⟨by rw [HE.out]; rfl, HB3.out⟩
          · have HE : Hid (conTail code n kind l = be1 code) := Lib.hid (by simp only [conTail, h0, h1, he, hn, hc, if_true, if_false, Bool.false_eq_true])
            go_wp2
            go_ret
            exact ⟨by rw [HE.out]; rfl, HB3.out⟩
        · have hn2 : decide (0 < n) = true := by simp at hn ⊢; omega
          have HE : Hid (conTail code n kind l = be1 code ++ (bytesF kind l).1) := Lib.hid (by simp only [conTail, h0, h1, he, hn, if_true, if_false, Bool.false_eq_true])
          go_wp2
          go_ret
          exact ⟨by rw [HE.out]; rfl, HB3.out⟩
      · have HE : Hid (conTail code n kind l = ⟨#[]⟩) := Lib.hid (by simp only [conTail, h0, h1, he, if_true, if_false, Bool.false_eq_true])
        go_wp2
        go_ret
        exact ⟨by rw [HE.out]; rfl, HB2.out⟩
    · have HE : Hid (conTail code n kind l = ⟨#[]⟩) := Lib.hid (by simp only [conTail, h0, h1, if_true, if_false, Bool.false_eq_true])
      go_wp2
      go_ret
      exact ⟨by rw [HE.out]; rfl, HB2.out⟩
  · have HE : Hid (conTail code n kind l = ⟨#[]⟩) := Lib.hid (by simp only [conTail, h0, if_true, if_false, Bool.false_eq_true])
    go_wp2
    go_ret
    exact ⟨by rw [HE.out]; rfl, HB2.out⟩
def contB (v : Int) (p : Pk) (l : List Prp) : ByteArray × Int := if (contV v p l != 0) = true then (⟨#[]⟩, contV v p l) else (conTail p.code p.props.n p.kind l, 0)
set_option maxRecDepth 100000 in
theorem contB_t (v : Int) (p : Pk) (lw lp : List Prp) (HT : Hid (lp ≠ [] → TopicOK)) (w : World) (hrw : RP w p.wProps.A p.wProps.n lw) (hrp : RP w p.props.A p.props.n lp) :
    Calls Try.prog 13 #[.int .i64 v, .agg (packC p)] w fun e w' => e = .returned (.tuple #[.string (contB v p lp).1, .int .i64 (contB v p lp).2]) ∧ Below w.heap.size w w' := by
  have HW := Lib.hid hrw
  have HP := Lib.hid hrp
  clear hrw hrp
  have HB1 := Lib.hid ((Below.refl w.heap.size w).alloc (Nat.le_refl _) (.cells (packC p) 35))
  have HGp1 := Lib.hid (heap_alloc_new w (.cells (packC p) 35))
  go_enter Try.func13, Try.ntmps13
  go_wp2_with ((with_reducible refine pk_load (w.heap.size) (p) ?x1 HGp1.out ?a1 ?b1 ?c1 ?d1); (case a1 => rfl); (case b1 => rfl); (case c1 => rfl))
  refine (contV_t v p lw lp HT _ (HW.out.below HB1.out) (HP.out.below HB1.out)).mono ?_
  rintro e w2 ⟨rfl, hb⟩
  have HB2 := Lib.hid (ext_then' HB1.out hb)
  have HGp2 := Lib.hid (row_then HGp1.out hb)
  clear hb HB1 HGp1
  have cp_0 : w2.cell? ⟨w.heap.size, 0, none⟩ = some (.int .i64 (p.kind)) := pack_at HGp2.out 0 _ rfl
  have cp_21 : w2.cell? ⟨w.heap.size, 21, none⟩ = some (.int .i64 (p.code)) := pack_at HGp2.out 21 _ rfl
  have cp_24 : w2.cell? ⟨w.heap.size, 24, none⟩ = some (.slice p.props.A p.props.n p.props.c) := pack_at HGp2.out 24 _ rfl
  cases he : (contV v p lp != 0)
  · go_wp2_with ((with_reducible refine pk_load (w.heap.size) (p) ?x2 HGp2.out ?a2 ?b2 ?c2 ?d2); (case a2 => rfl); (case b2 => rfl); (case c2 => rfl))
    refine (ctail_t p.code p.props.A p.props.n p.props.c p.kind lp HT _ (HP.out.below HB2.out)).mono ?_
    rintro e w3 ⟨rfl, hb⟩
    have HB3 := Lib.hid (ext_then' HB2.out hb)
    have HGp3 := Lib.hid (row_then HGp2.out hb)
    clear hb HB2 HGp2
    clear cp_0 cp_21 cp_24
    have cp_0 : w3.cell? ⟨w.heap.size, 0, none⟩ = some (.int .i64 (p.kind)) := pack_at HGp3.out 0 _ rfl
    have cp_21 : w3.cell? ⟨w.heap.size, 21, none⟩ = some (.int .i64 (p.code)) := pack_at HGp3.out 21 _ rfl
    have cp_24 : w3.cell? ⟨w.heap.size, 24, none⟩ = some (.slice p.props.A p.props.n p.props.c) := pack_at HGp3.out 24 _ rfl
    have HE : Hid (contB v p lp = (conTail p.code p.props.n p.kind lp, 0)) := Lib.hid (by simp only [contB, he, if_true, if_false, Bool.false_eq_true])
    go_wp2
    go_ret2
    exact ⟨by rw [HE.out]; rfl, HB3.out⟩
  · have HE : Hid (contB v p lp = (⟨#[]⟩, contV v p lp)) := Lib.hid (by simp only [contB, he, if_true, if_false, Bool.false_eq_true])
    go_wp2
    go_ret2
    exact ⟨by rw [HE.out]; rfl, HB2.out⟩
theorem sameEq_kind (k c : Int) : sameEq (codePk k 0 c) (kindQ (codePk k 0 c)) = (c == 0) := by
  by_cases h : c = 0
  · subst h; simp [sameEq, bareEq, willEq, kindQ, codePk, zeroPk, zeroSl]
  · have : (c == 0) = false := by simpa using h
    rw [this]
    simp [sameEq, bareEq, willEq, kindQ, codePk, zeroPk, zeroSl, h]
theorem sameEq_con (k c : Int) : sameEq (codePk k 0 c) (conQ (codePk k 0 c)) = true := by
  simp [sameEq, bareEq, willEq, conQ, codePk, zeroPk, zeroSl]
theorem contV_ping {v k : Int} (h0 : knownC v k = 0) (h1 : (saysB v k).1 = false) (c : Int) : contV v (codePk k 0 c) [] = if (c == 0) = true then 0 else 2 := by
  unfold contV
  rw [sameEq_kind]
  change (if (knownC v k != 0) = true then knownC v k else if (saysB v k).1 = true then _ else if (c == 0) = true then (bytesF k []).2 else 2) = _
  rw [h0, h1, bytes_none]
  rfl
theorem contV_late {v k : Int} (h0 : knownC v k = 0) (h1 : (saysB v k).1 = true) (c : Int) : contV v (codePk k 0 c) [] = if mayB k c = true then 0 else 2 := by
  unfold contV
  rw [sameEq_con]
  change (if (knownC v k != 0) = true then knownC v k else if (saysB v k).1 = true then (if mayB k c = true then (if true = true then (bytesF k []).2 else 2) else 2) else _) = _
  rw [h0, h1, bytes_none]
  rfl
theorem conTail_none (c k : Int) (h0 : 0 ≤ c) (h1 : c < 256) : conTail c 0 k [] = if (c == 0) = true then ⟨#[]⟩ else be1 c := by
  unfold conTail
  rw [bytes_none]
  have e0 : decide (c < 0) = false := by simp; omega
  have e1 : decide (255 < c) = false := by simp; omega
  rw [e0, e1]
  by_cases h : c = 0
  · subst h; rfl
  · have e2 : (c == 0) = false := by simpa using h
    have e3 : decide (0 < c) = true := by simp; omega
    rw [e2, e3]
    rfl
theorem contB_no {v k c : Int} (r : Int) (h : contV v (codePk k 0 c) [] = r) (hr : (r != 0) = true) : contB v (codePk k 0 c) [] = (⟨#[]⟩, r) := by
  unfold contB; rw [h, if_pos hr]
theorem contB_yes {v k c : Int} (h : contV v (codePk k 0 c) [] = 0) (h0 : 0 ≤ c) (h1 : c < 256) : contB v (codePk k 0 c) [] = (if (c == 0) = true then ⟨#[]⟩ else be1 c, 0) := by
  unfold contB; rw [h, if_neg (by decide)]
  change (conTail c 0 k [], (0 : Int)) = _
  rw [conTail_none c k h0 h1]
theorem codeT_t (v k c : Int) (w : World) : Calls Try.prog 13 #[.int .i64 v, .agg (packC (codePk k 0 c))] w fun e w' => e = .returned (.tuple #[.string (contB v (codePk k 0 c) []).1, .int .i64 (contB v (codePk k 0 c) []).2]) ∧ Below w.heap.size w w' :=
  contB_t v (codePk k 0 c) [] [] noTopic w (nil_RP w) (nil_RP w)
theorem tlive_a : contB 5 (codePk 14 0 0) [] = (⟨#[]⟩, 0) := by
  rw [contB_yes (by rw [contV_late (by decide) (by decide), if_pos (by decide +kernel)]) (by decide) (by decide)]; rfl
theorem tlive_b : contB 5 (codePk 14 0 4) [] = (⟨#[4]⟩, 0) := by
  rw [contB_yes (by rw [contV_late (by decide) (by decide), if_pos (by decide +kernel)]) (by decide) (by decide)]; rfl
set_option maxRecDepth 100000 in
theorem lives12_t (w : World) : Calls Try.prog 12 #[] w fun e w' => e = .returned (.bool true) ∧ Below w.heap.size w w' := by
  have HB0 := Lib.hid (Below.refl w.heap.size w)
  go_enter Try.func12, Try.ntmps12
  go_wp2_with fail
  refine (codeT_t 5 14 0 _).mono ?_
  rintro e w1 ⟨rfl, hb⟩
  have HB1 := Lib.hid (ext_then' (w := w) (by repeat (first | exact HB0.out | refine Below.drew ?_ | (refine Below.alloc ?_ (by first | exact (HB0.out).size | (simp; done) | (have := (HB0.out).size; simp; omega)) _) | (refine Below.setCell ?_ (by first | (simp; done) | (have := (HB0.out).size; simp; omega)) _))) hb)
  clear hb HB0
  rw [tlive_a]
  go_wp2_with fail
  refine (codeT_t 5 14 4 _).mono ?_
  rintro e w2 ⟨rfl, hb⟩
  have HB2 := Lib.hid (ext_then' (w := w) (by repeat (first | exact HB1.out | refine Below.drew ?_ | (refine Below.alloc ?_ (by first | exact (HB1.out).size | (simp; done) | (have := (HB1.out).size; simp; omega)) _) | (refine Below.setCell ?_ (by first | (simp; done) | (have := (HB1.out).size; simp; omega)) _))) hb)
  clear hb HB1
  rw [tlive_b]
  go_wp2
  go_ret
  exact ⟨rfl, (by repeat (first | exact HB2.out | refine Below.drew ?_ | (refine Below.alloc ?_ (by first | exact (HB2.out).size | (simp; done) | (have := (HB2.out).size; simp; omega)) _) | (refine Below.setCell ?_ (by first | (simp; done) | (have := (HB2.out).size; simp; omega)) _)))⟩
end Go.Proofs.Ytnbgmpfldoaodab
