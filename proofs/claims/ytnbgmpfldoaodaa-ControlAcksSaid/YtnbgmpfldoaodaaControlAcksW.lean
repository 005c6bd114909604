/- The law ControlAcks of chapter 12: its walk. -/
import Derived.Test.YtnbgmpfldoaodaaControlB
import Derived.Test.YtnbgmpfldoaodaaTopic
namespace Go.Proofs.Ytnbgmpfldoaodaa
open Go.RowKit Go.Sort
set_option maxHeartbeats 2000000
set_option linter.unusedVariables false
set_option linter.unusedSimpArgs false
theorem topicH' (l : List Prp) : Hid (l ≠ [] → TopicOK) := Lib.hid fun _ => topic_ok
theorem ack_tail {v : Int} {p : Pk} {l : List Prp} (h : (ackV v p l != 0) = false) : ackB v p l = (be2 p.id ++ conTail p.code p.props.n p.kind l, 0) := by
  obtain ⟨_, _, hm, hb, _, _, _⟩ := ackV_zero h
  obtain ⟨r0, r1⟩ := mayB_range' hm
  have e0 : decide (p.code < 0) = false := by simp; omega
  have e1 : decide (255 < p.code) = false := by simp; omega
  have e2 : ((bytesF p.kind l).2 != 0) = false := by rw [hb]; rfl
  unfold ackB conTail
  rw [h, e0, e1, e2]
  simp only [Bool.false_eq_true, if_false]
  by_cases hc : p.code = 0
  · have c1 : (p.code != 0) = false := by simpa using hc
    have c2 : decide (0 < p.code) = false := by simp; omega
    rw [c1, c2]
    by_cases hn : p.props.n = 0
    · have n1 : ((p.props.n : Int) != 0) = false := by simp; omega
      have n2 : decide ((0 : Int) < (p.props.n : Int)) = false := by simp; omega
      rw [n1, n2]
      simp only [Bool.false_eq_true, if_false, if_true]
      first | rfl | (apply ByteArray.ext; simp)
    · have n1 : ((p.props.n : Int) != 0) = true := by simp; omega
      have n2 : decide ((0 : Int) < (p.props.n : Int)) = true := by simp; omega
      rw [n1, n2]
      simp [ByteArray.append_assoc]
  · have c1 : (p.code != 0) = true := by simpa using hc
    have c2 : decide (0 < p.code) = true := by simp; omega
    rw [c1, c2]
    by_cases hn : p.props.n = 0
    · have n1 : ((p.props.n : Int) != 0) = false := by simp; omega
      have n2 : decide ((0 : Int) < (p.props.n : Int)) = false := by simp; omega
      rw [n1, n2]
      simp
    · have n1 : ((p.props.n : Int) != 0) = true := by simp; omega
      have n2 : decide ((0 : Int) < (p.props.n : Int)) = true := by simp; omega
      rw [n1, n2]
      simp [ByteArray.append_assoc]
theorem extract_behind (a b : ByteArray) : (a ++ b).extract a.size (a ++ b).size = b := by
  apply ByteArray.ext
  have h1 : a.data.extract a.size (a.size + b.size) = #[] := by
    apply Array.eq_empty_of_size_eq_zero
    have e : a.data.size = a.size := rfl
    simp only [Array.size_extract, e]; omega
  have h2 : b.data.extract 0 b.size = b.data := by
    have e : b.data.size = b.size := rfl
    rw [← e]; exact Array.extract_size
  simp only [ByteArray.data_extract, ByteArray.data_append, ByteArray.size_append, Array.extract_append, h1]
  have e : a.data.size = a.size := rfl
  simp only [e, Nat.sub_self, Nat.add_sub_cancel_left, h2]
  simp
theorem conTail_size (c : Int) (n : Nat) (k : Int) (l : List Prp) : (conTail c n k l).size ≤ 131075005 := by
  have h := bytesF_size k l
  have h1 : (be1 c).size = 1 := by simp [be1, strOfNums_size]
  unfold conTail
  repeat' split
  all_goals first | exact Nat.zero_le _ | (rw [ByteArray.size_append]; omega) | omega
set_option maxRecDepth 100000 in
theorem controlAcks_t (p : Pk) (lw : List Prp) (lc : List Int) (lf : List Flt) (lp : List Prp) (w : World) (hr : RPk w p lw lc lf lp) :
    Calls Try.prog 10 #[.agg (packC p)] w fun e w' => e = .returned (.bool true) ∧ Below w.heap.size w w' := by
  have HP := Lib.hid hr
  clear hr
  have HB1 := Lib.hid ((Below.refl w.heap.size w).alloc (Nat.le_refl _) (.cells (packC p) 39))
  have HGp1 := Lib.hid (heap_alloc_new w (.cells (packC p) 39))
  go_enter Try.func10, Try.ntmps10
  go_wp2_with fail
  refine (lives12_t _).mono ?_
  rintro e w2 ⟨rfl, hb⟩
  have HB2 := Lib.hid (ext_then' HB1.out hb)
  have HGp2 := Lib.hid (row_then HGp1.out hb)
  clear hb HB1 HGp1
  go_wp2_with ((with_reducible refine pk_load (w.heap.size) (p) ?x1 HGp2.out ?a1 ?b1 ?c1 ?d1); (case a1 => rfl); (case b1 => rfl); (case c1 => rfl))
  refine (light_t p lw lc lf lp _ (HP.out.below HB2.out)).mono ?_
  rintro e w3 ⟨b, rfl, hb⟩
  have HB3 := Lib.hid (ext_then' HB2.out hb)
  have HGp3 := Lib.hid (row_then HGp2.out hb)
  clear hb HB2 HGp2
  cases b
  · go_wp2
    go_ret
    exact ⟨rfl, HB3.out⟩
  · cases he : (ackV 5 p lp != 0)
    · have H5 := Lib.hid (ack_tail he)
      have hx := extract_behind (be2 p.id) (conTail p.code p.props.n p.kind lp)
      have hsz : (be2 p.id ++ conTail p.code p.props.n p.kind lp).size = 2 + (conTail p.code p.props.n p.kind lp).size := by
        have : (be2 p.id).size = 2 := by simp [be2, strOfNums_size]
        rw [ByteArray.size_append, this]
      rw [show (be2 p.id).size = 2 by simp [be2, strOfNums_size]] at hx
      have hsz2 := conTail_size p.code p.props.n p.kind lp
      obtain ⟨t, ht⟩ : ∃ t, conTail p.code p.props.n p.kind lp = t := ⟨_, rfl⟩
      rw [ht] at hx hsz hsz2 H5
      have HT := Lib.hid ht
      obtain ⟨s, hs⟩ : ∃ s, be2 p.id ++ t = s := ⟨_, rfl⟩
      rw [hs] at hx hsz H5
      have hs2 : 2 ≤ s.size := by omega
      have hs3 : s.size ≤ 140737488351232 := by omega
      have hd2 : decide ((2 : Int) ≤ (s.size : Int)) = true := by simp; omega
      have hd3 : decide (2 ≤ s.size) = true := by simp; omega
      clear he ht hs hsz hsz2
      go_wp2_with ((with_reducible refine pk_load (w.heap.size) (p) ?x2 HGp3.out ?a2 ?b2 ?c2 ?d2); (case a2 => rfl); (case b2 => rfl); (case c2 => rfl))
      refine (ackB_t 5 p lw lp (topicH' lp) _ (HP.out.will.below HB3.out) (HP.out.props.below HB3.out)).mono ?_
      rintro e w4 ⟨rfl, hb⟩
      have HB4 := Lib.hid (ext_then' HB3.out hb)
      have HGp4 := Lib.hid (row_then HGp3.out hb)
      clear hb HB3 HGp3
      have cp_0 : w4.cell? ⟨w.heap.size, 0, none⟩ = some (.int .i64 (p.kind)) := pack_at HGp4.out 0 _ rfl
      have cp_21 : w4.cell? ⟨w.heap.size, 21, none⟩ = some (.int .i64 (p.code)) := pack_at HGp4.out 21 _ rfl
      have cp_24 : w4.cell? ⟨w.heap.size, 24, none⟩ = some (.slice p.props.A p.props.n p.props.c) := pack_at HGp4.out 24 _ rfl
      rw [H5.out]
      go_wp2_with fail
      have kcp_0 := cell_regrown cp_0
      have kcp_21 := cell_regrown cp_21
      have kcp_24 := cell_regrown cp_24
      have HC0 := Lib.hid (fun d os => Calls.regrown_of (by have := ctail_t p.code p.props.A p.props.n p.props.c p.kind lp (topicH' lp) (grow (redrawn w4 d) os) (HP.out.props.below (ext_then' HB4.out (below_regrown w4 d os))); rw [HT.out] at this; exact this))
      refine wp_region_quiet_below follows_mixedh (by kernel_rfl) ?_
      repeat (first | go_big_quiet_step ((go_at_call 40; exact HC0.out _ _)))
      refine wpQuiet_nil ?_
      intro _ hw'
      obtain ⟨⟨dq, osq⟩, hw''⟩ := hw'
      subst hw''
      have HB5 := Lib.hid (ext_then' HB4.out (below_regrown w4 dq osq))
      have HGp5 := Lib.hid (row_then HGp4.out (below_regrown w4 dq osq))
      generalize grow (redrawn w4 dq) osq = w5 at *
      clear HB4 HGp4 kcp_0 kcp_21 kcp_24 HC0
      clear cp_0 cp_21 cp_24
      have cp_0 : w5.cell? ⟨w.heap.size, 0, none⟩ = some (.int .i64 (p.kind)) := pack_at HGp5.out 0 _ rfl
      have cp_21 : w5.cell? ⟨w.heap.size, 21, none⟩ = some (.int .i64 (p.code)) := pack_at HGp5.out 21 _ rfl
      have cp_24 : w5.cell? ⟨w.heap.size, 24, none⟩ = some (.slice p.props.A p.props.n p.props.c) := pack_at HGp5.out 24 _ rfl
      go_wp2
      go_ret
      exact ⟨by first | rfl | simp, HB5.out⟩
    · have H5 : Hid (ackB 5 p lp = (⟨#[]⟩, ackV 5 p lp)) := Lib.hid (by simp only [ackB, he, if_true])
      go_wp2_with ((with_reducible refine pk_load (w.heap.size) (p) ?x3 HGp3.out ?a3 ?b3 ?c3 ?d3); (case a3 => rfl); (case b3 => rfl); (case c3 => rfl))
      refine (ackB_t 5 p lw lp (topicH' lp) _ (HP.out.will.below HB3.out) (HP.out.props.below HB3.out)).mono ?_
      rintro e w4 ⟨rfl, hb⟩
      have HB4 := Lib.hid (ext_then' HB3.out hb)
      have HGp4 := Lib.hid (row_then HGp3.out hb)
      clear hb HB3 HGp3
      rw [H5.out]
      go_wp2_with ((with_reducible refine pk_load (w.heap.size) (p) ?x4 HGp4.out ?a4 ?b4 ?c4 ?d4); (case a4 => rfl); (case b4 => rfl); (case c4 => rfl))
      refine (ackV_t 5 p (packC p) rfl lw lp (topicH' lp) _ (HP.out.will.below HB4.out) (HP.out.props.below HB4.out)).mono ?_
      rintro e w5 ⟨rfl, hb⟩
      have HB5 := Lib.hid (ext_then' HB4.out hb)
      have HGp5 := Lib.hid (row_then HGp4.out hb)
      clear hb HB4 HGp4
      go_wp2
      go_ret
      exact ⟨by first | rfl | simp, HB5.out⟩
end Go.Proofs.Ytnbgmpfldoaodaa
