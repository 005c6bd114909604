/- ack.rest: its walk. -/
import Derived.Test.YtnbgmpfldoaodabPc
import Derived.Test.YtnbgmpfldoaodabAckB
namespace Go.Proofs.Ytnbgmpfldoaodab
open Go.RowKit Go.Sort
set_option maxHeartbeats 2000000
set_option linter.unusedVariables false
set_option linter.unusedSimpArgs false
def restA (kind : Int) (c : Cu) : Int × List Prp × Cu :=
  if leftF c == 0 then (0, [], c)
  else if leftF (takeF c 1).2 == 0 then (numF c 1, [], if numF c 1 == 0 then failF (takeF c 1).2 5 else (takeF c 1).2)
  else
    (numF c 1, (preadF kind (restF (takeF c 1).2)).1,
      let c3 := (takeF (failF (takeF c 1).2 (preadF kind (restF (takeF c 1).2)).2.2) (preadF kind (restF (takeF c 1).2)).2.1).2
      if ((preadF kind (restF (takeF c 1).2)).1.length : Int) == 0 then failF c3 5 else c3)
theorem restA_ok (kind : Int) {c : Cu} (ok : CuOK c) : CuOK (restA kind c).2.2 := by
  unfold restA
  split
  · exact ok
  · split
    · simp only []; split
      · exact failF_ok (takeF_ok ok 1) 5
      · exact takeF_ok ok 1
    · simp only []; split
      · exact failF_ok (takeF_ok (failF_ok (takeF_ok ok 1) _) _) 5
      · exact takeF_ok (failF_ok (takeF_ok ok 1) _) _
def setC (p : Pk) (z : Int) : Pk := { p with code := z }
def setS (p : Pk) (s : Sl) : Pk := { p with props := s }
set_option maxRecDepth 100000 in
theorem ackrest_t (P g : Nat) (p : Pk) (c : Cu) (w : World) (h : PcAt w P g p c) (ok : CuOK c) (hp0 : p.props = nilS) (hc0 : p.code = 0) (hP : P < w.heap.size) (hg : g < w.heap.size) :
    Calls Try.prog 26 #[.pointer (some ⟨P, 0, none⟩), .pointer (some ⟨g, 0, none⟩)] w fun e w' =>
      e = .returned (.tuple #[]) ∧ ∃ sl, PcAt w' P g (setS (setC p (restA p.kind c).1) sl) (restA p.kind c).2.2 ∧ TwoBy P g w w' ∧ LsAt w' w.heap.size sl (restA p.kind c).2.1 := by
  have HLT := Lib.hid (⟨hP, hg⟩ : _ ∧ _)
  clear hP hg
  have HC := Lib.hid h
  have HO := Lib.hid ok
  have HR : Hid (restA p.kind c = _) := Lib.hid (by unfold restA; rfl)
  have HP0 := Lib.hid hp0
  have HC0 := Lib.hid hc0
  have k0 := pack_at h.pk 0 _ rfl
  clear h ok hp0 hc0
  go_enter Try.func26, Try.ntmps26
  go_wp2_with fail
  refine (left_t g c _ HC.out.cu HO.out).mono ?_
  rintro e w1 ⟨rfl, hc, hg⟩
  have HC1 := Lib.hid (pc_cur HC.out hc hg)
  have HT1 := Lib.hid (two_g (S := P) hg)
  clear hc hg k0
  cases hl : (leftF c == 0)
  case true =>
    have HE : Hid (restA p.kind c = (0, [], c)) := Lib.hid (HR.out.trans (if_pos hl))
    go_wp2
    refine bodyPost_ret (results_none rfl _ _ _) rfl ?_
    refine ⟨rfl, nilS, ?_, HT1.out, ?_⟩
    · rw [HE.out]; rw [show setS (setC p (0, ([] : List Prp), c).1) nilS = p from by rw [← HC0.out, ← HP0.out]; rfl]; exact HC1.out
    · rw [HE.out]; exact ls_nil _ _
  have HR1 := Lib.hid (HR.out.trans (if_neg (by rw [hl]; decide)))
  go_wp2_with fail
  refine (number_t g c 1 _ HC1.out.cu HO.out (by decide)).mono ?_
  rintro e w2 ⟨rfl, hc, hg⟩
  have HC2 := Lib.hid (pc_cur HC1.out hc hg)
  have HT2 := Lib.hid (HT1.out.trans (two_g (S := P) hg))
  have HO2 := Lib.hid (takeF_ok HO.out 1)
  obtain ⟨n0, n1⟩ : 0 ≤ numF c 1 ∧ numF c 1 < 4294967296 := getF_bd (k := 4) (Nat.le_trans (take_size HO.out 1) (by decide))
  have hnw := i64w n0 n1
  clear hc hg HR
  generalize numF c 1 = z at *
  generalize (takeF c 1).2 = c2 at *
  have HP2 : Hid (w2.heap[P]? = some (.cells (packC p) 35 (0, 0))) := Lib.hid HC2.out.pk
  go_wp2_with ((with_reducible refine pk_set P 21 (p) (setC p z) (.int .i64 z) ?t1 ?x1 ?y1 HP2.out ?a1 ?b1 ?c1 ?d1 ?e1 ?f1 ?g1 ?h1 ?i1); (case a1 => rfl); (case b1 => rfl); (case c1 => rfl); (case d1 => rfl); (case e1 => kernel_rfl); (case f1 => simp [Value.cells, Value.oneCell']); (case g1 => simp [Value.cells]); (case h1 => rfl))
  intro w3 hp3 hg3
  have HC3 := Lib.hid (pc_pk HC2.out hp3 hg3)
  have HT3 := Lib.hid (HT2.out.trans (two_S (g := g) hg3))
  clear hp3 hg3 HP2
  go_wp2_with fail
  refine (left_t g c2 _ HC3.out.cu HO2.out).mono ?_
  rintro e w4 ⟨rfl, hc, hg⟩
  have HC4 := Lib.hid (pc_cur HC3.out hc hg)
  have HT4 := Lib.hid (HT3.out.trans (two_g (S := P) hg))
  clear hc hg
  cases hl2 : (leftF c2 == 0)
  case true =>
    have HR2 := Lib.hid (HR1.out.trans (if_pos hl2))
    have k21 := pack_at HC4.out.pk 21 (.int .i64 z) rfl
    cases hz : (z == 0)
    case true =>
      go_wp2_with fail
      refine (fail_t g c2 5 _ HC4.out.cu).mono ?_
      rintro e w5 ⟨rfl, hc, hg⟩
      have HC5 := Lib.hid (pc_cur HC4.out hc hg)
      have HT5 := Lib.hid (HT4.out.trans (two_g (S := P) hg))
      clear hc hg k21
      rw [hz, if_pos rfl] at HR2
      go_wp2
      refine bodyPost_ret (results_none rfl _ _ _) rfl ?_
      refine ⟨rfl, nilS, ?_, HT5.out, ?_⟩
      · rw [HR2.out]; rw [show setS (setC p z) nilS = setC p z from by rw [← HP0.out]; rfl]; exact HC5.out
      · rw [HR2.out]; exact ls_nil _ _
    case false =>
      rw [hz, if_neg Bool.false_ne_true] at HR2
      go_wp2
      refine bodyPost_ret (results_none rfl _ _ _) rfl ?_
      refine ⟨rfl, nilS, ?_, HT4.out, ?_⟩
      · rw [HR2.out]; rw [show setS (setC p z) nilS = setC p z from by rw [← HP0.out]; rfl]; exact HC4.out
      · rw [HR2.out]; exact ls_nil _ _
  have HR3 := Lib.hid (HR1.out.trans (if_neg (by rw [hl2]; decide)))
  have k0 := pack_at HC4.out.pk 0 (.int .i64 p.kind) rfl
  have HA : Hid (PcAt w4.drew P g (setC p z) c2) := Lib.hid ⟨HC4.out.pk, HC4.out.cu, HC4.out.ne⟩
  have HTA : Hid (TwoBy P g w w4.drew) := Lib.hid ⟨HT4.out.os, HT4.out.tape, HT4.out.output, HT4.out.size, HT4.out.block⟩
  have HSZ := Lib.hid (rest_le HO2.out)
  go_wp2_with fail
  go_region_held3 (fun w' => w'.cell? ⟨P, 0, none⟩ = some (.int .i64 p.kind))
    (first
      | go_keep
      | (rw [hg5.cell_far _ (Array.getElem?_eq_some_iff.1 HA.out.pk).1 (fun e => HA.out.ne (by simpa using e))]; assumption)
      | (rw [hb6.cell (p := ⟨P, 0, none⟩) (Nat.lt_of_lt_of_le (Array.getElem?_eq_some_iff.1 HA.out.pk).1 hg5.size)]; assumption))
    (first
      | (go_at_call 49; refine (rest_t g c2 _ HA.out.cu HO2.out).mono ?_; rintro e w5 ⟨rfl, hc5, hg5⟩)
      | (go_at_call 48; refine (pread_t p.kind (restF c2) _ HSZ.out).mono ?_; rintro e w6 ⟨v, rfl, hb6, hown6, hok6⟩))
  have HC6 := Lib.hid (pc_below (pc_cur HA.out hc5 hg5) hb6)
  have HT6 := Lib.hid ((HTA.out.trans (two_g (S := P) hg5)).trans (two_below hb6))
  obtain ⟨sl, rfl, hn, hls⟩ := ls_of hown6 hok6
  have HN := Lib.hid hn
  have HLS := Lib.hid (ls_mono hls (Nat.le_trans HTA.out.size hg5.size))
  clear hc5 hg5 hb6 hown6 hok6 hls k0 HA HTA hn
  generalize hpr : preadF p.kind (restF c2) = pr at *
  obtain ⟨l, size, e⟩ := pr
  go_wp2_with fail
  refine (fail_t g c2 e _ HC6.out.cu).mono ?_
  rintro e7 w7 ⟨rfl, hc, hg⟩
  have HC7 := Lib.hid (pc_cur HC6.out hc hg)
  have HT7 := Lib.hid (HT6.out.trans (two_g (S := P) hg))
  have HLS7 := Lib.hid (ls_two HLS.out (two_g (S := P) hg) HLT.out.1 HLT.out.2)
  clear hc hg
  go_wp2_with fail
  refine (take_t g (failF c2 e) size _ HC7.out.cu (failF_ok HO2.out e)).mono ?_
  rintro e8 w8 ⟨rfl, hc, hg⟩
  have HC8 := Lib.hid (pc_cur HC7.out hc hg)
  have HT8 := Lib.hid (HT7.out.trans (two_g (S := P) hg))
  have HLS8 := Lib.hid (ls_two HLS7.out (two_g (S := P) hg) HLT.out.1 HLT.out.2)
  clear hc hg
  have HR4 : Hid (restA p.kind c = (z, l, if ((l.length : Int) == 0) = true then failF (takeF (failF c2 e) size).2 5 else (takeF (failF c2 e) size).2)) := HR3
  generalize (takeF (failF c2 e) size).2 = c8 at *
  cases hl0 : ((l.length : Int) == 0)
  case true =>
    have hn0 : ((sl.n : Int) == 0) = true := by rw [HN.out]; exact hl0
    rw [hl0, if_pos rfl] at HR4
    go_wp2_with fail
    refine (fail_t g c8 5 _ HC8.out.cu).mono ?_
    rintro e9 w9 ⟨rfl, hc, hg⟩
    have HC9 := Lib.hid (pc_cur HC8.out hc hg)
    have HT9 := Lib.hid (HT8.out.trans (two_g (S := P) hg))
    have HLS9 := Lib.hid (ls_two HLS8.out (two_g (S := P) hg) HLT.out.1 HLT.out.2)
    clear hc hg
    have HP9 : Hid (w9.heap[P]? = some (.cells (packC (setC p z)) 35 (0, 0))) := Lib.hid HC9.out.pk
    go_wp2_with ((with_reducible refine pk_set P 24 (setC p z) (setS (setC p z) sl) (.slice sl.A sl.n sl.c) ?t2 ?x2 ?y2 HP9.out ?a2 ?b2 ?c2 ?d2 ?e2 ?f2 ?g2 ?h2 ?i2); (case a2 => rfl); (case b2 => rfl); (case c2 => rfl); (case d2 => rfl); (case e2 => kernel_rfl); (case f2 => simp [Value.cells, Value.oneCell']); (case g2 => simp [Value.cells]); (case h2 => rfl))
    intro w10 hp10 hg10
    have HC10 := Lib.hid (pc_pk HC9.out hp10 hg10)
    have HT10 := Lib.hid (HT9.out.trans (two_S (g := g) hg10))
    have HLS10 := Lib.hid (ls_two HLS9.out (two_S (g := g) hg10) HLT.out.1 HLT.out.2)
    clear hp10 hg10 HP9
    go_wp2
    go_end0
    exact ⟨rfl, sl, by rw [HR4.out]; exact HC10.out, HT10.out, by rw [HR4.out]; exact HLS10.out⟩
  case false =>
    have hn0 : ((sl.n : Int) == 0) = false := by rw [HN.out]; exact hl0
    rw [hl0, if_neg Bool.false_ne_true] at HR4
    have HP9 : Hid (w8.heap[P]? = some (.cells (packC (setC p z)) 35 (0, 0))) := Lib.hid HC8.out.pk
    go_wp2_with ((with_reducible refine pk_set P 24 (setC p z) (setS (setC p z) sl) (.slice sl.A sl.n sl.c) ?t3 ?x3 ?y3 HP9.out ?a3 ?b3 ?c3 ?d3 ?e3 ?f3 ?g3 ?h3 ?i3); (case a3 => rfl); (case b3 => rfl); (case c3 => rfl); (case d3 => rfl); (case e3 => kernel_rfl); (case f3 => simp [Value.cells, Value.oneCell']); (case g3 => simp [Value.cells]); (case h3 => rfl))
    intro w10 hp10 hg10
    have HC10 := Lib.hid (pc_pk HC8.out hp10 hg10)
    have HT10 := Lib.hid (HT8.out.trans (two_S (g := g) hg10))
    have HLS10 := Lib.hid (ls_two HLS8.out (two_S (g := g) hg10) HLT.out.1 HLT.out.2)
    clear hp10 hg10 HP9
    go_wp2
    go_end0
    exact ⟨rfl, sl, by rw [HR4.out]; exact HC10.out, HT10.out, by rw [HR4.out]; exact HLS10.out⟩
end Go.Proofs.Ytnbgmpfldoaodab
