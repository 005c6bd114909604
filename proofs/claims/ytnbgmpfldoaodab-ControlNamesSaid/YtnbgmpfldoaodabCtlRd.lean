/- control.Read. -/
import Derived.Test.YtnbgmpfldoaodabAckRd
import Derived.Test.YtnbgmpfldoaodabTold
namespace Go.Proofs.Ytnbgmpfldoaodab
open Go.RowKit Go.Sort
set_option maxHeartbeats 2000000
set_option linter.unusedVariables false
set_option linter.unusedSimpArgs false
def conE (v kind : Int) (r : Int × List Prp × Int) : Int := if r.2.2 = 0 then contV v (mkP kind 0 r.1 (lenS r.2.1.length)) r.2.1 else r.2.2
def sayT (v kind : Int) (s : ByteArray) : Int × List Prp × Int := if (saysB v kind).1 = true then toldF kind s else (0, [], if s.size = 0 then 0 else 5)
def ctlRd (v kind : Int) (s : ByteArray) : Int × List Prp × Int :=
  if (knownC v kind != 0) = true then (0, [], knownC v kind)
  else if conE v kind (sayT v kind s) = 0 then ((sayT v kind s).1, (sayT v kind s).2.1, 0) else (0, [], conE v kind (sayT v kind s))
def resC (kind : Int) (r : Int × List Prp × Int) (s : Sl) : Pk := if r.2.2 = 0 then mkP kind 0 r.1 s else zeroPk
theorem sameEq_n {k i c : Int} {s s' : Sl} (h : s.n = s'.n) : sameEq (mkP k i c s) (conQ (mkP k i c s)) = sameEq (mkP k i c s') (conQ (mkP k i c s')) ∧ sameEq (mkP k i c s) (kindQ (mkP k i c s)) = sameEq (mkP k i c s') (kindQ (mkP k i c s')) := by
  constructor
  · show (_ && (_ && (_ && (_ && (s.n == s.n))))) = (_ && (_ && (_ && (_ && (s'.n == s'.n)))))
    rw [h]; rfl
  · show (_ && (_ && (_ && (_ && (s.n == 0))))) = (_ && (_ && (_ && (_ && (s'.n == 0)))))
    rw [h]; rfl
theorem contV_sl (v k i c : Int) (s s' : Sl) (l : List Prp) (h : s.n = s'.n) : contV v (mkP k i c s) l = contV v (mkP k i c s') l := by
  obtain ⟨e1, e2⟩ := sameEq_n (k := k) (i := i) (c := c) h
  unfold contV
  rw [e1, e2]
  rfl
theorem rows_below {w w1 w2 : World} {g P : Nat} {o : Obj} (h : w1.heap[P]? = some o) (hg : w1.grownBy w2 (some g)) (hne : P ≠ g) : w2.heap[P]? = some o := row_grown h hg hne
set_option maxHeartbeats 20000000 in
set_option maxRecDepth 100000 in
theorem ctlread_t (v kind : Int) (s : ByteArray) (w : World) (hs : s.size ≤ 140737488351232) : Calls Try.prog 14 #[.int .i64 v, .int .i64 kind, .string s] w fun e w' => ∃ sl, LsAt w' w.heap.size sl (ctlRd v kind s).2.1 ∧ e = .returned (.tuple #[.agg (packC (resC kind (ctlRd v kind s) sl)), .int .i64 (ctlRd v kind s).2.2]) ∧ Below w.heap.size w w' := by
  have HB1 := Lib.hid ((Below.refl w.heap.size w).alloc (Nat.le_refl _) (.cells (packC zeroPk) 35))
  have HR1 := Lib.hid (heap_alloc_new w (.cells (packC zeroPk) 35))
  have HZ1 : Hid ((w.alloc (.cells (packC zeroPk) 35)).heap.size = w.heap.size + 1) := Lib.hid (by simp)
  have HF : Hid (ctlRd v kind s = _) := Lib.hid (by unfold ctlRd; rfl)
  have HS := Lib.hid hs
  clear hs
  go_enter Try.func14, Try.ntmps14
  go_wp2_with fail
  refine (knownC_t v kind _).mono ?_
  rintro e w2 ⟨rfl, hb⟩
  have HR2 := Lib.hid (row_then HR1.out hb)
  have HB2 := Lib.hid (ext_then' HB1.out hb)
  have HZ2 : Hid (w.heap.size + 1 ≤ w2.heap.size) := Lib.hid (by rw [← HZ1.out]; exact hb.size)
  clear hb HB1 HR1 HZ1
  cases hk : (knownC v kind != 0)
  case true =>
    have HE : Hid (ctlRd v kind s = (0, [], knownC v kind)) := Lib.hid (HF.out.trans (if_pos hk))
    have hne : ¬ knownC v kind = 0 := by simpa using hk
    have HNE := Lib.hid hne
    have HR := HR2
    clear hne
    generalize knownC v kind = kn at *
    go_wp2_with (first | ((with_reducible refine pk_store (w.heap.size) (zeroPk) ?sx1 ?sy1 _ HR.out ?sa1 ?sb1 ?sc1 ?sd1 ?se1 ?sf1); (case sa1 => rfl); (case sb1 => rfl); (case sc1 => rfl); (case sd1 => rfl); (case se1 => rfl)))
    intro w9 hg hgr
    have HB9 := Lib.hid (grown_below HB2.out hgr (Nat.le_refl _))
    have HG9 := Lib.hid hg
    have HG9K := Lib.hid hgr
    clear hg hgr
    go_wp2
    refine bodyPost_ret (v := .tuple #[.agg (packC (zeroPk)), .int .i64 kn]) ?_ rfl ⟨nilS, by rw [HE.out]; exact ls_nil _ _, by rw [HE.out]; unfold resC; rw [if_neg HNE.out], HB9.out⟩
    exact results_pk (s := 6) (u := 7) rfl _ _ (w.heap.size) (zeroPk) rfl HG9.out
  have HF2 := Lib.hid (HF.out.trans (if_neg (by rw [hk]; decide)))
  clear HF
  go_wp2_with ((with_reducible refine pk_store w2.heap.size (mkP kind 0 0 nilS) ?nx ?ny _ (heap_alloc_new _ _) ?na ?nb ?nc ?nd ?ne ?nf); (case na => rfl); (case nb => rfl); (case nc => rfl); (case nd => rfl); (case ne => rfl))
  intro w3 hg hgr
  have HP3 := Lib.hid hg
  have HR3 := Lib.hid (row_store HR2.out hgr)
  have HB3 := Lib.hid (below_store HB2.out hgr)
  have HZ3 : Hid (w2.heap.size < w3.heap.size) := Lib.hid (by have := hgr.size; simp at this; omega)
  clear hg hgr HR2 HB2
  generalize w2.heap.size = P at *
  go_wp2_with fail
  refine (says_t v kind _).mono ?_
  rintro e w4 ⟨rfl, hb⟩
  have HP4 := Lib.hid (row_then HP3.out hb)
  have HR4 := Lib.hid (row_then HR3.out hb)
  have HB4 := Lib.hid (ext_then' HB3.out hb)
  have HLT : Hid (P < w4.heap.size ∧ w.heap.size < w4.heap.size ∧ w.heap.size < P) := Lib.hid (by have := HZ3.out; have := HZ2.out; have := hb.size; exact ⟨by omega, by omega, by omega⟩)
  clear hb HP3 HR3 HB3 HZ2 HZ3
  obtain ⟨B, hB⟩ : ∃ B, w4.heap.size = B := ⟨_, rfl⟩
  rw [hB] at HLT
  have HBB := Lib.hid hB
  clear hB
  cases hm : (saysB v kind).1
  case false =>
    by_cases h0 : s.size = 0
    · obtain rfl : s = ⟨#[]⟩ := by apply ByteArray.ext; exact Array.eq_empty_of_size_eq_zero h0
      have HT : Hid (sayT v kind ⟨#[]⟩ = (0, [], 0)) := Lib.hid (by unfold sayT; rw [hm, if_neg Bool.false_ne_true]; rfl)
      have HLS : Hid (LsAt w4 B nilS []) := Lib.hid (ls_nil _ _)
      obtain ⟨s, hs0⟩ : ∃ x : ByteArray, ⟨#[]⟩ = x := ⟨_, rfl⟩
      have HS0 := Lib.hid hs0
      rw [hs0] at HT HF2
      clear hs0
      obtain ⟨code, hcode⟩ : ∃ x : Int, 0 = x := ⟨_, rfl⟩
      obtain ⟨l, hl⟩ : ∃ x : List Prp, [] = x := ⟨_, rfl⟩
      obtain ⟨sl, hsl⟩ : ∃ x : Sl, nilS = x := ⟨_, rfl⟩
      have HP : Hid (w4.heap[P]? = some (.cells (packC (mkP kind 0 code sl)) 35 (0, 0))) := Lib.hid (by rw [← hcode, ← hsl]; exact HP4.out)
      have HT : Hid (sayT v kind s = (code, l, 0)) := Lib.hid (by rw [HT.out, ← hcode, ← hl])
      rw [hsl, hl] at HLS
      have HRW := HR4
      have HBW := HB4
      clear hcode hl hsl HP4 HR4 HB4 h0
      have HRPs := Lib.hid (ls_RP HLS.out)
      have HQ : Hid (w4.heap[P]? = some (.cells (packC (mkP kind 0 code sl)) 35 (0, 0))) := HP
      go_wp2_with (((with_reducible refine pk_load (P) (mkP kind 0 code sl) ?lx2 HQ.out ?la2 ?lb2 ?lc2 ?ld2); (case la2 => rfl); (case lb2 => rfl); (case lc2 => rfl)))
      refine (contV_t v (mkP kind 0 code sl) [] l (topicH l) _ (nil_RP _) HRPs.out.2).mono ?_
      rintro e w13 ⟨rfl, hb⟩
      have HLS13 := Lib.hid (ls_below HLS.out hb)
      have HP13 := Lib.hid (row_then HP.out hb)
      have HR13 := Lib.hid (row_then HRW.out hb)
      have HB13 := Lib.hid (ext_then' HBW.out hb)
      have HAV : Hid (conE v kind (code, l, 0) = contV v (mkP kind 0 code sl) l) := Lib.hid (by unfold conE; rw [if_pos rfl]; exact contV_sl v kind 0 code (lenS l.length) sl l HRPs.out.1.symm)
      rw [HT.out, HAV.out] at HF2
      clear hb HLS HP HRW HBW HQ HAV
      generalize contV v (mkP kind 0 code sl) l = av at *
      have HR := HR13
      cases he : (av != 0)
      case true =>
        have HE : Hid (ctlRd v kind s = (0, [], av)) := Lib.hid (HF2.out.trans (if_neg (by simpa using he)))
        have hne : ¬ av = 0 := by simpa using he
        go_wp2_with (first | ((with_reducible refine pk_store (w.heap.size) (zeroPk) ?sx3 ?sy3 _ HR.out ?sa3 ?sb3 ?sc3 ?sd3 ?se3 ?sf3); (case sa3 => rfl); (case sb3 => rfl); (case sc3 => rfl); (case sd3 => rfl); (case se3 => rfl)))
        intro w9 hg hgr
        have HB9 := Lib.hid (grown_below HB13.out hgr (Nat.le_refl _))
        have HG9 := Lib.hid hg
        have HG9K := Lib.hid hgr
        clear hg hgr
        go_wp2
        refine bodyPost_ret (v := .tuple #[.agg (packC (zeroPk)), .int .i64 av]) ?_ rfl ⟨nilS, by rw [HS0.out, HE.out]; exact ls_nil _ _, by rw [HS0.out, HE.out]; unfold resC; rw [if_neg hne], HB9.out⟩
        exact results_pk (s := 6) (u := 7) rfl _ _ (w.heap.size) (zeroPk) rfl HG9.out
      have HE : Hid (ctlRd v kind s = (code, l, 0)) := Lib.hid (HF2.out.trans (if_pos (by simpa using he)))
      have HQ : Hid (w13.heap[P]? = some (.cells (packC (mkP kind 0 code sl)) 35 (0, 0))) := HP13
      go_wp2_with (first | ((with_reducible refine pk_store (w.heap.size) (mkP kind 0 code sl) ?sx5 ?sy5 _ HR.out ?sa5 ?sb5 ?sc5 ?sd5 ?se5 ?sf5); (case sa5 => rfl); (case sb5 => rfl); (case sc5 => rfl); (case sd5 => rfl); (case se5 => rfl)) | ((with_reducible refine pk_load (P) (mkP kind 0 code sl) ?lx4 HQ.out ?la4 ?lb4 ?lc4 ?ld4); (case la4 => rfl); (case lb4 => rfl); (case lc4 => rfl)))
      intro w9 hg hgr
      have HB9 := Lib.hid (grown_below HB13.out hgr (Nat.le_refl _))
      have HG9 := Lib.hid hg
      have HG9K := Lib.hid hgr
      clear hg hgr
      go_wp2
      refine bodyPost_ret (v := .tuple #[.agg (packC (mkP kind 0 code sl)), .int .i64 0]) ?_ rfl ⟨sl, by rw [HS0.out, HE.out]; exact ls_mono (ls_one HLS13.out HG9K.out HLT.out.2.1) (Nat.le_of_lt HLT.out.2.1), by rw [HS0.out, HE.out]; rfl, HB9.out⟩
      exact results_pk (s := 6) (u := 7) rfl _ _ (w.heap.size) (mkP kind 0 code sl) rfl HG9.out
    · have he1 : (s.toList.isEmpty) = false := by
        rw [ByteArray.toList_eq, List.isEmpty_eq_false_iff]
        intro e
        have := congrArg List.length e
        rw [Array.length_toList] at this
        exact h0 this
      have he2 : ¬ s.toList = [] := by simpa using he1
      have HT : Hid (sayT v kind s = (0, [], 5)) := Lib.hid (by unfold sayT; rw [hm, if_neg Bool.false_ne_true, if_neg h0])
      have HE : Hid (ctlRd v kind s = (0, [], 5)) := Lib.hid (by rw [HF2.out, HT.out]; rfl)
      have hne : ¬ (5 : Int) = 0 := by decide
      have HR := HR4
      clear h0
      go_wp2_with (first | ((with_reducible refine pk_store (w.heap.size) (zeroPk) ?sx6 ?sy6 _ HR.out ?sa6 ?sb6 ?sc6 ?sd6 ?se6 ?sf6); (case sa6 => rfl); (case sb6 => rfl); (case sc6 => rfl); (case sd6 => rfl); (case se6 => rfl)))
      intro w9 hg hgr
      have HB9 := Lib.hid (grown_below HB4.out hgr (Nat.le_refl _))
      have HG9 := Lib.hid hg
      have HG9K := Lib.hid hgr
      clear hg hgr
      go_wp2
      refine bodyPost_ret (v := .tuple #[.agg (packC (zeroPk)), .int .i64 5]) ?_ rfl ⟨nilS, by rw [HE.out]; exact ls_nil _ _, by rw [HE.out]; unfold resC; rw [if_neg hne], HB9.out⟩
      exact results_pk (s := 6) (u := 7) rfl _ _ (w.heap.size) (zeroPk) rfl HG9.out
  case true =>
    go_wp2_with fail
    refine (told_t kind s _ HS.out).mono ?_
    rintro e w5 ⟨sl, rfl, hb, hls⟩
    have HT0 : Hid (sayT v kind s = toldF kind s) := Lib.hid (by unfold sayT; rw [hm]; rfl)
    have HP5 := Lib.hid (row_then HP4.out hb)
    have HR5 := Lib.hid (row_then HR4.out hb)
    have HB5 := Lib.hid (ext_then' HB4.out hb)
    rw [HBB.out] at hls
    have HLS5 := Lib.hid hls
    clear hb hls HP4 HR4 HB4
    obtain ⟨⟨code, l, e0⟩, hr⟩ : ∃ r, toldF kind s = r := ⟨_, rfl⟩
    rw [hr] at HT0 HLS5
    rw [hr]
    clear hr
    have HLS5' : Hid (LsAt w5 B sl l) := HLS5
    clear HLS5
    simp only []
    go_wp2_with (((with_reducible refine pk_set P 21 (mkP kind 0 0 nilS) (mkP kind 0 code nilS) (.int .i64 code) ?pt7 ?px7 ?py7 HP5.out ?pa7 ?pb7 ?pc7 ?pd7 ?pe7 ?pf7 ?pg7 ?ph7 ?pi7); (case pa7 => rfl); (case pb7 => rfl); (case pc7 => rfl); (case pd7 => rfl); (case pe7 => kernel_rfl); (case pf7 => simp [Value.cells, Value.oneCell']); (case pg7 => simp [Value.cells]); (case ph7 => rfl)))
    intro w6 hp6 hg6
    have HP6 := Lib.hid hp6
    have HR6 := Lib.hid (row_grown HR5.out hg6 (by have := HLT.out.2.2; omega))
    have HB6 := Lib.hid (grown_below HB5.out hg6 (by have := HLT.out.2.2; omega))
    have HLS6 := Lib.hid (ls_one HLS5'.out hg6 HLT.out.1)
    clear hp6 hg6 HP5 HR5 HB5 HLS5'
    go_wp2_with (((with_reducible refine pk_set P 24 (mkP kind 0 code nilS) (mkP kind 0 code sl) (.slice sl.A sl.n sl.c) ?pt8 ?px8 ?py8 HP6.out ?pa8 ?pb8 ?pc8 ?pd8 ?pe8 ?pf8 ?pg8 ?ph8 ?pi8); (case pa8 => rfl); (case pb8 => rfl); (case pc8 => rfl); (case pd8 => rfl); (case pe8 => kernel_rfl); (case pf8 => simp [Value.cells, Value.oneCell']); (case pg8 => simp [Value.cells]); (case ph8 => rfl)))
    intro w7 hp7 hg7
    have HP : Hid (w7.heap[P]? = some (.cells (packC (mkP kind 0 code sl)) 35 (0, 0))) := Lib.hid hp7
    have HRW := Lib.hid (row_grown HR6.out hg7 (by have := HLT.out.2.2; omega))
    have HBW := Lib.hid (grown_below HB6.out hg7 (by have := HLT.out.2.2; omega))
    have HLS := Lib.hid (ls_one HLS6.out hg7 HLT.out.1)
    clear hp7 hg7 HP6 HR6 HB6 HLS6
    cases he0 : (e0 != 0)
    case true =>
      have hne : ¬ e0 = 0 := by simpa using he0
      have HE : Hid (ctlRd v kind s = (0, [], e0)) := Lib.hid (by rw [HF2.out, HT0.out]; unfold conE; rw [if_neg hne, if_neg hne])
      have hq0 : (e0 == 0) = false := by simpa using hne
      have HR := HRW
      go_wp2_with (first | ((with_reducible refine pk_store (w.heap.size) (zeroPk) ?sx9 ?sy9 _ HR.out ?sa9 ?sb9 ?sc9 ?sd9 ?se9 ?sf9); (case sa9 => rfl); (case sb9 => rfl); (case sc9 => rfl); (case sd9 => rfl); (case se9 => rfl)))
      intro w9 hg hgr
      have HB9 := Lib.hid (grown_below HBW.out hgr (Nat.le_refl _))
      have HG9 := Lib.hid hg
      have HG9K := Lib.hid hgr
      clear hg hgr
      go_wp2
      refine bodyPost_ret (v := .tuple #[.agg (packC (zeroPk)), .int .i64 e0]) ?_ rfl ⟨nilS, by rw [HE.out]; exact ls_nil _ _, by rw [HE.out]; unfold resC; rw [if_neg hne], HB9.out⟩
      exact results_pk (s := 6) (u := 7) rfl _ _ (w.heap.size) (zeroPk) rfl HG9.out
    have hq : e0 = 0 := by simpa using he0
    subst hq
    have HT : Hid (sayT v kind s = (code, l, 0)) := HT0
    clear HT0
    have HRPs := Lib.hid (ls_RP HLS.out)
    have HQ : Hid (w7.heap[P]? = some (.cells (packC (mkP kind 0 code sl)) 35 (0, 0))) := HP
    go_wp2_with (((with_reducible refine pk_load (P) (mkP kind 0 code sl) ?lx10 HQ.out ?la10 ?lb10 ?lc10 ?ld10); (case la10 => rfl); (case lb10 => rfl); (case lc10 => rfl)))
    refine (contV_t v (mkP kind 0 code sl) [] l (topicH l) _ (nil_RP _) HRPs.out.2).mono ?_
    rintro e w13 ⟨rfl, hb⟩
    have HLS13 := Lib.hid (ls_below HLS.out hb)
    have HP13 := Lib.hid (row_then HP.out hb)
    have HR13 := Lib.hid (row_then HRW.out hb)
    have HB13 := Lib.hid (ext_then' HBW.out hb)
    have HAV : Hid (conE v kind (code, l, 0) = contV v (mkP kind 0 code sl) l) := Lib.hid (by unfold conE; rw [if_pos rfl]; exact contV_sl v kind 0 code (lenS l.length) sl l HRPs.out.1.symm)
    rw [HT.out, HAV.out] at HF2
    clear hb HLS HP HRW HBW HQ HAV
    generalize contV v (mkP kind 0 code sl) l = av at *
    have HR := HR13
    cases he : (av != 0)
    case true =>
      have HE : Hid (ctlRd v kind s = (0, [], av)) := Lib.hid (HF2.out.trans (if_neg (by simpa using he)))
      have hne : ¬ av = 0 := by simpa using he
      go_wp2_with (first | ((with_reducible refine pk_store (w.heap.size) (zeroPk) ?sx11 ?sy11 _ HR.out ?sa11 ?sb11 ?sc11 ?sd11 ?se11 ?sf11); (case sa11 => rfl); (case sb11 => rfl); (case sc11 => rfl); (case sd11 => rfl); (case se11 => rfl)))
      intro w9 hg hgr
      have HB9 := Lib.hid (grown_below HB13.out hgr (Nat.le_refl _))
      have HG9 := Lib.hid hg
      have HG9K := Lib.hid hgr
      clear hg hgr
      go_wp2
      refine bodyPost_ret (v := .tuple #[.agg (packC (zeroPk)), .int .i64 av]) ?_ rfl ⟨nilS, by rw [HE.out]; exact ls_nil _ _, by rw [HE.out]; unfold resC; rw [if_neg hne], HB9.out⟩
      exact results_pk (s := 6) (u := 7) rfl _ _ (w.heap.size) (zeroPk) rfl HG9.out
    have HE : Hid (ctlRd v kind s = (code, l, 0)) := Lib.hid (HF2.out.trans (if_pos (by simpa using he)))
    have HQ : Hid (w13.heap[P]? = some (.cells (packC (mkP kind 0 code sl)) 35 (0, 0))) := HP13
    go_wp2_with (first | ((with_reducible refine pk_store (w.heap.size) (mkP kind 0 code sl) ?sx13 ?sy13 _ HR.out ?sa13 ?sb13 ?sc13 ?sd13 ?se13 ?sf13); (case sa13 => rfl); (case sb13 => rfl); (case sc13 => rfl); (case sd13 => rfl); (case se13 => rfl)) | ((with_reducible refine pk_load (P) (mkP kind 0 code sl) ?lx12 HQ.out ?la12 ?lb12 ?lc12 ?ld12); (case la12 => rfl); (case lb12 => rfl); (case lc12 => rfl)))
    intro w9 hg hgr
    have HB9 := Lib.hid (grown_below HB13.out hgr (Nat.le_refl _))
    have HG9 := Lib.hid hg
    have HG9K := Lib.hid hgr
    clear hg hgr
    go_wp2
    refine bodyPost_ret (v := .tuple #[.agg (packC (mkP kind 0 code sl)), .int .i64 0]) ?_ rfl ⟨sl, by rw [HE.out]; exact ls_mono (ls_one HLS13.out HG9K.out HLT.out.2.1) (Nat.le_of_lt HLT.out.2.1), by rw [HE.out]; rfl, HB9.out⟩
    exact results_pk (s := 6) (u := 7) rfl _ _ (w.heap.size) (mkP kind 0 code sl) rfl HG9.out
end Go.Proofs.Ytnbgmpfldoaodab
