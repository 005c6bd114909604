/- ack.Read. -/
import Derived.Test.YtnbgmpfldoaodabAckR
namespace Go.Proofs.Ytnbgmpfldoaodab
open Go.RowKit Go.Sort
set_option maxHeartbeats 2000000
set_option linter.unusedVariables false
set_option linter.unusedSimpArgs false
def idPk (k i : Int) : Pk := { zeroPk with kind := k, id := i }
def mkP (k i c : Int) (s : Sl) : Pk := setS (setC (idPk k i) c) s
def midA (v kind : Int) (c : Cu) : Int × List Prp × Cu := if v == 5 then (if c.err == 0 then restA kind c else (0, [], c)) else (0, [], c)
def endC (c : Cu) : Cu := if decide (0 < leftF c) = true then failF c 5 else c
theorem endC_ok {c : Cu} (ok : CuOK c) : CuOK (endC c) := by unfold endC; split; exact failF_ok ok 5; exact ok
def lenS (n : Nat) : Sl := ⟨none, n, 0⟩
def ackE (v kind i : Int) (r : Int × List Prp × Cu) : Int := (failF (endC r.2.2) (ackV v (mkP kind i r.1 (lenS r.2.1.length)) r.2.1)).err
def ackRd (v kind : Int) (s : ByteArray) : Int × Int × List Prp × Int :=
  if knownA v kind = true then
    (if ackE v kind (numF (newCu s) 2) (midA v kind (takeF (newCu s) 2).2) = 0 then (numF (newCu s) 2, (midA v kind (takeF (newCu s) 2).2).1, (midA v kind (takeF (newCu s) 2).2).2.1, 0)
     else (0, 0, [], ackE v kind (numF (newCu s) 2) (midA v kind (takeF (newCu s) 2).2)))
  else (0, 0, [], 2)
def resA (kind : Int) (r : Int × Int × List Prp × Int) (s : Sl) : Pk := if r.2.2.2 = 0 then mkP kind r.1 r.2.1 s else zeroPk
theorem two_row {P g R : Nat} {a b : World} {o : Obj} (ha : a.heap[R]? = some o) (h : TwoBy P g a b) (h1 : R ≠ P) (h2 : R ≠ g) : b.heap[R]? = some o := by
  rw [h.block R (Array.getElem?_eq_some_iff.1 ha).1 h1 h2]; exact ha
theorem two_Below {P g N : Nat} {w a b : World} (ha : Below N w a) (hN : N ≤ a.heap.size) (h : TwoBy P g a b) (h1 : N ≤ P) (h2 : N ≤ g) : Below N w b :=
  ⟨h.os.trans ha.os, h.tape.trans ha.tape, h.output.trans ha.output, Nat.le_trans ha.size h.size, fun i hi => (h.block i (by omega) (by omega) (by omega)).trans (ha.block i hi)⟩
theorem ls_one {w w' : World} {B R : Nat} {s : Sl} {l : List Prp} (h : LsAt w B s l) (hg : w.grownBy w' (some R)) (hR : R < B) : LsAt w' B s l :=
  ⟨own_two h.1 (fun i hi hB => hg.block i hi (fun e => by simp only [Option.some.injEq] at e; omega)), h.2⟩
theorem ackV_sl (v k i c : Int) (s s' : Sl) (l : List Prp) (h : s.n = s'.n) : ackV v (mkP k i c s) l = ackV v (mkP k i c s') l := by
  have e1 : (mkP k i c s).props.n = (mkP k i c s').props.n := h
  have e2 : sameEq (mkP k i c s) (ackQ (mkP k i c s)) = sameEq (mkP k i c s') (ackQ (mkP k i c s')) := by
    show (_ && (_ && (_ && (_ && (s.n == s.n))))) = (_ && (_ && (_ && (_ && (s'.n == s'.n)))))
    rw [h]
    rfl
  have e3 : ackT (mkP k i c s) l = ackT (mkP k i c s') l := by unfold ackT; rw [e2]; rfl
  unfold ackV
  rw [e1, e3]
  rfl
set_option maxHeartbeats 20000000 in
set_option maxRecDepth 100000 in
theorem ackread_t (v kind : Int) (s : ByteArray) (w : World) (hs : s.size ≤ 140737488351232) : Calls Try.prog 8 #[.int .i64 v, .int .i64 kind, .string s] w fun e w' => ∃ sl, e = .returned (.tuple #[.agg (packC (resA kind (ackRd v kind s) sl)), .int .i64 (ackRd v kind s).2.2.2]) ∧ Below w.heap.size w w' ∧ LsAt w' w.heap.size sl (ackRd v kind s).2.2.1 := by
  have HB1 := Lib.hid ((Below.refl w.heap.size w).alloc (Nat.le_refl _) (.cells (packC zeroPk) 35))
  have HR1 := Lib.hid (heap_alloc_new w (.cells (packC zeroPk) 35))
  have HF : Hid (ackRd v kind s = _) := Lib.hid (by unfold ackRd; rfl)
  have HS := Lib.hid hs
  go_enter Try.func8, Try.ntmps8
  go_wp2_with fail
  refine (knownA_t v kind _).mono ?_
  rintro e w1x ⟨rfl, rfl⟩
  cases hk : knownA v kind
  case false =>
    have HE : Hid (ackRd v kind s = (0, 0, [], 2)) := Lib.hid (HF.out.trans (if_neg (by rw [hk]; decide)))
    have HR := HR1
    clear HF
    go_wp2_with (first | ((with_reducible refine pk_store (w.heap.size) (zeroPk) ?sx1 ?sy1 _ (heap_alloc_new _ _) ?sa1 ?sb1 ?sc1 ?sd1 ?se1 ?sf1); (case sa1 => rfl); (case sb1 => rfl); (case sc1 => rfl); (case sd1 => rfl); (case se1 => rfl)))
    intro w9 hg hgr
    have HB9 := Lib.hid (grown_below HB1.out hgr (Nat.le_refl _))
    have HG9 := Lib.hid hg
    clear hg hgr
    go_wp2
    refine bodyPost_ret (v := .tuple #[.agg (packC (zeroPk)), .int .i64 2]) ?_ rfl ⟨nilS, by rw [HE.out]; rfl, HB9.out, by rw [HE.out]; exact ls_nil _ _⟩
    exact results_pk (s := 6) (u := 7) rfl _ _ (w.heap.size) (zeroPk) rfl HG9.out
  have HF2 := Lib.hid (HF.out.trans (if_pos hk))
  go_wp2_with fail
  refine (cnew_t s _).mono ?_
  rintro e w2 ⟨rfl, hw2⟩
  have z2 : w2.heap.size = w.heap.size + 2 := by rw [hw2]; simp
  have HR2 : Hid (w2.heap[w.heap.size]? = some (.cells (packC zeroPk) 35 (0, 0))) := Lib.hid (by rw [hw2, heap_alloc_old _ _ (by simp)]; exact HR1.out)
  have HC2 : Hid (CurAt w2 (w.heap.size + 1) (newCu s)) := Lib.hid (by unfold CurAt; rw [hw2]; exact heap_new_at (by simp))
  have HB2 : Hid (Below w.heap.size w w2) := Lib.hid (by rw [hw2]; exact HB1.out.alloc HB1.out.size _)
  have HO2 : Hid (CuOK (newCu s)) := Lib.hid ⟨Nat.zero_le _, HS.out⟩
  clear hw2 HR1 HB1 HF
  have HZ2 := Lib.hid z2
  clear z2
  rw [show (w.alloc _).heap.size = w.heap.size + 1 by simp]
  go_wp2_with fail
  refine (number_t (w.heap.size + 1) (newCu s) 2 _ HC2.out HO2.out (by decide)).mono ?_
  rintro e w3 ⟨rfl, hc, hg⟩
  have HC3 := Lib.hid hc
  have HR3 := Lib.hid (row_grown HR2.out hg (by omega))
  have HB3 := Lib.hid (grown_below HB2.out hg (by omega))
  have HZ3 : Hid (w.heap.size + 2 ≤ w3.heap.size) := Lib.hid (by rw [← HZ2.out]; exact hg.size)
  have HO3 := Lib.hid (takeF_ok HO2.out 2)
  obtain ⟨n0, n1⟩ : 0 ≤ numF (newCu s) 2 ∧ numF (newCu s) 2 < 4294967296 := getF_bd (k := 4) (Nat.le_trans (take_size HO2.out 2) (by decide))
  have hnw := i64w n0 n1
  clear hc hg HC2 HR2 HB2 HZ2 HO2
  generalize numF (newCu s) 2 = z at *
  generalize (takeF (newCu s) 2).2 = c1 at *
  go_wp2_with ((with_reducible refine pk_store w3.heap.size (idPk kind z) ?nx ?ny _ (heap_alloc_new _ _) ?na ?nb ?nc ?nd ?ne ?nf); (case na => rfl); (case nb => rfl); (case nc => rfl); (case nd => rfl); (case ne => rfl))
  intro w4 hg hgr
  have HPc4 : Hid (PcAt w4 w3.heap.size (w.heap.size + 1) (idPk kind z) c1) := Lib.hid ⟨hg, row_store HC3.out hgr, by have := HZ3.out; omega⟩
  have HR4 := Lib.hid (row_store HR3.out hgr)
  have HB4 := Lib.hid (below_store HB3.out hgr)
  have HZ4 : Hid (w3.heap.size < w4.heap.size) := Lib.hid (by have := hgr.size; simp at this; omega)
  clear hg hgr HC3 HR3 HB3
  generalize w3.heap.size = P at *
  have HLT : Hid (P < w4.heap.size ∧ w.heap.size + 1 < w4.heap.size ∧ w.heap.size < w4.heap.size ∧ w.heap.size ≤ w4.heap.size) := Lib.hid (by have := HZ3.out; have := HZ4.out; exact ⟨by omega, by omega, by omega, by omega⟩)
  have HPR : Hid (w.heap.size + 2 ≤ P) := HZ3
  obtain ⟨B, hB⟩ : ∃ B, w4.heap.size = B := ⟨_, rfl⟩
  rw [hB] at HLT
  have HBB := Lib.hid hB
  clear hB HZ3 HZ4
  cases h5 : (v == 5)
  case false =>
    have HM : Hid (midA v kind c1 = (0, [], c1)) := Lib.hid (by unfold midA; rw [h5]; rfl)
    have HP : Hid (PcAt w4 P (w.heap.size + 1) (mkP kind z 0 nilS) c1) := HPc4
    have HLS : Hid (LsAt w4 B nilS []) := Lib.hid (ls_nil _ _)
    have HRW := HR4
    have HBW := HB4
    have HO := HO3
    clear HPc4 HR4 HB4 HO3
    obtain ⟨code, hcode⟩ : ∃ x : Int, 0 = x := ⟨_, rfl⟩
    obtain ⟨l, hl⟩ : ∃ x : List Prp, [] = x := ⟨_, rfl⟩
    rw [hcode] at HM HP
    rw [hl] at HM HLS
    obtain ⟨sl, hsl⟩ : ∃ x : Sl, nilS = x := ⟨_, rfl⟩
    rw [hsl] at HP HLS
    obtain ⟨c2, hc2⟩ : ∃ x : Cu, c1 = x := ⟨_, rfl⟩
    rw [hc2] at HP HO
    have HM : Hid (midA v kind c1 = (code, l, c2)) := Lib.hid (by rw [HM.out, hc2])
    clear hcode hl hsl hc2
    go_wp2_with fail
    refine (left_t (w.heap.size + 1) c2 _ HP.out.cu HO.out).mono ?_
    rintro e w11 ⟨rfl, hc, hg⟩
    have HP11 := Lib.hid (pc_cur HP.out hc hg)
    have HLS11 := Lib.hid (ls_two HLS.out (two_g (S := P) hg) HLT.out.1 HLT.out.2.1)
    have HR11 := Lib.hid (row_grown HRW.out hg (by omega))
    have HB11 := Lib.hid (grown_below HBW.out hg (by omega))
    clear hc hg HP HLS HRW HBW
    cases hlf : decide (0 < leftF c2)
    case true =>
      go_wp2_with fail
      refine (fail_t (w.heap.size + 1) c2 5 _ HP11.out.cu).mono ?_
      rintro e w12 ⟨rfl, hc, hg⟩
      have HP12 := Lib.hid (pc_cur HP11.out hc hg)
      have HLS12 := Lib.hid (ls_two HLS11.out (two_g (S := P) hg) HLT.out.1 HLT.out.2.1)
      have HR12 := Lib.hid (row_grown HR11.out hg (by omega))
      have HB12 := Lib.hid (grown_below HB11.out hg (by omega))
      clear hc hg HP11 HLS11 HR11 HB11
      have HEC : Hid (endC c2 = failF c2 5) := Lib.hid (by unfold endC; rw [hlf]; rfl)
      have HQ : Hid (w12.heap[P]? = some (.cells (packC (mkP kind z code sl)) 35 (0, 0))) := Lib.hid HP12.out.pk
      have HRPs := Lib.hid (ls_RP HLS12.out)
      go_wp2_with (((with_reducible refine pk_load (P) (mkP kind z code sl) ?lx2 HQ.out ?la2 ?lb2 ?lc2 ?ld2); (case la2 => rfl); (case lb2 => rfl); (case lc2 => rfl)))
      refine (ackV_t v (mkP kind z code sl) (packC (mkP kind z code sl)) rfl [] l (topicH l) _ (nil_RP _) HRPs.out.2).mono ?_
      rintro e w13 ⟨rfl, hb⟩
      have HP13 := Lib.hid (pc_below HP12.out hb)
      have HLS13 := Lib.hid (ls_below HLS12.out hb)
      have HR13 := Lib.hid (row_then HR12.out hb)
      have HB13 := Lib.hid (ext_then' HB12.out hb)
      have HAV : Hid (ackE v kind z (code, l, c2) = (failF (failF c2 5) (ackV v (mkP kind z code sl) l)).err) := Lib.hid (by unfold ackE; simp only []; rw [HEC.out, ackV_sl v kind z code sl (lenS l.length) l HRPs.out.1])
      clear hb HP12 HLS12 HR12 HB12 HQ
      generalize ackV v (mkP kind z code sl) l = av at *
      go_wp2_with fail
      refine (fail_t (w.heap.size + 1) (failF c2 5) av _ HP13.out.cu).mono ?_
      rintro e w14 ⟨rfl, hc, hg⟩
      have HP14 := Lib.hid (pc_cur HP13.out hc hg)
      have HLS14 := Lib.hid (ls_two HLS13.out (two_g (S := P) hg) HLT.out.1 HLT.out.2.1)
      have HR14 := Lib.hid (row_grown HR13.out hg (by omega))
      have HB14 := Lib.hid (grown_below HB13.out hg (by omega))
      clear hc hg HP13 HLS13 HR13 HB13
      generalize failF (failF c2 5) av = c4 at *
      go_wp2_with fail
      refine (err_t (w.heap.size + 1) c4 _ HP14.out.cu).mono ?_
      rintro e w15 ⟨rfl, hw⟩
      subst hw
      rw [HM.out] at HF2
      rw [HAV.out] at HF2
      have HR := HR14
      cases he : (c4.err != 0)
      case true =>
        have HE : Hid (ackRd v kind s = (0, 0, [], c4.err)) := Lib.hid (HF2.out.trans (if_neg (by simpa using he)))
        have hne : ¬ c4.err = 0 := by simpa using he
        go_wp2_with (first | ((with_reducible refine pk_store (w.heap.size) (zeroPk) ?sx3 ?sy3 _ HR.out ?sa3 ?sb3 ?sc3 ?sd3 ?se3 ?sf3); (case sa3 => rfl); (case sb3 => rfl); (case sc3 => rfl); (case sd3 => rfl); (case se3 => rfl)))
        intro w9 hg hgr
        have HB9 := Lib.hid (grown_below HB14.out hgr (Nat.le_refl _))
        have HG9 := Lib.hid hg
        clear hg hgr
        go_wp2
        refine bodyPost_ret (v := .tuple #[.agg (packC (zeroPk)), .int .i64 c4.err]) ?_ rfl ⟨nilS, by rw [HE.out]; unfold resA; rw [if_neg hne], HB9.out, by rw [HE.out]; exact ls_nil _ _⟩
        exact results_pk (s := 6) (u := 7) rfl _ _ (w.heap.size) (zeroPk) rfl HG9.out
      have HE : Hid (ackRd v kind s = (z, code, l, 0)) := Lib.hid (HF2.out.trans (if_pos (by simpa using he)))
      have HQ : Hid (w15.heap[P]? = some (.cells (packC (mkP kind z code sl)) 35 (0, 0))) := Lib.hid HP14.out.pk
      go_wp2_with (first | ((with_reducible refine pk_store (w.heap.size) (mkP kind z code sl) ?sx5 ?sy5 _ HR.out ?sa5 ?sb5 ?sc5 ?sd5 ?se5 ?sf5); (case sa5 => rfl); (case sb5 => rfl); (case sc5 => rfl); (case sd5 => rfl); (case se5 => rfl)) | ((with_reducible refine pk_load (P) (mkP kind z code sl) ?lx4 HQ.out ?la4 ?lb4 ?lc4 ?ld4); (case la4 => rfl); (case lb4 => rfl); (case lc4 => rfl)))
      intro w9 hg hgr
      have HB9 := Lib.hid (grown_below HB14.out hgr (Nat.le_refl _))
      have HG9 := Lib.hid hg
      have HG9K := Lib.hid hgr
      clear hg hgr
      go_wp2
      refine bodyPost_ret (v := .tuple #[.agg (packC (mkP kind z code sl)), .int .i64 0]) ?_ rfl ⟨sl, by rw [HE.out]; rfl, HB9.out, by rw [HE.out]; exact ls_mono (ls_one HLS14.out HG9K.out HLT.out.2.2.1) HLT.out.2.2.2⟩
      exact results_pk (s := 6) (u := 7) rfl _ _ (w.heap.size) (mkP kind z code sl) rfl HG9.out
    have HP12 := HP11
    have HLS12 := HLS11
    have HR12 := HR11
    have HB12 := HB11
    clear HP11 HLS11 HR11 HB11
    have HEC : Hid (endC c2 = c2) := Lib.hid (by unfold endC; rw [hlf]; rfl)
    have HQ : Hid (w11.heap[P]? = some (.cells (packC (mkP kind z code sl)) 35 (0, 0))) := Lib.hid HP12.out.pk
    have HRPs := Lib.hid (ls_RP HLS12.out)
    go_wp2_with (((with_reducible refine pk_load (P) (mkP kind z code sl) ?lx6 HQ.out ?la6 ?lb6 ?lc6 ?ld6); (case la6 => rfl); (case lb6 => rfl); (case lc6 => rfl)))
    refine (ackV_t v (mkP kind z code sl) (packC (mkP kind z code sl)) rfl [] l (topicH l) _ (nil_RP _) HRPs.out.2).mono ?_
    rintro e w13 ⟨rfl, hb⟩
    have HP13 := Lib.hid (pc_below HP12.out hb)
    have HLS13 := Lib.hid (ls_below HLS12.out hb)
    have HR13 := Lib.hid (row_then HR12.out hb)
    have HB13 := Lib.hid (ext_then' HB12.out hb)
    have HAV : Hid (ackE v kind z (code, l, c2) = (failF (c2) (ackV v (mkP kind z code sl) l)).err) := Lib.hid (by unfold ackE; simp only []; rw [HEC.out, ackV_sl v kind z code sl (lenS l.length) l HRPs.out.1])
    clear hb HP12 HLS12 HR12 HB12 HQ
    generalize ackV v (mkP kind z code sl) l = av at *
    go_wp2_with fail
    refine (fail_t (w.heap.size + 1) (c2) av _ HP13.out.cu).mono ?_
    rintro e w14 ⟨rfl, hc, hg⟩
    have HP14 := Lib.hid (pc_cur HP13.out hc hg)
    have HLS14 := Lib.hid (ls_two HLS13.out (two_g (S := P) hg) HLT.out.1 HLT.out.2.1)
    have HR14 := Lib.hid (row_grown HR13.out hg (by omega))
    have HB14 := Lib.hid (grown_below HB13.out hg (by omega))
    clear hc hg HP13 HLS13 HR13 HB13
    generalize failF (c2) av = c4 at *
    go_wp2_with fail
    refine (err_t (w.heap.size + 1) c4 _ HP14.out.cu).mono ?_
    rintro e w15 ⟨rfl, hw⟩
    subst hw
    rw [HM.out] at HF2
    rw [HAV.out] at HF2
    have HR := HR14
    cases he : (c4.err != 0)
    case true =>
      have HE : Hid (ackRd v kind s = (0, 0, [], c4.err)) := Lib.hid (HF2.out.trans (if_neg (by simpa using he)))
      have hne : ¬ c4.err = 0 := by simpa using he
      go_wp2_with (first | ((with_reducible refine pk_store (w.heap.size) (zeroPk) ?sx7 ?sy7 _ HR.out ?sa7 ?sb7 ?sc7 ?sd7 ?se7 ?sf7); (case sa7 => rfl); (case sb7 => rfl); (case sc7 => rfl); (case sd7 => rfl); (case se7 => rfl)))
      intro w9 hg hgr
      have HB9 := Lib.hid (grown_below HB14.out hgr (Nat.le_refl _))
      have HG9 := Lib.hid hg
      clear hg hgr
      go_wp2
      refine bodyPost_ret (v := .tuple #[.agg (packC (zeroPk)), .int .i64 c4.err]) ?_ rfl ⟨nilS, by rw [HE.out]; unfold resA; rw [if_neg hne], HB9.out, by rw [HE.out]; exact ls_nil _ _⟩
      exact results_pk (s := 6) (u := 7) rfl _ _ (w.heap.size) (zeroPk) rfl HG9.out
    have HE : Hid (ackRd v kind s = (z, code, l, 0)) := Lib.hid (HF2.out.trans (if_pos (by simpa using he)))
    have HQ : Hid (w15.heap[P]? = some (.cells (packC (mkP kind z code sl)) 35 (0, 0))) := Lib.hid HP14.out.pk
    go_wp2_with (first | ((with_reducible refine pk_store (w.heap.size) (mkP kind z code sl) ?sx9 ?sy9 _ HR.out ?sa9 ?sb9 ?sc9 ?sd9 ?se9 ?sf9); (case sa9 => rfl); (case sb9 => rfl); (case sc9 => rfl); (case sd9 => rfl); (case se9 => rfl)) | ((with_reducible refine pk_load (P) (mkP kind z code sl) ?lx8 HQ.out ?la8 ?lb8 ?lc8 ?ld8); (case la8 => rfl); (case lb8 => rfl); (case lc8 => rfl)))
    intro w9 hg hgr
    have HB9 := Lib.hid (grown_below HB14.out hgr (Nat.le_refl _))
    have HG9 := Lib.hid hg
    have HG9K := Lib.hid hgr
    clear hg hgr
    go_wp2
    refine bodyPost_ret (v := .tuple #[.agg (packC (mkP kind z code sl)), .int .i64 0]) ?_ rfl ⟨sl, by rw [HE.out]; rfl, HB9.out, by rw [HE.out]; exact ls_mono (ls_one HLS14.out HG9K.out HLT.out.2.2.1) HLT.out.2.2.2⟩
    exact results_pk (s := 6) (u := 7) rfl _ _ (w.heap.size) (mkP kind z code sl) rfl HG9.out
  go_wp2_with fail
  refine (err_t (w.heap.size + 1) c1 _ HPc4.out.cu).mono ?_
  rintro e w5x ⟨rfl, hw⟩
  subst hw
  cases he1 : (c1.err == 0)
  case false =>
    have HM : Hid (midA v kind c1 = (0, [], c1)) := Lib.hid (by unfold midA; rw [h5, he1]; rfl)
    have HP : Hid (PcAt w5x P (w.heap.size + 1) (mkP kind z 0 nilS) c1) := HPc4
    have HLS : Hid (LsAt w5x B nilS []) := Lib.hid (ls_nil _ _)
    have HRW := HR4
    have HBW := HB4
    have HO := HO3
    clear HPc4 HR4 HB4 HO3
    obtain ⟨code, hcode⟩ : ∃ x : Int, 0 = x := ⟨_, rfl⟩
    obtain ⟨l, hl⟩ : ∃ x : List Prp, [] = x := ⟨_, rfl⟩
    rw [hcode] at HM HP
    rw [hl] at HM HLS
    obtain ⟨sl, hsl⟩ : ∃ x : Sl, nilS = x := ⟨_, rfl⟩
    rw [hsl] at HP HLS
    obtain ⟨c2, hc2⟩ : ∃ x : Cu, c1 = x := ⟨_, rfl⟩
    rw [hc2] at HP HO
    have HM : Hid (midA v kind c1 = (code, l, c2)) := Lib.hid (by rw [HM.out, hc2])
    clear hcode hl hsl hc2
    go_wp2_with fail
    refine (left_t (w.heap.size + 1) c2 _ HP.out.cu HO.out).mono ?_
    rintro e w11 ⟨rfl, hc, hg⟩
    have HP11 := Lib.hid (pc_cur HP.out hc hg)
    have HLS11 := Lib.hid (ls_two HLS.out (two_g (S := P) hg) HLT.out.1 HLT.out.2.1)
    have HR11 := Lib.hid (row_grown HRW.out hg (by omega))
    have HB11 := Lib.hid (grown_below HBW.out hg (by omega))
    clear hc hg HP HLS HRW HBW
    cases hlf : decide (0 < leftF c2)
    case true =>
      go_wp2_with fail
      refine (fail_t (w.heap.size + 1) c2 5 _ HP11.out.cu).mono ?_
      rintro e w12 ⟨rfl, hc, hg⟩
      have HP12 := Lib.hid (pc_cur HP11.out hc hg)
      have HLS12 := Lib.hid (ls_two HLS11.out (two_g (S := P) hg) HLT.out.1 HLT.out.2.1)
      have HR12 := Lib.hid (row_grown HR11.out hg (by omega))
      have HB12 := Lib.hid (grown_below HB11.out hg (by omega))
      clear hc hg HP11 HLS11 HR11 HB11
      have HEC : Hid (endC c2 = failF c2 5) := Lib.hid (by unfold endC; rw [hlf]; rfl)
      have HQ : Hid (w12.heap[P]? = some (.cells (packC (mkP kind z code sl)) 35 (0, 0))) := Lib.hid HP12.out.pk
      have HRPs := Lib.hid (ls_RP HLS12.out)
      go_wp2_with (((with_reducible refine pk_load (P) (mkP kind z code sl) ?lx10 HQ.out ?la10 ?lb10 ?lc10 ?ld10); (case la10 => rfl); (case lb10 => rfl); (case lc10 => rfl)))
      refine (ackV_t v (mkP kind z code sl) (packC (mkP kind z code sl)) rfl [] l (topicH l) _ (nil_RP _) HRPs.out.2).mono ?_
      rintro e w13 ⟨rfl, hb⟩
      have HP13 := Lib.hid (pc_below HP12.out hb)
      have HLS13 := Lib.hid (ls_below HLS12.out hb)
      have HR13 := Lib.hid (row_then HR12.out hb)
      have HB13 := Lib.hid (ext_then' HB12.out hb)
      have HAV : Hid (ackE v kind z (code, l, c2) = (failF (failF c2 5) (ackV v (mkP kind z code sl) l)).err) := Lib.hid (by unfold ackE; simp only []; rw [HEC.out, ackV_sl v kind z code sl (lenS l.length) l HRPs.out.1])
      clear hb HP12 HLS12 HR12 HB12 HQ
      generalize ackV v (mkP kind z code sl) l = av at *
      go_wp2_with fail
      refine (fail_t (w.heap.size + 1) (failF c2 5) av _ HP13.out.cu).mono ?_
      rintro e w14 ⟨rfl, hc, hg⟩
      have HP14 := Lib.hid (pc_cur HP13.out hc hg)
      have HLS14 := Lib.hid (ls_two HLS13.out (two_g (S := P) hg) HLT.out.1 HLT.out.2.1)
      have HR14 := Lib.hid (row_grown HR13.out hg (by omega))
      have HB14 := Lib.hid (grown_below HB13.out hg (by omega))
      clear hc hg HP13 HLS13 HR13 HB13
      generalize failF (failF c2 5) av = c4 at *
      go_wp2_with fail
      refine (err_t (w.heap.size + 1) c4 _ HP14.out.cu).mono ?_
      rintro e w15 ⟨rfl, hw⟩
      subst hw
      rw [HM.out] at HF2
      rw [HAV.out] at HF2
      have HR := HR14
      cases he : (c4.err != 0)
      case true =>
        have HE : Hid (ackRd v kind s = (0, 0, [], c4.err)) := Lib.hid (HF2.out.trans (if_neg (by simpa using he)))
        have hne : ¬ c4.err = 0 := by simpa using he
        go_wp2_with (first | ((with_reducible refine pk_store (w.heap.size) (zeroPk) ?sx11 ?sy11 _ HR.out ?sa11 ?sb11 ?sc11 ?sd11 ?se11 ?sf11); (case sa11 => rfl); (case sb11 => rfl); (case sc11 => rfl); (case sd11 => rfl); (case se11 => rfl)))
        intro w9 hg hgr
        have HB9 := Lib.hid (grown_below HB14.out hgr (Nat.le_refl _))
        have HG9 := Lib.hid hg
        clear hg hgr
        go_wp2
        refine bodyPost_ret (v := .tuple #[.agg (packC (zeroPk)), .int .i64 c4.err]) ?_ rfl ⟨nilS, by rw [HE.out]; unfold resA; rw [if_neg hne], HB9.out, by rw [HE.out]; exact ls_nil _ _⟩
        exact results_pk (s := 6) (u := 7) rfl _ _ (w.heap.size) (zeroPk) rfl HG9.out
      have HE : Hid (ackRd v kind s = (z, code, l, 0)) := Lib.hid (HF2.out.trans (if_pos (by simpa using he)))
      have HQ : Hid (w15.heap[P]? = some (.cells (packC (mkP kind z code sl)) 35 (0, 0))) := Lib.hid HP14.out.pk
      go_wp2_with (first | ((with_reducible refine pk_store (w.heap.size) (mkP kind z code sl) ?sx13 ?sy13 _ HR.out ?sa13 ?sb13 ?sc13 ?sd13 ?se13 ?sf13); (case sa13 => rfl); (case sb13 => rfl); (case sc13 => rfl); (case sd13 => rfl); (case se13 => rfl)) | ((with_reducible refine pk_load (P) (mkP kind z code sl) ?lx12 HQ.out ?la12 ?lb12 ?lc12 ?ld12); (case la12 => rfl); (case lb12 => rfl); (case lc12 => rfl)))
      intro w9 hg hgr
      have HB9 := Lib.hid (grown_below HB14.out hgr (Nat.le_refl _))
      have HG9 := Lib.hid hg
      have HG9K := Lib.hid hgr
      clear hg hgr
      go_wp2
      refine bodyPost_ret (v := .tuple #[.agg (packC (mkP kind z code sl)), .int .i64 0]) ?_ rfl ⟨sl, by rw [HE.out]; rfl, HB9.out, by rw [HE.out]; exact ls_mono (ls_one HLS14.out HG9K.out HLT.out.2.2.1) HLT.out.2.2.2⟩
      exact results_pk (s := 6) (u := 7) rfl _ _ (w.heap.size) (mkP kind z code sl) rfl HG9.out
    have HP12 := HP11
    have HLS12 := HLS11
    have HR12 := HR11
    have HB12 := HB11
    clear HP11 HLS11 HR11 HB11
    have HEC : Hid (endC c2 = c2) := Lib.hid (by unfold endC; rw [hlf]; rfl)
    have HQ : Hid (w11.heap[P]? = some (.cells (packC (mkP kind z code sl)) 35 (0, 0))) := Lib.hid HP12.out.pk
    have HRPs := Lib.hid (ls_RP HLS12.out)
    go_wp2_with (((with_reducible refine pk_load (P) (mkP kind z code sl) ?lx14 HQ.out ?la14 ?lb14 ?lc14 ?ld14); (case la14 => rfl); (case lb14 => rfl); (case lc14 => rfl)))
    refine (ackV_t v (mkP kind z code sl) (packC (mkP kind z code sl)) rfl [] l (topicH l) _ (nil_RP _) HRPs.out.2).mono ?_
    rintro e w13 ⟨rfl, hb⟩
    have HP13 := Lib.hid (pc_below HP12.out hb)
    have HLS13 := Lib.hid (ls_below HLS12.out hb)
    have HR13 := Lib.hid (row_then HR12.out hb)
    have HB13 := Lib.hid (ext_then' HB12.out hb)
    have HAV : Hid (ackE v kind z (code, l, c2) = (failF (c2) (ackV v (mkP kind z code sl) l)).err) := Lib.hid (by unfold ackE; simp only []; rw [HEC.out, ackV_sl v kind z code sl (lenS l.length) l HRPs.out.1])
    clear hb HP12 HLS12 HR12 HB12 HQ
    generalize ackV v (mkP kind z code sl) l = av at *
    go_wp2_with fail
    refine (fail_t (w.heap.size + 1) (c2) av _ HP13.out.cu).mono ?_
    rintro e w14 ⟨rfl, hc, hg⟩
    have HP14 := Lib.hid (pc_cur HP13.out hc hg)
    have HLS14 := Lib.hid (ls_two HLS13.out (two_g (S := P) hg) HLT.out.1 HLT.out.2.1)
    have HR14 := Lib.hid (row_grown HR13.out hg (by omega))
    have HB14 := Lib.hid (grown_below HB13.out hg (by omega))
    clear hc hg HP13 HLS13 HR13 HB13
    generalize failF (c2) av = c4 at *
    go_wp2_with fail
    refine (err_t (w.heap.size + 1) c4 _ HP14.out.cu).mono ?_
    rintro e w15 ⟨rfl, hw⟩
    subst hw
    rw [HM.out] at HF2
    rw [HAV.out] at HF2
    have HR := HR14
    cases he : (c4.err != 0)
    case true =>
      have HE : Hid (ackRd v kind s = (0, 0, [], c4.err)) := Lib.hid (HF2.out.trans (if_neg (by simpa using he)))
      have hne : ¬ c4.err = 0 := by simpa using he
      go_wp2_with (first | ((with_reducible refine pk_store (w.heap.size) (zeroPk) ?sx15 ?sy15 _ HR.out ?sa15 ?sb15 ?sc15 ?sd15 ?se15 ?sf15); (case sa15 => rfl); (case sb15 => rfl); (case sc15 => rfl); (case sd15 => rfl); (case se15 => rfl)))
      intro w9 hg hgr
      have HB9 := Lib.hid (grown_below HB14.out hgr (Nat.le_refl _))
      have HG9 := Lib.hid hg
      clear hg hgr
      go_wp2
      refine bodyPost_ret (v := .tuple #[.agg (packC (zeroPk)), .int .i64 c4.err]) ?_ rfl ⟨nilS, by rw [HE.out]; unfold resA; rw [if_neg hne], HB9.out, by rw [HE.out]; exact ls_nil _ _⟩
      exact results_pk (s := 6) (u := 7) rfl _ _ (w.heap.size) (zeroPk) rfl HG9.out
    have HE : Hid (ackRd v kind s = (z, code, l, 0)) := Lib.hid (HF2.out.trans (if_pos (by simpa using he)))
    have HQ : Hid (w15.heap[P]? = some (.cells (packC (mkP kind z code sl)) 35 (0, 0))) := Lib.hid HP14.out.pk
    go_wp2_with (first | ((with_reducible refine pk_store (w.heap.size) (mkP kind z code sl) ?sx17 ?sy17 _ HR.out ?sa17 ?sb17 ?sc17 ?sd17 ?se17 ?sf17); (case sa17 => rfl); (case sb17 => rfl); (case sc17 => rfl); (case sd17 => rfl); (case se17 => rfl)) | ((with_reducible refine pk_load (P) (mkP kind z code sl) ?lx16 HQ.out ?la16 ?lb16 ?lc16 ?ld16); (case la16 => rfl); (case lb16 => rfl); (case lc16 => rfl)))
    intro w9 hg hgr
    have HB9 := Lib.hid (grown_below HB14.out hgr (Nat.le_refl _))
    have HG9 := Lib.hid hg
    have HG9K := Lib.hid hgr
    clear hg hgr
    go_wp2
    refine bodyPost_ret (v := .tuple #[.agg (packC (mkP kind z code sl)), .int .i64 0]) ?_ rfl ⟨sl, by rw [HE.out]; rfl, HB9.out, by rw [HE.out]; exact ls_mono (ls_one HLS14.out HG9K.out HLT.out.2.2.1) HLT.out.2.2.2⟩
    exact results_pk (s := 6) (u := 7) rfl _ _ (w.heap.size) (mkP kind z code sl) rfl HG9.out
  go_wp2_with fail
  refine (ackrest_t P (w.heap.size + 1) (idPk kind z) c1 _ HPc4.out HO3.out rfl rfl (by rw [HBB.out]; exact HLT.out.1) (by rw [HBB.out]; exact HLT.out.2.1)).mono ?_
  rintro e w10 ⟨rfl, sl, hp, ht, hls⟩
  have HM0 : Hid (midA v kind c1 = restA kind c1) := Lib.hid (by unfold midA; rw [h5, he1]; rfl)
  have HO0 := Lib.hid (restA_ok kind HO3.out)
  have HP0 : Hid (PcAt w10 P (w.heap.size + 1) (setS (setC (idPk kind z) (restA kind c1).1) sl) (restA kind c1).2.2) := Lib.hid hp
  have HLS0 : Hid (LsAt w10 B sl (restA kind c1).2.1) := Lib.hid (by rw [← HBB.out]; exact hls)
  have HRW := Lib.hid (two_row HR4.out ht (by have := HPR.out; omega) (by omega))
  have HBW := Lib.hid (two_Below HB4.out HB4.out.size ht (by have := HPR.out; omega) (by omega))
  clear hp ht hls HPc4 HR4 HB4 HO3
  obtain ⟨⟨code, l, c2⟩, hr⟩ : ∃ r, restA kind c1 = r := ⟨_, rfl⟩
  rw [hr] at HM0 HO0 HP0 HLS0
  have HM : Hid (midA v kind c1 = (code, l, c2)) := HM0
  have HO : Hid (CuOK c2) := HO0
  have HP : Hid (PcAt w10 P (w.heap.size + 1) (mkP kind z code sl) c2) := HP0
  have HLS : Hid (LsAt w10 B sl l) := HLS0
  clear HM0 HO0 HP0 HLS0 hr
  go_wp2_with fail
  refine (left_t (w.heap.size + 1) c2 _ HP.out.cu HO.out).mono ?_
  rintro e w11 ⟨rfl, hc, hg⟩
  have HP11 := Lib.hid (pc_cur HP.out hc hg)
  have HLS11 := Lib.hid (ls_two HLS.out (two_g (S := P) hg) HLT.out.1 HLT.out.2.1)
  have HR11 := Lib.hid (row_grown HRW.out hg (by omega))
  have HB11 := Lib.hid (grown_below HBW.out hg (by omega))
  clear hc hg HP HLS HRW HBW
  cases hlf : decide (0 < leftF c2)
  case true =>
    go_wp2_with fail
    refine (fail_t (w.heap.size + 1) c2 5 _ HP11.out.cu).mono ?_
    rintro e w12 ⟨rfl, hc, hg⟩
    have HP12 := Lib.hid (pc_cur HP11.out hc hg)
    have HLS12 := Lib.hid (ls_two HLS11.out (two_g (S := P) hg) HLT.out.1 HLT.out.2.1)
    have HR12 := Lib.hid (row_grown HR11.out hg (by omega))
    have HB12 := Lib.hid (grown_below HB11.out hg (by omega))
    clear hc hg HP11 HLS11 HR11 HB11
    have HEC : Hid (endC c2 = failF c2 5) := Lib.hid (by unfold endC; rw [hlf]; rfl)
    have HQ : Hid (w12.heap[P]? = some (.cells (packC (mkP kind z code sl)) 35 (0, 0))) := Lib.hid HP12.out.pk
    have HRPs := Lib.hid (ls_RP HLS12.out)
    go_wp2_with (((with_reducible refine pk_load (P) (mkP kind z code sl) ?lx18 HQ.out ?la18 ?lb18 ?lc18 ?ld18); (case la18 => rfl); (case lb18 => rfl); (case lc18 => rfl)))
    refine (ackV_t v (mkP kind z code sl) (packC (mkP kind z code sl)) rfl [] l (topicH l) _ (nil_RP _) HRPs.out.2).mono ?_
    rintro e w13 ⟨rfl, hb⟩
    have HP13 := Lib.hid (pc_below HP12.out hb)
    have HLS13 := Lib.hid (ls_below HLS12.out hb)
    have HR13 := Lib.hid (row_then HR12.out hb)
    have HB13 := Lib.hid (ext_then' HB12.out hb)
    have HAV : Hid (ackE v kind z (code, l, c2) = (failF (failF c2 5) (ackV v (mkP kind z code sl) l)).err) := Lib.hid (by unfold ackE; simp only []; rw [HEC.out, ackV_sl v kind z code sl (lenS l.length) l HRPs.out.1])
    clear hb HP12 HLS12 HR12 HB12 HQ
    generalize ackV v (mkP kind z code sl) l = av at *
    go_wp2_with fail
    refine (fail_t (w.heap.size + 1) (failF c2 5) av _ HP13.out.cu).mono ?_
    rintro e w14 ⟨rfl, hc, hg⟩
    have HP14 := Lib.hid (pc_cur HP13.out hc hg)
    have HLS14 := Lib.hid (ls_two HLS13.out (two_g (S := P) hg) HLT.out.1 HLT.out.2.1)
    have HR14 := Lib.hid (row_grown HR13.out hg (by omega))
    have HB14 := Lib.hid (grown_below HB13.out hg (by omega))
    clear hc hg HP13 HLS13 HR13 HB13
    generalize failF (failF c2 5) av = c4 at *
    go_wp2_with fail
    refine (err_t (w.heap.size + 1) c4 _ HP14.out.cu).mono ?_
    rintro e w15 ⟨rfl, hw⟩
    subst hw
    rw [HM.out] at HF2
    rw [HAV.out] at HF2
    have HR := HR14
    cases he : (c4.err != 0)
    case true =>
      have HE : Hid (ackRd v kind s = (0, 0, [], c4.err)) := Lib.hid (HF2.out.trans (if_neg (by simpa using he)))
      have hne : ¬ c4.err = 0 := by simpa using he
      go_wp2_with (first | ((with_reducible refine pk_store (w.heap.size) (zeroPk) ?sx19 ?sy19 _ HR.out ?sa19 ?sb19 ?sc19 ?sd19 ?se19 ?sf19); (case sa19 => rfl); (case sb19 => rfl); (case sc19 => rfl); (case sd19 => rfl); (case se19 => rfl)))
      intro w9 hg hgr
      have HB9 := Lib.hid (grown_below HB14.out hgr (Nat.le_refl _))
      have HG9 := Lib.hid hg
      clear hg hgr
      go_wp2
      refine bodyPost_ret (v := .tuple #[.agg (packC (zeroPk)), .int .i64 c4.err]) ?_ rfl ⟨nilS, by rw [HE.out]; unfold resA; rw [if_neg hne], HB9.out, by rw [HE.out]; exact ls_nil _ _⟩
      exact results_pk (s := 6) (u := 7) rfl _ _ (w.heap.size) (zeroPk) rfl HG9.out
    have HE : Hid (ackRd v kind s = (z, code, l, 0)) := Lib.hid (HF2.out.trans (if_pos (by simpa using he)))
    have HQ : Hid (w15.heap[P]? = some (.cells (packC (mkP kind z code sl)) 35 (0, 0))) := Lib.hid HP14.out.pk
    go_wp2_with (first | ((with_reducible refine pk_store (w.heap.size) (mkP kind z code sl) ?sx21 ?sy21 _ HR.out ?sa21 ?sb21 ?sc21 ?sd21 ?se21 ?sf21); (case sa21 => rfl); (case sb21 => rfl); (case sc21 => rfl); (case sd21 => rfl); (case se21 => rfl)) | ((with_reducible refine pk_load (P) (mkP kind z code sl) ?lx20 HQ.out ?la20 ?lb20 ?lc20 ?ld20); (case la20 => rfl); (case lb20 => rfl); (case lc20 => rfl)))
    intro w9 hg hgr
    have HB9 := Lib.hid (grown_below HB14.out hgr (Nat.le_refl _))
    have HG9 := Lib.hid hg
    have HG9K := Lib.hid hgr
    clear hg hgr
    go_wp2
    refine bodyPost_ret (v := .tuple #[.agg (packC (mkP kind z code sl)), .int .i64 0]) ?_ rfl ⟨sl, by rw [HE.out]; rfl, HB9.out, by rw [HE.out]; exact ls_mono (ls_one HLS14.out HG9K.out HLT.out.2.2.1) HLT.out.2.2.2⟩
    exact results_pk (s := 6) (u := 7) rfl _ _ (w.heap.size) (mkP kind z code sl) rfl HG9.out
  have HP12 := HP11
  have HLS12 := HLS11
  have HR12 := HR11
  have HB12 := HB11
  clear HP11 HLS11 HR11 HB11
  have HEC : Hid (endC c2 = c2) := Lib.hid (by unfold endC; rw [hlf]; rfl)
  have HQ : Hid (w11.heap[P]? = some (.cells (packC (mkP kind z code sl)) 35 (0, 0))) := Lib.hid HP12.out.pk
  have HRPs := Lib.hid (ls_RP HLS12.out)
  go_wp2_with (((with_reducible refine pk_load (P) (mkP kind z code sl) ?lx22 HQ.out ?la22 ?lb22 ?lc22 ?ld22); (case la22 => rfl); (case lb22 => rfl); (case lc22 => rfl)))
  refine (ackV_t v (mkP kind z code sl) (packC (mkP kind z code sl)) rfl [] l (topicH l) _ (nil_RP _) HRPs.out.2).mono ?_
  rintro e w13 ⟨rfl, hb⟩
  have HP13 := Lib.hid (pc_below HP12.out hb)
  have HLS13 := Lib.hid (ls_below HLS12.out hb)
  have HR13 := Lib.hid (row_then HR12.out hb)
  have HB13 := Lib.hid (ext_then' HB12.out hb)
  have HAV : Hid (ackE v kind z (code, l, c2) = (failF (c2) (ackV v (mkP kind z code sl) l)).err) := Lib.hid (by unfold ackE; simp only []; rw [HEC.out, ackV_sl v kind z code sl (lenS l.length) l HRPs.out.1])
  clear hb HP12 HLS12 HR12 HB12 HQ
  generalize ackV v (mkP kind z code sl) l = av at *
  go_wp2_with fail
  refine (fail_t (w.heap.size + 1) (c2) av _ HP13.out.cu).mono ?_
  rintro e w14 ⟨rfl, hc, hg⟩
  have HP14 := Lib.hid (pc_cur HP13.out hc hg)
  have HLS14 := Lib.hid (ls_two HLS13.out (two_g (S := P) hg) HLT.out.1 HLT.out.2.1)
  have HR14 := Lib.hid (row_grown HR13.out hg (by omega))
  have HB14 := Lib.hid (grown_below HB13.out hg (by omega))
  clear hc hg HP13 HLS13 HR13 HB13
  generalize failF (c2) av = c4 at *
  go_wp2_with fail
  refine (err_t (w.heap.size + 1) c4 _ HP14.out.cu).mono ?_
  rintro e w15 ⟨rfl, hw⟩
  subst hw
  rw [HM.out] at HF2
  rw [HAV.out] at HF2
  have HR := HR14
  cases he : (c4.err != 0)
  case true =>
    have HE : Hid (ackRd v kind s = (0, 0, [], c4.err)) := Lib.hid (HF2.out.trans (if_neg (by simpa using he)))
    have hne : ¬ c4.err = 0 := by simpa using he
    go_wp2_with (first | ((with_reducible refine pk_store (w.heap.size) (zeroPk) ?sx23 ?sy23 _ HR.out ?sa23 ?sb23 ?sc23 ?sd23 ?se23 ?sf23); (case sa23 => rfl); (case sb23 => rfl); (case sc23 => rfl); (case sd23 => rfl); (case se23 => rfl)))
    intro w9 hg hgr
    have HB9 := Lib.hid (grown_below HB14.out hgr (Nat.le_refl _))
    have HG9 := Lib.hid hg
    clear hg hgr
    go_wp2
    refine bodyPost_ret (v := .tuple #[.agg (packC (zeroPk)), .int .i64 c4.err]) ?_ rfl ⟨nilS, by rw [HE.out]; unfold resA; rw [if_neg hne], HB9.out, by rw [HE.out]; exact ls_nil _ _⟩
    exact results_pk (s := 6) (u := 7) rfl _ _ (w.heap.size) (zeroPk) rfl HG9.out
  have HE : Hid (ackRd v kind s = (z, code, l, 0)) := Lib.hid (HF2.out.trans (if_pos (by simpa using he)))
  have HQ : Hid (w15.heap[P]? = some (.cells (packC (mkP kind z code sl)) 35 (0, 0))) := Lib.hid HP14.out.pk
  go_wp2_with (first | ((with_reducible refine pk_store (w.heap.size) (mkP kind z code sl) ?sx25 ?sy25 _ HR.out ?sa25 ?sb25 ?sc25 ?sd25 ?se25 ?sf25); (case sa25 => rfl); (case sb25 => rfl); (case sc25 => rfl); (case sd25 => rfl); (case se25 => rfl)) | ((with_reducible refine pk_load (P) (mkP kind z code sl) ?lx24 HQ.out ?la24 ?lb24 ?lc24 ?ld24); (case la24 => rfl); (case lb24 => rfl); (case lc24 => rfl)))
  intro w9 hg hgr
  have HB9 := Lib.hid (grown_below HB14.out hgr (Nat.le_refl _))
  have HG9 := Lib.hid hg
  have HG9K := Lib.hid hgr
  clear hg hgr
  go_wp2
  refine bodyPost_ret (v := .tuple #[.agg (packC (mkP kind z code sl)), .int .i64 0]) ?_ rfl ⟨sl, by rw [HE.out]; rfl, HB9.out, by rw [HE.out]; exact ls_mono (ls_one HLS14.out HG9K.out HLT.out.2.2.1) HLT.out.2.2.2⟩
  exact results_pk (s := 6) (u := 7) rfl _ _ (w.heap.size) (mkP kind z code sl) rfl HG9.out
end Go.Proofs.Ytnbgmpfldoaodab
