/- prop.source: its readers. -/
import Derived.Test.YtnbgmpfldoaodabSrc
namespace Go.Proofs.Ytnbgmpfldoaodab
open Go.RowKit Go.Sort
set_option maxHeartbeats 2000000
set_option linter.unusedVariables false
set_option linter.unusedSimpArgs false
theorem getF_bd {s : ByteArray} {k : Nat} (h : s.size ≤ k) : 0 ≤ getF s ∧ getF s < 256 ^ k := by
  have := getL_bd s.size s.data.toList (by rw [Array.length_toList]; rfl)
  refine ⟨this.1, Int.lt_of_lt_of_le this.2 ?_⟩
  obtain ⟨d, rfl⟩ := Nat.exists_eq_add_of_le h
  have e := Int.ofNat_le.2 (Nat.pow_le_pow_right (show 256 > 0 by decide) (Nat.le_add_right s.size d))
  rw [Int.natCast_pow, Int.natCast_pow] at e
  exact e
def numN (c : Cu) (k : Int) : Int := getF (needF c k).1
theorem u32w {z : Int} (h0 : 0 ≤ z) (h1 : z < 4294967296) : IntKind.u32.wrap z = z := by
  have := IntKind.wrap_u32 z
  rw [this]; omega
theorem i64w {z : Int} (h0 : 0 ≤ z) (h1 : z < 4294967296) : IntKind.i64.wrap z = z := IntWalk.i64_in _ ⟨by omega, by omega⟩
set_option maxRecDepth 100000 in
theorem one_t (S g : Nat) (p : Prp) (c : Cu) (w : World) (h : SrcAt w S g p c) (ok : CuOK c) : Calls Try.prog 88 #[.pointer (some ⟨S, 0, none⟩)] w fun e w' => e = .returned (.tuple #[]) ∧ SrcAt w' S g { p with n := numN c 1 } (needF c 1).2 ∧ TwoBy S g w w' := by
  have HC := Lib.hid h
  have HO := Lib.hid ok
  have HZ : Hid ((needF c 1).1.size ≤ 4) := Lib.hid (Nat.le_trans (needF_size ok 1) (by decide))
  have HE : Hid (numN c 1 = getF (needF c 1).1) := Lib.hid rfl
  clear h ok
  go_enter Try.func88, Try.ntmps88
  go_wp2_with fail
  refine (need_t S g p c 1 _ HC.out HO.out).mono ?_
  rintro e w2 ⟨rfl, hc, hg⟩
  go_wp2_with fail
  refine (get_t _ _ HZ.out).mono ?_
  rintro e w3 ⟨rfl, hw⟩
  subst hw
  obtain ⟨z0, z1⟩ := getF_bd (k := 4) HZ.out
  have f2 := src_free hc 2
  obtain ⟨s0, s1, s2, s3, s4⟩ := src_cells hc
  have HX := Lib.hid (src_set hc 2 (.int .u32 (getF (needF c 1).1)) { p with n := getF (needF c 1).1 } rfl)
  have HG := Lib.hid (hg.trans (two_S (S := S) (grown_set w3 S 2 (.int .u32 (getF (needF c 1).1)))))
  rw [← HE.out] at HX HG z0 z1 ⊢
  have hz := u32w z0 z1
  clear hc hg s0 s1 s3 s4
  go_wp2
  go_end0
  exact ⟨rfl, HX.out, HG.out⟩
set_option maxRecDepth 100000 in
theorem two_t (S g : Nat) (p : Prp) (c : Cu) (w : World) (h : SrcAt w S g p c) (ok : CuOK c) : Calls Try.prog 89 #[.pointer (some ⟨S, 0, none⟩)] w fun e w' => e = .returned (.tuple #[]) ∧ SrcAt w' S g { p with n := numN c 2 } (needF c 2).2 ∧ TwoBy S g w w' := by
  have HC := Lib.hid h
  have HO := Lib.hid ok
  have HZ : Hid ((needF c 2).1.size ≤ 4) := Lib.hid (Nat.le_trans (needF_size ok 2) (by decide))
  have HE : Hid (numN c 2 = getF (needF c 2).1) := Lib.hid rfl
  clear h ok
  go_enter Try.func89, Try.ntmps89
  go_wp2_with fail
  refine (need_t S g p c 2 _ HC.out HO.out).mono ?_
  rintro e w2 ⟨rfl, hc, hg⟩
  go_wp2_with fail
  refine (get_t _ _ HZ.out).mono ?_
  rintro e w3 ⟨rfl, hw⟩
  subst hw
  obtain ⟨z0, z1⟩ := getF_bd (k := 4) HZ.out
  have f2 := src_free hc 2
  obtain ⟨s0, s1, s2, s3, s4⟩ := src_cells hc
  have HX := Lib.hid (src_set hc 2 (.int .u32 (getF (needF c 2).1)) { p with n := getF (needF c 2).1 } rfl)
  have HG := Lib.hid (hg.trans (two_S (S := S) (grown_set w3 S 2 (.int .u32 (getF (needF c 2).1)))))
  rw [← HE.out] at HX HG z0 z1 ⊢
  have hz := u32w z0 z1
  clear hc hg s0 s1 s3 s4
  go_wp2
  go_end0
  exact ⟨rfl, HX.out, HG.out⟩
set_option maxRecDepth 100000 in
theorem four_t (S g : Nat) (p : Prp) (c : Cu) (w : World) (h : SrcAt w S g p c) (ok : CuOK c) : Calls Try.prog 90 #[.pointer (some ⟨S, 0, none⟩)] w fun e w' => e = .returned (.tuple #[]) ∧ SrcAt w' S g { p with n := numN c 4 } (needF c 4).2 ∧ TwoBy S g w w' := by
  have HC := Lib.hid h
  have HO := Lib.hid ok
  have HZ : Hid ((needF c 4).1.size ≤ 4) := Lib.hid (Nat.le_trans (needF_size ok 4) (by decide))
  have HE : Hid (numN c 4 = getF (needF c 4).1) := Lib.hid rfl
  clear h ok
  go_enter Try.func90, Try.ntmps90
  go_wp2_with fail
  refine (need_t S g p c 4 _ HC.out HO.out).mono ?_
  rintro e w2 ⟨rfl, hc, hg⟩
  go_wp2_with fail
  refine (get_t _ _ HZ.out).mono ?_
  rintro e w3 ⟨rfl, hw⟩
  subst hw
  obtain ⟨z0, z1⟩ := getF_bd (k := 4) HZ.out
  have f2 := src_free hc 2
  obtain ⟨s0, s1, s2, s3, s4⟩ := src_cells hc
  have HX := Lib.hid (src_set hc 2 (.int .u32 (getF (needF c 4).1)) { p with n := getF (needF c 4).1 } rfl)
  have HG := Lib.hid (hg.trans (two_S (S := S) (grown_set w3 S 2 (.int .u32 (getF (needF c 4).1)))))
  rw [← HE.out] at HX HG z0 z1 ⊢
  have hz := u32w z0 z1
  clear hc hg s0 s1 s3 s4
  go_wp2
  go_end0
  exact ⟨rfl, HX.out, HG.out⟩
theorem viGo_bd : ∀ (f : Nat) (s : ByteArray) (k : Nat) (z : Int), f + k ≤ 4 → 0 ≤ z → z < 128 ^ k → (0 ≤ (viGo f s k z).1 ∧ (viGo f s k z).1 < 268435456) ∧ 0 ≤ (viGo f s k z).2.1 ∧ (viGo f s k z).2.1 ≤ 4
  | 0, s, k, z, _, _, _ => by rw [viGo]; decide
  | f + 1, s, k, z, hk, z0, z1 => by
    by_cases h : k < s.size
    · obtain ⟨x, hx⟩ : ∃ x, s[k]'h = x := ⟨_, rfl⟩
      have hx0 := x.toNat_lt
      rcases pushR_cases (k := k) (by omega) z0 z1 (show (0 : Int) ≤ (x.toNat : Int) by omega) (show (x.toNat : Int) < 256 by omega) with ⟨hk3, hp, hp0, hp1⟩ | ⟨r, hp⟩ | hp
      · rw [viGo_step h (by rw [hx]) hp, if_pos rfl, if_neg Bool.false_ne_true]
        exact viGo_bd f s (k + 1) _ (by omega) hp0 hp1
      · rw [viGo_step h (by rw [hx]) hp, if_neg (by decide)]; decide
      · rw [viGo_step h (by rw [hx]) hp, if_pos rfl, if_pos rfl]
        have hb0 : 0 ≤ (x.toNat : Int) % 128 := by omega
        have hb1 : (x.toNat : Int) % 128 < 128 := by omega
        generalize (x.toNat : Int) % 128 = y at *
        simp only []
        rcases (show k = 0 ∨ k = 1 ∨ k = 2 ∨ k = 3 by omega) with rfl | rfl | rfl | rfl <;> simp at z1 ⊢ <;> omega
    · rw [viGo_end h]; decide
theorem viRead_bd (s : ByteArray) : (0 ≤ (viRead s).1 ∧ (viRead s).1 < 268435456) ∧ 0 ≤ (viRead s).2.1 ∧ (viRead s).2.1 ≤ 4 := viGo_bd 4 s 0 0 (by omega) (by omega) (by decide)
def varyC (c : Cu) : Cu := (takeF (if (viRead (restF c)).2.2 != 0 then failF c 5 else c) (viRead (restF c)).2.1).2
def varyN (c : Cu) : Int := (viRead (restF c)).1
theorem varyC_ok {c : Cu} (ok : CuOK c) : CuOK (varyC c) := by
  unfold varyC; split
  · exact takeF_ok (failF_ok ok 5) _
  · exact takeF_ok ok _
theorem rest_le {c : Cu} (ok : CuOK c) : (restF c).size ≤ 140737488351232 := by
  have := ok.size
  simp only [restF, ByteArray.size_extract]; omega
set_option maxRecDepth 100000 in
theorem vary_t (S g : Nat) (p : Prp) (c : Cu) (w : World) (h : SrcAt w S g p c) (ok : CuOK c) : Calls Try.prog 91 #[.pointer (some ⟨S, 0, none⟩)] w fun e w' => e = .returned (.tuple #[]) ∧ SrcAt w' S g { p with n := varyN c } (varyC c) ∧ TwoBy S g w w' := by
  have HC := Lib.hid h
  have HO := Lib.hid ok
  obtain ⟨s0, -⟩ := src_cells h
  have HN : Hid (varyN c = (viRead (restF c)).1) := Lib.hid rfl
  have HV : Hid (varyC c = (takeF (if (viRead (restF c)).2.2 != 0 then failF c 5 else c) (viRead (restF c)).2.1).2) := Lib.hid rfl
  obtain ⟨⟨n0, n1⟩, -, -⟩ := viRead_bd (restF c)
  clear h ok
  go_enter Try.func91, Try.ntmps91
  go_wp2_with fail
  refine (rest_t g c _ HC.out.2.1 HO.out).mono ?_
  rintro e w2 ⟨rfl, hc, hg⟩
  have HX := Lib.hid (src_cur HC.out hc hg)
  have HG := Lib.hid (two_g (S := S) hg)
  clear hc hg s0
  go_wp2_with fail
  refine (read_t (restF c) _ (rest_le HO.out)).mono ?_
  rintro e w3 ⟨rfl, hb⟩
  have HX3 := Lib.hid (src_below HX.out hb)
  have HG3 := Lib.hid (HG.out.trans (two_below hb))
  obtain ⟨s0, -⟩ := src_cells HX3.out
  clear hb
  generalize (viRead (restF c)).1 = zn at *
  generalize (viRead (restF c)).2.1 = zs at *
  generalize (viRead (restF c)).2.2 = ze at *
  have f2 := src_free HX3.out 2
  have hz := u32w n0 (show zn < 4294967296 by omega)
  cases he : (ze != 0)
  · rw [he, if_neg Bool.false_ne_true] at HV
    have HX4 := Lib.hid (src_set HX3.out 2 (.int .u32 zn) { p with n := zn } rfl)
    have HG4 := Lib.hid (HG3.out.trans (two_S (grown_set w3 S 2 (.int .u32 zn))))
    obtain ⟨q0, -⟩ := src_cells HX4.out
    obtain ⟨-, s1, s2, s3, s4⟩ := src_cells HX3.out
    go_wp2_with fail
    refine (take_t g c zs _ HX4.out.2.1 HO.out).mono ?_
    rintro e w5 ⟨rfl, hc, hg⟩
    have HX5 := Lib.hid (src_cur HX4.out hc hg)
    have HG5 := Lib.hid (HG4.out.trans (two_g (S := S) hg))
    clear hc hg
    go_wp2
    go_end0
    exact ⟨rfl, by rw [HV.out, HN.out]; exact HX5.out, HG5.out⟩
  · rw [he, if_pos rfl] at HV
    go_wp2_with fail
    refine (fail_t g c 5 _ HX3.out.2.1).mono ?_
    rintro e w4 ⟨rfl, hc, hg⟩
    have HX5 := Lib.hid (src_cur HX3.out hc hg)
    have HG5 := Lib.hid (HG3.out.trans (two_g (S := S) hg))
    clear hc hg s0 f2
    have f2 := src_free HX5.out 2
    have HX4 := Lib.hid (src_set HX5.out 2 (.int .u32 zn) { p with n := zn } rfl)
    have HG4 := Lib.hid (HG5.out.trans (two_S (grown_set w4 S 2 (.int .u32 zn))))
    obtain ⟨q0, -⟩ := src_cells HX4.out
    obtain ⟨s0, s1, s2, s3, s4⟩ := src_cells HX5.out
    go_wp2_with fail
    refine (take_t g (failF c 5) zs _ HX4.out.2.1 (failF_ok HO.out 5)).mono ?_
    rintro e w6 ⟨rfl, hc, hg⟩
    have HX6 := Lib.hid (src_cur HX4.out hc hg)
    have HG6 := Lib.hid (HG4.out.trans (two_g (S := S) hg))
    clear hc hg
    go_wp2
    go_end0
    exact ⟨rfl, by rw [HV.out, HN.out]; exact HX6.out, HG6.out⟩
def dataF (c : Cu) : ByteArray × Cu := needF (needF c 2).2 (numN c 2)
theorem dataF_ok {c : Cu} (ok : CuOK c) : CuOK (dataF c).2 := needF_ok (needF_ok ok 2) _
theorem dataF_size {c : Cu} (ok : CuOK c) : (dataF c).1.size ≤ 65535 := by
  have h := needF_size (needF_ok ok 2) (numN c 2)
  have h2 := getF_bd (s := (needF c 2).1) (k := 2) (needF_size ok 2)
  have e : numN c 2 = getF (needF c 2).1 := rfl
  have e2 : (dataF c).1 = (needF (needF c 2).2 (numN c 2)).1 := rfl
  rw [e2]; rw [e] at h ⊢; omega
set_option maxRecDepth 100000 in
theorem data_u (S g : Nat) (p : Prp) (c : Cu) (w : World) (h : SrcAt w S g p c) (ok : CuOK c) : Calls Try.prog 101 #[.pointer (some ⟨S, 0, none⟩)] w fun e w' => e = .returned (.string (dataF c).1) ∧ SrcAt w' S g p (dataF c).2 ∧ TwoBy S g w w' := by
  have HC := Lib.hid h
  have HO := Lib.hid ok
  have HZ : Hid ((needF c 2).1.size ≤ 4) := Lib.hid (Nat.le_trans (needF_size ok 2) (by decide))
  have HE : Hid (numN c 2 = getF (needF c 2).1) := Lib.hid rfl
  have HD : Hid (dataF c = needF (needF c 2).2 (numN c 2)) := Lib.hid rfl
  clear h ok
  go_enter Try.func101, Try.ntmps101
  go_wp2_with fail
  refine (need_t S g p c 2 _ HC.out HO.out).mono ?_
  rintro e w2 ⟨rfl, hc, hg⟩
  have HX := Lib.hid hc
  have HG := Lib.hid hg
  clear hc hg
  go_wp2_with fail
  refine (get_t _ _ HZ.out).mono ?_
  rintro e w3 ⟨rfl, hw⟩
  subst hw
  obtain ⟨z0, z1⟩ := getF_bd (k := 4) HZ.out
  rw [← HE.out] at z0 z1 ⊢
  have hz := i64w z0 z1
  go_wp2_with fail
  refine (need_t S g p (needF c 2).2 (numN c 2) _ HX.out (needF_ok HO.out 2)).mono ?_
  rintro e w4 ⟨rfl, hc, hg⟩
  have HX4 := Lib.hid hc
  have HG4 := Lib.hid (HG.out.trans hg)
  clear hc hg
  go_wp2
  go_ret
  exact ⟨by rw [HD.out]; rfl, by rw [HD.out]; exact HX4.out, HG4.out⟩
def writtenF (c : Cu) : ByteArray × Cu := ((dataF c).1, if validU (dataF c).1 = true then (dataF c).2 else failF (dataF c).2 6)
theorem writtenF_ok {c : Cu} (ok : CuOK c) : CuOK (writtenF c).2 := by
  unfold writtenF; simp only []; split
  · exact dataF_ok ok
  · exact failF_ok (dataF_ok ok) 6
set_option maxRecDepth 100000 in
theorem written_t (S g : Nat) (p : Prp) (c : Cu) (w : World) (h : SrcAt w S g p c) (ok : CuOK c) : Calls Try.prog 100 #[.pointer (some ⟨S, 0, none⟩)] w fun e w' => e = .returned (.string (writtenF c).1) ∧ SrcAt w' S g p (writtenF c).2 ∧ TwoBy S g w w' := by
  have HC := Lib.hid h
  have HO := Lib.hid ok
  have HD : Hid (writtenF c = ((dataF c).1, if validU (dataF c).1 = true then (dataF c).2 else failF (dataF c).2 6)) := Lib.hid rfl
  have HZ := Lib.hid (dataF_size ok)
  clear h ok
  go_enter Try.func100, Try.ntmps100
  go_wp2_with fail
  refine (data_u S g p c _ HC.out HO.out).mono ?_
  rintro e w2 ⟨rfl, hc, hg⟩
  have HX := Lib.hid hc
  have HG := Lib.hid hg
  clear hc hg
  go_wp2_with fail
  refine (validu_t (dataF c).1 _ (Nat.le_trans HZ.out (by decide))).mono ?_
  rintro e w3 ⟨rfl, hb⟩
  have HX3 := Lib.hid (src_below HX.out hb)
  have HG3 := Lib.hid (HG.out.trans (two_below hb))
  obtain ⟨s0, -⟩ := src_cells HX3.out
  clear hb
  cases hv : validU (dataF c).1
  · rw [hv, if_neg Bool.false_ne_true] at HD
    go_wp2_with fail
    refine (fail_t g (dataF c).2 6 _ HX3.out.2.1).mono ?_
    rintro e w4 ⟨rfl, hc, hg⟩
    have HX5 := Lib.hid (src_cur HX3.out hc hg)
    have HG5 := Lib.hid (HG3.out.trans (two_g (S := S) hg))
    clear hc hg s0
    go_wp2
    go_ret
    exact ⟨by rw [HD.out]; rfl, by rw [HD.out]; exact HX5.out, HG5.out⟩
  · rw [hv, if_pos rfl] at HD
    go_wp2
    go_ret
    exact ⟨by rw [HD.out]; rfl, by rw [HD.out]; exact HX3.out, HG3.out⟩
set_option maxRecDepth 100000 in
theorem srctext_t (S g : Nat) (p : Prp) (c : Cu) (w : World) (h : SrcAt w S g p c) (ok : CuOK c) : Calls Try.prog 92 #[.pointer (some ⟨S, 0, none⟩)] w fun e w' => e = .returned (.tuple #[]) ∧ SrcAt w' S g { p with text := (writtenF c).1 } (writtenF c).2 ∧ TwoBy S g w w' := by
  have HC := Lib.hid h
  have HO := Lib.hid ok
  clear h ok
  go_enter Try.func92, Try.ntmps92
  go_wp2_with fail
  refine (written_t S g p c _ HC.out HO.out).mono ?_
  rintro e w2 ⟨rfl, hc, hg⟩
  have f3 := src_free hc 3
  obtain ⟨s0, s1, s2, s3, s4⟩ := src_cells hc
  have HX := Lib.hid (src_set hc 3 (.string (writtenF c).1) { p with text := (writtenF c).1 } rfl)
  have HG := Lib.hid (hg.trans (two_S (S := S) (grown_set w2 S 3 (.string (writtenF c).1))))
  clear hc hg s0 s1 s2 s4
  go_wp2
  go_end0
  exact ⟨rfl, HX.out, HG.out⟩
set_option maxRecDepth 100000 in
theorem srcbinary_t (S g : Nat) (p : Prp) (c : Cu) (w : World) (h : SrcAt w S g p c) (ok : CuOK c) : Calls Try.prog 93 #[.pointer (some ⟨S, 0, none⟩)] w fun e w' => e = .returned (.tuple #[]) ∧ SrcAt w' S g { p with text := (dataF c).1 } (dataF c).2 ∧ TwoBy S g w w' := by
  have HC := Lib.hid h
  have HO := Lib.hid ok
  clear h ok
  go_enter Try.func93, Try.ntmps93
  go_wp2_with fail
  refine (data_u S g p c _ HC.out HO.out).mono ?_
  rintro e w2 ⟨rfl, hc, hg⟩
  have f3 := src_free hc 3
  obtain ⟨s0, s1, s2, s3, s4⟩ := src_cells hc
  have HX := Lib.hid (src_set hc 3 (.string (dataF c).1) { p with text := (dataF c).1 } rfl)
  have HG := Lib.hid (hg.trans (two_S (S := S) (grown_set w2 S 3 (.string (dataF c).1))))
  clear hc hg s0 s1 s2 s4
  go_wp2
  go_end0
  exact ⟨rfl, HX.out, HG.out⟩
set_option maxRecDepth 100000 in
theorem srcpair_t (S g : Nat) (p : Prp) (c : Cu) (w : World) (h : SrcAt w S g p c) (ok : CuOK c) : Calls Try.prog 94 #[.pointer (some ⟨S, 0, none⟩)] w fun e w' => e = .returned (.tuple #[]) ∧ SrcAt w' S g { p with text := (writtenF c).1, value := (writtenF (writtenF c).2).1 } (writtenF (writtenF c).2).2 ∧ TwoBy S g w w' := by
  have HC := Lib.hid h
  have HO := Lib.hid ok
  clear h ok
  go_enter Try.func94, Try.ntmps94
  go_wp2_with fail
  refine (written_t S g p c _ HC.out HO.out).mono ?_
  rintro e w2 ⟨rfl, hc, hg⟩
  have f3 := src_free hc 3
  obtain ⟨s0, s1, s2, s3, s4⟩ := src_cells hc
  have HX := Lib.hid (src_set hc 3 (.string (writtenF c).1) { p with text := (writtenF c).1 } rfl)
  have HG := Lib.hid (hg.trans (two_S (S := S) (grown_set w2 S 3 (.string (writtenF c).1))))
  clear hc hg s0 s1 s2 s4
  go_wp2_with fail
  refine (written_t S g { p with text := (writtenF c).1 } (writtenF c).2 _ HX.out (writtenF_ok HO.out)).mono ?_
  rintro e w3 ⟨rfl, hc, hg⟩
  have f4 := src_free hc 4
  obtain ⟨s0, s1, s2, s3, s4⟩ := src_cells hc
  have HX3 := Lib.hid (src_set hc 4 (.string (writtenF (writtenF c).2).1) { p with text := (writtenF c).1, value := (writtenF (writtenF c).2).1 } rfl)
  have HG3 := Lib.hid ((HG.out.trans hg).trans (two_S (S := S) (grown_set w3 S 4 (.string (writtenF (writtenF c).2).1))))
  clear hc hg s0 s1 s2 s3
  go_wp2
  go_end0
  exact ⟨rfl, HX3.out, HG3.out⟩
end Go.Proofs.Ytnbgmpfldoaodab
