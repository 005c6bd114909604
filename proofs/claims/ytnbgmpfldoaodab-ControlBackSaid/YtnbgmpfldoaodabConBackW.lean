/- The law ControlBack of chapter 12: its walk. -/
import Derived.Test.YtnbgmpfldoaodabCtlLaw
import Derived.Test.YtnbgmpfldoaodabSamePk
namespace Go.Proofs.Ytnbgmpfldoaodab
open Go.RowKit Go.Sort
set_option maxHeartbeats 2000000
set_option linter.unusedVariables false
set_option linter.unusedSimpArgs false
set_option maxHeartbeats 20000000 in
set_option maxRecDepth 100000 in
theorem conBack_t (v : Int) (p : Pk) (lw : List Prp) (lc : List Int) (lf : List Flt) (lp : List Prp) (kind : Int) (s : ByteArray) (w : World) (wf0 : (Lit.int .i64 v).wf = true) (hr : RPk w p lw lc lf lp) (wf2 : (Lit.int .i64 kind).wf = true) (hs : s.size ≤ 140737488351232) :
    Calls Try.prog 5 #[.int .i64 v, .agg (packC p), .int .i64 kind, .string s] w fun e w' => e = .returned (.bool true) ∧ Below w.heap.size w w' := by
  have HP := Lib.hid hr
  have HS := Lib.hid hs
  clear hr wf0 wf2 hs
  have HB1 := Lib.hid ((Below.refl w.heap.size w).alloc (Nat.le_refl _) (.cells (packC p) 35))
  have HGp1 := Lib.hid (heap_alloc_new w (.cells (packC p) 35))
  go_enter Try.func5, Try.ntmps5
  go_wp2_with fail
  refine (lives12_t _).mono ?_
  rintro e w2 ⟨rfl, hb⟩
  have HB2 := Lib.hid (ext_then' HB1.out hb)
  have HGp2 := Lib.hid (row_then HGp1.out hb)
  clear hb HB1 HGp1
  go_wp2_with ((with_reducible refine pk_load (w.heap.size) (p) ?x1 HGp2.out ?a1 ?b1 ?c1 ?d1); (case a1 => rfl); (case b1 => rfl); (case c1 => rfl))
  refine (light_t p lw lc lf lp _ (HP.out.below HB2.out)).mono ?_
  rintro e w3 ⟨b, rfl, hb⟩
  have HB3 := Lib.hid (ext_then' HB2.out hb)
  have HGp3 := Lib.hid (row_then HGp2.out hb)
  clear hb HB2 HGp2
  cases b
  · go_wp2
    go_ret
    exact ⟨rfl, HB3.out⟩
  · cases hl2 : decide (2000 < (s.size : Int))
    · go_wp2_with ((with_reducible refine pk_load (w.heap.size) (p) ?x2 HGp3.out ?a2 ?b2 ?c2 ?d2); (case a2 => rfl); (case b2 => rfl); (case c2 => rfl))
      refine (contB_t v p lw lp (topicH lp) _ (HP.out.will.below HB3.out) (HP.out.props.below HB3.out)).mono ?_
      rintro e w4 ⟨rfl, hb⟩
      have HB4 := Lib.hid (ext_then' HB3.out hb)
      have HGp4 := Lib.hid (row_then HGp3.out hb)
      clear hb HB3 HGp3
      rw [contB_snd]
      have HZ := Lib.hid (contB_size (v := v) HP.out.props.1.symm)
      go_wp2_with ((with_reducible refine pk_load (w.heap.size) (p) ?x3 HGp4.out ?a3 ?b3 ?c3 ?d3); (case a3 => rfl); (case b3 => rfl); (case c3 => rfl))
      refine (contV_t v p lw lp (topicH lp) _ (HP.out.will.below HB4.out) (HP.out.props.below HB4.out)).mono ?_
      rintro e w5 ⟨rfl, hb⟩
      have HB5 := Lib.hid (ext_then' HB4.out hb)
      have HGp5 := Lib.hid (row_then HGp4.out hb)
      clear hb HB4 HGp4
      cases he : (contV v p lp == 0)
      · have hne : contV v p lp ≠ 0 := by simpa using he
        rw [contB_bad hne]
        have he' : (contV v p lp != 0) = true := by simpa using hne
        clear hne HZ
        generalize contV v p lp = av at *
        go_wp2_with ((with_reducible refine pk_load (w.heap.size) (p) ?x4 HGp5.out ?a4 ?b4 ?c4 ?d4); (case a4 => rfl); (case b4 => rfl); (case c4 => rfl))
        refine (ctlread_t v (kind) s _ (HS.out)).mono ?_
        rintro e w6 ⟨sl5, hls, rfl, hb⟩
        have HB6 := Lib.hid (ext_then' HB5.out hb)
        have HGp6 := Lib.hid (row_then HGp5.out hb)
        clear hb HB5 HGp5
        have HL := Lib.hid hls
        clear hls
        obtain ⟨⟨code2, l2, e2⟩, hr2⟩ : ∃ r, ctlRd v kind s = r := ⟨_, rfl⟩
        rw [hr2] at HL ⊢
        have HR2 := Lib.hid hr2
        clear hr2
        have HL2 : Hid (LsAt w6 w5.heap.size sl5 l2) := HL
        clear HL
        cases he2 : (e2 != 0)
        · have h0 : e2 = 0 := by simpa using he2
          subst h0
          have hq : resC kind (code2, l2, 0) sl5 = mkP kind 0 code2 sl5 := rfl
          rw [hq]
          clear hq
          have HN2 := Lib.hid (ls_RP HL2.out).1
          have HBK := Lib.hid (ctl_back HR2.out HS.out sl5 HN2.out)
          go_wp2_with (first | ((with_reducible refine pk_store w6.heap.size (mkP kind 0 code2 sl5) ?x5 ?y5 _ (heap_alloc_new _ _) ?a5 ?b5 ?c5 ?d5 ?e5 ?f5); (case a5 => rfl); (case b5 => rfl); (case c5 => rfl); (case d5 => rfl); (case e5 => rfl)) | ((with_reducible refine pk_load (w.heap.size) (p) ?x6 HGp6.out ?a6 ?b6 ?c6 ?d6); (case a6 => rfl); (case b6 => rfl); (case c6 => rfl)))
          intro w7 hg hgr
          have HL3 := Lib.hid (ls_store HL2.out hgr)
          have HB7 := Lib.hid (below_store HB6.out hgr)
          have HGp7 := Lib.hid (row_store HGp6.out hgr)
          have HGy7 := Lib.hid hg
          clear hg hgr HB6 HGp6
          have cy_0 : w7.cell? ⟨w6.heap.size, 0, none⟩ = some (.int .i64 (kind)) := pack_at HGy7.out 0 _ rfl
          go_wp2_with (first | ((with_reducible refine pk_load (w.heap.size) (p) ?x7 HGp7.out ?a7 ?b7 ?c7 ?d7); (case a7 => rfl); (case b7 => rfl); (case c7 => rfl)) | ((with_reducible refine pk_load (w6.heap.size) (mkP kind 0 code2 sl5) ?x8 HGy7.out ?a8 ?b8 ?c8 ?d8); (case a8 => rfl); (case b8 => rfl); (case c8 => rfl)))
          refine (contB_t v (mkP kind 0 code2 sl5) [] l2 (topicH l2) _ (nil_RP _) (ls_RP HL3.out).2).mono ?_
          rintro e w8 ⟨rfl, hb⟩
          have HB8 := Lib.hid (ext_then' HB7.out hb)
          have HGp8 := Lib.hid (row_then HGp7.out hb)
          have HGy8 := Lib.hid (row_then HGy7.out hb)
          clear hb HB7 HGp7 HGy7
          clear cy_0
          have cy_0 : w8.cell? ⟨w6.heap.size, 0, none⟩ = some (.int .i64 (kind)) := pack_at HGy8.out 0 _ rfl
          rw [HBK.out]
          go_wp2
          go_ret
          exact ⟨rfl, HB8.out⟩
        · have hne : ¬ e2 = 0 := by simpa using he2
          have hq : resC kind (code2, l2, e2) sl5 = zeroPk := if_neg hne
          rw [hq]
          clear hne hq
          go_wp2_with (first | ((with_reducible refine pk_store w6.heap.size (zeroPk) ?x9 ?y9 _ (heap_alloc_new _ _) ?a9 ?b9 ?c9 ?d9 ?e9 ?f9); (case a9 => rfl); (case b9 => rfl); (case c9 => rfl); (case d9 => rfl); (case e9 => rfl)) | ((with_reducible refine pk_load (w.heap.size) (p) ?x10 HGp6.out ?a10 ?b10 ?c10 ?d10); (case a10 => rfl); (case b10 => rfl); (case c10 => rfl)))
          intro w7 hg hgr
          have HB7 := Lib.hid (below_store HB6.out hgr)
          have HGp7 := Lib.hid (row_store HGp6.out hgr)
          have HGz7 := Lib.hid hg
          clear hg hgr HB6 HGp6
          go_wp2_with (first | ((with_reducible refine pk_load (w.heap.size) (p) ?x11 HGp7.out ?a11 ?b11 ?c11 ?d11); (case a11 => rfl); (case b11 => rfl); (case c11 => rfl)) | ((with_reducible refine pk_load (w6.heap.size) (zeroPk) ?x12 HGz7.out ?a12 ?b12 ?c12 ?d12); (case a12 => rfl); (case b12 => rfl); (case c12 => rfl)))
          refine (none_t _).mono ?_
          rintro e w8 ⟨rfl, hb⟩
          have HB8 := Lib.hid (ext_then' HB7.out hb)
          have HGp8 := Lib.hid (row_then HGp7.out hb)
          have HGz8 := Lib.hid (row_then HGz7.out hb)
          clear hb HB7 HGp7 HGz7
          go_wp2
          go_ret
          exact ⟨rfl, HB8.out⟩
      · have h0 : contV v p lp = 0 := by simpa using he
        have HA := Lib.hid h0
        have HRD := Lib.hid (ctl_read h0 HP.out.props.1.symm HP.out.props.2.2.1 HZ.out)
        have HOK := Lib.hid (conOK_of h0)
        have HTL := Lib.hid (contB_fst h0).symm
        have HBL : Hid (bl (contB v p lp).1 = ackTl p.kind p.code lp) := Lib.hid (by rw [contB_fst h0]; exact con_tail HOK.out.bytes (con_code HOK.out).1 (con_code HOK.out).2 HP.out.props.1.symm)
        rw [h0]
        clear h0 he
        generalize (contB v p lp).1 = a at *
        have cp_0 : w5.cell? ⟨w.heap.size, 0, none⟩ = some (.int .i64 (p.kind)) := pack_at HGp5.out 0 _ rfl
        go_wp2_with ((with_reducible refine pk_load (w.heap.size) (p) ?x13 HGp5.out ?a13 ?b13 ?c13 ?d13); (case a13 => rfl); (case b13 => rfl); (case c13 => rfl))
        refine (ctlread_t v (p.kind) a _ (HZ.out)).mono ?_
        rintro e w6 ⟨sl5, hls, rfl, hb⟩
        have HB6 := Lib.hid (ext_then' HB5.out hb)
        have HGp6 := Lib.hid (row_then HGp5.out hb)
        clear hb HB5 HGp5
        clear cp_0
        have cp_0 : w6.cell? ⟨w.heap.size, 0, none⟩ = some (.int .i64 (p.kind)) := pack_at HGp6.out 0 _ rfl
        rw [HRD.out]
        have hq : resC p.kind (p.code, lp, 0) sl5 = mkP p.kind 0 p.code sl5 := rfl
        rw [hq]
        clear hq
        rw [HRD.out] at hls
        have HL1 : Hid (LsAt w6 w5.heap.size sl5 lp) := Lib.hid hls
        clear hls
        go_wp2_with (first | ((with_reducible refine pk_store w6.heap.size (mkP p.kind 0 p.code sl5) ?x14 ?y14 _ (heap_alloc_new _ _) ?a14 ?b14 ?c14 ?d14 ?e14 ?f14); (case a14 => rfl); (case b14 => rfl); (case c14 => rfl); (case d14 => rfl); (case e14 => rfl)) | ((with_reducible refine pk_load (w.heap.size) (p) ?x15 HGp6.out ?a15 ?b15 ?c15 ?d15); (case a15 => rfl); (case b15 => rfl); (case c15 => rfl)))
        intro w7 hg hgr
        have HL1b := Lib.hid (ls_store HL1.out hgr)
        have HB7 := Lib.hid (below_store HB6.out hgr)
        have HGp7 := Lib.hid (row_store HGp6.out hgr)
        have HGq7 := Lib.hid hg
        clear hg hgr HB6 HGp6
        clear cp_0
        have cp_0 : w7.cell? ⟨w.heap.size, 0, none⟩ = some (.int .i64 (p.kind)) := pack_at HGp7.out 0 _ rfl
        have hn : p.props.n = lp.length := HP.out.props.1.symm
        have HSM : Hid (p = reSl (mkP p.kind 0 p.code sl5) p.wProps p.codes p.filters p.props ∧ p.wProps.n = 0 ∧ p.codes.n = 0 ∧ p.filters.n = 0) := Lib.hid (con_is HA.out sl5)
        have HLW : Hid (lw = []) := Lib.hid (nil_of HP.out.will HSM.out.2.1)
        have HLC : Hid (lc = []) := Lib.hid (List.eq_nil_of_length_eq_zero (by rw [HP.out.codes.1, HSM.out.2.2.1]))
        have HLF : Hid (lf = []) := Lib.hid (List.eq_nil_of_length_eq_zero (by rw [HP.out.filters.1, HSM.out.2.2.2]))
        by_cases hc : p.code = 0
        · by_cases hl : lp = []
          · have ha : a = ⟨#[]⟩ := by
              apply bl_inj
              rw [HBL.out]
              unfold ackTl
              rw [if_pos hl, if_pos hc]
              rfl
            have hc1 : (p.code == 0) = true := by simpa using hc
            have hc2 : (p.code != 0) = false := by simpa using hc
            have hn1 : ((p.props.n : Int) == 0) = true := by rw [hn]; simpa using hl
            have HAE := Lib.hid ha
            rw [ha]
            clear hc hl hn ha
            clear cp_0
            have cp_0 : w7.cell? ⟨w.heap.size, 0, none⟩ = some (.int .i64 (p.kind)) := pack_at HGp7.out 0 _ rfl
            have cp_21 : w7.cell? ⟨w.heap.size, 21, none⟩ = some (.int .i64 (p.code)) := pack_at HGp7.out 21 _ rfl
            have cp_24 : w7.cell? ⟨w.heap.size, 24, none⟩ = some (.slice p.props.A p.props.n p.props.c) := pack_at HGp7.out 24 _ rfl
            go_wp2_with (first | ((with_reducible refine pk_load (w.heap.size) (p) ?x16 HGp7.out ?a16 ?b16 ?c16 ?d16); (case a16 => rfl); (case b16 => rfl); (case c16 => rfl)) | ((with_reducible refine pk_load (w6.heap.size) (mkP p.kind 0 p.code sl5) ?x17 HGq7.out ?a17 ?b17 ?c17 ?d17); (case a17 => rfl); (case b17 => rfl); (case c17 => rfl)))
            have HQK : Hid (RPk w7 (mkP p.kind 0 p.code sl5) lw lc lf lp) := Lib.hid (by
              rw [HLW.out, HLC.out, HLF.out]
              exact ⟨mk_ok sl5 HP.out.ok.kind ⟨Int.le_refl 0, by decide⟩ (by have := con_code HOK.out; omega) (by rw [(ls_RP HL1b.out).1, ← HP.out.props.1.symm]; exact HP.out.ok.pN), nil_RP _, nil_RI _, nil_RF _, (ls_RP HL1b.out).2⟩)
            have HSP := samepk_yes (mkP p.kind 0 p.code sl5) p.wProps p.codes p.filters p.props lw lc lf lp w7 HQK.out (HP.out.will.below HB7.out) (HP.out.codes.below HB7.out) (HP.out.filters.below HB7.out) (HP.out.props.below HB7.out)
            rw [← HSM.out.1] at HSP
            refine HSP.mono ?_
            rintro e w8 ⟨rfl, hb⟩
            have HB8 := Lib.hid (ext_then' HB7.out hb)
            have HGp8 := Lib.hid (row_then HGp7.out hb)
            have HGq8 := Lib.hid (row_then HGq7.out hb)
            clear hb HB7 HGp7 HGq7
            clear cp_0 cp_21 cp_24
            have cp_0 : w8.cell? ⟨w.heap.size, 0, none⟩ = some (.int .i64 (p.kind)) := pack_at HGp8.out 0 _ rfl
            have cp_21 : w8.cell? ⟨w.heap.size, 21, none⟩ = some (.int .i64 (p.code)) := pack_at HGp8.out 21 _ rfl
            have cp_24 : w8.cell? ⟨w.heap.size, 24, none⟩ = some (.slice p.props.A p.props.n p.props.c) := pack_at HGp8.out 24 _ rfl
            go_wp2_with (first | ((with_reducible refine pk_load (w.heap.size) (p) ?x18 HGp8.out ?a18 ?b18 ?c18 ?d18); (case a18 => rfl); (case b18 => rfl); (case c18 => rfl)) | ((with_reducible refine pk_load (w6.heap.size) (mkP p.kind 0 p.code sl5) ?x19 HGq8.out ?a19 ?b19 ?c19 ?d19); (case a19 => rfl); (case b19 => rfl); (case c19 => rfl)))
            refine (ctail_t p.code p.props.A p.props.n p.props.c p.kind lp (topicH lp) _ (HP.out.props.below HB8.out)).mono ?_
            rintro e w9 ⟨rfl, hb⟩
            have HB9 := Lib.hid (ext_then' HB8.out hb)
            have HGp9 := Lib.hid (row_then HGp8.out hb)
            have HGq9 := Lib.hid (row_then HGq8.out hb)
            clear hb HB8 HGp8 HGq8
            clear cp_0 cp_21 cp_24
            have cp_0 : w9.cell? ⟨w.heap.size, 0, none⟩ = some (.int .i64 (p.kind)) := pack_at HGp9.out 0 _ rfl
            have cp_21 : w9.cell? ⟨w.heap.size, 21, none⟩ = some (.int .i64 (p.code)) := pack_at HGp9.out 21 _ rfl
            have cp_24 : w9.cell? ⟨w.heap.size, 24, none⟩ = some (.slice p.props.A p.props.n p.props.c) := pack_at HGp9.out 24 _ rfl
            rw [HTL.out.trans HAE.out]
            go_wp2_with (first | ((with_reducible refine pk_load (w.heap.size) (p) ?x20 HGp9.out ?a20 ?b20 ?c20 ?d20); (case a20 => rfl); (case b20 => rfl); (case c20 => rfl)) | ((with_reducible refine pk_load (w6.heap.size) (mkP p.kind 0 p.code sl5) ?x21 HGq9.out ?a21 ?b21 ?c21 ?d21); (case a21 => rfl); (case b21 => rfl); (case c21 => rfl)))
            refine (ctlread_t v (kind) s _ (HS.out)).mono ?_
            rintro e w10 ⟨sl9, hls, rfl, hb⟩
            have HB10 := Lib.hid (ext_then' HB9.out hb)
            have HGp10 := Lib.hid (row_then HGp9.out hb)
            have HGq10 := Lib.hid (row_then HGq9.out hb)
            clear hb HB9 HGp9 HGq9
            clear cp_0 cp_21 cp_24
            have cp_0 : w10.cell? ⟨w.heap.size, 0, none⟩ = some (.int .i64 (p.kind)) := pack_at HGp10.out 0 _ rfl
            have cp_21 : w10.cell? ⟨w.heap.size, 21, none⟩ = some (.int .i64 (p.code)) := pack_at HGp10.out 21 _ rfl
            have cp_24 : w10.cell? ⟨w.heap.size, 24, none⟩ = some (.slice p.props.A p.props.n p.props.c) := pack_at HGp10.out 24 _ rfl
            have HL := Lib.hid hls
            clear hls
            obtain ⟨⟨code2, l2, e2⟩, hr2⟩ : ∃ r, ctlRd v kind s = r := ⟨_, rfl⟩
            rw [hr2] at HL ⊢
            have HR2 := Lib.hid hr2
            clear hr2
            have HL2 : Hid (LsAt w10 w9.heap.size sl9 l2) := HL
            clear HL
            cases he2 : (e2 != 0)
            · have h0 : e2 = 0 := by simpa using he2
              subst h0
              have hq : resC kind (code2, l2, 0) sl9 = mkP kind 0 code2 sl9 := rfl
              rw [hq]
              clear hq
              have HN2 := Lib.hid (ls_RP HL2.out).1
              have HBK := Lib.hid (ctl_back HR2.out HS.out sl9 HN2.out)
              go_wp2_with (first | ((with_reducible refine pk_store w10.heap.size (mkP kind 0 code2 sl9) ?x22 ?y22 _ (heap_alloc_new _ _) ?a22 ?b22 ?c22 ?d22 ?e22 ?f22); (case a22 => rfl); (case b22 => rfl); (case c22 => rfl); (case d22 => rfl); (case e22 => rfl)) | ((with_reducible refine pk_load (w.heap.size) (p) ?x23 HGp10.out ?a23 ?b23 ?c23 ?d23); (case a23 => rfl); (case b23 => rfl); (case c23 => rfl)) | ((with_reducible refine pk_load (w6.heap.size) (mkP p.kind 0 p.code sl5) ?x24 HGq10.out ?a24 ?b24 ?c24 ?d24); (case a24 => rfl); (case b24 => rfl); (case c24 => rfl)))
              intro w11 hg hgr
              have HL3 := Lib.hid (ls_store HL2.out hgr)
              have HB11 := Lib.hid (below_store HB10.out hgr)
              have HGp11 := Lib.hid (row_store HGp10.out hgr)
              have HGq11 := Lib.hid (row_store HGq10.out hgr)
              have HGy11 := Lib.hid hg
              clear hg hgr HB10 HGp10 HGq10
              clear cp_0 cp_21 cp_24
              have cy_0 : w11.cell? ⟨w10.heap.size, 0, none⟩ = some (.int .i64 (kind)) := pack_at HGy11.out 0 _ rfl
              go_wp2_with (first | ((with_reducible refine pk_load (w.heap.size) (p) ?x25 HGp11.out ?a25 ?b25 ?c25 ?d25); (case a25 => rfl); (case b25 => rfl); (case c25 => rfl)) | ((with_reducible refine pk_load (w6.heap.size) (mkP p.kind 0 p.code sl5) ?x26 HGq11.out ?a26 ?b26 ?c26 ?d26); (case a26 => rfl); (case b26 => rfl); (case c26 => rfl)) | ((with_reducible refine pk_load (w10.heap.size) (mkP kind 0 code2 sl9) ?x27 HGy11.out ?a27 ?b27 ?c27 ?d27); (case a27 => rfl); (case b27 => rfl); (case c27 => rfl)))
              refine (contB_t v (mkP kind 0 code2 sl9) [] l2 (topicH l2) _ (nil_RP _) (ls_RP HL3.out).2).mono ?_
              rintro e w12 ⟨rfl, hb⟩
              have HB12 := Lib.hid (ext_then' HB11.out hb)
              have HGp12 := Lib.hid (row_then HGp11.out hb)
              have HGq12 := Lib.hid (row_then HGq11.out hb)
              have HGy12 := Lib.hid (row_then HGy11.out hb)
              clear hb HB11 HGp11 HGq11 HGy11
              clear cy_0
              have cy_0 : w12.cell? ⟨w10.heap.size, 0, none⟩ = some (.int .i64 (kind)) := pack_at HGy12.out 0 _ rfl
              rw [HBK.out]
              go_wp2
              go_ret
              exact ⟨rfl, HB12.out⟩
            · have hne : ¬ e2 = 0 := by simpa using he2
              have hq : resC kind (code2, l2, e2) sl9 = zeroPk := if_neg hne
              rw [hq]
              clear hne hq
              go_wp2_with (first | ((with_reducible refine pk_store w10.heap.size (zeroPk) ?x28 ?y28 _ (heap_alloc_new _ _) ?a28 ?b28 ?c28 ?d28 ?e28 ?f28); (case a28 => rfl); (case b28 => rfl); (case c28 => rfl); (case d28 => rfl); (case e28 => rfl)) | ((with_reducible refine pk_load (w.heap.size) (p) ?x29 HGp10.out ?a29 ?b29 ?c29 ?d29); (case a29 => rfl); (case b29 => rfl); (case c29 => rfl)) | ((with_reducible refine pk_load (w6.heap.size) (mkP p.kind 0 p.code sl5) ?x30 HGq10.out ?a30 ?b30 ?c30 ?d30); (case a30 => rfl); (case b30 => rfl); (case c30 => rfl)))
              intro w11 hg hgr
              have HB11 := Lib.hid (below_store HB10.out hgr)
              have HGp11 := Lib.hid (row_store HGp10.out hgr)
              have HGq11 := Lib.hid (row_store HGq10.out hgr)
              have HGz11 := Lib.hid hg
              clear hg hgr HB10 HGp10 HGq10
              clear cp_0 cp_21 cp_24
              have cp_0 : w11.cell? ⟨w.heap.size, 0, none⟩ = some (.int .i64 (p.kind)) := pack_at HGp11.out 0 _ rfl
              have cp_21 : w11.cell? ⟨w.heap.size, 21, none⟩ = some (.int .i64 (p.code)) := pack_at HGp11.out 21 _ rfl
              have cp_24 : w11.cell? ⟨w.heap.size, 24, none⟩ = some (.slice p.props.A p.props.n p.props.c) := pack_at HGp11.out 24 _ rfl
              go_wp2_with (first | ((with_reducible refine pk_load (w.heap.size) (p) ?x31 HGp11.out ?a31 ?b31 ?c31 ?d31); (case a31 => rfl); (case b31 => rfl); (case c31 => rfl)) | ((with_reducible refine pk_load (w6.heap.size) (mkP p.kind 0 p.code sl5) ?x32 HGq11.out ?a32 ?b32 ?c32 ?d32); (case a32 => rfl); (case b32 => rfl); (case c32 => rfl)) | ((with_reducible refine pk_load (w10.heap.size) (zeroPk) ?x33 HGz11.out ?a33 ?b33 ?c33 ?d33); (case a33 => rfl); (case b33 => rfl); (case c33 => rfl)))
              refine (none_t _).mono ?_
              rintro e w12 ⟨rfl, hb⟩
              have HB12 := Lib.hid (ext_then' HB11.out hb)
              have HGp12 := Lib.hid (row_then HGp11.out hb)
              have HGq12 := Lib.hid (row_then HGq11.out hb)
              have HGz12 := Lib.hid (row_then HGz11.out hb)
              clear hb HB11 HGp11 HGq11 HGz11
              clear cp_0 cp_21 cp_24
              have cp_0 : w12.cell? ⟨w.heap.size, 0, none⟩ = some (.int .i64 (p.kind)) := pack_at HGp12.out 0 _ rfl
              have cp_21 : w12.cell? ⟨w.heap.size, 21, none⟩ = some (.int .i64 (p.code)) := pack_at HGp12.out 21 _ rfl
              have cp_24 : w12.cell? ⟨w.heap.size, 24, none⟩ = some (.slice p.props.A p.props.n p.props.c) := pack_at HGp12.out 24 _ rfl
              go_wp2
              go_ret
              exact ⟨rfl, HB12.out⟩
          · have ha : ¬ bl a = [] := by
              rw [HBL.out]
              unfold ackTl
              rw [if_neg hl]
              simp [bl, be1, strOfNums]
            have ha2 : ¬ a.toList = [] := by rw [ByteArray.toList_eq]; exact ha
            have ha1 : a.toList.isEmpty = false := by simpa using ha2
            have hc1 : (p.code == 0) = true := by simpa using hc
            have hc2 : (p.code != 0) = false := by simpa using hc
            have hn1 : ((p.props.n : Int) == 0) = false := by rw [hn]; simpa using hl
            clear hc hl hn ha
            clear cp_0
            have cp_0 : w7.cell? ⟨w.heap.size, 0, none⟩ = some (.int .i64 (p.kind)) := pack_at HGp7.out 0 _ rfl
            have cp_21 : w7.cell? ⟨w.heap.size, 21, none⟩ = some (.int .i64 (p.code)) := pack_at HGp7.out 21 _ rfl
            have cp_24 : w7.cell? ⟨w.heap.size, 24, none⟩ = some (.slice p.props.A p.props.n p.props.c) := pack_at HGp7.out 24 _ rfl
            go_wp2_with (first | ((with_reducible refine pk_load (w.heap.size) (p) ?x34 HGp7.out ?a34 ?b34 ?c34 ?d34); (case a34 => rfl); (case b34 => rfl); (case c34 => rfl)) | ((with_reducible refine pk_load (w6.heap.size) (mkP p.kind 0 p.code sl5) ?x35 HGq7.out ?a35 ?b35 ?c35 ?d35); (case a35 => rfl); (case b35 => rfl); (case c35 => rfl)))
            have HQK : Hid (RPk w7 (mkP p.kind 0 p.code sl5) lw lc lf lp) := Lib.hid (by
              rw [HLW.out, HLC.out, HLF.out]
              exact ⟨mk_ok sl5 HP.out.ok.kind ⟨Int.le_refl 0, by decide⟩ (by have := con_code HOK.out; omega) (by rw [(ls_RP HL1b.out).1, ← HP.out.props.1.symm]; exact HP.out.ok.pN), nil_RP _, nil_RI _, nil_RF _, (ls_RP HL1b.out).2⟩)
            have HSP := samepk_yes (mkP p.kind 0 p.code sl5) p.wProps p.codes p.filters p.props lw lc lf lp w7 HQK.out (HP.out.will.below HB7.out) (HP.out.codes.below HB7.out) (HP.out.filters.below HB7.out) (HP.out.props.below HB7.out)
            rw [← HSM.out.1] at HSP
            refine HSP.mono ?_
            rintro e w8 ⟨rfl, hb⟩
            have HB8 := Lib.hid (ext_then' HB7.out hb)
            have HGp8 := Lib.hid (row_then HGp7.out hb)
            have HGq8 := Lib.hid (row_then HGq7.out hb)
            clear hb HB7 HGp7 HGq7
            clear cp_0 cp_21 cp_24
            have cp_0 : w8.cell? ⟨w.heap.size, 0, none⟩ = some (.int .i64 (p.kind)) := pack_at HGp8.out 0 _ rfl
            have cp_21 : w8.cell? ⟨w.heap.size, 21, none⟩ = some (.int .i64 (p.code)) := pack_at HGp8.out 21 _ rfl
            have cp_24 : w8.cell? ⟨w.heap.size, 24, none⟩ = some (.slice p.props.A p.props.n p.props.c) := pack_at HGp8.out 24 _ rfl
            go_wp2_with (first | ((with_reducible refine pk_load (w.heap.size) (p) ?x36 HGp8.out ?a36 ?b36 ?c36 ?d36); (case a36 => rfl); (case b36 => rfl); (case c36 => rfl)) | ((with_reducible refine pk_load (w6.heap.size) (mkP p.kind 0 p.code sl5) ?x37 HGq8.out ?a37 ?b37 ?c37 ?d37); (case a37 => rfl); (case b37 => rfl); (case c37 => rfl)))
            refine (ctail_t p.code p.props.A p.props.n p.props.c p.kind lp (topicH lp) _ (HP.out.props.below HB8.out)).mono ?_
            rintro e w9 ⟨rfl, hb⟩
            have HB9 := Lib.hid (ext_then' HB8.out hb)
            have HGp9 := Lib.hid (row_then HGp8.out hb)
            have HGq9 := Lib.hid (row_then HGq8.out hb)
            clear hb HB8 HGp8 HGq8
            clear cp_0 cp_21 cp_24
            have cp_0 : w9.cell? ⟨w.heap.size, 0, none⟩ = some (.int .i64 (p.kind)) := pack_at HGp9.out 0 _ rfl
            have cp_21 : w9.cell? ⟨w.heap.size, 21, none⟩ = some (.int .i64 (p.code)) := pack_at HGp9.out 21 _ rfl
            have cp_24 : w9.cell? ⟨w.heap.size, 24, none⟩ = some (.slice p.props.A p.props.n p.props.c) := pack_at HGp9.out 24 _ rfl
            rw [HTL.out]
            go_wp2_with (first | ((with_reducible refine pk_load (w.heap.size) (p) ?x38 HGp9.out ?a38 ?b38 ?c38 ?d38); (case a38 => rfl); (case b38 => rfl); (case c38 => rfl)) | ((with_reducible refine pk_load (w6.heap.size) (mkP p.kind 0 p.code sl5) ?x39 HGq9.out ?a39 ?b39 ?c39 ?d39); (case a39 => rfl); (case b39 => rfl); (case c39 => rfl)))
            refine (ctlread_t v (kind) s _ (HS.out)).mono ?_
            rintro e w10 ⟨sl9, hls, rfl, hb⟩
            have HB10 := Lib.hid (ext_then' HB9.out hb)
            have HGp10 := Lib.hid (row_then HGp9.out hb)
            have HGq10 := Lib.hid (row_then HGq9.out hb)
            clear hb HB9 HGp9 HGq9
            clear cp_0 cp_21 cp_24
            have cp_0 : w10.cell? ⟨w.heap.size, 0, none⟩ = some (.int .i64 (p.kind)) := pack_at HGp10.out 0 _ rfl
            have cp_21 : w10.cell? ⟨w.heap.size, 21, none⟩ = some (.int .i64 (p.code)) := pack_at HGp10.out 21 _ rfl
            have cp_24 : w10.cell? ⟨w.heap.size, 24, none⟩ = some (.slice p.props.A p.props.n p.props.c) := pack_at HGp10.out 24 _ rfl
            have HL := Lib.hid hls
            clear hls
            obtain ⟨⟨code2, l2, e2⟩, hr2⟩ : ∃ r, ctlRd v kind s = r := ⟨_, rfl⟩
            rw [hr2] at HL ⊢
            have HR2 := Lib.hid hr2
            clear hr2
            have HL2 : Hid (LsAt w10 w9.heap.size sl9 l2) := HL
            clear HL
            cases he2 : (e2 != 0)
            · have h0 : e2 = 0 := by simpa using he2
              subst h0
              have hq : resC kind (code2, l2, 0) sl9 = mkP kind 0 code2 sl9 := rfl
              rw [hq]
              clear hq
              have HN2 := Lib.hid (ls_RP HL2.out).1
              have HBK := Lib.hid (ctl_back HR2.out HS.out sl9 HN2.out)
              go_wp2_with (first | ((with_reducible refine pk_store w10.heap.size (mkP kind 0 code2 sl9) ?x40 ?y40 _ (heap_alloc_new _ _) ?a40 ?b40 ?c40 ?d40 ?e40 ?f40); (case a40 => rfl); (case b40 => rfl); (case c40 => rfl); (case d40 => rfl); (case e40 => rfl)) | ((with_reducible refine pk_load (w.heap.size) (p) ?x41 HGp10.out ?a41 ?b41 ?c41 ?d41); (case a41 => rfl); (case b41 => rfl); (case c41 => rfl)) | ((with_reducible refine pk_load (w6.heap.size) (mkP p.kind 0 p.code sl5) ?x42 HGq10.out ?a42 ?b42 ?c42 ?d42); (case a42 => rfl); (case b42 => rfl); (case c42 => rfl)))
              intro w11 hg hgr
              have HL3 := Lib.hid (ls_store HL2.out hgr)
              have HB11 := Lib.hid (below_store HB10.out hgr)
              have HGp11 := Lib.hid (row_store HGp10.out hgr)
              have HGq11 := Lib.hid (row_store HGq10.out hgr)
              have HGy11 := Lib.hid hg
              clear hg hgr HB10 HGp10 HGq10
              clear cp_0 cp_21 cp_24
              have cy_0 : w11.cell? ⟨w10.heap.size, 0, none⟩ = some (.int .i64 (kind)) := pack_at HGy11.out 0 _ rfl
              go_wp2_with (first | ((with_reducible refine pk_load (w.heap.size) (p) ?x43 HGp11.out ?a43 ?b43 ?c43 ?d43); (case a43 => rfl); (case b43 => rfl); (case c43 => rfl)) | ((with_reducible refine pk_load (w6.heap.size) (mkP p.kind 0 p.code sl5) ?x44 HGq11.out ?a44 ?b44 ?c44 ?d44); (case a44 => rfl); (case b44 => rfl); (case c44 => rfl)) | ((with_reducible refine pk_load (w10.heap.size) (mkP kind 0 code2 sl9) ?x45 HGy11.out ?a45 ?b45 ?c45 ?d45); (case a45 => rfl); (case b45 => rfl); (case c45 => rfl)))
              refine (contB_t v (mkP kind 0 code2 sl9) [] l2 (topicH l2) _ (nil_RP _) (ls_RP HL3.out).2).mono ?_
              rintro e w12 ⟨rfl, hb⟩
              have HB12 := Lib.hid (ext_then' HB11.out hb)
              have HGp12 := Lib.hid (row_then HGp11.out hb)
              have HGq12 := Lib.hid (row_then HGq11.out hb)
              have HGy12 := Lib.hid (row_then HGy11.out hb)
              clear hb HB11 HGp11 HGq11 HGy11
              clear cy_0
              have cy_0 : w12.cell? ⟨w10.heap.size, 0, none⟩ = some (.int .i64 (kind)) := pack_at HGy12.out 0 _ rfl
              rw [HBK.out]
              go_wp2
              go_ret
              exact ⟨rfl, HB12.out⟩
            · have hne : ¬ e2 = 0 := by simpa using he2
              have hq : resC kind (code2, l2, e2) sl9 = zeroPk := if_neg hne
              rw [hq]
              clear hne hq
              go_wp2_with (first | ((with_reducible refine pk_store w10.heap.size (zeroPk) ?x46 ?y46 _ (heap_alloc_new _ _) ?a46 ?b46 ?c46 ?d46 ?e46 ?f46); (case a46 => rfl); (case b46 => rfl); (case c46 => rfl); (case d46 => rfl); (case e46 => rfl)) | ((with_reducible refine pk_load (w.heap.size) (p) ?x47 HGp10.out ?a47 ?b47 ?c47 ?d47); (case a47 => rfl); (case b47 => rfl); (case c47 => rfl)) | ((with_reducible refine pk_load (w6.heap.size) (mkP p.kind 0 p.code sl5) ?x48 HGq10.out ?a48 ?b48 ?c48 ?d48); (case a48 => rfl); (case b48 => rfl); (case c48 => rfl)))
              intro w11 hg hgr
              have HB11 := Lib.hid (below_store HB10.out hgr)
              have HGp11 := Lib.hid (row_store HGp10.out hgr)
              have HGq11 := Lib.hid (row_store HGq10.out hgr)
              have HGz11 := Lib.hid hg
              clear hg hgr HB10 HGp10 HGq10
              clear cp_0 cp_21 cp_24
              have cp_0 : w11.cell? ⟨w.heap.size, 0, none⟩ = some (.int .i64 (p.kind)) := pack_at HGp11.out 0 _ rfl
              have cp_21 : w11.cell? ⟨w.heap.size, 21, none⟩ = some (.int .i64 (p.code)) := pack_at HGp11.out 21 _ rfl
              have cp_24 : w11.cell? ⟨w.heap.size, 24, none⟩ = some (.slice p.props.A p.props.n p.props.c) := pack_at HGp11.out 24 _ rfl
              go_wp2_with (first | ((with_reducible refine pk_load (w.heap.size) (p) ?x49 HGp11.out ?a49 ?b49 ?c49 ?d49); (case a49 => rfl); (case b49 => rfl); (case c49 => rfl)) | ((with_reducible refine pk_load (w6.heap.size) (mkP p.kind 0 p.code sl5) ?x50 HGq11.out ?a50 ?b50 ?c50 ?d50); (case a50 => rfl); (case b50 => rfl); (case c50 => rfl)) | ((with_reducible refine pk_load (w10.heap.size) (zeroPk) ?x51 HGz11.out ?a51 ?b51 ?c51 ?d51); (case a51 => rfl); (case b51 => rfl); (case c51 => rfl)))
              refine (none_t _).mono ?_
              rintro e w12 ⟨rfl, hb⟩
              have HB12 := Lib.hid (ext_then' HB11.out hb)
              have HGp12 := Lib.hid (row_then HGp11.out hb)
              have HGq12 := Lib.hid (row_then HGq11.out hb)
              have HGz12 := Lib.hid (row_then HGz11.out hb)
              clear hb HB11 HGp11 HGq11 HGz11
              clear cp_0 cp_21 cp_24
              have cp_0 : w12.cell? ⟨w.heap.size, 0, none⟩ = some (.int .i64 (p.kind)) := pack_at HGp12.out 0 _ rfl
              have cp_21 : w12.cell? ⟨w.heap.size, 21, none⟩ = some (.int .i64 (p.code)) := pack_at HGp12.out 21 _ rfl
              have cp_24 : w12.cell? ⟨w.heap.size, 24, none⟩ = some (.slice p.props.A p.props.n p.props.c) := pack_at HGp12.out 24 _ rfl
              go_wp2
              go_ret
              exact ⟨rfl, HB12.out⟩
        · by_cases hl : lp = []
          · have ha : ¬ bl a = [] := by
              rw [HBL.out]
              unfold ackTl
              rw [if_pos hl, if_neg hc]
              simp [bl, be1, strOfNums]
            have ha2 : ¬ a.toList = [] := by rw [ByteArray.toList_eq]; exact ha
            have ha1 : a.toList.isEmpty = false := by simpa using ha2
            have hc1 : (p.code == 0) = false := by simpa using hc
            have hc2 : (p.code != 0) = true := by simpa using hc
            have hn1 : ((p.props.n : Int) == 0) = true := by rw [hn]; simpa using hl
            clear hc hl hn ha
            clear cp_0
            have cp_0 : w7.cell? ⟨w.heap.size, 0, none⟩ = some (.int .i64 (p.kind)) := pack_at HGp7.out 0 _ rfl
            have cp_21 : w7.cell? ⟨w.heap.size, 21, none⟩ = some (.int .i64 (p.code)) := pack_at HGp7.out 21 _ rfl
            have cp_24 : w7.cell? ⟨w.heap.size, 24, none⟩ = some (.slice p.props.A p.props.n p.props.c) := pack_at HGp7.out 24 _ rfl
            go_wp2_with (first | ((with_reducible refine pk_load (w.heap.size) (p) ?x52 HGp7.out ?a52 ?b52 ?c52 ?d52); (case a52 => rfl); (case b52 => rfl); (case c52 => rfl)) | ((with_reducible refine pk_load (w6.heap.size) (mkP p.kind 0 p.code sl5) ?x53 HGq7.out ?a53 ?b53 ?c53 ?d53); (case a53 => rfl); (case b53 => rfl); (case c53 => rfl)))
            have HQK : Hid (RPk w7 (mkP p.kind 0 p.code sl5) lw lc lf lp) := Lib.hid (by
              rw [HLW.out, HLC.out, HLF.out]
              exact ⟨mk_ok sl5 HP.out.ok.kind ⟨Int.le_refl 0, by decide⟩ (by have := con_code HOK.out; omega) (by rw [(ls_RP HL1b.out).1, ← HP.out.props.1.symm]; exact HP.out.ok.pN), nil_RP _, nil_RI _, nil_RF _, (ls_RP HL1b.out).2⟩)
            have HSP := samepk_yes (mkP p.kind 0 p.code sl5) p.wProps p.codes p.filters p.props lw lc lf lp w7 HQK.out (HP.out.will.below HB7.out) (HP.out.codes.below HB7.out) (HP.out.filters.below HB7.out) (HP.out.props.below HB7.out)
            rw [← HSM.out.1] at HSP
            refine HSP.mono ?_
            rintro e w8 ⟨rfl, hb⟩
            have HB8 := Lib.hid (ext_then' HB7.out hb)
            have HGp8 := Lib.hid (row_then HGp7.out hb)
            have HGq8 := Lib.hid (row_then HGq7.out hb)
            clear hb HB7 HGp7 HGq7
            clear cp_0 cp_21 cp_24
            have cp_0 : w8.cell? ⟨w.heap.size, 0, none⟩ = some (.int .i64 (p.kind)) := pack_at HGp8.out 0 _ rfl
            have cp_21 : w8.cell? ⟨w.heap.size, 21, none⟩ = some (.int .i64 (p.code)) := pack_at HGp8.out 21 _ rfl
            have cp_24 : w8.cell? ⟨w.heap.size, 24, none⟩ = some (.slice p.props.A p.props.n p.props.c) := pack_at HGp8.out 24 _ rfl
            go_wp2_with (first | ((with_reducible refine pk_load (w.heap.size) (p) ?x54 HGp8.out ?a54 ?b54 ?c54 ?d54); (case a54 => rfl); (case b54 => rfl); (case c54 => rfl)) | ((with_reducible refine pk_load (w6.heap.size) (mkP p.kind 0 p.code sl5) ?x55 HGq8.out ?a55 ?b55 ?c55 ?d55); (case a55 => rfl); (case b55 => rfl); (case c55 => rfl)))
            refine (ctail_t p.code p.props.A p.props.n p.props.c p.kind lp (topicH lp) _ (HP.out.props.below HB8.out)).mono ?_
            rintro e w9 ⟨rfl, hb⟩
            have HB9 := Lib.hid (ext_then' HB8.out hb)
            have HGp9 := Lib.hid (row_then HGp8.out hb)
            have HGq9 := Lib.hid (row_then HGq8.out hb)
            clear hb HB8 HGp8 HGq8
            clear cp_0 cp_21 cp_24
            have cp_0 : w9.cell? ⟨w.heap.size, 0, none⟩ = some (.int .i64 (p.kind)) := pack_at HGp9.out 0 _ rfl
            have cp_21 : w9.cell? ⟨w.heap.size, 21, none⟩ = some (.int .i64 (p.code)) := pack_at HGp9.out 21 _ rfl
            have cp_24 : w9.cell? ⟨w.heap.size, 24, none⟩ = some (.slice p.props.A p.props.n p.props.c) := pack_at HGp9.out 24 _ rfl
            rw [HTL.out]
            go_wp2_with (first | ((with_reducible refine pk_load (w.heap.size) (p) ?x56 HGp9.out ?a56 ?b56 ?c56 ?d56); (case a56 => rfl); (case b56 => rfl); (case c56 => rfl)) | ((with_reducible refine pk_load (w6.heap.size) (mkP p.kind 0 p.code sl5) ?x57 HGq9.out ?a57 ?b57 ?c57 ?d57); (case a57 => rfl); (case b57 => rfl); (case c57 => rfl)))
            refine (ctlread_t v (kind) s _ (HS.out)).mono ?_
            rintro e w10 ⟨sl9, hls, rfl, hb⟩
            have HB10 := Lib.hid (ext_then' HB9.out hb)
            have HGp10 := Lib.hid (row_then HGp9.out hb)
            have HGq10 := Lib.hid (row_then HGq9.out hb)
            clear hb HB9 HGp9 HGq9
            clear cp_0 cp_21 cp_24
            have cp_0 : w10.cell? ⟨w.heap.size, 0, none⟩ = some (.int .i64 (p.kind)) := pack_at HGp10.out 0 _ rfl
            have cp_21 : w10.cell? ⟨w.heap.size, 21, none⟩ = some (.int .i64 (p.code)) := pack_at HGp10.out 21 _ rfl
            have cp_24 : w10.cell? ⟨w.heap.size, 24, none⟩ = some (.slice p.props.A p.props.n p.props.c) := pack_at HGp10.out 24 _ rfl
            have HL := Lib.hid hls
            clear hls
            obtain ⟨⟨code2, l2, e2⟩, hr2⟩ : ∃ r, ctlRd v kind s = r := ⟨_, rfl⟩
            rw [hr2] at HL ⊢
            have HR2 := Lib.hid hr2
            clear hr2
            have HL2 : Hid (LsAt w10 w9.heap.size sl9 l2) := HL
            clear HL
            cases he2 : (e2 != 0)
            · have h0 : e2 = 0 := by simpa using he2
              subst h0
              have hq : resC kind (code2, l2, 0) sl9 = mkP kind 0 code2 sl9 := rfl
              rw [hq]
              clear hq
              have HN2 := Lib.hid (ls_RP HL2.out).1
              have HBK := Lib.hid (ctl_back HR2.out HS.out sl9 HN2.out)
              go_wp2_with (first | ((with_reducible refine pk_store w10.heap.size (mkP kind 0 code2 sl9) ?x58 ?y58 _ (heap_alloc_new _ _) ?a58 ?b58 ?c58 ?d58 ?e58 ?f58); (case a58 => rfl); (case b58 => rfl); (case c58 => rfl); (case d58 => rfl); (case e58 => rfl)) | ((with_reducible refine pk_load (w.heap.size) (p) ?x59 HGp10.out ?a59 ?b59 ?c59 ?d59); (case a59 => rfl); (case b59 => rfl); (case c59 => rfl)) | ((with_reducible refine pk_load (w6.heap.size) (mkP p.kind 0 p.code sl5) ?x60 HGq10.out ?a60 ?b60 ?c60 ?d60); (case a60 => rfl); (case b60 => rfl); (case c60 => rfl)))
              intro w11 hg hgr
              have HL3 := Lib.hid (ls_store HL2.out hgr)
              have HB11 := Lib.hid (below_store HB10.out hgr)
              have HGp11 := Lib.hid (row_store HGp10.out hgr)
              have HGq11 := Lib.hid (row_store HGq10.out hgr)
              have HGy11 := Lib.hid hg
              clear hg hgr HB10 HGp10 HGq10
              clear cp_0 cp_21 cp_24
              have cy_0 : w11.cell? ⟨w10.heap.size, 0, none⟩ = some (.int .i64 (kind)) := pack_at HGy11.out 0 _ rfl
              go_wp2_with (first | ((with_reducible refine pk_load (w.heap.size) (p) ?x61 HGp11.out ?a61 ?b61 ?c61 ?d61); (case a61 => rfl); (case b61 => rfl); (case c61 => rfl)) | ((with_reducible refine pk_load (w6.heap.size) (mkP p.kind 0 p.code sl5) ?x62 HGq11.out ?a62 ?b62 ?c62 ?d62); (case a62 => rfl); (case b62 => rfl); (case c62 => rfl)) | ((with_reducible refine pk_load (w10.heap.size) (mkP kind 0 code2 sl9) ?x63 HGy11.out ?a63 ?b63 ?c63 ?d63); (case a63 => rfl); (case b63 => rfl); (case c63 => rfl)))
              refine (contB_t v (mkP kind 0 code2 sl9) [] l2 (topicH l2) _ (nil_RP _) (ls_RP HL3.out).2).mono ?_
              rintro e w12 ⟨rfl, hb⟩
              have HB12 := Lib.hid (ext_then' HB11.out hb)
              have HGp12 := Lib.hid (row_then HGp11.out hb)
              have HGq12 := Lib.hid (row_then HGq11.out hb)
              have HGy12 := Lib.hid (row_then HGy11.out hb)
              clear hb HB11 HGp11 HGq11 HGy11
              clear cy_0
              have cy_0 : w12.cell? ⟨w10.heap.size, 0, none⟩ = some (.int .i64 (kind)) := pack_at HGy12.out 0 _ rfl
              rw [HBK.out]
              go_wp2
              go_ret
              exact ⟨rfl, HB12.out⟩
            · have hne : ¬ e2 = 0 := by simpa using he2
              have hq : resC kind (code2, l2, e2) sl9 = zeroPk := if_neg hne
              rw [hq]
              clear hne hq
              go_wp2_with (first | ((with_reducible refine pk_store w10.heap.size (zeroPk) ?x64 ?y64 _ (heap_alloc_new _ _) ?a64 ?b64 ?c64 ?d64 ?e64 ?f64); (case a64 => rfl); (case b64 => rfl); (case c64 => rfl); (case d64 => rfl); (case e64 => rfl)) | ((with_reducible refine pk_load (w.heap.size) (p) ?x65 HGp10.out ?a65 ?b65 ?c65 ?d65); (case a65 => rfl); (case b65 => rfl); (case c65 => rfl)) | ((with_reducible refine pk_load (w6.heap.size) (mkP p.kind 0 p.code sl5) ?x66 HGq10.out ?a66 ?b66 ?c66 ?d66); (case a66 => rfl); (case b66 => rfl); (case c66 => rfl)))
              intro w11 hg hgr
              have HB11 := Lib.hid (below_store HB10.out hgr)
              have HGp11 := Lib.hid (row_store HGp10.out hgr)
              have HGq11 := Lib.hid (row_store HGq10.out hgr)
              have HGz11 := Lib.hid hg
              clear hg hgr HB10 HGp10 HGq10
              clear cp_0 cp_21 cp_24
              have cp_0 : w11.cell? ⟨w.heap.size, 0, none⟩ = some (.int .i64 (p.kind)) := pack_at HGp11.out 0 _ rfl
              have cp_21 : w11.cell? ⟨w.heap.size, 21, none⟩ = some (.int .i64 (p.code)) := pack_at HGp11.out 21 _ rfl
              have cp_24 : w11.cell? ⟨w.heap.size, 24, none⟩ = some (.slice p.props.A p.props.n p.props.c) := pack_at HGp11.out 24 _ rfl
              go_wp2_with (first | ((with_reducible refine pk_load (w.heap.size) (p) ?x67 HGp11.out ?a67 ?b67 ?c67 ?d67); (case a67 => rfl); (case b67 => rfl); (case c67 => rfl)) | ((with_reducible refine pk_load (w6.heap.size) (mkP p.kind 0 p.code sl5) ?x68 HGq11.out ?a68 ?b68 ?c68 ?d68); (case a68 => rfl); (case b68 => rfl); (case c68 => rfl)) | ((with_reducible refine pk_load (w10.heap.size) (zeroPk) ?x69 HGz11.out ?a69 ?b69 ?c69 ?d69); (case a69 => rfl); (case b69 => rfl); (case c69 => rfl)))
              refine (none_t _).mono ?_
              rintro e w12 ⟨rfl, hb⟩
              have HB12 := Lib.hid (ext_then' HB11.out hb)
              have HGp12 := Lib.hid (row_then HGp11.out hb)
              have HGq12 := Lib.hid (row_then HGq11.out hb)
              have HGz12 := Lib.hid (row_then HGz11.out hb)
              clear hb HB11 HGp11 HGq11 HGz11
              clear cp_0 cp_21 cp_24
              have cp_0 : w12.cell? ⟨w.heap.size, 0, none⟩ = some (.int .i64 (p.kind)) := pack_at HGp12.out 0 _ rfl
              have cp_21 : w12.cell? ⟨w.heap.size, 21, none⟩ = some (.int .i64 (p.code)) := pack_at HGp12.out 21 _ rfl
              have cp_24 : w12.cell? ⟨w.heap.size, 24, none⟩ = some (.slice p.props.A p.props.n p.props.c) := pack_at HGp12.out 24 _ rfl
              go_wp2
              go_ret
              exact ⟨rfl, HB12.out⟩
          · have ha : ¬ bl a = [] := by
              rw [HBL.out]
              unfold ackTl
              rw [if_neg hl]
              simp [bl, be1, strOfNums]
            have ha2 : ¬ a.toList = [] := by rw [ByteArray.toList_eq]; exact ha
            have ha1 : a.toList.isEmpty = false := by simpa using ha2
            have hc1 : (p.code == 0) = false := by simpa using hc
            have hc2 : (p.code != 0) = true := by simpa using hc
            have hn1 : ((p.props.n : Int) == 0) = false := by rw [hn]; simpa using hl
            clear hc hl hn ha
            clear cp_0
            have cp_0 : w7.cell? ⟨w.heap.size, 0, none⟩ = some (.int .i64 (p.kind)) := pack_at HGp7.out 0 _ rfl
            have cp_21 : w7.cell? ⟨w.heap.size, 21, none⟩ = some (.int .i64 (p.code)) := pack_at HGp7.out 21 _ rfl
            have cp_24 : w7.cell? ⟨w.heap.size, 24, none⟩ = some (.slice p.props.A p.props.n p.props.c) := pack_at HGp7.out 24 _ rfl
            go_wp2_with (first | ((with_reducible refine pk_load (w.heap.size) (p) ?x70 HGp7.out ?a70 ?b70 ?c70 ?d70); (case a70 => rfl); (case b70 => rfl); (case c70 => rfl)) | ((with_reducible refine pk_load (w6.heap.size) (mkP p.kind 0 p.code sl5) ?x71 HGq7.out ?a71 ?b71 ?c71 ?d71); (case a71 => rfl); (case b71 => rfl); (case c71 => rfl)))
            have HQK : Hid (RPk w7 (mkP p.kind 0 p.code sl5) lw lc lf lp) := Lib.hid (by
              rw [HLW.out, HLC.out, HLF.out]
              exact ⟨mk_ok sl5 HP.out.ok.kind ⟨Int.le_refl 0, by decide⟩ (by have := con_code HOK.out; omega) (by rw [(ls_RP HL1b.out).1, ← HP.out.props.1.symm]; exact HP.out.ok.pN), nil_RP _, nil_RI _, nil_RF _, (ls_RP HL1b.out).2⟩)
            have HSP := samepk_yes (mkP p.kind 0 p.code sl5) p.wProps p.codes p.filters p.props lw lc lf lp w7 HQK.out (HP.out.will.below HB7.out) (HP.out.codes.below HB7.out) (HP.out.filters.below HB7.out) (HP.out.props.below HB7.out)
            rw [← HSM.out.1] at HSP
            refine HSP.mono ?_
            rintro e w8 ⟨rfl, hb⟩
            have HB8 := Lib.hid (ext_then' HB7.out hb)
            have HGp8 := Lib.hid (row_then HGp7.out hb)
            have HGq8 := Lib.hid (row_then HGq7.out hb)
            clear hb HB7 HGp7 HGq7
            clear cp_0 cp_21 cp_24
            have cp_0 : w8.cell? ⟨w.heap.size, 0, none⟩ = some (.int .i64 (p.kind)) := pack_at HGp8.out 0 _ rfl
            have cp_21 : w8.cell? ⟨w.heap.size, 21, none⟩ = some (.int .i64 (p.code)) := pack_at HGp8.out 21 _ rfl
            have cp_24 : w8.cell? ⟨w.heap.size, 24, none⟩ = some (.slice p.props.A p.props.n p.props.c) := pack_at HGp8.out 24 _ rfl
            go_wp2_with (first | ((with_reducible refine pk_load (w.heap.size) (p) ?x72 HGp8.out ?a72 ?b72 ?c72 ?d72); (case a72 => rfl); (case b72 => rfl); (case c72 => rfl)) | ((with_reducible refine pk_load (w6.heap.size) (mkP p.kind 0 p.code sl5) ?x73 HGq8.out ?a73 ?b73 ?c73 ?d73); (case a73 => rfl); (case b73 => rfl); (case c73 => rfl)))
            refine (ctail_t p.code p.props.A p.props.n p.props.c p.kind lp (topicH lp) _ (HP.out.props.below HB8.out)).mono ?_
            rintro e w9 ⟨rfl, hb⟩
            have HB9 := Lib.hid (ext_then' HB8.out hb)
            have HGp9 := Lib.hid (row_then HGp8.out hb)
            have HGq9 := Lib.hid (row_then HGq8.out hb)
            clear hb HB8 HGp8 HGq8
            clear cp_0 cp_21 cp_24
            have cp_0 : w9.cell? ⟨w.heap.size, 0, none⟩ = some (.int .i64 (p.kind)) := pack_at HGp9.out 0 _ rfl
            have cp_21 : w9.cell? ⟨w.heap.size, 21, none⟩ = some (.int .i64 (p.code)) := pack_at HGp9.out 21 _ rfl
            have cp_24 : w9.cell? ⟨w.heap.size, 24, none⟩ = some (.slice p.props.A p.props.n p.props.c) := pack_at HGp9.out 24 _ rfl
            rw [HTL.out]
            go_wp2_with (first | ((with_reducible refine pk_load (w.heap.size) (p) ?x74 HGp9.out ?a74 ?b74 ?c74 ?d74); (case a74 => rfl); (case b74 => rfl); (case c74 => rfl)) | ((with_reducible refine pk_load (w6.heap.size) (mkP p.kind 0 p.code sl5) ?x75 HGq9.out ?a75 ?b75 ?c75 ?d75); (case a75 => rfl); (case b75 => rfl); (case c75 => rfl)))
            refine (ctlread_t v (kind) s _ (HS.out)).mono ?_
            rintro e w10 ⟨sl9, hls, rfl, hb⟩
            have HB10 := Lib.hid (ext_then' HB9.out hb)
            have HGp10 := Lib.hid (row_then HGp9.out hb)
            have HGq10 := Lib.hid (row_then HGq9.out hb)
            clear hb HB9 HGp9 HGq9
            clear cp_0 cp_21 cp_24
            have cp_0 : w10.cell? ⟨w.heap.size, 0, none⟩ = some (.int .i64 (p.kind)) := pack_at HGp10.out 0 _ rfl
            have cp_21 : w10.cell? ⟨w.heap.size, 21, none⟩ = some (.int .i64 (p.code)) := pack_at HGp10.out 21 _ rfl
            have cp_24 : w10.cell? ⟨w.heap.size, 24, none⟩ = some (.slice p.props.A p.props.n p.props.c) := pack_at HGp10.out 24 _ rfl
            have HL := Lib.hid hls
            clear hls
            obtain ⟨⟨code2, l2, e2⟩, hr2⟩ : ∃ r, ctlRd v kind s = r := ⟨_, rfl⟩
            rw [hr2] at HL ⊢
            have HR2 := Lib.hid hr2
            clear hr2
            have HL2 : Hid (LsAt w10 w9.heap.size sl9 l2) := HL
            clear HL
            cases he2 : (e2 != 0)
            · have h0 : e2 = 0 := by simpa using he2
              subst h0
              have hq : resC kind (code2, l2, 0) sl9 = mkP kind 0 code2 sl9 := rfl
              rw [hq]
              clear hq
              have HN2 := Lib.hid (ls_RP HL2.out).1
              have HBK := Lib.hid (ctl_back HR2.out HS.out sl9 HN2.out)
              go_wp2_with (first | ((with_reducible refine pk_store w10.heap.size (mkP kind 0 code2 sl9) ?x76 ?y76 _ (heap_alloc_new _ _) ?a76 ?b76 ?c76 ?d76 ?e76 ?f76); (case a76 => rfl); (case b76 => rfl); (case c76 => rfl); (case d76 => rfl); (case e76 => rfl)) | ((with_reducible refine pk_load (w.heap.size) (p) ?x77 HGp10.out ?a77 ?b77 ?c77 ?d77); (case a77 => rfl); (case b77 => rfl); (case c77 => rfl)) | ((with_reducible refine pk_load (w6.heap.size) (mkP p.kind 0 p.code sl5) ?x78 HGq10.out ?a78 ?b78 ?c78 ?d78); (case a78 => rfl); (case b78 => rfl); (case c78 => rfl)))
              intro w11 hg hgr
              have HL3 := Lib.hid (ls_store HL2.out hgr)
              have HB11 := Lib.hid (below_store HB10.out hgr)
              have HGp11 := Lib.hid (row_store HGp10.out hgr)
              have HGq11 := Lib.hid (row_store HGq10.out hgr)
              have HGy11 := Lib.hid hg
              clear hg hgr HB10 HGp10 HGq10
              clear cp_0 cp_21 cp_24
              have cy_0 : w11.cell? ⟨w10.heap.size, 0, none⟩ = some (.int .i64 (kind)) := pack_at HGy11.out 0 _ rfl
              go_wp2_with (first | ((with_reducible refine pk_load (w.heap.size) (p) ?x79 HGp11.out ?a79 ?b79 ?c79 ?d79); (case a79 => rfl); (case b79 => rfl); (case c79 => rfl)) | ((with_reducible refine pk_load (w6.heap.size) (mkP p.kind 0 p.code sl5) ?x80 HGq11.out ?a80 ?b80 ?c80 ?d80); (case a80 => rfl); (case b80 => rfl); (case c80 => rfl)) | ((with_reducible refine pk_load (w10.heap.size) (mkP kind 0 code2 sl9) ?x81 HGy11.out ?a81 ?b81 ?c81 ?d81); (case a81 => rfl); (case b81 => rfl); (case c81 => rfl)))
              refine (contB_t v (mkP kind 0 code2 sl9) [] l2 (topicH l2) _ (nil_RP _) (ls_RP HL3.out).2).mono ?_
              rintro e w12 ⟨rfl, hb⟩
              have HB12 := Lib.hid (ext_then' HB11.out hb)
              have HGp12 := Lib.hid (row_then HGp11.out hb)
              have HGq12 := Lib.hid (row_then HGq11.out hb)
              have HGy12 := Lib.hid (row_then HGy11.out hb)
              clear hb HB11 HGp11 HGq11 HGy11
              clear cy_0
              have cy_0 : w12.cell? ⟨w10.heap.size, 0, none⟩ = some (.int .i64 (kind)) := pack_at HGy12.out 0 _ rfl
              rw [HBK.out]
              go_wp2
              go_ret
              exact ⟨rfl, HB12.out⟩
            · have hne : ¬ e2 = 0 := by simpa using he2
              have hq : resC kind (code2, l2, e2) sl9 = zeroPk := if_neg hne
              rw [hq]
              clear hne hq
              go_wp2_with (first | ((with_reducible refine pk_store w10.heap.size (zeroPk) ?x82 ?y82 _ (heap_alloc_new _ _) ?a82 ?b82 ?c82 ?d82 ?e82 ?f82); (case a82 => rfl); (case b82 => rfl); (case c82 => rfl); (case d82 => rfl); (case e82 => rfl)) | ((with_reducible refine pk_load (w.heap.size) (p) ?x83 HGp10.out ?a83 ?b83 ?c83 ?d83); (case a83 => rfl); (case b83 => rfl); (case c83 => rfl)) | ((with_reducible refine pk_load (w6.heap.size) (mkP p.kind 0 p.code sl5) ?x84 HGq10.out ?a84 ?b84 ?c84 ?d84); (case a84 => rfl); (case b84 => rfl); (case c84 => rfl)))
              intro w11 hg hgr
              have HB11 := Lib.hid (below_store HB10.out hgr)
              have HGp11 := Lib.hid (row_store HGp10.out hgr)
              have HGq11 := Lib.hid (row_store HGq10.out hgr)
              have HGz11 := Lib.hid hg
              clear hg hgr HB10 HGp10 HGq10
              clear cp_0 cp_21 cp_24
              have cp_0 : w11.cell? ⟨w.heap.size, 0, none⟩ = some (.int .i64 (p.kind)) := pack_at HGp11.out 0 _ rfl
              have cp_21 : w11.cell? ⟨w.heap.size, 21, none⟩ = some (.int .i64 (p.code)) := pack_at HGp11.out 21 _ rfl
              have cp_24 : w11.cell? ⟨w.heap.size, 24, none⟩ = some (.slice p.props.A p.props.n p.props.c) := pack_at HGp11.out 24 _ rfl
              go_wp2_with (first | ((with_reducible refine pk_load (w.heap.size) (p) ?x85 HGp11.out ?a85 ?b85 ?c85 ?d85); (case a85 => rfl); (case b85 => rfl); (case c85 => rfl)) | ((with_reducible refine pk_load (w6.heap.size) (mkP p.kind 0 p.code sl5) ?x86 HGq11.out ?a86 ?b86 ?c86 ?d86); (case a86 => rfl); (case b86 => rfl); (case c86 => rfl)) | ((with_reducible refine pk_load (w10.heap.size) (zeroPk) ?x87 HGz11.out ?a87 ?b87 ?c87 ?d87); (case a87 => rfl); (case b87 => rfl); (case c87 => rfl)))
              refine (none_t _).mono ?_
              rintro e w12 ⟨rfl, hb⟩
              have HB12 := Lib.hid (ext_then' HB11.out hb)
              have HGp12 := Lib.hid (row_then HGp11.out hb)
              have HGq12 := Lib.hid (row_then HGq11.out hb)
              have HGz12 := Lib.hid (row_then HGz11.out hb)
              clear hb HB11 HGp11 HGq11 HGz11
              clear cp_0 cp_21 cp_24
              have cp_0 : w12.cell? ⟨w.heap.size, 0, none⟩ = some (.int .i64 (p.kind)) := pack_at HGp12.out 0 _ rfl
              have cp_21 : w12.cell? ⟨w.heap.size, 21, none⟩ = some (.int .i64 (p.code)) := pack_at HGp12.out 21 _ rfl
              have cp_24 : w12.cell? ⟨w.heap.size, 24, none⟩ = some (.slice p.props.A p.props.n p.props.c) := pack_at HGp12.out 24 _ rfl
              go_wp2
              go_ret
              exact ⟨rfl, HB12.out⟩
    · go_wp2
      go_ret
      exact ⟨rfl, HB3.out⟩
end Go.Proofs.Ytnbgmpfldoaodab
