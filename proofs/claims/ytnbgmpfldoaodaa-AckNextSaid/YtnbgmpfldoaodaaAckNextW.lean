/- The law AckNext of chapter 10: its walk. -/
import Derived.Test.YtnbgmpfldoaodaaNext
import Derived.Test.YtnbgmpfldoaodaaTopic
import Derived.Test.YtnbgmpfldoaodaaAckC
namespace Go.Proofs.Ytnbgmpfldoaodaa
open Go.RowKit Go.Sort
set_option maxHeartbeats 2000000
set_option linter.unusedVariables false
set_option linter.unusedSimpArgs false
theorem step_ok {v : Int} {p : Pk} (hk : p.kind = 5 ∨ p.kind = 6) (hv : (v == 4 || v == 5) = true) (h0 : 0 < p.id) (h1 : p.id < 65536) : ackV v (stepPk p) [] = 0 := by
  have e : stepPk p = codePk (p.kind + 1) p.id 0 := rfl
  rw [e, ackV_code, if_pos]
  unfold okC knownA
  rw [hv]
  have m : mayB (p.kind + 1) 0 = true := by
    rcases hk with h | h <;> rw [h] <;> decide +kernel
  rw [m]
  rcases hk with h | h <;> simp [h, h0, h1]
theorem topicH (l : List Prp) : Hid (l ≠ [] → TopicOK) := Lib.hid fun _ => topic_ok
set_option maxRecDepth 100000 in
theorem ackNext_t (v : Int) (p : Pk) (lw : List Prp) (lc : List Int) (lf : List Flt) (lp : List Prp) (w : World) (wf0 : (Lit.int .i64 v).wf = true) (hr : RPk w p lw lc lf lp) :
    Calls Try.prog 8 #[.int .i64 v, .agg (packC p)] w fun e w' => e = .returned (.bool true) ∧ Below w.heap.size w w' := by
  have HP := Lib.hid hr
  clear hr wf0
  have HB1 := Lib.hid ((Below.refl w.heap.size w).alloc (Nat.le_refl _) (.cells (packC p) 39))
  have HGp1 := Lib.hid (heap_alloc_new w (.cells (packC p) 39))
  go_enter Try.func8, Try.ntmps8
  go_wp2_with fail
  refine (lives10_t _).mono ?_
  rintro e w2 ⟨rfl, hb⟩
  have HB2 := Lib.hid (ext_then' HB1.out hb)
  have HGp2 := Lib.hid (row_then HGp1.out hb)
  clear hb HB1 HGp1
  go_wp2_with ((with_reducible refine pk_load (w.heap.size) (p) ?x1 HGp2.out ?a1 ?b1 ?c1 ?d1); (case a1 => rfl); (case b1 => rfl); (case c1 => rfl))
  refine (light_t p lw lc lf lp _ (HP.out.below HB2.out)).mono ?_
  rintro e w3 ⟨b, rfl, hb⟩
  have HB3 := Lib.hid (ext_then' HB2.out hb)
  have HGp3 := Lib.hid (row_then HGp2.out hb)
  clear hb HB2 HGp2
  cases b
  · go_wp2
    go_ret
    exact ⟨rfl, HB3.out⟩
  · go_wp2_with ((with_reducible refine pk_load (w.heap.size) (p) ?x2 HGp3.out ?a2 ?b2 ?c2 ?d2); (case a2 => rfl); (case b2 => rfl); (case c2 => rfl))
    refine (ackV_t v p (packC p) rfl lw lp (topicH lp) _ (HP.out.will.below HB3.out) (HP.out.props.below HB3.out)).mono ?_
    rintro e w4 ⟨rfl, hb⟩
    have HB4 := Lib.hid (ext_then' HB3.out hb)
    have HGp4 := Lib.hid (row_then HGp3.out hb)
    clear hb HB3 HGp3
    cases he : (ackV v p lp != 0)
    · have HE := Lib.hid (ackV_zero he)
      have hkn : (v == 4 || v == 5) = true ∧ 4 ≤ p.kind ∧ p.kind ≤ 7 := by
        have := HE.out.2.2.2.2.1
        unfold knownA at this
        rw [Bool.and_eq_true, Bool.and_eq_true] at this
        exact ⟨this.1, by simpa using this.2.1, by simpa using this.2.2⟩
      obtain ⟨hv, k0, k1⟩ := hkn
      have HV := Lib.hid hv
      clear hv
      have hid0 := HE.out.1
      have hid1 := HE.out.2.1
      by_cases h5 : p.kind = 5
      · have HK := Lib.hid h5
        have hk5 : (p.kind == 5) = true := by simpa using h5
        have hn5 : (p.kind != 5) = false := by simpa using h5
        have hn6 : (p.kind != 6) = true := by rw [h5]; decide
        clear h5
        cases hd : badB p.code
        · have hc : decide (255 < p.code) = false := by
            have := mayB_range' HE.out.2.2.1
            simp; omega
          go_wp2_with ((with_reducible refine pk_load (w.heap.size) (p) ?x3 HGp4.out ?a3 ?b3 ?c3 ?d3); (case a3 => rfl); (case b3 => rfl); (case c3 => rfl))
          refine (next_rec p hk5 hd hc _).mono ?_
          rintro e w5 ⟨rfl, hb⟩
          have HB5 := Lib.hid (ext_then' HB4.out hb)
          have HGp5 := Lib.hid (row_then HGp4.out hb)
          clear hb HB4 HGp4
          clear hd hc he
          go_wp2_with (first | ((with_reducible refine pk_store w5.heap.size (stepPk p) ?x4 ?y4 _ (heap_alloc_new _ _) ?a4 ?b4 ?c4 ?d4 ?e4 ?f4); (case a4 => rfl); (case b4 => rfl); (case c4 => rfl); (case d4 => rfl); (case e4 => rfl)) | ((with_reducible refine pk_load (w.heap.size) (p) ?x5 HGp5.out ?a5 ?b5 ?c5 ?d5); (case a5 => rfl); (case b5 => rfl); (case c5 => rfl)))
          intro w6 hg hgr
          have HB6 := Lib.hid (below_store HB5.out hgr)
          have HGp6 := Lib.hid (row_store HGp5.out hgr)
          have HGq6 := Lib.hid hg
          clear hg hgr HB5 HGp5
          have cp_0 : w6.cell? ⟨w.heap.size, 0, none⟩ = some (.int .i64 (p.kind)) := pack_at HGp6.out 0 _ rfl
          have cp_4 : w6.cell? ⟨w.heap.size, 4, none⟩ = some (.int .i64 (p.id)) := pack_at HGp6.out 4 _ rfl
          have cq_0 : w6.cell? ⟨w5.heap.size, 0, none⟩ = some (.int .i64 (p.kind + 1)) := pack_at HGq6.out 0 _ rfl
          have cq_4 : w6.cell? ⟨w5.heap.size, 4, none⟩ = some (.int .i64 (p.id)) := pack_at HGq6.out 4 _ rfl
          go_wp2_with (first | ((with_reducible refine pk_load (w.heap.size) (p) ?x6 HGp6.out ?a6 ?b6 ?c6 ?d6); (case a6 => rfl); (case b6 => rfl); (case c6 => rfl)) | ((with_reducible refine pk_load (w5.heap.size) (stepPk p) ?x7 HGq6.out ?a7 ?b7 ?c7 ?d7); (case a7 => rfl); (case b7 => rfl); (case c7 => rfl)))
          refine (ackV_t v (stepPk p) (packC (stepPk p)) rfl [] [] noTopic _ (nil_RP _) (nil_RP _)).mono ?_
          rintro e w7 ⟨rfl, hb⟩
          have HB7 := Lib.hid (ext_then' HB6.out hb)
          have HGp7 := Lib.hid (row_then HGp6.out hb)
          have HGq7 := Lib.hid (row_then HGq6.out hb)
          clear hb HB6 HGp6 HGq6
          clear cp_0 cp_4 cq_0 cq_4
          have cp_0 : w7.cell? ⟨w.heap.size, 0, none⟩ = some (.int .i64 (p.kind)) := pack_at HGp7.out 0 _ rfl
          have cp_4 : w7.cell? ⟨w.heap.size, 4, none⟩ = some (.int .i64 (p.id)) := pack_at HGp7.out 4 _ rfl
          have cq_0 : w7.cell? ⟨w5.heap.size, 0, none⟩ = some (.int .i64 (p.kind + 1)) := pack_at HGq7.out 0 _ rfl
          have cq_4 : w7.cell? ⟨w5.heap.size, 4, none⟩ = some (.int .i64 (p.id)) := pack_at HGq7.out 4 _ rfl
          rw [step_ok (Or.inl HK.out) HV.out hid0 hid1]
          have a5 : ((stepPk p).kind == 5) = false := by show (p.kind + 1 == 5) = false; rw [HK.out]; decide
          have a6 : ((stepPk p).kind == 6) = true := by show (p.kind + 1 == 6) = true; rw [HK.out]; decide
          have b5 : ((stepPk (stepPk p)).kind == 5) = false := by show (p.kind + 1 + 1 == 5) = false; rw [HK.out]; decide
          have b6 : ((stepPk (stepPk p)).kind == 6) = false := by show (p.kind + 1 + 1 == 6) = false; rw [HK.out]; decide
          have HA := Lib.hid (⟨a5, a6, b5, b6⟩ : _ ∧ _ ∧ _ ∧ _)
          clear a5 a6 b5 b6
          go_wp2_with (first | ((with_reducible refine pk_load (w.heap.size) (p) ?x8 HGp7.out ?a8 ?b8 ?c8 ?d8); (case a8 => rfl); (case b8 => rfl); (case c8 => rfl)) | ((with_reducible refine pk_load (w5.heap.size) (stepPk p) ?x9 HGq7.out ?a9 ?b9 ?c9 ?d9); (case a9 => rfl); (case b9 => rfl); (case c9 => rfl)))
          refine (next_rel (stepPk p) HA.out.1 HA.out.2.1 _).mono ?_
          rintro e w8 ⟨rfl, hb⟩
          have HB8 := Lib.hid (ext_then' HB7.out hb)
          have HGp8 := Lib.hid (row_then HGp7.out hb)
          have HGq8 := Lib.hid (row_then HGq7.out hb)
          clear hb HB7 HGp7 HGq7
          clear cp_0 cp_4 cq_0 cq_4
          have cp_0 : w8.cell? ⟨w.heap.size, 0, none⟩ = some (.int .i64 (p.kind)) := pack_at HGp8.out 0 _ rfl
          go_wp2_with (first | ((with_reducible refine pk_store w8.heap.size (stepPk (stepPk p)) ?x10 ?y10 _ (heap_alloc_new _ _) ?a10 ?b10 ?c10 ?d10 ?e10 ?f10); (case a10 => rfl); (case b10 => rfl); (case c10 => rfl); (case d10 => rfl); (case e10 => rfl)) | ((with_reducible refine pk_load (w.heap.size) (p) ?x11 HGp8.out ?a11 ?b11 ?c11 ?d11); (case a11 => rfl); (case b11 => rfl); (case c11 => rfl)) | ((with_reducible refine pk_load (w5.heap.size) (stepPk p) ?x12 HGq8.out ?a12 ?b12 ?c12 ?d12); (case a12 => rfl); (case b12 => rfl); (case c12 => rfl)))
          intro w9 hg hgr
          have HB9 := Lib.hid (below_store HB8.out hgr)
          have HGp9 := Lib.hid (row_store HGp8.out hgr)
          have HGq9 := Lib.hid (row_store HGq8.out hgr)
          have HGx9 := Lib.hid hg
          clear hg hgr HB8 HGp8 HGq8
          clear cp_0
          have cp_0 : w9.cell? ⟨w.heap.size, 0, none⟩ = some (.int .i64 (p.kind)) := pack_at HGp9.out 0 _ rfl
          go_wp2_with (first | ((with_reducible refine pk_load (w.heap.size) (p) ?x13 HGp9.out ?a13 ?b13 ?c13 ?d13); (case a13 => rfl); (case b13 => rfl); (case c13 => rfl)) | ((with_reducible refine pk_load (w5.heap.size) (stepPk p) ?x14 HGq9.out ?a14 ?b14 ?c14 ?d14); (case a14 => rfl); (case b14 => rfl); (case c14 => rfl)) | ((with_reducible refine pk_load (w8.heap.size) (stepPk (stepPk p)) ?x15 HGx9.out ?a15 ?b15 ?c15 ?d15); (case a15 => rfl); (case b15 => rfl); (case c15 => rfl)))
          refine (next_no (stepPk (stepPk p)) HA.out.2.2.1 HA.out.2.2.2 _).mono ?_
          rintro e w10 ⟨rfl, hb⟩
          have HB10 := Lib.hid (ext_then' HB9.out hb)
          have HGp10 := Lib.hid (row_then HGp9.out hb)
          have HGq10 := Lib.hid (row_then HGq9.out hb)
          have HGx10 := Lib.hid (row_then HGx9.out hb)
          clear hb HB9 HGp9 HGq9 HGx9
          clear cp_0
          have cp_0 : w10.cell? ⟨w.heap.size, 0, none⟩ = some (.int .i64 (p.kind)) := pack_at HGp10.out 0 _ rfl
          go_wp2_with (first | ((with_reducible refine pk_store w10.heap.size (zeroPk) ?x16 ?y16 _ (heap_alloc_new _ _) ?a16 ?b16 ?c16 ?d16 ?e16 ?f16); (case a16 => rfl); (case b16 => rfl); (case c16 => rfl); (case d16 => rfl); (case e16 => rfl)) | ((with_reducible refine pk_load (w.heap.size) (p) ?x17 HGp10.out ?a17 ?b17 ?c17 ?d17); (case a17 => rfl); (case b17 => rfl); (case c17 => rfl)) | ((with_reducible refine pk_load (w5.heap.size) (stepPk p) ?x18 HGq10.out ?a18 ?b18 ?c18 ?d18); (case a18 => rfl); (case b18 => rfl); (case c18 => rfl)) | ((with_reducible refine pk_load (w8.heap.size) (stepPk (stepPk p)) ?x19 HGx10.out ?a19 ?b19 ?c19 ?d19); (case a19 => rfl); (case b19 => rfl); (case c19 => rfl)))
          intro w11 hg hgr
          have HB11 := Lib.hid (below_store HB10.out hgr)
          have HGp11 := Lib.hid (row_store HGp10.out hgr)
          have HGq11 := Lib.hid (row_store HGq10.out hgr)
          have HGx11 := Lib.hid (row_store HGx10.out hgr)
          have HGy11 := Lib.hid hg
          clear hg hgr HB10 HGp10 HGq10 HGx10
          clear cp_0
          have cp_0 : w11.cell? ⟨w.heap.size, 0, none⟩ = some (.int .i64 (p.kind)) := pack_at HGp11.out 0 _ rfl
          go_wp2
          go_ret
          exact ⟨rfl, HB11.out⟩
        · have hcc : decide (128 ≤ p.code) = true := by
            unfold badB at hd
            rw [Bool.and_eq_true] at hd
            exact hd.1
          go_wp2_with ((with_reducible refine pk_load (w.heap.size) (p) ?x20 HGp4.out ?a20 ?b20 ?c20 ?d20); (case a20 => rfl); (case b20 => rfl); (case c20 => rfl))
          refine (next_bad p hk5 hd _).mono ?_
          rintro e w5 ⟨rfl, hb⟩
          have HB5 := Lib.hid (ext_then' HB4.out hb)
          have HGp5 := Lib.hid (row_then HGp4.out hb)
          clear hb HB4 HGp4
          clear hd he
          go_wp2_with (first | ((with_reducible refine pk_store w5.heap.size (zeroPk) ?x21 ?y21 _ (heap_alloc_new _ _) ?a21 ?b21 ?c21 ?d21 ?e21 ?f21); (case a21 => rfl); (case b21 => rfl); (case c21 => rfl); (case d21 => rfl); (case e21 => rfl)) | ((with_reducible refine pk_load (w.heap.size) (p) ?x22 HGp5.out ?a22 ?b22 ?c22 ?d22); (case a22 => rfl); (case b22 => rfl); (case c22 => rfl)))
          intro w6 hg hgr
          have HB6 := Lib.hid (below_store HB5.out hgr)
          have HGp6 := Lib.hid (row_store HGp5.out hgr)
          have HGq6 := Lib.hid hg
          clear hg hgr HB5 HGp5
          have cp_0 : w6.cell? ⟨w.heap.size, 0, none⟩ = some (.int .i64 (p.kind)) := pack_at HGp6.out 0 _ rfl
          have cp_21 : w6.cell? ⟨w.heap.size, 21, none⟩ = some (.int .i64 (p.code)) := pack_at HGp6.out 21 _ rfl
          go_wp2_with (first | ((with_reducible refine pk_load (w.heap.size) (p) ?x23 HGp6.out ?a23 ?b23 ?c23 ?d23); (case a23 => rfl); (case b23 => rfl); (case c23 => rfl)) | ((with_reducible refine pk_load (w5.heap.size) (zeroPk) ?x24 HGq6.out ?a24 ?b24 ?c24 ?d24); (case a24 => rfl); (case b24 => rfl); (case c24 => rfl)))
          refine (none_t _).mono ?_
          rintro e w7 ⟨rfl, hb⟩
          have HB7 := Lib.hid (ext_then' HB6.out hb)
          have HGp7 := Lib.hid (row_then HGp6.out hb)
          have HGq7 := Lib.hid (row_then HGq6.out hb)
          clear hb HB6 HGp6 HGq6
          clear cp_0 cp_21
          have cp_0 : w7.cell? ⟨w.heap.size, 0, none⟩ = some (.int .i64 (p.kind)) := pack_at HGp7.out 0 _ rfl
          have cp_21 : w7.cell? ⟨w.heap.size, 21, none⟩ = some (.int .i64 (p.code)) := pack_at HGp7.out 21 _ rfl
          go_wp2
          go_ret
          exact ⟨rfl, HB7.out⟩
      · have hk5 : (p.kind == 5) = false := by simpa using h5
        have hn5 : (p.kind != 5) = true := by simpa using h5
        clear h5
        by_cases h6 : p.kind = 6
        · have HK := Lib.hid h6
          have hk6 : (p.kind == 6) = true := by simpa using h6
          clear h6
          go_wp2_with ((with_reducible refine pk_load (w.heap.size) (p) ?x25 HGp4.out ?a25 ?b25 ?c25 ?d25); (case a25 => rfl); (case b25 => rfl); (case c25 => rfl))
          refine (next_rel p hk5 hk6 _).mono ?_
          rintro e w5 ⟨rfl, hb⟩
          have HB5 := Lib.hid (ext_then' HB4.out hb)
          have HGp5 := Lib.hid (row_then HGp4.out hb)
          clear hb HB4 HGp4
          clear he
          go_wp2_with (first | ((with_reducible refine pk_store w5.heap.size (stepPk p) ?x26 ?y26 _ (heap_alloc_new _ _) ?a26 ?b26 ?c26 ?d26 ?e26 ?f26); (case a26 => rfl); (case b26 => rfl); (case c26 => rfl); (case d26 => rfl); (case e26 => rfl)) | ((with_reducible refine pk_load (w.heap.size) (p) ?x27 HGp5.out ?a27 ?b27 ?c27 ?d27); (case a27 => rfl); (case b27 => rfl); (case c27 => rfl)))
          intro w6 hg hgr
          have HB6 := Lib.hid (below_store HB5.out hgr)
          have HGp6 := Lib.hid (row_store HGp5.out hgr)
          have HGq6 := Lib.hid hg
          clear hg hgr HB5 HGp5
          have cp_0 : w6.cell? ⟨w.heap.size, 0, none⟩ = some (.int .i64 (p.kind)) := pack_at HGp6.out 0 _ rfl
          have cp_4 : w6.cell? ⟨w.heap.size, 4, none⟩ = some (.int .i64 (p.id)) := pack_at HGp6.out 4 _ rfl
          have cq_0 : w6.cell? ⟨w5.heap.size, 0, none⟩ = some (.int .i64 (p.kind + 1)) := pack_at HGq6.out 0 _ rfl
          have cq_4 : w6.cell? ⟨w5.heap.size, 4, none⟩ = some (.int .i64 (p.id)) := pack_at HGq6.out 4 _ rfl
          go_wp2_with (first | ((with_reducible refine pk_load (w.heap.size) (p) ?x28 HGp6.out ?a28 ?b28 ?c28 ?d28); (case a28 => rfl); (case b28 => rfl); (case c28 => rfl)) | ((with_reducible refine pk_load (w5.heap.size) (stepPk p) ?x29 HGq6.out ?a29 ?b29 ?c29 ?d29); (case a29 => rfl); (case b29 => rfl); (case c29 => rfl)))
          refine (ackV_t v (stepPk p) (packC (stepPk p)) rfl [] [] noTopic _ (nil_RP _) (nil_RP _)).mono ?_
          rintro e w7 ⟨rfl, hb⟩
          have HB7 := Lib.hid (ext_then' HB6.out hb)
          have HGp7 := Lib.hid (row_then HGp6.out hb)
          have HGq7 := Lib.hid (row_then HGq6.out hb)
          clear hb HB6 HGp6 HGq6
          clear cp_0 cp_4 cq_0 cq_4
          have cp_0 : w7.cell? ⟨w.heap.size, 0, none⟩ = some (.int .i64 (p.kind)) := pack_at HGp7.out 0 _ rfl
          have cp_4 : w7.cell? ⟨w.heap.size, 4, none⟩ = some (.int .i64 (p.id)) := pack_at HGp7.out 4 _ rfl
          have cq_0 : w7.cell? ⟨w5.heap.size, 0, none⟩ = some (.int .i64 (p.kind + 1)) := pack_at HGq7.out 0 _ rfl
          have cq_4 : w7.cell? ⟨w5.heap.size, 4, none⟩ = some (.int .i64 (p.id)) := pack_at HGq7.out 4 _ rfl
          rw [step_ok (Or.inr HK.out) HV.out hid0 hid1]
          have a5 : ((stepPk p).kind == 5) = false := by show (p.kind + 1 == 5) = false; rw [HK.out]; decide
          have a6 : ((stepPk p).kind == 6) = false := by show (p.kind + 1 == 6) = false; rw [HK.out]; decide
          have HA := Lib.hid (⟨a5, a6⟩ : _ ∧ _)
          clear a5 a6
          go_wp2_with (first | ((with_reducible refine pk_load (w.heap.size) (p) ?x30 HGp7.out ?a30 ?b30 ?c30 ?d30); (case a30 => rfl); (case b30 => rfl); (case c30 => rfl)) | ((with_reducible refine pk_load (w5.heap.size) (stepPk p) ?x31 HGq7.out ?a31 ?b31 ?c31 ?d31); (case a31 => rfl); (case b31 => rfl); (case c31 => rfl)))
          refine (next_no (stepPk p) HA.out.1 HA.out.2 _).mono ?_
          rintro e w8 ⟨rfl, hb⟩
          have HB8 := Lib.hid (ext_then' HB7.out hb)
          have HGp8 := Lib.hid (row_then HGp7.out hb)
          have HGq8 := Lib.hid (row_then HGq7.out hb)
          clear hb HB7 HGp7 HGq7
          clear cp_0 cp_4 cq_0 cq_4
          have cp_0 : w8.cell? ⟨w.heap.size, 0, none⟩ = some (.int .i64 (p.kind)) := pack_at HGp8.out 0 _ rfl
          go_wp2_with (first | ((with_reducible refine pk_store w8.heap.size (zeroPk) ?x32 ?y32 _ (heap_alloc_new _ _) ?a32 ?b32 ?c32 ?d32 ?e32 ?f32); (case a32 => rfl); (case b32 => rfl); (case c32 => rfl); (case d32 => rfl); (case e32 => rfl)) | ((with_reducible refine pk_load (w.heap.size) (p) ?x33 HGp8.out ?a33 ?b33 ?c33 ?d33); (case a33 => rfl); (case b33 => rfl); (case c33 => rfl)) | ((with_reducible refine pk_load (w5.heap.size) (stepPk p) ?x34 HGq8.out ?a34 ?b34 ?c34 ?d34); (case a34 => rfl); (case b34 => rfl); (case c34 => rfl)))
          intro w9 hg hgr
          have HB9 := Lib.hid (below_store HB8.out hgr)
          have HGp9 := Lib.hid (row_store HGp8.out hgr)
          have HGq9 := Lib.hid (row_store HGq8.out hgr)
          have HGx9 := Lib.hid hg
          clear hg hgr HB8 HGp8 HGq8
          clear cp_0
          have cp_0 : w9.cell? ⟨w.heap.size, 0, none⟩ = some (.int .i64 (p.kind)) := pack_at HGp9.out 0 _ rfl
          go_wp2_with (first | ((with_reducible refine pk_load (w.heap.size) (p) ?x35 HGp9.out ?a35 ?b35 ?c35 ?d35); (case a35 => rfl); (case b35 => rfl); (case c35 => rfl)) | ((with_reducible refine pk_load (w5.heap.size) (stepPk p) ?x36 HGq9.out ?a36 ?b36 ?c36 ?d36); (case a36 => rfl); (case b36 => rfl); (case c36 => rfl)) | ((with_reducible refine pk_load (w8.heap.size) (zeroPk) ?x37 HGx9.out ?a37 ?b37 ?c37 ?d37); (case a37 => rfl); (case b37 => rfl); (case c37 => rfl)))
          refine (next_no zeroPk (by decide) (by decide) _).mono ?_
          rintro e w10 ⟨rfl, hb⟩
          have HB10 := Lib.hid (ext_then' HB9.out hb)
          have HGp10 := Lib.hid (row_then HGp9.out hb)
          have HGq10 := Lib.hid (row_then HGq9.out hb)
          have HGx10 := Lib.hid (row_then HGx9.out hb)
          clear hb HB9 HGp9 HGq9 HGx9
          clear cp_0
          have cp_0 : w10.cell? ⟨w.heap.size, 0, none⟩ = some (.int .i64 (p.kind)) := pack_at HGp10.out 0 _ rfl
          go_wp2_with (first | ((with_reducible refine pk_store w10.heap.size (zeroPk) ?x38 ?y38 _ (heap_alloc_new _ _) ?a38 ?b38 ?c38 ?d38 ?e38 ?f38); (case a38 => rfl); (case b38 => rfl); (case c38 => rfl); (case d38 => rfl); (case e38 => rfl)) | ((with_reducible refine pk_load (w.heap.size) (p) ?x39 HGp10.out ?a39 ?b39 ?c39 ?d39); (case a39 => rfl); (case b39 => rfl); (case c39 => rfl)) | ((with_reducible refine pk_load (w5.heap.size) (stepPk p) ?x40 HGq10.out ?a40 ?b40 ?c40 ?d40); (case a40 => rfl); (case b40 => rfl); (case c40 => rfl)) | ((with_reducible refine pk_load (w8.heap.size) (zeroPk) ?x41 HGx10.out ?a41 ?b41 ?c41 ?d41); (case a41 => rfl); (case b41 => rfl); (case c41 => rfl)))
          intro w11 hg hgr
          have HB11 := Lib.hid (below_store HB10.out hgr)
          have HGp11 := Lib.hid (row_store HGp10.out hgr)
          have HGq11 := Lib.hid (row_store HGq10.out hgr)
          have HGx11 := Lib.hid (row_store HGx10.out hgr)
          have HGy11 := Lib.hid hg
          clear hg hgr HB10 HGp10 HGq10 HGx10
          clear cp_0
          have cp_0 : w11.cell? ⟨w.heap.size, 0, none⟩ = some (.int .i64 (p.kind)) := pack_at HGp11.out 0 _ rfl
          go_wp2
          go_ret
          exact ⟨rfl, HB11.out⟩
        · have hk6 : (p.kind == 6) = false := by simpa using h6
          have hn6 : (p.kind != 6) = true := by simpa using h6
          clear h6
          go_wp2_with ((with_reducible refine pk_load (w.heap.size) (p) ?x42 HGp4.out ?a42 ?b42 ?c42 ?d42); (case a42 => rfl); (case b42 => rfl); (case c42 => rfl))
          refine (next_no p hk5 hk6 _).mono ?_
          rintro e w5 ⟨rfl, hb⟩
          have HB5 := Lib.hid (ext_then' HB4.out hb)
          have HGp5 := Lib.hid (row_then HGp4.out hb)
          clear hb HB4 HGp4
          clear he
          go_wp2_with (first | ((with_reducible refine pk_store w5.heap.size (zeroPk) ?x43 ?y43 _ (heap_alloc_new _ _) ?a43 ?b43 ?c43 ?d43 ?e43 ?f43); (case a43 => rfl); (case b43 => rfl); (case c43 => rfl); (case d43 => rfl); (case e43 => rfl)) | ((with_reducible refine pk_load (w.heap.size) (p) ?x44 HGp5.out ?a44 ?b44 ?c44 ?d44); (case a44 => rfl); (case b44 => rfl); (case c44 => rfl)))
          intro w6 hg hgr
          have HB6 := Lib.hid (below_store HB5.out hgr)
          have HGp6 := Lib.hid (row_store HGp5.out hgr)
          have HGq6 := Lib.hid hg
          clear hg hgr HB5 HGp5
          have cp_0 : w6.cell? ⟨w.heap.size, 0, none⟩ = some (.int .i64 (p.kind)) := pack_at HGp6.out 0 _ rfl
          go_wp2_with (first | ((with_reducible refine pk_load (w.heap.size) (p) ?x45 HGp6.out ?a45 ?b45 ?c45 ?d45); (case a45 => rfl); (case b45 => rfl); (case c45 => rfl)) | ((with_reducible refine pk_load (w5.heap.size) (zeroPk) ?x46 HGq6.out ?a46 ?b46 ?c46 ?d46); (case a46 => rfl); (case b46 => rfl); (case c46 => rfl)))
          refine (none_t _).mono ?_
          rintro e w7 ⟨rfl, hb⟩
          have HB7 := Lib.hid (ext_then' HB6.out hb)
          have HGp7 := Lib.hid (row_then HGp6.out hb)
          have HGq7 := Lib.hid (row_then HGq6.out hb)
          clear hb HB6 HGp6 HGq6
          clear cp_0
          have cp_0 : w7.cell? ⟨w.heap.size, 0, none⟩ = some (.int .i64 (p.kind)) := pack_at HGp7.out 0 _ rfl
          go_wp2
          go_ret
          exact ⟨rfl, HB7.out⟩
    · go_wp2
      go_ret
      exact ⟨rfl, HB4.out⟩
end Go.Proofs.Ytnbgmpfldoaodaa
