/- The law AckNames of chapter 10: its walk. -/
import Derived.Test.YtnbgmpfldoaodabAckNm
import Derived.Test.YtnbgmpfldoaodabPkL
import Derived.Test.YtnbgmpfldoaodabNext
namespace Go.Proofs.Ytnbgmpfldoaodab
open Go.RowKit Go.Sort
set_option maxHeartbeats 2000000
set_option linter.unusedVariables false
set_option linter.unusedSimpArgs false
theorem prp_at {w w' : World} {T : TypeId} (h : w'.heap[w.heap.size]? = some (.cells #[.int .i64 38, .int .u32 0, .string ⟨#[97]⟩, .string ⟨#[98]⟩] T (0, 0))) : RP w' (some ⟨w.heap.size, 0, none⟩) 1 [prpU] := by
  refine ⟨rfl, by decide, ?_, fun _ => ⟨w.heap.size, 0, rfl, (Array.getElem?_eq_some_iff.1 h).1, ?_⟩⟩
  · intro p hp
    simp only [List.mem_cons, List.not_mem_nil, or_false] at hp
    rw [hp]
    exact ⟨by decide, by decide, by decide, by decide⟩
  · intro j p hj
    match j, hj with
    | 0, hj =>
      simp only [List.getElem?_cons_zero, Option.some.injEq] at hj
      rw [← hj]
      exact ⟨by rw [cell_of_row _ _ _ _ _ _ h]; rfl, by rw [cell_of_row _ _ _ _ _ _ h]; rfl, by rw [cell_of_row _ _ _ _ _ _ h]; rfl, by rw [cell_of_row _ _ _ _ _ _ h]; rfl⟩
set_option maxHeartbeats 40000000 in
set_option maxRecDepth 100000 in
theorem ackNames_t (w : World) : Calls Try.prog 3 #[] w fun e w' => e = .returned (.bool true) ∧ Below w.heap.size w w' := by
  have HB1 := Lib.hid (Below.refl w.heap.size w)
  go_enter Try.func3, Try.ntmps3
  go_wp2_with fail
  refine (lives10_t _).mono ?_
  rintro e w2 ⟨rfl, hb⟩
  have HB2 := Lib.hid (ext_then' HB1.out hb)
  clear hb HB1
  have HB3 := Lib.hid (HB2.out.alloc HB2.out.size (.cells #[.int .i64 38, .int .u32 0, .string ⟨#[97]⟩, .string ⟨#[98]⟩] 25))
  have HPR := Lib.hid (prp_at (heap_alloc_new w2 (.cells #[.int .i64 38, .int .u32 0, .string ⟨#[97]⟩, .string ⟨#[98]⟩] 25)))
  go_wp2_with fail
  generalize w2.alloc (.cells #[.int .i64 38, .int .u32 0, .string ⟨#[97]⟩, .string ⟨#[98]⟩] 25) = w3 at *
  generalize w2.heap.size = U at *
  clear HB2
  refine (ackB_t 5 (mkP 5 1 0 ⟨some ⟨U, 0, none⟩, 1, 1⟩) [] [prpU] (topicH _) _ (nil_RP _) HPR.out).mono ?_
  rintro e w4 ⟨rfl, hb⟩
  have HB4 := Lib.hid (ext_then' HB3.out hb)
  clear hb HB3 HPR
  rw [nmB _ rfl]
  go_wp2_with fail
  refine (ackread_e (v := 5) (kind := 4) nm1 (by decide) _ (by decide)).mono ?_
  rintro e w5 ⟨rfl, hb⟩
  have HB5 := Lib.hid (ext_then' HB4.out hb)
  clear hb HB4
  go_wp2_with ((with_reducible refine pk_store w5.heap.size (zeroPk) ?x1 ?y1 _ (heap_alloc_new _ _) ?a1 ?b1 ?c1 ?d1 ?e1 ?f1); (case a1 => rfl); (case b1 => rfl); (case c1 => rfl); (case d1 => rfl); (case e1 => rfl))
  intro w6 hg hgr
  have HB6 := Lib.hid (below_store HB5.out hgr)
  have HGz6 := Lib.hid hg
  clear hg hgr HB5
  clear HGz6
  go_wp2_with fail
  refine (ackread_e (v := 5) (kind := 4) nm2 (by decide) _ (by decide)).mono ?_
  rintro e w7 ⟨rfl, hb⟩
  have HB7 := Lib.hid (ext_then' HB6.out hb)
  clear hb HB6
  go_wp2_with ((with_reducible refine pk_store w7.heap.size (zeroPk) ?x2 ?y2 _ (heap_alloc_new _ _) ?a2 ?b2 ?c2 ?d2 ?e2 ?f2); (case a2 => rfl); (case b2 => rfl); (case c2 => rfl); (case d2 => rfl); (case e2 => rfl))
  intro w8 hg hgr
  have HB8 := Lib.hid (below_store HB7.out hgr)
  have HGz8 := Lib.hid hg
  clear hg hgr HB7
  clear HGz8
  go_wp2_with fail
  refine (ackread_e (v := 4) (kind := 4) nm3 (by decide) _ (by decide)).mono ?_
  rintro e w9 ⟨rfl, hb⟩
  have HB9 := Lib.hid (ext_then' HB8.out hb)
  clear hb HB8
  go_wp2_with ((with_reducible refine pk_store w9.heap.size (zeroPk) ?x3 ?y3 _ (heap_alloc_new _ _) ?a3 ?b3 ?c3 ?d3 ?e3 ?f3); (case a3 => rfl); (case b3 => rfl); (case c3 => rfl); (case d3 => rfl); (case e3 => rfl))
  intro w10 hg hgr
  have HB10 := Lib.hid (below_store HB9.out hgr)
  have HGz10 := Lib.hid hg
  clear hg hgr HB9
  clear HGz10
  go_wp2_with fail
  refine (ackread_e (v := 5) (kind := 4) nm4 (by decide) _ (by decide)).mono ?_
  rintro e w11 ⟨rfl, hb⟩
  have HB11 := Lib.hid (ext_then' HB10.out hb)
  clear hb HB10
  go_wp2_with ((with_reducible refine pk_store w11.heap.size (zeroPk) ?x4 ?y4 _ (heap_alloc_new _ _) ?a4 ?b4 ?c4 ?d4 ?e4 ?f4); (case a4 => rfl); (case b4 => rfl); (case c4 => rfl); (case d4 => rfl); (case e4 => rfl))
  intro w12 hg hgr
  have HB12 := Lib.hid (below_store HB11.out hgr)
  have HGz12 := Lib.hid hg
  clear hg hgr HB11
  clear HGz12
  go_wp2_with fail
  refine (ackread_e (v := 5) (kind := 4) nm5 (by decide) _ (by decide)).mono ?_
  rintro e w13 ⟨rfl, hb⟩
  have HB13 := Lib.hid (ext_then' HB12.out hb)
  clear hb HB12
  go_wp2_with ((with_reducible refine pk_store w13.heap.size (zeroPk) ?x5 ?y5 _ (heap_alloc_new _ _) ?a5 ?b5 ?c5 ?d5 ?e5 ?f5); (case a5 => rfl); (case b5 => rfl); (case c5 => rfl); (case d5 => rfl); (case e5 => rfl))
  intro w14 hg hgr
  have HB14 := Lib.hid (below_store HB13.out hgr)
  have HGz14 := Lib.hid hg
  clear hg hgr HB13
  clear HGz14
  go_wp2_with fail
  refine (ackread_e (v := 5) (kind := 6) nm6 (by decide) _ (by decide)).mono ?_
  rintro e w15 ⟨rfl, hb⟩
  have HB15 := Lib.hid (ext_then' HB14.out hb)
  clear hb HB14
  go_wp2_with ((with_reducible refine pk_store w15.heap.size (zeroPk) ?x6 ?y6 _ (heap_alloc_new _ _) ?a6 ?b6 ?c6 ?d6 ?e6 ?f6); (case a6 => rfl); (case b6 => rfl); (case c6 => rfl); (case d6 => rfl); (case e6 => rfl))
  intro w16 hg hgr
  have HB16 := Lib.hid (below_store HB15.out hgr)
  have HGz16 := Lib.hid hg
  clear hg hgr HB15
  clear HGz16
  go_wp2_with fail
  refine (ackread_7 _).mono ?_
  rintro e w17 ⟨sl, hsl, rfl, hb⟩
  have HB17 := Lib.hid (ext_then' HB16.out hb)
  clear hb HB16
  have HSL := Lib.hid hsl
  clear hsl
  go_wp2_with ((with_reducible refine pk_store w17.heap.size (mkP 5 1 0 sl) ?x7 ?y7 _ (heap_alloc_new _ _) ?a7 ?b7 ?c7 ?d7 ?e7 ?f7); (case a7 => rfl); (case b7 => rfl); (case c7 => rfl); (case d7 => rfl); (case e7 => rfl))
  intro w18 hg hgr
  have HB18 := Lib.hid (below_store HB17.out hgr)
  have HGp18 := Lib.hid hg
  clear hg hgr HB17
  go_wp2_with ((with_reducible refine pk_load (w17.heap.size) (mkP 5 1 0 sl) ?x8 HGp18.out ?a8 ?b8 ?c8 ?d8); (case a8 => rfl); (case b8 => rfl); (case c8 => rfl))
  refine (ackread_e (v := 5) (kind := 5) nm8' (by decide) _ (by decide)).mono ?_
  rintro e w19 ⟨rfl, hb⟩
  have HB19 := Lib.hid (ext_then' HB18.out hb)
  have HGp19 := Lib.hid (row_then HGp18.out hb)
  clear hb HB18 HGp18
  go_wp2_with (first | ((with_reducible refine pk_store w19.heap.size (zeroPk) ?x9 ?y9 _ (heap_alloc_new _ _) ?a9 ?b9 ?c9 ?d9 ?e9 ?f9); (case a9 => rfl); (case b9 => rfl); (case c9 => rfl); (case d9 => rfl); (case e9 => rfl)) | ((with_reducible refine pk_load (w17.heap.size) (mkP 5 1 0 sl) ?x10 HGp19.out ?a10 ?b10 ?c10 ?d10); (case a10 => rfl); (case b10 => rfl); (case c10 => rfl)))
  intro w20 hg hgr
  have HB20 := Lib.hid (below_store HB19.out hgr)
  have HGp20 := Lib.hid (row_store HGp19.out hgr)
  have HGz20 := Lib.hid hg
  clear hg hgr HB19 HGp19
  clear HGz20
  go_wp2_with ((with_reducible refine pk_load (w17.heap.size) (mkP 5 1 0 sl) ?x11 HGp20.out ?a11 ?b11 ?c11 ?d11); (case a11 => rfl); (case b11 => rfl); (case c11 => rfl))
  refine (ackread_e (v := 5) (kind := 5) nm9' (by decide) _ (by decide)).mono ?_
  rintro e w21 ⟨rfl, hb⟩
  have HB21 := Lib.hid (ext_then' HB20.out hb)
  have HGp21 := Lib.hid (row_then HGp20.out hb)
  clear hb HB20 HGp20
  go_wp2_with (first | ((with_reducible refine pk_store w21.heap.size (zeroPk) ?x12 ?y12 _ (heap_alloc_new _ _) ?a12 ?b12 ?c12 ?d12 ?e12 ?f12); (case a12 => rfl); (case b12 => rfl); (case c12 => rfl); (case d12 => rfl); (case e12 => rfl)) | ((with_reducible refine pk_load (w17.heap.size) (mkP 5 1 0 sl) ?x13 HGp21.out ?a13 ?b13 ?c13 ?d13); (case a13 => rfl); (case b13 => rfl); (case c13 => rfl)))
  intro w22 hg hgr
  have HB22 := Lib.hid (below_store HB21.out hgr)
  have HGp22 := Lib.hid (row_store HGp21.out hgr)
  have HGz22 := Lib.hid hg
  clear hg hgr HB21 HGp21
  clear HGz22
  go_wp2_with ((with_reducible refine pk_load (w17.heap.size) (mkP 5 1 0 sl) ?x14 HGp22.out ?a14 ?b14 ?c14 ?d14); (case a14 => rfl); (case b14 => rfl); (case c14 => rfl))
  refine (next_rec (codePk 5 3 16) (by decide) (by decide) (by decide) _).mono ?_
  rintro e w23 ⟨rfl, hb⟩
  have HB23 := Lib.hid (ext_then' HB22.out hb)
  have HGp23 := Lib.hid (row_then HGp22.out hb)
  clear hb HB22 HGp22
  go_wp2_with (first | ((with_reducible refine pk_store w23.heap.size (stepPk (codePk 5 3 16)) ?x15 ?y15 _ (heap_alloc_new _ _) ?a15 ?b15 ?c15 ?d15 ?e15 ?f15); (case a15 => rfl); (case b15 => rfl); (case c15 => rfl); (case d15 => rfl); (case e15 => rfl)) | ((with_reducible refine pk_load (w17.heap.size) (mkP 5 1 0 sl) ?x16 HGp23.out ?a16 ?b16 ?c16 ?d16); (case a16 => rfl); (case b16 => rfl); (case c16 => rfl)))
  intro w24 hg hgr
  have HB24 := Lib.hid (below_store HB23.out hgr)
  have HGp24 := Lib.hid (row_store HGp23.out hgr)
  have HGx24 := Lib.hid hg
  clear hg hgr HB23 HGp23
  go_wp2_with (first | ((with_reducible refine pk_load (w17.heap.size) (mkP 5 1 0 sl) ?x17 HGp24.out ?a17 ?b17 ?c17 ?d17); (case a17 => rfl); (case b17 => rfl); (case c17 => rfl)) | ((with_reducible refine pk_load (w23.heap.size) (stepPk (codePk 5 3 16)) ?x18 HGx24.out ?a18 ?b18 ?c18 ?d18); (case a18 => rfl); (case b18 => rfl); (case c18 => rfl)))
  refine (next_rel (codePk 6 3 146) (by decide) (by decide) _).mono ?_
  rintro e w25 ⟨rfl, hb⟩
  have HB25 := Lib.hid (ext_then' HB24.out hb)
  have HGp25 := Lib.hid (row_then HGp24.out hb)
  have HGx25 := Lib.hid (row_then HGx24.out hb)
  clear hb HB24 HGp24 HGx24
  go_wp2_with (first | ((with_reducible refine pk_store w25.heap.size (stepPk (codePk 6 3 146)) ?x19 ?y19 _ (heap_alloc_new _ _) ?a19 ?b19 ?c19 ?d19 ?e19 ?f19); (case a19 => rfl); (case b19 => rfl); (case c19 => rfl); (case d19 => rfl); (case e19 => rfl)) | ((with_reducible refine pk_load (w17.heap.size) (mkP 5 1 0 sl) ?x20 HGp25.out ?a20 ?b20 ?c20 ?d20); (case a20 => rfl); (case b20 => rfl); (case c20 => rfl)) | ((with_reducible refine pk_load (w23.heap.size) (stepPk (codePk 5 3 16)) ?x21 HGx25.out ?a21 ?b21 ?c21 ?d21); (case a21 => rfl); (case b21 => rfl); (case c21 => rfl)))
  intro w26 hg hgr
  have HB26 := Lib.hid (below_store HB25.out hgr)
  have HGp26 := Lib.hid (row_store HGp25.out hgr)
  have HGx26 := Lib.hid (row_store HGx25.out hgr)
  have HGy26 := Lib.hid hg
  clear hg hgr HB25 HGp25 HGx25
  go_wp2_with (first | ((with_reducible refine pk_load (w17.heap.size) (mkP 5 1 0 sl) ?x22 HGp26.out ?a22 ?b22 ?c22 ?d22); (case a22 => rfl); (case b22 => rfl); (case c22 => rfl)) | ((with_reducible refine pk_load (w23.heap.size) (stepPk (codePk 5 3 16)) ?x23 HGx26.out ?a23 ?b23 ?c23 ?d23); (case a23 => rfl); (case b23 => rfl); (case c23 => rfl)) | ((with_reducible refine pk_load (w25.heap.size) (stepPk (codePk 6 3 146)) ?x24 HGy26.out ?a24 ?b24 ?c24 ?d24); (case a24 => rfl); (case b24 => rfl); (case c24 => rfl)))
  refine (next_bad (codePk 5 3 128) (by decide) (by decide) _).mono ?_
  rintro e w27 ⟨rfl, hb⟩
  have HB27 := Lib.hid (ext_then' HB26.out hb)
  have HGp27 := Lib.hid (row_then HGp26.out hb)
  have HGx27 := Lib.hid (row_then HGx26.out hb)
  have HGy27 := Lib.hid (row_then HGy26.out hb)
  clear hb HB26 HGp26 HGx26 HGy26
  go_wp2_with (first | ((with_reducible refine pk_store w27.heap.size (zeroPk) ?x25 ?y25 _ (heap_alloc_new _ _) ?a25 ?b25 ?c25 ?d25 ?e25 ?f25); (case a25 => rfl); (case b25 => rfl); (case c25 => rfl); (case d25 => rfl); (case e25 => rfl)) | ((with_reducible refine pk_load (w17.heap.size) (mkP 5 1 0 sl) ?x26 HGp27.out ?a26 ?b26 ?c26 ?d26); (case a26 => rfl); (case b26 => rfl); (case c26 => rfl)) | ((with_reducible refine pk_load (w23.heap.size) (stepPk (codePk 5 3 16)) ?x27 HGx27.out ?a27 ?b27 ?c27 ?d27); (case a27 => rfl); (case b27 => rfl); (case c27 => rfl)) | ((with_reducible refine pk_load (w25.heap.size) (stepPk (codePk 6 3 146)) ?x28 HGy27.out ?a28 ?b28 ?c28 ?d28); (case a28 => rfl); (case b28 => rfl); (case c28 => rfl)))
  intro w28 hg hgr
  have HB28 := Lib.hid (below_store HB27.out hgr)
  have HGp28 := Lib.hid (row_store HGp27.out hgr)
  have HGx28 := Lib.hid (row_store HGx27.out hgr)
  have HGy28 := Lib.hid (row_store HGy27.out hgr)
  have HGz28 := Lib.hid hg
  clear hg hgr HB27 HGp27 HGx27 HGy27
  clear HGz28
  go_wp2_with (first | ((with_reducible refine pk_load (w17.heap.size) (mkP 5 1 0 sl) ?x29 HGp28.out ?a29 ?b29 ?c29 ?d29); (case a29 => rfl); (case b29 => rfl); (case c29 => rfl)) | ((with_reducible refine pk_load (w23.heap.size) (stepPk (codePk 5 3 16)) ?x30 HGx28.out ?a30 ?b30 ?c30 ?d30); (case a30 => rfl); (case b30 => rfl); (case c30 => rfl)) | ((with_reducible refine pk_load (w25.heap.size) (stepPk (codePk 6 3 146)) ?x31 HGy28.out ?a31 ?b31 ?c31 ?d31); (case a31 => rfl); (case b31 => rfl); (case c31 => rfl)))
  refine (next_no (codePk 4 3 0) (by decide) (by decide) _).mono ?_
  rintro e w29 ⟨rfl, hb⟩
  have HB29 := Lib.hid (ext_then' HB28.out hb)
  have HGp29 := Lib.hid (row_then HGp28.out hb)
  have HGx29 := Lib.hid (row_then HGx28.out hb)
  have HGy29 := Lib.hid (row_then HGy28.out hb)
  clear hb HB28 HGp28 HGx28 HGy28
  go_wp2_with (first | ((with_reducible refine pk_store w29.heap.size (zeroPk) ?x32 ?y32 _ (heap_alloc_new _ _) ?a32 ?b32 ?c32 ?d32 ?e32 ?f32); (case a32 => rfl); (case b32 => rfl); (case c32 => rfl); (case d32 => rfl); (case e32 => rfl)) | ((with_reducible refine pk_load (w17.heap.size) (mkP 5 1 0 sl) ?x33 HGp29.out ?a33 ?b33 ?c33 ?d33); (case a33 => rfl); (case b33 => rfl); (case c33 => rfl)) | ((with_reducible refine pk_load (w23.heap.size) (stepPk (codePk 5 3 16)) ?x34 HGx29.out ?a34 ?b34 ?c34 ?d34); (case a34 => rfl); (case b34 => rfl); (case c34 => rfl)) | ((with_reducible refine pk_load (w25.heap.size) (stepPk (codePk 6 3 146)) ?x35 HGy29.out ?a35 ?b35 ?c35 ?d35); (case a35 => rfl); (case b35 => rfl); (case c35 => rfl)))
  intro w30 hg hgr
  have HB30 := Lib.hid (below_store HB29.out hgr)
  have HGp30 := Lib.hid (row_store HGp29.out hgr)
  have HGx30 := Lib.hid (row_store HGx29.out hgr)
  have HGy30 := Lib.hid (row_store HGy29.out hgr)
  have HGz30 := Lib.hid hg
  clear hg hgr HB29 HGp29 HGx29 HGy29
  clear HGz30
  have cp24 : w30.cell? ⟨w17.heap.size, 24, none⟩ = some (.slice sl.A 1 sl.c) := by rw [← HSL.out]; exact pack_at HGp30.out 24 _ rfl
  have cy0 : w30.cell? ⟨w25.heap.size, 0, none⟩ = some (.int .i64 7) := pack_at HGy30.out 0 _ rfl
  have cy4 : w30.cell? ⟨w25.heap.size, 4, none⟩ = some (.int .i64 3) := pack_at HGy30.out 4 _ rfl
  have cy21 : w30.cell? ⟨w25.heap.size, 21, none⟩ = some (.int .i64 0) := pack_at HGy30.out 21 _ rfl
  go_wp2_with (first | ((with_reducible refine pk_load (w17.heap.size) (mkP 5 1 0 sl) ?x36 HGp30.out ?a36 ?b36 ?c36 ?d36); (case a36 => rfl); (case b36 => rfl); (case c36 => rfl)) | ((with_reducible refine pk_load (w23.heap.size) (stepPk (codePk 5 3 16)) ?x37 HGx30.out ?a37 ?b37 ?c37 ?d37); (case a37 => rfl); (case b37 => rfl); (case c37 => rfl)) | ((with_reducible refine pk_load (w25.heap.size) (stepPk (codePk 6 3 146)) ?x38 HGy30.out ?a38 ?b38 ?c38 ?d38); (case a38 => rfl); (case b38 => rfl); (case c38 => rfl)))
  refine (samepk_yes (stepPk (codePk 5 3 16)) zeroSl zeroSl zeroSl zeroSl [] [] [] [] _ ⟨mk_ok (k := 6) (i := 3) (c := 0) zeroSl (by decide) (by decide) (by decide) (by decide), nil_RP0 _, nil_RI _, nil_RF _, nil_RP0 _⟩ (nil_RP0 _) (nil_RI _) (nil_RF _) (nil_RP0 _)).mono ?_
  rintro e w31 ⟨rfl, hb⟩
  have HB31 := Lib.hid (ext_then' HB30.out hb)
  have HGp31 := Lib.hid (row_then HGp30.out hb)
  have HGx31 := Lib.hid (row_then HGx30.out hb)
  have HGy31 := Lib.hid (row_then HGy30.out hb)
  clear hb HB30 HGp30 HGx30 HGy30
  clear cp24 cy0 cy4 cy21
  have cy0 : w31.cell? ⟨w25.heap.size, 0, none⟩ = some (.int .i64 7) := pack_at HGy31.out 0 _ rfl
  have cy4 : w31.cell? ⟨w25.heap.size, 4, none⟩ = some (.int .i64 3) := pack_at HGy31.out 4 _ rfl
  have cy21 : w31.cell? ⟨w25.heap.size, 21, none⟩ = some (.int .i64 0) := pack_at HGy31.out 21 _ rfl
  go_wp2_with (first | ((with_reducible refine pk_load (w17.heap.size) (mkP 5 1 0 sl) ?x39 HGp31.out ?a39 ?b39 ?c39 ?d39); (case a39 => rfl); (case b39 => rfl); (case c39 => rfl)) | ((with_reducible refine pk_load (w23.heap.size) (stepPk (codePk 5 3 16)) ?x40 HGx31.out ?a40 ?b40 ?c40 ?d40); (case a40 => rfl); (case b40 => rfl); (case c40 => rfl)) | ((with_reducible refine pk_load (w25.heap.size) (stepPk (codePk 6 3 146)) ?x41 HGy31.out ?a41 ?b41 ?c41 ?d41); (case a41 => rfl); (case b41 => rfl); (case c41 => rfl)))
  refine (ackV_t 4 (codePk 4 1 16) (packC (codePk 4 1 16)) rfl [] [] noTopic _ (nil_RP _) (nil_RP _)).mono ?_
  rintro e w32 ⟨rfl, hb⟩
  have HB32 := Lib.hid (ext_then' HB31.out hb)
  have HGp32 := Lib.hid (row_then HGp31.out hb)
  have HGx32 := Lib.hid (row_then HGx31.out hb)
  have HGy32 := Lib.hid (row_then HGy31.out hb)
  clear hb HB31 HGp31 HGx31 HGy31
  clear cy0 cy4 cy21
  rw [nmV1]
  go_wp2_with (first | ((with_reducible refine pk_load (w17.heap.size) (mkP 5 1 0 sl) ?x42 HGp32.out ?a42 ?b42 ?c42 ?d42); (case a42 => rfl); (case b42 => rfl); (case c42 => rfl)) | ((with_reducible refine pk_load (w23.heap.size) (stepPk (codePk 5 3 16)) ?x43 HGx32.out ?a43 ?b43 ?c43 ?d43); (case a43 => rfl); (case b43 => rfl); (case c43 => rfl)) | ((with_reducible refine pk_load (w25.heap.size) (stepPk (codePk 6 3 146)) ?x44 HGy32.out ?a44 ?b44 ?c44 ?d44); (case a44 => rfl); (case b44 => rfl); (case c44 => rfl)))
  refine (ackV_t 5 (codePk 3 1 0) (packC (codePk 3 1 0)) rfl [] [] noTopic _ (nil_RP _) (nil_RP _)).mono ?_
  rintro e w33 ⟨rfl, hb⟩
  have HB33 := Lib.hid (ext_then' HB32.out hb)
  have HGp33 := Lib.hid (row_then HGp32.out hb)
  have HGx33 := Lib.hid (row_then HGx32.out hb)
  have HGy33 := Lib.hid (row_then HGy32.out hb)
  clear hb HB32 HGp32 HGx32 HGy32
  rw [nmV2]
  go_wp2_with (first | ((with_reducible refine pk_load (w17.heap.size) (mkP 5 1 0 sl) ?x45 HGp33.out ?a45 ?b45 ?c45 ?d45); (case a45 => rfl); (case b45 => rfl); (case c45 => rfl)) | ((with_reducible refine pk_load (w23.heap.size) (stepPk (codePk 5 3 16)) ?x46 HGx33.out ?a46 ?b46 ?c46 ?d46); (case a46 => rfl); (case b46 => rfl); (case c46 => rfl)) | ((with_reducible refine pk_load (w25.heap.size) (stepPk (codePk 6 3 146)) ?x47 HGy33.out ?a47 ?b47 ?c47 ?d47); (case a47 => rfl); (case b47 => rfl); (case c47 => rfl)))
  refine (ackV_t 5 (codePk 4 65536 0) (packC (codePk 4 65536 0)) rfl [] [] noTopic _ (nil_RP _) (nil_RP _)).mono ?_
  rintro e w34 ⟨rfl, hb⟩
  have HB34 := Lib.hid (ext_then' HB33.out hb)
  have HGp34 := Lib.hid (row_then HGp33.out hb)
  have HGx34 := Lib.hid (row_then HGx33.out hb)
  have HGy34 := Lib.hid (row_then HGy33.out hb)
  clear hb HB33 HGp33 HGx33 HGy33
  rw [nmV3]
  go_wp2
  go_ret
  exact ⟨rfl, HB34.out⟩
end Go.Proofs.Ytnbgmpfldoaodab
