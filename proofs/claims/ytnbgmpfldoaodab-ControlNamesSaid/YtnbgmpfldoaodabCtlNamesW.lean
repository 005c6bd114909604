/- The law ControlNames of chapter 12: its walk. -/
import Derived.Test.YtnbgmpfldoaodabCtlNm
import Derived.Test.YtnbgmpfldoaodabPkL
namespace Go.Proofs.Ytnbgmpfldoaodab
open Go.RowKit Go.Sort
set_option maxHeartbeats 2000000
set_option linter.unusedVariables false
set_option linter.unusedSimpArgs false
theorem prx_at {w w' : World} {T : TypeId} (h : w'.heap[w.heap.size]? = some (.cells #[.int .i64 31, .int .u32 0, .string ⟨#[120]⟩, .string ⟨#[]⟩] T (0, 0))) : RP w' (some ⟨w.heap.size, 0, none⟩) 1 [prpX] := by
  refine ⟨rfl, by decide, ?_, fun _ => ⟨w.heap.size, 0, rfl, (Array.getElem?_eq_some_iff.1 h).1, ?_⟩⟩
  · intro p hp
    simp only [List.mem_cons, List.not_mem_nil, or_false] at hp
    rw [hp]
    exact ⟨by decide, by decide, by decide, by decide⟩
  · intro j p hj
    match j, hj with
    | 0, hj =>
      simp only [List.getElem?_cons_zero, Option.some.injEq] at hj
      rw [← hj]
      exact ⟨by rw [cell_of_row _ _ _ _ _ _ h]; rfl, by rw [cell_of_row _ _ _ _ _ _ h]; rfl, by rw [cell_of_row _ _ _ _ _ _ h]; rfl, by rw [cell_of_row _ _ _ _ _ _ h]; rfl⟩
theorem rp_store {w b : World} {A : Option Addr} {n : Nat} {l : List Prp} {o : Obj} (h : RP w A n l) (hb : (w.alloc o).grownBy b (some w.heap.size)) : RP b A n l :=
  h.below ⟨hb.os, hb.tape, hb.output, by have := hb.size; simp at this; omega, fun i hi => by rw [hb.block i (by simp; omega) (fun e => by simp only [Option.some.injEq] at e; omega), heap_alloc_old _ _ hi]⟩
set_option maxHeartbeats 40000000 in
set_option maxRecDepth 100000 in
theorem ctlNames_t (w : World) : Calls Try.prog 4 #[] w fun e w' => e = .returned (.bool true) ∧ Below w.heap.size w w' := by
  have HB1 := Lib.hid (Below.refl w.heap.size w)
  go_enter Try.func4, Try.ntmps4
  go_wp2_with fail
  refine (lives12_t _).mono ?_
  rintro e w2 ⟨rfl, hb⟩
  have HB2 := Lib.hid (ext_then' HB1.out hb)
  clear hb HB1
  have HB3 := Lib.hid (HB2.out.alloc HB2.out.size (.cells #[.int .i64 31, .int .u32 0, .string ⟨#[120]⟩, .string ⟨#[]⟩] 25))
  have HXu3 := Lib.hid (prx_at (heap_alloc_new w2 (.cells #[.int .i64 31, .int .u32 0, .string ⟨#[120]⟩, .string ⟨#[]⟩] 25)))
  go_wp2_with fail
  generalize w2.alloc (.cells #[.int .i64 31, .int .u32 0, .string ⟨#[120]⟩, .string ⟨#[]⟩] 25) = w3 at *
  generalize w2.heap.size = U at *
  clear HB2
  refine (contB_t 5 (mkP 15 0 24 ⟨some ⟨U, 0, none⟩, 1, 1⟩) [] [prpX] (topicH _) _ (nil_RP _) HXu3.out).mono ?_
  rintro e w4 ⟨rfl, hb⟩
  have HB4 := Lib.hid (ext_then' HB3.out hb)
  have HXu4 := Lib.hid (RP.below HXu3.out hb)
  clear hb HB3 HXu3
  rw [cn_B _ rfl]
  go_wp2_with fail
  refine (ctlread_f _).mono ?_
  rintro e w5 ⟨slf, hsl, rfl, hb⟩
  have HXu5 := Lib.hid (RP.below HXu4.out hb)
  clear HXu4
  have HB5 := Lib.hid (ext_then' HB4.out hb)
  clear hb HB4
  have HXf5 := Lib.hid hsl
  clear hsl
  go_wp2_with ((with_reducible refine pk_store w5.heap.size (mkP 15 0 24 slf) ?x1 ?y1 _ (heap_alloc_new _ _) ?a1 ?b1 ?c1 ?d1 ?e1 ?f1); (case a1 => rfl); (case b1 => rfl); (case c1 => rfl); (case d1 => rfl); (case e1 => rfl))
  intro w6 hg hgr
  have HXf6 := Lib.hid (rp_store HXf5.out hgr)
  have HXu6 := Lib.hid (rp_store HXu5.out hgr)
  clear HXu5; clear HXf5
  have HB6 := Lib.hid (below_store HB5.out hgr)
  have HGp6 := Lib.hid hg
  clear hg hgr HB5
  go_wp2_with ((with_reducible refine pk_load (w5.heap.size) (mkP 15 0 24 slf) ?x2 HGp6.out ?a2 ?b2 ?c2 ?d2); (case a2 => rfl); (case b2 => rfl); (case c2 => rfl))
  refine (ctlread_e (v := 4) (kind := 15) cn_g (by decide) _ (by decide)).mono ?_
  rintro e w7 ⟨rfl, hb⟩
  have HXf7 := Lib.hid (RP.below HXf6.out hb)
  have HXu7 := Lib.hid (RP.below HXu6.out hb)
  clear HXu6; clear HXf6
  have HB7 := Lib.hid (ext_then' HB6.out hb)
  have HGp7 := Lib.hid (row_then HGp6.out hb)
  clear hb HB6 HGp6
  go_wp2_with (first | ((with_reducible refine pk_store w7.heap.size (zeroPk) ?x3 ?y3 _ (heap_alloc_new _ _) ?a3 ?b3 ?c3 ?d3 ?e3 ?f3); (case a3 => rfl); (case b3 => rfl); (case c3 => rfl); (case d3 => rfl); (case e3 => rfl)) | ((with_reducible refine pk_load (w5.heap.size) (mkP 15 0 24 slf) ?x4 HGp7.out ?a4 ?b4 ?c4 ?d4); (case a4 => rfl); (case b4 => rfl); (case c4 => rfl)))
  intro w8 hg hgr
  have HXf8 := Lib.hid (rp_store HXf7.out hgr)
  have HXu8 := Lib.hid (rp_store HXu7.out hgr)
  clear HXu7; clear HXf7
  have HB8 := Lib.hid (below_store HB7.out hgr)
  have HGp8 := Lib.hid (row_store HGp7.out hgr)
  have HGz8 := Lib.hid hg
  clear hg hgr HB7 HGp7
  clear HGz8
  go_wp2_with ((with_reducible refine pk_load (w5.heap.size) (mkP 15 0 24 slf) ?x5 HGp8.out ?a5 ?b5 ?c5 ?d5); (case a5 => rfl); (case b5 => rfl); (case c5 => rfl))
  refine (ctlread_e (v := 4) (kind := 12) cn_h (by decide) _ (by decide)).mono ?_
  rintro e w9 ⟨rfl, hb⟩
  have HXf9 := Lib.hid (RP.below HXf8.out hb)
  have HXu9 := Lib.hid (RP.below HXu8.out hb)
  clear HXu8; clear HXf8
  have HB9 := Lib.hid (ext_then' HB8.out hb)
  have HGp9 := Lib.hid (row_then HGp8.out hb)
  clear hb HB8 HGp8
  go_wp2_with (first | ((with_reducible refine pk_store w9.heap.size (zeroPk) ?x6 ?y6 _ (heap_alloc_new _ _) ?a6 ?b6 ?c6 ?d6 ?e6 ?f6); (case a6 => rfl); (case b6 => rfl); (case c6 => rfl); (case d6 => rfl); (case e6 => rfl)) | ((with_reducible refine pk_load (w5.heap.size) (mkP 15 0 24 slf) ?x7 HGp9.out ?a7 ?b7 ?c7 ?d7); (case a7 => rfl); (case b7 => rfl); (case c7 => rfl)))
  intro w10 hg hgr
  have HXf10 := Lib.hid (rp_store HXf9.out hgr)
  have HXu10 := Lib.hid (rp_store HXu9.out hgr)
  clear HXu9; clear HXf9
  have HB10 := Lib.hid (below_store HB9.out hgr)
  have HGp10 := Lib.hid (row_store HGp9.out hgr)
  have HGz10 := Lib.hid hg
  clear hg hgr HB9 HGp9
  clear HGz10
  go_wp2_with ((with_reducible refine pk_load (w5.heap.size) (mkP 15 0 24 slf) ?x8 HGp10.out ?a8 ?b8 ?c8 ?d8); (case a8 => rfl); (case b8 => rfl); (case c8 => rfl))
  refine (ctlread_e (v := 4) (kind := 14) cn_i (by decide) _ (by decide)).mono ?_
  rintro e w11 ⟨rfl, hb⟩
  have HXf11 := Lib.hid (RP.below HXf10.out hb)
  have HXu11 := Lib.hid (RP.below HXu10.out hb)
  clear HXu10; clear HXf10
  have HB11 := Lib.hid (ext_then' HB10.out hb)
  have HGp11 := Lib.hid (row_then HGp10.out hb)
  clear hb HB10 HGp10
  go_wp2_with (first | ((with_reducible refine pk_store w11.heap.size (zeroPk) ?x9 ?y9 _ (heap_alloc_new _ _) ?a9 ?b9 ?c9 ?d9 ?e9 ?f9); (case a9 => rfl); (case b9 => rfl); (case c9 => rfl); (case d9 => rfl); (case e9 => rfl)) | ((with_reducible refine pk_load (w5.heap.size) (mkP 15 0 24 slf) ?x10 HGp11.out ?a10 ?b10 ?c10 ?d10); (case a10 => rfl); (case b10 => rfl); (case c10 => rfl)))
  intro w12 hg hgr
  have HXf12 := Lib.hid (rp_store HXf11.out hgr)
  have HXu12 := Lib.hid (rp_store HXu11.out hgr)
  clear HXu11; clear HXf11
  have HB12 := Lib.hid (below_store HB11.out hgr)
  have HGp12 := Lib.hid (row_store HGp11.out hgr)
  have HGz12 := Lib.hid hg
  clear hg hgr HB11 HGp11
  clear HGz12
  go_wp2_with ((with_reducible refine pk_load (w5.heap.size) (mkP 15 0 24 slf) ?x11 HGp12.out ?a11 ?b11 ?c11 ?d11); (case a11 => rfl); (case b11 => rfl); (case c11 => rfl))
  refine (ctlread_e (v := 5) (kind := 14) cn_j (by decide) _ (by decide)).mono ?_
  rintro e w13 ⟨rfl, hb⟩
  have HXf13 := Lib.hid (RP.below HXf12.out hb)
  have HXu13 := Lib.hid (RP.below HXu12.out hb)
  clear HXu12; clear HXf12
  have HB13 := Lib.hid (ext_then' HB12.out hb)
  have HGp13 := Lib.hid (row_then HGp12.out hb)
  clear hb HB12 HGp12
  go_wp2_with (first | ((with_reducible refine pk_store w13.heap.size (zeroPk) ?x12 ?y12 _ (heap_alloc_new _ _) ?a12 ?b12 ?c12 ?d12 ?e12 ?f12); (case a12 => rfl); (case b12 => rfl); (case c12 => rfl); (case d12 => rfl); (case e12 => rfl)) | ((with_reducible refine pk_load (w5.heap.size) (mkP 15 0 24 slf) ?x13 HGp13.out ?a13 ?b13 ?c13 ?d13); (case a13 => rfl); (case b13 => rfl); (case c13 => rfl)))
  intro w14 hg hgr
  have HXf14 := Lib.hid (rp_store HXf13.out hgr)
  have HXu14 := Lib.hid (rp_store HXu13.out hgr)
  clear HXu13; clear HXf13
  have HB14 := Lib.hid (below_store HB13.out hgr)
  have HGp14 := Lib.hid (row_store HGp13.out hgr)
  have HGz14 := Lib.hid hg
  clear hg hgr HB13 HGp13
  clear HGz14
  go_wp2_with ((with_reducible refine pk_load (w5.heap.size) (mkP 15 0 24 slf) ?x14 HGp14.out ?a14 ?b14 ?c14 ?d14); (case a14 => rfl); (case b14 => rfl); (case c14 => rfl))
  refine (ctlread_e (v := 5) (kind := 14) cn_k (by decide) _ (by decide)).mono ?_
  rintro e w15 ⟨rfl, hb⟩
  have HXf15 := Lib.hid (RP.below HXf14.out hb)
  have HXu15 := Lib.hid (RP.below HXu14.out hb)
  clear HXu14; clear HXf14
  have HB15 := Lib.hid (ext_then' HB14.out hb)
  have HGp15 := Lib.hid (row_then HGp14.out hb)
  clear hb HB14 HGp14
  go_wp2_with (first | ((with_reducible refine pk_store w15.heap.size (zeroPk) ?x15 ?y15 _ (heap_alloc_new _ _) ?a15 ?b15 ?c15 ?d15 ?e15 ?f15); (case a15 => rfl); (case b15 => rfl); (case c15 => rfl); (case d15 => rfl); (case e15 => rfl)) | ((with_reducible refine pk_load (w5.heap.size) (mkP 15 0 24 slf) ?x16 HGp15.out ?a16 ?b16 ?c16 ?d16); (case a16 => rfl); (case b16 => rfl); (case c16 => rfl)))
  intro w16 hg hgr
  have HXf16 := Lib.hid (rp_store HXf15.out hgr)
  have HXu16 := Lib.hid (rp_store HXu15.out hgr)
  clear HXu15; clear HXf15
  have HB16 := Lib.hid (below_store HB15.out hgr)
  have HGp16 := Lib.hid (row_store HGp15.out hgr)
  have HGz16 := Lib.hid hg
  clear hg hgr HB15 HGp15
  clear HGz16
  go_wp2_with ((with_reducible refine pk_load (w5.heap.size) (mkP 15 0 24 slf) ?x17 HGp16.out ?a17 ?b17 ?c17 ?d17); (case a17 => rfl); (case b17 => rfl); (case c17 => rfl))
  refine (ctlread_e (v := 5) (kind := 14) cn_l (by decide) _ (by decide)).mono ?_
  rintro e w17 ⟨rfl, hb⟩
  have HXf17 := Lib.hid (RP.below HXf16.out hb)
  have HXu17 := Lib.hid (RP.below HXu16.out hb)
  clear HXu16; clear HXf16
  have HB17 := Lib.hid (ext_then' HB16.out hb)
  have HGp17 := Lib.hid (row_then HGp16.out hb)
  clear hb HB16 HGp16
  go_wp2_with (first | ((with_reducible refine pk_store w17.heap.size (zeroPk) ?x18 ?y18 _ (heap_alloc_new _ _) ?a18 ?b18 ?c18 ?d18 ?e18 ?f18); (case a18 => rfl); (case b18 => rfl); (case c18 => rfl); (case d18 => rfl); (case e18 => rfl)) | ((with_reducible refine pk_load (w5.heap.size) (mkP 15 0 24 slf) ?x19 HGp17.out ?a19 ?b19 ?c19 ?d19); (case a19 => rfl); (case b19 => rfl); (case c19 => rfl)))
  intro w18 hg hgr
  have HXf18 := Lib.hid (rp_store HXf17.out hgr)
  have HXu18 := Lib.hid (rp_store HXu17.out hgr)
  clear HXu17; clear HXf17
  have HB18 := Lib.hid (below_store HB17.out hgr)
  have HGp18 := Lib.hid (row_store HGp17.out hgr)
  have HGz18 := Lib.hid hg
  clear hg hgr HB17 HGp17
  clear HGz18
  go_wp2_with ((with_reducible refine pk_load (w5.heap.size) (mkP 15 0 24 slf) ?x20 HGp18.out ?a20 ?b20 ?c20 ?d20); (case a20 => rfl); (case b20 => rfl); (case c20 => rfl))
  refine (ctlread_e (v := 5) (kind := 1) cn_m (by decide) _ (by decide)).mono ?_
  rintro e w19 ⟨rfl, hb⟩
  have HXf19 := Lib.hid (RP.below HXf18.out hb)
  have HXu19 := Lib.hid (RP.below HXu18.out hb)
  clear HXu18; clear HXf18
  have HB19 := Lib.hid (ext_then' HB18.out hb)
  have HGp19 := Lib.hid (row_then HGp18.out hb)
  clear hb HB18 HGp18
  go_wp2_with (first | ((with_reducible refine pk_store w19.heap.size (zeroPk) ?x21 ?y21 _ (heap_alloc_new _ _) ?a21 ?b21 ?c21 ?d21 ?e21 ?f21); (case a21 => rfl); (case b21 => rfl); (case c21 => rfl); (case d21 => rfl); (case e21 => rfl)) | ((with_reducible refine pk_load (w5.heap.size) (mkP 15 0 24 slf) ?x22 HGp19.out ?a22 ?b22 ?c22 ?d22); (case a22 => rfl); (case b22 => rfl); (case c22 => rfl)))
  intro w20 hg hgr
  have HXf20 := Lib.hid (rp_store HXf19.out hgr)
  have HXu20 := Lib.hid (rp_store HXu19.out hgr)
  clear HXu19; clear HXf19
  have HB20 := Lib.hid (below_store HB19.out hgr)
  have HGp20 := Lib.hid (row_store HGp19.out hgr)
  have HGz20 := Lib.hid hg
  clear hg hgr HB19 HGp19
  clear HGz20
  go_wp2_with ((with_reducible refine pk_load (w5.heap.size) (mkP 15 0 24 slf) ?x23 HGp20.out ?a23 ?b23 ?c23 ?d23); (case a23 => rfl); (case b23 => rfl); (case c23 => rfl))
  refine (ctlread_n _).mono ?_
  rintro e w21 ⟨sln, hsl, rfl, hb⟩
  have HXf21 := Lib.hid (RP.below HXf20.out hb)
  have HXu21 := Lib.hid (RP.below HXu20.out hb)
  clear HXu20; clear HXf20
  have HB21 := Lib.hid (ext_then' HB20.out hb)
  have HGp21 := Lib.hid (row_then HGp20.out hb)
  clear hb HB20 HGp20
  have HXn21 := Lib.hid hsl
  clear hsl
  go_wp2_with (first | ((with_reducible refine pk_store w21.heap.size (mkP 13 0 0 sln) ?x24 ?y24 _ (heap_alloc_new _ _) ?a24 ?b24 ?c24 ?d24 ?e24 ?f24); (case a24 => rfl); (case b24 => rfl); (case c24 => rfl); (case d24 => rfl); (case e24 => rfl)) | ((with_reducible refine pk_load (w5.heap.size) (mkP 15 0 24 slf) ?x25 HGp21.out ?a25 ?b25 ?c25 ?d25); (case a25 => rfl); (case b25 => rfl); (case c25 => rfl)))
  intro w22 hg hgr
  have HXn22 := Lib.hid (rp_store HXn21.out hgr)
  have HXf22 := Lib.hid (rp_store HXf21.out hgr)
  have HXu22 := Lib.hid (rp_store HXu21.out hgr)
  clear HXu21; clear HXf21; clear HXn21
  have HB22 := Lib.hid (below_store HB21.out hgr)
  have HGp22 := Lib.hid (row_store HGp21.out hgr)
  have HGq22 := Lib.hid hg
  clear hg hgr HB21 HGp21
  have cp_21 : w22.cell? ⟨w5.heap.size, 21, none⟩ = some (.int .i64 (24)) := pack_at HGp22.out 21 _ rfl
  have cp_24 : w22.cell? ⟨w5.heap.size, 24, none⟩ = some (.slice (mkP 15 0 24 slf).props.A (mkP 15 0 24 slf).props.n (mkP 15 0 24 slf).props.c) := pack_at HGp22.out 24 _ rfl
  clear cp_21 cp_24
  have cp21 : w22.cell? ⟨w5.heap.size, 21, none⟩ = some (.int .i64 24) := pack_at HGp22.out 21 _ rfl
  have cp24 : w22.cell? ⟨w5.heap.size, 24, none⟩ = some (.slice slf.A slf.n slf.c) := pack_at HGp22.out 24 _ rfl
  go_wp2_with (first | ((with_reducible refine pk_load (w5.heap.size) (mkP 15 0 24 slf) ?x26 HGp22.out ?a26 ?b26 ?c26 ?d26); (case a26 => rfl); (case b26 => rfl); (case c26 => rfl)) | ((with_reducible refine pk_load (w21.heap.size) (mkP 13 0 0 sln) ?x27 HGq22.out ?a27 ?b27 ?c27 ?d27); (case a27 => rfl); (case b27 => rfl); (case c27 => rfl)))
  refine (samep_yes slf.A (some ⟨U, 0, none⟩) slf.n 1 slf.c 1 [prpX] _ HXf22.out HXu22.out).mono ?_
  rintro e w23 ⟨rfl, hb⟩
  have HXn23 := Lib.hid (RP.below HXn22.out hb)
  have HXf23 := Lib.hid (RP.below HXf22.out hb)
  have HXu23 := Lib.hid (RP.below HXu22.out hb)
  clear HXu22; clear HXf22; clear HXn22
  have HB23 := Lib.hid (ext_then' HB22.out hb)
  have HGp23 := Lib.hid (row_then HGp22.out hb)
  have HGq23 := Lib.hid (row_then HGq22.out hb)
  clear hb HB22 HGp22 HGq22
  clear cp21 cp24
  go_wp2_with (first | ((with_reducible refine pk_load (w5.heap.size) (mkP 15 0 24 slf) ?x28 HGp23.out ?a28 ?b28 ?c28 ?d28); (case a28 => rfl); (case b28 => rfl); (case c28 => rfl)) | ((with_reducible refine pk_load (w21.heap.size) (mkP 13 0 0 sln) ?x29 HGq23.out ?a29 ?b29 ?c29 ?d29); (case a29 => rfl); (case b29 => rfl); (case c29 => rfl)))
  refine (samepk_yes (mkP 13 0 0 sln) zeroSl zeroSl zeroSl zeroSl [] [] [] [] _ ⟨mk_ok (k := 13) (i := 0) (c := 0) sln (by decide) (by decide) (by decide) (by rw [← HXn23.out.1]; decide), nil_RP0 _, nil_RI _, nil_RF _, HXn23.out⟩ (nil_RP0 _) (nil_RI _) (nil_RF _) (nil_RP0 _)).mono ?_
  rintro e w24 ⟨rfl, hb⟩
  have HXn24 := Lib.hid (RP.below HXn23.out hb)
  have HXf24 := Lib.hid (RP.below HXf23.out hb)
  have HXu24 := Lib.hid (RP.below HXu23.out hb)
  clear HXu23; clear HXf23; clear HXn23
  have HB24 := Lib.hid (ext_then' HB23.out hb)
  have HGp24 := Lib.hid (row_then HGp23.out hb)
  have HGq24 := Lib.hid (row_then HGq23.out hb)
  clear hb HB23 HGp23 HGq23
  go_wp2_with (first | ((with_reducible refine pk_load (w5.heap.size) (mkP 15 0 24 slf) ?x30 HGp24.out ?a30 ?b30 ?c30 ?d30); (case a30 => rfl); (case b30 => rfl); (case c30 => rfl)) | ((with_reducible refine pk_load (w21.heap.size) (mkP 13 0 0 sln) ?x31 HGq24.out ?a31 ?b31 ?c31 ?d31); (case a31 => rfl); (case b31 => rfl); (case c31 => rfl)))
  refine (contV_t 4 (codePk 15 0 0) [] [] noTopic _ (nil_RP _) (nil_RP _)).mono ?_
  rintro e w25 ⟨rfl, hb⟩
  have HXn25 := Lib.hid (RP.below HXn24.out hb)
  have HXf25 := Lib.hid (RP.below HXf24.out hb)
  have HXu25 := Lib.hid (RP.below HXu24.out hb)
  clear HXu24; clear HXf24; clear HXn24
  have HB25 := Lib.hid (ext_then' HB24.out hb)
  have HGp25 := Lib.hid (row_then HGp24.out hb)
  have HGq25 := Lib.hid (row_then HGq24.out hb)
  clear hb HB24 HGp24 HGq24
  rw [cn_V1]
  go_wp2_with (first | ((with_reducible refine pk_load (w5.heap.size) (mkP 15 0 24 slf) ?x32 HGp25.out ?a32 ?b32 ?c32 ?d32); (case a32 => rfl); (case b32 => rfl); (case c32 => rfl)) | ((with_reducible refine pk_load (w21.heap.size) (mkP 13 0 0 sln) ?x33 HGq25.out ?a33 ?b33 ?c33 ?d33); (case a33 => rfl); (case b33 => rfl); (case c33 => rfl)))
  refine (contV_t 4 (codePk 14 0 4) [] [] noTopic _ (nil_RP _) (nil_RP _)).mono ?_
  rintro e w26 ⟨rfl, hb⟩
  have HXn26 := Lib.hid (RP.below HXn25.out hb)
  have HXf26 := Lib.hid (RP.below HXf25.out hb)
  have HXu26 := Lib.hid (RP.below HXu25.out hb)
  clear HXu25; clear HXf25; clear HXn25
  have HB26 := Lib.hid (ext_then' HB25.out hb)
  have HGp26 := Lib.hid (row_then HGp25.out hb)
  have HGq26 := Lib.hid (row_then HGq25.out hb)
  clear hb HB25 HGp25 HGq25
  rw [cn_V2]
  go_wp2_with (first | ((with_reducible refine pk_load (w5.heap.size) (mkP 15 0 24 slf) ?x34 HGp26.out ?a34 ?b34 ?c34 ?d34); (case a34 => rfl); (case b34 => rfl); (case c34 => rfl)) | ((with_reducible refine pk_load (w21.heap.size) (mkP 13 0 0 sln) ?x35 HGq26.out ?a35 ?b35 ?c35 ?d35); (case a35 => rfl); (case b35 => rfl); (case c35 => rfl)))
  refine (contV_t 5 { zeroPk with kind := 12, topic := ⟨#[97]⟩ } [] [] noTopic _ (nil_RP _) (nil_RP _)).mono ?_
  rintro e w27 ⟨rfl, hb⟩
  have HXn27 := Lib.hid (RP.below HXn26.out hb)
  have HXf27 := Lib.hid (RP.below HXf26.out hb)
  have HXu27 := Lib.hid (RP.below HXu26.out hb)
  clear HXu26; clear HXf26; clear HXn26
  have HB27 := Lib.hid (ext_then' HB26.out hb)
  have HGp27 := Lib.hid (row_then HGp26.out hb)
  have HGq27 := Lib.hid (row_then HGq26.out hb)
  clear hb HB26 HGp26 HGq26
  rw [cn_V3]
  go_wp2_with (first | ((with_reducible refine pk_load (w5.heap.size) (mkP 15 0 24 slf) ?x36 HGp27.out ?a36 ?b36 ?c36 ?d36); (case a36 => rfl); (case b36 => rfl); (case c36 => rfl)) | ((with_reducible refine pk_load (w21.heap.size) (mkP 13 0 0 sln) ?x37 HGq27.out ?a37 ?b37 ?c37 ?d37); (case a37 => rfl); (case b37 => rfl); (case c37 => rfl)))
  refine (ctail_t 300 none 0 0 15 [] noTopic _ (nil_RP _)).mono ?_
  rintro e w28 ⟨rfl, hb⟩
  have HXn28 := Lib.hid (RP.below HXn27.out hb)
  have HXf28 := Lib.hid (RP.below HXf27.out hb)
  have HXu28 := Lib.hid (RP.below HXu27.out hb)
  clear HXu27; clear HXf27; clear HXn27
  have HB28 := Lib.hid (ext_then' HB27.out hb)
  have HGp28 := Lib.hid (row_then HGp27.out hb)
  have HGq28 := Lib.hid (row_then HGq27.out hb)
  clear hb HB27 HGp27 HGq27
  rw [cn_T1]
  go_wp2_with (first | ((with_reducible refine pk_load (w5.heap.size) (mkP 15 0 24 slf) ?x38 HGp28.out ?a38 ?b38 ?c38 ?d38); (case a38 => rfl); (case b38 => rfl); (case c38 => rfl)) | ((with_reducible refine pk_load (w21.heap.size) (mkP 13 0 0 sln) ?x39 HGq28.out ?a39 ?b39 ?c39 ?d39); (case a39 => rfl); (case b39 => rfl); (case c39 => rfl)))
  refine (ctail_t 24 none 0 0 15 [] noTopic _ (nil_RP _)).mono ?_
  rintro e w29 ⟨rfl, hb⟩
  have HXn29 := Lib.hid (RP.below HXn28.out hb)
  have HXf29 := Lib.hid (RP.below HXf28.out hb)
  have HXu29 := Lib.hid (RP.below HXu28.out hb)
  clear HXu28; clear HXf28; clear HXn28
  have HB29 := Lib.hid (ext_then' HB28.out hb)
  have HGp29 := Lib.hid (row_then HGp28.out hb)
  have HGq29 := Lib.hid (row_then HGq28.out hb)
  clear hb HB28 HGp28 HGq28
  rw [cn_T2]
  go_wp2_with (first | ((with_reducible refine pk_load (w5.heap.size) (mkP 15 0 24 slf) ?x40 HGp29.out ?a40 ?b40 ?c40 ?d40); (case a40 => rfl); (case b40 => rfl); (case c40 => rfl)) | ((with_reducible refine pk_load (w21.heap.size) (mkP 13 0 0 sln) ?x41 HGq29.out ?a41 ?b41 ?c41 ?d41); (case a41 => rfl); (case b41 => rfl); (case c41 => rfl)))
  refine (ctail_t 0 none 0 0 15 [] noTopic _ (nil_RP _)).mono ?_
  rintro e w30 ⟨rfl, hb⟩
  have HXn30 := Lib.hid (RP.below HXn29.out hb)
  have HXf30 := Lib.hid (RP.below HXf29.out hb)
  have HXu30 := Lib.hid (RP.below HXu29.out hb)
  clear HXu29; clear HXf29; clear HXn29
  have HB30 := Lib.hid (ext_then' HB29.out hb)
  have HGp30 := Lib.hid (row_then HGp29.out hb)
  have HGq30 := Lib.hid (row_then HGq29.out hb)
  clear hb HB29 HGp29 HGq29
  rw [cn_T3]
  go_wp2_with (first | ((with_reducible refine pk_load (w5.heap.size) (mkP 15 0 24 slf) ?x42 HGp30.out ?a42 ?b42 ?c42 ?d42); (case a42 => rfl); (case b42 => rfl); (case c42 => rfl)) | ((with_reducible refine pk_load (w21.heap.size) (mkP 13 0 0 sln) ?x43 HGq30.out ?a43 ?b43 ?c43 ?d43); (case a43 => rfl); (case b43 => rfl); (case c43 => rfl)))
  refine (ctail_t 0 (some ⟨U, 0, none⟩) 1 1 12 [prpX] (topicH _) _ HXu30.out).mono ?_
  rintro e w31 ⟨rfl, hb⟩
  have HXn31 := Lib.hid (RP.below HXn30.out hb)
  have HXf31 := Lib.hid (RP.below HXf30.out hb)
  have HXu31 := Lib.hid (RP.below HXu30.out hb)
  clear HXu30; clear HXf30; clear HXn30
  have HB31 := Lib.hid (ext_then' HB30.out hb)
  have HGp31 := Lib.hid (row_then HGp30.out hb)
  have HGq31 := Lib.hid (row_then HGq30.out hb)
  clear hb HB30 HGp30 HGq30
  rw [cn_T4]
  go_wp2
  go_ret
  exact ⟨rfl, HB31.out⟩
end Go.Proofs.Ytnbgmpfldoaodab
