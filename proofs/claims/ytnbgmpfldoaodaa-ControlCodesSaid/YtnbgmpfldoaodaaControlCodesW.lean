/- The law ControlCodes of chapter 12: its walk. -/
import Derived.Test.YtnbgmpfldoaodaaControlB
import Derived.Test.YtnbgmpfldoaodaaRefR
import Derived.Lib.Strings
namespace Go.Proofs.Ytnbgmpfldoaodaa
open Go.RowKit Go.Sort
set_option maxHeartbeats 2000000
set_option linter.unusedVariables false
set_option linter.unusedSimpArgs false
theorem conv_one (w : World) (x : Int) : (convert 49 9 (.slice (some ⟨w.heap.size, 0, none⟩) 1 1)).run Try.prog (w.alloc (.cells #[.int .u8 x] 5)) = .ok (.string (strOfNums [x])) (w.alloc (.cells #[.int .u8 x] 5)) :=
  conv_new w _ rfl [x] 1 rfl #[.int .u8 x] rfl
set_option maxRecDepth 100000 in
theorem controlCodes_t (kind code : Int) (w : World) (wf1 : (Lit.int .i64 kind).wf = true) (wf2 : (Lit.int .i64 code).wf = true) :
    Calls Try.prog 9 #[.int .i64 kind, .int .i64 code] w fun e w' => e = .returned (.bool true) ∧ Below w.heap.size w w' := by
  have hpk := pick4_range kind
  obtain ⟨hk0, hk1⟩ := hpk
  clear wf1 wf2
  have HB1 := Lib.hid (Below.refl w.heap.size w)
  go_enter Try.func9, Try.ntmps9
  go_wp2_with fail
  refine (lives12_t _).mono ?_
  rintro e w2 ⟨rfl, hb⟩
  have HB2 := Lib.hid (ext_then' HB1.out hb)
  clear hb HB1
  go_wp2_with fail
  refine (pick4_t kind _).mono ?_
  rintro e w2x ⟨rfl, rfl⟩
  have hk : pick4 kind = 0 ∨ pick4 kind = 1 ∨ pick4 kind = 2 ∨ pick4 kind = 3 := by omega
  clear hk0 hk1
  rcases hk with hk | hk | hk | hk
  all_goals rw [hk]; clear hk
  · have HB2x := HB2
    clear HB2
    go_wp2_with ((with_reducible refine pk_store w2x.heap.size (codePk 12 0 code) ?x1 ?y1 _ (heap_alloc_new _ _) ?a1 ?b1 ?c1 ?d1 ?e1 ?f1); (case a1 => rfl); (case b1 => rfl); (case c1 => rfl); (case d1 => rfl); (case e1 => rfl))
    intro w3 hg hgr
    have HB3 := Lib.hid (below_store HB2x.out hgr)
    have HGp3 := Lib.hid hg
    clear hg hgr HB2x
    by_cases hc : code = 0
    · subst hc
      have H5 : Hid (contB 5 (codePk 12 0 0) [] = (⟨#[]⟩, 0)) := Lib.hid (by rw [contB_yes (by rw [contV_ping (by decide) (by decide), if_pos (by decide)]) (by decide) (by decide)]; rfl)
      have H4 : Hid (contB 4 (codePk 12 0 0) [] = (⟨#[]⟩, 0)) := Lib.hid (by rw [contB_yes (by rw [contV_ping (by decide) (by decide), if_pos (by decide)]) (by decide) (by decide)]; rfl)
      go_wp2_with ((with_reducible refine pk_load (w2x.heap.size) (codePk 12 0 0) ?x2 HGp3.out ?a2 ?b2 ?c2 ?d2); (case a2 => rfl); (case b2 => rfl); (case c2 => rfl))
      refine (codeT_t 5 12 0 _).mono ?_
      rintro e w4 ⟨rfl, hb⟩
      have HB4 := Lib.hid (ext_then' HB3.out hb)
      have HGp4 := Lib.hid (row_then HGp3.out hb)
      clear hb HB3 HGp3
      have cp_0 : w4.cell? ⟨w2x.heap.size, 0, none⟩ = some (.int .i64 (12)) := pack_at HGp4.out 0 _ rfl
      rw [H5.out]
      clear H5
      go_wp2_with ((with_reducible refine pk_load (w2x.heap.size) (codePk 12 0 0) ?x3 HGp4.out ?a3 ?b3 ?c3 ?d3); (case a3 => rfl); (case b3 => rfl); (case c3 => rfl))
      refine (codeT_t 4 12 0 _).mono ?_
      rintro e w5 ⟨rfl, hb⟩
      have HB5 := Lib.hid (ext_then' HB4.out hb)
      have HGp5 := Lib.hid (row_then HGp4.out hb)
      clear hb HB4 HGp4
      clear cp_0
      have cp_0 : w5.cell? ⟨w2x.heap.size, 0, none⟩ = some (.int .i64 (12)) := pack_at HGp5.out 0 _ rfl
      rw [H4.out]
      clear H4
      go_wp2
      go_ret
      exact ⟨rfl, HB5.out⟩
    · have hz : (code == 0) = false := by simpa using hc
      clear hc
      have H4 : Hid (contB 4 (codePk 12 0 code) [] = (⟨#[]⟩, 2)) := Lib.hid (contB_no 2 (by rw [contV_ping (by decide) (by decide), hz, if_neg (by decide)]) (by decide))
      have H5 : Hid (contB 5 (codePk 12 0 code) [] = (⟨#[]⟩, 2)) := Lib.hid (contB_no 2 (by rw [contV_ping (by decide) (by decide), hz, if_neg (by decide)]) (by decide))
      go_wp2_with ((with_reducible refine pk_load (w2x.heap.size) (codePk 12 0 code) ?x4 HGp3.out ?a4 ?b4 ?c4 ?d4); (case a4 => rfl); (case b4 => rfl); (case c4 => rfl))
      refine (codeT_t 5 12 code _).mono ?_
      rintro e w4 ⟨rfl, hb⟩
      have HB4 := Lib.hid (ext_then' HB3.out hb)
      have HGp4 := Lib.hid (row_then HGp3.out hb)
      clear hb HB3 HGp3
      have cp_0 : w4.cell? ⟨w2x.heap.size, 0, none⟩ = some (.int .i64 (12)) := pack_at HGp4.out 0 _ rfl
      rw [H5.out]
      clear H5
      go_wp2_with ((with_reducible refine pk_load (w2x.heap.size) (codePk 12 0 code) ?x5 HGp4.out ?a5 ?b5 ?c5 ?d5); (case a5 => rfl); (case b5 => rfl); (case c5 => rfl))
      refine (codeT_t 4 12 code _).mono ?_
      rintro e w5 ⟨rfl, hb⟩
      have HB5 := Lib.hid (ext_then' HB4.out hb)
      have HGp5 := Lib.hid (row_then HGp4.out hb)
      clear hb HB4 HGp4
      clear cp_0
      have cp_0 : w5.cell? ⟨w2x.heap.size, 0, none⟩ = some (.int .i64 (12)) := pack_at HGp5.out 0 _ rfl
      rw [H4.out]
      clear H4
      go_wp2
      go_ret
      exact ⟨rfl, HB5.out⟩
  · have HB2x := HB2
    clear HB2
    go_wp2_with ((with_reducible refine pk_store w2x.heap.size (codePk 13 0 code) ?x6 ?y6 _ (heap_alloc_new _ _) ?a6 ?b6 ?c6 ?d6 ?e6 ?f6); (case a6 => rfl); (case b6 => rfl); (case c6 => rfl); (case d6 => rfl); (case e6 => rfl))
    intro w3 hg hgr
    have HB3 := Lib.hid (below_store HB2x.out hgr)
    have HGp3 := Lib.hid hg
    clear hg hgr HB2x
    by_cases hc : code = 0
    · subst hc
      have H5 : Hid (contB 5 (codePk 13 0 0) [] = (⟨#[]⟩, 0)) := Lib.hid (by rw [contB_yes (by rw [contV_ping (by decide) (by decide), if_pos (by decide)]) (by decide) (by decide)]; rfl)
      have H4 : Hid (contB 4 (codePk 13 0 0) [] = (⟨#[]⟩, 0)) := Lib.hid (by rw [contB_yes (by rw [contV_ping (by decide) (by decide), if_pos (by decide)]) (by decide) (by decide)]; rfl)
      go_wp2_with ((with_reducible refine pk_load (w2x.heap.size) (codePk 13 0 0) ?x7 HGp3.out ?a7 ?b7 ?c7 ?d7); (case a7 => rfl); (case b7 => rfl); (case c7 => rfl))
      refine (codeT_t 5 13 0 _).mono ?_
      rintro e w4 ⟨rfl, hb⟩
      have HB4 := Lib.hid (ext_then' HB3.out hb)
      have HGp4 := Lib.hid (row_then HGp3.out hb)
      clear hb HB3 HGp3
      have cp_0 : w4.cell? ⟨w2x.heap.size, 0, none⟩ = some (.int .i64 (13)) := pack_at HGp4.out 0 _ rfl
      rw [H5.out]
      clear H5
      go_wp2_with ((with_reducible refine pk_load (w2x.heap.size) (codePk 13 0 0) ?x8 HGp4.out ?a8 ?b8 ?c8 ?d8); (case a8 => rfl); (case b8 => rfl); (case c8 => rfl))
      refine (codeT_t 4 13 0 _).mono ?_
      rintro e w5 ⟨rfl, hb⟩
      have HB5 := Lib.hid (ext_then' HB4.out hb)
      have HGp5 := Lib.hid (row_then HGp4.out hb)
      clear hb HB4 HGp4
      clear cp_0
      have cp_0 : w5.cell? ⟨w2x.heap.size, 0, none⟩ = some (.int .i64 (13)) := pack_at HGp5.out 0 _ rfl
      rw [H4.out]
      clear H4
      go_wp2
      go_ret
      exact ⟨rfl, HB5.out⟩
    · have hz : (code == 0) = false := by simpa using hc
      clear hc
      have H4 : Hid (contB 4 (codePk 13 0 code) [] = (⟨#[]⟩, 2)) := Lib.hid (contB_no 2 (by rw [contV_ping (by decide) (by decide), hz, if_neg (by decide)]) (by decide))
      have H5 : Hid (contB 5 (codePk 13 0 code) [] = (⟨#[]⟩, 2)) := Lib.hid (contB_no 2 (by rw [contV_ping (by decide) (by decide), hz, if_neg (by decide)]) (by decide))
      go_wp2_with ((with_reducible refine pk_load (w2x.heap.size) (codePk 13 0 code) ?x9 HGp3.out ?a9 ?b9 ?c9 ?d9); (case a9 => rfl); (case b9 => rfl); (case c9 => rfl))
      refine (codeT_t 5 13 code _).mono ?_
      rintro e w4 ⟨rfl, hb⟩
      have HB4 := Lib.hid (ext_then' HB3.out hb)
      have HGp4 := Lib.hid (row_then HGp3.out hb)
      clear hb HB3 HGp3
      have cp_0 : w4.cell? ⟨w2x.heap.size, 0, none⟩ = some (.int .i64 (13)) := pack_at HGp4.out 0 _ rfl
      rw [H5.out]
      clear H5
      go_wp2_with ((with_reducible refine pk_load (w2x.heap.size) (codePk 13 0 code) ?x10 HGp4.out ?a10 ?b10 ?c10 ?d10); (case a10 => rfl); (case b10 => rfl); (case c10 => rfl))
      refine (codeT_t 4 13 code _).mono ?_
      rintro e w5 ⟨rfl, hb⟩
      have HB5 := Lib.hid (ext_then' HB4.out hb)
      have HGp5 := Lib.hid (row_then HGp4.out hb)
      clear hb HB4 HGp4
      clear cp_0
      have cp_0 : w5.cell? ⟨w2x.heap.size, 0, none⟩ = some (.int .i64 (13)) := pack_at HGp5.out 0 _ rfl
      rw [H4.out]
      clear H4
      go_wp2
      go_ret
      exact ⟨rfl, HB5.out⟩
  · have HB2x := HB2
    clear HB2
    go_wp2_with ((with_reducible refine pk_store w2x.heap.size (codePk 14 0 code) ?x11 ?y11 _ (heap_alloc_new _ _) ?a11 ?b11 ?c11 ?d11 ?e11 ?f11); (case a11 => rfl); (case b11 => rfl); (case c11 => rfl); (case d11 => rfl); (case e11 => rfl))
    intro w3 hg hgr
    have HB3 := Lib.hid (below_store HB2x.out hgr)
    have HGp3 := Lib.hid hg
    clear hg hgr HB2x
    by_cases hc : code = 0
    · subst hc
      have H5 : Hid (contB 5 (codePk 14 0 0) [] = (⟨#[]⟩, 0)) := Lib.hid (by rw [contB_yes (by rw [contV_late (by decide) (by decide), if_pos (by decide +kernel)]) (by decide) (by decide)]; rfl)
      have H4 : Hid (contB 4 (codePk 14 0 0) [] = (⟨#[]⟩, 0)) := Lib.hid (by rw [contB_yes (by rw [contV_ping (by decide) (by decide), if_pos (by decide)]) (by decide) (by decide)]; rfl)
      have HM : Hid (mayB 14 0 = true) := Lib.hid (by decide +kernel)
      go_wp2_with ((with_reducible refine pk_load (w2x.heap.size) (codePk 14 0 0) ?x12 HGp3.out ?a12 ?b12 ?c12 ?d12); (case a12 => rfl); (case b12 => rfl); (case c12 => rfl))
      refine (codeT_t 5 14 0 _).mono ?_
      rintro e w4 ⟨rfl, hb⟩
      have HB4 := Lib.hid (ext_then' HB3.out hb)
      have HGp4 := Lib.hid (row_then HGp3.out hb)
      clear hb HB3 HGp3
      have cp_0 : w4.cell? ⟨w2x.heap.size, 0, none⟩ = some (.int .i64 (14)) := pack_at HGp4.out 0 _ rfl
      rw [H5.out]
      clear H5
      go_wp2_with ((with_reducible refine pk_load (w2x.heap.size) (codePk 14 0 0) ?x13 HGp4.out ?a13 ?b13 ?c13 ?d13); (case a13 => rfl); (case b13 => rfl); (case c13 => rfl))
      refine (codeT_t 4 14 0 _).mono ?_
      rintro e w5 ⟨rfl, hb⟩
      have HB5 := Lib.hid (ext_then' HB4.out hb)
      have HGp5 := Lib.hid (row_then HGp4.out hb)
      clear hb HB4 HGp4
      clear cp_0
      have cp_0 : w5.cell? ⟨w2x.heap.size, 0, none⟩ = some (.int .i64 (14)) := pack_at HGp5.out 0 _ rfl
      rw [H4.out]
      clear H4
      go_wp2_with ((with_reducible refine pk_load (w2x.heap.size) (codePk 14 0 0) ?x14 HGp5.out ?a14 ?b14 ?c14 ?d14); (case a14 => rfl); (case b14 => rfl); (case c14 => rfl))
      refine (rmay_t 14 0 _).mono ?_
      rintro e w6 ⟨rfl, hb⟩
      have HB6 := Lib.hid (ext_then' HB5.out hb)
      have HGp6 := Lib.hid (row_then HGp5.out hb)
      clear hb HB5 HGp5
      clear cp_0
      have cp_0 : w6.cell? ⟨w2x.heap.size, 0, none⟩ = some (.int .i64 (14)) := pack_at HGp6.out 0 _ rfl
      rw [HM.out]
      go_wp2
      go_ret
      exact ⟨rfl, HB6.out⟩
    · have hz : (code == 0) = false := by simpa using hc
      clear hc
      have H4 : Hid (contB 4 (codePk 14 0 code) [] = (⟨#[]⟩, 2)) := Lib.hid (contB_no 2 (by rw [contV_ping (by decide) (by decide), hz, if_neg (by decide)]) (by decide))
      cases hm : mayB 14 code
      · have HM := Lib.hid hm
        have H5 : Hid (contB 5 (codePk 14 0 code) [] = (⟨#[]⟩, 2)) := Lib.hid (contB_no 2 (by rw [contV_late (by decide) (by decide), hm, if_neg (by decide)]) (by decide))
        clear hm
        go_wp2_with ((with_reducible refine pk_load (w2x.heap.size) (codePk 14 0 code) ?x15 HGp3.out ?a15 ?b15 ?c15 ?d15); (case a15 => rfl); (case b15 => rfl); (case c15 => rfl))
        refine (codeT_t 5 14 code _).mono ?_
        rintro e w4 ⟨rfl, hb⟩
        have HB4 := Lib.hid (ext_then' HB3.out hb)
        have HGp4 := Lib.hid (row_then HGp3.out hb)
        clear hb HB3 HGp3
        have cp_0 : w4.cell? ⟨w2x.heap.size, 0, none⟩ = some (.int .i64 (14)) := pack_at HGp4.out 0 _ rfl
        rw [H5.out]
        clear H5
        go_wp2_with ((with_reducible refine pk_load (w2x.heap.size) (codePk 14 0 code) ?x16 HGp4.out ?a16 ?b16 ?c16 ?d16); (case a16 => rfl); (case b16 => rfl); (case c16 => rfl))
        refine (codeT_t 4 14 code _).mono ?_
        rintro e w5 ⟨rfl, hb⟩
        have HB5 := Lib.hid (ext_then' HB4.out hb)
        have HGp5 := Lib.hid (row_then HGp4.out hb)
        clear hb HB4 HGp4
        clear cp_0
        have cp_0 : w5.cell? ⟨w2x.heap.size, 0, none⟩ = some (.int .i64 (14)) := pack_at HGp5.out 0 _ rfl
        rw [H4.out]
        clear H4
        go_wp2_with ((with_reducible refine pk_load (w2x.heap.size) (codePk 14 0 code) ?x17 HGp5.out ?a17 ?b17 ?c17 ?d17); (case a17 => rfl); (case b17 => rfl); (case c17 => rfl))
        refine (rmay_t 14 code _).mono ?_
        rintro e w6 ⟨rfl, hb⟩
        have HB6 := Lib.hid (ext_then' HB5.out hb)
        have HGp6 := Lib.hid (row_then HGp5.out hb)
        clear hb HB5 HGp5
        clear cp_0
        have cp_0 : w6.cell? ⟨w2x.heap.size, 0, none⟩ = some (.int .i64 (14)) := pack_at HGp6.out 0 _ rfl
        rw [HM.out]
        go_wp2
        go_ret
        exact ⟨rfl, HB6.out⟩
      · have HM := Lib.hid hm
        obtain ⟨r0, r1⟩ := mayB_range' hm
        have H5 : Hid (contB 5 (codePk 14 0 code) [] = (be1 code, 0)) := Lib.hid (by rw [contB_yes (by rw [contV_late (by decide) (by decide), if_pos hm]) r0 r1, hz]; rfl)
        clear hm
        have hcv := fun w => conv_one w code
        have hb : strOfNums [code] = be1 code := by unfold be1; rw [Int.emod_eq_of_lt r0 (by omega)]
        rw [hb] at hcv
        have q1 : (be1 code).toList.isEmpty = false := by rw [Lib.toList_data]; rfl
        have q2 : ¬ (be1 code).toList = [] := by intro h; rw [h] at q1; cases q1
        clear hb
        generalize be1 code = s at *
        go_wp2_with ((with_reducible refine pk_load (w2x.heap.size) (codePk 14 0 code) ?x18 HGp3.out ?a18 ?b18 ?c18 ?d18); (case a18 => rfl); (case b18 => rfl); (case c18 => rfl))
        refine (codeT_t 5 14 code _).mono ?_
        rintro e w4 ⟨rfl, hb⟩
        have HB4 := Lib.hid (ext_then' HB3.out hb)
        have HGp4 := Lib.hid (row_then HGp3.out hb)
        clear hb HB3 HGp3
        have cp_0 : w4.cell? ⟨w2x.heap.size, 0, none⟩ = some (.int .i64 (14)) := pack_at HGp4.out 0 _ rfl
        rw [H5.out]
        clear H5
        go_wp2_with ((with_reducible refine pk_load (w2x.heap.size) (codePk 14 0 code) ?x19 HGp4.out ?a19 ?b19 ?c19 ?d19); (case a19 => rfl); (case b19 => rfl); (case c19 => rfl))
        refine (codeT_t 4 14 code _).mono ?_
        rintro e w5 ⟨rfl, hb⟩
        have HB5 := Lib.hid (ext_then' HB4.out hb)
        have HGp5 := Lib.hid (row_then HGp4.out hb)
        clear hb HB4 HGp4
        clear cp_0
        have cp_0 : w5.cell? ⟨w2x.heap.size, 0, none⟩ = some (.int .i64 (14)) := pack_at HGp5.out 0 _ rfl
        rw [H4.out]
        clear H4
        go_wp2_with ((with_reducible refine pk_load (w2x.heap.size) (codePk 14 0 code) ?x20 HGp5.out ?a20 ?b20 ?c20 ?d20); (case a20 => rfl); (case b20 => rfl); (case c20 => rfl))
        refine (rmay_t 14 code _).mono ?_
        rintro e w6 ⟨rfl, hb⟩
        have HB6 := Lib.hid (ext_then' HB5.out hb)
        have HGp6 := Lib.hid (row_then HGp5.out hb)
        clear hb HB5 HGp5
        clear cp_0
        have cp_0 : w6.cell? ⟨w2x.heap.size, 0, none⟩ = some (.int .i64 (14)) := pack_at HGp6.out 0 _ rfl
        rw [HM.out]
        go_wp2
        go_ret
        exact ⟨rfl, by first | exact HB6.out | exact HB6.out.alloc HB6.out.size _⟩
  · have HB2x := HB2
    clear HB2
    go_wp2_with ((with_reducible refine pk_store w2x.heap.size (codePk 15 0 code) ?x21 ?y21 _ (heap_alloc_new _ _) ?a21 ?b21 ?c21 ?d21 ?e21 ?f21); (case a21 => rfl); (case b21 => rfl); (case c21 => rfl); (case d21 => rfl); (case e21 => rfl))
    intro w3 hg hgr
    have HB3 := Lib.hid (below_store HB2x.out hgr)
    have HGp3 := Lib.hid hg
    clear hg hgr HB2x
    by_cases hc : code = 0
    · subst hc
      have H5 : Hid (contB 5 (codePk 15 0 0) [] = (⟨#[]⟩, 0)) := Lib.hid (by rw [contB_yes (by rw [contV_late (by decide) (by decide), if_pos (by decide +kernel)]) (by decide) (by decide)]; rfl)
      have H4 : Hid (contB 4 (codePk 15 0 0) [] = (⟨#[]⟩, 8)) := Lib.hid (contB_no 8 (by unfold contV; rfl) (by decide))
      have HM : Hid (mayB 15 0 = true) := Lib.hid (by decide +kernel)
      go_wp2_with ((with_reducible refine pk_load (w2x.heap.size) (codePk 15 0 0) ?x22 HGp3.out ?a22 ?b22 ?c22 ?d22); (case a22 => rfl); (case b22 => rfl); (case c22 => rfl))
      refine (codeT_t 5 15 0 _).mono ?_
      rintro e w4 ⟨rfl, hb⟩
      have HB4 := Lib.hid (ext_then' HB3.out hb)
      have HGp4 := Lib.hid (row_then HGp3.out hb)
      clear hb HB3 HGp3
      have cp_0 : w4.cell? ⟨w2x.heap.size, 0, none⟩ = some (.int .i64 (15)) := pack_at HGp4.out 0 _ rfl
      rw [H5.out]
      clear H5
      go_wp2_with ((with_reducible refine pk_load (w2x.heap.size) (codePk 15 0 0) ?x23 HGp4.out ?a23 ?b23 ?c23 ?d23); (case a23 => rfl); (case b23 => rfl); (case c23 => rfl))
      refine (codeT_t 4 15 0 _).mono ?_
      rintro e w5 ⟨rfl, hb⟩
      have HB5 := Lib.hid (ext_then' HB4.out hb)
      have HGp5 := Lib.hid (row_then HGp4.out hb)
      clear hb HB4 HGp4
      clear cp_0
      have cp_0 : w5.cell? ⟨w2x.heap.size, 0, none⟩ = some (.int .i64 (15)) := pack_at HGp5.out 0 _ rfl
      rw [H4.out]
      clear H4
      go_wp2_with ((with_reducible refine pk_load (w2x.heap.size) (codePk 15 0 0) ?x24 HGp5.out ?a24 ?b24 ?c24 ?d24); (case a24 => rfl); (case b24 => rfl); (case c24 => rfl))
      refine (rmay_t 15 0 _).mono ?_
      rintro e w6 ⟨rfl, hb⟩
      have HB6 := Lib.hid (ext_then' HB5.out hb)
      have HGp6 := Lib.hid (row_then HGp5.out hb)
      clear hb HB5 HGp5
      clear cp_0
      have cp_0 : w6.cell? ⟨w2x.heap.size, 0, none⟩ = some (.int .i64 (15)) := pack_at HGp6.out 0 _ rfl
      rw [HM.out]
      go_wp2
      go_ret
      exact ⟨rfl, HB6.out⟩
    · have hz : (code == 0) = false := by simpa using hc
      clear hc
      have H4 : Hid (contB 4 (codePk 15 0 code) [] = (⟨#[]⟩, 8)) := Lib.hid (contB_no 8 (by unfold contV; rfl) (by decide))
      cases hm : mayB 15 code
      · have HM := Lib.hid hm
        have H5 : Hid (contB 5 (codePk 15 0 code) [] = (⟨#[]⟩, 2)) := Lib.hid (contB_no 2 (by rw [contV_late (by decide) (by decide), hm, if_neg (by decide)]) (by decide))
        clear hm
        go_wp2_with ((with_reducible refine pk_load (w2x.heap.size) (codePk 15 0 code) ?x25 HGp3.out ?a25 ?b25 ?c25 ?d25); (case a25 => rfl); (case b25 => rfl); (case c25 => rfl))
        refine (codeT_t 5 15 code _).mono ?_
        rintro e w4 ⟨rfl, hb⟩
        have HB4 := Lib.hid (ext_then' HB3.out hb)
        have HGp4 := Lib.hid (row_then HGp3.out hb)
        clear hb HB3 HGp3
        have cp_0 : w4.cell? ⟨w2x.heap.size, 0, none⟩ = some (.int .i64 (15)) := pack_at HGp4.out 0 _ rfl
        rw [H5.out]
        clear H5
        go_wp2_with ((with_reducible refine pk_load (w2x.heap.size) (codePk 15 0 code) ?x26 HGp4.out ?a26 ?b26 ?c26 ?d26); (case a26 => rfl); (case b26 => rfl); (case c26 => rfl))
        refine (codeT_t 4 15 code _).mono ?_
        rintro e w5 ⟨rfl, hb⟩
        have HB5 := Lib.hid (ext_then' HB4.out hb)
        have HGp5 := Lib.hid (row_then HGp4.out hb)
        clear hb HB4 HGp4
        clear cp_0
        have cp_0 : w5.cell? ⟨w2x.heap.size, 0, none⟩ = some (.int .i64 (15)) := pack_at HGp5.out 0 _ rfl
        rw [H4.out]
        clear H4
        go_wp2_with ((with_reducible refine pk_load (w2x.heap.size) (codePk 15 0 code) ?x27 HGp5.out ?a27 ?b27 ?c27 ?d27); (case a27 => rfl); (case b27 => rfl); (case c27 => rfl))
        refine (rmay_t 15 code _).mono ?_
        rintro e w6 ⟨rfl, hb⟩
        have HB6 := Lib.hid (ext_then' HB5.out hb)
        have HGp6 := Lib.hid (row_then HGp5.out hb)
        clear hb HB5 HGp5
        clear cp_0
        have cp_0 : w6.cell? ⟨w2x.heap.size, 0, none⟩ = some (.int .i64 (15)) := pack_at HGp6.out 0 _ rfl
        rw [HM.out]
        go_wp2
        go_ret
        exact ⟨rfl, HB6.out⟩
      · have HM := Lib.hid hm
        obtain ⟨r0, r1⟩ := mayB_range' hm
        have H5 : Hid (contB 5 (codePk 15 0 code) [] = (be1 code, 0)) := Lib.hid (by rw [contB_yes (by rw [contV_late (by decide) (by decide), if_pos hm]) r0 r1, hz]; rfl)
        clear hm
        have hcv := fun w => conv_one w code
        have hb : strOfNums [code] = be1 code := by unfold be1; rw [Int.emod_eq_of_lt r0 (by omega)]
        rw [hb] at hcv
        have q1 : (be1 code).toList.isEmpty = false := by rw [Lib.toList_data]; rfl
        have q2 : ¬ (be1 code).toList = [] := by intro h; rw [h] at q1; cases q1
        clear hb
        generalize be1 code = s at *
        go_wp2_with ((with_reducible refine pk_load (w2x.heap.size) (codePk 15 0 code) ?x28 HGp3.out ?a28 ?b28 ?c28 ?d28); (case a28 => rfl); (case b28 => rfl); (case c28 => rfl))
        refine (codeT_t 5 15 code _).mono ?_
        rintro e w4 ⟨rfl, hb⟩
        have HB4 := Lib.hid (ext_then' HB3.out hb)
        have HGp4 := Lib.hid (row_then HGp3.out hb)
        clear hb HB3 HGp3
        have cp_0 : w4.cell? ⟨w2x.heap.size, 0, none⟩ = some (.int .i64 (15)) := pack_at HGp4.out 0 _ rfl
        rw [H5.out]
        clear H5
        go_wp2_with ((with_reducible refine pk_load (w2x.heap.size) (codePk 15 0 code) ?x29 HGp4.out ?a29 ?b29 ?c29 ?d29); (case a29 => rfl); (case b29 => rfl); (case c29 => rfl))
        refine (codeT_t 4 15 code _).mono ?_
        rintro e w5 ⟨rfl, hb⟩
        have HB5 := Lib.hid (ext_then' HB4.out hb)
        have HGp5 := Lib.hid (row_then HGp4.out hb)
        clear hb HB4 HGp4
        clear cp_0
        have cp_0 : w5.cell? ⟨w2x.heap.size, 0, none⟩ = some (.int .i64 (15)) := pack_at HGp5.out 0 _ rfl
        rw [H4.out]
        clear H4
        go_wp2_with ((with_reducible refine pk_load (w2x.heap.size) (codePk 15 0 code) ?x30 HGp5.out ?a30 ?b30 ?c30 ?d30); (case a30 => rfl); (case b30 => rfl); (case c30 => rfl))
        refine (rmay_t 15 code _).mono ?_
        rintro e w6 ⟨rfl, hb⟩
        have HB6 := Lib.hid (ext_then' HB5.out hb)
        have HGp6 := Lib.hid (row_then HGp5.out hb)
        clear hb HB5 HGp5
        clear cp_0
        have cp_0 : w6.cell? ⟨w2x.heap.size, 0, none⟩ = some (.int .i64 (15)) := pack_at HGp6.out 0 _ rfl
        rw [HM.out]
        go_wp2
        go_ret
        exact ⟨rfl, by first | exact HB6.out | exact HB6.out.alloc HB6.out.size _⟩
end Go.Proofs.Ytnbgmpfldoaodaa
