/- The law ConnectAnswers of chapter 8: its walk. -/
import Derived.Test.YtnbgmpfldoaodaaConnB
namespace Go.Proofs.Ytnbgmpfldoaodaa
open Go.RowKit Go.Sort
set_option maxHeartbeats 2000000
set_option linter.unusedVariables false
set_option linter.unusedSimpArgs false
theorem ans_a (s : Bool) (c : Int) : catL [ackFirst (ansPk s c), be1 c, tailS 4 2 []] = ackFirst (ansPk s c) ++ be1 c := by
  show ackFirst (ansPk s c) ++ (be1 c ++ ((⟨#[]⟩ : ByteArray) ++ (⟨#[]⟩ : ByteArray))) = _
  apply ByteArray.ext
  simp
theorem ans_b (s : Bool) (c : Int) : catL [ackFirst (ansPk s c), be1 c, tailS 5 2 []] = (ackFirst (ansPk s c) ++ be1 c) ++ ⟨#[0]⟩ := by
  have h : tailS 5 2 [] = ⟨#[0]⟩ := by
    show (bytesF 2 []).1 = _
    rw [bytes_none]; rfl
  show ackFirst (ansPk s c) ++ (be1 c ++ (tailS 5 2 [] ++ (⟨#[]⟩ : ByteArray))) = _
  rw [h]
  apply ByteArray.ext
  simp
theorem ans_sizes (s : Bool) (c : Int) : (ackFirst (ansPk s c) ++ be1 c).size = 2 := by
  have h1 : (be1 c).size = 1 := by simp [be1, strOfNums_size]
  have h2 : (ackFirst (ansPk s c)).size = 1 := by cases s <;> rfl
  rw [ByteArray.size_append, h1, h2]
theorem take_two (a : ByteArray) (h : a.size = 2) : (a ++ ⟨#[0]⟩ : ByteArray).extract 0 2 = a := by
  apply ByteArray.ext
  have e : a.data.size = 2 := h
  simp only [ByteArray.data_extract, ByteArray.data_append, Array.extract_append, e]
  have h1 : a.data.extract 0 2 = a.data := by rw [← e]; exact Array.extract_size
  rw [h1]
  simp
theorem last_zero (a : ByteArray) (h : a.size = 2) : ∃ hz : (a ++ ⟨#[0]⟩ : ByteArray).size = 3, ((a ++ ⟨#[0]⟩ : ByteArray)[2]'(by omega)).toNat = 0 := by
  have e : a.data.size = 2 := h
  refine ⟨by rw [ByteArray.size_append, h]; rfl, ?_⟩
  rw [ByteArray.getElem_append_right (by omega)]
  simp only [h]
  rfl
theorem b_facts (a : ByteArray) (h : a.size = 2) : ∃ b, a ++ ⟨#[0]⟩ = b ∧ ∃ hz : b.size = 3, (b[2]'(by omega)).toNat = 0 ∧ b.extract 0 2 = a := by
  obtain ⟨hz, h0⟩ := last_zero a h
  exact ⟨_, rfl, hz, h0, take_two a h⟩
set_option maxRecDepth 100000 in
theorem connAnswers_t (s : Bool) (c : Int) (w : World) (wf : (Lit.int .i64 c).wf = true) :
    Calls Try.prog 11 #[.bool s, .int .i64 c] w fun e w' => e = .returned (.bool true) ∧ Below w.heap.size w w' := by
  have hcb := bounds_i64 wf
  have HCB := Lib.hid hcb
  clear wf hcb
  have HB1 := Lib.hid (Below.refl w.heap.size w)
  go_enter Try.func11, Try.ntmps11
  go_wp2_with fail
  refine (lives08_t _).mono ?_
  rintro e w2 ⟨rfl, hb⟩
  have HB2 := Lib.hid (ext_then' HB1.out hb)
  clear hb HB1
  by_cases hc : c = 0
  · subst hc
    cases s
    · go_wp2_with ((with_reducible refine pk_store w2.heap.size (ansPk false 0) ?x1 ?y1 _ (heap_alloc_new _ _) ?a1 ?b1 ?c1 ?d1 ?e1 ?f1); (case a1 => rfl); (case b1 => rfl); (case c1 => rfl); (case d1 => rfl); (case e1 => rfl))
      intro w3 hg hgr
      have HB3 := Lib.hid (below_store HB2.out hgr)
      have HGp3 := Lib.hid hg
      clear hg hgr HB2
      have H4 : Hid (connB 4 (ansPk false 0) [] [] = (⟨#[0, 0]⟩, 0)) := Lib.hid (by rw [connB_ans (by decide) (by decide)]; rfl)
      have H5 : Hid (connB 5 (ansPk false 0) [] [] = (⟨#[0, 0, 0]⟩, 0)) := Lib.hid (by rw [connB_ans (by decide) (by rw [ranges_ans5, show mayB 2 0 = true from by decide +kernel]; rfl), ans_b]; rfl)
      go_wp2_with ((with_reducible refine pk_load (w2.heap.size) (ansPk false 0) ?x2 HGp3.out ?a2 ?b2 ?c2 ?d2); (case a2 => rfl); (case b2 => rfl); (case c2 => rfl))
      refine (ansB_t 4 false 0 (by omega) _).mono ?_
      rintro e w4 ⟨rfl, hb⟩
      have HB4 := Lib.hid (ext_then' HB3.out hb)
      have HGp4 := Lib.hid (row_then HGp3.out hb)
      clear hb HB3 HGp3
      rw [H4.out]
      go_wp2_with ((with_reducible refine pk_load (w2.heap.size) (ansPk false 0) ?x3 HGp4.out ?a3 ?b3 ?c3 ?d3); (case a3 => rfl); (case b3 => rfl); (case c3 => rfl))
      refine (ansB_t 5 false 0 (by omega) _).mono ?_
      rintro e w5 ⟨rfl, hb⟩
      have HB5 := Lib.hid (ext_then' HB4.out hb)
      have HGp5 := Lib.hid (row_then HGp4.out hb)
      clear hb HB4 HGp4
      rw [H5.out]
      clear H4 H5
      have hx : (⟨#[0, 0, 0]⟩ : ByteArray).extract 0 2 = ⟨#[0, 0]⟩ := by decide
      go_wp2
      go_ret
      exact ⟨by first | rfl | simp, HB5.out⟩
    · go_wp2_with ((with_reducible refine pk_store w2.heap.size (ansPk true 0) ?x4 ?y4 _ (heap_alloc_new _ _) ?a4 ?b4 ?c4 ?d4 ?e4 ?f4); (case a4 => rfl); (case b4 => rfl); (case c4 => rfl); (case d4 => rfl); (case e4 => rfl))
      intro w3 hg hgr
      have HB3 := Lib.hid (below_store HB2.out hgr)
      have HGp3 := Lib.hid hg
      clear hg hgr HB2
      have H4 : Hid (connB 4 (ansPk true 0) [] [] = (⟨#[1, 0]⟩, 0)) := Lib.hid (by rw [connB_ans (by decide) (by decide)]; rfl)
      have H5 : Hid (connB 5 (ansPk true 0) [] [] = (⟨#[1, 0, 0]⟩, 0)) := Lib.hid (by rw [connB_ans (by decide) (by rw [ranges_ans5, show mayB 2 0 = true from by decide +kernel]; rfl), ans_b]; rfl)
      go_wp2_with ((with_reducible refine pk_load (w2.heap.size) (ansPk true 0) ?x5 HGp3.out ?a5 ?b5 ?c5 ?d5); (case a5 => rfl); (case b5 => rfl); (case c5 => rfl))
      refine (ansB_t 4 true 0 (by omega) _).mono ?_
      rintro e w4 ⟨rfl, hb⟩
      have HB4 := Lib.hid (ext_then' HB3.out hb)
      have HGp4 := Lib.hid (row_then HGp3.out hb)
      clear hb HB3 HGp3
      rw [H4.out]
      go_wp2_with ((with_reducible refine pk_load (w2.heap.size) (ansPk true 0) ?x6 HGp4.out ?a6 ?b6 ?c6 ?d6); (case a6 => rfl); (case b6 => rfl); (case c6 => rfl))
      refine (ansB_t 5 true 0 (by omega) _).mono ?_
      rintro e w5 ⟨rfl, hb⟩
      have HB5 := Lib.hid (ext_then' HB4.out hb)
      have HGp5 := Lib.hid (row_then HGp4.out hb)
      clear hb HB4 HGp4
      rw [H5.out]
      clear H4 H5
      have hx : (⟨#[1, 0, 0]⟩ : ByteArray).extract 0 2 = ⟨#[1, 0]⟩ := by decide
      go_wp2
      go_ret
      exact ⟨by first | rfl | simp, HB5.out⟩
  · have hz : (c == 0) = false := by simpa using hc
    have hn : (c != 0) = true := by simpa using hc
    clear hc
    cases s
    · go_wp2_with ((with_reducible refine pk_store w2.heap.size (ansPk false c) ?x7 ?y7 _ (heap_alloc_new _ _) ?a7 ?b7 ?c7 ?d7 ?e7 ?f7); (case a7 => rfl); (case b7 => rfl); (case c7 => rfl); (case d7 => rfl); (case e7 => rfl))
      intro w3 hg hgr
      have HB3 := Lib.hid (below_store HB2.out hgr)
      have HGp3 := Lib.hid hg
      clear hg hgr HB2
      cases hr : returnB c
      · cases hm : mayB 2 c
        · have hret : decide (0 ≤ c) = false ∨ decide (0 ≤ c) = true ∧ decide (c ≤ 5) = false := by
            unfold returnB at hr
            cases h : decide (0 ≤ c)
            · exact .inl rfl
            · rw [h] at hr; exact .inr ⟨rfl, by simpa using hr⟩
          have H4 : Hid (connB 4 (ansPk false c) [] [] = (⟨#[]⟩, 2)) := Lib.hid (connB_ansN (by decide) (by rw [ranges_ans4]; unfold codeOK; rw [hr]; rfl))
          have H5 : Hid (connB 5 (ansPk false c) [] [] = (⟨#[]⟩, 2)) := Lib.hid (connB_ansN (by decide) (by rw [ranges_ans5]; unfold codeOK; rw [hm]; rfl))
          clear hr hm
          rcases hret with h0 | ⟨h0, h1⟩
          · go_wp2_with ((with_reducible refine pk_load (w2.heap.size) (ansPk false c) ?x8 HGp3.out ?a8 ?b8 ?c8 ?d8); (case a8 => rfl); (case b8 => rfl); (case c8 => rfl))
            refine (ansB_t 4 false c HCB.out _).mono ?_
            rintro e w4 ⟨rfl, hb⟩
            have HB4 := Lib.hid (ext_then' HB3.out hb)
            have HGp4 := Lib.hid (row_then HGp3.out hb)
            clear hb HB3 HGp3
            rw [H4.out]
            go_wp2_with ((with_reducible refine pk_load (w2.heap.size) (ansPk false c) ?x9 HGp4.out ?a9 ?b9 ?c9 ?d9); (case a9 => rfl); (case b9 => rfl); (case c9 => rfl))
            refine (ansB_t 5 false c HCB.out _).mono ?_
            rintro e w5 ⟨rfl, hb⟩
            have HB5 := Lib.hid (ext_then' HB4.out hb)
            have HGp5 := Lib.hid (row_then HGp4.out hb)
            clear hb HB4 HGp4
            rw [H5.out]
            clear H4 H5
            go_wp2
            go_ret
            exact ⟨rfl, HB5.out⟩
          · go_wp2_with ((with_reducible refine pk_load (w2.heap.size) (ansPk false c) ?x10 HGp3.out ?a10 ?b10 ?c10 ?d10); (case a10 => rfl); (case b10 => rfl); (case c10 => rfl))
            refine (ansB_t 4 false c HCB.out _).mono ?_
            rintro e w4 ⟨rfl, hb⟩
            have HB4 := Lib.hid (ext_then' HB3.out hb)
            have HGp4 := Lib.hid (row_then HGp3.out hb)
            clear hb HB3 HGp3
            rw [H4.out]
            go_wp2_with ((with_reducible refine pk_load (w2.heap.size) (ansPk false c) ?x11 HGp4.out ?a11 ?b11 ?c11 ?d11); (case a11 => rfl); (case b11 => rfl); (case c11 => rfl))
            refine (ansB_t 5 false c HCB.out _).mono ?_
            rintro e w5 ⟨rfl, hb⟩
            have HB5 := Lib.hid (ext_then' HB4.out hb)
            have HGp5 := Lib.hid (row_then HGp4.out hb)
            clear hb HB4 HGp4
            rw [H5.out]
            clear H4 H5
            go_wp2
            go_ret
            exact ⟨rfl, HB5.out⟩
        · have hret : decide (0 ≤ c) = false ∨ decide (0 ≤ c) = true ∧ decide (c ≤ 5) = false := by
            unfold returnB at hr
            cases h : decide (0 ≤ c)
            · exact .inl rfl
            · rw [h] at hr; exact .inr ⟨rfl, by simpa using hr⟩
          have H4 : Hid (connB 4 (ansPk false c) [] [] = (⟨#[]⟩, 2)) := Lib.hid (connB_ansN (by decide) (by rw [ranges_ans4]; unfold codeOK; rw [hr]; rfl))
          have H5 : Hid (connB 5 (ansPk false c) [] [] = ((ackFirst (ansPk false c) ++ be1 c) ++ ⟨#[0]⟩, 0)) := Lib.hid (by rw [connB_ans (by decide) (by rw [ranges_ans5]; unfold codeOK; show (if mayB 2 c = true then (if (c == 0) = true then true else !false) else false) = true; rw [hm, hz]; rfl), ans_b])
          clear hr hm
          have hsz := ans_sizes false c
          obtain ⟨a, ha⟩ : ∃ a, ackFirst (ansPk false c) ++ be1 c = a := ⟨_, rfl⟩
          rw [ha] at hsz
          rw [ha] at H5
          obtain ⟨b, hb, hz3, hl0, ht2⟩ := b_facts a hsz
          rw [hb] at H5
          clear hb
          clear ha
          rcases hret with h0 | ⟨h0, h1⟩
          · go_wp2_with ((with_reducible refine pk_load (w2.heap.size) (ansPk false c) ?x12 HGp3.out ?a12 ?b12 ?c12 ?d12); (case a12 => rfl); (case b12 => rfl); (case c12 => rfl))
            refine (ansB_t 4 false c HCB.out _).mono ?_
            rintro e w4 ⟨rfl, hb⟩
            have HB4 := Lib.hid (ext_then' HB3.out hb)
            have HGp4 := Lib.hid (row_then HGp3.out hb)
            clear hb HB3 HGp3
            rw [H4.out]
            go_wp2_with ((with_reducible refine pk_load (w2.heap.size) (ansPk false c) ?x13 HGp4.out ?a13 ?b13 ?c13 ?d13); (case a13 => rfl); (case b13 => rfl); (case c13 => rfl))
            refine (ansB_t 5 false c HCB.out _).mono ?_
            rintro e w5 ⟨rfl, hb⟩
            have HB5 := Lib.hid (ext_then' HB4.out hb)
            have HGp5 := Lib.hid (row_then HGp4.out hb)
            clear hb HB4 HGp4
            rw [H5.out]
            clear H4 H5
            go_wp2
            go_ret
            exact ⟨rfl, HB5.out⟩
          · go_wp2_with ((with_reducible refine pk_load (w2.heap.size) (ansPk false c) ?x14 HGp3.out ?a14 ?b14 ?c14 ?d14); (case a14 => rfl); (case b14 => rfl); (case c14 => rfl))
            refine (ansB_t 4 false c HCB.out _).mono ?_
            rintro e w4 ⟨rfl, hb⟩
            have HB4 := Lib.hid (ext_then' HB3.out hb)
            have HGp4 := Lib.hid (row_then HGp3.out hb)
            clear hb HB3 HGp3
            rw [H4.out]
            go_wp2_with ((with_reducible refine pk_load (w2.heap.size) (ansPk false c) ?x15 HGp4.out ?a15 ?b15 ?c15 ?d15); (case a15 => rfl); (case b15 => rfl); (case c15 => rfl))
            refine (ansB_t 5 false c HCB.out _).mono ?_
            rintro e w5 ⟨rfl, hb⟩
            have HB5 := Lib.hid (ext_then' HB4.out hb)
            have HGp5 := Lib.hid (row_then HGp4.out hb)
            clear hb HB4 HGp4
            rw [H5.out]
            clear H4 H5
            go_wp2
            go_ret
            exact ⟨rfl, HB5.out⟩
      · cases hm : mayB 2 c
        · have hret : decide (0 ≤ c) = true ∧ decide (c ≤ 5) = true := by unfold returnB at hr; simpa using hr
          have H4 : Hid (connB 4 (ansPk false c) [] [] = (ackFirst (ansPk false c) ++ be1 c, 0)) := Lib.hid (by rw [connB_ans (by decide) (by rw [ranges_ans4]; unfold codeOK; show (if returnB c = true then (if (c == 0) = true then true else !false) else false) = true; rw [hr, hz]; rfl), ans_a])
          have H5 : Hid (connB 5 (ansPk false c) [] [] = (⟨#[]⟩, 2)) := Lib.hid (connB_ansN (by decide) (by rw [ranges_ans5]; unfold codeOK; rw [hm]; rfl))
          clear hr hm
          have hsz := ans_sizes false c
          obtain ⟨a, ha⟩ : ∃ a, ackFirst (ansPk false c) ++ be1 c = a := ⟨_, rfl⟩
          rw [ha] at hsz
          rw [ha] at H4
          clear ha
          obtain ⟨h0, h1⟩ := hret
          go_wp2_with ((with_reducible refine pk_load (w2.heap.size) (ansPk false c) ?x16 HGp3.out ?a16 ?b16 ?c16 ?d16); (case a16 => rfl); (case b16 => rfl); (case c16 => rfl))
          refine (ansB_t 4 false c HCB.out _).mono ?_
          rintro e w4 ⟨rfl, hb⟩
          have HB4 := Lib.hid (ext_then' HB3.out hb)
          have HGp4 := Lib.hid (row_then HGp3.out hb)
          clear hb HB3 HGp3
          rw [H4.out]
          go_wp2_with ((with_reducible refine pk_load (w2.heap.size) (ansPk false c) ?x17 HGp4.out ?a17 ?b17 ?c17 ?d17); (case a17 => rfl); (case b17 => rfl); (case c17 => rfl))
          refine (ansB_t 5 false c HCB.out _).mono ?_
          rintro e w5 ⟨rfl, hb⟩
          have HB5 := Lib.hid (ext_then' HB4.out hb)
          have HGp5 := Lib.hid (row_then HGp4.out hb)
          clear hb HB4 HGp4
          rw [H5.out]
          clear H4 H5
          go_wp2
          go_ret
          exact ⟨rfl, HB5.out⟩
        · have hret : decide (0 ≤ c) = true ∧ decide (c ≤ 5) = true := by unfold returnB at hr; simpa using hr
          have H4 : Hid (connB 4 (ansPk false c) [] [] = (ackFirst (ansPk false c) ++ be1 c, 0)) := Lib.hid (by rw [connB_ans (by decide) (by rw [ranges_ans4]; unfold codeOK; show (if returnB c = true then (if (c == 0) = true then true else !false) else false) = true; rw [hr, hz]; rfl), ans_a])
          have H5 : Hid (connB 5 (ansPk false c) [] [] = ((ackFirst (ansPk false c) ++ be1 c) ++ ⟨#[0]⟩, 0)) := Lib.hid (by rw [connB_ans (by decide) (by rw [ranges_ans5]; unfold codeOK; show (if mayB 2 c = true then (if (c == 0) = true then true else !false) else false) = true; rw [hm, hz]; rfl), ans_b])
          clear hr hm
          have hsz := ans_sizes false c
          obtain ⟨a, ha⟩ : ∃ a, ackFirst (ansPk false c) ++ be1 c = a := ⟨_, rfl⟩
          rw [ha] at hsz
          rw [ha] at H4
          rw [ha] at H5
          obtain ⟨b, hb, hz3, hl0, ht2⟩ := b_facts a hsz
          rw [hb] at H5
          clear hb
          clear ha
          obtain ⟨h0, h1⟩ := hret
          go_wp2_with ((with_reducible refine pk_load (w2.heap.size) (ansPk false c) ?x18 HGp3.out ?a18 ?b18 ?c18 ?d18); (case a18 => rfl); (case b18 => rfl); (case c18 => rfl))
          refine (ansB_t 4 false c HCB.out _).mono ?_
          rintro e w4 ⟨rfl, hb⟩
          have HB4 := Lib.hid (ext_then' HB3.out hb)
          have HGp4 := Lib.hid (row_then HGp3.out hb)
          clear hb HB3 HGp3
          rw [H4.out]
          go_wp2_with ((with_reducible refine pk_load (w2.heap.size) (ansPk false c) ?x19 HGp4.out ?a19 ?b19 ?c19 ?d19); (case a19 => rfl); (case b19 => rfl); (case c19 => rfl))
          refine (ansB_t 5 false c HCB.out _).mono ?_
          rintro e w5 ⟨rfl, hb⟩
          have HB5 := Lib.hid (ext_then' HB4.out hb)
          have HGp5 := Lib.hid (row_then HGp4.out hb)
          clear hb HB4 HGp4
          rw [H5.out]
          clear H4 H5
          go_wp2
          go_ret
          exact ⟨rfl, HB5.out⟩
    · go_wp2_with ((with_reducible refine pk_store w2.heap.size (ansPk true c) ?x20 ?y20 _ (heap_alloc_new _ _) ?a20 ?b20 ?c20 ?d20 ?e20 ?f20); (case a20 => rfl); (case b20 => rfl); (case c20 => rfl); (case d20 => rfl); (case e20 => rfl))
      intro w3 hg hgr
      have HB3 := Lib.hid (below_store HB2.out hgr)
      have HGp3 := Lib.hid hg
      clear hg hgr HB2
      have H4 : Hid (connB 4 (ansPk true c) [] [] = (⟨#[]⟩, 2)) := Lib.hid (connB_ansN (by decide) (by rw [ranges_ans4]; unfold codeOK; show (if returnB c = true then (if (c == 0) = true then true else !true) else false) = false; rw [hz]; cases returnB c <;> rfl))
      have H5 : Hid (connB 5 (ansPk true c) [] [] = (⟨#[]⟩, 2)) := Lib.hid (connB_ansN (by decide) (by rw [ranges_ans5]; unfold codeOK; show (if mayB 2 c = true then (if (c == 0) = true then true else !true) else false) = false; rw [hz]; cases mayB 2 c <;> rfl))
      go_wp2_with ((with_reducible refine pk_load (w2.heap.size) (ansPk true c) ?x21 HGp3.out ?a21 ?b21 ?c21 ?d21); (case a21 => rfl); (case b21 => rfl); (case c21 => rfl))
      refine (ansB_t 4 true c HCB.out _).mono ?_
      rintro e w4 ⟨rfl, hb⟩
      have HB4 := Lib.hid (ext_then' HB3.out hb)
      have HGp4 := Lib.hid (row_then HGp3.out hb)
      clear hb HB3 HGp3
      rw [H4.out]
      go_wp2_with ((with_reducible refine pk_load (w2.heap.size) (ansPk true c) ?x22 HGp4.out ?a22 ?b22 ?c22 ?d22); (case a22 => rfl); (case b22 => rfl); (case c22 => rfl))
      refine (ansB_t 5 true c HCB.out _).mono ?_
      rintro e w5 ⟨rfl, hb⟩
      have HB5 := Lib.hid (ext_then' HB4.out hb)
      have HGp5 := Lib.hid (row_then HGp4.out hb)
      clear hb HB4 HGp4
      rw [H5.out]
      clear H4 H5
      cases h0 : decide (0 ≤ c)
      · go_wp2
        go_ret
        exact ⟨rfl, HB5.out⟩
      · cases h1 : decide (c ≤ 5)
        · go_wp2
          go_ret
          exact ⟨rfl, HB5.out⟩
        · go_wp2
          go_ret
          exact ⟨rfl, HB5.out⟩
end Go.Proofs.Ytnbgmpfldoaodaa
