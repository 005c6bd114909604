/- The law AckCodes of chapter 10: its walk. -/
import Derived.Test.YtnbgmpfldoaodaaAckC
import Derived.Test.YtnbgmpfldoaodaaRefR
namespace Go.Proofs.Ytnbgmpfldoaodaa
open Go.RowKit Go.Sort
set_option maxHeartbeats 2000000
set_option linter.unusedVariables false
set_option linter.unusedSimpArgs false
theorem pack_store {ops : Array Oper} {rest : List Oper} {o : Oper} {a : Act} {w : World} {Q : Exit → Act → World → Prop} (g : Nat) (p : Pk) (x y : Operand) (old : Array Value) (hg : w.heap[g]? = some (.cells old 39 (0, 0))) (hs : old.size = 25)
    (hgd : o.guard = none) (ho : o.op = .store 39 x y) (hx : a.eval x = .pointer (some ⟨g, 0, none⟩)) (hy : a.eval y = .agg (packC p))
    (h : ∀ w', w'.heap[g]? = some (.cells (packC p) 39 (0, 0)) → Below g w w' → w.heap.size = w'.heap.size → wpList Try.prog ops Q rest (a.put o.dst undef) w') : wpList Try.prog ops Q (o :: rest) a w :=
  wpList_store_row hgd _ x y ho g (packC p) hx hy _ old hg (si_packC p) hs (by simp [packC, Value.oneCell'])
    (h _ (setRow_heap w g old _ _ _ hg) ⟨rfl, rfl, rfl, by simp, fun k hk => setRow_other w g k _ (by omega)⟩ (by simp))
theorem may0 {k : Int} (h0 : 0 ≤ k) (h1 : k < 4) : mayB (4 + k) 0 = true := by
  obtain rfl | rfl | rfl | rfl : k = 0 ∨ k = 1 ∨ k = 2 ∨ k = 3 := by omega
  all_goals decide +kernel
theorem below_drawn {w w1 : World} (h : Below w.heap.size w w1) (n : Nat) : Below w.heap.size w { w1 with drawn := n } := ⟨h.os, h.tape, h.output, h.size, h.block⟩
theorem three_bytes {id code : Int} (h0 : 0 ≤ id) (h1 : id < 65536) (c0 : 0 ≤ code) (c1 : code < 256) : ∃ s : ByteArray, be2 id ++ be1 code = s ∧ ∃ n0 n1 n2 : Nat, ∃ hz : s.size = 3, (s[0]'(by omega)).toNat = n0 ∧ (s[1]'(by omega)).toNat = n1 ∧ (s[2]'(by omega)).toNat = n2 ∧ n0 < 256 ∧ n1 < 256 ∧ n2 < 256 ∧ ((n0 : Int) * 256 + n1 == id) = true ∧ ((n2 : Int) == code) = true := by
  obtain ⟨i, rfl⟩ := Int.eq_ofNat_of_zero_le h0
  obtain ⟨c, rfl⟩ := Int.eq_ofNat_of_zero_le c0
  refine ⟨_, rfl, i / 256, i % 256, c, by simp [be2, be1, strOfNums_size, ByteArray.size_append], ?_, ?_, ?_, by omega, by omega, by omega, by simp; omega, by simp⟩
  · show (UInt8.ofNat ((i : Int) / 256 % 256).toNat).toNat = i / 256
    rw [UInt8.toNat_ofNat']; omega
  · show (UInt8.ofNat ((i : Int) % 256).toNat).toNat = i % 256
    rw [UInt8.toNat_ofNat']; omega
  · show (UInt8.ofNat ((c : Int) % 256).toNat).toNat = c
    rw [UInt8.toNat_ofNat']; omega
set_option maxRecDepth 100000 in
theorem ackCodes_t (kind id code : Int) (wf1 : (Lit.int .i64 kind).wf = true) (wf2 : (Lit.int .u16 id).wf = true) (wf3 : (Lit.int .i64 code).wf = true) (w : World) :
    Calls Try.prog 7 #[.int .i64 kind, .int .u16 id, .int .i64 code] w fun e w' => e = .returned (.bool true) ∧ Below w.heap.size w w' := by
  have hid : 0 ≤ id ∧ id < 65536 := by
    have h : IntKind.u16.min ≤ id ∧ id ≤ IntKind.u16.max := by simpa [Lit.wf] using wf2
    have e1 : IntKind.u16.min = 0 := rfl
    have e2 : IntKind.u16.max = 65535 := rfl
    omega
  obtain ⟨hid0, hid1⟩ := hid
  have hpk := pick4_range kind
  obtain ⟨hk0, hk1⟩ := hpk
  clear wf1 wf2 wf3
  have HB0 := Lib.hid (Below.refl w.heap.size w)
  go_enter Try.func7, Try.ntmps7
  go_wp2_with fail
  refine (lives10_t _).mono ?_
  rintro e w1 ⟨rfl, hb⟩
  have HB1 := Lib.hid (ext_then' (w := w) (by repeat (first | exact HB0.out | refine Below.drew ?_ | (refine Below.alloc ?_ (by first | exact (HB0.out).size | (simp; done) | (have := (HB0.out).size; simp; omega)) _) | (refine Below.setCell ?_ (by first | (simp; done) | (have := (HB0.out).size; simp; omega)) _))) hb)
  clear hb HB0
  go_wp2_with fail
  refine (pick4_t kind _).mono ?_
  rintro e w2 ⟨rfl, rfl⟩
  generalize hk : pick4 kind = k at *
  clear hk
  go_wp2_with ((with_reducible refine pack_store w2.heap.size (codePk (4 + k) id code) (.tmp 7) (.tmp 20) _ (heap_alloc_new _ _) ?a1 ?a2 ?a3 ?a4 ?a5 ?a6); (case a1 => rfl); (case a2 => rfl); (case a3 => rfl); (case a4 => rfl); (case a5 => rfl))
  intro w3 hg hb hsz3
  have HB3 : Hid (Below w.heap.size w w3) := Lib.hid ((HB1.out.alloc HB1.out.size _).trans ⟨hb.os, hb.tape, hb.output, hb.size, fun i hi => hb.block i (by have := HB1.out.size; omega)⟩)
  have HG3 := Lib.hid hg
  clear hg hb hsz3 HB1
  generalize w2.heap.size = g at *
  clear w2
  have hkn5 : knownA 5 (4 + k) = true := by simp [knownA]; omega
  have hkn4 : knownA 4 (4 + k) = true := by simp [knownA]; omega
  have hm0 : mayB (4 + k) 0 = true := may0 hk0 hk1
  have hcs : id = 0 ∨ (0 < id ∧ mayB (4 + k) code = false ∧ code ≠ 0) ∨ (0 < id ∧ code = 0) ∨ (0 < id ∧ mayB (4 + k) code = true ∧ code ≠ 0) := by
    by_cases h1 : id = 0
    · exact Or.inl h1
    · by_cases h2 : code = 0
      · exact Or.inr (Or.inr (Or.inl ⟨by omega, h2⟩))
      · cases h3 : mayB (4 + k) code
        · exact Or.inr (Or.inl ⟨by omega, rfl, h2⟩)
        · exact Or.inr (Or.inr (Or.inr ⟨by omega, rfl, h2⟩))
  rcases hcs with rfl | ⟨h1, h2, h3⟩ | ⟨h1, rfl⟩ | ⟨h1, h2, h3⟩
  · have H5 : Hid (ackB 5 (codePk (4 + k) 0 code) [] = (⟨#[]⟩, 2)) := Lib.hid (by rw [ackB_code, if_neg (by simp [okC])])
    have H4 : Hid (ackB 4 (codePk (4 + k) 0 code) [] = (⟨#[]⟩, 2)) := Lib.hid (by rw [ackB_code, if_neg (by simp [okC])])
    clear hkn5 hkn4 hm0
    go_wp2_with ((with_reducible refine pack_load g (codePk (4 + k) 0 code) (.tmp 7) HG3.out ?pA ?qA ?rA ?sA); (case pA => rfl); (case qA => rfl); (case rA => rfl))
    refine (codeB_t 5 (4 + k) 0 code _).mono ?_
    rw [H5.out]
    rintro e w4 ⟨rfl, hb⟩
    have HB4 := Lib.hid (ext_then' HB3.out hb)
    have HG4 := Lib.hid (row_then HG3.out hb)
    clear hb HB3 HG3 H5
    go_wp2_with ((with_reducible refine pack_load g (codePk (4 + k) 0 code) (.tmp 7) HG4.out ?tA ?uA ?vA ?xA); (case tA => rfl); (case uA => rfl); (case vA => rfl))
    refine (codeB_t 4 (4 + k) 0 code _).mono ?_
    rw [H4.out]
    rintro e w5 ⟨rfl, hb⟩
    have HB5 := Lib.hid (ext_then' HB4.out hb)
    have HG5 := Lib.hid (row_then HG4.out hb)
    clear hb HB4 HG4 H4
    clear HG5
    go_wp2
    go_quiet (fail)
    go_wp2
    go_ret
    exact ⟨rfl, below_drawn HB5.out _⟩
  · have H5 : Hid (ackB 5 (codePk (4 + k) id code) [] = (⟨#[]⟩, 2)) := Lib.hid (by rw [ackB_code, if_neg (by simp [okC, h2])])
    have H4 : Hid (ackB 4 (codePk (4 + k) id code) [] = (⟨#[]⟩, 2)) := Lib.hid (by rw [ackB_code, if_neg (by simp [okC, h2])])
    have hz : (code == 0) = false := by simpa using h3
    have hi : decide (0 < id) = true := by simpa using h1
    have H2 := Lib.hid h2
    clear hkn5 hkn4 hm0 h2 h3
    go_wp2_with ((with_reducible refine pack_load g (codePk (4 + k) id code) (.tmp 7) HG3.out ?pB ?qB ?rB ?sB); (case pB => rfl); (case qB => rfl); (case rB => rfl))
    refine (codeB_t 5 (4 + k) id code _).mono ?_
    rw [H5.out]
    rintro e w4 ⟨rfl, hb⟩
    have HB4 := Lib.hid (ext_then' HB3.out hb)
    have HG4 := Lib.hid (row_then HG3.out hb)
    clear hb HB3 HG3 H5
    go_wp2_with ((with_reducible refine pack_load g (codePk (4 + k) id code) (.tmp 7) HG4.out ?tB ?uB ?vB ?xB); (case tB => rfl); (case uB => rfl); (case vB => rfl))
    refine (codeB_t 4 (4 + k) id code _).mono ?_
    rw [H4.out]
    rintro e w5 ⟨rfl, hb⟩
    have HB5 := Lib.hid (ext_then' HB4.out hb)
    have HG5 := Lib.hid (row_then HG4.out hb)
    clear hb HB4 HG4 H4
    have c0 : w5.cell? ⟨g, 0, none⟩ = some (.int .i64 (4 + k)) := pack_at HG5.out 0 _ rfl
    go_wp2_with fail
    refine (rmay_t (4 + k) code _).mono ?_
    rw [H2.out]
    rintro e w6 ⟨rfl, hb⟩
    have HB6 := Lib.hid (ext_then' HB5.out hb)
    clear hb HB5 HG5 c0
    go_wp2
    go_quiet (fail)
    go_wp2
    go_ret
    exact ⟨rfl, below_drawn HB6.out _⟩
  · have H5 : Hid (ackB 5 (codePk (4 + k) id 0) [] = (be2 id, 0)) := Lib.hid (by rw [ackB_code, if_pos (by simp [okC, hkn5, hm0, h1, hid1]), if_pos rfl])
    have H4 : Hid (ackB 4 (codePk (4 + k) id 0) [] = (be2 id, 0)) := Lib.hid (by rw [ackB_code, if_pos (by simp [okC, hkn4, hm0, h1, hid1]), if_pos rfl])
    have hi : decide (0 < id) = true := by simpa using h1
    have hz2 : (be2 id).size = 2 := by simp [be2, strOfNums_size]
    have H2 := Lib.hid hm0
    clear hkn5 hkn4 hm0
    go_wp2_with ((with_reducible refine pack_load g (codePk (4 + k) id 0) (.tmp 7) HG3.out ?pC ?qC ?rC ?sC); (case pC => rfl); (case qC => rfl); (case rC => rfl))
    refine (codeB_t 5 (4 + k) id 0 _).mono ?_
    rw [H5.out]
    rintro e w4 ⟨rfl, hb⟩
    have HB4 := Lib.hid (ext_then' HB3.out hb)
    have HG4 := Lib.hid (row_then HG3.out hb)
    clear hb HB3 HG3 H5
    go_wp2_with ((with_reducible refine pack_load g (codePk (4 + k) id 0) (.tmp 7) HG4.out ?tC ?uC ?vC ?xC); (case tC => rfl); (case uC => rfl); (case vC => rfl))
    refine (codeB_t 4 (4 + k) id 0 _).mono ?_
    rw [H4.out]
    rintro e w5 ⟨rfl, hb⟩
    have HB5 := Lib.hid (ext_then' HB4.out hb)
    have HG5 := Lib.hid (row_then HG4.out hb)
    clear hb HB4 HG4 H4
    have c0 : w5.cell? ⟨g, 0, none⟩ = some (.int .i64 (4 + k)) := pack_at HG5.out 0 _ rfl
    go_wp2_with fail
    refine (rmay_t (4 + k) 0 _).mono ?_
    rw [H2.out]
    rintro e w6 ⟨rfl, hb⟩
    have HB6 := Lib.hid (ext_then' HB5.out hb)
    clear hb HB5 HG5 c0
    generalize be2 id = s at *
    go_wp2
    go_quiet (fail)
    go_wp2
    go_ret
    exact ⟨rfl, below_drawn HB6.out _⟩
  · have H5 : Hid (ackB 5 (codePk (4 + k) id code) [] = (be2 id ++ be1 code, 0)) := Lib.hid (by rw [ackB_code, if_pos (by simp [okC, hkn5, h2, h1, hid1]), if_neg h3])
    have H4 : Hid (ackB 4 (codePk (4 + k) id code) [] = (⟨#[]⟩, 2)) := Lib.hid (by rw [ackB_code, if_neg (by simp [okC, h3])])
    obtain ⟨hx0, hx1⟩ := mayB_range' h2
    have hi : decide (0 < id) = true := by simpa using h1
    have hz : (code == 0) = false := by simpa using h3
    obtain ⟨n0, n1, n2, hz3, b0, b1, b2, hn0, hn1, hn2, hdi, hdc⟩ := three_bytes hid0 hid1 hx0 hx1
    have H2 := Lib.hid h2
    clear hkn5 hkn4 hm0 h2 h3
    go_wp2_with ((with_reducible refine pack_load g (codePk (4 + k) id code) (.tmp 7) HG3.out ?pD ?qD ?rD ?sD); (case pD => rfl); (case qD => rfl); (case rD => rfl))
    refine (codeB_t 5 (4 + k) id code _).mono ?_
    rw [H5.out]
    rintro e w4 ⟨rfl, hb⟩
    have HB4 := Lib.hid (ext_then' HB3.out hb)
    have HG4 := Lib.hid (row_then HG3.out hb)
    clear hb HB3 HG3 H5
    go_wp2_with ((with_reducible refine pack_load g (codePk (4 + k) id code) (.tmp 7) HG4.out ?tD ?uD ?vD ?xD); (case tD => rfl); (case uD => rfl); (case vD => rfl))
    refine (codeB_t 4 (4 + k) id code _).mono ?_
    rw [H4.out]
    rintro e w5 ⟨rfl, hb⟩
    have HB5 := Lib.hid (ext_then' HB4.out hb)
    have HG5 := Lib.hid (row_then HG4.out hb)
    clear hb HB4 HG4 H4
    have c0 : w5.cell? ⟨g, 0, none⟩ = some (.int .i64 (4 + k)) := pack_at HG5.out 0 _ rfl
    go_wp2_with fail
    refine (rmay_t (4 + k) code _).mono ?_
    rw [H2.out]
    rintro e w6 ⟨rfl, hb⟩
    have HB6 := Lib.hid (ext_then' HB5.out hb)
    clear hb HB5 HG5 c0
    generalize be2 id ++ be1 code = s at *
    go_wp2
    go_quiet (fail)
    go_wp2
    go_ret
    exact ⟨rfl, below_drawn HB6.out _⟩
end Go.Proofs.Ytnbgmpfldoaodaa
