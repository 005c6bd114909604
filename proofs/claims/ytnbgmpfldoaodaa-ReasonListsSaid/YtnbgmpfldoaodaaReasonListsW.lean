/- The law ReasonLists of chapter 6: its walk. -/
import Derived.Test.YtnbgmpfldoaodaaRefT
import Derived.Test.YtnbgmpfldoaodaaLivesR
import Derived.Lib.QuietBelow
namespace Go.Proofs.Ytnbgmpfldoaodaa
open Go.RowKit Go.Sort
set_option maxHeartbeats 2000000
set_option linter.unusedVariables false
theorem follows_mixed : Try.prog.follows .mixedOrders = true := by kernel_rfl
def okL (l : List Int) : Bool := l.getD 0 0 == 0 && (List.range (l.length - 1)).all fun k => decide (l.getD k 0 < l.getD (k + 1) 0)
theorem codesL_ok (kind : Int) : okL (codesL kind) = true := by
  unfold codesL
  repeat (first | split | decide +kernel)
theorem codesL_up (kind : Int) (k : Nat) (h : k + 1 < (codesL kind).length) : (codesL kind).getD k 0 < (codesL kind).getD (k + 1) 0 := by
  have := codesL_ok kind
  simp only [okL, Bool.and_eq_true, List.all_eq_true, List.mem_range, decide_eq_true_eq] at this
  exact this.2 k (by omega)
theorem codesL_zero (kind : Int) : (codesL kind).getD 0 0 = 0 := by
  have := codesL_ok kind
  simp only [okL, Bool.and_eq_true, beq_iff_eq] at this
  exact this.1
theorem codesL_mem (kind : Int) (k : Nat) (h : k < (codesL kind).length) : mayB kind ((codesL kind).getD k 0) = true := by
  rw [List.getD_eq_getElem?_getD, List.getElem?_eq_getElem h]
  simp [mayB]
theorem mayB_kind {kind c : Int} (h : mayB kind c = true) : 2 ≤ kind ∧ kind ≤ 15 := by
  have : codesL kind ≠ [] := by intro e; simp [mayB, e] at h
  unfold codesL at this
  repeat (first | omega | (split at this) | (exact absurd rfl this))
theorem text_some {kind c : Int} (h : mayB kind c = true) : textS c = ⟨#[hexd (c / 16), hexd (c % 16)]⟩ := by
  rw [textS, if_pos]
  obtain ⟨h0, h1⟩ := mayB_kind h
  refine any_more c ((kind - 2).toNat + 1) (by omega) ?_
  rw [anyTo_succ, show (2 + ((kind - 2).toNat : Int)) = kind from by omega, h]
  simp
theorem bytes_ne {s : ByteArray} {x y : UInt8} (h : s ≠ ⟨#[x, y]⟩) : (!([x, y] == s.toList)) = true := by
  rw [ByteArray.toList_eq]
  simp only [Bool.not_eq_true', beq_eq_false_iff_ne, ne_eq]
  intro e
  apply h
  cases s with
  | mk d => simp only [ByteArray.mk.injEq]; apply Array.toList_inj.1; rw [← e]
theorem hexd_inj {i j : Int} (hi0 : 0 ≤ i) (hi : i < 16) (hj0 : 0 ≤ j) (hj : j < 16) (h : hexd i = hexd j) : i = j := by
  obtain ⟨n, rfl⟩ := Int.eq_ofNat_of_zero_le hi0
  obtain ⟨m, rfl⟩ := Int.eq_ofNat_of_zero_le hj0
  have := (show ∀ n m : Fin 16, hexd n.val = hexd m.val → n = m from by decide +kernel) ⟨n, by omega⟩ ⟨m, by omega⟩ h
  simp only [Fin.mk.injEq] at this
  omega
theorem anyTo_range {k : Nat} {c : Int} (h : anyTo k c = true) : 0 ≤ c ∧ c < 256 := by
  simp only [anyTo, List.any_eq_true] at h
  obtain ⟨x, _, hh⟩ := h
  exact mayB_range hh
theorem text_inj {a b : Int} (h : anyTo 14 a = true) (hab : a ≠ b) : textS b ≠ ⟨#[hexd (a / 16), hexd (a % 16)]⟩ := by
  intro e
  unfold textS at e
  split at e
  · rename_i hb
    obtain ⟨a0, a1⟩ := anyTo_range h
    obtain ⟨b0, b1⟩ := anyTo_range hb
    simp only [ByteArray.mk.injEq] at e
    have e1 := congrArg Array.toList e
    simp only [List.cons.injEq, and_true] at e1
    have h1 := hexd_inj (by omega) (by omega) (by omega) (by omega) e1.1
    have h2 := hexd_inj (by omega) (by omega) (by omega) (by omega) e1.2
    omega
  · simp at e
set_option maxRecDepth 100000 in
theorem lists_t (kind a b : Int) (wf1 : (Lit.int .i64 kind).wf = true) (wf2 : (Lit.int .i64 a).wf = true) (wf3 : (Lit.int .i64 b).wf = true) (w : World) : Calls Try.prog 4 #[.int .i64 kind, .int .i64 a, .int .i64 b] w fun e w' => e = .returned (.bool true) ∧ Below w.heap.size w w' := by
  clear wf1 wf2 wf3
  have HB0 := Lib.hid (Below.refl w.heap.size w)
  go_enter Try.func4, Try.ntmps4
  go_wp2_with fail
  refine (lives06_t _).mono ?_
  rintro e w1 ⟨rfl, hb⟩
  have HB1 := Lib.hid (ext_then (w := w) (by repeat (first | exact HB0.out | refine Below.drew ?_ | (refine Below.alloc ?_ (by first | exact (HB0.out).size | (simp; done) | (have := (HB0.out).size; simp; omega)) _) | (refine Below.setCell ?_ (by first | (simp; done) | (have := (HB0.out).size; simp; omega)) _))) hb)
  clear hb HB0
  go_wp2_with fail
  refine (all_t kind _).mono ?_
  rintro e w2 ⟨v1, rfl, ho1, hb⟩
  rw [codesTo_all] at ho1
  have HB2 := Lib.hid (ext_then HB1.out hb)
  obtain ⟨A, cp, rfl, hri⟩ := own_RI ho1
  have HR := Lib.hid hri
  clear hb HB1 ho1 hri
  have hln : (codesL kind).length ≤ 100 := codesL_len kind
  go_wp2
  go_loopw [8, 9] (fun v8 v9 wr => ∃ k : Nat, k ≤ (codesL kind).length ∧ v9 = .int .i64 k ∧ v8 = .bool (((codesL kind).take k).contains a) ∧ Below w2.heap.size w2 wr) (fun _ v9 _ => (codesL kind).length - (intOf v9).toNat)
  case atStart => exact ⟨0, by omega, rfl, rfl, Below.refl _ _⟩
  case round =>
    obtain ⟨k, hk, rfl, rfl, hbel⟩ := hrel
    have HBL := Lib.hid hbel
    by_cases hlt : k < (codesL kind).length
    · have HM := Lib.hid (codesL_mem kind k hlt)
      have HU := Lib.hid (codesL_up kind (k - 1))
      have HZ := Lib.hid (codesL_zero kind)
      have HC := Lib.hid (contains_snoc (codesL kind) k hlt a)
      obtain ⟨bk, off, rfl, hbl, hcell⟩ := (RI_below HR.out hbel).2.2 (by omega)
      have c1 := hcell k hlt
      have c0 := hcell (k - 1) (by omega)
      clear hcell hbel
      generalize hl : codesL kind = l at *
      have hT := text_some HM.out
      obtain ⟨hx0, hx1⟩ := mayB_range HM.out
      by_cases hk0 : k = 0
      · subst hk0
        have hxz : l.getD 0 0 = 0 := HZ.out
        simp only [Nat.add_zero] at c1
        rw [hxz] at c1 hT hx0 hx1
        have k1 := cell_regrown c1
        have hm0 : mayB kind 0 = true := by have := HM.out; rw [hxz] at this; exact this
        have cM : ∀ d os, Calls Try.prog 17 #[.int .i64 kind, .int .i64 0] (grow (redrawn wr d) os) fun e w'' => e = .returned (.bool true) ∧ ∃ p : Regrown, w'' = grow (redrawn wr p.d) p.os := fun d os => Calls.regrown_of (by have := may_t kind 0 (grow (redrawn wr d) os); rw [hm0] at this; exact this)
        have cT : ∀ d os, Calls Try.prog 20 #[.int .i64 0] (grow (redrawn wr d) os) fun e w'' => e = .returned (.string ⟨#[48, 48]⟩) ∧ ∃ p : Regrown, w'' = grow (redrawn wr p.d) p.os := fun d os => Calls.regrown_of (by have := text_t 0 (grow (redrawn wr d) os); rw [hT] at this; exact this)
        have HM0 := Lib.hid cM
        have HT0 := Lib.hid cT
        clear cM cT hT hm0 c0 hxz c1 hx0 hx1
        go_wp2
        refine wp_region_quiet_below follows_mixed (by kernel_rfl) ?_
        repeat (go_big_quiet_step (first | (go_at_call 17; exact HM0.out _ _) | (go_at_call 20; exact HT0.out _ _)))
        refine wpQuiet_nil ?_
        intro _ hw'
        obtain ⟨⟨dq, osq⟩, hw''⟩ := hw'
        subst hw''
        have c1q := k1 dq osq
        have HBQ := Lib.hid (ext_then HBL.out (below_regrown wr dq osq))
        clear k1 HM0 HT0
        generalize grow (redrawn wr dq) osq = wq at *
        by_cases ha : 0 = a
        · subst ha
          go_wp2
          go_roundw
          case rel => exact ⟨1, by omega, by go_num, by rw [HC.out, HZ.out]; rfl, HBQ.out⟩
          case measure => simp [intOf]; omega
        · have ha' : ((0 : Int) == a) = false := by simpa using ha
          go_wp2
          go_roundw
          case rel => exact ⟨1, by omega, by go_num, by rw [HC.out, HZ.out, ha']; rfl, HBQ.out⟩
          case measure => simp [intOf]; omega
      · obtain ⟨j, rfl⟩ : ∃ j, k = j + 1 := ⟨k - 1, by omega⟩
        clear hk0
        have hup : l.getD j 0 < l.getD (j + 1) 0 := HU.out hlt
        simp only [Nat.add_sub_cancel] at c0
        have HM1 := HM.out
        generalize l.getD (j + 1) 0 = x at *
        generalize l.getD j 0 = y at *
        have k1 := cell_regrown c1
        have k0 := cell_regrown c0
        have cM : ∀ d os, Calls Try.prog 17 #[.int .i64 kind, .int .i64 x] (grow (redrawn wr d) os) fun e w'' => e = .returned (.bool true) ∧ ∃ p : Regrown, w'' = grow (redrawn wr p.d) p.os := fun d os => Calls.regrown_of (by have := may_t kind x (grow (redrawn wr d) os); rw [HM1] at this; exact this)
        have cT : ∀ d os, Calls Try.prog 20 #[.int .i64 x] (grow (redrawn wr d) os) fun e w'' => e = .returned (.string ⟨#[hexd (x / 16), hexd (x % 16)]⟩) ∧ ∃ p : Regrown, w'' = grow (redrawn wr p.d) p.os := fun d os => Calls.regrown_of (by have := text_t x (grow (redrawn wr d) os); rw [hT] at this; exact this)
        have HM0 := Lib.hid cM
        have HT0 := Lib.hid cT
        have g1 : ((j : Int) + 1 == 0) = false := by simp; omega
        have g2 : decide (x ≤ y) = false := by simp; omega
        have g3 : decide (x < 0) = false := by simp; omega
        have g4 : decide (255 < x) = false := by simp; omega
        clear cM cT hT HM1 c0 c1
        go_wp2
        refine wp_region_quiet_below follows_mixed (by kernel_rfl) ?_
        repeat (go_big_quiet_step (first | (go_at_call 17; exact HM0.out _ _) | (go_at_call 20; exact HT0.out _ _)))
        refine wpQuiet_nil ?_
        intro _ hw'
        obtain ⟨⟨dq, osq⟩, hw''⟩ := hw'
        subst hw''
        have c1q := k1 dq osq
        have HBQ := Lib.hid (ext_then HBL.out (below_regrown wr dq osq))
        clear k1 k0 HM0 HT0
        generalize grow (redrawn wr dq) osq = wq at *
        generalize hcn : (List.take (j + 1) l).contains a = cb at *
        have HN := Lib.hid hcn
        clear hcn
        by_cases ha : x = a
        · subst ha
          cases cb
          · go_wp2
            go_roundw
            case rel => exact ⟨j + 1 + 1, by omega, by go_num, by rw [HC.out]; simp, HBQ.out⟩
            case measure => simp [intOf]; omega
          · go_wp2
            go_roundw
            case rel => exact ⟨j + 1 + 1, by omega, by go_num, by rw [HC.out]; simp, HBQ.out⟩
            case measure => simp [intOf]; omega
        · have ha' : (x == a) = false := by simpa using ha
          cases cb
          · go_wp2
            go_roundw
            case rel => exact ⟨j + 1 + 1, by omega, by go_num, by rw [HC.out, ha']; rfl, HBQ.out⟩
            case measure => simp [intOf]; omega
          · go_wp2
            go_roundw
            case rel => exact ⟨j + 1 + 1, by omega, by go_num, by rw [HC.out]; simp, HBQ.out⟩
            case measure => simp [intOf]; omega
    · have hkk : k = (codesL kind).length := by omega
      have hcn : ((codesL kind).take k).contains a = mayB kind a := by rw [hkk, List.take_length]; rfl
      rw [hcn]
      have HBW := Lib.hid (ext_then HB2.out hbel)
      clear hcn hbel HBL HR HB2
      go_wp2_with fail
      refine (may_t kind a _).mono ?_
      rintro e w3 ⟨rfl, hb⟩
      have HB3 := Lib.hid (ext_then HBW.out hb)
      have hne : (mayB kind a != mayB kind a) = false := by simp
      clear hb HBW hkk
      generalize mayB kind a = mb at *
      clear hlt hk hln
      go_wp2
      go_loopw [10, 11] (fun v10 v11 wr => ∃ k : Nat, k ≤ 15 ∧ v11 = .int .i64 (1 + (k : Int)) ∧ v10 = .bool (anyTo1 k a) ∧ Below w.heap.size w wr) (fun _ v11 _ => (16 - intOf v11).toNat)
      case atStart => exact ⟨0, by omega, rfl, rfl, HB3.out⟩
      case round =>
        obtain ⟨k, hk, rfl, rfl, hbel⟩ := hrel
        have HB4 := Lib.hid hbel
        clear hbel
        by_cases hlt : k < 15
        · have HA := Lib.hid (anyTo1_succ k a)
          cases hany : anyTo1 k a with
          | true =>
            have HN : Hid (anyTo1 (k + 1) a = true) := Lib.hid (by rw [HA.out, hany]; rfl)
            clear hany
            go_wp2
            go_roundw
            case rel => exact ⟨k + 1, by omega, by go_num, by rw [HN.out], HB4.out⟩
            case measure => simp [intOf]; omega
          | false =>
            have HN : Hid (anyTo1 (k + 1) a = mayB (1 + (k : Int)) a) := Lib.hid (by rw [HA.out, hany]; rfl)
            clear hany
            go_wp2_with fail
            refine (may_t (1 + (k : Int)) a _).mono ?_
            rintro e w5 ⟨rfl, hb⟩
            have HB5 := Lib.hid (ext_then HB4.out hb)
            clear hb
            go_wp2
            go_roundw
            case rel => exact ⟨k + 1, by omega, by go_num, by rw [HN.out], HB5.out⟩
            case measure => simp [intOf]; omega
        · have hk15 : k = 15 := by omega
          rw [hk15, anyTo1_is]
          clear hk15 hk
          cases hany : anyTo 14 a with
          | false =>
            have hT : textS a = ⟨#[63]⟩ := by simp [textS, hany]
            go_wp2_with fail
            refine (text_t a _).mono ?_
            rintro e w5 ⟨rfl, hb⟩
            rw [hT]
            have HB5 := Lib.hid (ext_then HB4.out hb)
            clear hb hT
            go_wp2
            go_ret
            exact ⟨rfl, HB5.out⟩
          | true =>
            have hT : textS a = ⟨#[hexd (a / 16), hexd (a % 16)]⟩ := by simp [textS, hany]
            have HT := Lib.hid hT
            go_wp2_with fail
            refine (text_t a _).mono ?_
            rintro e w5 ⟨rfl, hb⟩
            rw [hT]
            have HB5 := Lib.hid (ext_then HB4.out hb)
            clear hb hT
            by_cases hab : a = b
            · subst hab
              go_wp2
              go_ret
              exact ⟨rfl, HB5.out⟩
            · have hab' : (a == b) = false := by simpa using hab
              go_wp2_with fail
              refine (text_t a _).mono ?_
              rintro e w6 ⟨rfl, hb⟩
              rw [HT.out]
              have HB6 := Lib.hid (ext_then HB5.out hb)
              clear hb
              go_wp2_with fail
              refine (text_t b _).mono ?_
              rintro e w7 ⟨rfl, hb⟩
              have HB7 := Lib.hid (ext_then HB6.out hb)
              have HF := Lib.hid (text_inj hany hab)
              clear hb
              generalize textS b = sb at *
              go_wp2
              go_ret
              exact ⟨by rw [← bytes_ne HF.out]; rfl, HB7.out⟩
end Go.Proofs.Ytnbgmpfldoaodaa
