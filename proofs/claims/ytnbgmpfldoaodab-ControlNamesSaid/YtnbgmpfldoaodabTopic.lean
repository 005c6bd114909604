/- topic.Name: strings.ContainsAny at "+#". -/
import Derived.Test.YtnbgmpfldoaodabCheck
import Derived.Test.YtnbgmpfldoaodabShelf
import Derived.RegionTactic
import Derived.ChangeAlike
import Derived.Deep.QuietTactic
import Derived.BigQuiet
import Derived.Lib.OthersKept
import Derived.Lib.DecodeN
namespace Go.Proofs.Ytnbgmpfldoaodab
open Go.RowKit
set_option maxHeartbeats 2000000
set_option linter.unusedVariables false
def ph : ByteArray := ⟨#[43, 35]⟩
theorem below_drewN (w : World) (n : Nat) : Below w.heap.size w (w.drewN n) := ⟨rfl, rfl, rfl, Nat.le_refl _, fun _ _ => rfl⟩
theorem run_rune (c : Nat) (w : World) : (convert 21 9 (.int .i32 c)).run Try.prog w = .ok (.string (Utf8.encode c)) w := by
  simp [go_sem]
set_option maxRecDepth 100000 in
theorem idxr_bad (c : Nat) (w : World) (h0 : 128 ≤ c) (h1 : c ≤ 1114111) (h2 : c ≠ 65533) (hv : Lib.validRune c = false) :
    Calls Try.prog 95 #[.string ⟨#[43, 35]⟩, .int .i32 c] w fun e w' => e = .returned (.int .i64 (-1)) ∧ Below w.heap.size w w' := by
  have g0 : decide ((c : Int) < 128) = false := by simp; omega
  have g1 : ((c : Int) == 65533) = false := by simp; omega
  have HV := Lib.hid hv
  clear h2 hv
  go_enter Try.func95, Try.ntmps95
  go_wp2_with fail
  refine (Try.utf8_ValidRune _ _).mono ?_
  rintro e w1 ⟨rfl, rfl⟩
  rw [HV.out]
  go_wp2
  go_ret
  exact ⟨rfl, Below.refl _ _⟩
set_option maxRecDepth 1000000 in
theorem idxr_two (c : Nat) (w : World) (h0 : 128 ≤ c) (h1 : c ≤ 1114111) (h2 : c ≠ 65533) (hv : Lib.validRune c = true) (rs : ByteArray) (hr : Utf8.encode c = rs) (hs : rs.size = 2) (hl : ((((⟨#[43, 35]⟩ : ByteArray)[1]'(by decide)).toNat : Int) != ((rs[1]'(by omega)).toNat : Int)) = true) :
    Calls Try.prog 95 #[.string ⟨#[43, 35]⟩, .int .i32 c] w fun e w' => e = .returned (.int .i64 (-1)) ∧ Below w.heap.size w w' := by
  have g0 : decide ((c : Int) < 128) = false := by simp; omega
  have g1 : ((c : Int) == 65533) = false := by simp; omega
  have HV := Lib.hid hv
  have hcv := fun w => run_rune c w
  rw [hr] at hcv
  clear h2 hv hr
  go_enter Try.func95, Try.ntmps95
  go_wp2_with fail
  refine (Try.utf8_ValidRune _ _).mono ?_
  rintro e w1 ⟨rfl, rfl⟩
  rw [HV.out]
  go_wp2_with fail
  go_step3
  go_wp2_with fail
  refine wp_loop_rounds 1 ?_
  rw [rounds_succ]
  go_wp2_with fail
  go_step3
  go_wp2_with fail
  go_quiet (fail)
  have HB := Lib.hid (below_drewN w1 nq)
  generalize w1.drewN nq = w2 at *
  go_wp2_with fail
  go_quiet ((go_at_call 102; refine Calls.quiet_of_same (Try.strings_IndexByte _ _ _)))
  go_wp2_with fail
  rw [Exit.noGoto_ret]
  go_wp2_with fail
  rw [Exit.noGoto_ret]
  go_ret
  exact ⟨rfl, ext_then' HB.out (below_drewN _ _)⟩
set_option maxRecDepth 100000 in
theorem idxr_more (c : Nat) (w : World) (h0 : 128 ≤ c) (h1 : c ≤ 1114111) (h2 : c ≠ 65533) (hv : Lib.validRune c = true) (rs : ByteArray) (hr : Utf8.encode c = rs) (k : Nat) (hk : k = 3 ∨ k = 4) (hs : rs.size = k) :
    Calls Try.prog 95 #[.string ⟨#[43, 35]⟩, .int .i32 c] w fun e w' => e = .returned (.int .i64 (-1)) ∧ Below w.heap.size w w' := by
  rcases hk with rfl | rfl
  all_goals
    have g0 : decide ((c : Int) < 128) = false := by simp; omega
    have g1 : ((c : Int) == 65533) = false := by simp; omega
    have HV := Lib.hid hv
    have hcv := fun w => run_rune c w
    rw [hr] at hcv
    clear h2 hv hr
    go_enter Try.func95, Try.ntmps95
    go_wp2_with fail
    refine (Try.utf8_ValidRune _ _).mono ?_
    rintro e w1 ⟨rfl, rfl⟩
    rw [HV.out]
    go_wp2_with fail
    go_step3
    go_wp2_with fail
    refine wp_loop_rounds 1 ?_
    rw [rounds_succ]
    go_wp2_with fail
    rw [Exit.noGoto_ret]
    go_ret
    exact ⟨rfl, Below.refl _ _⟩
set_option maxRecDepth 1000000 in
theorem idxr_err (w : World) :
    Calls Try.prog 95 #[.string ⟨#[43, 35]⟩, .int .i32 65533] w fun e w' => e = .returned (.int .i64 (-1)) ∧ Below w.heap.size w w' := by
  have hn0 : ∀ ty, (Instr.next (.pointer (some ⟨w.heap.size, 0, none⟩)) true ty).run Try.prog (w.iter ⟨#[43, 35]⟩ 0) = _ := fun ty => run_next_ascii w ⟨#[43, 35]⟩ 0 ty (by decide) (by decide)
  have hn1 : ∀ ty, (Instr.next (.pointer (some ⟨w.heap.size, 0, none⟩)) true ty).run Try.prog (w.iter ⟨#[43, 35]⟩ 1) = _ := fun ty => run_next_ascii w ⟨#[43, 35]⟩ 1 ty (by decide) (by decide)
  have hn2 : ∀ ty, (Instr.next (.pointer (some ⟨w.heap.size, 0, none⟩)) true ty).run Try.prog (w.iter ⟨#[43, 35]⟩ 2) = _ := fun ty => run_next_end w ⟨#[43, 35]⟩ 2 ty (by decide)
  rw [show ((⟨#[43, 35]⟩ : ByteArray)[0]'(by decide)).toNat = 43 from rfl] at hn0
  rw [show ((⟨#[43, 35]⟩ : ByteArray)[1]'(by decide)).toNat = 35 from rfl] at hn1
  go_enter Try.func95, Try.ntmps95
  go_wp2_with fail
  go_rounds 3
  go_ret
  exact ⟨rfl, (Below.refl _ _).alloc (Nat.le_refl _) _⟩
theorem enc_two {c : Nat} (h0 : 128 ≤ c) (h1 : c < 2048) : ∃ x y : UInt8, Utf8.encode c = ⟨#[x, y]⟩ ∧ 128 ≤ y.toNat := by
  have hv : Utf8.valid (c : Int) = true := by simp [Utf8.valid]; omega
  refine ⟨_, _, by unfold Utf8.encode; simp only [hv, if_true, Int.toNat_natCast]; rw [if_neg (by omega), if_pos (by omega)], ?_⟩
  rw [UInt8.toNat_ofNat']; omega
theorem enc_more {c : Nat} (h0 : 2048 ≤ c) (hv : Utf8.valid (c : Int) = true) : ∃ k, (k = 3 ∨ k = 4) ∧ (Utf8.encode c).size = k := by
  by_cases h : c < 65536
  · exact ⟨3, .inl rfl, by unfold Utf8.encode; simp only [hv, if_true, Int.toNat_natCast]; rw [if_neg (by omega), if_neg (by omega), if_pos (by omega)]; rfl⟩
  · exact ⟨4, .inr rfl, by unfold Utf8.encode; simp only [hv, if_true, Int.toNat_natCast]; rw [if_neg (by omega), if_neg (by omega), if_neg (by omega)]; rfl⟩
theorem idxr_hi (c : Nat) (w : World) (h0 : 128 ≤ c) (h1 : c ≤ 1114111) :
    Calls Try.prog 95 #[.string ⟨#[43, 35]⟩, .int .i32 c] w fun e w' => e = .returned (.int .i64 (-1)) ∧ Below w.heap.size w w' := by
  by_cases h2 : c = 65533
  · subst h2; exact idxr_err w
  · cases hv : Lib.validRune (c : Int)
    · exact idxr_bad c w h0 h1 h2 hv
    · by_cases h3 : c < 2048
      · obtain ⟨x, y, he, hy⟩ := enc_two h0 h3
        exact idxr_two c w h0 h1 h2 hv ⟨#[x, y]⟩ he rfl (by
          show ((35 : Nat) : Int) != (y.toNat : Int)
          simp only [bne_iff_ne, ne_eq]; omega)
      · obtain ⟨k, hk, hs⟩ := enc_more (c := c) (by omega) (by
          simp only [Lib.validRune, decide_eq_true_eq] at hv
          simp [Utf8.valid]; omega)
        exact idxr_more c w h0 h1 h2 hv _ rfl k hk hs
theorem dec_max (s : ByteArray) (pos : Nat) : (Utf8.decode s pos).1 ≤ 1114111 := by
  have hb : ∀ k, (s.get! (pos + k)).toNat < 256 := fun k => (s.get! (pos + k)).toNat_lt
  have h0 := hb 0; have h1 := hb 1; have h2 := hb 2; have h3 := hb 3
  simp only [Utf8.decode]
  repeat' split
  all_goals simp_all [Utf8.runeError, Utf8.valid]
  all_goals omega
theorem decN_conts (n b0 b1 b2 b3 : Nat) :
    (2 ≤ (Lib.decodeN n b0 b1 b2 b3).2 → b1 / 64 = 2 ∧ 1 < n) ∧ (3 ≤ (Lib.decodeN n b0 b1 b2 b3).2 → b2 / 64 = 2 ∧ 2 < n) ∧ (4 ≤ (Lib.decodeN n b0 b1 b2 b3).2 → b3 / 64 = 2 ∧ 3 < n) ∧ (Lib.decodeN n b0 b1 b2 b3).2 ≤ 4 := by
  unfold Lib.decodeN
  repeat' split
  all_goals (simp only; omega)
theorem ph_no {x : UInt8} (h : 128 ≤ x.toNat) : ([43, 35] : List UInt8).contains x = false := by
  have h1 : x ≠ 43 := fun e => by rw [e] at h; exact absurd h (by decide)
  have h2 : x ≠ 35 := fun e => by rw [e] at h; exact absurd h (by decide)
  simp [h1, h2]
theorem noany_width (s : ByteArray) (pos : Nat) (h : pos < s.size) (ha : 128 ≤ (s[pos]'h).toNat) (hn : Lib.NoAny s.data.toList [43, 35] pos) : Lib.NoAny s.data.toList [43, 35] (pos + (Utf8.decode s pos).2) := by
  intro j b hj hb
  have hlt : j < s.size := by
    have := (List.getElem?_eq_some_iff.1 hb).1
    rwa [Array.length_toList] at this
  have hbe : b = s[j]'hlt := by
    have := Lib.data_getElem? s j hlt
    rw [this] at hb
    exact (Option.some.inj hb).symm
  have hg : ∀ k (hk : k < s.size), s.get! k = s[k]'hk := fun k hk => by
    simp [ByteArray.get!, getElem!_pos, hk]; rfl
  by_cases hjp : j < pos
  · exact hn j b hjp hb
  · rw [Lib.decode_at] at hj
    obtain ⟨d1, d2, d3, d4⟩ := decN_conts (s.size - pos) (s.get! pos).toNat (s.get! (pos + 1)).toNat (s.get! (pos + 2)).toNat (s.get! (pos + 3)).toNat
    refine ph_no ?_
    subst hbe
    obtain rfl | rfl | rfl | rfl : j = pos ∨ j = pos + 1 ∨ j = pos + 2 ∨ j = pos + 3 := by omega
    · exact ha
    · have := (d1 (by omega)).1; rw [hg _ hlt] at this; omega
    · have := (d2 (by omega)).1; rw [hg _ hlt] at this; omega
    · have := (d3 (by omega)).1; rw [hg _ hlt] at this; omega
theorem below_iterAt {w wr : World} {s : ByteArray} {p : Nat} (h : Below w.heap.size w wr) : Below w.heap.size w (wr.iterAt w.heap.size s p) :=
  ⟨h.os, h.tape, h.output, by simpa [World.iterAt] using h.size, fun i hi => by
    simp only [World.iterAt]
    rw [Array.getElem?_setIfInBounds, if_neg (by omega)]
    exact h.block i hi⟩
theorem row_then0 {a b : World} {g : Nat} {o : Obj} (h : a.heap[g]? = some o) (hb : Below a.heap.size a b) : b.heap[g]? = some o := by
  rw [hb.block g (Array.getElem?_eq_some_iff.1 h).1]; exact h
set_option maxRecDepth 1000000 in
theorem any_short (s : ByteArray) (w : World) (h8 : s.size ≤ 8) :
    Calls Try.prog 87 #[.string s, .string ⟨#[43, 35]⟩] w fun e w' => e = .returned (.int .i64 (Lib.indexAny s.data.toList [43, 35])) ∧ Below w.heap.size w w' := by
  have h8z : decide ((8 : Int) < (s.size : Int)) = false := decide_eq_false (by omega)
  go_enter Try.func87, Try.ntmps87
  go_wp2_with fail
  refine (Try.strings_shouldUseASCIISet _ _).mono ?_
  rintro e w1 ⟨rfl, rfl⟩
  rw [h8z]
  go_wp2_with fail
  go_loopw [9, 10] (fun v9 v10 wr => ∃ pos : Nat, wr.heap[w1.heap.size]? = some (.stringIter s pos) ∧ Below w1.heap.size w1 wr ∧ Lib.NoAny s.data.toList [43, 35] pos) (fun _ _ wr => s.size - wr.iterPos w1.heap.size)
  case atStart => exact ⟨0, heap_alloc_new w1 _, (Below.refl _ _).alloc (Nat.le_refl _) _, Lib.NoAny.zero _ _⟩
  case round =>
    obtain ⟨pos, hit, hbel, hno⟩ := hrel
    have HM : Hid (wr.iterPos w1.heap.size = pos) := Lib.hid (by simp [World.iterPos, hit])
    have HIT := Lib.hid hit
    have HB := Lib.hid hbel
    have HN := Lib.hid hno
    by_cases hp : pos < s.size
    · have hnx : ∀ ty, (Instr.next (.pointer (some ⟨w1.heap.size, 0, none⟩)) true ty).run Try.prog wr = _ := fun ty => Lib.run_next_any_at wr w1.heap.size s pos ty hit hp
      have hmax := dec_max s pos
      clear hit hbel hno
      by_cases ha : 128 ≤ (s[pos]'hp).toNat
      · have HW := Lib.hid (noany_width s pos hp ha HN.out)
        have hh := decode_high s pos hp ha
        have HD := Lib.hid hh
        generalize Utf8.decode s pos = de at *
        obtain ⟨c, wd⟩ := de
        have HC : Hid (128 ≤ c ∧ c ≤ 1114111 ∧ 1 ≤ wd) := Lib.hid ⟨HD.out.1, hmax, HD.out.2⟩
        clear hh hmax HD ha
        simp only [] at hnx HW
        go_wp2_with fail
        refine (idxr_hi c _ HC.out.1 HC.out.2.1).mono ?_
        rintro e w2 ⟨rfl, hb⟩
        have HB2 := Lib.hid (ext_then' (below_iterAt HB.out) hb)
        have HIT2 := Lib.hid (row_then0 (Lib.iterAt_heap wr w1.heap.size s pos (pos + wd) HIT.out) hb)
        clear hb hnx
        go_wp2
        go_roundw
        case rel => exact ⟨pos + wd, HIT2.out, HB2.out, HW.out⟩
        case measure =>
          have h2 : w2.iterPos w1.heap.size = pos + wd := by simp [World.iterPos, HIT2.out]
          have h3 := HC.out.2.2
          rw [h2, HM.out]
          omega
      · have ha' : (s[pos]'hp).toNat < 128 := by omega
        rw [decode_ascii s pos hp ha'] at hnx
        obtain ⟨x, hx⟩ : ∃ x : UInt8, s[pos]'hp = x := ⟨_, rfl⟩
        have hxl : s.data.toList[pos]? = some x := by rw [← hx]; exact Lib.data_getElem? s pos hp
        rw [hx] at hnx ha'
        have Hx := Lib.hid hxl
        have hcon := Lib.contains_iff_indexByte [43, 35] x
        have hback : ((x.toNat : Int)).toNat.toUInt8 = x := by simp
        clear ha hmax hxl hx
        simp only [] at hnx
        cases hin : ([43, 35] : List UInt8).contains x
        · rw [hin] at hcon
          have hge : decide ((0 : Int) ≤ Lib.indexByte [43, 35] x) = false := hcon.symm
          have HI := Lib.hid hin
          clear hcon hin
          go_wp2_with fail
          refine (Try.strings_IndexRune_ascii _ _ _ (by omega) (by omega)).mono ?_
          rintro e w2 ⟨rfl, rfl⟩
          rw [hback]
          have HIT2 := Lib.hid (Lib.iterAt_heap wr w1.heap.size s pos (pos + 1) HIT.out)
          have HB2 := Lib.hid (below_iterAt (s := s) (p := pos + 1) HB.out)
          clear hnx hback
          go_wp2
          go_roundw
          case rel => exact ⟨pos + 1, HIT2.out, HB2.out, HN.out.succ Hx.out HI.out⟩
          case measure =>
            have h2 : (wr.iterAt w1.heap.size s (pos + 1)).iterPos w1.heap.size = pos + 1 := by simp [World.iterPos, HIT2.out]
            rw [h2, HM.out]
            omega
        · rw [hin] at hcon
          have hge : decide ((0 : Int) ≤ Lib.indexByte [43, 35] x) = true := hcon.symm
          have HI := Lib.hid hin
          clear hcon hin
          go_wp2_with fail
          refine (Try.strings_IndexRune_ascii _ _ _ (by omega) (by omega)).mono ?_
          rintro e w2 ⟨rfl, rfl⟩
          rw [hback]
          have HB2 := Lib.hid (below_iterAt (s := s) (p := pos + 1) HB.out)
          clear hnx hback
          go_wp2
          go_ret
          exact ⟨by rw [Lib.indexAny_hit HN.out Hx.out HI.out]; rfl, HB2.out⟩
    · have hnx : ∀ ty, (Instr.next (.pointer (some ⟨w1.heap.size, 0, none⟩)) true ty).run Try.prog wr = _ := fun ty => Lib.run_next_end_at wr w1.heap.size s pos ty hit hp
      have HP := Lib.hid hp
      clear hit hbel hno hp
      go_wp2
      go_ret
      exact ⟨by
        rw [Lib.indexAny_none (fun j b hj hb => HN.out j b (by
          have := HP.out
          rw [Array.length_toList] at hj
          have e : s.data.size = s.size := rfl
          omega) hb)]; rfl, HB.out⟩
theorem any_t (s : ByteArray) (w : World) (hs : s.size ≤ 65535) :
    Calls Try.prog 87 #[.string s, .string ⟨#[43, 35]⟩] w fun e w' => e = .returned (.int .i64 (Lib.indexAny s.data.toList [43, 35])) ∧ Below w.heap.size w w' := by
  by_cases h8 : s.size ≤ 8
  · exact any_short s w h8
  · refine (Try.strings_IndexAny_long (fun _ => by kernel_rfl) s ⟨#[43, 35]⟩ w (by decide) (by omega) (by omega) (by decide) (by
      intro j b hb
      match j, hb with
      | 0, hb => simp at hb; subst hb; decide
      | 1, hb => simp at hb; subst hb; decide)).mono fun e w' ⟨h1, h2⟩ => ⟨h1, ?_⟩
    rw [h2]
    exact ((Below.refl _ _).alloc (Nat.le_refl _) _).alloc (by simp) _
set_option maxRecDepth 100000 in
theorem contains_t (s : ByteArray) (w : World) (hs : s.size ≤ 65535) :
    Calls Try.prog 81 #[.string s, .string ⟨#[43, 35]⟩] w fun e w' => e = .returned (.bool (Lib.containsAny s.data.toList [43, 35])) ∧ Below w.heap.size w w' := by
  go_enter Try.func81, Try.ntmps81
  go_wp2_with fail
  refine (any_t s _ hs).mono ?_
  rintro e w1 ⟨rfl, hb⟩
  have HB := Lib.hid hb
  have HE : Hid (Lib.containsAny s.data.toList [43, 35] = decide (0 ≤ Lib.indexAny s.data.toList [43, 35])) := Lib.hid rfl
  clear hb
  generalize Lib.indexAny s.data.toList [43, 35] = z at *
  go_wp2
  go_ret
  exact ⟨by rw [HE.out]; rfl, HB.out⟩
theorem containsAny_any : ∀ l : List UInt8, Lib.containsAny l [43, 35] = l.any fun b => b == 43 || b == 35
  | [] => rfl
  | b :: l => by
    have ih := containsAny_any l
    have hg := Lib.indexAny_ge [43, 35] l
    unfold Lib.containsAny at ih ⊢
    rw [Lib.indexAny, List.any_cons, ← ih]
    cases hc : ([43, 35] : List UInt8).contains b
    · have : (b == 43 || b == 35) = false := by simpa using hc
      rw [this]
      simp only [Bool.false_or, Bool.false_eq_true, if_false]
      by_cases h : Lib.indexAny l [43, 35] = -1
      · simp [h]
      · have h' : (Lib.indexAny l [43, 35] == -1) = false := by simpa using h
        rw [h', if_neg (by decide)]
        have : 0 ≤ Lib.indexAny l [43, 35] := by omega
        simp [this]; omega
    · have : (b == 43 || b == 35) = true := by simpa using hc
      rw [this]
      simp
def textB (s : ByteArray) : Bool := !s.toList.isEmpty && validU s
set_option maxRecDepth 100000 in
theorem ttext_t (s : ByteArray) (w : World) (hs : s.size ≤ 140737488351232) : Calls Try.prog 80 #[.string s] w fun e w' => e = .returned (.bool (textB s)) ∧ Below w.heap.size w w' := by
  cases he : s.toList.isEmpty
  · have HE : Hid (textB s = validU s) := Lib.hid (by simp [textB, he])
    have he2 : (!s.toList.isEmpty) = true := by rw [he]; rfl
    go_enter Try.func80, Try.ntmps80
    go_wp2_with fail
    refine (validu_t s _ hs).mono ?_
    rintro e w1 ⟨rfl, hb⟩
    have HB := Lib.hid hb
    clear hb
    go_wp2
    go_ret
    exact ⟨by rw [HE.out]; rfl, HB.out⟩
  · have HE : Hid (textB s = false) := Lib.hid (by simp [textB, he])
    have he2 : (!s.toList.isEmpty) = false := by rw [he]; rfl
    go_enter Try.func80, Try.ntmps80
    go_wp2
    go_ret
    exact ⟨by rw [HE.out]; rfl, Below.refl _ _⟩
set_option maxRecDepth 100000 in
theorem topic_ok : TopicOK := by
  intro s w hs
  cases ht : textB s
  · have HE : Hid (nameB s = false) := Lib.hid (by unfold nameB; unfold textB at ht; rw [ht]; rfl)
    have HT := Lib.hid ht
    clear ht
    go_enter Try.func64, Try.ntmps64
    go_wp2_with fail
    refine (ttext_t s _ hs).mono ?_
    rintro e w1 ⟨rfl, hb⟩
    have HB := Lib.hid hb
    rw [HT.out]
    clear hb
    go_wp2
    go_ret
    exact ⟨by rw [HE.out]; rfl, HB.out⟩
  · have HE : Hid (nameB s = !Lib.containsAny s.data.toList [43, 35]) := Lib.hid (by
      unfold nameB; unfold textB at ht; rw [ht, containsAny_any, Lib.toList_data]; rfl)
    have HS : Hid (s.size ≤ 65535) := Lib.hid (by
      unfold textB at ht
      rw [Bool.and_eq_true] at ht
      have := ht.2
      unfold validU at this
      rw [Bool.and_eq_true] at this
      simpa using this.1)
    have HT := Lib.hid ht
    clear ht
    go_enter Try.func64, Try.ntmps64
    go_wp2_with fail
    refine (ttext_t s _ hs).mono ?_
    rintro e w1 ⟨rfl, hb⟩
    have HB := Lib.hid hb
    rw [HT.out]
    clear hb
    go_wp2_with fail
    refine (contains_t s _ HS.out).mono ?_
    rintro e w2 ⟨rfl, hb⟩
    have HB2 := Lib.hid (ext_then' HB.out hb)
    clear hb
    generalize Lib.containsAny s.data.toList [43, 35] = z at *
    go_wp2
    go_ret
    exact ⟨by rw [HE.out]; rfl, HB2.out⟩
end Go.Proofs.Ytnbgmpfldoaodab
