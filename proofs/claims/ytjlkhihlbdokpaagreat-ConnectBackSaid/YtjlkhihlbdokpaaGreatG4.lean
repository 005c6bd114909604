/- topic.Name: strings.ContainsAny at "+#". -/
import Derived.Test.YtjlkhihlbdokpaaGreatG1
import Derived.Test.YtjlkhihlbdokpaaGreatShelf
import Derived.RegionTactic
import Derived.ChangeAlike
import Derived.Deep.QuietTactic
import Derived.BigQuiet
import Derived.Lib.OthersKept
import Derived.Lib.DecodeN
import Derived.Test.YtjlkhihlbdokpaaGreatG2
import Derived.Test.YtjlkhihlbdokpaaGreatG3
import Derived.Deep.MidRow
import Derived.Laws.IdiomCopy
import Derived.Laws.Bits64b
namespace Go.Proofs.YtjlkhihlbdokpaaGreat
open Go.RowKit
set_option maxHeartbeats 2000000
set_option linter.unusedVariables false
def ph : ByteArray := ⟨#[43, 35]⟩
theorem below_drewN (w : World) (n : Nat) : Below w.heap.size w (w.drewN n) := ⟨rfl, rfl, rfl, Nat.le_refl _, fun _ _ => rfl⟩
theorem run_rune (c : Nat) (w : World) : (convert 21 9 (.int .i32 c)).run Tryz.prog w = .ok (.string (Utf8.encode c)) w := by
  simp [go_sem]
set_option maxRecDepth 100000 in
theorem idxr_bad (c : Nat) (w : World) (h0 : 128 ≤ c) (h1 : c ≤ 1114111) (h2 : c ≠ 65533) (hv : Lib.validRune c = false) :
    Calls Tryz.prog 190 #[.string ⟨#[43, 35]⟩, .int .i32 c] w fun e w' => e = .returned (.int .i64 (-1)) ∧ Below w.heap.size w w' := by
  have g0 : decide ((c : Int) < 128) = false := by simp; omega
  have g1 : ((c : Int) == 65533) = false := by simp; omega
  have HV := Lib.hid hv
  clear h2 hv
  go_enter Tryz.func190, Tryz.ntmps190
  go_wp2_with fail
  refine (Tryz.utf8_ValidRune _ _).mono ?_
  rintro e w1 ⟨rfl, rfl⟩
  rw [HV.out]
  go_wp2
  go_ret
  exact ⟨rfl, Below.refl _ _⟩
set_option maxRecDepth 1000000 in
theorem idxr_two (c : Nat) (w : World) (h0 : 128 ≤ c) (h1 : c ≤ 1114111) (h2 : c ≠ 65533) (hv : Lib.validRune c = true) (rs : ByteArray) (hr : Utf8.encode c = rs) (hs : rs.size = 2) (hl : ((((⟨#[43, 35]⟩ : ByteArray)[1]'(by decide)).toNat : Int) != ((rs[1]'(by omega)).toNat : Int)) = true) :
    Calls Tryz.prog 190 #[.string ⟨#[43, 35]⟩, .int .i32 c] w fun e w' => e = .returned (.int .i64 (-1)) ∧ Below w.heap.size w w' := by
  have g0 : decide ((c : Int) < 128) = false := by simp; omega
  have g1 : ((c : Int) == 65533) = false := by simp; omega
  have HV := Lib.hid hv
  have hcv := fun w => run_rune c w
  rw [hr] at hcv
  clear h2 hv hr
  go_enter Tryz.func190, Tryz.ntmps190
  go_wp2_with fail
  refine (Tryz.utf8_ValidRune _ _).mono ?_
  rintro e w1 ⟨rfl, rfl⟩
  rw [HV.out]
  go_wp2_with fail
  go_step3
  go_wp2_with fail
  refine wp_loop_rounds 1 ?_
  rw [rounds_succ]
  go_wp2_with fail
  go_step3
  go_wp2_with fail
  go_quiet (fail)
  have HB := Lib.hid (below_drewN w1 nq)
  generalize w1.drewN nq = w2 at *
  go_wp2_with fail
  go_quiet ((go_at_call 206; refine Calls.quiet_of_same (Tryz.strings_IndexByte _ _ _)))
  go_wp2_with fail
  rw [Exit.noGoto_ret]
  go_wp2_with fail
  rw [Exit.noGoto_ret]
  go_ret
  exact ⟨rfl, ext_then' HB.out (below_drewN _ _)⟩
set_option maxRecDepth 100000 in
theorem idxr_more (c : Nat) (w : World) (h0 : 128 ≤ c) (h1 : c ≤ 1114111) (h2 : c ≠ 65533) (hv : Lib.validRune c = true) (rs : ByteArray) (hr : Utf8.encode c = rs) (k : Nat) (hk : k = 3 ∨ k = 4) (hs : rs.size = k) :
    Calls Tryz.prog 190 #[.string ⟨#[43, 35]⟩, .int .i32 c] w fun e w' => e = .returned (.int .i64 (-1)) ∧ Below w.heap.size w w' := by
  rcases hk with rfl | rfl
  all_goals
    have g0 : decide ((c : Int) < 128) = false := by simp; omega
    have g1 : ((c : Int) == 65533) = false := by simp; omega
    have HV := Lib.hid hv
    have hcv := fun w => run_rune c w
    rw [hr] at hcv
    clear h2 hv hr
    go_enter Tryz.func190, Tryz.ntmps190
    go_wp2_with fail
    refine (Tryz.utf8_ValidRune _ _).mono ?_
    rintro e w1 ⟨rfl, rfl⟩
    rw [HV.out]
    go_wp2_with fail
    go_step3
    go_wp2_with fail
    refine wp_loop_rounds 1 ?_
    rw [rounds_succ]
    go_wp2_with fail
    rw [Exit.noGoto_ret]
    go_ret
    exact ⟨rfl, Below.refl _ _⟩
set_option maxRecDepth 1000000 in
theorem idxr_err (w : World) :
    Calls Tryz.prog 190 #[.string ⟨#[43, 35]⟩, .int .i32 65533] w fun e w' => e = .returned (.int .i64 (-1)) ∧ Below w.heap.size w w' := by
  have hn0 : ∀ ty, (Instr.next (.pointer (some ⟨w.heap.size, 0, none⟩)) true ty).run Tryz.prog (w.iter ⟨#[43, 35]⟩ 0) = _ := fun ty => run_next_ascii w ⟨#[43, 35]⟩ 0 ty (by decide) (by decide)
  have hn1 : ∀ ty, (Instr.next (.pointer (some ⟨w.heap.size, 0, none⟩)) true ty).run Tryz.prog (w.iter ⟨#[43, 35]⟩ 1) = _ := fun ty => run_next_ascii w ⟨#[43, 35]⟩ 1 ty (by decide) (by decide)
  have hn2 : ∀ ty, (Instr.next (.pointer (some ⟨w.heap.size, 0, none⟩)) true ty).run Tryz.prog (w.iter ⟨#[43, 35]⟩ 2) = _ := fun ty => run_next_end w ⟨#[43, 35]⟩ 2 ty (by decide)
  rw [show ((⟨#[43, 35]⟩ : ByteArray)[0]'(by decide)).toNat = 43 from rfl] at hn0
  rw [show ((⟨#[43, 35]⟩ : ByteArray)[1]'(by decide)).toNat = 35 from rfl] at hn1
  go_enter Tryz.func190, Tryz.ntmps190
  go_wp2_with fail
  go_rounds 3
  go_ret
  exact ⟨rfl, (Below.refl _ _).alloc (Nat.le_refl _) _⟩
theorem enc_two {c : Nat} (h0 : 128 ≤ c) (h1 : c < 2048) : ∃ x y : UInt8, Utf8.encode c = ⟨#[x, y]⟩ ∧ 128 ≤ y.toNat := by
  have hv : Utf8.valid (c : Int) = true := by simp [Utf8.valid]; omega
  refine ⟨_, _, by unfold Utf8.encode; simp only [hv, if_true, Int.toNat_natCast]; rw [if_neg (by omega), if_pos (by omega)], ?_⟩
  rw [UInt8.toNat_ofNat']; omega
theorem enc_more {c : Nat} (h0 : 2048 ≤ c) (hv : Utf8.valid (c : Int) = true) : ∃ k, (k = 3 ∨ k = 4) ∧ (Utf8.encode c).size = k := by
  by_cases h : c < 65536
  · exact ⟨3, .inl rfl, by unfold Utf8.encode; simp only [hv, if_true, Int.toNat_natCast]; rw [if_neg (by omega), if_neg (by omega), if_pos (by omega)]; rfl⟩
  · exact ⟨4, .inr rfl, by unfold Utf8.encode; simp only [hv, if_true, Int.toNat_natCast]; rw [if_neg (by omega), if_neg (by omega), if_neg (by omega)]; rfl⟩
theorem idxr_hi (c : Nat) (w : World) (h0 : 128 ≤ c) (h1 : c ≤ 1114111) :
    Calls Tryz.prog 190 #[.string ⟨#[43, 35]⟩, .int .i32 c] w fun e w' => e = .returned (.int .i64 (-1)) ∧ Below w.heap.size w w' := by
  by_cases h2 : c = 65533
  · subst h2; exact idxr_err w
  · cases hv : Lib.validRune (c : Int)
    · exact idxr_bad c w h0 h1 h2 hv
    · by_cases h3 : c < 2048
      · obtain ⟨x, y, he, hy⟩ := enc_two h0 h3
        exact idxr_two c w h0 h1 h2 hv ⟨#[x, y]⟩ he rfl (by
          show ((35 : Nat) : Int) != (y.toNat : Int)
          simp only [bne_iff_ne, ne_eq]; omega)
      · obtain ⟨k, hk, hs⟩ := enc_more (c := c) (by omega) (by
          simp only [Lib.validRune, decide_eq_true_eq] at hv
          simp [Utf8.valid]; omega)
        exact idxr_more c w h0 h1 h2 hv _ rfl k hk hs
theorem dec_max (s : ByteArray) (pos : Nat) : (Utf8.decode s pos).1 ≤ 1114111 := by
  have hb : ∀ k, (s.get! (pos + k)).toNat < 256 := fun k => (s.get! (pos + k)).toNat_lt
  have h0 := hb 0; have h1 := hb 1; have h2 := hb 2; have h3 := hb 3
  simp only [Utf8.decode]
  repeat' split
  all_goals simp_all [Utf8.runeError, Utf8.valid]
  all_goals omega
theorem decN_conts (n b0 b1 b2 b3 : Nat) :
    (2 ≤ (Lib.decodeN n b0 b1 b2 b3).2 → b1 / 64 = 2 ∧ 1 < n) ∧ (3 ≤ (Lib.decodeN n b0 b1 b2 b3).2 → b2 / 64 = 2 ∧ 2 < n) ∧ (4 ≤ (Lib.decodeN n b0 b1 b2 b3).2 → b3 / 64 = 2 ∧ 3 < n) ∧ (Lib.decodeN n b0 b1 b2 b3).2 ≤ 4 := by
  unfold Lib.decodeN
  repeat' split
  all_goals (simp only; omega)
theorem ph_no {x : UInt8} (h : 128 ≤ x.toNat) : ([43, 35] : List UInt8).contains x = false := by
  have h1 : x ≠ 43 := fun e => by rw [e] at h; exact absurd h (by decide)
  have h2 : x ≠ 35 := fun e => by rw [e] at h; exact absurd h (by decide)
  simp [h1, h2]
theorem noany_width (s : ByteArray) (pos : Nat) (h : pos < s.size) (ha : 128 ≤ (s[pos]'h).toNat) (hn : Lib.NoAny s.data.toList [43, 35] pos) : Lib.NoAny s.data.toList [43, 35] (pos + (Utf8.decode s pos).2) := by
  intro j b hj hb
  have hlt : j < s.size := by
    have := (List.getElem?_eq_some_iff.1 hb).1
    rwa [Array.length_toList] at this
  have hbe : b = s[j]'hlt := by
    have := Lib.data_getElem? s j hlt
    rw [this] at hb
    exact (Option.some.inj hb).symm
  have hg : ∀ k (hk : k < s.size), s.get! k = s[k]'hk := fun k hk => by
    simp [ByteArray.get!, getElem!_pos, hk]; rfl
  by_cases hjp : j < pos
  · exact hn j b hjp hb
  · rw [Lib.decode_at] at hj
    obtain ⟨d1, d2, d3, d4⟩ := decN_conts (s.size - pos) (s.get! pos).toNat (s.get! (pos + 1)).toNat (s.get! (pos + 2)).toNat (s.get! (pos + 3)).toNat
    refine ph_no ?_
    subst hbe
    obtain rfl | rfl | rfl | rfl : j = pos ∨ j = pos + 1 ∨ j = pos + 2 ∨ j = pos + 3 := by omega
    · exact ha
    · have := (d1 (by omega)).1; rw [hg _ hlt] at this; omega
    · have := (d2 (by omega)).1; rw [hg _ hlt] at this; omega
    · have := (d3 (by omega)).1; rw [hg _ hlt] at this; omega
theorem below_iterAt {w wr : World} {s : ByteArray} {p : Nat} (h : Below w.heap.size w wr) : Below w.heap.size w (wr.iterAt w.heap.size s p) :=
  ⟨h.os, h.tape, h.output, by simpa [World.iterAt] using h.size, fun i hi => by
    simp only [World.iterAt]
    rw [Array.getElem?_setIfInBounds, if_neg (by omega)]
    exact h.block i hi⟩
theorem row_then0 {a b : World} {g : Nat} {o : Obj} (h : a.heap[g]? = some o) (hb : Below a.heap.size a b) : b.heap[g]? = some o := by
  rw [hb.block g (Array.getElem?_eq_some_iff.1 h).1]; exact h
set_option maxRecDepth 1000000 in
theorem any_short (s : ByteArray) (w : World) (h8 : s.size ≤ 8) :
    Calls Tryz.prog 159 #[.string s, .string ⟨#[43, 35]⟩] w fun e w' => e = .returned (.int .i64 (Lib.indexAny s.data.toList [43, 35])) ∧ Below w.heap.size w w' := by
  have h8z : decide ((8 : Int) < (s.size : Int)) = false := decide_eq_false (by omega)
  go_enter Tryz.func159, Tryz.ntmps159
  go_wp2_with fail
  refine (Tryz.strings_shouldUseASCIISet _ _).mono ?_
  rintro e w1 ⟨rfl, rfl⟩
  rw [h8z]
  go_wp2_with fail
  go_loopw [9, 10] (fun v9 v10 wr => ∃ pos : Nat, wr.heap[w1.heap.size]? = some (.stringIter s pos) ∧ Below w1.heap.size w1 wr ∧ Lib.NoAny s.data.toList [43, 35] pos) (fun _ _ wr => s.size - wr.iterPos w1.heap.size)
  case atStart => exact ⟨0, heap_alloc_new w1 _, (Below.refl _ _).alloc (Nat.le_refl _) _, Lib.NoAny.zero _ _⟩
  case round =>
    obtain ⟨pos, hit, hbel, hno⟩ := hrel
    have HM : Hid (wr.iterPos w1.heap.size = pos) := Lib.hid (by simp [World.iterPos, hit])
    have HIT := Lib.hid hit
    have HB := Lib.hid hbel
    have HN := Lib.hid hno
    by_cases hp : pos < s.size
    · have hnx : ∀ ty, (Instr.next (.pointer (some ⟨w1.heap.size, 0, none⟩)) true ty).run Tryz.prog wr = _ := fun ty => Lib.run_next_any_at wr w1.heap.size s pos ty hit hp
      have hmax := dec_max s pos
      clear hit hbel hno
      by_cases ha : 128 ≤ (s[pos]'hp).toNat
      · have HW := Lib.hid (noany_width s pos hp ha HN.out)
        have hh := decode_high s pos hp ha
        have HD := Lib.hid hh
        generalize Utf8.decode s pos = de at *
        obtain ⟨c, wd⟩ := de
        have HC : Hid (128 ≤ c ∧ c ≤ 1114111 ∧ 1 ≤ wd) := Lib.hid ⟨HD.out.1, hmax, HD.out.2⟩
        clear hh hmax HD ha
        simp only [] at hnx HW
        go_wp2_with fail
        refine (idxr_hi c _ HC.out.1 HC.out.2.1).mono ?_
        rintro e w2 ⟨rfl, hb⟩
        have HB2 := Lib.hid (ext_then' (below_iterAt HB.out) hb)
        have HIT2 := Lib.hid (row_then0 (Lib.iterAt_heap wr w1.heap.size s pos (pos + wd) HIT.out) hb)
        clear hb hnx
        go_wp2
        go_roundw
        case rel => exact ⟨pos + wd, HIT2.out, HB2.out, HW.out⟩
        case measure =>
          have h2 : w2.iterPos w1.heap.size = pos + wd := by simp [World.iterPos, HIT2.out]
          have h3 := HC.out.2.2
          rw [h2, HM.out]
          omega
      · have ha' : (s[pos]'hp).toNat < 128 := by omega
        rw [decode_ascii s pos hp ha'] at hnx
        obtain ⟨x, hx⟩ : ∃ x : UInt8, s[pos]'hp = x := ⟨_, rfl⟩
        have hxl : s.data.toList[pos]? = some x := by rw [← hx]; exact Lib.data_getElem? s pos hp
        rw [hx] at hnx ha'
        have Hx := Lib.hid hxl
        have hcon := Lib.contains_iff_indexByte [43, 35] x
        have hback : ((x.toNat : Int)).toNat.toUInt8 = x := by simp
        clear ha hmax hxl hx
        simp only [] at hnx
        cases hin : ([43, 35] : List UInt8).contains x
        · rw [hin] at hcon
          have hge : decide ((0 : Int) ≤ Lib.indexByte [43, 35] x) = false := hcon.symm
          have HI := Lib.hid hin
          clear hcon hin
          go_wp2_with fail
          refine (Tryz.strings_IndexRune_ascii _ _ _ (by omega) (by omega)).mono ?_
          rintro e w2 ⟨rfl, rfl⟩
          rw [hback]
          have HIT2 := Lib.hid (Lib.iterAt_heap wr w1.heap.size s pos (pos + 1) HIT.out)
          have HB2 := Lib.hid (below_iterAt (s := s) (p := pos + 1) HB.out)
          clear hnx hback
          go_wp2
          go_roundw
          case rel => exact ⟨pos + 1, HIT2.out, HB2.out, HN.out.succ Hx.out HI.out⟩
          case measure =>
            have h2 : (wr.iterAt w1.heap.size s (pos + 1)).iterPos w1.heap.size = pos + 1 := by simp [World.iterPos, HIT2.out]
            rw [h2, HM.out]
            omega
        · rw [hin] at hcon
          have hge : decide ((0 : Int) ≤ Lib.indexByte [43, 35] x) = true := hcon.symm
          have HI := Lib.hid hin
          clear hcon hin
          go_wp2_with fail
          refine (Tryz.strings_IndexRune_ascii _ _ _ (by omega) (by omega)).mono ?_
          rintro e w2 ⟨rfl, rfl⟩
          rw [hback]
          have HB2 := Lib.hid (below_iterAt (s := s) (p := pos + 1) HB.out)
          clear hnx hback
          go_wp2
          go_ret
          exact ⟨by rw [Lib.indexAny_hit HN.out Hx.out HI.out]; rfl, HB2.out⟩
    · have hnx : ∀ ty, (Instr.next (.pointer (some ⟨w1.heap.size, 0, none⟩)) true ty).run Tryz.prog wr = _ := fun ty => Lib.run_next_end_at wr w1.heap.size s pos ty hit hp
      have HP := Lib.hid hp
      clear hit hbel hno hp
      go_wp2
      go_ret
      exact ⟨by
        rw [Lib.indexAny_none (fun j b hj hb => HN.out j b (by
          have := HP.out
          rw [Array.length_toList] at hj
          have e : s.data.size = s.size := rfl
          omega) hb)]; rfl, HB.out⟩
theorem any_t (s : ByteArray) (w : World) (hs : s.size ≤ 65535) :
    Calls Tryz.prog 159 #[.string s, .string ⟨#[43, 35]⟩] w fun e w' => e = .returned (.int .i64 (Lib.indexAny s.data.toList [43, 35])) ∧ Below w.heap.size w w' := by
  by_cases h8 : s.size ≤ 8
  · exact any_short s w h8
  · refine (Tryz.strings_IndexAny_long (fun _ => by kernel_rfl) s ⟨#[43, 35]⟩ w (by decide) (by omega) (by omega) (by decide) (by
      intro j b hb
      match j, hb with
      | 0, hb => simp at hb; subst hb; decide
      | 1, hb => simp at hb; subst hb; decide)).mono fun e w' ⟨h1, h2⟩ => ⟨h1, ?_⟩
    rw [h2]
    exact ((Below.refl _ _).alloc (Nat.le_refl _) _).alloc (by simp) _
set_option maxRecDepth 100000 in
theorem contains_t (s : ByteArray) (w : World) (hs : s.size ≤ 65535) :
    Calls Tryz.prog 107 #[.string s, .string ⟨#[43, 35]⟩] w fun e w' => e = .returned (.bool (Lib.containsAny s.data.toList [43, 35])) ∧ Below w.heap.size w w' := by
  go_enter Tryz.func107, Tryz.ntmps107
  go_wp2_with fail
  refine (any_t s _ hs).mono ?_
  rintro e w1 ⟨rfl, hb⟩
  have HB := Lib.hid hb
  have HE : Hid (Lib.containsAny s.data.toList [43, 35] = decide (0 ≤ Lib.indexAny s.data.toList [43, 35])) := Lib.hid rfl
  clear hb
  generalize Lib.indexAny s.data.toList [43, 35] = z at *
  go_wp2
  go_ret
  exact ⟨by rw [HE.out]; rfl, HB.out⟩
theorem containsAny_any : ∀ l : List UInt8, Lib.containsAny l [43, 35] = l.any fun b => b == 43 || b == 35
  | [] => rfl
  | b :: l => by
    have ih := containsAny_any l
    have hg := Lib.indexAny_ge [43, 35] l
    unfold Lib.containsAny at ih ⊢
    rw [Lib.indexAny, List.any_cons, ← ih]
    cases hc : ([43, 35] : List UInt8).contains b
    · have : (b == 43 || b == 35) = false := by simpa using hc
      rw [this]
      simp only [Bool.false_or, Bool.false_eq_true, if_false]
      by_cases h : Lib.indexAny l [43, 35] = -1
      · simp [h]
      · have h' : (Lib.indexAny l [43, 35] == -1) = false := by simpa using h
        rw [h', if_neg (by decide)]
        have : 0 ≤ Lib.indexAny l [43, 35] := by omega
        simp [this]; omega
    · have : (b == 43 || b == 35) = true := by simpa using hc
      rw [this]
      simp
def textB (s : ByteArray) : Bool := !s.toList.isEmpty && validU s
set_option maxRecDepth 100000 in
theorem ttext_t (s : ByteArray) (w : World) (hs : s.size ≤ 140737488351232) : Calls Tryz.prog 106 #[.string s] w fun e w' => e = .returned (.bool (textB s)) ∧ Below w.heap.size w w' := by
  cases he : s.toList.isEmpty
  · have HE : Hid (textB s = validU s) := Lib.hid (by simp [textB, he])
    have he2 : (!s.toList.isEmpty) = true := by rw [he]; rfl
    go_enter Tryz.func106, Tryz.ntmps106
    go_wp2_with fail
    refine (validu_t s _ hs).mono ?_
    rintro e w1 ⟨rfl, hb⟩
    have HB := Lib.hid hb
    clear hb
    go_wp2
    go_ret
    exact ⟨by rw [HE.out]; rfl, HB.out⟩
  · have HE : Hid (textB s = false) := Lib.hid (by simp [textB, he])
    have he2 : (!s.toList.isEmpty) = false := by rw [he]; rfl
    go_enter Tryz.func106, Tryz.ntmps106
    go_wp2
    go_ret
    exact ⟨by rw [HE.out]; rfl, Below.refl _ _⟩
set_option maxRecDepth 100000 in
theorem topic_ok : TopicOK := by
  intro s w hs
  cases ht : textB s
  · have HE : Hid (nameB s = false) := Lib.hid (by unfold nameB; unfold textB at ht; rw [ht]; rfl)
    have HT := Lib.hid ht
    clear ht
    go_enter Tryz.func53, Tryz.ntmps53
    go_wp2_with fail
    refine (ttext_t s _ hs).mono ?_
    rintro e w1 ⟨rfl, hb⟩
    have HB := Lib.hid hb
    rw [HT.out]
    clear hb
    go_wp2
    go_ret
    exact ⟨by rw [HE.out]; rfl, HB.out⟩
  · have HE : Hid (nameB s = !Lib.containsAny s.data.toList [43, 35]) := Lib.hid (by
      unfold nameB; unfold textB at ht; rw [ht, containsAny_any, Lib.toList_data]; rfl)
    have HS : Hid (s.size ≤ 65535) := Lib.hid (by
      unfold textB at ht
      rw [Bool.and_eq_true] at ht
      have := ht.2
      unfold validU at this
      rw [Bool.and_eq_true] at this
      simpa using this.1)
    have HT := Lib.hid ht
    clear ht
    go_enter Tryz.func53, Tryz.ntmps53
    go_wp2_with fail
    refine (ttext_t s _ hs).mono ?_
    rintro e w1 ⟨rfl, hb⟩
    have HB := Lib.hid hb
    rw [HT.out]
    clear hb
    go_wp2_with fail
    refine (contains_t s _ HS.out).mono ?_
    rintro e w2 ⟨rfl, hb⟩
    have HB2 := Lib.hid (ext_then' HB.out hb)
    clear hb
    generalize Lib.containsAny s.data.toList [43, 35] = z at *
    go_wp2
    go_ret
    exact ⟨by rw [HE.out]; rfl, HB2.out⟩
end Go.Proofs.YtjlkhihlbdokpaaGreat
/- What the chapters' proofs share: codes' and bytes' sizes, packets of a kind, an id and a code, stores of packets, kit.Pick. -/
namespace Go.Proofs.YtjlkhihlbdokpaaGreat
open Go.RowKit Go.Sort
set_option maxHeartbeats 2000000
set_option linter.unusedVariables false
set_option linter.unusedSimpArgs false
theorem mayB_range' {kind code : Int} (h : mayB kind code = true) : 0 ≤ code ∧ code < 256 := codesL_range kind code (by simpa [mayB] using h)
theorem bytesGo_size (kind : Int) : ∀ (l : List Prp) (f : Nat → Int) (out : List Int), (bytesGo kind l f out).1.size ≤ 4 + out.length + l.length * 131075
  | [], f, out => by
    unfold bytesGo
    split
    · exact Nat.zero_le _
    · have := viS_le out.length
      rw [ByteArray.size_append, strOfNums_size]
      simp only [List.length_nil]
      omega
  | p :: t, f, out => by
    unfold bytesGo
    split
    · rename_i hc
      have hv := valueS_size hc
      split
      · exact Nat.zero_le _
      · have := bytesGo_size kind t (fun j => if j = p.id.toNat then f p.id.toNat + 1 else f j) ((out ++ [p.id]) ++ bytesN (valueS (ruleOf p.id).shape p))
        simp only [List.length_append, List.length_cons, List.length_nil, bytesN_len] at this ⊢
        omega
    · exact Nat.zero_le _
theorem bytesF_size (kind : Int) (l : List Prp) : (bytesF kind l).1.size ≤ 131075004 := by
  unfold bytesF
  split
  · rename_i h
    have h1 := bytesGo_size kind l (fun _ => 0) []
    have h2 := Nat.mul_le_mul_right 131075 h
    simp only [List.length_nil] at h1
    omega
  · exact Nat.zero_le _
def codePk (k i c : Int) : Pk := { zeroPk with kind := k, id := i, code := c }
theorem bytes_none (k : Int) : bytesF k [] = (viS 0 ++ strOfNums [], 0) := by
  simp [bytesF, bytesGo, loneB]
theorem nil_RP (w : World) : RP w zeroSl.A zeroSl.n [] := ⟨rfl, by decide, fun p (h : p ∈ ([] : List Prp)) => absurd h (by simp), fun h => absurd h (by decide)⟩
theorem noTopic : Hid (([] : List Prp) ≠ [] → TopicOK) := Lib.hid fun h => absurd rfl h
theorem row_store {a b : World} {g : Nat} {o o' : Obj} (ha : a.heap[g]? = some o) (hb : (a.alloc o').grownBy b (some a.heap.size)) : b.heap[g]? = some o := by
  have hlt := (Array.getElem?_eq_some_iff.1 ha).1
  rw [hb.block g (by simp; omega) (fun e => by simp only [Option.some.injEq] at e; omega), heap_alloc_old _ _ hlt]
  exact ha
theorem below_store {w0 a b : World} {o' : Obj} (h : Below w0.heap.size w0 a) (hb : (a.alloc o').grownBy b (some a.heap.size)) : Below w0.heap.size w0 b :=
  (h.alloc h.size o').grown hb (by have := h.size; simp; omega) (fun k hk => by simp only [Option.some.injEq] at hk; have := h.size; omega)
theorem topicH (l : List Prp) : Hid (l ≠ [] → TopicOK) := Lib.hid fun _ => topic_ok
theorem grown_two (a : World) (g i j : Nat) (x y : Value) : a.grownBy ((a.setCell ⟨g, i, none⟩ x).setCell ⟨g, j, none⟩ y).drew (some g) :=
  grown_drew ⟨rfl, rfl, rfl, by simp, fun k _ hk => by
    rw [heap_setCell_other _ _ _ _ (fun e => hk (by rw [e])), heap_setCell_other _ _ _ _ (fun e => hk (by rw [e]))]⟩
theorem row_two {a : World} {g : Nat} {cs : Array Value} {T : TypeId} (h : a.heap[g]? = some (.cells cs T (0, 0))) (i j : Nat) (x y : Value) :
    ((a.setCell ⟨g, i, none⟩ x).setCell ⟨g, j, none⟩ y).drew.heap[g]? = some (.cells ((cs.setIfInBounds i x).setIfInBounds j y) T (0, 0)) := by
  have h1 := heap_setCell_same a g i cs T x h
  exact heap_setCell_same _ g j _ T y h1
theorem extract_behind (a b : ByteArray) : (a ++ b).extract a.size (a ++ b).size = b := by
  apply ByteArray.ext
  have h1 : a.data.extract a.size (a.size + b.size) = #[] := by
    apply Array.eq_empty_of_size_eq_zero
    have e : a.data.size = a.size := rfl
    simp only [Array.size_extract, e]; omega
  have h2 : b.data.extract 0 b.size = b.data := by
    have e : b.data.size = b.size := rfl
    rw [← e]; exact Array.extract_size
  simp only [ByteArray.data_extract, ByteArray.data_append, ByteArray.size_append, Array.extract_append, h1]
  have e : a.data.size = a.size := rfl
  simp only [e, Nat.sub_self, Nat.add_sub_cancel_left, h2]
  simp
/-- Cells written one behind the other. -/
def setsAt : Array Value → Nat → List Value → Array Value
  | cur, _, [] => cur
  | cur, o, v :: r => setsAt (cur.setIfInBounds o v) (o + 1) r
theorem heap_setCells {g : Nat} {t : TypeId} : ∀ (vs : List Value) (o : Nat) (w : World) (cur : Array Value), w.heap[g]? = some (.cells cur t (0, 0)) → (w.setCells g o vs).heap[g]? = some (.cells (setsAt cur o vs) t (0, 0))
  | [], _, _, _, h => h
  | v :: r, o, w, cur, h => heap_setCells r (o + 1) _ _ (heap_setCell_same w g o cur t v h)
theorem grown_setCells {g : Nat} : ∀ (vs : List Value) (o : Nat) (w : World), w.grownBy (w.setCells g o vs) (some g)
  | [], _, w => ⟨rfl, rfl, rfl, Nat.le_refl _, fun _ _ _ => rfl⟩
  | v :: r, o, w => by
    have h1 := grown_set w g o v
    have h2 := grown_setCells (g := g) r (o + 1) (w.setCell ⟨g, o, none⟩ v)
    exact ⟨h2.os.trans h1.os, h2.tape.trans h1.tape, h2.output.trans h1.output, Nat.le_trans h1.size h2.size, fun k hk hne => (h2.block k (Nat.lt_of_lt_of_le hk h1.size) hne).trans (h1.block k hk hne)⟩
theorem there_row {w : World} {g o n : Nat} {cur : Array Value} {t : TypeId} (hg : w.heap[g]? = some (.cells cur t (0, 0))) (h : o + n ≤ cur.size) : w.there g o n := fun j hj => by
  refine ⟨?_, frozen_of_row _ _ _ _ _ hg⟩
  rw [cell_of_row _ _ _ _ _ _ hg, Array.getElem?_eq_getElem (by omega)]
  rfl
theorem run_storeVar_cells (w : World) (g o : Nat) (ty t : TypeId) (cur : Array Value) (v : Value) (hg : w.heap[g]? = some (.cells cur t (0, 0))) (hi : (Tryz.prog.info? ty).map (·.size) = some v.cells.size) (hle : o + v.cells.size ≤ cur.size) (h1 : v.cells.all (·.oneCell') = true) :
    (storeVar ty ⟨g, o, none⟩ v).run Tryz.prog w = .ok () (w.setCells g o v.cells.toList) := by
  have ht := there_row hg hle
  have := run_storeCells_cells (P := Tryz.prog) g o v.cells.toList 0 w (fun j hj => by simpa using (ht j (by simpa using hj)).1) (fun j hj => by simpa using (ht j (by simpa using hj)).2)
    (fun v hv => (Array.all_eq_true_iff_forall_mem.1 h1) v (by simpa using hv))
  cases hq : Tryz.prog.info? ty with
  | none => simp [hq] at hi
  | some i =>
    have hs : v.cells.size = i.size := by simp [hq] at hi; omega
    simp only [Nat.add_zero] at this
    simp [storeVar, sizeOf, typeInfo, hq, hs, this]
/-- A field of a packet in memory is set: the packet that lies there then. -/
theorem pk_set {ops : Array Oper} {rest : List Oper} {o : Oper} {a : Act} {w : World} {Q : Exit → Act → World → Prop} (g i : Nat) (q q' : Pk) (v : Value) (ty : TypeId) (x y : Operand) (hg : w.heap[g]? = some (.cells (packC q) 28 (0, 0)))
    (hgd : Region.wanted o (yielded ops a.tmps) = true) (ho : o.op = .store ty x y) (hx : a.eval x = .pointer (some ⟨g, i, none⟩)) (hy : a.eval y = v)
    (hi : (Tryz.prog.info? ty).map (·.size) = some v.cells.size) (h1 : v.cells.all (·.oneCell') = true) (hle : i + v.cells.size ≤ 25) (hq : setsAt (packC q) i v.cells.toList = packC q')
    (h : ∀ w', w'.heap[g]? = some (.cells (packC q') 28 (0, 0)) → w.grownBy w' (some g) → wpList Tryz.prog ops Q rest (a.put o.dst undef) w') : wpList Tryz.prog ops Q (o :: rest) a w :=
  wpList_step fun K hK => by
    rw [if_pos hgd]
    unfold Oper.wp execOp
    simp only [ho, hx, hy, Instr.storeAt, Instr.sureAddr, Sem.run_bind, Sem.run_pure, Result.andThen_ok, run_storeVar_cells w g i ty _ (packC q) v hg hi hle h1]
    refine hK _ _ (h _ ?_ (grown_setCells _ _ _))
    rw [← hq]
    exact heap_setCells _ _ _ _ hg
end Go.Proofs.YtjlkhihlbdokpaaGreat
/- octet.Cursor: what its calls answer, and where it stands then. -/
namespace Go.Proofs.YtjlkhihlbdokpaaGreat
open Go.RowKit Go.Sort
set_option maxHeartbeats 2000000
set_option linter.unusedVariables false
set_option linter.unusedSimpArgs false
structure Cu where
  s : ByteArray
  pos : Nat
  err : Int
def curC (c : Cu) : Array Value := #[.string c.s, .int .i64 (c.pos : Int), .int .i64 c.err]
def CurAt (w : World) (g : Nat) (c : Cu) : Prop := w.heap[g]? = some (.cells (curC c) 110 (0, 0))
structure CuOK (c : Cu) : Prop where
  pos : c.pos ≤ c.s.size
  size : c.s.size ≤ 140737488351232
theorem grown_trans {a b c : World} {r : Option Nat} (h : a.grownBy b r) (k : b.grownBy c r) : a.grownBy c r :=
  ⟨k.os.trans h.os, k.tape.trans h.tape, k.output.trans h.output, Nat.le_trans h.size k.size, fun i hi hne => (k.block i (Nat.lt_of_lt_of_le hi h.size) hne).trans (h.block i hi hne)⟩
theorem grown_drewN (w : World) (r : Option Nat) (n : Nat) : w.grownBy (w.drewN n) r := ⟨rfl, rfl, rfl, Nat.le_refl _, fun _ _ _ => rfl⟩
theorem grown_refl (w : World) (r : Option Nat) : w.grownBy w r := ⟨rfl, rfl, rfl, Nat.le_refl _, fun _ _ _ => rfl⟩
theorem cur_cells {w : World} {g : Nat} {c : Cu} (h : CurAt w g c) : w.cell? ⟨g, 0, none⟩ = some (.string c.s) ∧ w.cell? ⟨g, 1, none⟩ = some (.int .i64 (c.pos : Int)) ∧ w.cell? ⟨g, 2, none⟩ = some (.int .i64 c.err) :=
  ⟨by rw [cell_of_row _ _ _ _ _ _ h]; rfl, by rw [cell_of_row _ _ _ _ _ _ h]; rfl, by rw [cell_of_row _ _ _ _ _ _ h]; rfl⟩
theorem cur_free {w : World} {g : Nat} {c : Cu} (h : CurAt w g c) (i : Nat) : w.frozen? ⟨g, i, none⟩ = false := frozen_of_row _ _ i _ _ h
theorem cur_below {a b : World} {g : Nat} {c : Cu} (h : CurAt a g c) (hb : Below a.heap.size a b) : CurAt b g c := by
  unfold CurAt; rw [hb.block g (Array.getElem?_eq_some_iff.1 h).1]; exact h
theorem cur_err {w : World} {g : Nat} {c : Cu} (h : CurAt w g c) (e : Int) : CurAt (w.setCell ⟨g, 2, none⟩ (.int .i64 e)) g { c with err := e } := heap_setCell_same w g 2 _ _ _ h
theorem cur_pos {w : World} {g : Nat} {c : Cu} (h : CurAt w g c) (n : Nat) : CurAt (w.setCell ⟨g, 1, none⟩ (.int .i64 (n : Int))) g { c with pos := n } := heap_setCell_same w g 1 _ _ _ h
def readyB (c : Cu) : Bool := c.err == 0
set_option maxRecDepth 100000 in
theorem ready_t (g : Nat) (c : Cu) (w : World) (h : CurAt w g c) : Calls Tryz.prog 122 #[.pointer (some ⟨g, 0, none⟩)] w fun e w' => e = .returned (.bool (readyB c)) ∧ w' = w := by
  obtain ⟨c0, c1, c2⟩ := cur_cells h
  clear h c0 c1
  have HE : Hid (readyB c = (c.err == 0)) := Lib.hid rfl
  go_enter Tryz.func122, Tryz.ntmps122
  go_wp2
  go_ret
  exact ⟨by rw [HE.out]; rfl, rfl⟩
def hasB (c : Cu) (n : Int) : Bool := if decide (0 ≤ n) = true then decide (n ≤ (c.s.size : Int) - (c.pos : Int)) else false
set_option maxRecDepth 100000 in
theorem chas_t (g : Nat) (c : Cu) (n : Int) (w : World) (h : CurAt w g c) (ok : CuOK c) : Calls Tryz.prog 160 #[.pointer (some ⟨g, 0, none⟩), .int .i64 n] w fun e w' => e = .returned (.bool (hasB c n)) ∧ CurAt w' g c ∧ w.grownBy w' (some g) := by
  obtain ⟨c0, c1, c2⟩ := cur_cells h
  obtain ⟨o1, o2⟩ := ok
  have HC := Lib.hid h
  clear h c2
  cases hn : decide (0 ≤ n)
  · have HE : Hid (hasB c n = false) := Lib.hid (by simp only [hasB, hn, if_false, Bool.false_eq_true])
    go_enter Tryz.func160, Tryz.ntmps160
    go_wp2
    go_quiet (fail)
    go_wp2
    go_ret
    exact ⟨by rw [HE.out]; rfl, HC.out, grown_drewN _ _ _⟩
  · have HE : Hid (hasB c n = decide (n ≤ (c.s.size : Int) - (c.pos : Int))) := Lib.hid (by simp only [hasB, hn, if_true])
    have n0 : 0 ≤ n := by simpa using hn
    have hw : IntKind.i64.wrap ((c.s.size : Int) - (c.pos : Int)) = (c.s.size : Int) - (c.pos : Int) := IntWalk.i64_in _ ⟨by omega, by omega⟩
    go_enter Tryz.func160, Tryz.ntmps160
    go_wp2
    go_quiet (fail)
    go_wp2
    go_ret
    exact ⟨by rw [HE.out]; rfl, HC.out, grown_drewN _ _ _⟩
def takeF (c : Cu) (n : Int) : ByteArray × Cu :=
  if readyB c = true then (if hasB c n = true then (c.s.extract c.pos (c.pos + n.toNat), { c with pos := c.pos + n.toNat }) else (⟨#[]⟩, { c with err := 3 })) else (⟨#[]⟩, c)
theorem hasB_le {c : Cu} {n : Int} (h : hasB c n = true) : 0 ≤ n ∧ n ≤ (c.s.size : Int) - (c.pos : Int) := by
  unfold hasB at h
  split at h
  · rename_i h0; exact ⟨by simpa using h0, by simpa using h⟩
  · cases h
theorem takeF_ok {c : Cu} (ok : CuOK c) (n : Int) : CuOK (takeF c n).2 := by
  unfold takeF
  split
  · split
    · rename_i h; obtain ⟨h0, h1⟩ := hasB_le h; have := ok.pos; exact ⟨by simp only; omega, ok.size⟩
    · exact ⟨ok.pos, ok.size⟩
  · exact ok
set_option maxRecDepth 100000 in
theorem take_t (g : Nat) (c : Cu) (n : Int) (w : World) (h : CurAt w g c) (ok : CuOK c) : Calls Tryz.prog 108 #[.pointer (some ⟨g, 0, none⟩), .int .i64 n] w fun e w' => e = .returned (.string (takeF c n).1) ∧ CurAt w' g (takeF c n).2 ∧ w.grownBy w' (some g) := by
  have HC := Lib.hid h
  have HO := Lib.hid ok
  clear h ok
  go_enter Tryz.func108, Tryz.ntmps108
  go_wp2_with fail
  refine (ready_t g c _ HC.out).mono ?_
  rintro e w1x ⟨rfl, hw⟩
  subst hw
  cases hr : readyB c
  · have HE : Hid (takeF c n = (⟨#[]⟩, c)) := Lib.hid (by simp only [takeF, hr, if_false, Bool.false_eq_true])
    go_wp2
    go_ret
    exact ⟨by rw [HE.out]; rfl, by rw [HE.out]; exact HC.out, grown_refl _ _⟩
  go_wp2_with fail
  refine (chas_t g c n _ HC.out HO.out).mono ?_
  rintro e w2 ⟨rfl, hc, hg⟩
  have HC2 := Lib.hid hc
  have HG2 := Lib.hid hg
  clear hc hg
  obtain ⟨c0, c1, c2⟩ := cur_cells HC2.out
  have f1 := cur_free HC2.out 1
  have f2 := cur_free HC2.out 2
  cases hh : hasB c n
  · have HE : Hid (takeF c n = (⟨#[]⟩, { c with err := 3 })) := Lib.hid (by simp only [takeF, hr, hh, if_true, if_false, Bool.false_eq_true])
    have HX := Lib.hid (cur_err HC2.out 3)
    clear c0 c1
    go_wp2
    go_ret
    exact ⟨by rw [HE.out]; rfl, by rw [HE.out]; exact HX.out, grown_trans HG2.out (grown_set _ _ _ _)⟩
  · obtain ⟨n0, n1⟩ := hasB_le hh
    obtain ⟨o1, o2⟩ := (⟨HO.out.pos, HO.out.size⟩ : _ ∧ _)
    obtain ⟨m, rfl⟩ := Int.eq_ofNat_of_zero_le n0
    have HE : Hid (takeF c (m : Int) = (c.s.extract c.pos (c.pos + m), { c with pos := c.pos + m })) := Lib.hid (by simp only [takeF, hr, hh, if_true, Int.toNat_natCast])
    have HX := Lib.hid (cur_pos HC2.out (c.pos + m))
    have HG3 := Lib.hid (grown_trans HG2.out (grown_set w2 g 1 (.int .i64 ((c.pos + m : Nat) : Int))))
    have b1 : (c.pos : Int) + (m : Int) ≤ (c.s.size : Int) := by omega
    have b2 : (0 : Int) ≤ (c.pos : Int) := by omega
    clear c2 f2 hh n1
    go_wp2
    rw [show (c.pos : Int) + (m : Int) = ((c.pos + m : Nat) : Int) by omega]
    have HX2 : Hid (CurAt (w2.setCell ⟨g, 1, none⟩ (.int .i64 ((c.pos + m : Nat) : Int))) g { c with pos := c.pos + m }) := HX
    obtain ⟨d0, d1, d2⟩ := cur_cells HX2.out
    generalize w2.setCell ⟨g, 1, none⟩ (.int .i64 ((c.pos + m : Nat) : Int)) = w3 at *
    have i1 : (0 : Int) ≤ ((c.pos + m : Nat) : Int) := by omega
    have i2 : ((c.pos + m : Nat) : Int) ≤ (c.s.size : Int) := by omega
    have i3 : (c.pos : Int) ≤ ((c.pos + m : Nat) : Int) := by omega
    clear c0 c1 f1 d2
    simp only [] at d0 d1
    go_quiet (fail)
    go_wp2
    go_ret
    exact ⟨by rw [HE.out]; rfl, by rw [HE.out]; exact HX.out, grown_trans HG3.out (grown_drewN _ _ _)⟩
def getL (l : List UInt8) : Int := l.foldl (fun n b => n * 256 + (b.toNat : Int)) 0
def getF (s : ByteArray) : Int := getL s.data.toList
theorem getL_snoc (l : List UInt8) (b : UInt8) : getL (l ++ [b]) = getL l * 256 + (b.toNat : Int) := by simp [getL]
theorem getL_bd : ∀ (k : Nat) (l : List UInt8), l.length = k → 0 ≤ getL l ∧ getL l < 256 ^ k := by
  intro k
  induction k with
  | zero => intro l h; rw [List.length_eq_zero_iff.1 h]; decide
  | succ k ih =>
    intro l h
    obtain ⟨l', b, rfl⟩ : ∃ l' b, l = l' ++ [b] := ⟨l.dropLast, l.getLast (by intro e; rw [e] at h; simp at h), (List.dropLast_concat_getLast _).symm⟩
    have := ih l' (by simpa using h)
    rw [getL_snoc]
    have hb := b.toNat_lt
    rw [Int.pow_succ]
    omega
theorem or_low {n b : Int} (n0 : 0 ≤ n) (n1 : n < 16777216) (b0 : 0 ≤ b) (b1 : b < 256) : bits BinOp.or IntKind.u64 (n * 256) b = n * 256 + b := by
  obtain ⟨m, rfl⟩ := Int.eq_ofNat_of_zero_le n0
  obtain ⟨c, rfl⟩ := Int.eq_ofNat_of_zero_le b0
  have e1 : ((m * 256 : Nat) : Int) = (m : Int) * 256 := Int.natCast_mul m 256
  have e2 : ((m * 256 + c : Nat) : Int) = (m : Int) * 256 + (c : Int) := by rw [Int.natCast_add, e1]
  have q1 : m < 16777216 := Int.ofNat_lt.1 n1
  have q2 : c < 256 := Int.ofNat_lt.1 b1
  clear n1 b1 n0 b0
  have h := bits_or_u64_nat (m * 256) c (by omega) (by omega)
  have e : m * 256 ||| c = m * 256 + c := by
    have := Nat.shiftLeft_add_eq_or_of_lt (b := c) (i := 8) (by omega) m
    rw [Nat.shiftLeft_eq] at this
    exact this.symm
  rw [e] at h
  rw [e1, e2] at h
  exact h
set_option maxRecDepth 100000 in
theorem get_t (s : ByteArray) (w : World) (hs : s.size ≤ 4) : Calls Tryz.prog 120 #[.string s] w fun e w' => e = .returned (.int .u64 (getF s)) ∧ w' = w := by
  have h8 : decide ((8 : Int) < (s.size : Int)) = false := by simp; omega
  have h8' : decide (8 < s.size) = false := by simp; omega
  go_enter Tryz.func120, Tryz.ntmps120
  go_wp2
  go_loop [3, 4, 15] (fun v3 v4 v15 => ∃ k : Nat, k ≤ s.size ∧ v15 = .int .i64 k ∧ v3 = .int .u64 (getL (s.data.toList.take k))) (fun _ _ v15 => s.size - (intOf v15).toNat)
  case atStart => exact ⟨0, by omega, rfl, rfl⟩
  case round =>
    obtain ⟨k, hk, rfl, rfl⟩ := hrel
    have hbd := getL_bd k (s.data.toList.take k) (by rw [List.length_take, Array.length_toList]; exact Nat.min_eq_left hk)
    have hb2 : getL (s.data.toList.take k) < 16777216 ∨ k = 4 := by
      have : k = 0 ∨ k = 1 ∨ k = 2 ∨ k = 3 ∨ k = 4 := by omega
      rcases this with rfl | rfl | rfl | rfl | rfl
      all_goals first | (left; have := hbd.2; omega) | (right; rfl)
    by_cases hlt : k < s.size
    · have hb3 : getL (s.data.toList.take k) < 16777216 := by rcases hb2 with h | h <;> omega
      have hb0 := hbd.1
      have HS : Hid (getL (s.data.toList.take (k + 1)) = getL (s.data.toList.take k) * 256 + ((s[k]'hlt).toNat : Int)) := Lib.hid (by
        have : s.data.toList.take (k + 1) = s.data.toList.take k ++ [s[k]'hlt] := by
          rw [List.take_succ_eq_append_getElem (by rw [Array.length_toList]; exact hlt)]; rfl
        rw [this, getL_snoc])
      obtain ⟨x, hx⟩ : ∃ x, s[k]'hlt = x := ⟨_, rfl⟩
      rw [hx] at HS
      have hx0 := x.toNat_lt
      generalize getL (s.data.toList.take k) = z at *
      clear hbd hb2
      have hor := or_low (n := z) (b := (x.toNat : Int)) hb0 hb3 (by omega) (by omega)
      go_wp2
      go_round
      case rel => exact ⟨k + 1, by omega, by go_num, by rw [HS.out]⟩
      case measure => simp [intOf]; omega
    · obtain rfl : k = s.size := by omega
      have HE : Hid (getF s = getL (s.data.toList.take s.size)) := Lib.hid (by rw [getF, List.take_of_length_le (by rw [Array.length_toList]; show s.size ≤ s.size; omega)])
      clear hbd hb2
      go_wp2
      go_ret
      exact ⟨by rw [HE.out]; rfl, rfl⟩
theorem take_size {c : Cu} (ok : CuOK c) (n : Int) : (takeF c n).1.size ≤ n.toNat := by
  unfold takeF
  split
  · split
    · simp only [ByteArray.size_extract]; omega
    · exact Nat.zero_le _
  · exact Nat.zero_le _
def numF (c : Cu) (n : Int) : Int := getF (takeF c n).1
set_option maxRecDepth 100000 in
theorem number_t (g : Nat) (c : Cu) (n : Int) (w : World) (h : CurAt w g c) (ok : CuOK c) (h4 : n ≤ 4) : Calls Tryz.prog 72 #[.pointer (some ⟨g, 0, none⟩), .int .i64 n] w fun e w' => e = .returned (.int .u64 (numF c n)) ∧ CurAt w' g (takeF c n).2 ∧ w.grownBy w' (some g) := by
  have HC := Lib.hid h
  have HO := Lib.hid ok
  have hsz := take_size ok n
  have hsz4 : (takeF c n).1.size ≤ 4 := by omega
  have HS := Lib.hid hsz4
  clear h ok hsz hsz4 h4
  go_enter Tryz.func72, Tryz.ntmps72
  go_wp2_with fail
  refine (take_t g c n _ HC.out HO.out).mono ?_
  rintro e w2 ⟨rfl, hc, hg⟩
  have HC2 := Lib.hid hc
  have HG2 := Lib.hid hg
  clear hc hg
  go_wp2_with fail
  refine (get_t (takeF c n).1 _ HS.out).mono ?_
  rintro e w3 ⟨rfl, hw⟩
  subst hw
  have HE : Hid (numF c n = getF (takeF c n).1) := Lib.hid rfl
  go_wp2
  go_ret
  exact ⟨by rw [HE.out]; rfl, HC2.out, HG2.out⟩
def failF (c : Cu) (e : Int) : Cu := if readyB c = true then { c with err := e } else c
theorem failF_ok {c : Cu} (ok : CuOK c) (e : Int) : CuOK (failF c e) := by
  unfold failF; split <;> exact ⟨ok.pos, ok.size⟩
set_option maxRecDepth 100000 in
theorem fail_t (g : Nat) (c : Cu) (e0 : Int) (w : World) (h : CurAt w g c) : Calls Tryz.prog 74 #[.pointer (some ⟨g, 0, none⟩), .int .i64 e0] w fun e w' => e = .returned (.tuple #[]) ∧ CurAt w' g (failF c e0) ∧ w.grownBy w' (some g) := by
  have HC := Lib.hid h
  clear h
  go_enter Tryz.func74, Tryz.ntmps74
  go_wp2_with fail
  refine (ready_t g c _ HC.out).mono ?_
  rintro e w1x ⟨rfl, hw⟩
  subst hw
  cases hr : readyB c
  · have HE : Hid (failF c e0 = c) := Lib.hid (by simp only [failF, hr, if_false, Bool.false_eq_true])
    go_wp2
    go_end0
    exact ⟨rfl, by rw [HE.out]; exact HC.out, grown_refl _ _⟩
  · have HE : Hid (failF c e0 = { c with err := e0 }) := Lib.hid (by simp only [failF, hr, if_true])
    obtain ⟨c0, c1, c2⟩ := cur_cells HC.out
    have f2 := cur_free HC.out 2
    have HX := Lib.hid (cur_err HC.out e0)
    clear c0 c1
    go_wp2
    go_end0
    exact ⟨rfl, by rw [HE.out]; exact HX.out, grown_set _ _ _ _⟩
def restF (c : Cu) : ByteArray := c.s.extract c.pos c.s.size
set_option maxRecDepth 100000 in
theorem rest_t (g : Nat) (c : Cu) (w : World) (h : CurAt w g c) (ok : CuOK c) : Calls Tryz.prog 113 #[.pointer (some ⟨g, 0, none⟩)] w fun e w' => e = .returned (.string (restF c)) ∧ CurAt w' g c ∧ w.grownBy w' (some g) := by
  obtain ⟨c0, c1, c2⟩ := cur_cells h
  obtain ⟨o1, o2⟩ := ok
  have HC := Lib.hid h
  have HE : Hid (restF c = c.s.extract c.pos c.s.size) := Lib.hid rfl
  have i1 : (0 : Int) ≤ (c.pos : Int) := by omega
  have i2 : (c.pos : Int) ≤ (c.s.size : Int) := by omega
  clear h c2
  go_enter Tryz.func113, Tryz.ntmps113
  go_wp2
  go_quiet (fail)
  go_wp2
  go_ret
  exact ⟨by rw [HE.out]; rfl, HC.out, grown_drewN _ _ _⟩
def leftF (c : Cu) : Int := (c.s.size : Int) - (c.pos : Int)
theorem rest_size {c : Cu} (ok : CuOK c) : ((restF c).size : Int) = leftF c := by
  have := ok.pos
  simp only [restF, leftF, ByteArray.size_extract]; omega
set_option maxRecDepth 100000 in
theorem left_t (g : Nat) (c : Cu) (w : World) (h : CurAt w g c) (ok : CuOK c) : Calls Tryz.prog 59 #[.pointer (some ⟨g, 0, none⟩)] w fun e w' => e = .returned (.int .i64 (leftF c)) ∧ CurAt w' g c ∧ w.grownBy w' (some g) := by
  have HC := Lib.hid h
  have HO := Lib.hid ok
  have HZ := Lib.hid (rest_size ok)
  clear h ok
  go_enter Tryz.func59, Tryz.ntmps59
  go_wp2_with fail
  refine (rest_t g c _ HC.out HO.out).mono ?_
  rintro e w2 ⟨rfl, hc, hg⟩
  have HC2 := Lib.hid hc
  have HG2 := Lib.hid hg
  clear hc hg
  go_wp2
  go_ret
  exact ⟨by rw [← HZ.out]; rfl, HC2.out, HG2.out⟩
set_option maxRecDepth 100000 in
theorem err_t (g : Nat) (c : Cu) (w : World) (h : CurAt w g c) : Calls Tryz.prog 60 #[.pointer (some ⟨g, 0, none⟩)] w fun e w' => e = .returned (.int .i64 c.err) ∧ w' = w := by
  obtain ⟨c0, c1, c2⟩ := cur_cells h
  clear h c0 c1
  go_enter Tryz.func60, Tryz.ntmps60
  go_wp2
  go_ret
  exact ⟨rfl, rfl⟩
def newCu (s : ByteArray) : Cu := ⟨s, 0, 0⟩
set_option maxRecDepth 100000 in
theorem cnew_t (s : ByteArray) (w : World) : Calls Tryz.prog 55 #[.string s] w fun e w' => e = .returned (.pointer (some ⟨w.heap.size, 0, none⟩)) ∧ w' = w.alloc (.cells (curC (newCu s)) 110) := by
  go_enter Tryz.func55, Tryz.ntmps55
  go_wp2
  go_ret
  exact ⟨rfl, rfl⟩
end Go.Proofs.YtjlkhihlbdokpaaGreat
/- varint.Read: a variable byte integer that is read. -/
namespace Go.Proofs.YtjlkhihlbdokpaaGreat
open Go.RowKit Go.Sort
set_option maxHeartbeats 2000000
set_option linter.unusedVariables false
set_option linter.unusedSimpArgs false
structure Rd where
  n : Int
  size : Int
  done : Bool
  bad : Bool
def rdC (r : Rd) : Array Value := #[.int .i64 r.n, .int .i64 r.size, .bool r.done, .bool r.bad]
def RdAt (w : World) (g : Nat) (r : Rd) : Prop := w.heap[g]? = some (.cells (rdC r) 192 (0, 0))
theorem rd_cells {w : World} {g : Nat} {r : Rd} (h : RdAt w g r) : w.cell? ⟨g, 0, none⟩ = some (.int .i64 r.n) ∧ w.cell? ⟨g, 1, none⟩ = some (.int .i64 r.size) ∧ w.cell? ⟨g, 2, none⟩ = some (.bool r.done) ∧ w.cell? ⟨g, 3, none⟩ = some (.bool r.bad) :=
  ⟨by rw [cell_of_row _ _ _ _ _ _ h]; rfl, by rw [cell_of_row _ _ _ _ _ _ h]; rfl, by rw [cell_of_row _ _ _ _ _ _ h]; rfl, by rw [cell_of_row _ _ _ _ _ _ h]; rfl⟩
theorem rd_free {w : World} {g : Nat} {r : Rd} (h : RdAt w g r) (i : Nat) : w.frozen? ⟨g, i, none⟩ = false := frozen_of_row _ _ i _ _ h
theorem rd_set {w : World} {g : Nat} {r : Rd} (h : RdAt w g r) (i : Nat) (v : Value) (r' : Rd) (e : (rdC r).setIfInBounds i v = rdC r') : RdAt (w.setCell ⟨g, i, none⟩ v) g r' := by
  have := heap_setCell_same w g i _ _ v h
  rw [e] at this
  exact this
theorem and127 {x : Int} (h0 : 0 ≤ x) (h1 : x < 256) : bits BinOp.and IntKind.u8 x 127 = x % 128 := by
  obtain ⟨n, rfl⟩ := Int.eq_ofNat_of_zero_le h0
  exact (show ∀ n : Nat, n < 256 → bits BinOp.and IntKind.u8 (n : Int) 127 = (n : Int) % 128 from by decide +kernel) n (by omega)
theorem and128 {x : Int} (h0 : 0 ≤ x) (h1 : x < 256) : (bits BinOp.and IntKind.u8 x 128 != 0) = decide (128 ≤ x) := by
  obtain ⟨n, rfl⟩ := Int.eq_ofNat_of_zero_le h0
  exact (show ∀ n : Nat, n < 256 → (bits BinOp.and IntKind.u8 (n : Int) 128 != 0) = decide (128 ≤ (n : Int)) from by decide +kernel) n (by omega)
set_option maxRecDepth 100000 in
theorem push0_t (g : Nat) (z b y : Int) (hy : z + b % 128 = y) (w : World) (h : RdAt w g ⟨z, 0, false, false⟩) (z0 : 0 ≤ z) (z1 : z < 268435456) (b0 : 0 ≤ b) (b1 : b < 256) :
    Calls Tryz.prog 195 #[.pointer (some ⟨g, 0, none⟩), .int .u8 b] w fun e w' =>
      (if decide (128 ≤ b) = true then e = .returned (.tuple #[.bool false, .int .i64 0]) ∧ RdAt w' g ⟨y, 1, false, false⟩
       else e = .returned (.tuple #[.bool true, .int .i64 0]) ∧ RdAt w' g ⟨y, 1, true, false⟩) ∧ w.grownBy w' (some g) := by
  obtain ⟨c0, c1, c2, c3⟩ := rd_cells h
  have f0 := rd_free h 0
  have ha := and127 b0 b1
  have hb := and128 b0 b1
  have m0 : 0 ≤ b % 128 := by omega
  have m1 : b % 128 < 128 := by omega
  have HX := Lib.hid (rd_set h 0 (.int .i64 y) ⟨y, 0, false, false⟩ rfl)
  have HG : Hid (w.grownBy ((w.setCell ⟨g, 0, none⟩ (.int .i64 y)).drew) (some g)) := Lib.hid (grown_trans (grown_set _ _ _ _) (grown_drewN _ _ 1))
  clear h
  go_enter Tryz.func195, Tryz.ntmps195
  go_wp2
  go_region
  try rw [hy]
  have HX1 : Hid (RdAt ((w.setCell ⟨g, 0, none⟩ (.int .i64 y)).drew) g ⟨y, 0, false, false⟩) := HX
  clear c0 c1 c2 c3 f0 ha HX
  generalize (w.setCell ⟨g, 0, none⟩ (.int .i64 y)).drew = w1 at *
  obtain ⟨c0, c1, c2, c3⟩ := rd_cells HX1.out
  have f1 := rd_free HX1.out 1
  have f2 := rd_free HX1.out 2
  have f3 := rd_free HX1.out 3
  simp only [] at c1
  have HX2 := Lib.hid (rd_set HX1.out 1 (.int .i64 1) ⟨y, 1, false, false⟩ rfl)
  clear m0 m1 c0
  cases hc : decide (128 ≤ b)
  · rw [hc] at hb
    have HX3 := Lib.hid (rd_set HX2.out 2 (.bool true) ⟨y, 1, true, false⟩ rfl)
    go_wp2
    all_goals (go_ret2; refine ⟨?_, grown_trans HG.out (grown_trans (grown_set _ _ _ _) (grown_set _ _ _ _))⟩; first | exact ⟨rfl, HX3.out⟩ | (rw [if_neg Bool.false_ne_true]; exact ⟨rfl, HX3.out⟩))
  · rw [hc] at hb
    have HX3 := Lib.hid (rd_set HX2.out 3 (.bool false) ⟨y, 1, false, false⟩ rfl)
    go_wp2
    go_ret2
    exact ⟨by first | exact ⟨rfl, HX3.out⟩ | (rw [if_pos rfl]; exact ⟨rfl, HX3.out⟩), grown_trans HG.out (grown_trans (grown_set _ _ _ _) (grown_set _ _ _ _))⟩
set_option maxRecDepth 100000 in
theorem push1_t (g : Nat) (z b y : Int) (hy : z + b % 128 * 128 = y) (w : World) (h : RdAt w g ⟨z, 1, false, false⟩) (z0 : 0 ≤ z) (z1 : z < 268435456) (b0 : 0 ≤ b) (b1 : b < 256) :
    Calls Tryz.prog 195 #[.pointer (some ⟨g, 0, none⟩), .int .u8 b] w fun e w' =>
      (if decide (128 ≤ b) = true then e = .returned (.tuple #[.bool false, .int .i64 0]) ∧ RdAt w' g ⟨y, 2, false, false⟩
       else if decide (b = 0) = true then e = .returned (.tuple #[.bool false, .int .i64 5]) ∧ RdAt w' g ⟨y, 2, false, true⟩ else e = .returned (.tuple #[.bool true, .int .i64 0]) ∧ RdAt w' g ⟨y, 2, true, false⟩) ∧ w.grownBy w' (some g) := by
  obtain ⟨c0, c1, c2, c3⟩ := rd_cells h
  have f0 := rd_free h 0
  have ha := and127 b0 b1
  have hb := and128 b0 b1
  have m0 : 0 ≤ b % 128 := by omega
  have m1 : b % 128 < 128 := by omega
  have HX := Lib.hid (rd_set h 0 (.int .i64 y) ⟨y, 1, false, false⟩ rfl)
  have HG : Hid (w.grownBy ((w.setCell ⟨g, 0, none⟩ (.int .i64 y)).drew) (some g)) := Lib.hid (grown_trans (grown_set _ _ _ _) (grown_drewN _ _ 1))
  clear h
  go_enter Tryz.func195, Tryz.ntmps195
  go_wp2
  go_region
  try rw [hy]
  have HX1 : Hid (RdAt ((w.setCell ⟨g, 0, none⟩ (.int .i64 y)).drew) g ⟨y, 1, false, false⟩) := HX
  clear c0 c1 c2 c3 f0 ha HX
  generalize (w.setCell ⟨g, 0, none⟩ (.int .i64 y)).drew = w1 at *
  obtain ⟨c0, c1, c2, c3⟩ := rd_cells HX1.out
  have f1 := rd_free HX1.out 1
  have f2 := rd_free HX1.out 2
  have f3 := rd_free HX1.out 3
  simp only [] at c1
  have HX2 := Lib.hid (rd_set HX1.out 1 (.int .i64 2) ⟨y, 2, false, false⟩ rfl)
  clear m0 m1 c0
  cases hc : decide (128 ≤ b)
  · rw [hc] at hb
    cases hd : decide (b = 0)
    · have hd' : (b == 0) = false := by simpa using hd
      have HX3 := Lib.hid (rd_set HX2.out 2 (.bool true) ⟨y, 2, true, false⟩ rfl)
      go_wp2
      all_goals (go_ret2; refine ⟨?_, grown_trans HG.out (grown_trans (grown_set _ _ _ _) (grown_set _ _ _ _))⟩; first | exact ⟨rfl, HX3.out⟩ | (rw [if_neg Bool.false_ne_true, if_neg Bool.false_ne_true]; exact ⟨rfl, HX3.out⟩))
    · have hd' : (b == 0) = true := by simpa using hd
      have HX3 := Lib.hid (rd_set HX2.out 3 (.bool true) ⟨y, 2, false, true⟩ rfl)
      go_wp2
      all_goals (go_ret2; refine ⟨?_, grown_trans HG.out (grown_trans (grown_set _ _ _ _) (grown_set _ _ _ _))⟩; first | exact ⟨rfl, HX3.out⟩ | (rw [if_neg Bool.false_ne_true, if_pos rfl]; exact ⟨rfl, HX3.out⟩))
  · rw [hc] at hb
    have HX3 := Lib.hid (rd_set HX2.out 3 (.bool false) ⟨y, 2, false, false⟩ rfl)
    go_wp2
    go_ret2
    exact ⟨by first | exact ⟨rfl, HX3.out⟩ | (rw [if_pos rfl]; exact ⟨rfl, HX3.out⟩), grown_trans HG.out (grown_trans (grown_set _ _ _ _) (grown_set _ _ _ _))⟩
set_option maxRecDepth 100000 in
theorem push2_t (g : Nat) (z b y : Int) (hy : z + b % 128 * 16384 = y) (w : World) (h : RdAt w g ⟨z, 2, false, false⟩) (z0 : 0 ≤ z) (z1 : z < 268435456) (b0 : 0 ≤ b) (b1 : b < 256) :
    Calls Tryz.prog 195 #[.pointer (some ⟨g, 0, none⟩), .int .u8 b] w fun e w' =>
      (if decide (128 ≤ b) = true then e = .returned (.tuple #[.bool false, .int .i64 0]) ∧ RdAt w' g ⟨y, 3, false, false⟩
       else if decide (b = 0) = true then e = .returned (.tuple #[.bool false, .int .i64 5]) ∧ RdAt w' g ⟨y, 3, false, true⟩ else e = .returned (.tuple #[.bool true, .int .i64 0]) ∧ RdAt w' g ⟨y, 3, true, false⟩) ∧ w.grownBy w' (some g) := by
  obtain ⟨c0, c1, c2, c3⟩ := rd_cells h
  have f0 := rd_free h 0
  have ha := and127 b0 b1
  have hb := and128 b0 b1
  have m0 : 0 ≤ b % 128 := by omega
  have m1 : b % 128 < 128 := by omega
  have HX := Lib.hid (rd_set h 0 (.int .i64 y) ⟨y, 2, false, false⟩ rfl)
  have HG : Hid (w.grownBy ((w.setCell ⟨g, 0, none⟩ (.int .i64 y)).drew) (some g)) := Lib.hid (grown_trans (grown_set _ _ _ _) (grown_drewN _ _ 1))
  clear h
  go_enter Tryz.func195, Tryz.ntmps195
  go_wp2
  go_region
  try rw [hy]
  have HX1 : Hid (RdAt ((w.setCell ⟨g, 0, none⟩ (.int .i64 y)).drew) g ⟨y, 2, false, false⟩) := HX
  clear c0 c1 c2 c3 f0 ha HX
  generalize (w.setCell ⟨g, 0, none⟩ (.int .i64 y)).drew = w1 at *
  obtain ⟨c0, c1, c2, c3⟩ := rd_cells HX1.out
  have f1 := rd_free HX1.out 1
  have f2 := rd_free HX1.out 2
  have f3 := rd_free HX1.out 3
  simp only [] at c1
  have HX2 := Lib.hid (rd_set HX1.out 1 (.int .i64 3) ⟨y, 3, false, false⟩ rfl)
  clear m0 m1 c0
  cases hc : decide (128 ≤ b)
  · rw [hc] at hb
    cases hd : decide (b = 0)
    · have hd' : (b == 0) = false := by simpa using hd
      have HX3 := Lib.hid (rd_set HX2.out 2 (.bool true) ⟨y, 3, true, false⟩ rfl)
      go_wp2
      all_goals (go_ret2; refine ⟨?_, grown_trans HG.out (grown_trans (grown_set _ _ _ _) (grown_set _ _ _ _))⟩; first | exact ⟨rfl, HX3.out⟩ | (rw [if_neg Bool.false_ne_true, if_neg Bool.false_ne_true]; exact ⟨rfl, HX3.out⟩))
    · have hd' : (b == 0) = true := by simpa using hd
      have HX3 := Lib.hid (rd_set HX2.out 3 (.bool true) ⟨y, 3, false, true⟩ rfl)
      go_wp2
      all_goals (go_ret2; refine ⟨?_, grown_trans HG.out (grown_trans (grown_set _ _ _ _) (grown_set _ _ _ _))⟩; first | exact ⟨rfl, HX3.out⟩ | (rw [if_neg Bool.false_ne_true, if_pos rfl]; exact ⟨rfl, HX3.out⟩))
  · rw [hc] at hb
    have HX3 := Lib.hid (rd_set HX2.out 3 (.bool false) ⟨y, 3, false, false⟩ rfl)
    go_wp2
    go_ret2
    exact ⟨by first | exact ⟨rfl, HX3.out⟩ | (rw [if_pos rfl]; exact ⟨rfl, HX3.out⟩), grown_trans HG.out (grown_trans (grown_set _ _ _ _) (grown_set _ _ _ _))⟩
set_option maxRecDepth 100000 in
theorem push3_t (g : Nat) (z b y : Int) (hy : z + b % 128 * 2097152 = y) (w : World) (h : RdAt w g ⟨z, 3, false, false⟩) (z0 : 0 ≤ z) (z1 : z < 268435456) (b0 : 0 ≤ b) (b1 : b < 256) :
    Calls Tryz.prog 195 #[.pointer (some ⟨g, 0, none⟩), .int .u8 b] w fun e w' =>
      (if decide (128 ≤ b) = true then e = .returned (.tuple #[.bool false, .int .i64 5]) ∧ RdAt w' g ⟨y, 4, false, true⟩
       else if decide (b = 0) = true then e = .returned (.tuple #[.bool false, .int .i64 5]) ∧ RdAt w' g ⟨y, 4, false, true⟩ else e = .returned (.tuple #[.bool true, .int .i64 0]) ∧ RdAt w' g ⟨y, 4, true, false⟩) ∧ w.grownBy w' (some g) := by
  obtain ⟨c0, c1, c2, c3⟩ := rd_cells h
  have f0 := rd_free h 0
  have ha := and127 b0 b1
  have hb := and128 b0 b1
  have m0 : 0 ≤ b % 128 := by omega
  have m1 : b % 128 < 128 := by omega
  have HX := Lib.hid (rd_set h 0 (.int .i64 y) ⟨y, 3, false, false⟩ rfl)
  have HG : Hid (w.grownBy ((w.setCell ⟨g, 0, none⟩ (.int .i64 y)).drew) (some g)) := Lib.hid (grown_trans (grown_set _ _ _ _) (grown_drewN _ _ 1))
  clear h
  go_enter Tryz.func195, Tryz.ntmps195
  go_wp2
  go_region
  try rw [hy]
  have HX1 : Hid (RdAt ((w.setCell ⟨g, 0, none⟩ (.int .i64 y)).drew) g ⟨y, 3, false, false⟩) := HX
  clear c0 c1 c2 c3 f0 ha HX
  generalize (w.setCell ⟨g, 0, none⟩ (.int .i64 y)).drew = w1 at *
  obtain ⟨c0, c1, c2, c3⟩ := rd_cells HX1.out
  have f1 := rd_free HX1.out 1
  have f2 := rd_free HX1.out 2
  have f3 := rd_free HX1.out 3
  simp only [] at c1
  have HX2 := Lib.hid (rd_set HX1.out 1 (.int .i64 4) ⟨y, 4, false, false⟩ rfl)
  clear m0 m1 c0
  cases hc : decide (128 ≤ b)
  · rw [hc] at hb
    cases hd : decide (b = 0)
    · have hd' : (b == 0) = false := by simpa using hd
      have HX3 := Lib.hid (rd_set HX2.out 2 (.bool true) ⟨y, 4, true, false⟩ rfl)
      go_wp2
      all_goals (go_ret2; refine ⟨?_, grown_trans HG.out (grown_trans (grown_set _ _ _ _) (grown_set _ _ _ _))⟩; first | exact ⟨rfl, HX3.out⟩ | (rw [if_neg Bool.false_ne_true, if_neg Bool.false_ne_true]; exact ⟨rfl, HX3.out⟩))
    · have hd' : (b == 0) = true := by simpa using hd
      have HX3 := Lib.hid (rd_set HX2.out 3 (.bool true) ⟨y, 4, false, true⟩ rfl)
      go_wp2
      all_goals (go_ret2; refine ⟨?_, grown_trans HG.out (grown_trans (grown_set _ _ _ _) (grown_set _ _ _ _))⟩; first | exact ⟨rfl, HX3.out⟩ | (rw [if_neg Bool.false_ne_true, if_pos rfl]; exact ⟨rfl, HX3.out⟩))
  · rw [hc] at hb
    have HX3 := Lib.hid (rd_set HX2.out 3 (.bool true) ⟨y, 4, false, true⟩ rfl)
    go_wp2
    go_ret2
    exact ⟨by first | exact ⟨rfl, HX3.out⟩ | (rw [if_pos rfl]; exact ⟨rfl, HX3.out⟩), grown_trans HG.out (grown_trans (grown_set _ _ _ _) (grown_set _ _ _ _))⟩
def pushR (k : Nat) (z b : Int) : Bool × Int × Rd :=
  if decide (128 ≤ b) = true then (false, if k == 3 then 5 else 0, ⟨z + b % 128 * 128 ^ k, (k : Int) + 1, false, k == 3⟩)
  else if (decide (b = 0) && decide (1 ≤ k)) = true then (false, 5, ⟨z + b % 128 * 128 ^ k, (k : Int) + 1, false, true⟩)
  else (true, 0, ⟨z + b % 128 * 128 ^ k, (k : Int) + 1, true, false⟩)
theorem push_t (k : Nat) (k4 : k < 4) (g : Nat) (z b : Int) (w : World) (h : RdAt w g ⟨z, (k : Int), false, false⟩) (z0 : 0 ≤ z) (z1 : z < 268435456) (b0 : 0 ≤ b) (b1 : b < 256) :
    Calls Tryz.prog 195 #[.pointer (some ⟨g, 0, none⟩), .int .u8 b] w fun e w' =>
      e = .returned (.tuple #[.bool (pushR k z b).1, .int .i64 (pushR k z b).2.1]) ∧ RdAt w' g (pushR k z b).2.2 ∧ w.grownBy w' (some g) := by
  rcases (show k = 0 ∨ k = 1 ∨ k = 2 ∨ k = 3 by omega) with rfl | rfl | rfl | rfl
  · refine (push0_t g z b (z + b % 128 * 128 ^ 0) (by omega) w h z0 z1 b0 b1).mono ?_
    rintro e w' ⟨hq, hg⟩
    refine ⟨?_, ?_, hg⟩ <;> (cases hc : decide (128 ≤ b) <;> rw [hc] at hq <;> simp only [pushR, hc, if_true, if_false, Bool.false_eq_true] at hq ⊢ <;> simp at hq ⊢ <;> first | exact hq.1 | exact hq.2)
  · refine (push1_t g z b (z + b % 128 * 128 ^ 1) (by omega) w h z0 z1 b0 b1).mono ?_
    rintro e w' ⟨hq, hg⟩
    refine ⟨?_, ?_, hg⟩ <;> (cases hc : decide (128 ≤ b) <;> cases hd : decide (b = 0) <;> rw [hc] at hq <;> (try rw [hd] at hq) <;> simp only [pushR, hc, hd, if_true, if_false, Bool.false_eq_true] at hq ⊢ <;> simp at hq ⊢ <;> first | exact hq.1 | exact hq.2)
  · refine (push2_t g z b (z + b % 128 * 128 ^ 2) (by omega) w h z0 z1 b0 b1).mono ?_
    rintro e w' ⟨hq, hg⟩
    refine ⟨?_, ?_, hg⟩ <;> (cases hc : decide (128 ≤ b) <;> cases hd : decide (b = 0) <;> rw [hc] at hq <;> (try rw [hd] at hq) <;> simp only [pushR, hc, hd, if_true, if_false, Bool.false_eq_true] at hq ⊢ <;> simp at hq ⊢ <;> first | exact hq.1 | exact hq.2)
  · refine (push3_t g z b (z + b % 128 * 128 ^ 3) (by omega) w h z0 z1 b0 b1).mono ?_
    rintro e w' ⟨hq, hg⟩
    refine ⟨?_, ?_, hg⟩ <;> (cases hc : decide (128 ≤ b) <;> cases hd : decide (b = 0) <;> rw [hc] at hq <;> (try rw [hd] at hq) <;> simp only [pushR, hc, hd, if_true, if_false, Bool.false_eq_true] at hq ⊢ <;> simp at hq ⊢ <;> first | exact hq.1 | exact hq.2)
end Go.Proofs.YtjlkhihlbdokpaaGreat
/- varint.Read: the number that a text begins with. -/
namespace Go.Proofs.YtjlkhihlbdokpaaGreat
open Go.RowKit Go.Sort
set_option maxHeartbeats 2000000
set_option linter.unusedVariables false
set_option linter.unusedSimpArgs false
theorem pushR_cases {k : Nat} (k4 : k < 4) {z b : Int} (z0 : 0 ≤ z) (z1 : z < 128 ^ k) (b0 : 0 ≤ b) (b1 : b < 256) :
    (k < 3 ∧ pushR k z b = (false, 0, ⟨z + b % 128 * 128 ^ k, ((k + 1 : Nat) : Int), false, false⟩) ∧ 0 ≤ z + b % 128 * 128 ^ k ∧ z + b % 128 * 128 ^ k < 128 ^ (k + 1)) ∨
    (∃ r, pushR k z b = (false, 5, r)) ∨ pushR k z b = (true, 0, ⟨z + b % 128 * 128 ^ k, ((k + 1 : Nat) : Int), true, false⟩) := by
  have hb0 : 0 ≤ b % 128 := by omega
  have hb1 : b % 128 < 128 := by omega
  rcases (show k = 0 ∨ k = 1 ∨ k = 2 ∨ k = 3 by omega) with rfl | rfl | rfl | rfl <;> unfold pushR <;> split
  all_goals first
    | (left; exact ⟨by omega, rfl, by omega, by omega⟩)
    | (right; left; exact ⟨_, rfl⟩)
    | (split <;> (right; first | (left; exact ⟨_, rfl⟩) | (right; rfl)))
set_option maxRecDepth 100000 in
theorem vnew_t (w : World) : Calls Tryz.prog 194 #[] w fun e w' => e = .returned (.pointer (some ⟨w.heap.size, 0, none⟩)) ∧ w' = w.alloc (.cells (rdC ⟨0, 0, false, false⟩) 192) := by
  go_enter Tryz.func194, Tryz.ntmps194
  go_wp2
  go_ret
  exact ⟨rfl, rfl⟩
def viGo : Nat → ByteArray → Nat → Int → Int × Int × Int
  | 0, _, _, _ => (0, 0, 5)
  | f + 1, s, k, z => if h : k < s.size then
      (let r := pushR k z ((s[k]'h).toNat : Int)
       if r.2.1 = 0 then (if r.1 = true then (r.2.2.n, r.2.2.size, 0) else viGo f s (k + 1) r.2.2.n) else (0, 0, r.2.1))
    else (0, 0, 3)
def viRead (s : ByteArray) : Int × Int × Int := viGo 4 s 0 0
theorem viGo_step {f : Nat} {s : ByteArray} {k : Nat} {z : Int} (h : k < s.size) {x : Int} (hx : ((s[k]'h).toNat : Int) = x) {d : Bool} {e : Int} {r : Rd} (hp : pushR k z x = (d, e, r)) : viGo (f + 1) s k z = if e = 0 then (if d = true then (r.n, r.size, 0) else viGo f s (k + 1) r.n) else (0, 0, e) := by
  rw [viGo, dif_pos h, hx, hp]
theorem viGo_end {f : Nat} {s : ByteArray} {k : Nat} {z : Int} (h : ¬ k < s.size) : viGo (f + 1) s k z = (0, 0, 3) := by rw [viGo, dif_neg h]
theorem rd_grown {a b : World} {g : Nat} {r : Rd} (h : RdAt a g r) (n : Nat) (hn : n ≤ g) (hb : b.heap[g]? = a.heap[g]?) : RdAt b g r := by unfold RdAt; rw [hb]; exact h
set_option maxRecDepth 100000 in
theorem read_t (s : ByteArray) (w : World) (hs : s.size ≤ 140737488351232) : Calls Tryz.prog 165 #[.string s] w fun e w' => e = .returned (.tuple #[.int .i64 (viRead s).1, .int .i64 (viRead s).2.1, .int .i64 (viRead s).2.2]) ∧ Below w.heap.size w w' := by
  go_enter Tryz.func165, Tryz.ntmps165
  go_wp2_with fail
  refine (vnew_t _).mono ?_
  rintro e w1 ⟨rfl, hw⟩
  have HR0 : Hid (RdAt w1 w.heap.size ⟨0, ((0 : Nat) : Int), false, false⟩) := Lib.hid (by rw [hw]; exact heap_alloc_new ..)
  have HB0 : Hid (Below w.heap.size w w1) := Lib.hid (by rw [hw]; exact (Below.refl w.heap.size w).alloc (Nat.le_refl _) _)
  clear hw
  go_wp2
  go_loopw [12] (fun v12 wr => ∃ (k : Nat) (z : Int), k < 4 ∧ k ≤ s.size ∧ v12 = .int .i64 k ∧ 0 ≤ z ∧ z < 128 ^ k ∧ RdAt wr w.heap.size ⟨z, (k : Int), false, false⟩ ∧ Below w.heap.size w wr ∧ viRead s = viGo (4 - k) s k z) (fun v12 _ => 4 - (intOf v12).toNat)
  case atStart => exact ⟨0, 0, by omega, by omega, rfl, by omega, by decide, HR0.out, HB0.out, rfl⟩
  case round =>
    obtain ⟨k, z, hk, hks, rfl, z0, z1, hrd, hbel, hgo⟩ := hrel
    have HZ : Hid (0 ≤ z ∧ z < 128 ^ k) := Lib.hid ⟨z0, z1⟩
    have z2 : z < 268435456 := by
      rcases (show k = 0 ∨ k = 1 ∨ k = 2 ∨ k = 3 by omega) with rfl | rfl | rfl | rfl <;> simp at z1 <;> omega
    have HRD := Lib.hid hrd
    have HBE := Lib.hid hbel
    obtain ⟨m, hm⟩ : ∃ m, 4 - k = m + 1 := ⟨3 - k, by omega⟩
    rw [hm] at hgo
    have HGO := Lib.hid hgo
    clear hrd hbel hgo z1
    by_cases hlt : k < s.size
    · obtain ⟨x, hx⟩ : ∃ x, s[k]'hlt = x := ⟨_, rfl⟩
      have hx0 := x.toNat_lt
      have HP := Lib.hid (pushR_cases hk HZ.out.1 HZ.out.2 (show (0 : Int) ≤ (x.toNat : Int) by omega) (show (x.toNat : Int) < 256 by omega))
      have HS := Lib.hid (fun d e r hp => viGo_step (f := m) (z := z) hlt (x := (x.toNat : Int)) (by rw [hx]) (d := d) (e := e) (r := r) hp)
      have HX0 : Hid ((0 : Int) ≤ (x.toNat : Int) ∧ (x.toNat : Int) < 256) := Lib.hid ⟨by omega, by omega⟩
      have HZ2 := Lib.hid z2
      clear z2 z0
      go_wp2_with fail
      refine (push_t k hk w.heap.size z (x.toNat : Int) wr HRD.out HZ.out.1 HZ2.out HX0.out.1 HX0.out.2).mono ?_
      rintro e w2 ⟨rfl, hr2, hg2⟩
      have HB2 : Hid (Below w.heap.size w w2) := Lib.hid (HBE.out.grown hg2 HBE.out.size (fun i e => by cases e; exact Nat.le_refl _))
      rcases HP.out with ⟨hk3, hp, hp0, hp1⟩ | ⟨r, hp⟩ | hp
      · rw [hp] at hr2 ⊢
        have HG3 : Hid (viRead s = viGo (4 - (k + 1)) s (k + 1) (z + (x.toNat : Int) % 128 * 128 ^ k)) := Lib.hid (by rw [HGO.out, HS.out _ _ _ hp, if_pos rfl, if_neg Bool.false_ne_true, show 4 - (k + 1) = m by omega])
        have HP3 := Lib.hid (⟨hp0, hp1⟩ : _ ∧ _)
        have HR3 := Lib.hid hr2
        have HW := Lib.hid hg2
        generalize z + (x.toNat : Int) % 128 * 128 ^ k = z3 at *
        clear hp hp0 hp1 hr2 hg2 HP HS HX0 HZ2 HRD HZ
        simp only []
        go_wp2
        go_roundw
        case rel => exact ⟨k + 1, z3, by omega, by omega, by go_num, HP3.out.1, HP3.out.2, HR3.out, HB2.out, HG3.out⟩
        case measure => simp [intOf]; omega
      · rw [hp]
        have HE : Hid (viRead s = (0, 0, 5)) := Lib.hid (by rw [HGO.out, HS.out _ _ _ hp, if_neg (by decide)])
        clear hr2 hg2 HP HS hp
        simp only []
        go_wp2
        go_ret3
        exact ⟨by rw [HE.out]; rfl, HB2.out⟩
      · rw [hp] at hr2 ⊢
        have HE : Hid (viRead s = (z + (x.toNat : Int) % 128 * 128 ^ k, ((k + 1 : Nat) : Int), 0)) := Lib.hid (by rw [HGO.out, HS.out _ _ _ hp, if_pos rfl, if_pos rfl])
        generalize z + (x.toNat : Int) % 128 * 128 ^ k = z3 at *
        simp only [] at hr2 ⊢
        obtain ⟨c0, c1, c2, c3⟩ := rd_cells hr2
        simp only [] at c0 c1
        clear hr2 hg2 HP HS hp c2 c3
        go_wp2
        go_quiet (fail)
        go_wp2
        go_ret3
        exact ⟨by rw [HE.out]; rfl, HB2.out.grown (grown_drewN _ none _) HB2.out.size (fun i e => by cases e)⟩
    · have HE : Hid (viRead s = (0, 0, 3)) := Lib.hid (by rw [HGO.out, viGo_end hlt])
      go_wp2
      go_ret3
      exact ⟨by rw [HE.out]; rfl, HBE.out⟩
end Go.Proofs.YtjlkhihlbdokpaaGreat
/- prop.source: what its calls read. -/
namespace Go.Proofs.YtjlkhihlbdokpaaGreat
open Go.RowKit Go.Sort
set_option maxHeartbeats 2000000
set_option linter.unusedVariables false
set_option linter.unusedSimpArgs false
def srcC (g : Nat) (p : Prp) : Array Value := #[.pointer (some ⟨g, 0, none⟩), .int .i64 p.id, .int .u32 p.n, .string p.text, .string p.value]
def SrcAt (w : World) (S g : Nat) (p : Prp) (c : Cu) : Prop := w.heap[S]? = some (.cells (srcC g p) 196 (0, 0)) ∧ CurAt w g c ∧ S ≠ g
structure TwoBy (S g : Nat) (a b : World) : Prop where
  os : b.os = a.os
  tape : b.tape = a.tape
  output : b.output = a.output
  size : a.heap.size ≤ b.heap.size
  block : ∀ i, i < a.heap.size → i ≠ S → i ≠ g → b.heap[i]? = a.heap[i]?
theorem TwoBy.trans {S g : Nat} {a b c : World} (h : TwoBy S g a b) (k : TwoBy S g b c) : TwoBy S g a c :=
  ⟨k.os.trans h.os, k.tape.trans h.tape, k.output.trans h.output, Nat.le_trans h.size k.size, fun i hi h1 h2 => (k.block i (Nat.lt_of_lt_of_le hi h.size) h1 h2).trans (h.block i hi h1 h2)⟩
theorem TwoBy.refl (S g : Nat) (a : World) : TwoBy S g a a := ⟨rfl, rfl, rfl, Nat.le_refl _, fun _ _ _ _ => rfl⟩
theorem two_g {S g : Nat} {a b : World} (h : a.grownBy b (some g)) : TwoBy S g a b := ⟨h.os, h.tape, h.output, h.size, fun i hi _ h2 => h.block i hi (fun e => h2 (by cases e; rfl))⟩
theorem two_S {S g : Nat} {a b : World} (h : a.grownBy b (some S)) : TwoBy S g a b := ⟨h.os, h.tape, h.output, h.size, fun i hi h1 _ => h.block i hi (fun e => h1 (by cases e; rfl))⟩
theorem two_below {S g : Nat} {a b : World} (h : Below a.heap.size a b) : TwoBy S g a b := ⟨h.os, h.tape, h.output, h.size, fun i hi _ _ => h.block i hi⟩
theorem src_cur {w w' : World} {S g : Nat} {p : Prp} {c c' : Cu} (h : SrcAt w S g p c) (hc : CurAt w' g c') (hg : w.grownBy w' (some g)) : SrcAt w' S g p c' :=
  ⟨by rw [hg.block S (Array.getElem?_eq_some_iff.1 h.1).1 (fun e => h.2.2 (by cases e; rfl))]; exact h.1, hc, h.2.2⟩
theorem src_below {w w' : World} {S g : Nat} {p : Prp} {c : Cu} (h : SrcAt w S g p c) (hb : Below w.heap.size w w') : SrcAt w' S g p c :=
  ⟨by rw [hb.block S (Array.getElem?_eq_some_iff.1 h.1).1]; exact h.1, cur_below h.2.1 hb, h.2.2⟩
theorem src_set {w : World} {S g : Nat} {p : Prp} {c : Cu} (h : SrcAt w S g p c) (i : Nat) (v : Value) (p' : Prp) (e : (srcC g p).setIfInBounds i v = srcC g p') : SrcAt (w.setCell ⟨S, i, none⟩ v) S g p' c := by
  refine ⟨?_, ?_, h.2.2⟩
  · rw [heap_setCell_same w S i _ _ v h.1, e]
  · unfold CurAt; rw [heap_setCell_other _ _ _ _ (fun e => h.2.2 e.symm)]; exact h.2.1
theorem src_cells {w : World} {S g : Nat} {p : Prp} {c : Cu} (h : SrcAt w S g p c) : w.cell? ⟨S, 0, none⟩ = some (.pointer (some ⟨g, 0, none⟩)) ∧ (w.cell? ⟨S, 1, none⟩ = some (.int .i64 p.id) ∧ w.cell? ⟨S, 2, none⟩ = some (.int .u32 p.n) ∧ w.cell? ⟨S, 3, none⟩ = some (.string p.text) ∧ w.cell? ⟨S, 4, none⟩ = some (.string p.value)) :=
  ⟨by rw [cell_of_row _ _ _ _ _ _ h.1]; rfl, by rw [cell_of_row _ _ _ _ _ _ h.1]; rfl, by rw [cell_of_row _ _ _ _ _ _ h.1]; rfl, by rw [cell_of_row _ _ _ _ _ _ h.1]; rfl, by rw [cell_of_row _ _ _ _ _ _ h.1]; rfl⟩
theorem src_free {w : World} {S g : Nat} {p : Prp} {c : Cu} (h : SrcAt w S g p c) (i : Nat) : w.frozen? ⟨S, i, none⟩ = false := frozen_of_row _ _ i _ _ h.1
def cutB (c : Cu) (n : Int) : Bool := if c.err == 0 then (if decide (n < 0) = true then true else decide (leftF c < n)) else false
def needF (c : Cu) (n : Int) : ByteArray × Cu := takeF (if cutB c n = true then failF c 5 else c) n
theorem needF_ok {c : Cu} (ok : CuOK c) (n : Int) : CuOK (needF c n).2 := by
  unfold needF
  split
  · exact takeF_ok (failF_ok ok 5) n
  · exact takeF_ok ok n
theorem needF_size {c : Cu} (ok : CuOK c) (n : Int) : (needF c n).1.size ≤ n.toNat := by
  unfold needF
  split
  · exact take_size (failF_ok ok 5) n
  · exact take_size ok n
theorem needF_all {c : Cu} (ok : CuOK c) (n : Int) : (needF c n).1.size ≤ 140737488351232 := by
  have h : ∀ {c : Cu}, CuOK c → (takeF c n).1.size ≤ c.s.size := by
    intro c ok
    unfold takeF
    split
    · split
      · simp only [ByteArray.size_extract]; omega
      · exact Nat.zero_le _
    · exact Nat.zero_le _
  unfold needF
  split
  · exact Nat.le_trans (h (failF_ok ok 5)) (failF_ok ok 5).size
  · exact Nat.le_trans (h ok) ok.size
set_option maxRecDepth 100000 in
theorem need_t (S g : Nat) (p : Prp) (c : Cu) (n : Int) (w : World) (h : SrcAt w S g p c) (ok : CuOK c) : Calls Tryz.prog 218 #[.pointer (some ⟨S, 0, none⟩), .int .i64 n] w fun e w' => e = .returned (.string (needF c n).1) ∧ SrcAt w' S g p (needF c n).2 ∧ TwoBy S g w w' := by
  have HC := Lib.hid h
  have HO := Lib.hid ok
  obtain ⟨s0, -⟩ := src_cells h
  clear h ok
  cases he : (c.err == 0)
  · have HE : Hid (needF c n = takeF c n) := Lib.hid (by simp only [needF, cutB, he, if_false, Bool.false_eq_true])
    go_enter Tryz.func218, Tryz.ntmps218
    go_wp2_with fail
    refine (err_t g c _ HC.out.2.1).mono ?_
    rintro e w1 ⟨rfl, hw⟩
    subst hw
    go_wp2_with fail
    refine (take_t g c n _ HC.out.2.1 HO.out).mono ?_
    rintro e w2 ⟨rfl, hc, hg⟩
    have HX := Lib.hid (src_cur HC.out hc hg)
    have HG := Lib.hid (two_g (S := S) hg)
    clear hc hg
    go_wp2
    go_ret
    exact ⟨by rw [HE.out]; rfl, by rw [HE.out]; exact HX.out, HG.out⟩
  cases hn : decide (n < 0)
  · go_enter Tryz.func218, Tryz.ntmps218
    go_wp2_with fail
    refine (err_t g c _ HC.out.2.1).mono ?_
    rintro e w1 ⟨rfl, hw⟩
    subst hw
    go_wp2_with fail
    refine (left_t g c _ HC.out.2.1 HO.out).mono ?_
    rintro e w2 ⟨rfl, hc, hg⟩
    have HX := Lib.hid (src_cur HC.out hc hg)
    have HG := Lib.hid (two_g (S := S) hg)
    obtain ⟨t0, -⟩ := src_cells HX.out
    clear hc hg s0
    cases hl : decide (leftF c < n)
    · have HE : Hid (needF c n = takeF c n) := Lib.hid (by simp only [needF, cutB, he, hn, hl, if_false, if_true, Bool.false_eq_true])
      go_wp2_with fail
      refine (take_t g c n _ HX.out.2.1 HO.out).mono ?_
      rintro e w3 ⟨rfl, hc, hg⟩
      have HX3 := Lib.hid (src_cur HX.out hc hg)
      have HG3 := Lib.hid (HG.out.trans (two_g (S := S) hg))
      clear hc hg
      go_wp2
      go_ret
      exact ⟨by rw [HE.out]; rfl, by rw [HE.out]; exact HX3.out, HG3.out⟩
    · have HE : Hid (needF c n = takeF (failF c 5) n) := Lib.hid (by simp only [needF, cutB, he, hn, hl, if_false, if_true, Bool.false_eq_true])
      go_wp2_with fail
      refine (fail_t g c 5 _ HX.out.2.1).mono ?_
      rintro e w3 ⟨rfl, hc, hg⟩
      have HX3 := Lib.hid (src_cur HX.out hc hg)
      have HG3 := Lib.hid (HG.out.trans (two_g (S := S) hg))
      obtain ⟨q0, -⟩ := src_cells HX3.out
      clear hc hg t0
      go_wp2_with fail
      refine (take_t g (failF c 5) n _ HX3.out.2.1 (failF_ok HO.out 5)).mono ?_
      rintro e w4 ⟨rfl, hc, hg⟩
      have HX4 := Lib.hid (src_cur HX3.out hc hg)
      have HG4 := Lib.hid (HG3.out.trans (two_g (S := S) hg))
      clear hc hg
      go_wp2
      go_ret
      exact ⟨by rw [HE.out]; rfl, by rw [HE.out]; exact HX4.out, HG4.out⟩
  · have HE : Hid (needF c n = takeF (failF c 5) n) := Lib.hid (by simp only [needF, cutB, he, hn, if_false, if_true, Bool.false_eq_true])
    go_enter Tryz.func218, Tryz.ntmps218
    go_wp2_with fail
    refine (err_t g c _ HC.out.2.1).mono ?_
    rintro e w1 ⟨rfl, hw⟩
    subst hw
    go_wp2_with fail
    refine (fail_t g c 5 _ HC.out.2.1).mono ?_
    rintro e w3 ⟨rfl, hc, hg⟩
    have HX3 := Lib.hid (src_cur HC.out hc hg)
    have HG3 := Lib.hid (two_g (S := S) hg)
    obtain ⟨q0, -⟩ := src_cells HX3.out
    clear hc hg s0
    go_wp2_with fail
    refine (take_t g (failF c 5) n _ HX3.out.2.1 (failF_ok HO.out 5)).mono ?_
    rintro e w4 ⟨rfl, hc, hg⟩
    have HX4 := Lib.hid (src_cur HX3.out hc hg)
    have HG4 := Lib.hid (HG3.out.trans (two_g (S := S) hg))
    clear hc hg
    go_wp2
    go_ret
    exact ⟨by rw [HE.out]; rfl, by rw [HE.out]; exact HX4.out, HG4.out⟩
end Go.Proofs.YtjlkhihlbdokpaaGreat
/- prop.source: its readers. -/
namespace Go.Proofs.YtjlkhihlbdokpaaGreat
open Go.RowKit Go.Sort
set_option maxHeartbeats 2000000
set_option linter.unusedVariables false
set_option linter.unusedSimpArgs false
theorem getF_bd {s : ByteArray} {k : Nat} (h : s.size ≤ k) : 0 ≤ getF s ∧ getF s < 256 ^ k := by
  have := getL_bd s.size s.data.toList (by rw [Array.length_toList]; rfl)
  refine ⟨this.1, Int.lt_of_lt_of_le this.2 ?_⟩
  obtain ⟨d, rfl⟩ := Nat.exists_eq_add_of_le h
  have e := Int.ofNat_le.2 (Nat.pow_le_pow_right (show 256 > 0 by decide) (Nat.le_add_right s.size d))
  rw [Int.natCast_pow, Int.natCast_pow] at e
  exact e
def numN (c : Cu) (k : Int) : Int := getF (needF c k).1
theorem u32w {z : Int} (h0 : 0 ≤ z) (h1 : z < 4294967296) : IntKind.u32.wrap z = z := by
  have := IntKind.wrap_u32 z
  rw [this]; omega
theorem i64w {z : Int} (h0 : 0 ≤ z) (h1 : z < 4294967296) : IntKind.i64.wrap z = z := IntWalk.i64_in _ ⟨by omega, by omega⟩
set_option maxRecDepth 100000 in
theorem one_t (S g : Nat) (p : Prp) (c : Cu) (w : World) (h : SrcAt w S g p c) (ok : CuOK c) : Calls Tryz.prog 210 #[.pointer (some ⟨S, 0, none⟩)] w fun e w' => e = .returned (.tuple #[]) ∧ SrcAt w' S g { p with n := numN c 1 } (needF c 1).2 ∧ TwoBy S g w w' := by
  have HC := Lib.hid h
  have HO := Lib.hid ok
  have HZ : Hid ((needF c 1).1.size ≤ 4) := Lib.hid (Nat.le_trans (needF_size ok 1) (by decide))
  have HE : Hid (numN c 1 = getF (needF c 1).1) := Lib.hid rfl
  clear h ok
  go_enter Tryz.func210, Tryz.ntmps210
  go_wp2_with fail
  refine (need_t S g p c 1 _ HC.out HO.out).mono ?_
  rintro e w2 ⟨rfl, hc, hg⟩
  go_wp2_with fail
  refine (get_t _ _ HZ.out).mono ?_
  rintro e w3 ⟨rfl, hw⟩
  subst hw
  obtain ⟨z0, z1⟩ := getF_bd (k := 4) HZ.out
  have f2 := src_free hc 2
  obtain ⟨s0, s1, s2, s3, s4⟩ := src_cells hc
  have HX := Lib.hid (src_set hc 2 (.int .u32 (getF (needF c 1).1)) { p with n := getF (needF c 1).1 } rfl)
  have HG := Lib.hid (hg.trans (two_S (S := S) (grown_set w3 S 2 (.int .u32 (getF (needF c 1).1)))))
  rw [← HE.out] at HX HG z0 z1 ⊢
  have hz := u32w z0 z1
  clear hc hg s0 s1 s3 s4
  go_wp2
  go_end0
  exact ⟨rfl, HX.out, HG.out⟩
set_option maxRecDepth 100000 in
theorem two_t (S g : Nat) (p : Prp) (c : Cu) (w : World) (h : SrcAt w S g p c) (ok : CuOK c) : Calls Tryz.prog 211 #[.pointer (some ⟨S, 0, none⟩)] w fun e w' => e = .returned (.tuple #[]) ∧ SrcAt w' S g { p with n := numN c 2 } (needF c 2).2 ∧ TwoBy S g w w' := by
  have HC := Lib.hid h
  have HO := Lib.hid ok
  have HZ : Hid ((needF c 2).1.size ≤ 4) := Lib.hid (Nat.le_trans (needF_size ok 2) (by decide))
  have HE : Hid (numN c 2 = getF (needF c 2).1) := Lib.hid rfl
  clear h ok
  go_enter Tryz.func211, Tryz.ntmps211
  go_wp2_with fail
  refine (need_t S g p c 2 _ HC.out HO.out).mono ?_
  rintro e w2 ⟨rfl, hc, hg⟩
  go_wp2_with fail
  refine (get_t _ _ HZ.out).mono ?_
  rintro e w3 ⟨rfl, hw⟩
  subst hw
  obtain ⟨z0, z1⟩ := getF_bd (k := 4) HZ.out
  have f2 := src_free hc 2
  obtain ⟨s0, s1, s2, s3, s4⟩ := src_cells hc
  have HX := Lib.hid (src_set hc 2 (.int .u32 (getF (needF c 2).1)) { p with n := getF (needF c 2).1 } rfl)
  have HG := Lib.hid (hg.trans (two_S (S := S) (grown_set w3 S 2 (.int .u32 (getF (needF c 2).1)))))
  rw [← HE.out] at HX HG z0 z1 ⊢
  have hz := u32w z0 z1
  clear hc hg s0 s1 s3 s4
  go_wp2
  go_end0
  exact ⟨rfl, HX.out, HG.out⟩
set_option maxRecDepth 100000 in
theorem four_t (S g : Nat) (p : Prp) (c : Cu) (w : World) (h : SrcAt w S g p c) (ok : CuOK c) : Calls Tryz.prog 212 #[.pointer (some ⟨S, 0, none⟩)] w fun e w' => e = .returned (.tuple #[]) ∧ SrcAt w' S g { p with n := numN c 4 } (needF c 4).2 ∧ TwoBy S g w w' := by
  have HC := Lib.hid h
  have HO := Lib.hid ok
  have HZ : Hid ((needF c 4).1.size ≤ 4) := Lib.hid (Nat.le_trans (needF_size ok 4) (by decide))
  have HE : Hid (numN c 4 = getF (needF c 4).1) := Lib.hid rfl
  clear h ok
  go_enter Tryz.func212, Tryz.ntmps212
  go_wp2_with fail
  refine (need_t S g p c 4 _ HC.out HO.out).mono ?_
  rintro e w2 ⟨rfl, hc, hg⟩
  go_wp2_with fail
  refine (get_t _ _ HZ.out).mono ?_
  rintro e w3 ⟨rfl, hw⟩
  subst hw
  obtain ⟨z0, z1⟩ := getF_bd (k := 4) HZ.out
  have f2 := src_free hc 2
  obtain ⟨s0, s1, s2, s3, s4⟩ := src_cells hc
  have HX := Lib.hid (src_set hc 2 (.int .u32 (getF (needF c 4).1)) { p with n := getF (needF c 4).1 } rfl)
  have HG := Lib.hid (hg.trans (two_S (S := S) (grown_set w3 S 2 (.int .u32 (getF (needF c 4).1)))))
  rw [← HE.out] at HX HG z0 z1 ⊢
  have hz := u32w z0 z1
  clear hc hg s0 s1 s3 s4
  go_wp2
  go_end0
  exact ⟨rfl, HX.out, HG.out⟩
theorem viGo_bd : ∀ (f : Nat) (s : ByteArray) (k : Nat) (z : Int), f + k ≤ 4 → 0 ≤ z → z < 128 ^ k → (0 ≤ (viGo f s k z).1 ∧ (viGo f s k z).1 < 268435456) ∧ 0 ≤ (viGo f s k z).2.1 ∧ (viGo f s k z).2.1 ≤ 4
  | 0, s, k, z, _, _, _ => by rw [viGo]; decide
  | f + 1, s, k, z, hk, z0, z1 => by
    by_cases h : k < s.size
    · obtain ⟨x, hx⟩ : ∃ x, s[k]'h = x := ⟨_, rfl⟩
      have hx0 := x.toNat_lt
      rcases pushR_cases (k := k) (by omega) z0 z1 (show (0 : Int) ≤ (x.toNat : Int) by omega) (show (x.toNat : Int) < 256 by omega) with ⟨hk3, hp, hp0, hp1⟩ | ⟨r, hp⟩ | hp
      · rw [viGo_step h (by rw [hx]) hp, if_pos rfl, if_neg Bool.false_ne_true]
        exact viGo_bd f s (k + 1) _ (by omega) hp0 hp1
      · rw [viGo_step h (by rw [hx]) hp, if_neg (by decide)]; decide
      · rw [viGo_step h (by rw [hx]) hp, if_pos rfl, if_pos rfl]
        have hb0 : 0 ≤ (x.toNat : Int) % 128 := by omega
        have hb1 : (x.toNat : Int) % 128 < 128 := by omega
        generalize (x.toNat : Int) % 128 = y at *
        simp only []
        rcases (show k = 0 ∨ k = 1 ∨ k = 2 ∨ k = 3 by omega) with rfl | rfl | rfl | rfl <;> simp at z1 ⊢ <;> omega
    · rw [viGo_end h]; decide
theorem viRead_bd (s : ByteArray) : (0 ≤ (viRead s).1 ∧ (viRead s).1 < 268435456) ∧ 0 ≤ (viRead s).2.1 ∧ (viRead s).2.1 ≤ 4 := viGo_bd 4 s 0 0 (by omega) (by omega) (by decide)
def varyC (c : Cu) : Cu := (takeF (if (viRead (restF c)).2.2 != 0 then failF c 5 else c) (viRead (restF c)).2.1).2
def varyN (c : Cu) : Int := (viRead (restF c)).1
theorem varyC_ok {c : Cu} (ok : CuOK c) : CuOK (varyC c) := by
  unfold varyC; split
  · exact takeF_ok (failF_ok ok 5) _
  · exact takeF_ok ok _
theorem rest_le {c : Cu} (ok : CuOK c) : (restF c).size ≤ 140737488351232 := by
  have := ok.size
  simp only [restF, ByteArray.size_extract]; omega
set_option maxRecDepth 100000 in
theorem vary_t (S g : Nat) (p : Prp) (c : Cu) (w : World) (h : SrcAt w S g p c) (ok : CuOK c) : Calls Tryz.prog 213 #[.pointer (some ⟨S, 0, none⟩)] w fun e w' => e = .returned (.tuple #[]) ∧ SrcAt w' S g { p with n := varyN c } (varyC c) ∧ TwoBy S g w w' := by
  have HC := Lib.hid h
  have HO := Lib.hid ok
  obtain ⟨s0, -⟩ := src_cells h
  have HN : Hid (varyN c = (viRead (restF c)).1) := Lib.hid rfl
  have HV : Hid (varyC c = (takeF (if (viRead (restF c)).2.2 != 0 then failF c 5 else c) (viRead (restF c)).2.1).2) := Lib.hid rfl
  obtain ⟨⟨n0, n1⟩, -, -⟩ := viRead_bd (restF c)
  clear h ok
  go_enter Tryz.func213, Tryz.ntmps213
  go_wp2_with fail
  refine (rest_t g c _ HC.out.2.1 HO.out).mono ?_
  rintro e w2 ⟨rfl, hc, hg⟩
  have HX := Lib.hid (src_cur HC.out hc hg)
  have HG := Lib.hid (two_g (S := S) hg)
  clear hc hg s0
  go_wp2_with fail
  refine (read_t (restF c) _ (rest_le HO.out)).mono ?_
  rintro e w3 ⟨rfl, hb⟩
  have HX3 := Lib.hid (src_below HX.out hb)
  have HG3 := Lib.hid (HG.out.trans (two_below hb))
  obtain ⟨s0, -⟩ := src_cells HX3.out
  clear hb
  generalize (viRead (restF c)).1 = zn at *
  generalize (viRead (restF c)).2.1 = zs at *
  generalize (viRead (restF c)).2.2 = ze at *
  have f2 := src_free HX3.out 2
  have hz := u32w n0 (show zn < 4294967296 by omega)
  cases he : (ze != 0)
  · rw [he, if_neg Bool.false_ne_true] at HV
    have HX4 := Lib.hid (src_set HX3.out 2 (.int .u32 zn) { p with n := zn } rfl)
    have HG4 := Lib.hid (HG3.out.trans (two_S (grown_set w3 S 2 (.int .u32 zn))))
    obtain ⟨q0, -⟩ := src_cells HX4.out
    obtain ⟨-, s1, s2, s3, s4⟩ := src_cells HX3.out
    go_wp2_with fail
    refine (take_t g c zs _ HX4.out.2.1 HO.out).mono ?_
    rintro e w5 ⟨rfl, hc, hg⟩
    have HX5 := Lib.hid (src_cur HX4.out hc hg)
    have HG5 := Lib.hid (HG4.out.trans (two_g (S := S) hg))
    clear hc hg
    go_wp2
    go_end0
    exact ⟨rfl, by rw [HV.out, HN.out]; exact HX5.out, HG5.out⟩
  · rw [he, if_pos rfl] at HV
    go_wp2_with fail
    refine (fail_t g c 5 _ HX3.out.2.1).mono ?_
    rintro e w4 ⟨rfl, hc, hg⟩
    have HX5 := Lib.hid (src_cur HX3.out hc hg)
    have HG5 := Lib.hid (HG3.out.trans (two_g (S := S) hg))
    clear hc hg s0 f2
    have f2 := src_free HX5.out 2
    have HX4 := Lib.hid (src_set HX5.out 2 (.int .u32 zn) { p with n := zn } rfl)
    have HG4 := Lib.hid (HG5.out.trans (two_S (grown_set w4 S 2 (.int .u32 zn))))
    obtain ⟨q0, -⟩ := src_cells HX4.out
    obtain ⟨s0, s1, s2, s3, s4⟩ := src_cells HX5.out
    go_wp2_with fail
    refine (take_t g (failF c 5) zs _ HX4.out.2.1 (failF_ok HO.out 5)).mono ?_
    rintro e w6 ⟨rfl, hc, hg⟩
    have HX6 := Lib.hid (src_cur HX4.out hc hg)
    have HG6 := Lib.hid (HG4.out.trans (two_g (S := S) hg))
    clear hc hg
    go_wp2
    go_end0
    exact ⟨rfl, by rw [HV.out, HN.out]; exact HX6.out, HG6.out⟩
def dataF (c : Cu) : ByteArray × Cu := needF (needF c 2).2 (numN c 2)
theorem dataF_ok {c : Cu} (ok : CuOK c) : CuOK (dataF c).2 := needF_ok (needF_ok ok 2) _
theorem dataF_size {c : Cu} (ok : CuOK c) : (dataF c).1.size ≤ 65535 := by
  have h := needF_size (needF_ok ok 2) (numN c 2)
  have h2 := getF_bd (s := (needF c 2).1) (k := 2) (needF_size ok 2)
  have e : numN c 2 = getF (needF c 2).1 := rfl
  have e2 : (dataF c).1 = (needF (needF c 2).2 (numN c 2)).1 := rfl
  rw [e2]; rw [e] at h ⊢; omega
set_option maxRecDepth 100000 in
theorem data_u (S g : Nat) (p : Prp) (c : Cu) (w : World) (h : SrcAt w S g p c) (ok : CuOK c) : Calls Tryz.prog 220 #[.pointer (some ⟨S, 0, none⟩)] w fun e w' => e = .returned (.string (dataF c).1) ∧ SrcAt w' S g p (dataF c).2 ∧ TwoBy S g w w' := by
  have HC := Lib.hid h
  have HO := Lib.hid ok
  have HZ : Hid ((needF c 2).1.size ≤ 4) := Lib.hid (Nat.le_trans (needF_size ok 2) (by decide))
  have HE : Hid (numN c 2 = getF (needF c 2).1) := Lib.hid rfl
  have HD : Hid (dataF c = needF (needF c 2).2 (numN c 2)) := Lib.hid rfl
  clear h ok
  go_enter Tryz.func220, Tryz.ntmps220
  go_wp2_with fail
  refine (need_t S g p c 2 _ HC.out HO.out).mono ?_
  rintro e w2 ⟨rfl, hc, hg⟩
  have HX := Lib.hid hc
  have HG := Lib.hid hg
  clear hc hg
  go_wp2_with fail
  refine (get_t _ _ HZ.out).mono ?_
  rintro e w3 ⟨rfl, hw⟩
  subst hw
  obtain ⟨z0, z1⟩ := getF_bd (k := 4) HZ.out
  rw [← HE.out] at z0 z1 ⊢
  have hz := i64w z0 z1
  go_wp2_with fail
  refine (need_t S g p (needF c 2).2 (numN c 2) _ HX.out (needF_ok HO.out 2)).mono ?_
  rintro e w4 ⟨rfl, hc, hg⟩
  have HX4 := Lib.hid hc
  have HG4 := Lib.hid (HG.out.trans hg)
  clear hc hg
  go_wp2
  go_ret
  exact ⟨by rw [HD.out]; rfl, by rw [HD.out]; exact HX4.out, HG4.out⟩
def writtenF (c : Cu) : ByteArray × Cu := ((dataF c).1, if validU (dataF c).1 = true then (dataF c).2 else failF (dataF c).2 6)
theorem writtenF_ok {c : Cu} (ok : CuOK c) : CuOK (writtenF c).2 := by
  unfold writtenF; simp only []; split
  · exact dataF_ok ok
  · exact failF_ok (dataF_ok ok) 6
set_option maxRecDepth 100000 in
theorem written_t (S g : Nat) (p : Prp) (c : Cu) (w : World) (h : SrcAt w S g p c) (ok : CuOK c) : Calls Tryz.prog 219 #[.pointer (some ⟨S, 0, none⟩)] w fun e w' => e = .returned (.string (writtenF c).1) ∧ SrcAt w' S g p (writtenF c).2 ∧ TwoBy S g w w' := by
  have HC := Lib.hid h
  have HO := Lib.hid ok
  have HD : Hid (writtenF c = ((dataF c).1, if validU (dataF c).1 = true then (dataF c).2 else failF (dataF c).2 6)) := Lib.hid rfl
  have HZ := Lib.hid (dataF_size ok)
  clear h ok
  go_enter Tryz.func219, Tryz.ntmps219
  go_wp2_with fail
  refine (data_u S g p c _ HC.out HO.out).mono ?_
  rintro e w2 ⟨rfl, hc, hg⟩
  have HX := Lib.hid hc
  have HG := Lib.hid hg
  clear hc hg
  go_wp2_with fail
  refine (validu_t (dataF c).1 _ (Nat.le_trans HZ.out (by decide))).mono ?_
  rintro e w3 ⟨rfl, hb⟩
  have HX3 := Lib.hid (src_below HX.out hb)
  have HG3 := Lib.hid (HG.out.trans (two_below hb))
  obtain ⟨s0, -⟩ := src_cells HX3.out
  clear hb
  cases hv : validU (dataF c).1
  · rw [hv, if_neg Bool.false_ne_true] at HD
    go_wp2_with fail
    refine (fail_t g (dataF c).2 6 _ HX3.out.2.1).mono ?_
    rintro e w4 ⟨rfl, hc, hg⟩
    have HX5 := Lib.hid (src_cur HX3.out hc hg)
    have HG5 := Lib.hid (HG3.out.trans (two_g (S := S) hg))
    clear hc hg s0
    go_wp2
    go_ret
    exact ⟨by rw [HD.out]; rfl, by rw [HD.out]; exact HX5.out, HG5.out⟩
  · rw [hv, if_pos rfl] at HD
    go_wp2
    go_ret
    exact ⟨by rw [HD.out]; rfl, by rw [HD.out]; exact HX3.out, HG3.out⟩
set_option maxRecDepth 100000 in
theorem srctext_t (S g : Nat) (p : Prp) (c : Cu) (w : World) (h : SrcAt w S g p c) (ok : CuOK c) : Calls Tryz.prog 214 #[.pointer (some ⟨S, 0, none⟩)] w fun e w' => e = .returned (.tuple #[]) ∧ SrcAt w' S g { p with text := (writtenF c).1 } (writtenF c).2 ∧ TwoBy S g w w' := by
  have HC := Lib.hid h
  have HO := Lib.hid ok
  clear h ok
  go_enter Tryz.func214, Tryz.ntmps214
  go_wp2_with fail
  refine (written_t S g p c _ HC.out HO.out).mono ?_
  rintro e w2 ⟨rfl, hc, hg⟩
  have f3 := src_free hc 3
  obtain ⟨s0, s1, s2, s3, s4⟩ := src_cells hc
  have HX := Lib.hid (src_set hc 3 (.string (writtenF c).1) { p with text := (writtenF c).1 } rfl)
  have HG := Lib.hid (hg.trans (two_S (S := S) (grown_set w2 S 3 (.string (writtenF c).1))))
  clear hc hg s0 s1 s2 s4
  go_wp2
  go_end0
  exact ⟨rfl, HX.out, HG.out⟩
set_option maxRecDepth 100000 in
theorem srcbinary_t (S g : Nat) (p : Prp) (c : Cu) (w : World) (h : SrcAt w S g p c) (ok : CuOK c) : Calls Tryz.prog 215 #[.pointer (some ⟨S, 0, none⟩)] w fun e w' => e = .returned (.tuple #[]) ∧ SrcAt w' S g { p with text := (dataF c).1 } (dataF c).2 ∧ TwoBy S g w w' := by
  have HC := Lib.hid h
  have HO := Lib.hid ok
  clear h ok
  go_enter Tryz.func215, Tryz.ntmps215
  go_wp2_with fail
  refine (data_u S g p c _ HC.out HO.out).mono ?_
  rintro e w2 ⟨rfl, hc, hg⟩
  have f3 := src_free hc 3
  obtain ⟨s0, s1, s2, s3, s4⟩ := src_cells hc
  have HX := Lib.hid (src_set hc 3 (.string (dataF c).1) { p with text := (dataF c).1 } rfl)
  have HG := Lib.hid (hg.trans (two_S (S := S) (grown_set w2 S 3 (.string (dataF c).1))))
  clear hc hg s0 s1 s2 s4
  go_wp2
  go_end0
  exact ⟨rfl, HX.out, HG.out⟩
set_option maxRecDepth 100000 in
theorem srcpair_t (S g : Nat) (p : Prp) (c : Cu) (w : World) (h : SrcAt w S g p c) (ok : CuOK c) : Calls Tryz.prog 216 #[.pointer (some ⟨S, 0, none⟩)] w fun e w' => e = .returned (.tuple #[]) ∧ SrcAt w' S g { p with text := (writtenF c).1, value := (writtenF (writtenF c).2).1 } (writtenF (writtenF c).2).2 ∧ TwoBy S g w w' := by
  have HC := Lib.hid h
  have HO := Lib.hid ok
  clear h ok
  go_enter Tryz.func216, Tryz.ntmps216
  go_wp2_with fail
  refine (written_t S g p c _ HC.out HO.out).mono ?_
  rintro e w2 ⟨rfl, hc, hg⟩
  have f3 := src_free hc 3
  obtain ⟨s0, s1, s2, s3, s4⟩ := src_cells hc
  have HX := Lib.hid (src_set hc 3 (.string (writtenF c).1) { p with text := (writtenF c).1 } rfl)
  have HG := Lib.hid (hg.trans (two_S (S := S) (grown_set w2 S 3 (.string (writtenF c).1))))
  clear hc hg s0 s1 s2 s4
  go_wp2_with fail
  refine (written_t S g { p with text := (writtenF c).1 } (writtenF c).2 _ HX.out (writtenF_ok HO.out)).mono ?_
  rintro e w3 ⟨rfl, hc, hg⟩
  have f4 := src_free hc 4
  obtain ⟨s0, s1, s2, s3, s4⟩ := src_cells hc
  have HX3 := Lib.hid (src_set hc 4 (.string (writtenF (writtenF c).2).1) { p with text := (writtenF c).1, value := (writtenF (writtenF c).2).1 } rfl)
  have HG3 := Lib.hid ((HG.out.trans hg).trans (two_S (S := S) (grown_set w3 S 4 (.string (writtenF (writtenF c).2).1))))
  clear hc hg s0 s1 s2 s3
  go_wp2
  go_end0
  exact ⟨rfl, HX3.out, HG3.out⟩
end Go.Proofs.YtjlkhihlbdokpaaGreat
/- kit.SamePacket at packets of equal contents; kit.None. -/
namespace Go.Proofs.YtjlkhihlbdokpaaGreat
open Go.RowKit Go.Sort
set_option maxHeartbeats 2000000
set_option linter.unusedVariables false
set_option linter.unusedSimpArgs false
set_option maxRecDepth 100000 in
theorem samep_yes (A B : Option Addr) (n m c d : Nat) (l : List Prp) (w : World) (hr : RP w A n l) (hs : RP w B m l) : Calls Tryz.prog 64 #[.slice A n c, .slice B m d] w fun e w' => e = .returned (.bool true) ∧ Below w.heap.size w w' := by
  have hmn : m = n := by rw [← hr.1, ← hs.1]
  subst hmn
  have HR := Lib.hid hr
  have HS := Lib.hid hs
  have hn := hr.2.1
  clear hr hs
  go_enter Tryz.func64, Tryz.ntmps64
  go_wp2
  go_loopw [5] (fun v5 wr => ∃ (k : Nat), k ≤ m ∧ v5 = .int .i64 k ∧ Below w.heap.size w wr) (fun v5 _ => m - (intOf v5).toNat)
  case atStart => exact ⟨0, by omega, rfl, Below.refl _ _⟩
  case round =>
    obtain ⟨k, hk, rfl, hbel⟩ := hrel
    have HB := Lib.hid hbel
    by_cases hlt : k < m
    · obtain ⟨b, off, rfl, hblt, hcell⟩ := (HR.out.below hbel).2.2.2 (by omega)
      obtain ⟨b2, off2, rfl, hblt2, hcell2⟩ := (HS.out.below hbel).2.2.2 (by omega)
      obtain ⟨q, hq⟩ : ∃ q, l[k]? = some q := ⟨l[k]'(by rw [HR.out.1]; exact hlt), by simp [HR.out.1, hlt]⟩
      obtain ⟨c0, c1, c2, c3⟩ := hcell k q hq
      obtain ⟨d0, d1, d2, d3⟩ := hcell2 k q hq
      clear hq
      have i0 : (0 : Int) ≤ (k : Int) := by omega
      have i1 : (k : Int) < (m : Int) := by omega
      clear hcell hcell2 hbel
      go_wp2
      go_quiet (fail)
      have HB2 := Lib.hid (ext_then' HB.out (below_drawnN wr nq))
      generalize wr.drewN nq = w2 at *
      go_wp2
      go_roundw
      case rel => exact ⟨k + 1, by omega, by go_num, HB2.out⟩
      case measure => simp [intOf]; omega
    · have hkn : k = m := by omega
      clear hbel
      go_wp2
      go_ret
      exact ⟨rfl, HB.out⟩
set_option maxRecDepth 100000 in
theorem samef_yes (A B : Option Addr) (n m c d : Nat) (l : List Flt) (w : World) (hr : RF w A n l) (hs : RF w B m l) : Calls Tryz.prog 63 #[.slice A n c, .slice B m d] w fun e w' => e = .returned (.bool true) ∧ Below w.heap.size w w' := by
  have hmn : m = n := by rw [← hr.1, ← hs.1]
  subst hmn
  have HR := Lib.hid hr
  have HS := Lib.hid hs
  have hn := hr.2.1
  clear hr hs
  go_enter Tryz.func63, Tryz.ntmps63
  go_wp2
  go_loopw [5] (fun v5 wr => ∃ (k : Nat), k ≤ m ∧ v5 = .int .i64 k ∧ Below w.heap.size w wr) (fun v5 _ => m - (intOf v5).toNat)
  case atStart => exact ⟨0, by omega, rfl, Below.refl _ _⟩
  case round =>
    obtain ⟨k, hk, rfl, hbel⟩ := hrel
    have HB := Lib.hid hbel
    by_cases hlt : k < m
    · obtain ⟨b, off, rfl, hblt, hcell⟩ := (HR.out.below hbel).2.2.2 (by omega)
      obtain ⟨b2, off2, rfl, hblt2, hcell2⟩ := (HS.out.below hbel).2.2.2 (by omega)
      obtain ⟨q, hq⟩ : ∃ q, l[k]? = some q := ⟨l[k]'(by rw [HR.out.1]; exact hlt), by simp [HR.out.1, hlt]⟩
      obtain ⟨c0, c1, c2, c3, c4⟩ := hcell k q hq
      obtain ⟨d0, d1, d2, d3, d4⟩ := hcell2 k q hq
      clear hq
      have i0 : (0 : Int) ≤ (k : Int) := by omega
      have i1 : (k : Int) < (m : Int) := by omega
      clear hcell hcell2 hbel
      go_wp2
      go_quiet (fail)
      have HB2 := Lib.hid (ext_then' HB.out (below_drawnN wr nq))
      generalize wr.drewN nq = w2 at *
      go_wp2
      go_roundw
      case rel => exact ⟨k + 1, by omega, by go_num, HB2.out⟩
      case measure => simp [intOf]; omega
    · have hkn : k = m := by omega
      clear hbel
      go_wp2
      go_ret
      exact ⟨rfl, HB.out⟩
set_option maxRecDepth 100000 in
theorem samei_yes (A B : Option Addr) (n m c d : Nat) (l : List Int) (w : World) (hr : RI w A n l) (hs : RI w B m l) : Calls Tryz.prog 62 #[.slice A n c, .slice B m d] w fun e w' => e = .returned (.bool true) ∧ Below w.heap.size w w' := by
  have hmn : m = n := by rw [← hr.1, ← hs.1]
  subst hmn
  have HR := Lib.hid hr
  have HS := Lib.hid hs
  have hn := hr.2.1
  clear hr hs
  go_enter Tryz.func62, Tryz.ntmps62
  go_wp2
  go_loopw [5] (fun v5 wr => ∃ (k : Nat), k ≤ m ∧ v5 = .int .i64 k ∧ Below w.heap.size w wr) (fun v5 _ => m - (intOf v5).toNat)
  case atStart => exact ⟨0, by omega, rfl, Below.refl _ _⟩
  case round =>
    obtain ⟨k, hk, rfl, hbel⟩ := hrel
    have HB := Lib.hid hbel
    by_cases hlt : k < m
    · obtain ⟨b, off, rfl, hblt, hcell⟩ := (HR.out.below hbel).2.2 (by omega)
      obtain ⟨b2, off2, rfl, hblt2, hcell2⟩ := (HS.out.below hbel).2.2 (by omega)
      have c0 := hcell k hlt
      have d0 := hcell2 k hlt
      generalize l.getD k 0 = q at *
      have i0 : (0 : Int) ≤ (k : Int) := by omega
      have i1 : (k : Int) < (m : Int) := by omega
      clear hcell hcell2 hbel
      go_wp2
      go_quiet (fail)
      have HB2 := Lib.hid (ext_then' HB.out (below_drawnN wr nq))
      generalize wr.drewN nq = w2 at *
      go_wp2
      go_roundw
      case rel => exact ⟨k + 1, by omega, by go_num, HB2.out⟩
      case measure => simp [intOf]; omega
    · have hkn : k = m := by omega
      clear hbel
      go_wp2
      go_ret
      exact ⟨rfl, HB.out⟩
set_option maxRecDepth 100000 in
theorem samew_yes (p : Pk) (s : Sl) (cs ds : Array Value) (hcs : cs = willC p) (hds : ds = willC { p with wProps := s }) (l : List Prp) (w : World) (hr : RP w p.wProps.A p.wProps.n l) (hs : RP w s.A s.n l) :
    Calls Tryz.prog 61 #[.agg cs, .agg ds] w fun e w' => e = .returned (.bool true) ∧ Below w.heap.size w w' := by
  have c0 : cs[0]? = some (.string p.wTopic) := by rw [hcs]; rfl
  have c1 : cs[1]? = some (.string p.wPayload) := by rw [hcs]; rfl
  have c2 : cs[2]? = some (.int .i64 p.wQoS) := by rw [hcs]; rfl
  have c3 : cs[3]? = some (.bool p.wRetain) := by rw [hcs]; rfl
  have c4 : cs[4]? = some (.slice p.wProps.A p.wProps.n p.wProps.c) := by rw [hcs]; rfl
  have d0 : ds[0]? = some (.string p.wTopic) := by rw [hds]; rfl
  have d1 : ds[1]? = some (.string p.wPayload) := by rw [hds]; rfl
  have d2 : ds[2]? = some (.int .i64 p.wQoS) := by rw [hds]; rfl
  have d3 : ds[3]? = some (.bool p.wRetain) := by rw [hds]; rfl
  have d4 : ds[4]? = some (.slice s.A s.n s.c) := by rw [hds]; rfl
  have HR := Lib.hid hr
  have HS := Lib.hid hs
  clear hcs hds hr hs
  go_enter Tryz.func61, Tryz.ntmps61
  go_wp2_with fail
  have hB := ((Below.refl w.heap.size w).alloc (Nat.le_refl _) (.cells cs 24)).alloc (by simp) (.cells ds 24)
  have HB := Lib.hid hB
  refine (samep_yes p.wProps.A s.A p.wProps.n s.n p.wProps.c s.c l _ (RP.below HR.out hB) (RP.below HS.out hB)).mono ?_
  rintro e w2 ⟨rfl, hb⟩
  have HB2 := Lib.hid (ext_then' HB.out hb)
  clear hb hB
  go_wp2
  go_ret
  exact ⟨rfl, HB2.out⟩
/-- The same packet with other slices. -/
def reSl (p : Pk) (w c f s : Sl) : Pk := { p with wProps := w, codes := c, filters := f, props := s }
theorem will_load {ops : Array Oper} {rest : List Oper} {o : Oper} {a : Act} {w : World} {Q : Exit → Act → World → Prop} (g : Nat) (p : Pk) (x : Operand) (hg : w.heap[g]? = some (.cells (packC p) 28 (0, 0)))
    (hgd : o.guard = none) (ho : o.op = .load 24 x) (hx : a.eval x = .pointer (some ⟨g, 15, none⟩)) (h : wpList Tryz.prog ops Q rest (a.put o.dst (.agg (willC p))) w) : wpList Tryz.prog ops Q (o :: rest) a w :=
  wpList_plain hgd fun _ hK => by
    unfold Oper.wp execOp
    simp only [ho, hx, Instr.loadAt, Instr.sureAddr, Sem.run_bind, Sem.run_pure, Result.andThen_ok, load_will g p w hg]
    exact hK _ _ h
set_option maxRecDepth 100000 in
theorem samepk_yes (p : Pk) (ws cs fs ss : Sl) (lw : List Prp) (lc : List Int) (lf : List Flt) (lp : List Prp) (w : World) (hr : RPk w p lw lc lf lp) (hw : RP w ws.A ws.n lw) (hc : RI w cs.A cs.n lc) (hf : RF w fs.A fs.n lf) (hp : RP w ss.A ss.n lp) :
    Calls Tryz.prog 14 #[.agg (packC p), .agg (packC (reSl p ws cs fs ss))] w fun e w' => e = .returned (.bool true) ∧ Below w.heap.size w w' := by
  have HR := Lib.hid hr
  have HW := Lib.hid hw
  have HC := Lib.hid hc
  have HF := Lib.hid hf
  have HP := Lib.hid hp
  clear hr hw hc hf hp
  have HG := Lib.hid (heap_alloc2_old w (.cells (packC p) 28) (.cells (packC (reSl p ws cs fs ss)) 28))
  have HH := Lib.hid (heap_alloc2_new w (.cells (packC p) 28) (.cells (packC (reSl p ws cs fs ss)) 28))
  have HB1 := Lib.hid (((Below.refl w.heap.size w).alloc (Nat.le_refl _) (.cells (packC p) 28)).alloc (by simp) (.cells (packC (reSl p ws cs fs ss)) 28))
  go_enter Tryz.func14, Tryz.ntmps14
  go_wp2_with (first | ((with_reducible refine will_load w.heap.size p (.tmp 5) HG.out ?a1 ?b1 ?c1 ?d1); (case a1 => rfl); (case b1 => rfl); (case c1 => rfl)) | ((with_reducible refine will_load (w.heap.size + 1) (reSl p ws cs fs ss) (.tmp 7) HH.out ?a2 ?b2 ?c2 ?d2); (case a2 => rfl); (case b2 => rfl); (case c2 => rfl)))
  refine (samew_yes p ws (willC p) (willC (reSl p ws cs fs ss)) rfl rfl lw _ (HR.out.will.below HB1.out) (HW.out.below HB1.out)).mono ?_
  rintro e w2 ⟨rfl, hb⟩
  have HB2 := Lib.hid (ext_then' HB1.out hb)
  have HG2 := Lib.hid (row_then HG.out hb)
  have HH2 := Lib.hid (row_then HH.out hb)
  clear hb HG HH HB1
  have HG := HG2
  have HH := HH2
  clear HG2 HH2
  have c22 : w2.cell? ⟨w.heap.size, 22, none⟩ = some (.slice p.codes.A p.codes.n p.codes.c) := pack_at HG.out 22 _ rfl
  have d22 : w2.cell? ⟨w.heap.size + 1, 22, none⟩ = some (.slice cs.A cs.n cs.c) := pack_at HH.out 22 _ rfl
  go_wp2_with fail
  refine (samei_yes p.codes.A cs.A p.codes.n cs.n p.codes.c cs.c lc _ (HR.out.codes.below HB2.out) (HC.out.below HB2.out)).mono ?_
  rintro e w3 ⟨rfl, hb⟩
  have HB3 := Lib.hid (ext_then' HB2.out hb)
  have HG3 := Lib.hid (row_then HG.out hb)
  have HH3 := Lib.hid (row_then HH.out hb)
  clear hb HG HH HB2 c22 d22
  have HG := HG3
  have HH := HH3
  clear HG3 HH3
  have c23 : w3.cell? ⟨w.heap.size, 23, none⟩ = some (.slice p.filters.A p.filters.n p.filters.c) := pack_at HG.out 23 _ rfl
  have d23 : w3.cell? ⟨w.heap.size + 1, 23, none⟩ = some (.slice fs.A fs.n fs.c) := pack_at HH.out 23 _ rfl
  go_wp2_with fail
  refine (samef_yes p.filters.A fs.A p.filters.n fs.n p.filters.c fs.c lf _ (HR.out.filters.below HB3.out) (HF.out.below HB3.out)).mono ?_
  rintro e w4 ⟨rfl, hb⟩
  have HB4 := Lib.hid (ext_then' HB3.out hb)
  have HG4 := Lib.hid (row_then HG.out hb)
  have HH4 := Lib.hid (row_then HH.out hb)
  clear hb HG HH HB3 c23 d23
  have HG := HG4
  have HH := HH4
  clear HG4 HH4
  have c24 : w4.cell? ⟨w.heap.size, 24, none⟩ = some (.slice p.props.A p.props.n p.props.c) := pack_at HG.out 24 _ rfl
  have d24 : w4.cell? ⟨w.heap.size + 1, 24, none⟩ = some (.slice ss.A ss.n ss.c) := pack_at HH.out 24 _ rfl
  go_wp2_with fail
  refine (samep_yes p.props.A ss.A p.props.n ss.n p.props.c ss.c lp _ (HR.out.props.below HB4.out) (HP.out.below HB4.out)).mono ?_
  rintro e w5 ⟨rfl, hb⟩
  have HB5 := Lib.hid (ext_then' HB4.out hb)
  have HG5 := Lib.hid (row_then HG.out hb)
  have HH5 := Lib.hid (row_then HH.out hb)
  clear hb HG HH HB4 c24 d24
  have HG := HG5
  have HH := HH5
  clear HG5 HH5
  have c0 : w5.cell? ⟨w.heap.size, 0, none⟩ = some (.int .i64 (p.kind)) := pack_at HG.out 0 _ rfl
  have d0 : w5.cell? ⟨w.heap.size + 1, 0, none⟩ = some (.int .i64 (p.kind)) := pack_at HH.out 0 _ rfl
  have c1 : w5.cell? ⟨w.heap.size, 1, none⟩ = some (.bool (p.dup)) := pack_at HG.out 1 _ rfl
  have d1 : w5.cell? ⟨w.heap.size + 1, 1, none⟩ = some (.bool (p.dup)) := pack_at HH.out 1 _ rfl
  have c2 : w5.cell? ⟨w.heap.size, 2, none⟩ = some (.bool (p.retain)) := pack_at HG.out 2 _ rfl
  have d2 : w5.cell? ⟨w.heap.size + 1, 2, none⟩ = some (.bool (p.retain)) := pack_at HH.out 2 _ rfl
  have c3 : w5.cell? ⟨w.heap.size, 3, none⟩ = some (.int .i64 (p.qos)) := pack_at HG.out 3 _ rfl
  have d3 : w5.cell? ⟨w.heap.size + 1, 3, none⟩ = some (.int .i64 (p.qos)) := pack_at HH.out 3 _ rfl
  have c4 : w5.cell? ⟨w.heap.size, 4, none⟩ = some (.int .i64 (p.id)) := pack_at HG.out 4 _ rfl
  have d4 : w5.cell? ⟨w.heap.size + 1, 4, none⟩ = some (.int .i64 (p.id)) := pack_at HH.out 4 _ rfl
  have c5 : w5.cell? ⟨w.heap.size, 5, none⟩ = some (.string (p.topic)) := pack_at HG.out 5 _ rfl
  have d5 : w5.cell? ⟨w.heap.size + 1, 5, none⟩ = some (.string (p.topic)) := pack_at HH.out 5 _ rfl
  have c6 : w5.cell? ⟨w.heap.size, 6, none⟩ = some (.string (p.payload)) := pack_at HG.out 6 _ rfl
  have d6 : w5.cell? ⟨w.heap.size + 1, 6, none⟩ = some (.string (p.payload)) := pack_at HH.out 6 _ rfl
  have c7 : w5.cell? ⟨w.heap.size, 7, none⟩ = some (.bool (p.clean)) := pack_at HG.out 7 _ rfl
  have d7 : w5.cell? ⟨w.heap.size + 1, 7, none⟩ = some (.bool (p.clean)) := pack_at HH.out 7 _ rfl
  have c8 : w5.cell? ⟨w.heap.size, 8, none⟩ = some (.int .i64 (p.keep)) := pack_at HG.out 8 _ rfl
  have d8 : w5.cell? ⟨w.heap.size + 1, 8, none⟩ = some (.int .i64 (p.keep)) := pack_at HH.out 8 _ rfl
  have c9 : w5.cell? ⟨w.heap.size, 9, none⟩ = some (.string (p.client)) := pack_at HG.out 9 _ rfl
  have d9 : w5.cell? ⟨w.heap.size + 1, 9, none⟩ = some (.string (p.client)) := pack_at HH.out 9 _ rfl
  have c10 : w5.cell? ⟨w.heap.size, 10, none⟩ = some (.bool (p.hasUser)) := pack_at HG.out 10 _ rfl
  have d10 : w5.cell? ⟨w.heap.size + 1, 10, none⟩ = some (.bool (p.hasUser)) := pack_at HH.out 10 _ rfl
  have c11 : w5.cell? ⟨w.heap.size, 11, none⟩ = some (.string (p.user)) := pack_at HG.out 11 _ rfl
  have d11 : w5.cell? ⟨w.heap.size + 1, 11, none⟩ = some (.string (p.user)) := pack_at HH.out 11 _ rfl
  have c12 : w5.cell? ⟨w.heap.size, 12, none⟩ = some (.bool (p.hasPass)) := pack_at HG.out 12 _ rfl
  have d12 : w5.cell? ⟨w.heap.size + 1, 12, none⟩ = some (.bool (p.hasPass)) := pack_at HH.out 12 _ rfl
  have c13 : w5.cell? ⟨w.heap.size, 13, none⟩ = some (.string (p.pass)) := pack_at HG.out 13 _ rfl
  have d13 : w5.cell? ⟨w.heap.size + 1, 13, none⟩ = some (.string (p.pass)) := pack_at HH.out 13 _ rfl
  have c14 : w5.cell? ⟨w.heap.size, 14, none⟩ = some (.bool (p.hasWill)) := pack_at HG.out 14 _ rfl
  have d14 : w5.cell? ⟨w.heap.size + 1, 14, none⟩ = some (.bool (p.hasWill)) := pack_at HH.out 14 _ rfl
  have c20 : w5.cell? ⟨w.heap.size, 20, none⟩ = some (.bool (p.session)) := pack_at HG.out 20 _ rfl
  have d20 : w5.cell? ⟨w.heap.size + 1, 20, none⟩ = some (.bool (p.session)) := pack_at HH.out 20 _ rfl
  have c21 : w5.cell? ⟨w.heap.size, 21, none⟩ = some (.int .i64 (p.code)) := pack_at HG.out 21 _ rfl
  have d21 : w5.cell? ⟨w.heap.size + 1, 21, none⟩ = some (.int .i64 (p.code)) := pack_at HH.out 21 _ rfl
  clear HG HH HR HW HC HF HP
  go_wp2
  go_ret
  exact ⟨rfl, HB5.out⟩
theorem nil_RI (w : World) : RI w zeroSl.A zeroSl.n [] := ⟨rfl, by decide, fun h => absurd h (by decide)⟩
theorem nil_RF (w : World) : RF w zeroSl.A zeroSl.n [] := ⟨rfl, by decide, fun p (h : p ∈ ([] : List Flt)) => absurd h (by simp), fun h => absurd h (by decide)⟩
theorem nil_RP0 (w : World) : RP w zeroSl.A zeroSl.n [] := ⟨rfl, by decide, fun p (h : p ∈ ([] : List Prp)) => absurd h (by simp), fun h => absurd h (by decide)⟩
theorem zero_ok : PkOK zeroPk := ⟨by decide, by decide, by decide, by decide, by decide, by decide, by decide, by decide, by decide, by decide, by decide, by decide, by decide, by decide, by decide⟩
theorem zero_RPk (w : World) : RPk w zeroPk [] [] [] [] := ⟨zero_ok, nil_RP0 w, nil_RI w, nil_RF w, nil_RP0 w⟩
set_option maxRecDepth 100000 in
theorem none_t (w : World) : Calls Tryz.prog 16 #[.agg (packC zeroPk)] w fun e w' => e = .returned (.bool true) ∧ Below w.heap.size w w' := by
  have HG := Lib.hid (heap_alloc_new w (.cells (packC zeroPk) 28))
  have HB1 := Lib.hid ((Below.refl w.heap.size w).alloc (Nat.le_refl _) (.cells (packC zeroPk) 28))
  go_enter Tryz.func16, Tryz.ntmps16
  go_wp2_with ((with_reducible refine pack_load w.heap.size zeroPk (.tmp 1) HG.out ?a1 ?b1 ?c1 ?d1); (case a1 => rfl); (case b1 => rfl); (case c1 => rfl))
  refine (samepk_yes zeroPk zeroSl zeroSl zeroSl zeroSl [] [] [] [] _ (zero_RPk _) (nil_RP0 _) (nil_RI _) (nil_RF _) (nil_RP0 _)).mono ?_
  rintro e w2 ⟨rfl, hb⟩
  have HB2 := Lib.hid (ext_then' HB1.out hb)
  clear hb
  go_wp2
  go_ret
  exact ⟨rfl, HB2.out⟩
end Go.Proofs.YtjlkhihlbdokpaaGreat
