/- varint.Bytes; ustring.Binary: bytes of numbers and of texts with their length. -/
import Derived.Test.YtnbgmpfldoaodabOctet
import Derived.OwnWalk
import Derived.Laws.AppendOwn
namespace Go.Proofs.Ytnbgmpfldoaodab
open Go.RowKit
set_option maxHeartbeats 1000000
set_option linter.unusedVariables false
set_option linter.unusedSimpArgs false
/-- Bytes of the call's own. -/
def OwnB (w : World) (base : Nat) (v : Value) (xs : List Int) : Prop := w.ownsRow base 5 1 v xs.length (xs.map (Value.int .u8))
theorem info_u8 : (Try.prog.info? 5).map (fun i => (i.zero, i.size, i.bytes)) = some (some (.int .u8 0), 1, 1) := by kernel_rfl
theorem ownb_string {w : World} {b : Nat} {v : Value} {xs : List Int} (h : OwnB w b v xs) : (convert 71 9 v).run Try.prog w = .ok (.string (strOfNums xs)) w := by
  rcases h.2 with ⟨rfl, h0⟩ | ⟨g, cap, cur, rfl, _⟩
  · obtain rfl : xs = [] := List.eq_nil_of_length_eq_zero h0
    exact run_convert_bytes_nil w 71 5 Try.underlying71 Try.underlying5 0 0 9 Try.underlying9
  · refine run_convert_bytes_arg w 71 5 Try.underlying71 Try.underlying5 g 0 xs.length cap xs rfl (fun i hi => ?_) 9 Try.underlying9
    have hc := World.ownsRow.cells h (g := g) rfl i (.int .u8 (xs.getD i 0)) (by simp [List.getD_eq_getElem?_getD, List.getElem?_eq_getElem hi])
    rw [show (⟨g, 0 + i, none⟩ : Addr) = (⟨g, 0, none⟩ : Addr).add i from by unfold Addr.add; split <;> simp_all]
    exact hc
theorem ownb_ge {w : World} {b : Nat} {v : Value} {xs : List Int} (h : OwnB w b v xs) : ∀ k, v.ownBlock = some k → b ≤ k := fun k hk => (World.ownsRow.lt h k hk).1
theorem ownb_join {w : World} {b : Nat} {v : Value} {xs ys : List Int} {n : Nat} (h : w.ownsRow b 5 1 v (xs.length + n) (xs.map (Value.int .u8) ++ ys.map (Value.int .u8))) (hn : ys.length = n) : OwnB w b v (xs ++ ys) := by
  subst hn
  unfold OwnB
  rw [List.length_append, List.map_append]
  exact h
theorem ownb_below {w w1 : World} {b : Nat} {v : Value} {xs : List Int} (h : OwnB w b v xs) (hb : Below w.heap.size w w1) : OwnB w1 b v xs :=
  World.ownsRow.kept h (row := none) ⟨hb.os, hb.tape, hb.output, hb.size, fun i hi _ => hb.block i hi⟩ (by cases v.ownBlock <;> simp)
theorem ones_one {x : Value} (h : x.oneCell' = true) : ∀ u ∈ [x], u.oneCell' = true := by
  intro u hu
  simp at hu
  subst hu
  exact h
theorem size_le {w wr : World} {o : Obj} (h : w.heap.size ≤ wr.heap.size) : w.heap.size ≤ (wr.alloc o).heap.size := by simp; omega
theorem newb_one (w : World) (x : Value) (T : TypeId) : ∀ (j : Nat) (u : Value), [x][j]? = some u → (w.alloc (.cells #[x] T)).cell? ((⟨w.heap.size, 0, none⟩ : Addr).add j) = some u := by
  intro j u h
  match j, h with
  | 0, h =>
    simp at h; subst h
    rw [show (⟨w.heap.size, 0, none⟩ : Addr).add 0 = ⟨w.heap.size, 0, none⟩ from rfl, cell_of_row _ _ _ _ _ _ (heap_alloc_new w _)]; rfl
def viMay (n : Int) : Bool := decide (0 ≤ n) && decide (n ≤ 268435455)
theorem vimay_t (n : Int) (w : World) : Calls Try.prog 67 #[.int .i64 n] w fun e w' => e = .returned (.bool (viMay n)) ∧ w = w' := by
  by_cases h0 : 0 ≤ n
  · have HE : Hid (viMay n = decide (n ≤ 268435455)) := Lib.hid (by simp [viMay, h0])
    go_enter Try.func67, Try.ntmps67
    go_wp2
    go_ret
    exact ⟨by rw [HE.out]; rfl, rfl⟩
  · have HE : Hid (viMay n = false) := Lib.hid (by simp [viMay, h0])
    have g0 : decide (0 ≤ n) = false := by simp [h0]
    go_enter Try.func67, Try.ntmps67
    go_wp2
    go_ret
    exact ⟨by rw [HE.out]; rfl, rfl⟩
/-- A variable byte integer's bytes. -/
def viL : Nat → Int → List Int
  | 0, n => [n]
  | f + 1, n => if 128 ≤ n then (n % 128 + 128) :: viL f (n / 128) else [n]
def viCap : Nat → Int
  | 0 => 128
  | f + 1 => viCap f * 128
def viS (n : Int) : ByteArray := strOfNums (viL 3 n)
theorem or128 {x : Int} (h0 : 0 ≤ x) (h1 : x < 128) : bits BinOp.or IntKind.u8 x 128 = x + 128 := by
  obtain ⟨n, rfl⟩ := Int.eq_ofNat_of_zero_le h0
  exact (show ∀ n : Nat, n < 128 → bits BinOp.or IntKind.u8 (n : Int) 128 = (n : Int) + 128 from by decide +kernel) n (by omega)
set_option maxRecDepth 100000 in
theorem vibytes_t (n : Int) (w : World) (h0 : 0 ≤ n) (h1 : n ≤ 268435455) : Calls Try.prog 45 #[.int .i64 n] w fun e w' => e = .returned (.tuple #[.string (viS n), .int .i64 0]) ∧ Below w.heap.size w w' := by
  obtain ⟨i0, hif, hz0, hz1, hz2⟩ := info_parts info_u8
  go_enter Try.func45, Try.ntmps45
  go_wp2_with fail
  refine (vimay_t n _).mono ?_
  rintro e w1 ⟨rfl, rfl⟩
  rw [show viMay n = true from by simp [viMay, h0, h1]]
  go_wp2
  go_loopw [0, 4] (fun v0 v4 wr => ∃ (cur : Int) (f : Nat) (out : List Int), 0 ≤ cur ∧ cur ≤ 268435455 ∧ cur < viCap f ∧ out.length + f = 3 ∧ out ++ viL f cur = viL 3 n ∧ v0 = .int .i64 cur ∧ OwnB wr w.heap.size v4 out ∧ Below w.heap.size w wr) (fun v0 _ _ => (intOf v0).toNat)
  case atStart => exact ⟨n, 3, [], by omega, by omega, by simp [viCap]; omega, rfl, rfl, rfl, World.ownsRow_nil _ _ _ _, Below.refl _ _⟩
  case round =>
    obtain ⟨cur, f, out, hc0, hc1, hcap, hlen, hout, rfl, hown, hbel⟩ := hrel
    have HO := Lib.hid (⟨hown, hbel⟩ : _ ∧ _)
    have HE := Lib.hid hout
    have HL := Lib.hid hlen
    have HL3 : Hid (out.length + 1 ≤ maxLen ∧ (out.length + 1) * 1 ≤ 140737488355328) := Lib.hid ⟨by unfold maxLen; omega, by omega⟩
    clear hown hbel hout hlen
    by_cases hge : 128 ≤ cur
    · obtain ⟨f, rfl⟩ : ∃ g, f = g + 1 := by
        cases f with
        | zero => simp [viCap] at hcap; omega
        | succ f => exact ⟨f, rfl⟩
      have HC : Hid (cur / 128 < viCap f) := Lib.hid (by simp only [viCap] at hcap; omega)
      have hor := or128 (x := cur % 128) (by omega) (by omega)
      have HN : Hid ((out ++ [cur % 128 + 128]) ++ viL f (cur / 128) = viL 3 n) := Lib.hid (by rw [← HE.out]; simp [viL, hge])
      clear hcap
      go_wp2_with (at_builtin; refine wpList_append_own _ rfl _ _ 71 rfl w.heap.size 5 i0 (.int .u8 0) 1 1 Try.underlying71 hif hz0 hz1 hz2 rfl (by decide) _ out.length (out.map (Value.int .u8)) rfl (HO.out.1.alloc _) ⟨wr.heap.size, 0, none⟩ 1 1 [.int .u8 (cur % 128 + 128)] rfl rfl (newb_one _ _ _) (ones_one rfl) HL3.out.1 HL3.out.2 (size_le HO.out.2.size) ?_)
      intro v' w3 hown3 hgrow3 _
      have HG := Lib.hid (⟨ownb_join (ys := [cur % 128 + 128]) hown3 rfl, (HO.out.2.alloc HO.out.2.size _).grown hgrow3 (by have := HO.out.2.size; simp; omega) (fun k h => ownb_ge HO.out.1 _ h)⟩ : OwnB w3 w.heap.size v' (out ++ [cur % 128 + 128]) ∧ Below w.heap.size w w3)
      clear hown3 hgrow3 HO
      go_wp2
      go_roundw
      case rel => exact ⟨cur / 128, f, out ++ [cur % 128 + 128], by omega, by omega, HC.out, by have := HL.out; simp; omega, HN.out, rfl, HG.out.1, HG.out.2⟩
      case measure => simp [intOf]; omega
    · have HN : Hid (viS n = strOfNums (out ++ [cur])) := Lib.hid (by
        rw [viS, ← HE.out]
        cases f with
        | zero => rfl
        | succ f => simp [viL, hge])
      go_wp2_with (at_builtin; refine wpList_append_own _ rfl _ _ 71 rfl w.heap.size 5 i0 (.int .u8 0) 1 1 Try.underlying71 hif hz0 hz1 hz2 rfl (by decide) _ out.length (out.map (Value.int .u8)) rfl (HO.out.1.alloc _) ⟨wr.heap.size, 0, none⟩ 1 1 [.int .u8 cur] rfl rfl (newb_one _ _ _) (ones_one rfl) HL3.out.1 HL3.out.2 (size_le HO.out.2.size) ?_)
      intro v' w3 hown3 hgrow3 _
      have hj := ownb_join (ys := [cur]) hown3 rfl
      have hcv := ownb_string hj
      have HG := Lib.hid ((HO.out.2.alloc HO.out.2.size _).grown hgrow3 (by have := HO.out.2.size; simp; omega) (fun k h => ownb_ge HO.out.1 _ h))
      clear hown3 hgrow3 HO hj
      go_wp2
      go_ret2
      exact ⟨by rw [HN.out]; rfl, HG.out⟩
set_option maxRecDepth 100000 in
theorem vibytes_no (n : Int) (w : World) (h : viMay n = false) : Calls Try.prog 45 #[.int .i64 n] w fun e w' => e = .returned (.tuple #[.string ByteArray.empty, .int .i64 2]) ∧ Below w.heap.size w w' := by
  have H := Lib.hid h
  clear h
  go_enter Try.func45, Try.ntmps45
  go_wp2_with fail
  refine (vimay_t n _).mono ?_
  rintro e w1 ⟨rfl, rfl⟩
  rw [H.out]
  go_wp2
  go_ret2
  exact ⟨rfl, Below.refl _ _⟩
/-- Bytes with their length ahead. -/
def framedS (s : ByteArray) : ByteArray := be2 s.size ++ s
set_option maxRecDepth 100000 in
theorem framed_t (s : ByteArray) (w : World) (h : s.size ≤ 140737488351232) : Calls Try.prog 82 #[.string s] w fun e w' => e = .returned (.string (framedS s)) ∧ Below w.heap.size w w' := by
  go_enter Try.func82, Try.ntmps82
  go_wp2_with fail
  refine (put2_t _ _ (by omega) (by omega)).mono ?_
  rintro e w1 ⟨rfl, hb⟩
  have HB := Lib.hid hb
  clear hb
  have hsz : (be2 (s.size : Int)).size = 2 := by simp [be2, strOfNums_size]
  have HE : Hid (framedS s = be2 (s.size : Int) ++ s) := Lib.hid rfl
  have hlt : ¬ 9223372036854775807 < (be2 (s.size : Int)).size + s.size := by omega
  generalize be2 (s.size : Int) = b at *
  go_wp2
  go_ret
  exact ⟨by rw [HE.out]; rfl, HB.out⟩
set_option maxRecDepth 100000 in
theorem binary_t (s : ByteArray) (w : World) (h : s.size ≤ 65535) : Calls Try.prog 66 #[.string s] w fun e w' => e = .returned (.tuple #[.string (framedS s), .int .i64 0]) ∧ Below w.heap.size w w' := by
  go_enter Try.func66, Try.ntmps66
  go_wp2_with fail
  refine (framed_t s _ (by omega)).mono ?_
  rintro e w1 ⟨rfl, hb⟩
  have HB := Lib.hid hb
  clear hb
  go_wp2
  go_ret2
  exact ⟨rfl, HB.out⟩
end Go.Proofs.Ytnbgmpfldoaodab
