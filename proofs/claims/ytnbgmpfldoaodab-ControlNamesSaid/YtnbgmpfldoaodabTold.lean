/- control.told: its walk. -/
import Derived.Test.YtnbgmpfldoaodabPc
import Derived.Test.YtnbgmpfldoaodabControlB
namespace Go.Proofs.Ytnbgmpfldoaodab
open Go.RowKit Go.Sort
set_option maxHeartbeats 2000000
set_option linter.unusedVariables false
set_option linter.unusedSimpArgs false
def byte0 (s : ByteArray) : Int := if h : 0 < s.size then ((s[0]'h).toNat : Int) else 0
def tail1 (s : ByteArray) : ByteArray := s.extract 1 s.size
def toldF (kind : Int) (s : ByteArray) : Int × List Prp × Int :=
  if s.size = 0 then (0, [], 0)
  else if s.size = 1 then (if byte0 s == 0 then (0, [], 5) else (byte0 s, [], 0))
  else if (preadF kind (tail1 s)).2.2 != 0 then (0, [], (preadF kind (tail1 s)).2.2)
  else if (preadF kind (tail1 s)).1.length = 0 then (0, [], 5)
  else if decide (1 + (preadF kind (tail1 s)).2.1 < (s.size : Int)) = true then (0, [], 5)
  else (byte0 s, (preadF kind (tail1 s)).1, 0)
theorem preadF_bd (kind : Int) (s : ByteArray) : 0 ≤ (preadF kind s).2.1 ∧ (preadF kind s).2.1 ≤ 268435460 := by
  obtain ⟨⟨a, b⟩, c, d⟩ := viRead_bd s
  unfold preadF
  split
  · split
    · exact ⟨Int.le_refl 0, show (0 : Int) ≤ 268435460 by decide⟩
    · simp only []
      split
      · exact ⟨by show 0 ≤ _ + _; omega, by show _ + _ ≤ _; omega⟩
      · exact ⟨Int.le_refl 0, show (0 : Int) ≤ 268435460 by decide⟩
  · exact ⟨Int.le_refl 0, show (0 : Int) ≤ 268435460 by decide⟩
set_option maxRecDepth 100000 in
theorem told_t (kind : Int) (s : ByteArray) (w : World) (hs : s.size ≤ 140737488351232) : Calls Try.prog 38 #[.int .i64 kind, .string s] w fun e w' => ∃ sl : Sl, e = .returned (.tuple #[.int .i64 (toldF kind s).1, .slice sl.A sl.n sl.c, .int .i64 (toldF kind s).2.2]) ∧ Below w.heap.size w w' ∧ LsAt w' w.heap.size sl (toldF kind s).2.1 := by
  have HF : Hid (toldF kind s = _) := Lib.hid (by unfold toldF; rfl)
  by_cases h0 : s.size = 0
  · have HE : Hid (toldF kind s = (0, [], 0)) := Lib.hid (HF.out.trans (if_pos h0))
    obtain rfl : s = ⟨#[]⟩ := by apply ByteArray.ext; exact Array.eq_empty_of_size_eq_zero h0
    clear HF
    go_enter Try.func38, Try.ntmps38
    go_wp2
    go_ret3
    exact ⟨nilS, by rw [HE.out]; rfl, Below.refl _ _, by rw [HE.out]; exact ls_nil _ _⟩
  have hpos : 0 < s.size := by omega
  have he1 : (s.toList.isEmpty) = false := by
    rw [ByteArray.toList_eq, List.isEmpty_eq_false_iff]
    intro e
    have := congrArg List.length e
    rw [Array.length_toList] at this
    exact h0 this
  have he2 : ¬ s.toList = [] := by simpa using he1
  have HF1 := Lib.hid (HF.out.trans (if_neg h0))
  obtain ⟨x, hx⟩ : ∃ x, s[0]'hpos = x := ⟨_, rfl⟩
  have hb0 : byte0 s = (x.toNat : Int) := by unfold byte0; rw [dif_pos hpos, hx]
  have hx0 := x.toNat_lt
  rw [hb0] at HF1
  by_cases h1 : s.size = 1
  · have HF2 := Lib.hid (HF1.out.trans (if_pos h1))
    have hd1 : ((s.size : Int) == 1) = true := by simp; omega
    cases hz : ((x.toNat : Int) == 0)
    · have HE : Hid (toldF kind s = ((x.toNat : Int), [], 0)) := Lib.hid (HF2.out.trans (if_neg (by rw [hz]; decide)))
      clear HF HF1 HF2 h1
      go_enter Try.func38, Try.ntmps38
      go_wp2
      go_ret3
      exact ⟨nilS, by rw [HE.out]; rfl, Below.refl _ _, by rw [HE.out]; exact ls_nil _ _⟩
    · have HE : Hid (toldF kind s = (0, [], 5)) := Lib.hid (HF2.out.trans (if_pos hz))
      clear HF HF1 HF2 h1
      go_enter Try.func38, Try.ntmps38
      go_wp2
      go_ret3
      exact ⟨nilS, by rw [HE.out]; rfl, Below.refl _ _, by rw [HE.out]; exact ls_nil _ _⟩
  have HF2 := Lib.hid (HF1.out.trans (if_neg h1))
  have hd1 : ((s.size : Int) == 1) = false := by simp; omega
  have hz1 : (tail1 s).size ≤ 140737488351232 := by unfold tail1; rw [ByteArray.size_extract]; omega
  have HZ := Lib.hid hz1
  have hT : s.extract 1 s.size = tail1 s := rfl
  have h2 : (1 : Int) ≤ (s.size : Int) := by omega
  have h3 : 1 ≤ s.size := by omega
  clear HF HF1 h1 hz1
  go_enter Try.func38, Try.ntmps38
  go_wp2_with fail
  refine (pread_t kind (tail1 s) _ HZ.out).mono ?_
  rintro e w1 ⟨v, rfl, hb, hown, hok⟩
  obtain ⟨sl, rfl, hn, hls⟩ := ls_of hown hok
  have HLS := Lib.hid hls
  have HB := Lib.hid hb
  have HN := Lib.hid hn
  obtain ⟨b0, b1⟩ := preadF_bd kind (tail1 s)
  clear hown hok hls hb hn
  generalize preadF kind (tail1 s) = r at *
  obtain ⟨l, size, e⟩ := r
  have HF3 : Hid (toldF kind s = if (e != 0) = true then (0, [], e) else if l.length = 0 then (0, [], 5) else if decide (1 + size < (s.size : Int)) = true then (0, [], 5) else ((x.toNat : Int), l, 0)) := HF2
  have b0' : 0 ≤ size := b0
  have b1' : size ≤ 268435460 := b1
  clear HF2 b0 b1
  cases he : (e != 0)
  case true =>
    have HE : Hid (toldF kind s = (0, [], e)) := Lib.hid (HF3.out.trans (if_pos he))
    go_wp2
    go_ret3
    exact ⟨nilS, by rw [HE.out]; rfl, HB.out, by rw [HE.out]; exact ls_nil _ _⟩
  have HF4 := Lib.hid (HF3.out.trans (if_neg (by rw [he]; decide)))
  have hwr : IntKind.i64.wrap (1 + size) = 1 + size := IntWalk.i64_in _ ⟨by omega, by omega⟩
  by_cases hl : l.length = 0
  · have HE : Hid (toldF kind s = (0, [], 5)) := Lib.hid (HF4.out.trans (if_pos hl))
    have hn0 : ((sl.n : Int) == 0) = true := by rw [HN.out]; simpa using hl
    clear HF3 HF4 hl
    go_wp2
    go_ret3
    exact ⟨nilS, by rw [HE.out]; rfl, HB.out, by rw [HE.out]; exact ls_nil _ _⟩
  have HF5 := Lib.hid (HF4.out.trans (if_neg hl))
  have hn0 : ((sl.n : Int) == 0) = false := by rw [HN.out]; simpa using hl
  cases hlt : decide (1 + size < (s.size : Int))
  case true =>
    have HE : Hid (toldF kind s = (0, [], 5)) := Lib.hid (HF5.out.trans (if_pos hlt))
    clear HF3 HF4 HF5 hl
    go_wp2
    go_ret3
    exact ⟨nilS, by rw [HE.out]; rfl, HB.out, by rw [HE.out]; exact ls_nil _ _⟩
  case false =>
    have HE : Hid (toldF kind s = ((x.toNat : Int), l, 0)) := Lib.hid (HF5.out.trans (if_neg (by rw [hlt]; decide)))
    clear HF3 HF4 HF5 hl
    go_wp2
    go_ret3
    exact ⟨sl, by rw [HE.out]; rfl, HB.out, by rw [HE.out]; exact HLS.out⟩
end Go.Proofs.Ytnbgmpfldoaodab
