/- Bytes and cursors in plain Lean: what is written is read back, and the other way round. -/
import Derived.Test.YtnbgmpfldoaodabList
namespace Go.Proofs.Ytnbgmpfldoaodab
open Go.RowKit
set_option maxHeartbeats 2000000
set_option linter.unusedVariables false
set_option linter.unusedSimpArgs false
def bl (s : ByteArray) : List UInt8 := s.data.toList
theorem bl_inj {s t : ByteArray} (h : bl s = bl t) : s = t := by
  cases s; cases t; congr 1; exact Array.ext' h
theorem bl_app (s t : ByteArray) : bl (s ++ t) = bl s ++ bl t := by simp [bl, ByteArray.data_append]
theorem bl_len (s : ByteArray) : (bl s).length = s.size := by unfold bl; rw [Array.length_toList]; rfl
theorem bl_nil : bl ⟨#[]⟩ = [] := rfl
theorem bl_extract (s : ByteArray) (i j : Nat) : bl (s.extract i j) = ((bl s).drop i).take (j - i) := by
  unfold bl
  rw [ByteArray.data_extract, Array.toList_extract, List.extract_eq_take_drop]
theorem bl_nums (xs : List Int) : bl (strOfNums xs) = xs.map fun n => UInt8.ofNat n.toNat := rfl
def Rm (c : Cu) : List UInt8 := (bl c.s).drop c.pos
structure At (c : Cu) (r : List UInt8) : Prop where
  err : c.err = 0
  rm : Rm c = r
  ok : CuOK c
theorem At.len {c : Cu} {r : List UInt8} (h : At c r) : (r.length : Int) = (c.s.size : Int) - (c.pos : Int) := by
  have := h.ok.pos
  rw [← h.rm, Rm, List.length_drop, bl_len]; omega
theorem At.left {c : Cu} {r : List UInt8} (h : At c r) : leftF c = (r.length : Int) := h.len.symm
theorem At.ready {c : Cu} {r : List UInt8} (h : At c r) : readyB c = true := by unfold readyB; rw [h.err]; rfl
theorem At.has {c : Cu} {r : List UInt8} (h : At c r) (n : Nat) : hasB c (n : Int) = decide (n ≤ r.length) := by
  have := h.len
  unfold hasB
  rw [if_pos (by simp), ← h.len]
  simp
theorem take_at {c : Cu} {r : List UInt8} (h : At c r) (n : Nat) (hn : n ≤ r.length) : bl (takeF c n).1 = r.take n ∧ At (takeF c n).2 (r.drop n) := by
  have hp := h.len
  have e : takeF c (n : Int) = (c.s.extract c.pos (c.pos + n), { c with pos := c.pos + n }) := by
    unfold takeF
    rw [if_pos h.ready, if_pos (by rw [h.has]; simpa using hn)]
    rfl
  rw [e]
  refine ⟨?_, ⟨h.err, ?_, ⟨?_, h.ok.size⟩⟩⟩
  · simp only []
    rw [bl_extract, ← h.rm, Rm]
    congr 1; omega
  · simp only [Rm]
    rw [← h.rm, Rm, List.drop_drop]
  · have := h.ok.pos; simp only []; omega
theorem take_sh {c : Cu} {r : List UInt8} (h : At c r) (n : Nat) (hn : r.length < n) : (takeF c n).2.err = 3 := by
  unfold takeF
  rw [if_pos h.ready, if_neg (by rw [h.has]; simp; omega)]
theorem take_err {c : Cu} (h : c.err ≠ 0) (n : Int) : takeF c n = (⟨#[]⟩, c) := by
  unfold takeF
  rw [if_neg (by unfold readyB; simpa using h)]
theorem fail_at {c : Cu} {r : List UInt8} (h : At c r) (e : Int) : (failF c e).err = e := by unfold failF; rw [if_pos h.ready]
theorem fail_0 {c : Cu} {r : List UInt8} (h : At c r) : failF c 0 = c := by
  unfold failF
  rw [if_pos h.ready]
  have := h.err
  cases c
  simp only at this
  rw [this]
theorem fail_err {c : Cu} (h : c.err ≠ 0) (e : Int) : failF c e = c := by unfold failF; rw [if_neg (by unfold readyB; simpa using h)]
theorem need_at {c : Cu} {r : List UInt8} (h : At c r) (n : Nat) (hn : n ≤ r.length) : bl (needF c n).1 = r.take n ∧ At (needF c n).2 (r.drop n) := by
  have hc : cutB c (n : Int) = false := by
    unfold cutB
    rw [h.err, h.left]
    simp; omega
  unfold needF
  rw [hc, if_neg Bool.false_ne_true]
  exact take_at h n hn
theorem need_err {c : Cu} (h : c.err ≠ 0) (n : Int) : needF c n = (⟨#[]⟩, c) := by
  unfold needF
  have hc : cutB c n = false := by unfold cutB; rw [if_neg (by simpa using h)]
  rw [hc, if_neg Bool.false_ne_true]
  exact take_err h n
theorem need_sh {c : Cu} {r : List UInt8} (h : At c r) (n : Nat) (hn : r.length < n) : (needF c n).2.err ≠ 0 := by
  have hc : cutB c (n : Int) = true := by
    unfold cutB
    rw [h.err, h.left]
    simp; omega
  unfold needF
  rw [hc, if_pos rfl]
  have h5 : (failF c 5).err = 5 := fail_at h 5
  rw [take_err (by rw [h5]; decide)]
  rw [h5]; decide
theorem need_ok' {c : Cu} {r : List UInt8} (h : At c r) (n : Nat) (he : (needF c n).2.err = 0) : n ≤ r.length := by
  by_cases hn : n ≤ r.length
  · exact hn
  · exact absurd he (need_sh h n (by omega))
theorem take_ok' {c : Cu} {r : List UInt8} (h : At c r) (n : Nat) (he : (takeF c n).2.err = 0) : n ≤ r.length := by
  by_cases hn : n ≤ r.length
  · exact hn
  · rw [take_sh h n (by omega)] at he; cases he
theorem getF_bl {s : ByteArray} {l : List UInt8} (h : bl s = l) : getF s = getL l := by unfold getF; rw [← h]; rfl
theorem u8_num (b : UInt8) : UInt8.ofNat ((b.toNat : Int)).toNat = b := by simp
theorem bl_be1 {n : Int} (h0 : 0 ≤ n) (h1 : n < 256) : (bl (be1 n)).length = 1 ∧ getL (bl (be1 n)) = n := by
  refine ⟨rfl, ?_⟩
  obtain ⟨m, rfl⟩ := Int.eq_ofNat_of_zero_le h0
  have e : ((m : Int) % 256).toNat = m := by omega
  simp [bl, be1, strOfNums, getL, e]
  omega
theorem be1_get (x : UInt8) : bl (be1 (getL [x])) = [x] := by
  have hx := x.toNat_lt
  have e : ((x.toNat : Int) % 256).toNat = x.toNat := by omega
  simp [bl, be1, strOfNums, getL, e]
theorem bl_be2 {n : Int} (h0 : 0 ≤ n) (h1 : n < 65536) : (bl (be2 n)).length = 2 ∧ getL (bl (be2 n)) = n := by
  refine ⟨rfl, ?_⟩
  obtain ⟨m, rfl⟩ := Int.eq_ofNat_of_zero_le h0
  have e1 : ((m : Int) / 256 % 256).toNat = m / 256 := by omega
  have e2 : ((m : Int) % 256).toNat = m % 256 := by omega
  simp [bl, be2, strOfNums, getL, e1, e2]
  omega
theorem be2_get (x y : UInt8) : bl (be2 (getL [x, y])) = [x, y] := by
  have hx := x.toNat_lt
  have hy := y.toNat_lt
  have e1 : (((x.toNat : Int) * 256 + (y.toNat : Int)) / 256 % 256).toNat = x.toNat := by omega
  have e2 : (((x.toNat : Int) * 256 + (y.toNat : Int)) % 256).toNat = y.toNat := by omega
  simp only [bl, be2, strOfNums, getL, List.foldl_cons, List.foldl_nil, Int.zero_mul, Int.zero_add, List.map_cons, List.map_nil, e1, e2]
  simp
theorem bl_be4 {n : Int} (h0 : 0 ≤ n) (h1 : n < 4294967296) : (bl (be4 n)).length = 4 ∧ getL (bl (be4 n)) = n := by
  refine ⟨rfl, ?_⟩
  obtain ⟨m, rfl⟩ := Int.eq_ofNat_of_zero_le h0
  have e1 : ((m : Int) / 16777216 % 256).toNat = m / 16777216 := by omega
  have e2 : ((m : Int) / 65536 % 256).toNat = m / 65536 % 256 := by omega
  have e3 : ((m : Int) / 256 % 256).toNat = m / 256 % 256 := by omega
  have e4 : ((m : Int) % 256).toNat = m % 256 := by omega
  simp [bl, be4, strOfNums, getL, e1, e2, e3, e4]
  omega
theorem be4_get (x y z u : UInt8) : bl (be4 (getL [x, y, z, u])) = [x, y, z, u] := by
  have hx := x.toNat_lt
  have hy := y.toNat_lt
  have hz := z.toNat_lt
  have hu := u.toNat_lt
  have e1 : (((((x.toNat : Int) * 256 + (y.toNat : Int)) * 256 + (z.toNat : Int)) * 256 + (u.toNat : Int)) / 16777216 % 256).toNat = x.toNat := by omega
  have e2 : (((((x.toNat : Int) * 256 + (y.toNat : Int)) * 256 + (z.toNat : Int)) * 256 + (u.toNat : Int)) / 65536 % 256).toNat = y.toNat := by omega
  have e3 : (((((x.toNat : Int) * 256 + (y.toNat : Int)) * 256 + (z.toNat : Int)) * 256 + (u.toNat : Int)) / 256 % 256).toNat = z.toNat := by omega
  have e4 : (((((x.toNat : Int) * 256 + (y.toNat : Int)) * 256 + (z.toNat : Int)) * 256 + (u.toNat : Int)) % 256).toNat = u.toNat := by omega
  simp only [bl, be4, strOfNums, getL, List.foldl_cons, List.foldl_nil, Int.zero_mul, Int.zero_add, List.map_cons, List.map_nil, e1, e2, e3, e4]
  simp
theorem take1 {r : List UInt8} (h : 1 ≤ r.length) : ∃ x t, r = x :: t := by
  match r, h with
  | x :: t, _ => exact ⟨x, t, rfl⟩
theorem take2 {r : List UInt8} (h : 2 ≤ r.length) : ∃ x y t, r = x :: y :: t := by
  match r, h with
  | x :: y :: t, _ => exact ⟨x, y, t, rfl⟩
theorem take4 {r : List UInt8} (h : 4 ≤ r.length) : ∃ x y z u t, r = x :: y :: z :: u :: t := by
  match r, h with
  | x :: y :: z :: u :: t, _ => exact ⟨x, y, z, u, t, rfl⟩
end Go.Proofs.Ytnbgmpfldoaodab
