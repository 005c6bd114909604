/- Packets that are read, in plain Lean. -/
import Derived.Test.YtnbgmpfldoaodabAckLaw
import Derived.Test.YtnbgmpfldoaodabSamePk
namespace Go.Proofs.Ytnbgmpfldoaodab
open Go.RowKit Go.Sort
set_option maxHeartbeats 2000000
set_option linter.unusedVariables false
set_option linter.unusedSimpArgs false
theorem ls_store {w b : World} {B : Nat} {s : Sl} {l : List Prp} {o : Obj} (h : LsAt w B s l) (hb : (w.alloc o).grownBy b (some w.heap.size)) : LsAt b B s l :=
  ⟨own_two h.1 (fun i hi _ => by rw [hb.block i (by simp; omega) (fun e => by simp only [Option.some.injEq] at e; omega), heap_alloc_old _ _ hi]), h.2⟩
theorem toL_eq {s t : ByteArray} (h : s.toList = t.toList) : s = t := by
  rw [ByteArray.toList_eq, ByteArray.toList_eq] at h
  exact bl_inj h
theorem bare_all {p q : Pk} (h : bareEq p q = true) : p.kind = q.kind ∧ p.qos = q.qos ∧ p.id = q.id ∧ p.keep = q.keep ∧ p.code = q.code ∧ p.dup = q.dup ∧ p.retain = q.retain ∧ p.clean = q.clean ∧ p.hasUser = q.hasUser ∧ p.hasPass = q.hasPass ∧ p.hasWill = q.hasWill ∧ p.session = q.session ∧ p.topic.toList = q.topic.toList ∧ p.payload.toList = q.payload.toList ∧ p.client.toList = q.client.toList ∧ p.user.toList = q.user.toList ∧ p.pass.toList = q.pass.toList := by
  simpa [bareEq] using h
/-- A packet that has no more than an acknowledgement's fields. -/
theorem ack_is {v : Int} {p : Pk} {l : List Prp} (h : ackV v p l = 0) (sl : Sl) : p = reSl (mkP p.kind p.id p.code sl) p.wProps p.codes p.filters p.props ∧ p.wProps.n = 0 ∧ p.codes.n = 0 ∧ p.filters.n = 0 := by
  have hs : sameEq p (ackQ p) = true := by
    have hT : ackT p l = 0 := by
      have hk := ackOK_of h
      unfold ackV at h
      have := hk.id0
      have := hk.id1
      rw [if_pos hk.known, if_neg (by simp; omega), if_neg (by simp; omega), if_pos hk.may] at h
      split at h
      · rename_i h4
        obtain ⟨a, b⟩ := hk.four (by simpa using h4)
        rw [if_neg (by rw [a]; decide), if_neg (by rw [b]; decide)] at h
        exact h
      · exact h
    unfold ackT at hT
    split at hT
    · rename_i hh; exact hh
    · cases hT
  unfold sameEq at hs
  simp only [Bool.and_eq_true, beq_iff_eq] at hs
  obtain ⟨hb, hw, hc, hf, -⟩ := hs
  unfold willEq at hw
  simp only [Bool.and_eq_true, beq_iff_eq] at hw
  obtain ⟨w1, w2, w3, w4, w5⟩ := hw
  obtain ⟨a0, a1, a2, a3, a4, a5, a6, a7, a8, a9, a10, a11, a12, a13, a14, a15, a16⟩ := bare_all hb
  have b0 := toL_eq w1
  have b1 := toL_eq w2
  have b2 := toL_eq a12
  have b3 := toL_eq a13
  have b4 := toL_eq a14
  have b5 := toL_eq a15
  have b6 := toL_eq a16
  refine ⟨?_, w5, hc, hf⟩
  clear h w1 w2 w5 hc hf a12 a13 a14 a15 a16 hb
  obtain ⟨kind, dup, retain, qos, id, topic, payload, clean, keep, client, hasUser, user, hasPass, pass, hasWill, wTopic, wPayload, wQoS, wRetain, wProps, session, code, codes, filters, props⟩ := p
  simp only [ackQ, zeroPk] at a1 a3 a5 a6 a7 a8 a9 a10 a11 w3 w4 b0 b1 b2 b3 b4 b5 b6
  rw [a1, a3, a5, a6, a7, a8, a9, a10, a11, w3, w4, b0, b1, b2, b3, b4, b5, b6]
  rfl
theorem ackB_size {v : Int} {p : Pk} {l : List Prp} (hn : p.props.n = l.length) : (ackB v p l).1.size ≤ 140737488351232 := by
  by_cases h : ackV v p l = 0
  · have hk := ackOK_of h
    obtain ⟨h1, h2, h3⟩ := bytesF_ok hk.bytes
    have hb := ackB_bl h hn
    have hl := bodyL_len _ _ h2
    have l2 : (bl (be2 p.id)).length = 2 := rfl
    have l1 : (bl (be1 p.code)).length = 1 := rfl
    have lv : (bl (viS (bodyL l).length)).length ≤ 4 := by
      have : ∀ (f : Nat) (n : Int), (viB f n).length ≤ f + 1 := by
        intro f
        induction f with
        | zero => intro n; exact Nat.le_refl 1
        | succ f ih => intro n; unfold viB viL; split
                       · rw [bl_nums, List.map_cons, List.length_cons]; have := ih (n / 128); unfold viB at this; rw [bl_nums] at this; omega
                       · rw [bl_nums]; simp
      exact this 3 _
    rw [← bl_len, hb, List.length_append, l2]
    unfold ackTl
    split
    · split
      · simp
      · rw [l1]; omega
    · rw [List.length_append, l1, h3, List.length_append]; omega
  · rw [ackB_bad h]; exact Nat.zero_le _
theorem mk_ok {k i c : Int} (s : Sl) (hk : -9223372036854775808 ≤ k ∧ k ≤ 9223372036854775807) (hi : 0 ≤ i ∧ i < 65536) (hc : 0 ≤ c ∧ c < 65536) (hs : s.n ≤ 140737488351232) : PkOK (mkP k i c s) := by
  refine ⟨hk, zero_ok.qos, ⟨by show _ ≤ i; omega, by show i ≤ _; omega⟩, zero_ok.keep, zero_ok.wQoS, ⟨by show _ ≤ c; omega, by show c ≤ _; omega⟩, Nat.zero_le _, Nat.zero_le _, Nat.zero_le _, Nat.zero_le _, Nat.zero_le _, Nat.zero_le _, Nat.zero_le _, Nat.zero_le _, hs⟩
theorem nil_of {w : World} {A : Option Addr} {n : Nat} {l : List Prp} (h : RP w A n l) (h0 : n = 0) : l = [] := List.eq_nil_of_length_eq_zero (by rw [h.1, h0])
end Go.Proofs.Ytnbgmpfldoaodab
