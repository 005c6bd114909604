/- DISCONNECT's and AUTH's bytes in plain Lean: both ways. -/
import Derived.Test.YtnbgmpfldoaodabPkL
import Derived.Test.YtnbgmpfldoaodabCtlRd
namespace Go.Proofs.Ytnbgmpfldoaodab
open Go.RowKit
set_option maxHeartbeats 2000000
set_option linter.unusedVariables false
set_option linter.unusedSimpArgs false
theorem contB_snd (v : Int) (p : Pk) (l : List Prp) : (contB v p l).2 = contV v p l := by
  unfold contB
  by_cases h : (contV v p l != 0) = true
  · rw [if_pos h]
  · rw [if_neg h]
    have : contV v p l = 0 := by simpa using h
    rw [this]
theorem contB_bad {v : Int} {p : Pk} {l : List Prp} (h : contV v p l ≠ 0) : (contB v p l).1 = ⟨#[]⟩ := by
  unfold contB
  rw [if_pos (by simpa using h)]
theorem contB_fst {v : Int} {p : Pk} {l : List Prp} (h : contV v p l = 0) : (contB v p l).1 = conTail p.code p.props.n p.kind l := by
  unfold contB
  rw [if_neg (by rw [h]; decide)]
structure ConOK (v : Int) (p : Pk) (l : List Prp) : Prop where
  known : knownC v p.kind = 0
  bytes : (bytesF p.kind l).2 = 0
  yes : (saysB v p.kind).1 = true → mayB p.kind p.code = true ∧ sameEq p (conQ p) = true
  no : (saysB v p.kind).1 = false → sameEq p (kindQ p) = true
theorem conOK_of {v : Int} {p : Pk} {l : List Prp} (h : contV v p l = 0) : ConOK v p l := by
  unfold contV at h
  split at h
  · rename_i hk; rw [h] at hk; exact absurd hk (by decide)
  · rename_i hk
    have hk' : knownC v p.kind = 0 := by simpa using hk
    split at h
    · rename_i hs
      split at h
      · rename_i hm
        split at h
        · rename_i he
          exact ⟨hk', h, fun _ => ⟨hm, he⟩, fun e => by rw [hs] at e; cases e⟩
        · cases h
      · cases h
    · rename_i hs
      split at h
      · rename_i he
        exact ⟨hk', h, fun e => absurd e hs, fun _ => he⟩
      · cases h
theorem contV_is {v : Int} {p : Pk} {l : List Prp} (h : ConOK v p l) : contV v p l = 0 := by
  unfold contV
  rw [if_neg (by rw [h.known]; decide)]
  cases hs : (saysB v p.kind).1
  · rw [if_neg Bool.false_ne_true, if_pos (h.no hs)]; exact h.bytes
  · rw [if_pos rfl, if_pos (h.yes hs).1, if_pos (h.yes hs).2]; exact h.bytes
theorem con_zero {v : Int} {p : Pk} {l : List Prp} (h : ConOK v p l) (hs : (saysB v p.kind).1 = false) : p.code = 0 ∧ p.props.n = 0 := by
  have := h.no hs
  unfold sameEq at this
  simp only [Bool.and_eq_true, beq_iff_eq] at this
  exact ⟨(bare_all this.1).2.2.2.2.1, this.2.2.2.2⟩
theorem con_code {v : Int} {p : Pk} {l : List Prp} (h : ConOK v p l) : 0 ≤ p.code ∧ p.code < 256 := by
  cases hs : (saysB v p.kind).1
  · rw [(con_zero h hs).1]; decide
  · exact mayB_range' (h.yes hs).1
theorem con_tail {kind code : Int} {n : Nat} {l : List Prp} (hb : (bytesF kind l).2 = 0) (h0 : 0 ≤ code) (h1 : code < 256) (hn : n = l.length) : bl (conTail code n kind l) = ackTl kind code l := by
  have hl : l = [] ↔ n = 0 := by rw [hn]; simp
  unfold conTail ackTl
  rw [if_neg (by simp; omega), if_neg (by simp; omega), if_neg (by rw [hb]; decide)]
  by_cases h : n = 0
  · rw [if_neg (by simp; omega), if_pos (hl.2 h)]
    by_cases hc : code = 0
    · rw [if_neg (by simp; omega), if_pos hc]; rfl
    · rw [if_pos (by simp; omega), if_neg hc]
  · rw [if_pos (by simp; omega), if_neg (fun e => h (hl.1 e)), bl_app]
theorem bl_0 {s : ByteArray} (h : bl s = []) : s.size = 0 := by rw [← bl_len, h]; rfl
theorem byte0_at {s : ByteArray} {x : UInt8} {t : List UInt8} (h : bl s = x :: t) : byte0 s = (x.toNat : Int) := by
  obtain ⟨hk, hx, -⟩ := drop_cons (s := s) (k := 0) (x := x) (t := t) (by rw [List.drop_zero]; exact h)
  unfold byte0
  rw [dif_pos hk, hx]
theorem bl_tail1 {s : ByteArray} {x : UInt8} {t : List UInt8} (h : bl s = x :: t) : bl (tail1 s) = t := by
  unfold tail1
  rw [bl_extract, h]
  apply List.take_of_length_le
  rw [← bl_len, h]; simp
theorem told_at {kind code : Int} {l : List Prp} {s : ByteArray} (hb : (bytesF kind l).2 = 0) (h0 : 0 ≤ code) (h1 : code < 256) (hp : ∀ p ∈ l, PrpOK p) (h : bl s = ackTl kind code l) (hz : s.size ≤ 140737488351232) : toldF kind s = (code, l, 0) := by
  obtain ⟨x, hx, hxc⟩ := byte1 h0 h1
  unfold ackTl at h
  unfold toldF
  by_cases hl : l = []
  · rw [if_pos hl] at h
    by_cases hc : code = 0
    · rw [if_pos hc] at h
      rw [if_pos (bl_0 h), hc, hl]
    · rw [if_neg hc, hx] at h
      have hs : s.size = 1 := by rw [← bl_len, h]; rfl
      rw [if_neg (by omega), if_pos hs, byte0_at h, hxc, if_neg (by simpa using hc), hl]
  · rw [if_neg hl, hx] at h
    have h' : bl s = x :: bl (bytesF kind l).1 := h
    have h2 := bytesF_two hb hl
    have hs : s.size = 1 + (bl (bytesF kind l).1).length := by rw [← bl_len, h']; simp; omega
    have ht := bl_tail1 h'
    have hr := pread_at (s := tail1 s) (rest := []) hb hp (by rw [ht, List.append_nil]) (by rw [← bl_len, ht]; omega)
    rw [if_neg (by omega), if_neg (by omega), hr]
    simp only []
    rw [if_neg (by decide), if_neg (by simpa using hl), if_neg (by simp; omega), byte0_at h', hxc]
theorem told_back {kind code : Int} {l : List Prp} {s : ByteArray} (h : toldF kind s = (code, l, 0)) (hz : s.size ≤ 140737488351232) : 0 ≤ code ∧ code < 256 ∧ (l ≠ [] → (bytesF kind l).2 = 0) ∧ bl s = ackTl kind code l := by
  unfold toldF at h
  split at h
  · rename_i h0
    simp only [Prod.mk.injEq] at h
    obtain ⟨rfl, rfl, -⟩ := h
    refine ⟨Int.le_refl 0, by decide, fun e => absurd rfl e, ?_⟩
    unfold ackTl
    rw [if_pos rfl, if_pos rfl]
    exact List.eq_nil_of_length_eq_zero (by rw [bl_len]; exact h0)
  · rename_i h0
    obtain ⟨x, t, hxt⟩ := take1 (r := bl s) (by rw [bl_len]; omega)
    have hb0 := byte0_at hxt
    have hx := x.toNat_lt
    have hb1 : bl (be1 (x.toNat : Int)) = [x] := by
      have := be1_get x
      simpa [getL] using this
    rw [hb0] at h
    split at h
    · rename_i h1
      have ht : t = [] := by
        apply List.eq_nil_of_length_eq_zero
        have := bl_len s
        rw [hxt, List.length_cons] at this; omega
      split at h
      · simp only [Prod.mk.injEq] at h; exact absurd h.2.2 (by decide)
      · rename_i hz0
        simp only [Prod.mk.injEq] at h
        obtain ⟨rfl, rfl, -⟩ := h
        refine ⟨by omega, by omega, fun e => absurd rfl e, ?_⟩
        unfold ackTl
        rw [if_pos rfl, if_neg (by simpa using hz0), hb1, hxt, ht]
    · rename_i h1
      obtain ⟨⟨l2, size, e⟩, hp⟩ : ∃ q, preadF kind (tail1 s) = q := ⟨_, rfl⟩
      rw [hp] at h
      simp only [] at h
      split at h
      · rename_i he
        simp only [Prod.mk.injEq] at h
        rw [h.2.2] at he
        exact absurd he (by decide)
      · rename_i he
        split at h
        · simp only [Prod.mk.injEq] at h; exact absurd h.2.2 (by decide)
        · rename_i hl
          split at h
          · simp only [Prod.mk.injEq] at h; exact absurd h.2.2 (by decide)
          · rename_i hlt
            simp only [Prod.mk.injEq] at h
            obtain ⟨rfl, rfl, -⟩ := h
            have he' : e = 0 := by simpa using he
            subst he'
            have htl := bl_tail1 hxt
            obtain ⟨hok, rest, hb, rfl⟩ := pread_back hp (by rw [← bl_len, htl]; have := bl_len s; rw [hxt, List.length_cons] at this; omega)
            rw [htl] at hb
            have hl0 : l2 ≠ [] := fun e => hl (by rw [e]; rfl)
            have hrest : rest = [] := by
              apply List.eq_nil_of_length_eq_zero
              have := bl_len s
              rw [hxt, List.length_cons, hb, List.length_append] at this
              simp at hlt
              omega
            subst hrest
            refine ⟨by omega, by omega, fun _ => hok, ?_⟩
            unfold ackTl
            rw [if_neg hl0, hb1, hxt, hb, List.append_nil]
            rfl
theorem conOK_mk {v : Int} {p : Pk} {l : List Prp} (h : ConOK v p l) (s : Sl) (hs : s.n = p.props.n) : ConOK v (mkP p.kind 0 p.code s) l := by
  refine ⟨h.known, h.bytes, fun e => ⟨(h.yes e).1, sameEq_self (mkP p.kind 0 p.code s)⟩, fun e => ?_⟩
  obtain ⟨a, b⟩ := con_zero h e
  rw [a]
  have : kindQ (mkP p.kind 0 0 s) = mkP p.kind 0 0 nilS := rfl
  rw [this]
  show (_ && (_ && (_ && (_ && (s.n == 0))))) = true
  rw [hs, b]
  exact sameEq_self (mkP p.kind 0 0 nilS)
theorem ctl_read {v : Int} {p : Pk} {l : List Prp} (h : contV v p l = 0) (hn : p.props.n = l.length) (hp : ∀ q ∈ l, PrpOK q) (hz : (contB v p l).1.size ≤ 140737488351232) : ctlRd v p.kind (contB v p l).1 = (p.code, l, 0) := by
  have hk := conOK_of h
  obtain ⟨c0, c1⟩ := con_code hk
  have hb : bl (contB v p l).1 = ackTl p.kind p.code l := by rw [contB_fst h]; exact con_tail hk.bytes c0 c1 hn
  generalize (contB v p l).1 = s at *
  have hT : sayT v p.kind s = (p.code, l, 0) := by
    unfold sayT
    cases hs : (saysB v p.kind).1
    · rw [if_neg Bool.false_ne_true]
      obtain ⟨a, b⟩ := con_zero hk hs
      have hl : l = [] := List.eq_nil_of_length_eq_zero (by omega)
      unfold ackTl at hb
      rw [if_pos hl, if_pos a] at hb
      rw [if_pos (bl_0 hb), a, hl]
    · rw [if_pos rfl]
      exact told_at hk.bytes c0 c1 hp hb hz
  have hE : conE v p.kind (p.code, l, 0) = 0 := by
    unfold conE
    rw [if_pos rfl]
    exact contV_is (conOK_mk hk (lenS l.length) hn.symm)
  unfold ctlRd
  rw [if_neg (by rw [hk.known]; decide), hT, if_pos hE]
theorem ctl_back {v kind code : Int} {l : List Prp} {s : ByteArray} (h : ctlRd v kind s = (code, l, 0)) (hz : s.size ≤ 140737488351232) (sl : Sl) (hs : sl.n = l.length) : contB v (mkP kind 0 code sl) l = (s, 0) := by
  unfold ctlRd at h
  split at h
  · rename_i hk
    simp only [Prod.mk.injEq] at h
    rw [h.2.2] at hk
    exact absurd hk (by decide)
  · split at h
    · rename_i hE
      obtain ⟨⟨c', l', e⟩, hT⟩ : ∃ q, sayT v kind s = q := ⟨_, rfl⟩
      rw [hT] at h hE
      simp only [Prod.mk.injEq] at h
      obtain ⟨rfl, rfl, -⟩ := h
      have he : e = 0 := by
        unfold conE at hE
        simp only [] at hE
        split at hE
        · rename_i h0; exact h0
        · exact hE
      subst he
      have hv : contV v (mkP kind 0 c' sl) l' = 0 := by
        unfold conE at hE
        rw [if_pos rfl] at hE
        rw [contV_sl v kind 0 c' sl (lenS l'.length) l' hs]
        exact hE
      have hk := conOK_of hv
      have hb : bl s = ackTl kind c' l' ∧ 0 ≤ c' ∧ c' < 256 := by
        unfold sayT at hT
        split at hT
        · obtain ⟨a, b, -, d⟩ := told_back hT hz
          exact ⟨d, a, b⟩
        · simp only [Prod.mk.injEq] at hT
          obtain ⟨rfl, rfl, h5⟩ := hT
          split at h5
          · rename_i h0
            refine ⟨?_, by decide, by decide⟩
            unfold ackTl
            rw [if_pos rfl, if_pos rfl]
            exact List.eq_nil_of_length_eq_zero (by rw [bl_len]; exact h0)
          · cases h5
      have e1 : bl (contB v (mkP kind 0 c' sl) l').1 = bl s := by
        rw [contB_fst hv, hb.1]
        exact con_tail hk.bytes hb.2.1 hb.2.2 hs
      have e2 := contB_snd v (mkP kind 0 c' sl) l'
      rw [hv] at e2
      exact Prod.ext (bl_inj e1) e2
    · rename_i hne
      simp only [Prod.mk.injEq] at h; exact absurd h.2.2 hne
theorem con_is {v : Int} {p : Pk} {l : List Prp} (h : contV v p l = 0) (sl : Sl) : p = reSl (mkP p.kind 0 p.code sl) p.wProps p.codes p.filters p.props ∧ p.wProps.n = 0 ∧ p.codes.n = 0 ∧ p.filters.n = 0 := by
  have hk := conOK_of h
  have key : ∀ q : Pk, sameEq p q = true → q.wProps = zeroSl → q.codes = zeroSl → q.filters = zeroSl → q = mkP p.kind 0 p.code q.props → p = reSl (mkP p.kind 0 p.code sl) p.wProps p.codes p.filters p.props ∧ p.wProps.n = 0 ∧ p.codes.n = 0 ∧ p.filters.n = 0 := by
    intro q hs z1 z2 z3 hq
    unfold sameEq at hs
    simp only [Bool.and_eq_true, beq_iff_eq] at hs
    obtain ⟨hb, hw, hc, hf, -⟩ := hs
    unfold willEq at hw
    simp only [Bool.and_eq_true, beq_iff_eq] at hw
    obtain ⟨w1, w2, w3, w4, w5⟩ := hw
    obtain ⟨a0, a1, a2, a3, a4, a5, a6, a7, a8, a9, a10, a11, a12, a13, a14, a15, a16⟩ := bare_all hb
    have b0 := toL_eq w1
    have b1 := toL_eq w2
    have b2 := toL_eq a12
    have b3 := toL_eq a13
    have b4 := toL_eq a14
    have b5 := toL_eq a15
    have b6 := toL_eq a16
    rw [z1] at w5
    rw [z2] at hc
    rw [z3] at hf
    refine ⟨?_, w5, hc, hf⟩
    rw [hq] at a1 a2 a3 a5 a6 a7 a8 a9 a10 a11 w3 w4 b0 b1 b2 b3 b4 b5 b6
    clear h hk w1 w2 w5 hc hf a12 a13 a14 a15 a16 hb a0 a4 z1 z2 z3 hq
    obtain ⟨kind, dup, retain, qos, id, topic, payload, clean, keep, client, hasUser, user, hasPass, pass, hasWill, wTopic, wPayload, wQoS, wRetain, wProps, session, code, codes, filters, props⟩ := p
    simp only [mkP, setS, setC, idPk, zeroPk] at a1 a2 a3 a5 a6 a7 a8 a9 a10 a11 w3 w4 b0 b1 b2 b3 b4 b5 b6
    rw [a1, a2, a3, a5, a6, a7, a8, a9, a10, a11, w3, w4, b0, b1, b2, b3, b4, b5, b6]
    rfl
  cases hs : (saysB v p.kind).1
  · have hz := con_zero hk hs
    exact key (kindQ p) (hk.no hs) rfl rfl rfl (by rw [hz.1]; rfl)
  · exact key (conQ p) (hk.yes hs).2 rfl rfl rfl rfl
theorem contB_size {v : Int} {p : Pk} {l : List Prp} (hn : p.props.n = l.length) : (contB v p l).1.size ≤ 140737488351232 := by
  by_cases h : contV v p l = 0
  · have hk := conOK_of h
    obtain ⟨c0, c1⟩ := con_code hk
    have hb : bl (contB v p l).1 = ackTl p.kind p.code l := by rw [contB_fst h]; exact con_tail hk.bytes c0 c1 hn
    have hz := bytesF_size p.kind l
    have l1 : (bl (be1 p.code)).length = 1 := rfl
    rw [← bl_len, hb]
    unfold ackTl
    split
    · split
      · simp
      · rw [l1]; omega
    · rw [List.length_append, l1, bl_len]; omega
  · rw [contB_bad h]; exact Nat.zero_le _
end Go.Proofs.Ytnbgmpfldoaodab
