/- The acknowledgements' bytes in plain Lean: both ways. -/
import Derived.Test.YtnbgmpfldoaodabCodecL
import Derived.Test.YtnbgmpfldoaodabAckRd
namespace Go.Proofs.Ytnbgmpfldoaodab
open Go.RowKit
set_option maxHeartbeats 2000000
set_option linter.unusedVariables false
set_option linter.unusedSimpArgs false
theorem sameEq_self (p : Pk) : sameEq p p = true := by unfold sameEq bareEq willEq; simp
theorem ackB_snd (v : Int) (p : Pk) (l : List Prp) : (ackB v p l).2 = ackV v p l := by
  unfold ackB
  by_cases h : (ackV v p l != 0) = true
  · rw [if_pos h]
  · have h0 : ackV v p l = 0 := by simpa using h
    rw [if_neg h, h0]
    split <;> split <;> rfl
theorem ackB_bad {v : Int} {p : Pk} {l : List Prp} (h : ackV v p l ≠ 0) : (ackB v p l).1 = ⟨#[]⟩ := by
  unfold ackB
  rw [if_pos (by simpa using h)]
/-- What a valid packet is. -/
structure AckOK (v : Int) (p : Pk) (l : List Prp) : Prop where
  known : knownA v p.kind = true
  id0 : 1 ≤ p.id
  id1 : p.id < 65536
  may : mayB p.kind p.code = true
  four : v = 4 → p.code = 0 ∧ p.props.n = 0
  bytes : (bytesF p.kind l).2 = 0
theorem ackOK_of {v : Int} {p : Pk} {l : List Prp} (h : ackV v p l = 0) : AckOK v p l := by
  unfold ackV at h
  split at h
  · rename_i hk
    split at h
    · cases h
    · rename_i h0
      split at h
      · cases h
      · rename_i h1
        split at h
        · rename_i hm
          have hT : ackT p l = 0 → (bytesF p.kind l).2 = 0 := by
            intro hT
            unfold ackT at hT
            split at hT
            · exact hT
            · cases hT
          have i0 : 1 ≤ p.id := by simp at h0; omega
          have i1 : p.id < 65536 := by simpa using h1
          split at h
          · split at h
            · cases h
            · rename_i hc
              split at h
              · cases h
              · rename_i hn
                exact ⟨hk, i0, i1, hm, fun _ => ⟨by simpa using hc, by simpa using hn⟩, hT h⟩
          · rename_i h4
            exact ⟨hk, i0, i1, hm, fun e => absurd (by simpa using e) h4, hT h⟩
        · cases h
  · cases h
theorem ackV_mk {v k i c : Int} {s : Sl} {l : List Prp} (h : AckOK v (mkP k i c s) l) : ackV v (mkP k i c s) l = 0 := by
  unfold ackV
  have hT : ackT (mkP k i c s) l = 0 := by
    unfold ackT
    rw [if_pos (show sameEq (mkP k i c s) (ackQ (mkP k i c s)) = true from sameEq_self (mkP k i c s))]
    exact h.bytes
  have i0 : (mkP k i c s).id = i := rfl
  have h0 := h.id0
  have h1 := h.id1
  rw [if_pos h.known, if_neg (by simp; omega), if_neg (by simp; omega), if_pos h.may]
  split
  · rename_i h4
    obtain ⟨a, b⟩ := h.four (by simpa using h4)
    rw [if_neg (by rw [a]; decide), if_neg (by rw [b]; decide)]
    exact hT
  · exact hT
theorem ackOK_mk {v : Int} {p : Pk} {l : List Prp} (h : AckOK v p l) (s : Sl) (hs : s.n = p.props.n) : AckOK v (mkP p.kind p.id p.code s) l :=
  ⟨h.known, h.id0, h.id1, h.may, fun e => by obtain ⟨a, b⟩ := h.four e; exact ⟨a, by rw [← b]; exact hs⟩, h.bytes⟩
theorem ackB_ok {v : Int} {p : Pk} {l : List Prp} (h : ackV v p l = 0) : ackB v p l = (if (p.code != 0) = true then (if ((p.props.n : Int) != 0) = true then ((be2 p.id ++ be1 p.code) ++ (bytesF p.kind l).1, 0) else (be2 p.id ++ be1 p.code, 0))
  else if ((p.props.n : Int) != 0) = true then ((be2 p.id ++ be1 p.code) ++ (bytesF p.kind l).1, 0) else (be2 p.id, 0)) := by
  unfold ackB
  rw [if_neg (by rw [h]; decide)]
/-- The bytes behind the id. -/
def ackTl (k c : Int) (l : List Prp) : List UInt8 := if l = [] then (if c = 0 then [] else bl (be1 c)) else bl (be1 c) ++ bl (bytesF k l).1
theorem ackB_bl {v : Int} {p : Pk} {l : List Prp} (h : ackV v p l = 0) (hn : p.props.n = l.length) : bl (ackB v p l).1 = bl (be2 p.id) ++ ackTl p.kind p.code l := by
  rw [ackB_ok h]
  unfold ackTl
  have hl : l = [] ↔ p.props.n = 0 := by rw [hn]; simp
  by_cases hc : p.code = 0
  · rw [if_neg (by simpa using hc)]
    by_cases h0 : p.props.n = 0
    · rw [if_neg (by simp [h0]), if_pos (hl.2 h0), if_pos hc, List.append_nil]
    · rw [if_pos (by simp; omega), if_neg (fun e => h0 (hl.1 e)), bl_app, bl_app, List.append_assoc]
  · rw [if_pos (by simpa using hc)]
    by_cases h0 : p.props.n = 0
    · rw [if_neg (by simp [h0]), if_pos (hl.2 h0), if_neg hc, bl_app]
    · rw [if_pos (by simp; omega), if_neg (fun e => h0 (hl.1 e)), bl_app, bl_app, List.append_assoc]
theorem bytesF_two {k : Int} {l : List Prp} (h : (bytesF k l).2 = 0) (hl : l ≠ []) : 2 ≤ (bl (bytesF k l).1).length := by
  obtain ⟨-, -, hb⟩ := bytesF_ok h
  rw [hb, List.length_append, viS_bl]
  have := viB_pos 3 ((bodyL l).length : Int)
  have h2 : 1 ≤ (bodyL l).length := by
    cases l with
    | nil => exact absurd rfl hl
    | cons p t => simp [bodyL]
  omega
theorem end_at {c : Cu} {r : List UInt8} (h : At c r) : (endC c).err = 0 ↔ r = [] := by
  unfold endC
  rw [h.left]
  cases r with
  | nil => simp [h.err]
  | cons x t =>
    rw [if_pos (by simp), fail_at h]
    simp
theorem end_ok {c : Cu} (h : At c []) : endC c = c := by unfold endC; rw [h.left]; rfl
theorem end_err {c : Cu} (h : c.err ≠ 0) : (endC c).err ≠ 0 := by
  unfold endC
  split
  · rw [fail_err h]; exact h
  · exact h
theorem byte1 {c : Int} (h0 : 0 ≤ c) (h1 : c < 256) : ∃ x : UInt8, bl (be1 c) = [x] ∧ (x.toNat : Int) = c := by
  obtain ⟨l1, g1⟩ := bl_be1 h0 h1
  obtain ⟨x, t, e⟩ := take1 (r := bl (be1 c)) (by omega)
  rw [e] at l1 g1
  have : t = [] := by apply List.eq_nil_of_length_eq_zero; simpa using l1
  subst this
  exact ⟨x, e, by simpa [getL] using g1⟩
/-- ack.rest reads what stands behind the id. -/
theorem rest_at {k c : Int} {l : List Prp} (h0 : 0 ≤ c) (h1 : c < 256) (hb : (bytesF k l).2 = 0) (hp : ∀ p ∈ l, PrpOK p) {u : Cu} (h : At u (ackTl k c l)) : (restA k u).1 = c ∧ (restA k u).2.1 = l ∧ At (restA k u).2.2 [] := by
  obtain ⟨x, hx, hxc⟩ := byte1 h0 h1
  unfold ackTl at h
  unfold restA
  by_cases hl : l = []
  · rw [if_pos hl] at h
    by_cases hc : c = 0
    · rw [if_pos hc] at h
      rw [if_pos (by rw [h.left]; rfl)]
      exact ⟨hc.symm, hl.symm, h⟩
    · rw [if_neg hc, hx] at h
      have ht := take_at h 1 (Nat.le_refl 1)
      have ha : At (takeF u 1).2 [] := ht.2
      have hn : numF u 1 = c := by
        have : numF u (1 : Nat) = c := by unfold numF; rw [getF_bl ht.1, ← hxc]; simp [getL]
        exact this
      rw [if_neg (by rw [h.left]; simp), if_pos (by rw [ha.left]; rfl), hn, if_neg (by simpa using hc)]
      exact ⟨rfl, hl.symm, ha⟩
  · rw [if_neg hl, hx] at h
    have h2 := bytesF_two hb hl
    have ht := take_at h 1 (by simp)
    have ha : At (takeF u 1).2 (bl (bytesF k l).1) := ht.2
    have hn : numF u 1 = c := by
      have : numF u (1 : Nat) = c := by unfold numF; rw [getF_bl ht.1, ← hxc]; simp [getL]
      exact this
    have hr := pread_at (s := restF (takeF u 1).2) (rest := []) hb hp (by rw [bl_rest ha, List.append_nil]) (by rw [← bl_len, bl_rest ha, bl_len]; have := ha.ok.size; have := ha.len; rw [bl_len] at this; omega)
    have hne : bl (bytesF k l).1 ≠ [] := by intro e; rw [e] at h2; simp at h2
    rw [if_neg (by rw [h.left]; simp; omega), if_neg (by rw [ha.left]; simpa using hne), hn, hr]
    simp only []
    rw [fail_0 ha, if_neg (by simpa using hl)]
    have h3 := (take_at ha (bl (bytesF k l).1).length (Nat.le_refl _)).2
    rw [List.drop_length] at h3
    exact ⟨trivial, trivial, h3⟩
/-- A packet is read from its body. -/
theorem ack_read {v : Int} {p : Pk} {l : List Prp} (h : ackV v p l = 0) (hn : p.props.n = l.length) (hp : ∀ q ∈ l, PrpOK q) (hz : (ackB v p l).1.size ≤ 140737488351232) : ackRd v p.kind (ackB v p l).1 = (p.id, p.code, l, 0) := by
  have hk := ackOK_of h
  have hb := ackB_bl h hn
  obtain ⟨c0, c1⟩ := mayB_range' hk.may
  have h0 := at_new _ hz
  rw [hb] at h0
  generalize (ackB v p l).1 = s at *
  obtain ⟨l2, g2⟩ := bl_be2 (n := p.id) (by have := hk.id0; omega) hk.id1
  have ht := take_at h0 2 (by rw [List.length_append, l2]; omega)
  rw [List.take_left' l2, List.drop_left' l2] at ht
  have hid : numF (newCu s) 2 = p.id := by
    have : numF (newCu s) (2 : Nat) = p.id := by unfold numF; rw [getF_bl ht.1, g2]
    exact this
  have ha : At (takeF (newCu s) 2).2 (ackTl p.kind p.code l) := ht.2
  have hm : (midA v p.kind (takeF (newCu s) 2).2).1 = p.code ∧ (midA v p.kind (takeF (newCu s) 2).2).2.1 = l ∧ At (midA v p.kind (takeF (newCu s) 2).2).2.2 [] := by
    unfold midA
    by_cases h5 : v = 5
    · rw [if_pos (by simpa using h5), if_pos (by rw [ha.err]; rfl)]
      exact rest_at c0 (by omega) hk.bytes hp ha
    · rw [if_neg (by simpa using h5)]
      have h4 : v = 4 := by
        have := hk.known
        unfold knownA at this
        simp only [Bool.and_eq_true, Bool.or_eq_true, beq_iff_eq] at this
        rcases this.1 with e | e
        · exact e
        · exact absurd e h5
      obtain ⟨e1, e2⟩ := hk.four h4
      have hl : l = [] := by apply List.eq_nil_of_length_eq_zero; omega
      unfold ackTl at ha
      rw [if_pos hl, if_pos e1] at ha
      exact ⟨e1.symm, hl.symm, ha⟩
  obtain ⟨m1, m2, m3⟩ := hm
  obtain ⟨⟨code, l', c2⟩, hr⟩ : ∃ q, midA v p.kind (takeF (newCu s) 2).2 = q := ⟨_, rfl⟩
  rw [hr] at m1 m2 m3
  simp only [] at m1 m2 m3
  subst m1
  subst m2
  have hE : ackE v p.kind p.id (p.code, l', c2) = 0 := by
    unfold ackE
    simp only []
    rw [end_ok m3, ackV_mk (ackOK_mk hk (lenS l'.length) hn.symm), fail_at m3]
  unfold ackRd
  rw [if_pos hk.known, hr, hid, if_pos hE]
theorem fail_ne (c : Cu) {e : Int} (he : e ≠ 0) : (failF c e).err ≠ 0 := by
  unfold failF
  split
  · exact he
  · rename_i hr
    intro e0
    exact hr (by unfold readyB; rw [e0]; rfl)
theorem rest_back {k : Int} {u : Cu} {r : List UInt8} (h : At u r) (he : (endC (restA k u).2.2).err = 0) : 0 ≤ (restA k u).1 ∧ (restA k u).1 < 256 ∧ ((restA k u).2.1 ≠ [] → (bytesF k (restA k u).2.1).2 = 0) ∧ r = ackTl k (restA k u).1 (restA k u).2.1 ∧ At (restA k u).2.2 [] := by
  unfold restA at he ⊢
  by_cases hr : r = []
  · have hl : (leftF u == 0) = true := by rw [h.left, hr]; rfl
    rw [if_pos hl]
    rw [hr] at h
    exact ⟨Int.le_refl 0, show (0 : Int) < 256 by decide, fun e => absurd rfl e, hr, h⟩
  · have hl : ¬ (leftF u == 0) = true := by rw [h.left]; simpa using hr
    have hlen : 1 ≤ r.length := by
      cases r with
      | nil => exact absurd rfl hr
      | cons a t => simp
    have ht := take_at h 1 hlen
    obtain ⟨x, t, rfl⟩ := take1 hlen
    have ha : At (takeF u 1).2 t := ht.2
    have hx := x.toNat_lt
    have hn : numF u 1 = (x.toNat : Int) := by
      have : numF u (1 : Nat) = (x.toNat : Int) := by unfold numF; rw [getF_bl ht.1]; simp [getL]
      exact this
    have hb1 : bl (be1 (x.toNat : Int)) = [x] := by
      have := be1_get x
      simpa [getL] using this
    rw [if_neg hl] at he ⊢
    by_cases ht0 : t = []
    · have hl2 : (leftF (takeF u 1).2 == 0) = true := by rw [ha.left, ht0]; rfl
      rw [if_pos hl2] at he ⊢
      rw [hn] at he ⊢
      rw [ht0] at ha
      by_cases hz : (x.toNat : Int) = 0
      · exfalso
        simp only [] at he
        rw [if_pos (by simpa using hz)] at he
        exact end_err (by rw [fail_at ha]; decide) he
      · simp only []
        rw [if_neg (by simpa using hz)]
        refine ⟨by omega, by omega, fun e => absurd rfl e, ?_, ha⟩
        unfold ackTl
        rw [if_pos rfl, if_neg hz, hb1, ht0]
    · have hl2 : ¬ (leftF (takeF u 1).2 == 0) = true := by rw [ha.left]; simpa using ht0
      rw [if_neg hl2] at he ⊢
      rw [hn] at he ⊢
      obtain ⟨⟨l, size, e⟩, hp⟩ : ∃ q, preadF k (restF (takeF u 1).2) = q := ⟨_, rfl⟩
      rw [hp] at he ⊢
      simp only [] at he ⊢
      have hsz : (restF (takeF u 1).2).size ≤ 140737488351232 := by
        rw [← bl_len, bl_rest ha]; have := ha.ok.size; have := ha.len; omega
      by_cases hl0 : l = []
      · exfalso
        rw [if_pos (by rw [hl0]; rfl)] at he
        exact end_err (fail_ne _ (by decide)) he
      · rw [if_neg (by simpa using hl0)] at he ⊢
        have he3 : (takeF (failF (takeF u 1).2 e) size).2.err = 0 := by
          by_cases hq : (takeF (failF (takeF u 1).2 e) size).2.err = 0
          · exact hq
          · exact absurd he (end_err hq)
        have he0 : e = 0 := by
          by_cases hq : e = 0
          · exact hq
          · exfalso
            have hf : (failF (takeF u 1).2 e).err = e := fail_at ha e
            rw [take_err (by rw [hf]; exact hq), hf] at he3
            exact hq he3
        subst he0
        rw [fail_0 ha] at he he3 ⊢
        obtain ⟨hok, rest, hb, rfl⟩ := pread_back hp hsz
        rw [bl_rest ha] at hb
        subst hb
        have h3 := (take_at ha (bl (bytesF k l).1).length (by rw [List.length_append]; omega)).2
        rw [List.drop_left' rfl] at h3
        have hrest := (end_at h3).1 he
        subst hrest
        refine ⟨by omega, by omega, fun _ => hok, ?_, h3⟩
        unfold ackTl
        rw [if_neg hl0, hb1, List.append_nil]
        rfl
/-- What is read is valid, and is written as the same. -/
theorem ack_back {v kind id code : Int} {l : List Prp} {s : ByteArray} (h : ackRd v kind s = (id, code, l, 0)) (hz : s.size ≤ 140737488351232) (sl : Sl) (hs : sl.n = l.length) : ackB v (mkP kind id code sl) l = (s, 0) := by
  unfold ackRd at h
  split at h
  · rename_i hk
    split at h
    · rename_i hE
      simp only [Prod.mk.injEq] at h
      obtain ⟨hid, hcode, hl, -⟩ := h
      obtain ⟨⟨code', l', c2⟩, hm⟩ : ∃ q, midA v kind (takeF (newCu s) 2).2 = q := ⟨_, rfl⟩
      rw [hm] at hE hcode hl
      simp only [] at hcode hl
      subst hcode
      subst hl
      rw [hid] at hE
      unfold ackE at hE
      simp only [] at hE
      have hend : (endC c2).err = 0 := by
        by_cases hq : (endC c2).err = 0
        · exact hq
        · rw [fail_err hq] at hE; exact hE
      have hav : ackV v (mkP kind id code' (lenS l'.length)) l' = 0 := by
        unfold failF at hE
        rw [if_pos (by unfold readyB; rw [hend]; rfl)] at hE
        exact hE
      have hav2 : ackV v (mkP kind id code' sl) l' = 0 := by rw [ackV_sl v kind id code' sl (lenS l'.length) l' hs]; exact hav
      have h0 := at_new s hz
      have he1 : (takeF (newCu s) 2).2.err = 0 := by
        by_cases hq : (takeF (newCu s) 2).2.err = 0
        · exact hq
        · exfalso
          have : midA v kind (takeF (newCu s) 2).2 = (0, [], (takeF (newCu s) 2).2) := by
            unfold midA
            split
            · rw [if_neg (by simpa using hq)]
            · rfl
          rw [hm] at this
          simp only [Prod.mk.injEq] at this
          rw [this.2.2] at hend
          exact end_err hq hend
      have hlen := take_ok' h0 2 he1
      have ht := take_at h0 2 hlen
      obtain ⟨x, y, t, hxy⟩ := take2 hlen
      have ha : At (takeF (newCu s) 2).2 t := by have := ht.2; rw [hxy] at this; exact this
      have hnum : numF (newCu s) 2 = getL [x, y] := by
        have : numF (newCu s) (2 : Nat) = getL [x, y] := by unfold numF; rw [getF_bl ht.1, hxy]; rfl
        exact this
      have hbe : bl (be2 id) = [x, y] := by rw [← hid, hnum]; exact be2_get x y
      have hT : t = ackTl kind code' l' := by
        unfold midA at hm
        split at hm
        · rw [if_pos (by rw [ha.err]; rfl)] at hm
          have := rest_back (k := kind) ha (by rw [hm]; exact hend)
          rw [hm] at this
          exact this.2.2.2.1
        · simp only [Prod.mk.injEq] at hm
          obtain ⟨rfl, rfl, hc⟩ := hm
          rw [← hc] at hend
          rw [(end_at ha).1 hend]
          unfold ackTl
          rw [if_pos rfl, if_pos rfl]
      have hb := ackB_bl hav2 (show (mkP kind id code' sl).props.n = l'.length from hs)
      have e1 : bl (ackB v (mkP kind id code' sl) l').1 = bl s := by
        rw [hb, hxy]
        show bl (be2 id) ++ ackTl kind code' l' = _
        rw [hbe, ← hT]
        rfl
      have e2 := ackB_snd v (mkP kind id code' sl) l'
      rw [hav2] at e2
      exact Prod.ext (bl_inj e1) e2
    · rename_i hne
      simp only [Prod.mk.injEq] at h; exact absurd h.2.2.2 hne
  · simp only [Prod.mk.injEq] at h; exact absurd h.2.2.2 (by decide)
/-- The sizes. -/
theorem ackTl_size {k c : Int} {l : List Prp} (hb : (bytesF k l).2 = 0) : ((ackTl k c l).length = 0 ↔ c = 0 ∧ l = []) ∧ ((ackTl k c l).length = 1 ↔ c ≠ 0 ∧ l = []) := by
  unfold ackTl
  have l1 : (bl (be1 c)).length = 1 := rfl
  by_cases hl : l = []
  · by_cases hc : c = 0
    · rw [if_pos hl, if_pos hc]; simp [hl, hc]
    · rw [if_pos hl, if_neg hc, l1]; simp [hl, hc]
  · have := bytesF_two hb hl
    rw [if_neg hl, List.length_append, l1]
    constructor
    · constructor
      · intro e; omega
      · intro e; exact absurd e.2 hl
    · constructor
      · intro e; omega
      · intro e; exact absurd e.2 hl
end Go.Proofs.Ytnbgmpfldoaodab
