/- Properties in plain Lean: both ways. -/
import Derived.Test.YtnbgmpfldoaodabCodecV
namespace Go.Proofs.Ytnbgmpfldoaodab
open Go.RowKit
set_option maxHeartbeats 2000000
set_option linter.unusedVariables false
set_option linter.unusedSimpArgs false
theorem bl_rest {c : Cu} {r : List UInt8} (h : At c r) : bl (restF c) = r := by
  unfold restF
  rw [bl_extract, ← h.rm, Rm]
  apply List.take_of_length_le
  rw [List.length_drop, bl_len]; omega
theorem bl_framed (t : ByteArray) : bl (framedS t) = bl (be2 t.size) ++ bl t := by unfold framedS; rw [bl_app]
theorem num_at {c : Cu} {r : List UInt8} (h : At c r) (k : Nat) (hk : k ≤ r.length) : numN c (k : Int) = getL (r.take k) := getF_bl (need_at h k hk).1
theorem data_at {c : Cu} {t : ByteArray} {rest : List UInt8} (h : At c (bl (framedS t) ++ rest)) (ht : t.size ≤ 65535) : (dataF c).1 = t ∧ At (dataF c).2 rest := by
  rw [bl_framed, List.append_assoc] at h
  obtain ⟨l2, g2⟩ := bl_be2 (n := (t.size : Int)) (by omega) (by omega)
  have hl : 2 ≤ (bl (be2 t.size) ++ (bl t ++ rest)).length := by rw [List.length_append, l2]; omega
  have hn : numN c (2 : Nat) = (t.size : Int) := by rw [num_at h 2 hl, List.take_left' l2, g2]
  have h2 := (need_at h 2 hl).2
  rw [List.drop_left' l2] at h2
  have h3 := need_at h2 t.size (by rw [List.length_append, bl_len]; omega)
  rw [List.take_left' (bl_len t), List.drop_left' (bl_len t)] at h3
  have e : dataF c = needF (needF c (2 : Nat)).2 (numN c (2 : Nat)) := rfl
  rw [e, hn]
  exact ⟨bl_inj h3.1, h3.2⟩
theorem data_back {c : Cu} {r : List UInt8} (h : At c r) (he : (dataF c).2.err = 0) : ∃ rest, r = bl (framedS (dataF c).1) ++ rest ∧ At (dataF c).2 rest := by
  have e : dataF c = needF (needF c (2 : Nat)).2 (numN c (2 : Nat)) := rfl
  rw [e] at he ⊢
  have he1 : (needF c (2 : Nat)).2.err = 0 := by
    by_cases h1 : (needF c (2 : Nat)).2.err = 0
    · exact h1
    · rw [need_err h1] at he; exact absurd he h1
  have hl := need_ok' h 2 he1
  have h2 := (need_at h 2 hl).2
  have hn := num_at h 2 hl
  obtain ⟨x, y, t, rfl⟩ := take2 hl
  have hn' : numN c (2 : Nat) = getL [x, y] := hn
  have h2' : At (needF c (2 : Nat)).2 t := h2
  have hx := x.toNat_lt
  have hy := y.toNat_lt
  obtain ⟨n, hnn⟩ : ∃ n : Nat, getL [x, y] = (n : Int) := ⟨x.toNat * 256 + y.toNat, by simp [getL]⟩
  rw [hn', hnn] at he ⊢
  have hl3 := need_ok' h2' n he
  have h3 := need_at h2' n hl3
  refine ⟨t.drop n, ?_, h3.2⟩
  have hs : (needF (needF c (2 : Nat)).2 (n : Int)).1.size = n := by rw [← bl_len, h3.1, List.length_take]; omega
  rw [bl_framed, hs, h3.1, ← hnn, be2_get]
  simp
theorem written_at {c : Cu} {t : ByteArray} {rest : List UInt8} (h : At c (bl (framedS t) ++ rest)) (hv : validU t = true) : (writtenF c).1 = t ∧ At (writtenF c).2 rest := by
  have ht : t.size ≤ 65535 := by unfold validU at hv; simp only [Bool.and_eq_true, decide_eq_true_eq] at hv; exact hv.1
  obtain ⟨h1, h2⟩ := data_at h ht
  unfold writtenF
  rw [h1, if_pos hv]
  exact ⟨rfl, h2⟩
theorem written_back {c : Cu} {r : List UInt8} (h : At c r) (he : (writtenF c).2.err = 0) : validU (writtenF c).1 = true ∧ ∃ rest, r = bl (framedS (writtenF c).1) ++ rest ∧ At (writtenF c).2 rest := by
  have e1 : (writtenF c).1 = (dataF c).1 := rfl
  have e2 : (writtenF c).2 = if validU (dataF c).1 = true then (dataF c).2 else failF (dataF c).2 6 := rfl
  rw [e2] at he
  by_cases hv : validU (dataF c).1 = true
  · rw [if_pos hv] at he
    obtain ⟨rest, h1, h2⟩ := data_back h he
    exact ⟨by rw [e1]; exact hv, rest, by rw [e1]; exact h1, by rw [e2, if_pos hv]; exact h2⟩
  · rw [if_neg hv] at he
    exfalso
    unfold failF at he
    split at he
    · cases he
    · rename_i hr
      exact hr (by unfold readyB; rw [he]; rfl)
theorem vary_at {c : Cu} {n : Int} {rest : List UInt8} (h : At c (bl (viS n) ++ rest)) (h0 : 0 ≤ n) (h1 : n ≤ 268435455) : varyN c = n ∧ At (varyC c) rest := by
  have hr := viRead_viS h0 h1 (bl_rest h)
  unfold varyN varyC
  rw [hr]
  refine ⟨rfl, ?_⟩
  have h3 := (take_at h (bl (viS n)).length (by rw [List.length_append]; omega)).2
  rw [List.drop_left' rfl] at h3
  exact h3
theorem vary_back {c : Cu} {r : List UInt8} (h : At c r) (he : (varyC c).err = 0) : 0 ≤ varyN c ∧ varyN c ≤ 268435455 ∧ ∃ rest, r = bl (viS (varyN c)) ++ rest ∧ At (varyC c) rest := by
  obtain ⟨⟨n, size, e⟩, hr⟩ : ∃ q, viRead (restF c) = q := ⟨_, rfl⟩
  unfold varyC at he
  rw [hr] at he
  by_cases hz : e = 0
  · subst hz
    obtain ⟨a, b, rest, h1, h2⟩ := viS_viRead hr
    rw [bl_rest h] at h1
    have hn : varyN c = n := by unfold varyN; rw [hr]
    rw [hn]
    refine ⟨a, b, rest, h1, ?_⟩
    subst h1
    have h3 := (vary_at h a b).2
    exact h3
  · exfalso
    have hf : (failF c 5).err = 5 := fail_at h 5
    rw [if_pos (by simpa using hz), take_err (by rw [hf]; decide), hf] at he
    cases he
def mt : ByteArray := ⟨#[]⟩
/-- What a property's value must be, so that it can be written in a shape. -/
def Good (sh : Int) (p : Prp) : Prop :=
  (sh = 1 ∧ p.text = mt ∧ p.value = mt ∧ 0 ≤ p.n ∧ p.n < 256) ∨ (sh = 2 ∧ p.text = mt ∧ p.value = mt ∧ 0 ≤ p.n ∧ p.n < 65536) ∨
  (sh = 3 ∧ p.text = mt ∧ p.value = mt ∧ 0 ≤ p.n ∧ p.n < 4294967296) ∨ (sh = 4 ∧ p.text = mt ∧ p.value = mt ∧ 0 ≤ p.n ∧ p.n ≤ 268435455) ∨
  (sh = 5 ∧ p.n = 0 ∧ p.value = mt ∧ validU p.text = true) ∨ (sh = 6 ∧ p.n = 0 ∧ p.value = mt ∧ p.text.size ≤ 65535) ∨
  (sh = 7 ∧ p.n = 0 ∧ validU p.text = true ∧ validU p.value = true)
theorem prp_eq {p q : Prp} (h1 : p.id = q.id) (h2 : p.n = q.n) (h3 : p.text = q.text) (h4 : p.value = q.value) : p = q := by
  cases p; cases q; simp only at h1 h2 h3 h4; subst h1; subst h2; subst h3; subst h4; rfl
theorem value_at {sh : Int} {p : Prp} (hg : Good sh p) {c : Cu} {rest : List UInt8} (h : At c (bl (valueS sh p) ++ rest)) : (readP sh (zeroP p.id) c).1 = p ∧ At (readP sh (zeroP p.id) c).2 rest := by
  rcases hg with ⟨rfl, t1, t2, n0, n1⟩ | ⟨rfl, t1, t2, n0, n1⟩ | ⟨rfl, t1, t2, n0, n1⟩ | ⟨rfl, t1, t2, n0, n1⟩ | ⟨rfl, hn, t2, hv⟩ | ⟨rfl, hn, t2, hv⟩ | ⟨rfl, hn, hv, hv2⟩
  · have h' : At c (bl (be1 p.n) ++ rest) := h
    obtain ⟨l1, g1⟩ := bl_be1 n0 n1
    have hl : 1 ≤ (bl (be1 p.n) ++ rest).length := by rw [List.length_append, l1]; omega
    have hn := num_at h' 1 hl
    have h2 := (need_at h' 1 hl).2
    rw [List.take_left' l1, g1] at hn
    rw [List.drop_left' l1] at h2
    exact ⟨prp_eq rfl hn t1.symm t2.symm, h2⟩
  · have h' : At c (bl (be2 p.n) ++ rest) := h
    obtain ⟨l1, g1⟩ := bl_be2 n0 n1
    have hl : 2 ≤ (bl (be2 p.n) ++ rest).length := by rw [List.length_append, l1]; omega
    have hn := num_at h' 2 hl
    have h2 := (need_at h' 2 hl).2
    rw [List.take_left' l1, g1] at hn
    rw [List.drop_left' l1] at h2
    exact ⟨prp_eq rfl hn t1.symm t2.symm, h2⟩
  · have h' : At c (bl (be4 p.n) ++ rest) := h
    obtain ⟨l1, g1⟩ := bl_be4 n0 n1
    have hl : 4 ≤ (bl (be4 p.n) ++ rest).length := by rw [List.length_append, l1]; omega
    have hn := num_at h' 4 hl
    have h2 := (need_at h' 4 hl).2
    rw [List.take_left' l1, g1] at hn
    rw [List.drop_left' l1] at h2
    exact ⟨prp_eq rfl hn t1.symm t2.symm, h2⟩
  · obtain ⟨a, b⟩ := vary_at (n := p.n) h n0 n1
    exact ⟨prp_eq rfl a t1.symm t2.symm, b⟩
  · obtain ⟨a, b⟩ := written_at (t := p.text) h hv
    exact ⟨prp_eq rfl hn.symm a t2.symm, b⟩
  · obtain ⟨a, b⟩ := data_at (t := p.text) h hv
    exact ⟨prp_eq rfl hn.symm a t2.symm, b⟩
  · have h' : At c (bl (framedS p.text) ++ (bl (framedS p.value) ++ rest)) := by
      rw [← List.append_assoc, ← bl_app]; exact h
    obtain ⟨a, b⟩ := written_at h' hv
    obtain ⟨a2, b2⟩ := written_at b hv2
    exact ⟨prp_eq rfl hn.symm a a2, b2⟩
theorem value_back {sh : Int} (hs : shapeB sh) (id : Int) {c : Cu} {r : List UInt8} (h : At c r) (he : (readP sh (zeroP id) c).2.err = 0) : ∃ rest, r = bl (valueS sh (readP sh (zeroP id) c).1) ++ rest ∧ At (readP sh (zeroP id) c).2 rest := by
  rcases hs with rfl | rfl | rfl | rfl | rfl | rfl | rfl
  · have he' : (needF c (1 : Nat)).2.err = 0 := he
    have hl := need_ok' h 1 he'
    have hn := num_at h 1 hl
    have h2 := (need_at h 1 hl).2
    obtain ⟨x, t, rfl⟩ := take1 hl
    refine ⟨t, ?_, h2⟩
    show _ = bl (be1 (numN c (1 : Nat))) ++ t
    rw [hn]; show _ = bl (be1 (getL [x])) ++ t
    rw [be1_get]; rfl
  · have he' : (needF c (2 : Nat)).2.err = 0 := he
    have hl := need_ok' h 2 he'
    have hn := num_at h 2 hl
    have h2 := (need_at h 2 hl).2
    obtain ⟨x, y, t, rfl⟩ := take2 hl
    refine ⟨t, ?_, h2⟩
    show _ = bl (be2 (numN c (2 : Nat))) ++ t
    rw [hn]; show _ = bl (be2 (getL [x, y])) ++ t
    rw [be2_get]; rfl
  · have he' : (needF c (4 : Nat)).2.err = 0 := he
    have hl := need_ok' h 4 he'
    have hn := num_at h 4 hl
    have h2 := (need_at h 4 hl).2
    obtain ⟨x, y, z, u, t, rfl⟩ := take4 hl
    refine ⟨t, ?_, h2⟩
    show _ = bl (be4 (numN c (4 : Nat))) ++ t
    rw [hn]; show _ = bl (be4 (getL [x, y, z, u])) ++ t
    rw [be4_get]; rfl
  · obtain ⟨-, -, rest, h1, h2⟩ := vary_back h he
    exact ⟨rest, h1, h2⟩
  · obtain ⟨-, rest, h1, h2⟩ := written_back h he
    exact ⟨rest, h1, h2⟩
  · obtain ⟨rest, h1, h2⟩ := data_back h he
    exact ⟨rest, h1, h2⟩
  · have he' : (writtenF (writtenF c).2).2.err = 0 := he
    have he1 : (writtenF c).2.err = 0 := by
      by_cases h1 : (writtenF c).2.err = 0
      · exact h1
      · exfalso
        have e : dataF (writtenF c).2 = (⟨#[]⟩, (writtenF c).2) := by
          have e0 : dataF (writtenF c).2 = needF (needF (writtenF c).2 2).2 (numN (writtenF c).2 2) := rfl
          rw [e0, need_err h1]
          exact need_err h1 _
        have e2 : (writtenF (writtenF c).2).2 = if validU (dataF (writtenF c).2).1 = true then (dataF (writtenF c).2).2 else failF (dataF (writtenF c).2).2 6 := rfl
        rw [e2, e] at he'
        split at he'
        · exact h1 he'
        · rw [fail_err h1] at he'; exact h1 he'
    obtain ⟨-, rest1, h1, h2⟩ := written_back h he1
    obtain ⟨-, rest2, h3, h4⟩ := written_back h2 he'
    refine ⟨rest2, ?_, h4⟩
    show _ = bl (framedS _ ++ framedS _) ++ rest2
    rw [bl_app, h1, h3, List.append_assoc]
    rfl
theorem ruleL_most : ∀ p ∈ ruleL, (p.2.shape = 1 → p.2.most ≤ 255) ∧ (p.2.shape = 2 → p.2.most ≤ 65535) := by
  simp only [ruleL, List.forall_mem_cons, List.not_mem_nil, false_implies, implies_true, and_true]
  repeat' apply And.intro
  all_goals (first | decide | simp)
theorem rule_most {id kind : Int} (h : hasK (ruleOf id) kind = true) : ((ruleOf id).shape = 1 → (ruleOf id).most ≤ 255) ∧ ((ruleOf id).shape = 2 → (ruleOf id).most ≤ 65535) := by
  unfold ruleOf at h ⊢
  cases hr : ruleIn id ruleL with
  | none => rw [hr] at h; simp only [Option.getD_none] at h; rw [hasK_zero] at h; cases h
  | some r =>
    obtain ⟨p, hp, h1, rfl⟩ := ruleIn_mem id ruleL r hr
    exact ruleL_most p hp
theorem nil_mt {s : ByteArray} (h : s.toList = []) : s = mt := by
  rw [ByteArray.toList_eq] at h
  exact bl_inj h
theorem good_of {kind : Int} {p : Prp} (h : checkC (ruleOf p.id) kind p = 0) (hp : PrpOK p) : Good (ruleOf p.id).shape p := by
  have hk : hasK (ruleOf p.id) kind = true := by
    unfold checkC at h
    split at h
    · rename_i hk; exact hk
    · cases h
  obtain ⟨a, b, c, d, e⟩ := hasK_ok hk
  obtain ⟨m1, m2⟩ := rule_most hk
  unfold checkC at h
  rw [if_pos hk] at h
  by_cases h4 : (ruleOf p.id).shape ≤ 4
  · rw [if_pos h4] at h
    unfold chknF at h
    split at h
    · rename_i ht
      split at h
      · cases h
      · rename_i hv
        split at h
        · cases h
        · split at h
          · cases h
          · rename_i hle hmo
            have t1 := nil_mt ht
            have t2 : p.value = mt := nil_mt (by simpa using hv)
            obtain ⟨p1, p2, -, -⟩ := hp
            rcases (show (ruleOf p.id).shape = 1 ∨ (ruleOf p.id).shape = 2 ∨ (ruleOf p.id).shape = 3 ∨ (ruleOf p.id).shape = 4 by omega) with q | q | q | q
            · exact .inl ⟨q, t1, t2, p1, by have := m1 q; omega⟩
            · exact .inr (.inl ⟨q, t1, t2, p1, by have := m2 q; omega⟩)
            · exact .inr (.inr (.inl ⟨q, t1, t2, p1, p2⟩))
            · exact .inr (.inr (.inr (.inl ⟨q, t1, t2, p1, by have := e q; omega⟩)))
    · cases h
  · rw [if_neg h4] at h
    split at h
    · rename_i hn
      split at h
      · cases h
      · rename_i hv
        have hv' : (ruleOf p.id).shape ≠ 7 → p.value = mt := by
          intro h7
          apply nil_mt
          by_cases hq : p.value.toList = []
          · exact hq
          · exact absurd ⟨by simpa using hq, h7⟩ hv
        split at h
        · rename_i h6
          split at h
          · rename_i hs
            exact .inr (.inr (.inr (.inr (.inr (.inl ⟨h6, hn, hv' (by omega), hs⟩)))))
          · cases h
        · rename_i h6
          split at h
          · rename_i hvt
            split at h
            · rename_i hvv
              rcases (show (ruleOf p.id).shape = 5 ∨ (ruleOf p.id).shape = 7 by omega) with q | q
              · exact .inr (.inr (.inr (.inr (.inl ⟨q, hn, hv' (by omega), hvt⟩))))
              · exact .inr (.inr (.inr (.inr (.inr (.inr ⟨q, hn, hvt, hvv⟩)))))
            · cases h
          · cases h
    · cases h
end Go.Proofs.Ytnbgmpfldoaodab
