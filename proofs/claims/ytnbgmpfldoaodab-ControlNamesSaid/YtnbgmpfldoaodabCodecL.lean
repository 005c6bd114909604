/- Lists of properties in plain Lean: both ways. -/
import Derived.Test.YtnbgmpfldoaodabCodecP
import Derived.Test.YtnbgmpfldoaodabPRead
namespace Go.Proofs.Ytnbgmpfldoaodab
open Go.RowKit
set_option maxHeartbeats 2000000
set_option linter.unusedVariables false
set_option linter.unusedSimpArgs false
/-- What a list's bytes are, without their number. -/
def bodyL : List Prp → List UInt8
  | [] => []
  | p :: t => UInt8.ofNat p.id.toNat :: bl (valueS (ruleOf p.id).shape p) ++ bodyL t
/-- A list that can be written, from some counts on. -/
def okL (kind : Int) : List Prp → (Nat → Int) → Prop
  | [], f => loneB f = false
  | p :: t, f => checkC (ruleOf p.id) kind p = 0 ∧ againB kind p.id (f p.id.toNat) = false ∧ okL kind t (updF f p.id.toNat)
theorem bl_bytesN (s : ByteArray) : (bytesN s).map (fun n => UInt8.ofNat n.toNat) = bl s := by
  unfold bytesN bl
  rw [List.map_map]
  conv => rhs; rw [← List.map_id s.data.toList]
  apply List.map_congr_left
  intro x _
  simp
theorem go_ok {kind : Int} : ∀ (l : List Prp) (f : Nat → Int) (out : List Int), okL kind l f → ∃ o : List Int, o.map (fun n => UInt8.ofNat n.toNat) = bodyL l ∧ bytesGo kind l f out = (viS (out ++ o).length ++ strOfNums (out ++ o), 0)
  | [], f, out, h => ⟨[], rfl, by rw [bytesGo, if_neg (by rw [show loneB f = false from h]; decide), List.append_nil]⟩
  | p :: t, f, out, ⟨h1, h2, h3⟩ => by
    obtain ⟨o, ho, hg⟩ := go_ok t (updF f p.id.toNat) ((out ++ [p.id]) ++ bytesN (valueS (ruleOf p.id).shape p)) h3
    refine ⟨p.id :: (bytesN (valueS (ruleOf p.id).shape p) ++ o), ?_, ?_⟩
    · rw [List.map_cons, List.map_append, ho, bl_bytesN]; rfl
    · rw [bytesGo, if_pos h1, if_neg (by rw [h2]; decide)]
      have e : out ++ p.id :: (bytesN (valueS (ruleOf p.id).shape p) ++ o) = (out ++ [p.id] ++ bytesN (valueS (ruleOf p.id).shape p)) ++ o := by simp
      rw [e]
      exact hg
theorem go_back {kind : Int} : ∀ (l : List Prp) (f : Nat → Int) (out : List Int), (bytesGo kind l f out).2 = 0 → okL kind l f
  | [], f, out, h => by
    rw [bytesGo] at h
    split at h
    · cases h
    · rename_i hl; simpa [okL] using hl
  | p :: t, f, out, h => by
    rw [bytesGo] at h
    split at h
    · rename_i h1
      split at h
      · cases h
      · rename_i h2
        exact ⟨h1, by simpa using h2, go_back t _ _ h⟩
    · rename_i h1; exact absurd h h1
theorem valueS_le {p : Prp} {kind : Int} (h : checkC (ruleOf p.id) kind p = 0) : (bl (valueS (ruleOf p.id).shape p)).length ≤ 131074 := by rw [bl_len]; exact valueS_size h
theorem bodyL_len {kind : Int} : ∀ (l : List Prp) (f : Nat → Int), okL kind l f → (bodyL l).length ≤ l.length * 131075
  | [], f, h => by simp [bodyL]
  | p :: t, f, ⟨h1, h2, h3⟩ => by
    have := bodyL_len t _ h3
    have h4 := valueS_le h1
    simp only [bodyL, List.length_append, List.length_cons]
    omega
/-- A list that is written: its bytes. -/
theorem bytesF_ok {kind : Int} {l : List Prp} (h : (bytesF kind l).2 = 0) : l.length ≤ 1000 ∧ okL kind l (fun _ => 0) ∧ bl (bytesF kind l).1 = bl (viS (bodyL l).length) ++ bodyL l := by
  unfold bytesF at h ⊢
  split at h
  · rename_i hl
    have hk := go_back _ _ _ h
    obtain ⟨o, ho, hg⟩ := go_ok l (fun _ => 0) [] hk
    refine ⟨hl, hk, ?_⟩
    rw [if_pos hl, hg, List.nil_append, bl_app, bl_nums, ho, ← ho, List.length_map]
  · cases h
theorem bytesF_is {kind : Int} {l : List Prp} (hl : l.length ≤ 1000) (hk : okL kind l (fun _ => 0)) : (bytesF kind l).2 = 0 := by
  unfold bytesF
  rw [if_pos hl]
  obtain ⟨o, ho, hg⟩ := go_ok l (fun _ => 0) [] hk
  rw [hg]
theorem has_of {kind : Int} {p : Prp} (h : checkC (ruleOf p.id) kind p = 0) : hasK (ruleOf p.id) kind = true := by
  unfold checkC at h
  split at h
  · rename_i hk; exact hk
  · cases h
theorem id_byte {p : Prp} (h0 : 0 ≤ p.id) (h1 : p.id < 64) : getL [UInt8.ofNat p.id.toNat] = p.id := by
  simp [getL]; omega
/-- What is written is read. -/
theorem list_read {kind : Int} : ∀ (l : List Prp) (m : Nat) (c : Cu) (f : Nat → Int) (out : List Prp), okL kind l f → (∀ p ∈ l, PrpOK p) → At c (bodyL l) → l.length < m → out.length + l.length ≤ 1000 → listGo m kind c f out = (out ++ l, 0)
  | [], m, c, f, out, h, hp, hc, hm, hn => by
    obtain ⟨m, rfl⟩ : ∃ k, m = k + 1 := ⟨m - 1, by simp at hm; omega⟩
    have hl : leftF c = 0 := by rw [hc.left]; rfl
    rw [listGo, hl, if_neg (by decide), if_neg (by rw [show loneB f = false from h]; decide), List.append_nil]
  | p :: t, m, c, f, out, ⟨h1, h2, h3⟩, hp, hc, hm, hn => by
    simp only [List.length_cons] at hm hn
    obtain ⟨m, rfl⟩ : ∃ k, m = k + 1 := ⟨m - 1, by omega⟩
    have hk := has_of h1
    obtain ⟨hsh, i0, i1⟩ := shape_has hk
    have hb : bodyL (p :: t) = UInt8.ofNat p.id.toNat :: (bl (valueS (ruleOf p.id).shape p) ++ bodyL t) := rfl
    rw [hb] at hc
    have hl : leftF c = ((bl (valueS (ruleOf p.id).shape p) ++ bodyL t).length + 1 : Nat) := by rw [hc.left]; rfl
    have ht := take_at hc 1 (by simp)
    have hnum : numF c (1 : Nat) = p.id := by
      unfold numF
      rw [getF_bl ht.1]
      exact id_byte i0 i1
    have hnum' : numF c 1 = p.id := hnum
    have ha : At (takeF c 1).2 (bl (valueS (ruleOf p.id).shape p) ++ bodyL t) := ht.2
    obtain ⟨hv, hat⟩ := value_at (good_of h1 (hp p (by simp))) ha
    rw [listGo, hl, if_pos (by simp; omega), hnum', if_pos hk]
    simp only []
    rw [hv, if_pos hat.err, if_pos h1, if_neg (by rw [h2]; decide), if_neg (by omega)]
    rw [list_read t m _ _ (out ++ [p]) h3 (fun q hq => hp q (by simp [hq])) hat (by omega) (by simp; omega)]
    simp
/-- What was read is what is written. -/
theorem list_back {kind : Int} : ∀ (m : Nat) (c : Cu) (f : Nat → Int) (out res : List Prp) (r : List UInt8), At c r → out.length ≤ 1000 → listGo m kind c f out = (res, 0) → ∃ l, res = out ++ l ∧ okL kind l f ∧ bodyL l = r ∧ res.length ≤ 1000
  | 0, c, f, out, res, r, hc, hn, h => by rw [listGo] at h; simp only [Prod.mk.injEq] at h; exact absurd h.2 (by decide)
  | m + 1, c, f, out, res, r, hc, hn, h => by
    rw [listGo] at h
    split at h
    · rename_i hl
      rw [hc.left] at hl
      have hlen : 1 ≤ r.length := by simp at hl; omega
      have ht := take_at hc 1 hlen
      obtain ⟨x, t, rfl⟩ := take1 hlen
      have hnum : numF c (1 : Nat) = (x.toNat : Int) := by
        unfold numF
        rw [getF_bl ht.1]
        simp [getL]
      have hnum' : numF c 1 = (x.toNat : Int) := hnum
      have ha : At (takeF c 1).2 t := ht.2
      rw [hnum'] at h
      split at h
      · rename_i hk
        obtain ⟨hsh, i0, i1⟩ := shape_has hk
        simp only [] at h
        have hid := readP_id hsh (zeroP (x.toNat : Int)) (takeF c 1).2
        split at h
        · rename_i he
          obtain ⟨rest, hr, hat⟩ := value_back hsh _ ha he
          generalize hq : readP (ruleOf (x.toNat : Int)).shape (zeroP (x.toNat : Int)) (takeF c 1).2 = q at *
          obtain ⟨p, c2⟩ := q
          have hid' : p.id = (x.toNat : Int) := hid
          split at h
          · rename_i hck
            split at h
            · simp only [Prod.mk.injEq] at h; exact absurd h.2 (by decide)
            · rename_i hag
              split at h
              · simp only [Prod.mk.injEq] at h; exact absurd h.2 (by decide)
              · rename_i h1000
                obtain ⟨l, e1, e2, e3, e4⟩ := list_back m c2 _ (out ++ [p]) res rest hat (by rw [List.length_append]; simp; omega) h
                refine ⟨p :: l, by rw [e1]; simp, ⟨?_, ?_, ?_⟩, ?_, e4⟩
                · rw [hid']; exact hck
                · rw [hid']; simpa using hag
                · rw [hid']; exact e2
                · have hb : bodyL (p :: l) = UInt8.ofNat p.id.toNat :: (bl (valueS (ruleOf p.id).shape p) ++ bodyL l) := rfl
                  rw [hb, hid', e3, hr]
                  simp
          · rename_i hck
            simp only [Prod.mk.injEq] at h; exact absurd h.2 hck
        · rename_i he
          simp only [Prod.mk.injEq] at h; exact absurd h.2 he
      · simp only [Prod.mk.injEq] at h; exact absurd h.2 (by decide)
    · rename_i hl
      rw [hc.left] at hl
      have hr : r = [] := by simpa using hl
      split at h
      · simp only [Prod.mk.injEq] at h; exact absurd h.2 (by decide)
      · rename_i hlo
        simp only [Prod.mk.injEq] at h
        refine ⟨[], by rw [← h.1]; simp, by simpa [okL] using hlo, hr.symm, by rw [← h.1]; exact hn⟩
theorem at_new (s : ByteArray) (hs : s.size ≤ 140737488351232) : At (newCu s) (bl s) := ⟨rfl, List.drop_zero, ⟨Nat.zero_le _, hs⟩⟩
theorem pread_at {kind : Int} {l : List Prp} {s : ByteArray} {rest : List UInt8} (h : (bytesF kind l).2 = 0) (hp : ∀ p ∈ l, PrpOK p) (hs : bl s = bl (bytesF kind l).1 ++ rest) (hz : s.size ≤ 140737488351232) : preadF kind s = (l, ((bl (bytesF kind l).1).length : Int), 0) := by
  obtain ⟨hl, hk, hb⟩ := bytesF_ok h
  rw [hb, List.append_assoc] at hs
  have hlen := bodyL_len _ _ hk
  have hvi := viRead_viS (n := ((bodyL l).length : Int)) (by omega) (by omega) hs
  have hsz : s.size = (bl (viS (bodyL l).length)).length + ((bodyL l).length + rest.length) := by rw [← bl_len, hs]; simp
  have hx : bl (s.extract (bl (viS (bodyL l).length)).length ((bl (viS (bodyL l).length)).length + (bodyL l).length)) = bodyL l := by
    rw [bl_extract, hs, List.drop_left' rfl, show ∀ a b : Nat, a + b - a = b from fun a b => by omega, List.take_left' rfl]
  unfold preadF
  rw [hvi]
  simp only []
  rw [if_pos trivial, if_neg (by simp; omega)]
  have e1 : ((bl (viS (bodyL l).length)).length : Int).toNat = (bl (viS (bodyL l).length)).length := rfl
  have e2 : (((bl (viS (bodyL l).length)).length : Int) + ((bodyL l).length : Int)).toNat = (bl (viS (bodyL l).length)).length + (bodyL l).length := by omega
  rw [e1, e2]
  have hlist : listF kind (s.extract (bl (viS (bodyL l).length)).length ((bl (viS (bodyL l).length)).length + (bodyL l).length)) = (l, 0) := by
    have hA := at_new (s.extract (bl (viS (bodyL l).length)).length ((bl (viS (bodyL l).length)).length + (bodyL l).length)) (by rw [← bl_len, hx]; omega)
    rw [hx] at hA
    generalize s.extract (bl (viS (bodyL l).length)).length ((bl (viS (bodyL l).length)).length + (bodyL l).length) = X at hA
    have := list_read l 1001 _ _ [] hk hp hA (by omega) (by rw [List.length_nil]; omega)
    unfold listF
    rw [this, List.nil_append]
  rw [hlist]
  simp only [if_true]
  rw [hb, List.length_append]
  simp
theorem pread_back {kind : Int} {l : List Prp} {s : ByteArray} {size : Int} (h : preadF kind s = (l, size, 0)) (hz : s.size ≤ 140737488351232) : (bytesF kind l).2 = 0 ∧ ∃ rest, bl s = bl (bytesF kind l).1 ++ rest ∧ size = ((bl (bytesF kind l).1).length : Int) := by
  unfold preadF at h
  obtain ⟨⟨n, sz, e⟩, hr⟩ : ∃ q, viRead s = q := ⟨_, rfl⟩
  rw [hr] at h
  simp only [] at h
  by_cases he : e = 0
  · subst he
    obtain ⟨n0, n1, rest, hs, rfl⟩ := viS_viRead hr
    rw [if_pos rfl] at h
    split at h
    · simp only [Prod.mk.injEq] at h; exact absurd h.2.2 (by decide)
    · rename_i hlt
      obtain ⟨k, rfl⟩ := Int.eq_ofNat_of_zero_le n0
      have hsz : s.size = (bl (viS (k : Int))).length + rest.length := by rw [← bl_len, hs]; simp
      have hk : k ≤ rest.length := by simp at hlt; omega
      have e1 : ((bl (viS (k : Int))).length : Int).toNat = (bl (viS (k : Int))).length := rfl
      have e2 : (((bl (viS (k : Int))).length : Int) + (k : Int)).toNat = (bl (viS (k : Int))).length + k := by omega
      rw [e1, e2] at h
      have hx : bl (s.extract (bl (viS (k : Int))).length ((bl (viS (k : Int))).length + k)) = rest.take k := by
        rw [bl_extract, hs, List.drop_left' rfl, show ∀ a b : Nat, a + b - a = b from fun a b => by omega]
      obtain ⟨⟨l2, e2'⟩, hl⟩ : ∃ q, listF kind (s.extract (bl (viS (k : Int))).length ((bl (viS (k : Int))).length + k)) = q := ⟨_, rfl⟩
      rw [hl] at h
      simp only [] at h
      by_cases hz2 : e2' = 0
      · subst hz2
        rw [if_pos rfl] at h
        simp only [Prod.mk.injEq] at h
        obtain ⟨rfl, rfl, -⟩ := h
        unfold listF at hl
        have hA : At (newCu (s.extract (bl (viS (k : Int))).length ((bl (viS (k : Int))).length + k))) (rest.take k) := by
          have hA := at_new (s.extract (bl (viS (k : Int))).length ((bl (viS (k : Int))).length + k)) (by rw [← bl_len, hx, List.length_take]; omega)
          rw [hx] at hA
          exact hA
        obtain ⟨l3, q1, q2, q3, q4⟩ := list_back 1001 _ _ [] l2 _ hA (by simp) hl
        rw [List.nil_append] at q1
        subst q1
        have hok := bytesF_is q4 q2
        obtain ⟨-, -, hb⟩ := bytesF_ok hok
        have hbl : (bodyL l2).length = k := by rw [q3, List.length_take]; omega
        rw [hbl, q3] at hb
        refine ⟨hok, rest.drop k, ?_, ?_⟩
        · rw [hb, hs, List.append_assoc, List.take_append_drop]
        · rw [hb, List.length_append, List.length_take]; omega
      · rw [if_neg hz2] at h
        simp only [Prod.mk.injEq] at h; exact absurd h.2.2 hz2
  · rw [if_neg he] at h
    simp only [Prod.mk.injEq] at h; exact absurd h.2.2 he
end Go.Proofs.Ytnbgmpfldoaodab
