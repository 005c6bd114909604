/- The reader's steps in plain Lean: both ways, and after an error. -/
import Derived.Test.YtjlkhihlbdokpaaGreatG7
import Derived.Test.YtjlkhihlbdokpaaGreatG6
import Derived.RegionTactic
import Derived.Deep.RegionHeld3
namespace Go.Proofs.YtjlkhihlbdokpaaGreat
open Go.RowKit
set_option maxHeartbeats 2000000
set_option linter.unusedVariables false
set_option linter.unusedSimpArgs false
theorem num1_at {c : Cu} {x : UInt8} {t : List UInt8} (h : At c (x :: t)) : numF c 1 = (x.toNat : Int) ∧ At (takeF c 1).2 t := by
  have ht := take_at h 1 (by simp)
  refine ⟨?_, ht.2⟩
  have : numF c (1 : Nat) = (x.toNat : Int) := by unfold numF; rw [getF_bl ht.1]; simp [getL]
  exact this
theorem num2_at {c : Cu} {x y : UInt8} {t : List UInt8} (h : At c (x :: y :: t)) : numF c 2 = (x.toNat : Int) * 256 + (y.toNat : Int) ∧ At (takeF c 2).2 t := by
  have ht := take_at h 2 (by simp)
  refine ⟨?_, ht.2⟩
  have : numF c (2 : Nat) = (x.toNat : Int) * 256 + (y.toNat : Int) := by unfold numF; rw [getF_bl ht.1]; simp [getL]
  exact this
theorem take1_sh {c : Cu} (h : At c []) : (takeF c 1).2.err = 3 := take_sh h 1 (by simp)
theorem unless_err {c : Cu} (h : c.err ≠ 0) (b : Bool) (e : Int) : unlessF c b e = c := by
  unfold unlessF
  split
  · rfl
  · exact fail_err h e
theorem unless_yes (c : Cu) {b : Bool} (h : b = true) (e : Int) : unlessF c b e = c := by unfold unlessF; rw [if_pos h]
theorem unless_back {c : Cu} {r : List UInt8} (h : At c r) {b : Bool} {e : Int} (he : e ≠ 0) (hz : (unlessF c b e).err = 0) : b = true ∧ unlessF c b e = c := by
  cases b
  · unfold unlessF at hz
    rw [if_neg Bool.false_ne_true, fail_at h] at hz
    exact absurd hz he
  · exact ⟨rfl, unless_yes c rfl e⟩
theorem binary_err {c : Cu} (h : c.err ≠ 0) : binaryF c = (⟨#[]⟩, c) := by
  unfold binaryF
  rw [take_err h]
  exact take_err h _
theorem valid_mt : validU ⟨#[]⟩ = true := by decide
theorem text_err {c : Cu} (h : c.err ≠ 0) : textF c = (⟨#[]⟩, c) := by
  unfold textF
  rw [binary_err h]
  show ((⟨#[]⟩ : ByteArray), unlessF c (validU ⟨#[]⟩) 6) = _
  rw [unless_err h]
theorem props_err {c : Cu} (h : c.err ≠ 0) (v k : Int) : propsF v k c = ([], c) := by
  unfold propsF
  split
  · rfl
  · rw [if_pos (by simpa using h)]
theorem framed_bl (s : ByteArray) : bl (framedS s) = bl (be2 s.size) ++ bl s := bl_app _ _
theorem binary_at {c : Cu} {s : ByteArray} {r : List UInt8} (h : At c (bl (framedS s) ++ r)) (hz : s.size ≤ 65535) : (binaryF c).1 = s ∧ At (binaryF c).2 r := by
  rw [framed_bl, List.append_assoc] at h
  obtain ⟨l2, g2⟩ := bl_be2 (n := (s.size : Int)) (by omega) (by omega)
  have ht := take_at h 2 (by rw [List.length_append, l2]; omega)
  rw [List.take_left' l2, List.drop_left' l2] at ht
  have hid : numF c 2 = (s.size : Int) := by
    have : numF c (2 : Nat) = (s.size : Int) := by unfold numF; rw [getF_bl ht.1, g2]
    exact this
  have ha : At (takeF c 2).2 (bl s ++ r) := ht.2
  have h3 := take_at ha s.size (by rw [List.length_append, bl_len]; omega)
  rw [List.take_left' (bl_len s), List.drop_left' (bl_len s)] at h3
  unfold binaryF
  rw [hid]
  exact ⟨bl_inj h3.1, h3.2⟩
theorem be2_bytes (x y : UInt8) : bl (be2 ((x.toNat : Int) * 256 + (y.toNat : Int))) = [x, y] := by
  have := be2_get x y
  simpa [getL] using this
theorem binary_back {c : Cu} {r : List UInt8} (h : At c r) (he : (binaryF c).2.err = 0) : (binaryF c).1.size ≤ 65535 ∧ ∃ rest, r = bl (framedS (binaryF c).1) ++ rest ∧ At (binaryF c).2 rest := by
  by_cases h2 : 2 ≤ r.length
  · obtain ⟨x, y, t, rfl⟩ := take2 h2
    obtain ⟨hn, ha⟩ := num2_at h
    have hx := x.toNat_lt
    have hy := y.toNat_lt
    unfold binaryF at he ⊢
    rw [hn] at he ⊢
    obtain ⟨k, hk⟩ : ∃ k : Nat, (x.toNat : Int) * 256 + (y.toNat : Int) = k := ⟨x.toNat * 256 + y.toNat, by omega⟩
    have hb := be2_bytes x y
    rw [hk] at he ⊢ hb
    have hle := take_ok' ha k he
    have ht := take_at ha k hle
    have hsz : (takeF (takeF c 2).2 (k : Int)).1.size = k := by rw [← bl_len, ht.1, List.length_take]; omega
    refine ⟨by omega, t.drop k, ?_, ht.2⟩
    rw [framed_bl, hsz, hb, ht.1, List.append_assoc, List.take_append_drop]
    rfl
  · exfalso
    have hs : (takeF c 2).2.err = 3 := take_sh h 2 (by omega)
    unfold binaryF at he
    rw [take_err (by rw [hs]; decide), hs] at he
    cases he
theorem text_at {c : Cu} {s : ByteArray} {r : List UInt8} (h : At c (bl (framedS s) ++ r)) (hv : validU s = true) : (textF c).1 = s ∧ At (textF c).2 r := by
  have hz : s.size ≤ 65535 := by
    unfold validU at hv
    rw [Bool.and_eq_true] at hv
    simpa using hv.1
  obtain ⟨h1, h2⟩ := binary_at h hz
  unfold textF
  rw [h1]
  refine ⟨rfl, ?_⟩
  show At (unlessF (binaryF c).2 (validU s) 6) r
  rw [unless_yes _ hv]
  exact h2
theorem text_back {c : Cu} {r : List UInt8} (h : At c r) (he : (textF c).2.err = 0) : validU (textF c).1 = true ∧ ∃ rest, r = bl (framedS (textF c).1) ++ rest ∧ At (textF c).2 rest := by
  have h1 : (textF c).1 = (binaryF c).1 := rfl
  have h2 : (textF c).2 = unlessF (binaryF c).2 (validU (binaryF c).1) 6 := rfl
  rw [h2] at he ⊢
  rw [h1]
  have hb : (binaryF c).2.err = 0 := by
    by_cases hq : (binaryF c).2.err = 0
    · exact hq
    · rw [unless_err hq] at he; exact he
  obtain ⟨hz, rest, hr, ha⟩ := binary_back h hb
  obtain ⟨hv, hu⟩ := unless_back ha (by decide) he
  rw [hu]
  exact ⟨hv, rest, hr, ha⟩
theorem props4 (k : Int) (c : Cu) : propsF 4 k c = ([], c) := rfl
theorem tail4 (k : Int) (l : List Prp) : tailS 4 k l = ⟨#[]⟩ := rfl
theorem tail5 {v : Int} (h : v ≠ 4) (k : Int) (l : List Prp) : tailS v k l = (bytesF k l).1 := by unfold tailS; rw [if_neg (by simpa using h)]
theorem rest_bd {c : Cu} {r : List UInt8} (h : At c r) : (restF c).size ≤ 140737488351232 := by
  rw [← bl_len, bl_rest h]; have := h.ok.size; have := h.len; omega
/-- What a version's properties must be. -/
def TlOK (v k : Int) (l : List Prp) : Prop := (v = 4 → l = []) ∧ (v ≠ 4 → (bytesF k l).2 = 0)
theorem props_at {v k : Int} {l : List Prp} {c : Cu} {r : List UInt8} (hl : TlOK v k l) (hp : ∀ p ∈ l, PrpOK p) (h : At c (bl (tailS v k l) ++ r)) : (propsF v k c).1 = l ∧ At (propsF v k c).2 r := by
  by_cases h4 : v = 4
  · subst h4
    rw [tail4] at h
    rw [props4, hl.1 rfl]
    exact ⟨rfl, h⟩
  · rw [tail5 h4] at h
    have hr := pread_at (s := restF c) (rest := r) (hl.2 h4) hp (bl_rest h) (rest_bd h)
    unfold propsF
    rw [if_neg (by simpa using h4), if_neg (by rw [h.err]; decide), hr]
    simp only []
    rw [fail_0 h]
    have h3 := (take_at h (bl (bytesF k l).1).length (by rw [List.length_append]; omega)).2
    rw [List.drop_left' rfl] at h3
    exact ⟨trivial, h3⟩
theorem props_back {v k : Int} {c : Cu} {r : List UInt8} (h : At c r) (he : (propsF v k c).2.err = 0) : TlOK v k (propsF v k c).1 ∧ ∃ rest, r = bl (tailS v k (propsF v k c).1) ++ rest ∧ At (propsF v k c).2 rest := by
  by_cases h4 : v = 4
  · subst h4
    rw [props4, tail4]
    exact ⟨⟨fun _ => rfl, fun e => absurd rfl e⟩, r, rfl, h⟩
  · obtain ⟨⟨l, size, e⟩, hp⟩ : ∃ q, preadF k (restF c) = q := ⟨_, rfl⟩
    have hE : propsF v k c = (l, (takeF (failF c e) size).2) := by
      unfold propsF
      rw [if_neg (by simpa using h4), if_neg (by rw [h.err]; decide), hp]
    rw [hE] at he ⊢
    simp only [] at he ⊢
    have he0 : e = 0 := by
      by_cases hq : e = 0
      · exact hq
      · exfalso
        have hf : (failF c e).err = e := fail_at h e
        rw [take_err (by rw [hf]; exact hq), hf] at he
        exact hq he
    subst he0
    rw [fail_0 h] at he ⊢
    obtain ⟨hok, rest, hb, rfl⟩ := pread_back hp (rest_bd h)
    rw [bl_rest h] at hb
    subst hb
    have h3 := (take_at h (bl (bytesF k l).1).length (by rw [List.length_append]; omega)).2
    rw [List.drop_left' rfl] at h3
    exact ⟨⟨fun e => absurd e h4, fun _ => hok⟩, rest, by rw [tail5 h4], h3⟩
end Go.Proofs.YtjlkhihlbdokpaaGreat
/- A CONNECT's bytes in plain Lean: both ways. -/
namespace Go.Proofs.YtjlkhihlbdokpaaGreat
open Go.RowKit
set_option maxHeartbeats 2000000
set_option linter.unusedVariables false
set_option linter.unusedSimpArgs false
def conW (v : Int) (p : Pk) (lw : List Prp) : List UInt8 := if p.hasWill = true then bl (tailS v 16 lw) ++ (bl (framedS p.wTopic) ++ bl (framedS p.wPayload)) else []
def conU (p : Pk) : List UInt8 := if p.hasUser = true then bl (framedS p.user) else []
def conPa (p : Pk) : List UInt8 := if p.hasPass = true then bl (framedS p.pass) else []
/-- A CONNECT's bytes behind its flags. -/
def conT (v : Int) (p : Pk) (lw lp : List Prp) : List UInt8 := bl (be2 p.keep) ++ (bl (tailS v 1 lp) ++ (bl (framedS p.client) ++ (conW v p lw ++ (conU p ++ conPa p))))
def conL (v : Int) (p : Pk) (lw lp : List Prp) : List UInt8 := bl nameS ++ (bl (be1 v) ++ (bl (be1 (flagsF p)) ++ conT v p lw lp))
theorem con3_bl {v : Int} {p : Pk} {lw lp : List Prp} (hk : p.kind = 1) : bl (con3 v p lw lp) = conL v p lw lp := by
  have h0 : bl (con0 v p lp) = bl nameS ++ (bl (be1 v) ++ (bl (be1 (flagsF p)) ++ (bl (be2 p.keep) ++ (bl (tailS v 1 lp) ++ bl (framedS p.client))))) := by
    unfold con0
    rw [hk]
    simp only [catL, bl_app, bl_nil, List.append_nil]
  have h1 : bl (con1 v p lw lp) = bl (con0 v p lp) ++ conW v p lw := by
    unfold con1 conW
    split
    · simp only [catL, bl_app, bl_nil, List.append_nil]
    · rw [List.append_nil]
  have h2 : bl (con2 v p lw lp) = bl (con1 v p lw lp) ++ conU p := by
    unfold con2 conU
    split
    · simp only [catL, bl_app, bl_nil, List.append_nil]
    · rw [List.append_nil]
  have h3 : bl (con3 v p lw lp) = bl (con2 v p lw lp) ++ conPa p := by
    unfold con3 conPa
    split
    · simp only [catL, bl_app, bl_nil, List.append_nil]
    · rw [List.append_nil]
  rw [h3, h2, h1, h0]
  unfold conL conT
  simp only [List.append_assoc]
/-- What a CONNECT that can be has. -/
structure CnOK (v : Int) (p : Pk) (lw lp : List Prp) : Prop where
  known : v = 4 ∨ v = 5
  client : validU p.client = true
  user : validU p.user = true
  topic : p.hasWill = true → nameB p.wTopic = true
  wPay : p.wPayload.size ≤ 65535
  pass : p.pass.size ≤ 65535
  props : TlOK v 1 lp
  wProps : TlOK v 16 lw
  keep0 : 0 ≤ p.keep
  keep1 : p.keep < 65536
  qos0 : 0 ≤ p.wQoS
  qos2 : p.wQoS ≤ 2
  oldPass : v = 4 → p.hasPass = true → p.hasUser = true
  noWill : p.hasWill = false → p.wTopic = ⟨#[]⟩ ∧ p.wPayload = ⟨#[]⟩ ∧ p.wQoS = 0 ∧ p.wRetain = false ∧ p.wProps.n = 0
  noUser : p.hasUser = false → p.user = ⟨#[]⟩
  noPass : p.hasPass = false → p.pass = ⟨#[]⟩
  kind : p.kind = 1
  same : sameEq p (aloneQ p) = true
  ranges : rangesB v p = true
theorem toL_nil {s : ByteArray} (h : s.toList = (⟨#[]⟩ : ByteArray).toList) : s = ⟨#[]⟩ := toL_eq h
theorem alone_con {p : Pk} (hk : p.kind = 1) : (aloneQ p).wTopic = (if p.hasWill = true then p.wTopic else ⟨#[]⟩) ∧ (aloneQ p).wPayload = (if p.hasWill = true then p.wPayload else ⟨#[]⟩) ∧ (aloneQ p).wQoS = (if p.hasWill = true then p.wQoS else 0) ∧ (aloneQ p).wRetain = (if p.hasWill = true then p.wRetain else false) ∧ (aloneQ p).wProps = (if p.hasWill = true then p.wProps else zeroSl) ∧ (aloneQ p).user = (if p.hasUser = true then p.user else ⟨#[]⟩) ∧ (aloneQ p).pass = (if p.hasPass = true then p.pass else ⟨#[]⟩) := by
  unfold aloneQ
  rw [if_neg (by rw [hk]; decide)]
  exact ⟨rfl, rfl, rfl, rfl, rfl, rfl, rfl⟩
theorem cnOK_of {v : Int} {p : Pk} {lw lp : List Prp} (hk : p.kind = 1) (hn : p.props.n = lp.length) (hw : p.wProps.n = lw.length) (h : connV v p lw lp = 0) : CnOK v p lw lp := by
  unfold connV at h
  split at h
  case isFalse => cases h
  rename_i h1
  split at h
  case isFalse => cases h
  rename_i h2
  split at h
  case isFalse => cases h
  rename_i h3
  split at h
  case isFalse => cases h
  rename_i h4
  split at h
  case isFalse => cases h
  rename_i h5
  split at h
  case isFalse => cases h
  rename_i h6
  have hs : sizesC p lw lp = 0 ∧ (p.hasWill = true → nameB p.wTopic = true) := by
    split at h
    · split at h
      · rename_i h7; exact ⟨h, fun _ => h7⟩
      · cases h
    · rename_i h7; exact ⟨h, fun e => absurd e h7⟩
  obtain ⟨hz, ht⟩ := hs
  unfold sizesC at hz
  split at hz
  · cases hz
  rename_i z1
  split at hz
  · cases hz
  rename_i z2
  split at hz
  · rename_i z3; rw [hz] at z3; exact absurd z3 (by decide)
  rename_i z3
  have z1' : p.wPayload.size ≤ 65535 := by simp at z1; omega
  have z2' : p.pass.size ≤ 65535 := by simp at z2; omega
  have z3' : (bytesF 1 lp).2 = 0 := by rw [hk] at z3; simpa using z3
  have hv : v = 4 ∨ v = 5 := by
    unfold knownB at h1
    simpa using h1
  have hs := h3
  unfold sameEq at hs
  simp only [Bool.and_eq_true, beq_iff_eq] at hs
  obtain ⟨hb, hwl, hc, hf, -⟩ := hs
  unfold willEq at hwl
  simp only [Bool.and_eq_true, beq_iff_eq] at hwl
  obtain ⟨w1, w2, w3, w4, w5⟩ := hwl
  obtain ⟨a0, a1, a2, a3, a4, a5, a6, a7, a8, a9, a10, a11, a12, a13, a14, a15, a16⟩ := bare_all hb
  obtain ⟨q1, q2, q3, q4, q5, q6, q7⟩ := alone_con hk
  rw [q1] at w1
  rw [q2] at w2
  rw [q3] at w3
  rw [q4] at w4
  rw [q5] at w5
  rw [q6] at a15
  rw [q7] at a16
  have hr : (v = 4 → p.props.n = 0 ∧ p.wProps.n = 0 ∧ (p.hasPass = true → p.hasUser = true)) ∧ keepB p = true := by
    have hr := h4
    unfold rangesB at hr
    split at hr
    · split at hr
      · cases hr
      rename_i r1
      have r1' : p.props.n = 0 ∧ p.wProps.n = 0 := by simp at r1; omega
      rw [if_neg (by rw [hk]; decide)] at hr
      have hl : lackB p = true := by
        split at hr
        · split at hr
          · exact hr
          · cases hr
        · exact hr
      unfold lackB at hl
      split at hl
      · split at hl
        · rename_i u; exact ⟨fun _ => ⟨r1'.1, r1'.2, fun _ => u⟩, hl⟩
        · cases hl
      · rename_i u; exact ⟨fun _ => ⟨r1'.1, r1'.2, fun e => absurd e u⟩, hl⟩
    · rename_i v4
      rw [if_neg (by rw [hk]; decide)] at hr
      exact ⟨fun e => absurd (by simpa using e) v4, hr⟩
  obtain ⟨hr4, hkp⟩ := hr
  unfold keepB at hkp
  split at hkp
  case isFalse => cases hkp
  rename_i k0
  split at hkp
  case isFalse => cases hkp
  rename_i k1
  split at hkp
  case isFalse => cases hkp
  rename_i k2
  refine ⟨hv, h5, h6, ht, z1', z2', ⟨fun e => ?_, fun _ => z3'⟩, ⟨fun e => ?_, fun _ => hz⟩, by simpa using k0, by simpa using k1, by simpa using k2, by simpa using hkp, fun e => (hr4 e).2.2, fun e => ?_, fun e => ?_, fun e => ?_, hk, h3, h4⟩
  · apply List.eq_nil_of_length_eq_zero; rw [← hn]; exact (hr4 e).1
  · apply List.eq_nil_of_length_eq_zero; rw [← hw]; exact (hr4 e).2.1
  · rw [e] at w1 w2 w3 w4 w5
    simp only [if_false, Bool.false_eq_true] at w1 w2 w3 w4 w5
    exact ⟨toL_nil w1, toL_nil w2, w3, w4, w5⟩
  · rw [e] at a15
    simp only [if_false, Bool.false_eq_true] at a15
    exact toL_nil a15
  · rw [e] at a16
    simp only [if_false, Bool.false_eq_true] at a16
    exact toL_nil a16
/- The flags, by cases. -/
def flagN (u a r : Bool) (q : Int) (w c : Bool) : Int := b2i u 128 + b2i a 64 + b2i r 32 + q % 4 * 8 + b2i w 4 + b2i c 2
theorem flags_n {p : Pk} (hk : p.kind = 1) : flagsF p = flagN p.hasUser p.hasPass p.wRetain p.wQoS p.hasWill p.clean := by
  unfold flagsF flagN
  rw [if_pos (by rw [hk]; decide)]
theorem flagN_all : ∀ (q : Fin 3) (u a r w c : Bool), 0 ≤ flagN u a r (q.val : Int) w c ∧ flagN u a r (q.val : Int) w c < 256 ∧ fb (flagN u a r (q.val : Int) w c) 2 = c ∧ fb (flagN u a r (q.val : Int) w c) 4 = w ∧ fb (flagN u a r (q.val : Int) w c) 64 = a ∧ fb (flagN u a r (q.val : Int) w c) 128 = u ∧ fb (flagN u a r (q.val : Int) w c) 32 = r ∧ qosF (flagN u a r (q.val : Int) w c) = (q.val : Int)
    ∧ (((w = true ∨ q.val = 0 ∧ r = false) ∧ (a = true → u = true)) → flagB 4 (flagN u a r (q.val : Int) w c) = true) ∧ ((w = true ∨ q.val = 0 ∧ r = false) → flagB 5 (flagN u a r (q.val : Int) w c) = true) := by decide +kernel
theorem flags_all {v : Int} {p : Pk} {lw lp : List Prp} (h : CnOK v p lw lp) : 0 ≤ flagsF p ∧ flagsF p < 256 ∧ fb (flagsF p) 2 = p.clean ∧ fb (flagsF p) 4 = p.hasWill ∧ fb (flagsF p) 64 = p.hasPass ∧ fb (flagsF p) 128 = p.hasUser ∧ fb (flagsF p) 32 = p.wRetain ∧ qosF (flagsF p) = p.wQoS ∧ flagB v (flagsF p) = true := by
  rw [flags_n h.kind]
  have q0 := h.qos0
  have q2 := h.qos2
  obtain ⟨q, hq⟩ : ∃ q : Fin 3, p.wQoS = (q.val : Int) := ⟨⟨p.wQoS.toNat, by omega⟩, by simp; omega⟩
  have hw : p.hasWill = true ∨ q.val = 0 ∧ p.wRetain = false := by
    cases hh : p.hasWill
    · obtain ⟨-, -, e, r, -⟩ := h.noWill hh
      exact .inr ⟨by omega, r⟩
    · exact .inl rfl
  have hall := flagN_all q p.hasUser p.hasPass p.wRetain p.hasWill p.clean
  rw [← hq] at hall
  obtain ⟨b0, b1, b2, b3, b4, b5, b6, b7, b8, b9⟩ := hall
  refine ⟨b0, b1, b2, b3, b4, b5, b6, b7, ?_⟩
  rcases h.known with e | e
  · rw [e]; exact b8 ⟨hw, h.oldPass e⟩
  · rw [e]; exact b9 hw
theorem flagF_all : ∀ f : Fin 256, flagB 4 (f.val : Int) = true ∨ flagB 5 (f.val : Int) = true → flagN (fb (f.val : Int) 128) (fb (f.val : Int) 64) (fb (f.val : Int) 32) (qosF (f.val : Int)) (fb (f.val : Int) 4) (fb (f.val : Int) 2) = (f.val : Int) := by decide +kernel
theorem flagF_back {v f : Int} (f0 : 0 ≤ f) (f1 : f < 256) (hv : v = 4 ∨ v = 5) (h : flagB v f = true) (keep : Int) (ps : Sl) (client : ByteArray) (ws : Sl) (wt wp user pass : ByteArray) : flagsF (mkConn f keep ps client ws wt wp user pass) = f := by
  rw [flags_n rfl]
  have hall := flagF_all ⟨f.toNat, by omega⟩
  have e : ((f.toNat : Nat) : Int) = f := by omega
  simp only [e] at hall
  apply hall
  rcases hv with rfl | rfl
  · exact .inl h
  · exact .inr h
theorem bl_name {s : ByteArray} (h : bl s = bl nameS) : (s.toList == [0, 4, 77, 81, 84, 84]) = true := by
  have : s = nameS := bl_inj h
  rw [this, ByteArray.toList_eq]
  rfl
theorem name_bl {s : ByteArray} (h : (s.toList == [0, 4, 77, 81, 84, 84]) = true) : bl s = bl nameS := by
  have h' : s.toList = [0, 4, 77, 81, 84, 84] := by simpa using h
  rw [ByteArray.toList_eq] at h'
  exact h'
theorem cH_at {v : Int} {c : Cu} {r : List UInt8} (v0 : 0 ≤ v) (v1 : v < 256) (h : At c (bl nameS ++ (bl (be1 v) ++ r))) : At (cH v c) r := by
  have ht := take_at h 6 (by rw [List.length_append]; show 6 ≤ 6 + _; omega)
  rw [List.take_left' (show (bl nameS).length = 6 from rfl), List.drop_left' (show (bl nameS).length = 6 from rfl)] at ht
  have h1 : cC1 c = (takeF c 6).2 := unless_yes _ (bl_name ht.1) 5
  have ha : At (takeF c 6).2 (bl (be1 v) ++ r) := ht.2
  obtain ⟨x, hx, hxv⟩ := byte1 v0 v1
  rw [hx] at ha
  obtain ⟨hn, ha2⟩ := num1_at ha
  unfold cH cC2
  rw [h1, hn, hxv, unless_yes _ (by simp)]
  exact ha2
theorem take_back {c : Cu} {n : Int} (h : (takeF c n).2.err = 0) : c.err = 0 := by
  by_cases hq : c.err = 0
  · exact hq
  · rw [take_err hq] at h; exact h
theorem unless_back' {c : Cu} {b : Bool} {e : Int} (h : (unlessF c b e).err = 0) : c.err = 0 := by
  by_cases hq : c.err = 0
  · exact hq
  · rw [unless_err hq] at h; exact h
theorem cH_back {v : Int} {c : Cu} {r : List UInt8} (h : At c r) (he : (cH v c).err = 0) : ∃ rest, r = bl nameS ++ (bl (be1 v) ++ rest) ∧ At (cH v c) rest := by
  unfold cH cC2 at he ⊢
  have e1 := take_back (unless_back' he)
  unfold cC1 at e1
  have e0 := unless_back' e1
  have hle := take_ok' h 6 e0
  have ht := take_at h 6 hle
  have ha : At (takeF c 6).2 (r.drop 6) := ht.2
  obtain ⟨hn, hu⟩ := unless_back ha (by decide) e1
  have h1 : cC1 c = (takeF c 6).2 := hu
  rw [h1] at he ⊢
  have hb : r.take 6 = bl nameS := by rw [← ht.1]; exact name_bl hn
  have e2 := unless_back' he
  have hle2 := take_ok' ha 1 e2
  obtain ⟨x, t, hx⟩ := take1 hle2
  rw [hx] at ha
  obtain ⟨hnum, ha2⟩ := num1_at ha
  obtain ⟨hv, hu2⟩ := unless_back ha2 (by decide) he
  rw [hu2]
  refine ⟨t, ?_, ha2⟩
  rw [hnum] at hv
  have hv' : (x.toNat : Int) = v := by simpa using hv
  have hbe : bl (be1 v) = [x] := by
    rw [← hv']
    have := be1_get x
    simpa [getL] using this
  rw [hbe, ← hb]
  have := List.take_append_drop 6 r
  rw [hx] at this
  exact this.symm
theorem cC3_at {v : Int} {c : Cu} {x : UInt8} {r : List UInt8} (h : At c (x :: r)) (hf : flagB v (x.toNat : Int) = true) : numF c 1 = (x.toNat : Int) ∧ At (cC3 v c) r := by
  obtain ⟨hn, ha⟩ := num1_at h
  refine ⟨hn, ?_⟩
  unfold cC3
  rw [hn, unless_yes _ hf]
  exact ha
theorem cC3_back {v : Int} {c : Cu} {r : List UInt8} (h : At c r) (he : (cC3 v c).err = 0) : ∃ x rest, r = x :: rest ∧ numF c 1 = (x.toNat : Int) ∧ flagB v (x.toNat : Int) = true ∧ At (cC3 v c) rest := by
  unfold cC3 at he ⊢
  have hle := take_ok' h 1 (unless_back' he)
  obtain ⟨x, t, rfl⟩ := take1 hle
  obtain ⟨hn, ha⟩ := num1_at h
  obtain ⟨hv, hu⟩ := unless_back ha (by decide) he
  rw [hn] at hv
  rw [hu]
  exact ⟨x, t, rfl, hn, hv, ha⟩
theorem cW_at {v : Int} {p : Pk} {lw lp : List Prp} (h : CnOK v p lw lp) (hw : p.wProps.n = lw.length) (hp : ∀ q ∈ lw, PrpOK q) {c : Cu} {r : List UInt8} (hc : At c (conW v p lw ++ r)) : (cW v p.hasWill c).1 = lw ∧ (cW v p.hasWill c).2.1 = p.wTopic ∧ (cW v p.hasWill c).2.2.1 = p.wPayload ∧ At (cW v p.hasWill c).2.2.2 r := by
  unfold conW at hc
  unfold cW
  cases hh : p.hasWill
  · obtain ⟨e1, e2, -, -, e5⟩ := h.noWill hh
    rw [hh, if_neg Bool.false_ne_true, List.nil_append] at hc
    rw [if_neg Bool.false_ne_true, e1, e2]
    exact ⟨(List.eq_nil_of_length_eq_zero (by omega)).symm, rfl, rfl, hc⟩
  · rw [hh, if_pos rfl, List.append_assoc, List.append_assoc] at hc
    rw [if_pos rfl]
    obtain ⟨p1, p2⟩ := props_at h.wProps hp hc
    have hv : validU p.wTopic = true := by
      have := h.topic hh
      unfold nameB at this
      rw [Bool.and_eq_true, Bool.and_eq_true] at this
      exact this.1.2
    obtain ⟨t1, t2⟩ := text_at p2 hv
    obtain ⟨b1, b2⟩ := binary_at t2 h.wPay
    exact ⟨p1, t1, b1, b2⟩
theorem cU_at {v : Int} {p : Pk} {lw lp : List Prp} (h : CnOK v p lw lp) {c : Cu} {r : List UInt8} (hc : At c (conU p ++ r)) : (cU p.hasUser c).1 = p.user ∧ At (cU p.hasUser c).2 r := by
  unfold conU at hc
  unfold cU
  cases hh : p.hasUser
  · rw [hh, if_neg Bool.false_ne_true, List.nil_append] at hc
    rw [if_neg Bool.false_ne_true, h.noUser hh]
    exact ⟨rfl, hc⟩
  · rw [hh, if_pos rfl] at hc
    rw [if_pos rfl]
    exact text_at hc h.user
theorem cP_at {v : Int} {p : Pk} {lw lp : List Prp} (h : CnOK v p lw lp) {c : Cu} {r : List UInt8} (hc : At c (conPa p ++ r)) : (cP p.hasPass c).1 = p.pass ∧ At (cP p.hasPass c).2 r := by
  unfold conPa at hc
  unfold cP
  cases hh : p.hasPass
  · rw [hh, if_neg Bool.false_ne_true, List.nil_append] at hc
    rw [if_neg Bool.false_ne_true, h.noPass hh]
    exact ⟨rfl, hc⟩
  · rw [hh, if_pos rfl] at hc
    rw [if_pos rfl]
    exact binary_at hc h.pass
/-- A CONNECT is read from its bytes, whatever stands behind them. -/
theorem conn_at {v : Int} {p : Pk} {lw lp : List Prp} (h : CnOK v p lw lp) (hw : p.wProps.n = lw.length) (hp : ∀ q ∈ lp, PrpOK q) (hpw : ∀ q ∈ lw, PrpOK q) {c : Cu} {r : List UInt8} (hc : At c (conL v p lw lp ++ r)) :
    ∃ c', connF v c = ⟨flagsF p, p.keep, lp, p.client, lw, p.wTopic, p.wPayload, p.user, p.pass, c'⟩ ∧ At c' r := by
  have hv : 0 ≤ v ∧ v < 256 := by rcases h.known with e | e <;> omega
  obtain ⟨f0, f1, f2, f3, f4, f5, f6, f7, f8⟩ := flags_all h
  unfold conL conT at hc
  simp only [List.append_assoc] at hc
  have h1 := cH_at hv.1 hv.2 hc
  obtain ⟨x, hx, hxf⟩ := byte1 f0 f1
  rw [hx, List.singleton_append] at h1
  obtain ⟨n1, h2⟩ := cC3_at h1 (by rw [hxf]; exact f8)
  rw [hxf] at n1
  obtain ⟨l2, g2⟩ := bl_be2 h.keep0 h.keep1
  have ht := take_at h2 2 (by rw [List.length_append, l2]; omega)
  rw [List.take_left' l2, List.drop_left' l2] at ht
  have n2 : numF (cC3 v (cH v c)) 2 = p.keep := by
    have : numF (cC3 v (cH v c)) (2 : Nat) = p.keep := by unfold numF; rw [getF_bl ht.1, g2]
    exact this
  have h4 : At (takeF (cC3 v (cH v c)) 2).2 (bl (tailS v 1 lp) ++ (bl (framedS p.client) ++ (conW v p lw ++ (conU p ++ (conPa p ++ r))))) := ht.2
  obtain ⟨p1, h5⟩ := props_at h.props hp h4
  obtain ⟨t1, h6⟩ := text_at h5 h.client
  have h6' : At (cT v c).2 (conW v p lw ++ (conU p ++ (conPa p ++ r))) := h6
  have t1' : (cT v c).1 = p.client := t1
  obtain ⟨w1, w2, w3, h7⟩ := cW_at h hw hpw h6'
  obtain ⟨u1, h8⟩ := cU_at h h7
  obtain ⟨a1, h9⟩ := cP_at h h8
  refine ⟨_, ?_, h9⟩
  unfold connF
  simp only []
  rw [n1, f3, f5, f4, n2, p1, t1', w1, w2, w3, u1, a1]
theorem cW_back {v : Int} {b : Bool} {c : Cu} {r : List UInt8} (h : At c r) (he : (cW v b c).2.2.2.err = 0) : TlOK v 16 (cW v b c).1 ∧ ∃ rest, r = (if b = true then bl (tailS v 16 (cW v b c).1) ++ (bl (framedS (cW v b c).2.1) ++ bl (framedS (cW v b c).2.2.1)) else []) ++ rest ∧ At (cW v b c).2.2.2 rest := by
  unfold cW at he ⊢
  cases b
  · rw [if_neg Bool.false_ne_true] at he ⊢
    rw [if_neg Bool.false_ne_true]
    exact ⟨⟨fun _ => rfl, fun _ => by rw [bytes_none]⟩, r, rfl, h⟩
  · rw [if_pos rfl] at he ⊢
    rw [if_pos rfl]
    simp only [] at he ⊢
    have e2 : (textF (propsF v 16 c).2).2.err = 0 := by
      by_cases hq : (textF (propsF v 16 c).2).2.err = 0
      · exact hq
      · rw [binary_err hq] at he; exact he
    have e1 : (propsF v 16 c).2.err = 0 := by
      by_cases hq : (propsF v 16 c).2.err = 0
      · exact hq
      · rw [text_err hq] at e2; exact e2
    obtain ⟨hl, r1, rfl, h1⟩ := props_back h e1
    obtain ⟨hv, r2, rfl, h2⟩ := text_back h1 e2
    obtain ⟨hz, r3, rfl, h3⟩ := binary_back h2 he
    exact ⟨hl, r3, by simp only [List.append_assoc], h3⟩
theorem cU_back {b : Bool} {c : Cu} {r : List UInt8} (h : At c r) (he : (cU b c).2.err = 0) : ∃ rest, r = (if b = true then bl (framedS (cU b c).1) else []) ++ rest ∧ At (cU b c).2 rest := by
  unfold cU at he ⊢
  cases b
  · rw [if_neg Bool.false_ne_true] at he ⊢
    rw [if_neg Bool.false_ne_true]
    exact ⟨r, rfl, h⟩
  · rw [if_pos rfl] at he ⊢
    rw [if_pos rfl]
    exact (text_back h he).2
theorem cP_back {b : Bool} {c : Cu} {r : List UInt8} (h : At c r) (he : (cP b c).2.err = 0) : ∃ rest, r = (if b = true then bl (framedS (cP b c).1) else []) ++ rest ∧ At (cP b c).2 rest := by
  unfold cP at he ⊢
  cases b
  · rw [if_neg Bool.false_ne_true] at he ⊢
    rw [if_neg Bool.false_ne_true]
    exact ⟨r, rfl, h⟩
  · rw [if_pos rfl] at he ⊢
    rw [if_pos rfl]
    exact (binary_back h he).2
theorem cW_err {c : Cu} (h : c.err ≠ 0) (v : Int) (b : Bool) : (cW v b c).2.2.2 = c := by
  unfold cW
  split
  · simp only []
    rw [props_err h]
    simp only []
    rw [text_err h]
    simp only []
    rw [binary_err h]
  · rfl
theorem cU_err {c : Cu} (h : c.err ≠ 0) (b : Bool) : (cU b c).2 = c := by
  unfold cU
  split
  · rw [text_err h]
  · rfl
theorem cP_err {c : Cu} (h : c.err ≠ 0) (b : Bool) : (cP b c).2 = c := by
  unfold cP
  split
  · rw [binary_err h]
  · rfl
/-- What is read of a CONNECT is what its bytes are. -/
theorem conn_back {v : Int} (hv : v = 4 ∨ v = 5) {c : Cu} {r : List UInt8} (h : At c r) (he : (connF v c).c.err = 0) (ps ws : Sl) :
    0 ≤ (connF v c).f ∧ (connF v c).f < 256 ∧ flagB v (connF v c).f = true ∧ ∃ rest, r = conL v (mkConn (connF v c).f (connF v c).keep ps (connF v c).client ws (connF v c).wt (connF v c).wp (connF v c).user (connF v c).pass) (connF v c).l2 (connF v c).l1 ++ rest ∧ At (connF v c).c rest := by
  obtain ⟨f, hf⟩ : ∃ f, numF (cH v c) 1 = f := ⟨_, rfl⟩
  obtain ⟨w, hw⟩ : ∃ w, cW v (fb f 4) (cT v c).2 = w := ⟨_, rfl⟩
  obtain ⟨u, hu⟩ : ∃ u, cU (fb f 128) w.2.2.2 = u := ⟨_, rfl⟩
  obtain ⟨a, ha⟩ : ∃ a, cP (fb f 64) u.2 = a := ⟨_, rfl⟩
  have hE : connF v c = ⟨f, numF (cC3 v (cH v c)) 2, (propsF v 1 (takeF (cC3 v (cH v c)) 2).2).1, (cT v c).1, w.1, w.2.1, w.2.2.1, u.1, a.1, a.2⟩ := by
    unfold connF
    simp only []
    rw [hf, hw, hu, ha]
  rw [hE] at he ⊢
  simp only [] at he ⊢
  have e5 : u.2.err = 0 := by
    by_cases hq : u.2.err = 0
    · exact hq
    · rw [← ha, cP_err hq] at he; exact he
  have e4 : w.2.2.2.err = 0 := by
    by_cases hq : w.2.2.2.err = 0
    · exact hq
    · rw [← hu, cU_err hq] at e5; exact e5
  have e3 : (cT v c).2.err = 0 := by
    by_cases hq : (cT v c).2.err = 0
    · exact hq
    · rw [← hw, cW_err hq] at e4; exact e4
  have e2 : (propsF v 1 (takeF (cC3 v (cH v c)) 2).2).2.err = 0 := by
    by_cases hq : (propsF v 1 (takeF (cC3 v (cH v c)) 2).2).2.err = 0
    · exact hq
    · unfold cT at e3; rw [text_err hq] at e3; exact e3
  have e1 : (takeF (cC3 v (cH v c)) 2).2.err = 0 := by
    by_cases hq : (takeF (cC3 v (cH v c)) 2).2.err = 0
    · exact hq
    · rw [props_err hq] at e2; exact e2
  have e0 := take_back e1
  have eH : (cH v c).err = 0 := by
    have := unless_back' (show (unlessF (takeF (cH v c) 1).2 (flagB v (numF (cH v c) 1)) 7).err = 0 from e0)
    exact take_back this
  obtain ⟨r0, rfl, h0⟩ := cH_back h eH
  obtain ⟨x, r1, rfl, hx, hfl, h1⟩ := cC3_back h0 e0
  rw [hf] at hx
  subst hx
  have hle := take_ok' h1 2 e1
  obtain ⟨y, z, r2, rfl⟩ := take2 hle
  obtain ⟨hk, h2⟩ := num2_at h1
  have hbe := be2_bytes y z
  rw [← hk] at hbe
  obtain ⟨-, r3, rfl, h3⟩ := props_back h2 e2
  obtain ⟨-, r4, hr4, h4⟩ := text_back h3 e3
  subst hr4
  have h4' : At (cT v c).2 r4 := h4
  have hcT : (cT v c).1 = (textF (propsF v 1 (takeF (cC3 v (cH v c)) 2).2).2).1 := rfl
  obtain ⟨-, r5, hr5, h5⟩ := cW_back (v := v) (b := fb (x.toNat : Int) 4) h4' (by rw [hw]; exact e4)
  rw [hw] at hr5 h5
  subst hr5
  obtain ⟨r6, hr6, h6⟩ := cU_back (b := fb (x.toNat : Int) 128) h5 (by rw [hu]; exact e5)
  rw [hu] at hr6 h6
  subst hr6
  obtain ⟨r7, hr7, h7⟩ := cP_back (b := fb (x.toNat : Int) 64) h6 (by rw [ha]; exact he)
  rw [ha] at hr7 h7
  subst hr7
  have hxl := x.toNat_lt
  have hb1 : bl (be1 (x.toNat : Int)) = [x] := by
    have := be1_get x
    simpa [getL] using this
  refine ⟨by omega, by omega, hfl, r7, ?_, h7⟩
  unfold conL conT conW conU conPa
  rw [flagF_back (by omega) (by omega) hv hfl, hb1, hcT]
  simp only [mkConn, List.append_assoc, hbe]
  rfl
end Go.Proofs.YtjlkhihlbdokpaaGreat
/- connect.Flags. -/
namespace Go.Proofs.YtjlkhihlbdokpaaGreat
open Go.RowKit Go.Sort
set_option maxHeartbeats 4000000
set_option linter.unusedVariables false
set_option linter.unusedSimpArgs false
def fl (p : Pk) : Nat → Bool
  | 0 => p.clean
  | 1 => p.hasWill
  | 2 => p.wRetain
  | 3 => p.hasPass
  | _ => p.hasUser
def fm : Nat → Int
  | 0 => 2
  | 1 => 4
  | 2 => 32
  | 3 => 64
  | _ => 128
def accF (p : Pk) : Nat → Int
  | 0 => bits .and .i64 p.wQoS 3 * 8
  | k + 1 => if fl p k = true then bits .or .i64 (accF p k) (fm k) else accF p k
theorem acc_yes {p : Pk} {k : Nat} {b : Bool} (h : fl p k = b) (hb : b = true) : accF p (k + 1) = bits .or .i64 (accF p k) (fm k) := by rw [accF, h, if_pos hb]
theorem acc_no {p : Pk} {k : Nat} {b : Bool} (h : fl p k = b) (hb : b = false) : accF p (k + 1) = accF p k := by rw [accF, h, if_neg (by rw [hb]; decide)]
def flagsO (p : Pk) : Int := if (p.kind == 1) = true then accF p 5 else 0
theorem i64_and3 (n : Int) : bits .and .i64 n 3 = n % 4 := by
  have h3 : (BitVec.ofInt 64 3).toNat = 2 ^ 2 - 1 := by decide
  have key : (BitVec.ofInt 64 n &&& BitVec.ofInt 64 3).toNat = (n % ((2 ^ 64 : Nat) : Int)).toNat % 2 ^ 2 := by
    rw [BitVec.toNat_and, BitVec.toNat_ofInt, h3, Nat.and_two_pow_sub_one_eq_mod]
  show IntKind.i64.wrap ((BitVec.ofInt 64 n &&& BitVec.ofInt 64 3).toNat : Nat) = n % 4
  rw [key, IntKind.wrap_i64]
  omega
theorem and3_bd (x : Int) : 0 ≤ bits .and .i64 x 3 ∧ bits .and .i64 x 3 < 4 := by rw [i64_and3]; omega
structure FlAt (w wr : World) (p : Pk) : Prop where
  lt : w.heap.size + 1 < wr.heap.size
  cell : ∀ k, k < 5 → wr.cell? ⟨w.heap.size + 1, 2 * k, none⟩ = some (.bool (fl p k)) ∧ wr.cell? ⟨w.heap.size + 1, 2 * k + 1, none⟩ = some (.int .i64 (fm k))
  bel : Below w.heap.size w wr
theorem FlAt.below {w a b : World} {p : Pk} (h : FlAt w a p) (hb : Below a.heap.size a b) : FlAt w b p :=
  ⟨Nat.lt_of_lt_of_le h.lt hb.size, fun k hk => ⟨(hb.cell (p := ⟨w.heap.size + 1, 2 * k, none⟩) h.lt).trans (h.cell k hk).1, (hb.cell (p := ⟨w.heap.size + 1, 2 * k + 1, none⟩) h.lt).trans (h.cell k hk).2⟩, ext_then' h.bel hb⟩
theorem fl_start (w : World) (p : Pk) : FlAt w ((w.alloc (.cells (packC p) 28)).alloc (.cells #[.bool p.clean, .int .i64 2, .bool p.hasWill, .int .i64 4, .bool p.wRetain, .int .i64 32, .bool p.hasPass, .int .i64 64, .bool p.hasUser, .int .i64 128] 77)) p := by
  have hr := heap_alloc2_new w (.cells (packC p) 28) (.cells #[.bool p.clean, .int .i64 2, .bool p.hasWill, .int .i64 4, .bool p.wRetain, .int .i64 32, .bool p.hasPass, .int .i64 64, .bool p.hasUser, .int .i64 128] 77)
  refine ⟨(Array.getElem?_eq_some_iff.1 hr).1, fun k hk => ?_, ((Below.refl w.heap.size w).alloc (Nat.le_refl _) _).alloc (by simp) _⟩
  rw [cell_of_row _ _ _ _ _ _ hr, cell_of_row _ _ _ _ _ _ hr]
  rcases (show k = 0 ∨ k = 1 ∨ k = 2 ∨ k = 3 ∨ k = 4 by omega) with rfl | rfl | rfl | rfl | rfl <;> exact ⟨rfl, rfl⟩
set_option maxRecDepth 100000 in
theorem flags_t (p : Pk) (w : World) : Calls Tryz.prog 18 #[.agg (packC p)] w fun e w' => e = .returned (.int .i64 (flagsO p)) ∧ Below w.heap.size w w' := by
  have HB1 := Lib.hid ((Below.refl w.heap.size w).alloc (Nat.le_refl _) (.cells (packC p) 28))
  have HGp1 := Lib.hid (heap_alloc_new w (.cells (packC p) 28))
  have cp_0 : (w.alloc (.cells (packC p) 28)).cell? ⟨w.heap.size, 0, none⟩ = some (.int .i64 (p.kind)) := pack_at HGp1.out 0 _ rfl
  have cp_7 : (w.alloc (.cells (packC p) 28)).cell? ⟨w.heap.size, 7, none⟩ = some (.bool (p.clean)) := pack_at HGp1.out 7 _ rfl
  have cp_10 : (w.alloc (.cells (packC p) 28)).cell? ⟨w.heap.size, 10, none⟩ = some (.bool (p.hasUser)) := pack_at HGp1.out 10 _ rfl
  have cp_12 : (w.alloc (.cells (packC p) 28)).cell? ⟨w.heap.size, 12, none⟩ = some (.bool (p.hasPass)) := pack_at HGp1.out 12 _ rfl
  have cp_14 : (w.alloc (.cells (packC p) 28)).cell? ⟨w.heap.size, 14, none⟩ = some (.bool (p.hasWill)) := pack_at HGp1.out 14 _ rfl
  have cp_17 : (w.alloc (.cells (packC p) 28)).cell? ⟨w.heap.size, 17, none⟩ = some (.int .i64 (p.wQoS)) := pack_at HGp1.out 17 _ rfl
  have cp_18 : (w.alloc (.cells (packC p) 28)).cell? ⟨w.heap.size, 18, none⟩ = some (.bool (p.wRetain)) := pack_at HGp1.out 18 _ rfl
  obtain ⟨q0, q1⟩ := and3_bd p.wQoS
  cases hk : (p.kind == 1)
  · have HE : Hid (flagsO p = 0) := Lib.hid (by unfold flagsO; rw [hk]; rfl)
    go_enter Tryz.func18, Tryz.ntmps18
    go_wp2
    go_ret
    exact ⟨by rw [HE.out]; rfl, HB1.out⟩
  · have HE : Hid (flagsO p = accF p 5) := Lib.hid (by unfold flagsO; rw [hk]; rfl)
    go_enter Tryz.func18, Tryz.ntmps18
    go_wp2
    go_loopw [3, 32] (fun v3 v32 wr => ∃ k : Nat, k ≤ 5 ∧ v32 = .int .i64 k ∧ v3 = .int .i64 (accF p k) ∧ FlAt w wr p) (fun _ v32 _ => 5 - (intOf v32).toNat)
    case atStart => exact ⟨0, by omega, rfl, rfl, fl_start w p⟩
    case round =>
      obtain ⟨k, hk5, rfl, rfl, hfl⟩ := hrel
      have HF := Lib.hid hfl
      clear cp_0 cp_7 cp_10 cp_12 cp_14 cp_17 cp_18 q0 q1
      rcases (show k = 5 ∨ k = 0 ∨ k = 1 ∨ k = 2 ∨ k = 3 ∨ k = 4 by omega) with rfl | rfl | rfl | rfl | rfl | rfl
      · clear hfl
        go_wp2
        go_ret
        exact ⟨by rw [HE.out]; rfl, HF.out.bel⟩
      · obtain ⟨ca, cb⟩ := (hfl.cell 0 (by omega) : wr.cell? ⟨w.heap.size + 1, 0, none⟩ = some (.bool (fl p 0)) ∧ wr.cell? ⟨w.heap.size + 1, 1, none⟩ = some (.int .i64 2))
        clear hfl
        cases hb : fl p 0
        · have HA := Lib.hid (acc_no (k := 0) hb rfl)
          rw [hb] at ca
          clear hb
          go_wp2
          go_roundw
          case rel => exact ⟨1, by omega, rfl, by rw [HA.out], HF.out.below (by repeat (first | exact Below.refl _ _ | refine Below.drew ?_ | (refine Below.alloc ?_ (by simp; done) _) | (refine Below.setCell ?_ (by first | (simp; done) | (simp; omega)) _)))⟩
          case measure => simp [intOf]
        · have HA := Lib.hid (acc_yes (k := 0) hb rfl)
          rw [hb] at ca
          clear hb
          go_wp2
          go_roundw
          case rel => exact ⟨1, by omega, rfl, by rw [HA.out], HF.out.below (by repeat (first | exact Below.refl _ _ | refine Below.drew ?_ | (refine Below.alloc ?_ (by simp; done) _) | (refine Below.setCell ?_ (by first | (simp; done) | (simp; omega)) _)))⟩
          case measure => simp [intOf]
      · obtain ⟨ca, cb⟩ := (hfl.cell 1 (by omega) : wr.cell? ⟨w.heap.size + 1, 2, none⟩ = some (.bool (fl p 1)) ∧ wr.cell? ⟨w.heap.size + 1, 3, none⟩ = some (.int .i64 4))
        clear hfl
        cases hb : fl p 1
        · have HA := Lib.hid (acc_no (k := 1) hb rfl)
          rw [hb] at ca
          clear hb
          go_wp2
          go_roundw
          case rel => exact ⟨2, by omega, rfl, by rw [HA.out], HF.out.below (by repeat (first | exact Below.refl _ _ | refine Below.drew ?_ | (refine Below.alloc ?_ (by simp; done) _) | (refine Below.setCell ?_ (by first | (simp; done) | (simp; omega)) _)))⟩
          case measure => simp [intOf]
        · have HA := Lib.hid (acc_yes (k := 1) hb rfl)
          rw [hb] at ca
          clear hb
          go_wp2
          go_roundw
          case rel => exact ⟨2, by omega, rfl, by rw [HA.out], HF.out.below (by repeat (first | exact Below.refl _ _ | refine Below.drew ?_ | (refine Below.alloc ?_ (by simp; done) _) | (refine Below.setCell ?_ (by first | (simp; done) | (simp; omega)) _)))⟩
          case measure => simp [intOf]
      · obtain ⟨ca, cb⟩ := (hfl.cell 2 (by omega) : wr.cell? ⟨w.heap.size + 1, 4, none⟩ = some (.bool (fl p 2)) ∧ wr.cell? ⟨w.heap.size + 1, 5, none⟩ = some (.int .i64 32))
        clear hfl
        cases hb : fl p 2
        · have HA := Lib.hid (acc_no (k := 2) hb rfl)
          rw [hb] at ca
          clear hb
          go_wp2
          go_roundw
          case rel => exact ⟨3, by omega, rfl, by rw [HA.out], HF.out.below (by repeat (first | exact Below.refl _ _ | refine Below.drew ?_ | (refine Below.alloc ?_ (by simp; done) _) | (refine Below.setCell ?_ (by first | (simp; done) | (simp; omega)) _)))⟩
          case measure => simp [intOf]
        · have HA := Lib.hid (acc_yes (k := 2) hb rfl)
          rw [hb] at ca
          clear hb
          go_wp2
          go_roundw
          case rel => exact ⟨3, by omega, rfl, by rw [HA.out], HF.out.below (by repeat (first | exact Below.refl _ _ | refine Below.drew ?_ | (refine Below.alloc ?_ (by simp; done) _) | (refine Below.setCell ?_ (by first | (simp; done) | (simp; omega)) _)))⟩
          case measure => simp [intOf]
      · obtain ⟨ca, cb⟩ := (hfl.cell 3 (by omega) : wr.cell? ⟨w.heap.size + 1, 6, none⟩ = some (.bool (fl p 3)) ∧ wr.cell? ⟨w.heap.size + 1, 7, none⟩ = some (.int .i64 64))
        clear hfl
        cases hb : fl p 3
        · have HA := Lib.hid (acc_no (k := 3) hb rfl)
          rw [hb] at ca
          clear hb
          go_wp2
          go_roundw
          case rel => exact ⟨4, by omega, rfl, by rw [HA.out], HF.out.below (by repeat (first | exact Below.refl _ _ | refine Below.drew ?_ | (refine Below.alloc ?_ (by simp; done) _) | (refine Below.setCell ?_ (by first | (simp; done) | (simp; omega)) _)))⟩
          case measure => simp [intOf]
        · have HA := Lib.hid (acc_yes (k := 3) hb rfl)
          rw [hb] at ca
          clear hb
          go_wp2
          go_roundw
          case rel => exact ⟨4, by omega, rfl, by rw [HA.out], HF.out.below (by repeat (first | exact Below.refl _ _ | refine Below.drew ?_ | (refine Below.alloc ?_ (by simp; done) _) | (refine Below.setCell ?_ (by first | (simp; done) | (simp; omega)) _)))⟩
          case measure => simp [intOf]
      · obtain ⟨ca, cb⟩ := (hfl.cell 4 (by omega) : wr.cell? ⟨w.heap.size + 1, 8, none⟩ = some (.bool (fl p 4)) ∧ wr.cell? ⟨w.heap.size + 1, 9, none⟩ = some (.int .i64 128))
        clear hfl
        cases hb : fl p 4
        · have HA := Lib.hid (acc_no (k := 4) hb rfl)
          rw [hb] at ca
          clear hb
          go_wp2
          go_roundw
          case rel => exact ⟨5, by omega, rfl, by rw [HA.out], HF.out.below (by repeat (first | exact Below.refl _ _ | refine Below.drew ?_ | (refine Below.alloc ?_ (by simp; done) _) | (refine Below.setCell ?_ (by first | (simp; done) | (simp; omega)) _)))⟩
          case measure => simp [intOf]
        · have HA := Lib.hid (acc_yes (k := 4) hb rfl)
          rw [hb] at ca
          clear hb
          go_wp2
          go_roundw
          case rel => exact ⟨5, by omega, rfl, by rw [HA.out], HF.out.below (by repeat (first | exact Below.refl _ _ | refine Below.drew ?_ | (refine Below.alloc ?_ (by simp; done) _) | (refine Below.setCell ?_ (by first | (simp; done) | (simp; omega)) _)))⟩
          case measure => simp [intOf]
def accN (q : Int) (c w r a u : Bool) : Int :=
  let x1 := if c = true then bits .or .i64 (q * 8) 2 else q * 8
  let x2 := if w = true then bits .or .i64 x1 4 else x1
  let x3 := if r = true then bits .or .i64 x2 32 else x2
  let x4 := if a = true then bits .or .i64 x3 64 else x3
  if u = true then bits .or .i64 x4 128 else x4
theorem accN_all : ∀ (q : Fin 4) (c w r a u : Bool), accN (q.val : Int) c w r a u = b2i u 128 + b2i a 64 + b2i r 32 + (q.val : Int) * 8 + b2i w 4 + b2i c 2 := by decide +kernel
theorem flags_eq (p : Pk) : flagsO p = flagsF p := by
  unfold flagsO flagsF
  split
  · have e : accF p 5 = accN (bits .and .i64 p.wQoS 3) p.clean p.hasWill p.wRetain p.hasPass p.hasUser := rfl
    rw [e, i64_and3]
    obtain ⟨q, hq⟩ : ∃ q : Fin 4, p.wQoS % 4 = (q.val : Int) := ⟨⟨(p.wQoS % 4).toNat, by omega⟩, by simp; omega⟩
    rw [hq]
    exact accN_all q _ _ _ _ _
  · rfl
end Go.Proofs.YtjlkhihlbdokpaaGreat
/- connect.Body of a CONNECT. -/
namespace Go.Proofs.YtjlkhihlbdokpaaGreat
open Go.RowKit Go.Sort
set_option maxHeartbeats 2000000
set_option linter.unusedVariables false
set_option linter.unusedSimpArgs false
structure BoxAt (w w' : World) (p : Pk) : Prop where
  row : w'.heap[w.heap.size]? = some (.cells (packC p) 28 (0, 0))
  c8 : w'.cell? ⟨w.heap.size, 8, none⟩ = some (.int .i64 p.keep)
  c9 : w'.cell? ⟨w.heap.size, 9, none⟩ = some (.string p.client)
  c15 : w'.cell? ⟨w.heap.size, 15, none⟩ = some (.string p.wTopic)
  c16 : w'.cell? ⟨w.heap.size, 16, none⟩ = some (.string p.wPayload)
  c19 : w'.cell? ⟨w.heap.size, 19, none⟩ = some (.slice p.wProps.A p.wProps.n p.wProps.c)
theorem box_of {w w' : World} {p : Pk} (h : w'.heap[w.heap.size]? = some (.cells (packC p) 28 (0, 0))) : BoxAt w w' p :=
  ⟨h, pack_at h 8 _ rfl, pack_at h 9 _ rfl, pack_at h 15 _ rfl, pack_at h 16 _ rfl, pack_at h 19 _ rfl⟩
theorem fbox_below {w a b : World} {p : Pk} (h : a.heap[w.heap.size]? = some (.cells (packC p) 28 (0, 0))) (hb : Below a.heap.size a b) : b.heap[w.heap.size]? = some (.cells (packC p) 28 (0, 0)) := row_then h hb
theorem fbox_alloc {w a : World} {p : Pk} {o : Obj} (h : a.heap[w.heap.size]? = some (.cells (packC p) 28 (0, 0))) : (a.alloc o).heap[w.heap.size]? = some (.cells (packC p) 28 (0, 0)) := (heap_alloc_old a o (Array.getElem?_eq_some_iff.1 h).1).trans h
theorem fbox_drew {w a : World} {p : Pk} (h : a.heap[w.heap.size]? = some (.cells (packC p) 28 (0, 0))) : a.drew.heap[w.heap.size]? = some (.cells (packC p) 28 (0, 0)) := h
theorem yields_row {ops : Array Oper} {S : World → Prop} {op : Oper} {a : Act} (hw : Region.wanted op (yielded ops a.tmps) = true) (ty : TypeId) (x : Operand) (ho : op.op = .load ty x)
    (B : Nat) (hx : a.eval x = .pointer (some ⟨B, 0, none⟩)) (cs : Array Value) (hl : ∀ w, S w → (loadVar ty ⟨B, 0, none⟩).run Tryz.prog w = .ok (.agg cs) w) : YieldsIf Tryz.prog ops S op (.agg cs) a :=
  .inl ⟨hw, fun w hw' => by
    unfold execOp
    simp only [ho, hx, Instr.loadAt, Instr.sureAddr, Sem.run_bind, Sem.run_pure, Result.andThen_ok, hl w hw']⟩
theorem fbox_cell {w b : World} {p : Pk} {i : Nat} {x : Value} (hx : (packC p)[i]? = some x) (h : b.heap[w.heap.size]? = some (.cells (packC p) 28 (0, 0))) : b.cell? ⟨w.heap.size, i, none⟩ = some x := pack_at h i x hx
theorem framed_size (s : ByteArray) : (framedS s).size = 2 + s.size := by unfold framedS; rw [ByteArray.size_append]; rfl
theorem catL_size : ∀ xs : List ByteArray, (catL xs).size = (xs.map ByteArray.size).sum
  | [] => rfl
  | a :: r => by rw [catL, ByteArray.size_append, catL_size r]; rfl
theorem con0_size {v : Int} {p : Pk} {lp : List Prp} (h : p.client.size ≤ 65535) : (con0 v p lp).size ≤ 131200000 := by
  have := tailS_size v p.kind lp
  have e6 : nameS.size = 6 := rfl
  have e1 : ∀ x, (be1 x).size = 1 := fun _ => rfl
  have e2 : ∀ x, (be2 x).size = 2 := fun _ => rfl
  unfold con0
  simp only [catL_size, List.map_cons, List.map_nil, List.sum_cons, List.sum_nil, e6, e1, e2, framed_size]
  omega
theorem con1_size {v : Int} {p : Pk} {lw lp : List Prp} (h : p.client.size ≤ 65535) (h2 : p.wTopic.size ≤ 65535) (h3 : p.wPayload.size ≤ 65535) : (con1 v p lw lp).size ≤ 263000000 := by
  have := con0_size (v := v) (lp := lp) h
  have := tailS_size v 16 lw
  unfold con1
  split
  · simp only [catL_size, List.map_cons, List.map_nil, List.sum_cons, List.sum_nil, framed_size]
    omega
  · omega
theorem con2_size {v : Int} {p : Pk} {lw lp : List Prp} (h : p.client.size ≤ 65535) (h2 : p.wTopic.size ≤ 65535) (h3 : p.wPayload.size ≤ 65535) (h4 : p.user.size ≤ 65535) : (con2 v p lw lp).size ≤ 263100000 := by
  have := con1_size (v := v) (lw := lw) (lp := lp) h h2 h3
  unfold con2
  split
  · simp only [catL_size, List.map_cons, List.map_nil, List.sum_cons, List.sum_nil, framed_size]
    omega
  · omega
theorem con3_size {v : Int} {p : Pk} {lw lp : List Prp} (h : p.client.size ≤ 65535) (h2 : p.wTopic.size ≤ 65535) (h3 : p.wPayload.size ≤ 65535) (h4 : p.user.size ≤ 65535) (h5 : p.pass.size ≤ 65535) : (con3 v p lw lp).size ≤ 263200000 := by
  have := con2_size (v := v) (lw := lw) (lp := lp) h h2 h3 h4
  unfold con3
  split
  · simp only [catL_size, List.map_cons, List.map_nil, List.sum_cons, List.sum_nil, framed_size]
    omega
  · omega
theorem valid_size {s : ByteArray} (h : validU s = true) : s.size ≤ 65535 := by
  unfold validU at h
  rw [Bool.and_eq_true] at h
  simpa using h.1
/-- The texts' sizes of a CONNECT that can be. -/
structure CnSz (v : Int) (p : Pk) : Prop where
  v0 : 0 ≤ v ∧ v < 256
  f0 : 0 ≤ flagsF p ∧ flagsF p < 256
  k0 : 0 ≤ p.keep ∧ p.keep < 65536
  client : p.client.size ≤ 65535
  user : p.user.size ≤ 65535
  wTopic : p.wTopic.size ≤ 65535
  wPay : p.wPayload.size ≤ 65535
  pass : p.pass.size ≤ 65535
theorem cnSz {v : Int} {p : Pk} {lw lp : List Prp} (h : CnOK v p lw lp) : CnSz v p := by
  obtain ⟨f0, f1, -⟩ := flags_all h
  refine ⟨by rcases h.known with e | e <;> omega, ⟨f0, f1⟩, ⟨h.keep0, h.keep1⟩, valid_size h.client, valid_size h.user, ?_, h.wPay, h.pass⟩
  cases hh : p.hasWill
  · rw [(h.noWill hh).1]; exact Nat.zero_le _
  · have := h.topic hh
    unfold nameB at this
    rw [Bool.and_eq_true, Bool.and_eq_true] at this
    exact valid_size this.1.2
set_option maxHeartbeats 40000000 in
set_option maxRecDepth 100000 in
theorem connB_con (v : Int) (p : Pk) (hk : (p.kind == 2) = false) (hok : PkOK p) (lw lp : List Prp) (w : World) (hrw : RP w p.wProps.A p.wProps.n lw) (hrp : RP w p.props.A p.props.n lp) :
    Calls Tryz.prog 11 #[.int .i64 v, .agg (packC p)] w fun e w' => e = .returned (.tuple #[.string (connB v p lw lp).1, .int .i64 (connB v p lw lp).2]) ∧ Below w.heap.size w w' := by
  have HW := Lib.hid hrw
  have HP := Lib.hid hrp
  have HOK := Lib.hid hok
  have HTw := topicH lw
  have HTp := topicH lp
  clear hrw hrp hok
  have HB1 := Lib.hid ((Below.refl w.heap.size w).alloc (Nat.le_refl _) (.cells (packC p) 28))
  have HGp1 := Lib.hid (heap_alloc_new w (.cells (packC p) 28))
  go_enter Tryz.func11, Tryz.ntmps11
  go_wp2_with ((with_reducible refine pk_load (w.heap.size) (p) ?x1 HGp1.out ?a1 ?b1 ?c1 ?d1); (case a1 => rfl); (case b1 => rfl); (case c1 => rfl))
  refine (connV_t v p HOK.out lw lp HTw HTp _ (HW.out.below HB1.out) (HP.out.below HB1.out)).mono ?_
  rintro e w2 ⟨rfl, hb⟩
  have HB2 := Lib.hid (ext_then' HB1.out hb)
  have HGp2 := Lib.hid (row_then HGp1.out hb)
  clear hb HB1 HGp1
  have cp_0 : w2.cell? ⟨w.heap.size, 0, none⟩ = some (.int .i64 (p.kind)) := pack_at HGp2.out 0 _ rfl
  cases he : (connV v p lw lp != 0)
  · have HCN : Hid (p.kind = 1 → CnOK v p lw lp) := Lib.hid fun h1 => cnOK_of h1 HP.out.1.symm HW.out.1.symm (by simpa using he)
    have hk1 : p.kind = 1 := by
      have h0 : connV v p lw lp = 0 := by simpa using he
      unfold connV at h0
      split at h0
      · split at h0
        · rename_i ho
          unfold oursB at ho
          rw [hk, Bool.or_false] at ho
          simpa using ho
        · cases h0
      · cases h0
    have HSZ := Lib.hid (cnSz (HCN.out hk1))
    have HK1 := Lib.hid hk1
    have HE0 : Hid (connB v p lw lp = (con3 v p lw lp, 0)) := Lib.hid (by unfold connB; rw [if_neg (by rw [he]; decide), if_neg (by rw [hk]; decide)])
    clear HCN hk1
    clear cp_0
    have cp_0 : w2.cell? ⟨w.heap.size, 0, none⟩ = some (.int .i64 (p.kind)) := pack_at HGp2.out 0 _ rfl
    have cp_24 : w2.cell? ⟨w.heap.size, 24, none⟩ = some (.slice p.props.A p.props.n p.props.c) := pack_at HGp2.out 24 _ rfl
    go_wp2_with ((with_reducible refine pk_load (w.heap.size) (p) ?x2 HGp2.out ?a2 ?b2 ?c2 ?d2); (case a2 => rfl); (case b2 => rfl); (case c2 => rfl))
    refine (tail_t v p.kind p.props.A p.props.n p.props.c lp HTp _ (HP.out.below HB2.out)).mono ?_
    rintro e w3 ⟨rfl, hb⟩
    have HB3 := Lib.hid (ext_then' HB2.out hb)
    have HGp3 := Lib.hid (row_then HGp2.out hb)
    clear hb HB2 HGp2
    clear cp_0 cp_24
    have cp_0 : w3.cell? ⟨w.heap.size, 0, none⟩ = some (.int .i64 (p.kind)) := pack_at HGp3.out 0 _ rfl
    have cp_24 : w3.cell? ⟨w.heap.size, 24, none⟩ = some (.slice p.props.A p.props.n p.props.c) := pack_at HGp3.out 24 _ rfl
    clear cp_0 cp_24
    have c0 : w3.cell? ⟨w.heap.size, 0, none⟩ = some (.int .i64 p.kind) := pack_at HGp3.out 0 _ rfl
    have HROW := HGp3
    obtain ⟨⟨v0, v1⟩, ⟨f0, f1⟩, ⟨k0, k1⟩⟩ := (⟨HSZ.out.v0, HSZ.out.f0, HSZ.out.k0⟩ : _ ∧ _ ∧ _)
    have hvw : IntKind.u64.wrap v = v := IntWalk.u64_in _ ⟨by omega, by omega⟩
    have hfw : IntKind.u64.wrap (flagsF p) = flagsF p := IntWalk.u64_in _ ⟨by omega, by omega⟩
    have hkw : IntKind.u64.wrap p.keep = p.keep := IntWalk.u64_in _ ⟨by omega, by omega⟩
    have HSZ0 := Lib.hid (con0_size (v := v) (lp := lp) HSZ.out.client)
    go_wp2_with fail
    refine wp_region_noPanic ?_
    refine wp_region_held_drew (S := fun w' => w'.heap[w.heap.size]? = some (.cells (packC p) 28 (0, 0))) (by kernel_rfl) (fbox_drew HROW.out) (fun hHeld => ?_)
    refine wpAnyH_take (i := 0) (v := .int .i64 v) rfl (by kernel_rfl) (by kernel_rfl) (by kernel_rfl) (fun _ _ _ h => h) (Or.inl ⟨by rfl, by intro w hSw; go_simp⟩) hHeld ?_
    try simp only [Act.put, List.setIfInBounds_toArray, List.set_cons_zero, List.set_cons_succ]
    refine wpAnyH_take (i := 1) (v := .int .u64 v) rfl (by kernel_rfl) (by kernel_rfl) (by kernel_rfl) (fun _ _ _ h => h) (Or.inl ⟨by rfl, by intro w hSw; go_simp⟩) hHeld ?_
    try simp only [Act.put, List.setIfInBounds_toArray, List.set_cons_zero, List.set_cons_succ]
    refine wpAnyH_take (i := 3) rfl (by kernel_rfl) (by kernel_rfl) (by kernel_rfl) (fun _ _ _ h => h) (yields_row rfl 28 _ rfl w.heap.size rfl (packC p) (fun w' hS => load_pack w.heap.size (packC p) w' (packC_size p) hS)) hHeld ?_
    try simp only [Act.put, List.setIfInBounds_toArray, List.set_cons_zero, List.set_cons_succ]
    refine wpAnyH_take (i := 7) (v := .pointer (some ⟨w.heap.size, 8, none⟩)) rfl (by kernel_rfl) (by kernel_rfl) (by kernel_rfl) (fun _ _ _ h => h) (Or.inl ⟨by rfl, by intro w hSw; go_simp⟩) hHeld ?_
    try simp only [Act.put, List.setIfInBounds_toArray, List.set_cons_zero, List.set_cons_succ]
    refine wpAnyH_take (i := 8) (v := .int .i64 p.keep) rfl (by kernel_rfl) (by kernel_rfl) (by kernel_rfl) (fun _ _ _ h => h) (Or.inl ⟨by rfl, by intro w' hSw; have hc := fbox_cell (i := 8) (x := .int .i64 (p.keep)) rfl hSw; go_simp⟩) hHeld ?_
    try simp only [Act.put, List.setIfInBounds_toArray, List.set_cons_zero, List.set_cons_succ]
    refine wpAnyH_take (i := 9) (v := .int .u64 p.keep) rfl (by kernel_rfl) (by kernel_rfl) (by kernel_rfl) (fun _ _ _ h => h) (Or.inl ⟨by rfl, by intro w hSw; go_simp⟩) hHeld ?_
    try simp only [Act.put, List.setIfInBounds_toArray, List.set_cons_zero, List.set_cons_succ]
    refine wpAnyH_take (i := 11) (v := .string (tailS v p.kind lp)) rfl (by kernel_rfl) (by kernel_rfl) (by kernel_rfl) (fun _ _ _ h => h) (Or.inl ⟨by rfl, by intro w hSw; go_simp⟩) hHeld ?_
    try simp only [Act.put, List.setIfInBounds_toArray, List.set_cons_zero, List.set_cons_succ]
    refine wpAnyH_take (i := 12) (v := .pointer (some ⟨w.heap.size, 9, none⟩)) rfl (by kernel_rfl) (by kernel_rfl) (by kernel_rfl) (fun _ _ _ h => h) (Or.inl ⟨by rfl, by intro w hSw; go_simp⟩) hHeld ?_
    try simp only [Act.put, List.setIfInBounds_toArray, List.set_cons_zero, List.set_cons_succ]
    refine wpAnyH_take (i := 13) (v := .string p.client) rfl (by kernel_rfl) (by kernel_rfl) (by kernel_rfl) (fun _ _ _ h => h) (Or.inl ⟨by rfl, by intro w' hSw; have hc := fbox_cell (i := 9) (x := .string (p.client)) rfl hSw; go_simp⟩) hHeld ?_
    try simp only [Act.put, List.setIfInBounds_toArray, List.set_cons_zero, List.set_cons_succ]
    refine wpAnyH_ready (rs := [2]) (by kernel_rfl) (by simp) ?_
    refine AllReadyH.cons rfl (fun K hK => ?_) AllReadyH.nil
    go_simp
    go_at_call 46
    refine (put1_t v _ (by omega) (by omega)).mono ?_
    rintro e w21 ⟨rfl, hb21⟩
    try go_wp2_with fail
    refine hK.out _ _ (fbox_below hHeld hb21) (fun hHeld' => ?_)
    clear hK K hHeld
    have hHeld := hHeld'
    clear hHeld'
    try simp only [Act.put, List.setIfInBounds_toArray, List.set_cons_zero, List.set_cons_succ]
    refine wpAnyH_ready (rs := [4]) (by kernel_rfl) (by simp) ?_
    refine AllReadyH.cons rfl (fun K hK => ?_) AllReadyH.nil
    go_simp
    go_at_call 18
    refine (flags_t p _).mono ?_
    rintro e w22 ⟨rfl, hb22⟩
    rw [flags_eq p]
    try go_wp2_with fail
    refine hK.out _ _ (fbox_below hHeld hb22) (fun hHeld' => ?_)
    clear hK K hHeld
    have hHeld := hHeld'
    clear hHeld'
    try simp only [Act.put, List.setIfInBounds_toArray, List.set_cons_zero, List.set_cons_succ]
    refine wpAnyH_take (i := 5) (v := .int .u64 (flagsF p)) rfl (by kernel_rfl) (by kernel_rfl) (by kernel_rfl) (fun _ _ _ h => h) (Or.inl ⟨by rfl, by intro w hSw; go_simp⟩) hHeld ?_
    try simp only [Act.put, List.setIfInBounds_toArray, List.set_cons_zero, List.set_cons_succ]
    refine wpAnyH_ready (rs := [6]) (by kernel_rfl) (by simp) ?_
    refine AllReadyH.cons rfl (fun K hK => ?_) AllReadyH.nil
    go_simp
    go_at_call 46
    refine (put1_t (flagsF p) _ (by omega) (by omega)).mono ?_
    rintro e w23 ⟨rfl, hb23⟩
    try go_wp2_with fail
    refine hK.out _ _ (fbox_below hHeld hb23) (fun hHeld' => ?_)
    clear hK K hHeld
    have hHeld := hHeld'
    clear hHeld'
    try simp only [Act.put, List.setIfInBounds_toArray, List.set_cons_zero, List.set_cons_succ]
    refine wpAnyH_ready (rs := [10]) (by kernel_rfl) (by simp) ?_
    refine AllReadyH.cons rfl (fun K hK => ?_) AllReadyH.nil
    go_simp
    go_at_call 46
    refine (put2_t p.keep _ (by omega) (by omega)).mono ?_
    rintro e w24 ⟨rfl, hb24⟩
    try go_wp2_with fail
    refine hK.out _ _ (fbox_below hHeld hb24) (fun hHeld' => ?_)
    clear hK K hHeld
    have hHeld := hHeld'
    clear hHeld'
    try simp only [Act.put, List.setIfInBounds_toArray, List.set_cons_zero, List.set_cons_succ]
    refine wpAnyH_ready (rs := [14]) (by kernel_rfl) (by simp) ?_
    refine AllReadyH.cons rfl (fun K hK => ?_) AllReadyH.nil
    go_simp
    go_at_call 47
    refine (data_t p.client _ HSZ.out.client).mono ?_
    rintro e w25 ⟨rfl, hb25⟩
    try go_wp2_with fail
    refine hK.out _ _ (fbox_below hHeld hb25) (fun hHeld' => ?_)
    clear hK K hHeld
    have hHeld := hHeld'
    clear hHeld'
    try simp only [Act.put, List.setIfInBounds_toArray, List.set_cons_zero, List.set_cons_succ]
    refine wpAnyH_ready (rs := [15]) (by kernel_rfl) (by simp) ?_
    refine AllReadyH.cons rfl (fun K hK => ?_) AllReadyH.nil
    go_simp
    refine hK.out _ _ (fbox_alloc hHeld) (fun hHeld' => ?_)
    clear hK K hHeld
    have hHeld := hHeld'
    clear hHeld'
    try simp only [Act.put, List.setIfInBounds_toArray, List.set_cons_zero, List.set_cons_succ]
    refine wpAnyH_ready (rs := [16]) (by kernel_rfl) (by simp) ?_
    refine AllReadyH.cons rfl (fun K hK => ?_) AllReadyH.nil
    go_simp
    go_at_call 45
    refine (put_new _ [nameS, be1 v, be1 (flagsF p), be2 p.keep, tailS v p.kind lp, framedS p.client] 6 rfl _ _ rfl (by decide) (by decide) (Nat.le_trans HSZ0.out (by decide))).mono ?_
    rintro e w26 ⟨rfl, hb26⟩
    try go_wp2_with fail
    refine hK.out _ _ (fbox_below hHeld hb26) (fun hHeld' => ?_)
    clear hK K hHeld
    have hHeld := hHeld'
    clear hHeld'
    try simp only [Act.put, List.setIfInBounds_toArray, List.set_cons_zero, List.set_cons_succ]
    refine wpAnyH_take (i := 17) (v := .string (catL [nameS, be1 v, be1 (flagsF p), be2 p.keep, tailS v p.kind lp, framedS p.client])) rfl (by kernel_rfl) (by kernel_rfl) (by kernel_rfl) (fun _ _ _ h => h) (Or.inl ⟨by rfl, by intro w hSw; go_simp⟩) hHeld ?_
    try simp only [Act.put, List.setIfInBounds_toArray, List.set_cons_zero, List.set_cons_succ]
    refine wpAnyH_done (by kernel_rfl) ?_ _
    refine NoPanic.normal ?_
    rw [show catL [nameS, be1 v, be1 (flagsF p), be2 p.keep, tailS v p.kind lp, framedS p.client] = con0 v p lp from rfl]
    have HB26 := Lib.hid (ext_alloc (ext_then' (ext_then' (ext_then' (ext_then' (ext_then' HB3.out.drew hb21) hb22) hb23) hb24) hb25) hb26)
    have HGp26 : Hid (w26.heap[w.heap.size]? = some (.cells (packC p) 28 (0, 0))) := Lib.hid hHeld
    clear hHeld hb21 hb22 hb23 hb24 hb25 hb26 HB3 HGp3 HROW hvw hfw hkw HSZ0 c0 v0 v1 f0 f1 k0 k1
    have cp_10 : w26.cell? ⟨w.heap.size, 10, none⟩ = some (.bool (p.hasUser)) := pack_at HGp26.out 10 _ rfl
    have cp_11 : w26.cell? ⟨w.heap.size, 11, none⟩ = some (.string (p.user)) := pack_at HGp26.out 11 _ rfl
    have cp_12 : w26.cell? ⟨w.heap.size, 12, none⟩ = some (.bool (p.hasPass)) := pack_at HGp26.out 12 _ rfl
    have cp_13 : w26.cell? ⟨w.heap.size, 13, none⟩ = some (.string (p.pass)) := pack_at HGp26.out 13 _ rfl
    have cp_14 : w26.cell? ⟨w.heap.size, 14, none⟩ = some (.bool (p.hasWill)) := pack_at HGp26.out 14 _ rfl
    cases hwi : p.hasWill
    · have HE1 : Hid (con0 v p lp = con1 v p lw lp) := Lib.hid (by unfold con1; rw [if_neg (by rw [hwi]; decide)])
      generalize con0 v p lp = out0 at *
      cases hus : p.hasUser
      · have HE2 : Hid (out0 = con2 v p lw lp) := Lib.hid (HE1.out.trans (by unfold con2; rw [if_neg (by rw [hus]; decide)]))
        cases hpa : p.hasPass
        · have HE : Hid (connB v p lw lp = (con2 v p lw lp, 0)) := Lib.hid (HE0.out.trans (by unfold con3; rw [if_neg (by rw [hpa]; decide)]))
          rw [← HE2.out] at HE
          go_wp2
          go_ret2
          exact ⟨by rw [HE.out]; rfl, HB26.out⟩
        · go_wp2_with ((with_reducible refine pk_load (w.heap.size) (p) ?x3 HGp26.out ?a3 ?b3 ?c3 ?d3); (case a3 => rfl); (case b3 => rfl); (case c3 => rfl))
          refine (data_t p.pass _ HSZ.out.pass).mono ?_
          rintro e w27 ⟨rfl, hb⟩
          have HB27 := Lib.hid (ext_then' HB26.out hb)
          have HGp27 := Lib.hid (row_then HGp26.out hb)
          clear hb HB26 HGp26
          clear cp_10 cp_11 cp_12 cp_13 cp_14
          have cp_10 : w27.cell? ⟨w.heap.size, 10, none⟩ = some (.bool (p.hasUser)) := pack_at HGp27.out 10 _ rfl
          have cp_11 : w27.cell? ⟨w.heap.size, 11, none⟩ = some (.string (p.user)) := pack_at HGp27.out 11 _ rfl
          have cp_12 : w27.cell? ⟨w.heap.size, 12, none⟩ = some (.bool (p.hasPass)) := pack_at HGp27.out 12 _ rfl
          have cp_13 : w27.cell? ⟨w.heap.size, 13, none⟩ = some (.string (p.pass)) := pack_at HGp27.out 13 _ rfl
          have cp_14 : w27.cell? ⟨w.heap.size, 14, none⟩ = some (.bool (p.hasWill)) := pack_at HGp27.out 14 _ rfl
          go_wp2_with ((with_reducible refine pk_load (w.heap.size) (p) ?x4 HGp27.out ?a4 ?b4 ?c4 ?d4); (case a4 => rfl); (case b4 => rfl); (case c4 => rfl))
          refine (put_new _ [out0, framedS p.pass] 2 rfl _ _ rfl (by decide) (by decide) (by have := con3_size (v := v) (lw := lw) (lp := lp) HSZ.out.client HSZ.out.wTopic HSZ.out.wPay HSZ.out.user HSZ.out.pass; unfold con3 at this; rw [if_pos hpa] at this; rw [← HE2.out] at this; exact Nat.le_trans this (by decide))).mono ?_
          rintro e w28 ⟨rfl, hb⟩
          have HB28 := Lib.hid (ext_alloc HB27.out hb)
          have HGp28 := Lib.hid (row_alloc HGp27.out hb)
          clear hb HB27 HGp27
          clear cp_10 cp_11 cp_12 cp_13 cp_14
          have cp_10 : w28.cell? ⟨w.heap.size, 10, none⟩ = some (.bool (p.hasUser)) := pack_at HGp28.out 10 _ rfl
          have cp_11 : w28.cell? ⟨w.heap.size, 11, none⟩ = some (.string (p.user)) := pack_at HGp28.out 11 _ rfl
          have cp_12 : w28.cell? ⟨w.heap.size, 12, none⟩ = some (.bool (p.hasPass)) := pack_at HGp28.out 12 _ rfl
          have cp_13 : w28.cell? ⟨w.heap.size, 13, none⟩ = some (.string (p.pass)) := pack_at HGp28.out 13 _ rfl
          have cp_14 : w28.cell? ⟨w.heap.size, 14, none⟩ = some (.bool (p.hasWill)) := pack_at HGp28.out 14 _ rfl
          have HE : Hid (connB v p lw lp = (catL [out0, framedS p.pass], 0)) := Lib.hid (HE0.out.trans (by unfold con3; rw [if_pos hpa, ← HE2.out]))
          go_wp2
          go_ret2
          exact ⟨by rw [HE.out]; rfl, HB28.out⟩
      · go_wp2_with ((with_reducible refine pk_load (w.heap.size) (p) ?x5 HGp26.out ?a5 ?b5 ?c5 ?d5); (case a5 => rfl); (case b5 => rfl); (case c5 => rfl))
        refine (data_t p.user _ HSZ.out.user).mono ?_
        rintro e w27 ⟨rfl, hb⟩
        have HB27 := Lib.hid (ext_then' HB26.out hb)
        have HGp27 := Lib.hid (row_then HGp26.out hb)
        clear hb HB26 HGp26
        clear cp_10 cp_11 cp_12 cp_13 cp_14
        have cp_10 : w27.cell? ⟨w.heap.size, 10, none⟩ = some (.bool (p.hasUser)) := pack_at HGp27.out 10 _ rfl
        have cp_11 : w27.cell? ⟨w.heap.size, 11, none⟩ = some (.string (p.user)) := pack_at HGp27.out 11 _ rfl
        have cp_12 : w27.cell? ⟨w.heap.size, 12, none⟩ = some (.bool (p.hasPass)) := pack_at HGp27.out 12 _ rfl
        have cp_13 : w27.cell? ⟨w.heap.size, 13, none⟩ = some (.string (p.pass)) := pack_at HGp27.out 13 _ rfl
        have cp_14 : w27.cell? ⟨w.heap.size, 14, none⟩ = some (.bool (p.hasWill)) := pack_at HGp27.out 14 _ rfl
        go_wp2_with ((with_reducible refine pk_load (w.heap.size) (p) ?x6 HGp27.out ?a6 ?b6 ?c6 ?d6); (case a6 => rfl); (case b6 => rfl); (case c6 => rfl))
        refine (put_new _ [out0, framedS p.user] 2 rfl _ _ rfl (by decide) (by decide) (by have := con2_size (v := v) (lw := lw) (lp := lp) HSZ.out.client HSZ.out.wTopic HSZ.out.wPay HSZ.out.user; unfold con2 at this; rw [if_pos hus] at this; rw [← HE1.out] at this; exact Nat.le_trans this (by decide))).mono ?_
        rintro e w28 ⟨rfl, hb⟩
        have HB28 := Lib.hid (ext_alloc HB27.out hb)
        have HGp28 := Lib.hid (row_alloc HGp27.out hb)
        clear hb HB27 HGp27
        clear cp_10 cp_11 cp_12 cp_13 cp_14
        have cp_10 : w28.cell? ⟨w.heap.size, 10, none⟩ = some (.bool (p.hasUser)) := pack_at HGp28.out 10 _ rfl
        have cp_11 : w28.cell? ⟨w.heap.size, 11, none⟩ = some (.string (p.user)) := pack_at HGp28.out 11 _ rfl
        have cp_12 : w28.cell? ⟨w.heap.size, 12, none⟩ = some (.bool (p.hasPass)) := pack_at HGp28.out 12 _ rfl
        have cp_13 : w28.cell? ⟨w.heap.size, 13, none⟩ = some (.string (p.pass)) := pack_at HGp28.out 13 _ rfl
        have cp_14 : w28.cell? ⟨w.heap.size, 14, none⟩ = some (.bool (p.hasWill)) := pack_at HGp28.out 14 _ rfl
        have HE2 : Hid (catL [out0, framedS p.user] = con2 v p lw lp) := Lib.hid (by unfold con2; rw [if_pos hus, ← HE1.out])
        generalize catL [out0, framedS p.user] = out2 at *
        cases hpa : p.hasPass
        · have HE : Hid (connB v p lw lp = (con2 v p lw lp, 0)) := Lib.hid (HE0.out.trans (by unfold con3; rw [if_neg (by rw [hpa]; decide)]))
          rw [← HE2.out] at HE
          go_wp2
          go_ret2
          exact ⟨by rw [HE.out]; rfl, HB28.out⟩
        · go_wp2_with ((with_reducible refine pk_load (w.heap.size) (p) ?x7 HGp28.out ?a7 ?b7 ?c7 ?d7); (case a7 => rfl); (case b7 => rfl); (case c7 => rfl))
          refine (data_t p.pass _ HSZ.out.pass).mono ?_
          rintro e w29 ⟨rfl, hb⟩
          have HB29 := Lib.hid (ext_then' HB28.out hb)
          have HGp29 := Lib.hid (row_then HGp28.out hb)
          clear hb HB28 HGp28
          clear cp_10 cp_11 cp_12 cp_13 cp_14
          have cp_10 : w29.cell? ⟨w.heap.size, 10, none⟩ = some (.bool (p.hasUser)) := pack_at HGp29.out 10 _ rfl
          have cp_11 : w29.cell? ⟨w.heap.size, 11, none⟩ = some (.string (p.user)) := pack_at HGp29.out 11 _ rfl
          have cp_12 : w29.cell? ⟨w.heap.size, 12, none⟩ = some (.bool (p.hasPass)) := pack_at HGp29.out 12 _ rfl
          have cp_13 : w29.cell? ⟨w.heap.size, 13, none⟩ = some (.string (p.pass)) := pack_at HGp29.out 13 _ rfl
          have cp_14 : w29.cell? ⟨w.heap.size, 14, none⟩ = some (.bool (p.hasWill)) := pack_at HGp29.out 14 _ rfl
          go_wp2_with ((with_reducible refine pk_load (w.heap.size) (p) ?x8 HGp29.out ?a8 ?b8 ?c8 ?d8); (case a8 => rfl); (case b8 => rfl); (case c8 => rfl))
          refine (put_new _ [out2, framedS p.pass] 2 rfl _ _ rfl (by decide) (by decide) (by have := con3_size (v := v) (lw := lw) (lp := lp) HSZ.out.client HSZ.out.wTopic HSZ.out.wPay HSZ.out.user HSZ.out.pass; unfold con3 at this; rw [if_pos hpa] at this; rw [← HE2.out] at this; exact Nat.le_trans this (by decide))).mono ?_
          rintro e w30 ⟨rfl, hb⟩
          have HB30 := Lib.hid (ext_alloc HB29.out hb)
          have HGp30 := Lib.hid (row_alloc HGp29.out hb)
          clear hb HB29 HGp29
          clear cp_10 cp_11 cp_12 cp_13 cp_14
          have cp_10 : w30.cell? ⟨w.heap.size, 10, none⟩ = some (.bool (p.hasUser)) := pack_at HGp30.out 10 _ rfl
          have cp_11 : w30.cell? ⟨w.heap.size, 11, none⟩ = some (.string (p.user)) := pack_at HGp30.out 11 _ rfl
          have cp_12 : w30.cell? ⟨w.heap.size, 12, none⟩ = some (.bool (p.hasPass)) := pack_at HGp30.out 12 _ rfl
          have cp_13 : w30.cell? ⟨w.heap.size, 13, none⟩ = some (.string (p.pass)) := pack_at HGp30.out 13 _ rfl
          have cp_14 : w30.cell? ⟨w.heap.size, 14, none⟩ = some (.bool (p.hasWill)) := pack_at HGp30.out 14 _ rfl
          have HE : Hid (connB v p lw lp = (catL [out2, framedS p.pass], 0)) := Lib.hid (HE0.out.trans (by unfold con3; rw [if_pos hpa, ← HE2.out]))
          go_wp2
          go_ret2
          exact ⟨by rw [HE.out]; rfl, HB30.out⟩
    · have HC0S := Lib.hid (con1_size (v := v) (lw := lw) (lp := lp) HSZ.out.client HSZ.out.wTopic HSZ.out.wPay)
      have HE1' : Hid (con1 v p lw lp = catL [con0 v p lp, tailS v 16 lw, framedS p.wTopic, framedS p.wPayload]) := Lib.hid (by unfold con1; rw [if_pos hwi])
      rw [HE1'.out] at HC0S
      generalize con0 v p lp = out0 at *
      go_wp2_with fail
      refine wp_region_noPanic ?_
      refine wp_region_held_drew (S := fun w' => w'.heap[w.heap.size]? = some (.cells (packC p) 28 (0, 0))) (by kernel_rfl) (fbox_drew HGp26.out) (fun hHeld => ?_)
      refine wpAnyH_take (i := 0) (v := .string out0) rfl (by kernel_rfl) (by kernel_rfl) (by kernel_rfl) (fun _ _ _ h => h) (Or.inl ⟨by rfl, by intro w hSw; go_simp⟩) hHeld ?_
      try simp only [Act.put, List.setIfInBounds_toArray, List.set_cons_zero, List.set_cons_succ]
      refine wpAnyH_take (i := 1) (v := .int .i64 v) rfl (by kernel_rfl) (by kernel_rfl) (by kernel_rfl) (fun _ _ _ h => h) (Or.inl ⟨by rfl, by intro w hSw; go_simp⟩) hHeld ?_
      try simp only [Act.put, List.setIfInBounds_toArray, List.set_cons_zero, List.set_cons_succ]
      refine wpAnyH_take (i := 2) (v := .pointer (some ⟨w.heap.size, 15, none⟩)) rfl (by kernel_rfl) (by kernel_rfl) (by kernel_rfl) (fun _ _ _ h => h) (Or.inl ⟨by rfl, by intro w hSw; go_simp⟩) hHeld ?_
      try simp only [Act.put, List.setIfInBounds_toArray, List.set_cons_zero, List.set_cons_succ]
      refine wpAnyH_take (i := 3) (v := .pointer (some ⟨w.heap.size, 19, none⟩)) rfl (by kernel_rfl) (by kernel_rfl) (by kernel_rfl) (fun _ _ _ h => h) (Or.inl ⟨by rfl, by intro w hSw; go_simp⟩) hHeld ?_
      try simp only [Act.put, List.setIfInBounds_toArray, List.set_cons_zero, List.set_cons_succ]
      refine wpAnyH_take (i := 4) (v := .slice p.wProps.A p.wProps.n p.wProps.c) rfl (by kernel_rfl) (by kernel_rfl) (by kernel_rfl) (fun _ _ _ h => h) (Or.inl ⟨by rfl, by intro w' hSw; have hc := fbox_cell (i := 19) (x := .slice p.wProps.A p.wProps.n p.wProps.c) rfl hSw; go_simp⟩) hHeld ?_
      try simp only [Act.put, List.setIfInBounds_toArray, List.set_cons_zero, List.set_cons_succ]
      refine wpAnyH_take (i := 6) (v := .pointer (some ⟨w.heap.size, 15, none⟩)) rfl (by kernel_rfl) (by kernel_rfl) (by kernel_rfl) (fun _ _ _ h => h) (Or.inl ⟨by rfl, by intro w hSw; go_simp⟩) hHeld ?_
      try simp only [Act.put, List.setIfInBounds_toArray, List.set_cons_zero, List.set_cons_succ]
      refine wpAnyH_take (i := 7) (v := .pointer (some ⟨w.heap.size, 15, none⟩)) rfl (by kernel_rfl) (by kernel_rfl) (by kernel_rfl) (fun _ _ _ h => h) (Or.inl ⟨by rfl, by intro w hSw; go_simp⟩) hHeld ?_
      try simp only [Act.put, List.setIfInBounds_toArray, List.set_cons_zero, List.set_cons_succ]
      refine wpAnyH_take (i := 8) (v := .string (p.wTopic)) rfl (by kernel_rfl) (by kernel_rfl) (by kernel_rfl) (fun _ _ _ h => h) (Or.inl ⟨by rfl, by intro w' hSw; have hc := fbox_cell (i := 15) (x := .string (p.wTopic)) rfl hSw; go_simp⟩) hHeld ?_
      try simp only [Act.put, List.setIfInBounds_toArray, List.set_cons_zero, List.set_cons_succ]
      refine wpAnyH_take (i := 10) (v := .pointer (some ⟨w.heap.size, 15, none⟩)) rfl (by kernel_rfl) (by kernel_rfl) (by kernel_rfl) (fun _ _ _ h => h) (Or.inl ⟨by rfl, by intro w hSw; go_simp⟩) hHeld ?_
      try simp only [Act.put, List.setIfInBounds_toArray, List.set_cons_zero, List.set_cons_succ]
      refine wpAnyH_take (i := 11) (v := .pointer (some ⟨w.heap.size, 16, none⟩)) rfl (by kernel_rfl) (by kernel_rfl) (by kernel_rfl) (fun _ _ _ h => h) (Or.inl ⟨by rfl, by intro w hSw; go_simp⟩) hHeld ?_
      try simp only [Act.put, List.setIfInBounds_toArray, List.set_cons_zero, List.set_cons_succ]
      refine wpAnyH_take (i := 12) (v := .string (p.wPayload)) rfl (by kernel_rfl) (by kernel_rfl) (by kernel_rfl) (fun _ _ _ h => h) (Or.inl ⟨by rfl, by intro w' hSw; have hc := fbox_cell (i := 16) (x := .string (p.wPayload)) rfl hSw; go_simp⟩) hHeld ?_
      try simp only [Act.put, List.setIfInBounds_toArray, List.set_cons_zero, List.set_cons_succ]
      refine wpAnyH_ready (rs := [5]) (by kernel_rfl) (by simp) ?_
      refine AllReadyH.cons rfl (fun K hK => ?_) AllReadyH.nil
      go_simp
      go_at_call 44
      refine (tail_t v 16 p.wProps.A p.wProps.n p.wProps.c lw HTw _ (HW.out.below (HB26.out.drew))).mono ?_
      rintro e w31 ⟨rfl, hb31⟩
      try go_wp2_with fail
      refine hK.out _ _ (fbox_below hHeld hb31) (fun hHeld' => ?_)
      clear hK K hHeld
      have hHeld := hHeld'
      clear hHeld'
      try simp only [Act.put, List.setIfInBounds_toArray, List.set_cons_zero, List.set_cons_succ]
      refine wpAnyH_ready (rs := [9]) (by kernel_rfl) (by simp) ?_
      refine AllReadyH.cons rfl (fun K hK => ?_) AllReadyH.nil
      go_simp
      go_at_call 47
      refine (data_t p.wTopic _ HSZ.out.wTopic).mono ?_
      rintro e w32 ⟨rfl, hb32⟩
      try go_wp2_with fail
      refine hK.out _ _ (fbox_below hHeld hb32) (fun hHeld' => ?_)
      clear hK K hHeld
      have hHeld := hHeld'
      clear hHeld'
      try simp only [Act.put, List.setIfInBounds_toArray, List.set_cons_zero, List.set_cons_succ]
      refine wpAnyH_ready (rs := [13]) (by kernel_rfl) (by simp) ?_
      refine AllReadyH.cons rfl (fun K hK => ?_) AllReadyH.nil
      go_simp
      go_at_call 47
      refine (data_t p.wPayload _ HSZ.out.wPay).mono ?_
      rintro e w33 ⟨rfl, hb33⟩
      try go_wp2_with fail
      refine hK.out _ _ (fbox_below hHeld hb33) (fun hHeld' => ?_)
      clear hK K hHeld
      have hHeld := hHeld'
      clear hHeld'
      try simp only [Act.put, List.setIfInBounds_toArray, List.set_cons_zero, List.set_cons_succ]
      refine wpAnyH_ready (rs := [14]) (by kernel_rfl) (by simp) ?_
      refine AllReadyH.cons rfl (fun K hK => ?_) AllReadyH.nil
      go_simp
      refine hK.out _ _ (fbox_alloc hHeld) (fun hHeld' => ?_)
      clear hK K hHeld
      have hHeld := hHeld'
      clear hHeld'
      try simp only [Act.put, List.setIfInBounds_toArray, List.set_cons_zero, List.set_cons_succ]
      refine wpAnyH_ready (rs := [15]) (by kernel_rfl) (by simp) ?_
      refine AllReadyH.cons rfl (fun K hK => ?_) AllReadyH.nil
      go_simp
      go_at_call 45
      refine (put_new _ [out0, tailS v 16 lw, framedS p.wTopic, framedS p.wPayload] 4 rfl _ _ rfl (by decide) (by decide) (Nat.le_trans HC0S.out (by decide))).mono ?_
      rintro e w34 ⟨rfl, hb34⟩
      try go_wp2_with fail
      refine hK.out _ _ (fbox_below hHeld hb34) (fun hHeld' => ?_)
      clear hK K hHeld
      have hHeld := hHeld'
      clear hHeld'
      try simp only [Act.put, List.setIfInBounds_toArray, List.set_cons_zero, List.set_cons_succ]
      refine wpAnyH_take (i := 16) (v := .string (catL [out0, tailS v 16 lw, framedS p.wTopic, framedS p.wPayload])) rfl (by kernel_rfl) (by kernel_rfl) (by kernel_rfl) (fun _ _ _ h => h) (Or.inl ⟨by rfl, by intro w hSw; go_simp⟩) hHeld ?_
      try simp only [Act.put, List.setIfInBounds_toArray, List.set_cons_zero, List.set_cons_succ]
      refine wpAnyH_done (by kernel_rfl) ?_ _
      refine NoPanic.normal ?_
      have HB34 := Lib.hid (ext_alloc (ext_then' (ext_then' (ext_then' HB26.out.drew hb31) hb32) hb33) hb34)
      have HGp34 : Hid (w34.heap[w.heap.size]? = some (.cells (packC p) 28 (0, 0))) := Lib.hid hHeld
      clear hHeld hb31 hb32 hb33 hb34 HB26 HGp26 HC0S cp_10 cp_11 cp_12 cp_13 cp_14
      have HE1 : Hid (catL [out0, tailS v 16 lw, framedS p.wTopic, framedS p.wPayload] = con1 v p lw lp) := Lib.hid HE1'.out.symm
      clear HE1'
      generalize catL [out0, tailS v 16 lw, framedS p.wTopic, framedS p.wPayload] = out1 at *
      have cp_10 : w34.cell? ⟨w.heap.size, 10, none⟩ = some (.bool (p.hasUser)) := pack_at HGp34.out 10 _ rfl
      have cp_11 : w34.cell? ⟨w.heap.size, 11, none⟩ = some (.string (p.user)) := pack_at HGp34.out 11 _ rfl
      have cp_12 : w34.cell? ⟨w.heap.size, 12, none⟩ = some (.bool (p.hasPass)) := pack_at HGp34.out 12 _ rfl
      have cp_13 : w34.cell? ⟨w.heap.size, 13, none⟩ = some (.string (p.pass)) := pack_at HGp34.out 13 _ rfl
      have cp_14 : w34.cell? ⟨w.heap.size, 14, none⟩ = some (.bool (p.hasWill)) := pack_at HGp34.out 14 _ rfl
      cases hus : p.hasUser
      · have HE2 : Hid (out1 = con2 v p lw lp) := Lib.hid (HE1.out.trans (by unfold con2; rw [if_neg (by rw [hus]; decide)]))
        cases hpa : p.hasPass
        · have HE : Hid (connB v p lw lp = (con2 v p lw lp, 0)) := Lib.hid (HE0.out.trans (by unfold con3; rw [if_neg (by rw [hpa]; decide)]))
          rw [← HE2.out] at HE
          go_wp2
          go_ret2
          exact ⟨by rw [HE.out]; rfl, HB34.out⟩
        · go_wp2_with ((with_reducible refine pk_load (w.heap.size) (p) ?x9 HGp34.out ?a9 ?b9 ?c9 ?d9); (case a9 => rfl); (case b9 => rfl); (case c9 => rfl))
          refine (data_t p.pass _ HSZ.out.pass).mono ?_
          rintro e w35 ⟨rfl, hb⟩
          have HB35 := Lib.hid (ext_then' HB34.out hb)
          have HGp35 := Lib.hid (row_then HGp34.out hb)
          clear hb HB34 HGp34
          clear cp_10 cp_11 cp_12 cp_13 cp_14
          have cp_10 : w35.cell? ⟨w.heap.size, 10, none⟩ = some (.bool (p.hasUser)) := pack_at HGp35.out 10 _ rfl
          have cp_11 : w35.cell? ⟨w.heap.size, 11, none⟩ = some (.string (p.user)) := pack_at HGp35.out 11 _ rfl
          have cp_12 : w35.cell? ⟨w.heap.size, 12, none⟩ = some (.bool (p.hasPass)) := pack_at HGp35.out 12 _ rfl
          have cp_13 : w35.cell? ⟨w.heap.size, 13, none⟩ = some (.string (p.pass)) := pack_at HGp35.out 13 _ rfl
          have cp_14 : w35.cell? ⟨w.heap.size, 14, none⟩ = some (.bool (p.hasWill)) := pack_at HGp35.out 14 _ rfl
          go_wp2_with ((with_reducible refine pk_load (w.heap.size) (p) ?x10 HGp35.out ?a10 ?b10 ?c10 ?d10); (case a10 => rfl); (case b10 => rfl); (case c10 => rfl))
          refine (put_new _ [out1, framedS p.pass] 2 rfl _ _ rfl (by decide) (by decide) (by have := con3_size (v := v) (lw := lw) (lp := lp) HSZ.out.client HSZ.out.wTopic HSZ.out.wPay HSZ.out.user HSZ.out.pass; unfold con3 at this; rw [if_pos hpa] at this; rw [← HE2.out] at this; exact Nat.le_trans this (by decide))).mono ?_
          rintro e w36 ⟨rfl, hb⟩
          have HB36 := Lib.hid (ext_alloc HB35.out hb)
          have HGp36 := Lib.hid (row_alloc HGp35.out hb)
          clear hb HB35 HGp35
          clear cp_10 cp_11 cp_12 cp_13 cp_14
          have cp_10 : w36.cell? ⟨w.heap.size, 10, none⟩ = some (.bool (p.hasUser)) := pack_at HGp36.out 10 _ rfl
          have cp_11 : w36.cell? ⟨w.heap.size, 11, none⟩ = some (.string (p.user)) := pack_at HGp36.out 11 _ rfl
          have cp_12 : w36.cell? ⟨w.heap.size, 12, none⟩ = some (.bool (p.hasPass)) := pack_at HGp36.out 12 _ rfl
          have cp_13 : w36.cell? ⟨w.heap.size, 13, none⟩ = some (.string (p.pass)) := pack_at HGp36.out 13 _ rfl
          have cp_14 : w36.cell? ⟨w.heap.size, 14, none⟩ = some (.bool (p.hasWill)) := pack_at HGp36.out 14 _ rfl
          have HE : Hid (connB v p lw lp = (catL [out1, framedS p.pass], 0)) := Lib.hid (HE0.out.trans (by unfold con3; rw [if_pos hpa, ← HE2.out]))
          go_wp2
          go_ret2
          exact ⟨by rw [HE.out]; rfl, HB36.out⟩
      · go_wp2_with ((with_reducible refine pk_load (w.heap.size) (p) ?x11 HGp34.out ?a11 ?b11 ?c11 ?d11); (case a11 => rfl); (case b11 => rfl); (case c11 => rfl))
        refine (data_t p.user _ HSZ.out.user).mono ?_
        rintro e w35 ⟨rfl, hb⟩
        have HB35 := Lib.hid (ext_then' HB34.out hb)
        have HGp35 := Lib.hid (row_then HGp34.out hb)
        clear hb HB34 HGp34
        clear cp_10 cp_11 cp_12 cp_13 cp_14
        have cp_10 : w35.cell? ⟨w.heap.size, 10, none⟩ = some (.bool (p.hasUser)) := pack_at HGp35.out 10 _ rfl
        have cp_11 : w35.cell? ⟨w.heap.size, 11, none⟩ = some (.string (p.user)) := pack_at HGp35.out 11 _ rfl
        have cp_12 : w35.cell? ⟨w.heap.size, 12, none⟩ = some (.bool (p.hasPass)) := pack_at HGp35.out 12 _ rfl
        have cp_13 : w35.cell? ⟨w.heap.size, 13, none⟩ = some (.string (p.pass)) := pack_at HGp35.out 13 _ rfl
        have cp_14 : w35.cell? ⟨w.heap.size, 14, none⟩ = some (.bool (p.hasWill)) := pack_at HGp35.out 14 _ rfl
        go_wp2_with ((with_reducible refine pk_load (w.heap.size) (p) ?x12 HGp35.out ?a12 ?b12 ?c12 ?d12); (case a12 => rfl); (case b12 => rfl); (case c12 => rfl))
        refine (put_new _ [out1, framedS p.user] 2 rfl _ _ rfl (by decide) (by decide) (by have := con2_size (v := v) (lw := lw) (lp := lp) HSZ.out.client HSZ.out.wTopic HSZ.out.wPay HSZ.out.user; unfold con2 at this; rw [if_pos hus] at this; rw [← HE1.out] at this; exact Nat.le_trans this (by decide))).mono ?_
        rintro e w36 ⟨rfl, hb⟩
        have HB36 := Lib.hid (ext_alloc HB35.out hb)
        have HGp36 := Lib.hid (row_alloc HGp35.out hb)
        clear hb HB35 HGp35
        clear cp_10 cp_11 cp_12 cp_13 cp_14
        have cp_10 : w36.cell? ⟨w.heap.size, 10, none⟩ = some (.bool (p.hasUser)) := pack_at HGp36.out 10 _ rfl
        have cp_11 : w36.cell? ⟨w.heap.size, 11, none⟩ = some (.string (p.user)) := pack_at HGp36.out 11 _ rfl
        have cp_12 : w36.cell? ⟨w.heap.size, 12, none⟩ = some (.bool (p.hasPass)) := pack_at HGp36.out 12 _ rfl
        have cp_13 : w36.cell? ⟨w.heap.size, 13, none⟩ = some (.string (p.pass)) := pack_at HGp36.out 13 _ rfl
        have cp_14 : w36.cell? ⟨w.heap.size, 14, none⟩ = some (.bool (p.hasWill)) := pack_at HGp36.out 14 _ rfl
        have HE2 : Hid (catL [out1, framedS p.user] = con2 v p lw lp) := Lib.hid (by unfold con2; rw [if_pos hus, ← HE1.out])
        generalize catL [out1, framedS p.user] = out2 at *
        cases hpa : p.hasPass
        · have HE : Hid (connB v p lw lp = (con2 v p lw lp, 0)) := Lib.hid (HE0.out.trans (by unfold con3; rw [if_neg (by rw [hpa]; decide)]))
          rw [← HE2.out] at HE
          go_wp2
          go_ret2
          exact ⟨by rw [HE.out]; rfl, HB36.out⟩
        · go_wp2_with ((with_reducible refine pk_load (w.heap.size) (p) ?x13 HGp36.out ?a13 ?b13 ?c13 ?d13); (case a13 => rfl); (case b13 => rfl); (case c13 => rfl))
          refine (data_t p.pass _ HSZ.out.pass).mono ?_
          rintro e w37 ⟨rfl, hb⟩
          have HB37 := Lib.hid (ext_then' HB36.out hb)
          have HGp37 := Lib.hid (row_then HGp36.out hb)
          clear hb HB36 HGp36
          clear cp_10 cp_11 cp_12 cp_13 cp_14
          have cp_10 : w37.cell? ⟨w.heap.size, 10, none⟩ = some (.bool (p.hasUser)) := pack_at HGp37.out 10 _ rfl
          have cp_11 : w37.cell? ⟨w.heap.size, 11, none⟩ = some (.string (p.user)) := pack_at HGp37.out 11 _ rfl
          have cp_12 : w37.cell? ⟨w.heap.size, 12, none⟩ = some (.bool (p.hasPass)) := pack_at HGp37.out 12 _ rfl
          have cp_13 : w37.cell? ⟨w.heap.size, 13, none⟩ = some (.string (p.pass)) := pack_at HGp37.out 13 _ rfl
          have cp_14 : w37.cell? ⟨w.heap.size, 14, none⟩ = some (.bool (p.hasWill)) := pack_at HGp37.out 14 _ rfl
          go_wp2_with ((with_reducible refine pk_load (w.heap.size) (p) ?x14 HGp37.out ?a14 ?b14 ?c14 ?d14); (case a14 => rfl); (case b14 => rfl); (case c14 => rfl))
          refine (put_new _ [out2, framedS p.pass] 2 rfl _ _ rfl (by decide) (by decide) (by have := con3_size (v := v) (lw := lw) (lp := lp) HSZ.out.client HSZ.out.wTopic HSZ.out.wPay HSZ.out.user HSZ.out.pass; unfold con3 at this; rw [if_pos hpa] at this; rw [← HE2.out] at this; exact Nat.le_trans this (by decide))).mono ?_
          rintro e w38 ⟨rfl, hb⟩
          have HB38 := Lib.hid (ext_alloc HB37.out hb)
          have HGp38 := Lib.hid (row_alloc HGp37.out hb)
          clear hb HB37 HGp37
          clear cp_10 cp_11 cp_12 cp_13 cp_14
          have cp_10 : w38.cell? ⟨w.heap.size, 10, none⟩ = some (.bool (p.hasUser)) := pack_at HGp38.out 10 _ rfl
          have cp_11 : w38.cell? ⟨w.heap.size, 11, none⟩ = some (.string (p.user)) := pack_at HGp38.out 11 _ rfl
          have cp_12 : w38.cell? ⟨w.heap.size, 12, none⟩ = some (.bool (p.hasPass)) := pack_at HGp38.out 12 _ rfl
          have cp_13 : w38.cell? ⟨w.heap.size, 13, none⟩ = some (.string (p.pass)) := pack_at HGp38.out 13 _ rfl
          have cp_14 : w38.cell? ⟨w.heap.size, 14, none⟩ = some (.bool (p.hasWill)) := pack_at HGp38.out 14 _ rfl
          have HE : Hid (connB v p lw lp = (catL [out2, framedS p.pass], 0)) := Lib.hid (HE0.out.trans (by unfold con3; rw [if_pos hpa, ← HE2.out]))
          go_wp2
          go_ret2
          exact ⟨by rw [HE.out]; rfl, HB38.out⟩
  · have HE : Hid (connB v p lw lp = (⟨#[]⟩, connV v p lw lp)) := Lib.hid (by unfold connB; rw [if_pos he])
    go_wp2
    go_ret2
    exact ⟨by rw [HE.out]; rfl, HB2.out⟩
theorem connB_t (v : Int) (p : Pk) (hok : PkOK p) (lw lp : List Prp) (w : World) (hrw : RP w p.wProps.A p.wProps.n lw) (hrp : RP w p.props.A p.props.n lp) :
    Calls Tryz.prog 11 #[.int .i64 v, .agg (packC p)] w fun e w' => e = .returned (.tuple #[.string (connB v p lw lp).1, .int .i64 (connB v p lw lp).2]) ∧ Below w.heap.size w w' := by
  cases hk : (p.kind == 2)
  · exact connB_con v p hk hok lw lp w hrw hrp
  · exact connB_ack v p hk hok lw lp (topicH lw) (topicH lp) w hrw hrp
end Go.Proofs.YtjlkhihlbdokpaaGreat
