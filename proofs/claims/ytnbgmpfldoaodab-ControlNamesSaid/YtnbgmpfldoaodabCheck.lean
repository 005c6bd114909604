/- prop: what is wrong with one property. -/
import Derived.Test.YtnbgmpfldoaodabRules
namespace Go.Proofs.Ytnbgmpfldoaodab
open Go.RowKit
set_option maxHeartbeats 1000000
set_option linter.unusedVariables false
set_option linter.unusedSimpArgs false
structure Prp where
  id : Int
  n : Int
  text : ByteArray
  value : ByteArray
def hasK (r : Rule) (kind : Int) : Bool := if kind < 1 then false else if 16 < kind then false else bits .and .i64 (r.kinds / 2 ^ kind.toNat) 1 == 1
set_option maxRecDepth 100000 in
theorem rhas_t (r : Rule) (kind : Int) (w : World) (h0 : 0 ≤ r.kinds) (h1 : r.kinds < 131072) : Calls Try.prog 61 #[.agg #[.int .i64 r.shape, .int .i64 r.kinds, .int .u32 r.least, .int .u32 r.most], .int .i64 kind] w fun e w' => e = .returned (.bool (hasK r kind)) ∧ Below w.heap.size w w' := by
  by_cases ha : kind < 1
  · have HE : Hid (hasK r kind = false) := Lib.hid (by simp [hasK, ha])
    have g : decide (1 ≤ kind) = false := by simp; omega
    go_enter Try.func61, Try.ntmps61
    go_wp2
    go_ret
    exact ⟨by rw [HE.out]; rfl, (Below.refl _ _).alloc (Nat.le_refl _) _⟩
  by_cases hb : 16 < kind
  · have HE : Hid (hasK r kind = false) := Lib.hid (by simp [hasK, ha, hb])
    have g : decide (kind ≤ 16) = false := by simp; omega
    go_enter Try.func61, Try.ntmps61
    go_wp2
    go_ret
    exact ⟨by rw [HE.out]; rfl, (Below.refl _ _).alloc (Nat.le_refl _) _⟩
  have HE : Hid (hasK r kind = (bits .and .i64 (r.kinds / 2 ^ kind.toNat) 1 == 1)) := Lib.hid (by simp [hasK, ha, hb])
  have g1 : 1 ≤ kind := by omega
  have g2 : kind ≤ 16 := by omega
  clear ha hb
  go_enter Try.func61, Try.ntmps61
  go_wp2
  go_ret
  exact ⟨by rw [HE.out]; rfl, (Below.refl _ _).alloc (Nat.le_refl _) _⟩
def oftenB (kind id : Int) : Bool := id == 38 || id == 11 && kind == 3
set_option maxRecDepth 100000 in
theorem often_t (kind id : Int) (w : World) : Calls Try.prog 65 #[.int .i64 kind, .int .i64 id] w fun e w' => e = .returned (.bool (oftenB kind id)) ∧ w = w' := by
  by_cases h38 : id = 38
  · subst h38; go_enter Try.func65, Try.ntmps65; go_wp2; go_ret; exact ⟨rfl, rfl⟩
  by_cases h11 : id = 11
  · subst h11; go_enter Try.func65, Try.ntmps65; go_wp2; go_ret; exact ⟨rfl, rfl⟩
  have HE : Hid (oftenB kind id = false) := Lib.hid (by simp [oftenB, h38, h11])
  have g1 : (id == 38) = false := by simp [h38]
  have g2 : (id == 11) = false := by simp [h11]
  clear h38 h11
  go_enter Try.func65, Try.ntmps65
  go_wp2
  go_ret
  exact ⟨by rw [HE.out]; rfl, rfl⟩
def chknF (r : Rule) (p : Prp) : Int := if p.text.toList = [] then (if (!p.value.toList.isEmpty) = true then 2 else if p.n < r.least then 9 else if r.most < p.n then 9 else 0) else 2
theorem ret_int {a b : Int} (h : a = b) : Ending.returned (.int .i64 a) = .returned (.int .i64 b) := by rw [h]
set_option maxRecDepth 100000 in
theorem chkn_t (r : Rule) (p : Prp) (w : World) : Calls Try.prog 62 #[.agg #[.int .i64 r.shape, .int .i64 r.kinds, .int .u32 r.least, .int .u32 r.most], .agg #[.int .i64 p.id, .int .u32 p.n, .string p.text, .string p.value]] w fun e w' => e = .returned (.int .i64 (chknF r p)) ∧ Below w.heap.size w w' := by
  have HE : Hid (chknF r p = if p.text.toList = [] then (if (!p.value.toList.isEmpty) = true then 2 else if p.n < r.least then 9 else if r.most < p.n then 9 else 0) else 2) := Lib.hid rfl
  generalize chknF r p = z at *
  by_cases h1 : p.text.toList = []
  · by_cases h2 : (!p.value.toList.isEmpty) = true
    · have HF : Hid (z = 2) := Lib.hid (by rw [HE.out, if_pos h1, if_pos h2])
      go_enter Try.func62, Try.ntmps62
      go_wp2
      go_ret
      exact ⟨by rw [HF.out]; rfl, ((Below.refl _ _).alloc (Nat.le_refl _) _).alloc (by simp) _⟩
    · have h2' : (!p.value.toList.isEmpty) = false := by simpa using h2
      by_cases h3 : p.n < r.least
      · have HF : Hid (z = 9) := Lib.hid (by rw [HE.out, if_pos h1, if_neg h2, if_pos h3])
        clear h2
        go_enter Try.func62, Try.ntmps62
        go_wp2
        go_ret
        exact ⟨by rw [HF.out]; rfl, ((Below.refl _ _).alloc (Nat.le_refl _) _).alloc (by simp) _⟩
      · by_cases h4 : r.most < p.n
        · have HF : Hid (z = 9) := Lib.hid (by rw [HE.out, if_pos h1, if_neg h2, if_neg h3, if_pos h4])
          have h3' : decide (p.n < r.least) = false := by simpa using h3
          clear h2 h3
          go_enter Try.func62, Try.ntmps62
          go_wp2
          go_ret
          exact ⟨by rw [HF.out]; rfl, ((Below.refl _ _).alloc (Nat.le_refl _) _).alloc (by simp) _⟩
        · have HF : Hid (z = 0) := Lib.hid (by rw [HE.out, if_pos h1, if_neg h2, if_neg h3, if_neg h4])
          have h3' : decide (p.n < r.least) = false := by simpa using h3
          have h4' : decide (r.most < p.n) = false := by simpa using h4
          clear h2 h3 h4
          go_enter Try.func62, Try.ntmps62
          go_wp2
          go_ret
          exact ⟨by rw [HF.out]; rfl, ((Below.refl _ _).alloc (Nat.le_refl _) _).alloc (by simp) _⟩
  · have HF : Hid (z = 2) := Lib.hid (by rw [HE.out, if_neg h1])
    go_enter Try.func62, Try.ntmps62
    go_wp2
    go_ret
    exact ⟨by rw [HF.out]; rfl, ((Below.refl _ _).alloc (Nat.le_refl _) _).alloc (by simp) _⟩
def nameB (s : ByteArray) : Bool := !s.toList.isEmpty && validU s && !(s.toList.any fun b => b == 43 || b == 35)
/-- What is said of topic.Name (proved in a text of its own). -/
def TopicOK : Prop := ∀ (s : ByteArray) (w : World), s.size ≤ 140737488351232 → Calls Try.prog 64 #[.string s] w fun e w' => e = .returned (.bool (nameB s)) ∧ Below w.heap.size w w'
def checkC (r : Rule) (kind : Int) (p : Prp) : Int :=
  if hasK r kind = true then
    (if r.shape ≤ 4 then chknF r p
     else if p.n = 0 then
      (if (!p.value.toList.isEmpty) = true ∧ r.shape ≠ 7 then 2
       else if r.shape = 6 then (if p.text.size ≤ 65535 then 0 else 2)
       else if validU p.text = true then (if validU p.value = true then (if p.id = 8 then (if nameB p.text = true then 0 else 9) else 0) else 6) else 6)
     else 2)
  else 9
/-- A rule and a property, in two blocks. -/
def Two (w : World) (B : Nat) (r : Rule) (p : Prp) : Prop :=
  w.heap[B]? = some (.cells #[.int .i64 r.shape, .int .i64 r.kinds, .int .u32 r.least, .int .u32 r.most] 78 (0, 0)) ∧
  w.heap[B + 1]? = some (.cells #[.int .i64 p.id, .int .u32 p.n, .string p.text, .string p.value] 25 (0, 0))
theorem Two.below {w w1 : World} {B : Nat} {r : Rule} {p : Prp} (h : Two w B r p) (hb : Below w.heap.size w w1) : Two w1 B r p :=
  ⟨by rw [hb.block _ (Array.getElem?_eq_some_iff.1 h.1).1]; exact h.1, by rw [hb.block _ (Array.getElem?_eq_some_iff.1 h.2).1]; exact h.2⟩
theorem Two.cells {w : World} {B : Nat} {r : Rule} {p : Prp} (h : Two w B r p) :
    w.cell? ⟨B, 0, none⟩ = some (.int .i64 r.shape) ∧ w.cell? ⟨B, 1, none⟩ = some (.int .i64 r.kinds) ∧ w.cell? ⟨B, 2, none⟩ = some (.int .u32 r.least) ∧ w.cell? ⟨B, 3, none⟩ = some (.int .u32 r.most) ∧
    w.cell? ⟨B + 1, 0, none⟩ = some (.int .i64 p.id) ∧ w.cell? ⟨B + 1, 1, none⟩ = some (.int .u32 p.n) ∧ w.cell? ⟨B + 1, 2, none⟩ = some (.string p.text) ∧ w.cell? ⟨B + 1, 3, none⟩ = some (.string p.value) :=
  ⟨by rw [cell_of_row _ _ _ _ _ _ h.1]; rfl, by rw [cell_of_row _ _ _ _ _ _ h.1]; rfl, by rw [cell_of_row _ _ _ _ _ _ h.1]; rfl, by rw [cell_of_row _ _ _ _ _ _ h.1]; rfl,
   by rw [cell_of_row _ _ _ _ _ _ h.2]; rfl, by rw [cell_of_row _ _ _ _ _ _ h.2]; rfl, by rw [cell_of_row _ _ _ _ _ _ h.2]; rfl, by rw [cell_of_row _ _ _ _ _ _ h.2]; rfl⟩
theorem ext_then' {w w1 w2 : World} (h : Below w.heap.size w w1) (k : Below w1.heap.size w1 w2) : Below w.heap.size w w2 := below_then h h.size k
set_option maxRecDepth 100000 in
theorem check_t (HT : Hid TopicOK) (r : Rule) (kind : Int) (p : Prp) (w : World) (k0 : 0 ≤ r.kinds) (k1 : r.kinds < 131072) (s1 : p.text.size ≤ 140737488351232) (s2 : p.value.size ≤ 140737488351232) :
    Calls Try.prog 41 #[.agg #[.int .i64 r.shape, .int .i64 r.kinds, .int .u32 r.least, .int .u32 r.most], .int .i64 kind, .agg #[.int .i64 p.id, .int .u32 p.n, .string p.text, .string p.value]] w fun e w' => e = .returned (.int .i64 (checkC r kind p)) ∧ Below w.heap.size w w' := by
  have HE : Hid (checkC r kind p = _) := Lib.hid (by unfold checkC; rfl)
  generalize checkC r kind p = z at *
  have HB0 := Lib.hid (((Below.refl w.heap.size w).alloc (Nat.le_refl _) (.cells #[.int .i64 r.shape, .int .i64 r.kinds, .int .u32 r.least, .int .u32 r.most] 78)).alloc (by simp) (.cells #[.int .i64 p.id, .int .u32 p.n, .string p.text, .string p.value] 25))
  go_enter Try.func41, Try.ntmps41
  go_wp2_with fail
  refine (rhas_t r kind _ k0 k1).mono ?_
  rintro e w1 ⟨rfl, hb⟩
  have HW1 : Hid (Two w1 w.heap.size r p) := Lib.hid ((⟨by rw [hb.block _ (by simp; omega)]; exact heap_alloc2_old .., by rw [hb.block _ (by simp)]; exact heap_alloc2_new ..⟩ : Two w1 w.heap.size r p))
  have HB1 := Lib.hid (below_then HB0.out (by simp; omega) hb)
  clear hb HB0
  cases hk : hasK r kind with
  | false =>
    have HF : Hid (z = 9) := Lib.hid (by rw [HE.out, hk]; rfl)
    clear hk
    go_wp2
    go_ret
    exact ⟨by rw [HF.out]; rfl, HB1.out⟩
  | true =>
    by_cases h4 : r.shape ≤ 4
    · have HF : Hid (z = chknF r p) := Lib.hid (by rw [HE.out, if_pos hk, if_pos h4])
      obtain ⟨c0, c1, c2, c3, d0, d1, d2, d3⟩ := HW1.out.cells
      clear hk
      go_wp2_with fail
      refine (chkn_t r p _).mono ?_
      rintro e w2 ⟨rfl, hb⟩
      have HB2 := Lib.hid (ext_then' HB1.out hb)
      clear hb c0 c1 c2 c3 d0 d1 d2 d3
      go_wp2
      go_ret
      exact ⟨by rw [HF.out]; rfl, HB2.out⟩
    · have h4' : decide (r.shape ≤ 4) = false := by simpa using h4
      by_cases hn : p.n = 0
      · by_cases hv : (!p.value.toList.isEmpty) = true ∧ r.shape ≠ 7
        · have HF : Hid (z = 2) := Lib.hid (by rw [HE.out, if_pos hk, if_neg h4, if_pos hn, if_pos hv])
          obtain ⟨c0, c1, c2, c3, d0, d1, d2, d3⟩ := HW1.out.cells
          obtain ⟨hv1, hv2⟩ := hv
          have hv3 : (r.shape != 7) = true := by simpa using hv2
          rw [hn] at d1
          clear hk hn h4 hv2
          go_wp2
          go_ret
          exact ⟨by rw [HF.out]; rfl, HB1.out⟩
        · have hvB : (!p.value.toList.isEmpty && r.shape != 7) = false := by
            cases hh : (!p.value.toList.isEmpty && r.shape != 7) with
            | false => rfl
            | true => exact absurd (by simpa using hh) hv
          cases he : p.value.toList.isEmpty with
          | true =>
            have he' : (!p.value.toList.isEmpty) = false := by rw [he]; rfl
            clear hvB
            by_cases h6 : r.shape = 6
            · have h6' : (r.shape == 6) = true := by simpa using h6
              by_cases hs : p.text.size ≤ 65535
              · have HF : Hid (z = 0) := Lib.hid (by rw [HE.out, if_pos hk, if_neg h4, if_pos hn, if_neg hv, if_pos h6, if_pos hs])
                have hs' : decide ((65535 : Int) < (p.text.size : Int)) = false := by simp; omega
                have hs2 : decide (65535 < p.text.size) = false := by simp; omega
                obtain ⟨c0, c1, c2, c3, d0, d1, d2, d3⟩ := HW1.out.cells
                rw [hn] at d1
                clear hk hn h4 hv h6 hs
                go_wp2
                go_ret
                exact ⟨by rw [HF.out]; rfl, HB1.out⟩
              · have HF : Hid (z = 2) := Lib.hid (by rw [HE.out, if_pos hk, if_neg h4, if_pos hn, if_neg hv, if_pos h6, if_neg hs])
                have hs' : decide ((65535 : Int) < (p.text.size : Int)) = true := by simp; omega
                have hs2 : decide (65535 < p.text.size) = true := by simp; omega
                obtain ⟨c0, c1, c2, c3, d0, d1, d2, d3⟩ := HW1.out.cells
                rw [hn] at d1
                clear hk hn h4 hv h6 hs
                go_wp2
                go_ret
                exact ⟨by rw [HF.out]; rfl, HB1.out⟩
            · have h6' : (r.shape == 6) = false := by simpa using h6
              have HG : Hid (z = if validU p.text = true then (if validU p.value = true then (if p.id = 8 then (if nameB p.text = true then 0 else 9) else 0) else 6) else 6) := Lib.hid (by rw [HE.out, if_pos hk, if_neg h4, if_pos hn, if_neg hv, if_neg h6])
              obtain ⟨c0, c1, c2, c3, d0, d1, d2, d3⟩ := HW1.out.cells
              rw [hn] at d1
              clear hk hn h4 hv h6
              go_wp2_with fail
              refine (validu_t p.text _ s1).mono ?_
              rintro e w2 ⟨rfl, hb⟩
              have HW2 := Lib.hid (HW1.out.below hb)
              have HB2 := Lib.hid (ext_then' HB1.out hb)
              clear hb c0 c1 c2 c3 d0 d1 d2 d3
              cases hv1 : validU p.text with
              | false =>
                have HF : Hid (z = 6) := Lib.hid (by rw [HG.out, hv1]; rfl)
                clear hv1
                go_wp2
                go_ret
                exact ⟨by rw [HF.out]; rfl, HB2.out⟩
              | true =>
                obtain ⟨c0, c1, c2, c3, d0, d1, d2, d3⟩ := Two.cells HW2.out
                have HV1 := Lib.hid hv1
                clear hv1
                go_wp2_with fail
                refine (validu_t p.value _ s2).mono ?_
                rintro e w3 ⟨rfl, hb⟩
                have HW3 := Lib.hid (Two.below HW2.out hb)
                have HB3 := Lib.hid (ext_then' HB2.out hb)
                clear hb c0 c1 c2 c3 d0 d1 d2 d3
                cases hv2 : validU p.value with
                | false =>
                  have HF : Hid (z = 6) := Lib.hid (by rw [HG.out, HV1.out, hv2]; rfl)
                  clear hv2
                  go_wp2
                  go_ret
                  exact ⟨by rw [HF.out]; rfl, HB3.out⟩
                | true =>
                  obtain ⟨c0, c1, c2, c3, d0, d1, d2, d3⟩ := Two.cells HW3.out
                  by_cases h8 : p.id = 8
                  · have HG2 : Hid (z = if nameB p.text = true then 0 else 9) := Lib.hid (by rw [HG.out, HV1.out, hv2, if_pos rfl, if_pos rfl, if_pos h8])
                    rw [h8] at d0
                    clear h8 hv2
                    go_wp2_with fail
                    refine (HT.out p.text _ s1).mono ?_
                    rintro e w4 ⟨rfl, hb⟩
                    have HB4 := Lib.hid (ext_then' HB3.out hb)
                    clear hb c0 c1 c2 c3 d0 d1 d2 d3
                    cases hv3 : nameB p.text with
                    | false =>
                      have HF : Hid (z = 9) := Lib.hid (by rw [HG2.out, hv3]; rfl)
                      clear hv3
                      go_wp2
                      go_ret
                      exact ⟨by rw [HF.out]; rfl, HB4.out⟩
                    | true =>
                      have HF : Hid (z = 0) := Lib.hid (by rw [HG2.out, hv3]; rfl)
                      clear hv3
                      go_wp2
                      go_ret
                      exact ⟨by rw [HF.out]; rfl, HB4.out⟩
                  · have HF : Hid (z = 0) := Lib.hid (by rw [HG.out, HV1.out, hv2, if_pos rfl, if_pos rfl, if_neg h8])
                    have h8' : (p.id == 8) = false := by simpa using h8
                    clear h8 hv2
                    go_wp2
                    go_ret
                    exact ⟨by rw [HF.out]; rfl, HB3.out⟩
          | false =>
            have he' : (!p.value.toList.isEmpty) = true := by rw [he]; rfl
            have h7 : (r.shape != 7) = false := by rw [he] at hvB; simpa using hvB
            clear hvB
            by_cases h6 : r.shape = 6
            · have h6' : (r.shape == 6) = true := by simpa using h6
              by_cases hs : p.text.size ≤ 65535
              · have HF : Hid (z = 0) := Lib.hid (by rw [HE.out, if_pos hk, if_neg h4, if_pos hn, if_neg hv, if_pos h6, if_pos hs])
                have hs' : decide ((65535 : Int) < (p.text.size : Int)) = false := by simp; omega
                have hs2 : decide (65535 < p.text.size) = false := by simp; omega
                obtain ⟨c0, c1, c2, c3, d0, d1, d2, d3⟩ := HW1.out.cells
                rw [hn] at d1
                clear hk hn h4 hv h6 hs
                go_wp2
                go_ret
                exact ⟨by rw [HF.out]; rfl, HB1.out⟩
              · have HF : Hid (z = 2) := Lib.hid (by rw [HE.out, if_pos hk, if_neg h4, if_pos hn, if_neg hv, if_pos h6, if_neg hs])
                have hs' : decide ((65535 : Int) < (p.text.size : Int)) = true := by simp; omega
                have hs2 : decide (65535 < p.text.size) = true := by simp; omega
                obtain ⟨c0, c1, c2, c3, d0, d1, d2, d3⟩ := HW1.out.cells
                rw [hn] at d1
                clear hk hn h4 hv h6 hs
                go_wp2
                go_ret
                exact ⟨by rw [HF.out]; rfl, HB1.out⟩
            · have h6' : (r.shape == 6) = false := by simpa using h6
              have HG : Hid (z = if validU p.text = true then (if validU p.value = true then (if p.id = 8 then (if nameB p.text = true then 0 else 9) else 0) else 6) else 6) := Lib.hid (by rw [HE.out, if_pos hk, if_neg h4, if_pos hn, if_neg hv, if_neg h6])
              obtain ⟨c0, c1, c2, c3, d0, d1, d2, d3⟩ := HW1.out.cells
              rw [hn] at d1
              clear hk hn h4 hv h6
              go_wp2_with fail
              refine (validu_t p.text _ s1).mono ?_
              rintro e w2 ⟨rfl, hb⟩
              have HW2 := Lib.hid (HW1.out.below hb)
              have HB2 := Lib.hid (ext_then' HB1.out hb)
              clear hb c0 c1 c2 c3 d0 d1 d2 d3
              cases hv1 : validU p.text with
              | false =>
                have HF : Hid (z = 6) := Lib.hid (by rw [HG.out, hv1]; rfl)
                clear hv1
                go_wp2
                go_ret
                exact ⟨by rw [HF.out]; rfl, HB2.out⟩
              | true =>
                obtain ⟨c0, c1, c2, c3, d0, d1, d2, d3⟩ := Two.cells HW2.out
                have HV1 := Lib.hid hv1
                clear hv1
                go_wp2_with fail
                refine (validu_t p.value _ s2).mono ?_
                rintro e w3 ⟨rfl, hb⟩
                have HW3 := Lib.hid (Two.below HW2.out hb)
                have HB3 := Lib.hid (ext_then' HB2.out hb)
                clear hb c0 c1 c2 c3 d0 d1 d2 d3
                cases hv2 : validU p.value with
                | false =>
                  have HF : Hid (z = 6) := Lib.hid (by rw [HG.out, HV1.out, hv2]; rfl)
                  clear hv2
                  go_wp2
                  go_ret
                  exact ⟨by rw [HF.out]; rfl, HB3.out⟩
                | true =>
                  obtain ⟨c0, c1, c2, c3, d0, d1, d2, d3⟩ := Two.cells HW3.out
                  by_cases h8 : p.id = 8
                  · have HG2 : Hid (z = if nameB p.text = true then 0 else 9) := Lib.hid (by rw [HG.out, HV1.out, hv2, if_pos rfl, if_pos rfl, if_pos h8])
                    rw [h8] at d0
                    clear h8 hv2
                    go_wp2_with fail
                    refine (HT.out p.text _ s1).mono ?_
                    rintro e w4 ⟨rfl, hb⟩
                    have HB4 := Lib.hid (ext_then' HB3.out hb)
                    clear hb c0 c1 c2 c3 d0 d1 d2 d3
                    cases hv3 : nameB p.text with
                    | false =>
                      have HF : Hid (z = 9) := Lib.hid (by rw [HG2.out, hv3]; rfl)
                      clear hv3
                      go_wp2
                      go_ret
                      exact ⟨by rw [HF.out]; rfl, HB4.out⟩
                    | true =>
                      have HF : Hid (z = 0) := Lib.hid (by rw [HG2.out, hv3]; rfl)
                      clear hv3
                      go_wp2
                      go_ret
                      exact ⟨by rw [HF.out]; rfl, HB4.out⟩
                  · have HF : Hid (z = 0) := Lib.hid (by rw [HG.out, HV1.out, hv2, if_pos rfl, if_pos rfl, if_neg h8])
                    have h8' : (p.id == 8) = false := by simpa using h8
                    clear h8 hv2
                    go_wp2
                    go_ret
                    exact ⟨by rw [HF.out]; rfl, HB3.out⟩
      · have HF : Hid (z = 2) := Lib.hid (by rw [HE.out, if_pos hk, if_neg h4, if_neg hn])
        obtain ⟨c0, c1, c2, c3, d0, d1, d2, d3⟩ := HW1.out.cells
        have hn' : (p.n != 0) = true := by simpa using hn
        clear hk hn h4
        go_wp2
        go_ret
        exact ⟨by rw [HF.out]; rfl, HB1.out⟩
end Go.Proofs.Ytnbgmpfldoaodab
