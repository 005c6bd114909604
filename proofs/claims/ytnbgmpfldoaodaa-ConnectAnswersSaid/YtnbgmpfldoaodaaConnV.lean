/- connect.known, ours, ranges, Valid. -/
import Derived.Test.YtnbgmpfldoaodaaConnA
namespace Go.Proofs.Ytnbgmpfldoaodaa
open Go.RowKit Go.Sort
set_option maxHeartbeats 2000000
set_option linter.unusedVariables false
set_option linter.unusedSimpArgs false
def knownB (v : Int) : Bool := v == 4 || v == 5
theorem cknown_t (v : Int) (w : World) : Calls Try.prog 86 #[.int .i64 v] w fun e w' => e = .returned (.bool (knownB v)) ∧ w' = w := by
  unfold knownB
  cases h4 : (v == 4) <;> cases h5 : (v == 5)
  all_goals
    go_enter Try.func86, Try.ntmps86
    go_wp2
    go_ret
    exact ⟨rfl, rfl⟩
def oursB (k : Int) : Bool := k == 1 || k == 2
theorem cours_t (k : Int) (w : World) : Calls Try.prog 87 #[.int .i64 k] w fun e w' => e = .returned (.bool (oursB k)) ∧ w' = w := by
  unfold oursB
  cases h4 : (k == 1) <;> cases h5 : (k == 2)
  all_goals
    go_enter Try.func87, Try.ntmps87
    go_wp2
    go_ret
    exact ⟨rfl, rfl⟩
def keepB (p : Pk) : Bool := if decide (0 ≤ p.keep) = true then (if decide (p.keep < 65536) = true then (if decide (0 ≤ p.wQoS) = true then decide (p.wQoS ≤ 2) else false) else false) else false
def codeOK (c : Bool) (p : Pk) : Bool := if c = true then (if (p.code == 0) = true then true else !p.session) else false
def lackB (p : Pk) : Bool := if p.hasPass = true then (if p.hasUser = true then keepB p else false) else keepB p
def rangesB (v : Int) (p : Pk) : Bool :=
  if (v == 4) = true then
    (if decide ((0 : Int) < (p.props.n : Int) + (p.wProps.n : Int)) = true then false
     else if (p.kind == 2) = true then codeOK (returnB p.code) p
     else if p.client.toList.isEmpty = true then (if p.clean = true then lackB p else false) else lackB p)
  else if (p.kind == 2) = true then codeOK (mayB p.kind p.code) p else keepB p
set_option maxRecDepth 100000 in
theorem ranges_t (v : Int) (p : Pk) (hok : PkOK p) (w : World) : Calls Try.prog 89 #[.int .i64 v, .agg (packC p)] w fun e w' => e = .returned (.bool (rangesB v p)) ∧ Below w.heap.size w w' := by
  obtain ⟨wN, pN⟩ := (⟨hok.wN, hok.pN⟩ : _ ∧ _)
  clear hok
  have HB1 := Lib.hid ((Below.refl w.heap.size w).alloc (Nat.le_refl _) (.cells (packC p) 39))
  have HGp1 := Lib.hid (heap_alloc_new w (.cells (packC p) 39))
  go_enter Try.func89, Try.ntmps89
  have cp_0 : (w.alloc (.cells (packC p) 39)).cell? ⟨w.heap.size, 0, none⟩ = some (.int .i64 (p.kind)) := pack_at HGp1.out 0 _ rfl
  have cp_7 : (w.alloc (.cells (packC p) 39)).cell? ⟨w.heap.size, 7, none⟩ = some (.bool (p.clean)) := pack_at HGp1.out 7 _ rfl
  have cp_8 : (w.alloc (.cells (packC p) 39)).cell? ⟨w.heap.size, 8, none⟩ = some (.int .i64 (p.keep)) := pack_at HGp1.out 8 _ rfl
  have cp_9 : (w.alloc (.cells (packC p) 39)).cell? ⟨w.heap.size, 9, none⟩ = some (.string (p.client)) := pack_at HGp1.out 9 _ rfl
  have cp_10 : (w.alloc (.cells (packC p) 39)).cell? ⟨w.heap.size, 10, none⟩ = some (.bool (p.hasUser)) := pack_at HGp1.out 10 _ rfl
  have cp_12 : (w.alloc (.cells (packC p) 39)).cell? ⟨w.heap.size, 12, none⟩ = some (.bool (p.hasPass)) := pack_at HGp1.out 12 _ rfl
  have cp_17 : (w.alloc (.cells (packC p) 39)).cell? ⟨w.heap.size, 17, none⟩ = some (.int .i64 (p.wQoS)) := pack_at HGp1.out 17 _ rfl
  have cp_19 : (w.alloc (.cells (packC p) 39)).cell? ⟨w.heap.size, 19, none⟩ = some (.slice p.wProps.A p.wProps.n p.wProps.c) := pack_at HGp1.out 19 _ rfl
  have cp_20 : (w.alloc (.cells (packC p) 39)).cell? ⟨w.heap.size, 20, none⟩ = some (.bool (p.session)) := pack_at HGp1.out 20 _ rfl
  have cp_21 : (w.alloc (.cells (packC p) 39)).cell? ⟨w.heap.size, 21, none⟩ = some (.int .i64 (p.code)) := pack_at HGp1.out 21 _ rfl
  have cp_24 : (w.alloc (.cells (packC p) 39)).cell? ⟨w.heap.size, 24, none⟩ = some (.slice p.props.A p.props.n p.props.c) := pack_at HGp1.out 24 _ rfl
  cases hv : (v == 4)
  · cases hk : (p.kind == 2)
    · cases k0 : decide (0 ≤ p.keep)
      · have HE : Hid (rangesB v p = false) := Lib.hid (by simp only [rangesB, codeOK, lackB, keepB, hv, hk, k0, if_true, if_false, Bool.false_eq_true, Bool.not_true, Bool.not_false])
        go_wp2
        go_ret
        exact ⟨by rw [HE.out]; rfl, HB1.out⟩
      · cases k1 : decide (p.keep < 65536)
        · have HE : Hid (rangesB v p = false) := Lib.hid (by simp only [rangesB, codeOK, lackB, keepB, hv, hk, k0, k1, if_true, if_false, Bool.false_eq_true, Bool.not_true, Bool.not_false])
          go_wp2
          go_ret
          exact ⟨by rw [HE.out]; rfl, HB1.out⟩
        · cases k2 : decide (0 ≤ p.wQoS)
          · have HE : Hid (rangesB v p = false) := Lib.hid (by simp only [rangesB, codeOK, lackB, keepB, hv, hk, k0, k1, k2, if_true, if_false, Bool.false_eq_true, Bool.not_true, Bool.not_false])
            go_wp2
            go_ret
            exact ⟨by rw [HE.out]; rfl, HB1.out⟩
          · cases k3 : decide (p.wQoS ≤ 2)
            · have HE : Hid (rangesB v p = false) := Lib.hid (by simp only [rangesB, codeOK, lackB, keepB, hv, hk, k0, k1, k2, k3, if_true, if_false, Bool.false_eq_true, Bool.not_true, Bool.not_false])
              go_wp2
              go_ret
              exact ⟨by rw [HE.out]; rfl, HB1.out⟩
            · have HE : Hid (rangesB v p = true) := Lib.hid (by simp only [rangesB, codeOK, lackB, keepB, hv, hk, k0, k1, k2, k3, if_true, if_false, Bool.false_eq_true, Bool.not_true, Bool.not_false])
              go_wp2
              go_ret
              exact ⟨by rw [HE.out]; rfl, HB1.out⟩
    · go_wp2_with ((with_reducible refine pk_load (w.heap.size) (p) ?x1 HGp1.out ?a1 ?b1 ?c1 ?d1); (case a1 => rfl); (case b1 => rfl); (case c1 => rfl))
      refine (may_t p.kind p.code _).mono ?_
      rintro e w2 ⟨rfl, hb⟩
      have HB2 := Lib.hid (ext_then' HB1.out hb)
      have HGp2 := Lib.hid (row_then HGp1.out hb)
      clear hb HB1 HGp1
      clear cp_0 cp_7 cp_8 cp_9 cp_10 cp_12 cp_17 cp_19 cp_20 cp_21 cp_24
      have cp_0 : w2.cell? ⟨w.heap.size, 0, none⟩ = some (.int .i64 (p.kind)) := pack_at HGp2.out 0 _ rfl
      have cp_7 : w2.cell? ⟨w.heap.size, 7, none⟩ = some (.bool (p.clean)) := pack_at HGp2.out 7 _ rfl
      have cp_8 : w2.cell? ⟨w.heap.size, 8, none⟩ = some (.int .i64 (p.keep)) := pack_at HGp2.out 8 _ rfl
      have cp_9 : w2.cell? ⟨w.heap.size, 9, none⟩ = some (.string (p.client)) := pack_at HGp2.out 9 _ rfl
      have cp_10 : w2.cell? ⟨w.heap.size, 10, none⟩ = some (.bool (p.hasUser)) := pack_at HGp2.out 10 _ rfl
      have cp_12 : w2.cell? ⟨w.heap.size, 12, none⟩ = some (.bool (p.hasPass)) := pack_at HGp2.out 12 _ rfl
      have cp_17 : w2.cell? ⟨w.heap.size, 17, none⟩ = some (.int .i64 (p.wQoS)) := pack_at HGp2.out 17 _ rfl
      have cp_19 : w2.cell? ⟨w.heap.size, 19, none⟩ = some (.slice p.wProps.A p.wProps.n p.wProps.c) := pack_at HGp2.out 19 _ rfl
      have cp_20 : w2.cell? ⟨w.heap.size, 20, none⟩ = some (.bool (p.session)) := pack_at HGp2.out 20 _ rfl
      have cp_21 : w2.cell? ⟨w.heap.size, 21, none⟩ = some (.int .i64 (p.code)) := pack_at HGp2.out 21 _ rfl
      have cp_24 : w2.cell? ⟨w.heap.size, 24, none⟩ = some (.slice p.props.A p.props.n p.props.c) := pack_at HGp2.out 24 _ rfl
      cases hc : mayB p.kind p.code
      · have HE : Hid (rangesB v p = false) := Lib.hid (by simp only [rangesB, codeOK, lackB, keepB, hv, hk, hc, if_true, if_false, Bool.false_eq_true, Bool.not_true, Bool.not_false])
        go_wp2
        go_ret
        exact ⟨by rw [HE.out]; rfl, HB2.out⟩
      · cases hz : (p.code == 0)
        · cases hq : p.session
          · have HE : Hid (rangesB v p = true) := Lib.hid (by simp only [rangesB, codeOK, lackB, keepB, hv, hk, hc, hz, hq, if_true, if_false, Bool.false_eq_true, Bool.not_true, Bool.not_false])
            go_wp2
            go_ret
            exact ⟨by rw [HE.out]; rfl, HB2.out⟩
          · have HE : Hid (rangesB v p = false) := Lib.hid (by simp only [rangesB, codeOK, lackB, keepB, hv, hk, hc, hz, hq, if_true, if_false, Bool.false_eq_true, Bool.not_true, Bool.not_false])
            go_wp2
            go_ret
            exact ⟨by rw [HE.out]; rfl, HB2.out⟩
        · have HE : Hid (rangesB v p = true) := Lib.hid (by simp only [rangesB, codeOK, lackB, keepB, hv, hk, hc, hz, if_true, if_false, Bool.false_eq_true, Bool.not_true, Bool.not_false])
          go_wp2
          go_ret
          exact ⟨by rw [HE.out]; rfl, HB2.out⟩
  · have hs' : (0 : Int) ≤ (p.props.n : Int) + (p.wProps.n : Int) := by omega
    cases hs : decide ((0 : Int) < (p.props.n : Int) + (p.wProps.n : Int))
    · cases hk : (p.kind == 2)
      · cases hcs : p.client.toList.isEmpty
        · cases hp : p.hasPass
          · cases k0 : decide (0 ≤ p.keep)
            · have HE : Hid (rangesB v p = false) := Lib.hid (by simp only [rangesB, codeOK, lackB, keepB, hv, hs, hk, hcs, hp, k0, if_true, if_false, Bool.false_eq_true, Bool.not_true, Bool.not_false])
              go_wp2
              go_ret
              exact ⟨by rw [HE.out]; rfl, HB1.out⟩
            · cases k1 : decide (p.keep < 65536)
              · have HE : Hid (rangesB v p = false) := Lib.hid (by simp only [rangesB, codeOK, lackB, keepB, hv, hs, hk, hcs, hp, k0, k1, if_true, if_false, Bool.false_eq_true, Bool.not_true, Bool.not_false])
                go_wp2
                go_ret
                exact ⟨by rw [HE.out]; rfl, HB1.out⟩
              · cases k2 : decide (0 ≤ p.wQoS)
                · have HE : Hid (rangesB v p = false) := Lib.hid (by simp only [rangesB, codeOK, lackB, keepB, hv, hs, hk, hcs, hp, k0, k1, k2, if_true, if_false, Bool.false_eq_true, Bool.not_true, Bool.not_false])
                  go_wp2
                  go_ret
                  exact ⟨by rw [HE.out]; rfl, HB1.out⟩
                · cases k3 : decide (p.wQoS ≤ 2)
                  · have HE : Hid (rangesB v p = false) := Lib.hid (by simp only [rangesB, codeOK, lackB, keepB, hv, hs, hk, hcs, hp, k0, k1, k2, k3, if_true, if_false, Bool.false_eq_true, Bool.not_true, Bool.not_false])
                    go_wp2
                    go_ret
                    exact ⟨by rw [HE.out]; rfl, HB1.out⟩
                  · have HE : Hid (rangesB v p = true) := Lib.hid (by simp only [rangesB, codeOK, lackB, keepB, hv, hs, hk, hcs, hp, k0, k1, k2, k3, if_true, if_false, Bool.false_eq_true, Bool.not_true, Bool.not_false])
                    go_wp2
                    go_ret
                    exact ⟨by rw [HE.out]; rfl, HB1.out⟩
          · cases hu : p.hasUser
            · have HE : Hid (rangesB v p = false) := Lib.hid (by simp only [rangesB, codeOK, lackB, keepB, hv, hs, hk, hcs, hp, hu, if_true, if_false, Bool.false_eq_true, Bool.not_true, Bool.not_false])
              go_wp2
              go_ret
              exact ⟨by rw [HE.out]; rfl, HB1.out⟩
            · cases k0 : decide (0 ≤ p.keep)
              · have HE : Hid (rangesB v p = false) := Lib.hid (by simp only [rangesB, codeOK, lackB, keepB, hv, hs, hk, hcs, hp, hu, k0, if_true, if_false, Bool.false_eq_true, Bool.not_true, Bool.not_false])
                go_wp2
                go_ret
                exact ⟨by rw [HE.out]; rfl, HB1.out⟩
              · cases k1 : decide (p.keep < 65536)
                · have HE : Hid (rangesB v p = false) := Lib.hid (by simp only [rangesB, codeOK, lackB, keepB, hv, hs, hk, hcs, hp, hu, k0, k1, if_true, if_false, Bool.false_eq_true, Bool.not_true, Bool.not_false])
                  go_wp2
                  go_ret
                  exact ⟨by rw [HE.out]; rfl, HB1.out⟩
                · cases k2 : decide (0 ≤ p.wQoS)
                  · have HE : Hid (rangesB v p = false) := Lib.hid (by simp only [rangesB, codeOK, lackB, keepB, hv, hs, hk, hcs, hp, hu, k0, k1, k2, if_true, if_false, Bool.false_eq_true, Bool.not_true, Bool.not_false])
                    go_wp2
                    go_ret
                    exact ⟨by rw [HE.out]; rfl, HB1.out⟩
                  · cases k3 : decide (p.wQoS ≤ 2)
                    · have HE : Hid (rangesB v p = false) := Lib.hid (by simp only [rangesB, codeOK, lackB, keepB, hv, hs, hk, hcs, hp, hu, k0, k1, k2, k3, if_true, if_false, Bool.false_eq_true, Bool.not_true, Bool.not_false])
                      go_wp2
                      go_ret
                      exact ⟨by rw [HE.out]; rfl, HB1.out⟩
                    · have HE : Hid (rangesB v p = true) := Lib.hid (by simp only [rangesB, codeOK, lackB, keepB, hv, hs, hk, hcs, hp, hu, k0, k1, k2, k3, if_true, if_false, Bool.false_eq_true, Bool.not_true, Bool.not_false])
                      go_wp2
                      go_ret
                      exact ⟨by rw [HE.out]; rfl, HB1.out⟩
        · cases hcl : p.clean
          · have HE : Hid (rangesB v p = false) := Lib.hid (by simp only [rangesB, codeOK, lackB, keepB, hv, hs, hk, hcs, hcl, if_true, if_false, Bool.false_eq_true, Bool.not_true, Bool.not_false])
            go_wp2
            go_ret
            exact ⟨by rw [HE.out]; rfl, HB1.out⟩
          · cases hp : p.hasPass
            · cases k0 : decide (0 ≤ p.keep)
              · have HE : Hid (rangesB v p = false) := Lib.hid (by simp only [rangesB, codeOK, lackB, keepB, hv, hs, hk, hcs, hcl, hp, k0, if_true, if_false, Bool.false_eq_true, Bool.not_true, Bool.not_false])
                go_wp2
                go_ret
                exact ⟨by rw [HE.out]; rfl, HB1.out⟩
              · cases k1 : decide (p.keep < 65536)
                · have HE : Hid (rangesB v p = false) := Lib.hid (by simp only [rangesB, codeOK, lackB, keepB, hv, hs, hk, hcs, hcl, hp, k0, k1, if_true, if_false, Bool.false_eq_true, Bool.not_true, Bool.not_false])
                  go_wp2
                  go_ret
                  exact ⟨by rw [HE.out]; rfl, HB1.out⟩
                · cases k2 : decide (0 ≤ p.wQoS)
                  · have HE : Hid (rangesB v p = false) := Lib.hid (by simp only [rangesB, codeOK, lackB, keepB, hv, hs, hk, hcs, hcl, hp, k0, k1, k2, if_true, if_false, Bool.false_eq_true, Bool.not_true, Bool.not_false])
                    go_wp2
                    go_ret
                    exact ⟨by rw [HE.out]; rfl, HB1.out⟩
                  · cases k3 : decide (p.wQoS ≤ 2)
                    · have HE : Hid (rangesB v p = false) := Lib.hid (by simp only [rangesB, codeOK, lackB, keepB, hv, hs, hk, hcs, hcl, hp, k0, k1, k2, k3, if_true, if_false, Bool.false_eq_true, Bool.not_true, Bool.not_false])
                      go_wp2
                      go_ret
                      exact ⟨by rw [HE.out]; rfl, HB1.out⟩
                    · have HE : Hid (rangesB v p = true) := Lib.hid (by simp only [rangesB, codeOK, lackB, keepB, hv, hs, hk, hcs, hcl, hp, k0, k1, k2, k3, if_true, if_false, Bool.false_eq_true, Bool.not_true, Bool.not_false])
                      go_wp2
                      go_ret
                      exact ⟨by rw [HE.out]; rfl, HB1.out⟩
            · cases hu : p.hasUser
              · have HE : Hid (rangesB v p = false) := Lib.hid (by simp only [rangesB, codeOK, lackB, keepB, hv, hs, hk, hcs, hcl, hp, hu, if_true, if_false, Bool.false_eq_true, Bool.not_true, Bool.not_false])
                go_wp2
                go_ret
                exact ⟨by rw [HE.out]; rfl, HB1.out⟩
              · cases k0 : decide (0 ≤ p.keep)
                · have HE : Hid (rangesB v p = false) := Lib.hid (by simp only [rangesB, codeOK, lackB, keepB, hv, hs, hk, hcs, hcl, hp, hu, k0, if_true, if_false, Bool.false_eq_true, Bool.not_true, Bool.not_false])
                  go_wp2
                  go_ret
                  exact ⟨by rw [HE.out]; rfl, HB1.out⟩
                · cases k1 : decide (p.keep < 65536)
                  · have HE : Hid (rangesB v p = false) := Lib.hid (by simp only [rangesB, codeOK, lackB, keepB, hv, hs, hk, hcs, hcl, hp, hu, k0, k1, if_true, if_false, Bool.false_eq_true, Bool.not_true, Bool.not_false])
                    go_wp2
                    go_ret
                    exact ⟨by rw [HE.out]; rfl, HB1.out⟩
                  · cases k2 : decide (0 ≤ p.wQoS)
                    · have HE : Hid (rangesB v p = false) := Lib.hid (by simp only [rangesB, codeOK, lackB, keepB, hv, hs, hk, hcs, hcl, hp, hu, k0, k1, k2, if_true, if_false, Bool.false_eq_true, Bool.not_true, Bool.not_false])
                      go_wp2
                      go_ret
                      exact ⟨by rw [HE.out]; rfl, HB1.out⟩
                    · cases k3 : decide (p.wQoS ≤ 2)
                      · have HE : Hid (rangesB v p = false) := Lib.hid (by simp only [rangesB, codeOK, lackB, keepB, hv, hs, hk, hcs, hcl, hp, hu, k0, k1, k2, k3, if_true, if_false, Bool.false_eq_true, Bool.not_true, Bool.not_false])
                        go_wp2
                        go_ret
                        exact ⟨by rw [HE.out]; rfl, HB1.out⟩
                      · have HE : Hid (rangesB v p = true) := Lib.hid (by simp only [rangesB, codeOK, lackB, keepB, hv, hs, hk, hcs, hcl, hp, hu, k0, k1, k2, k3, if_true, if_false, Bool.false_eq_true, Bool.not_true, Bool.not_false])
                        go_wp2
                        go_ret
                        exact ⟨by rw [HE.out]; rfl, HB1.out⟩
      · go_wp2_with ((with_reducible refine pk_load (w.heap.size) (p) ?x2 HGp1.out ?a2 ?b2 ?c2 ?d2); (case a2 => rfl); (case b2 => rfl); (case c2 => rfl))
        refine (may_t p.kind p.code _).mono ?_
        rintro e w2 ⟨rfl, hb⟩
        have HB2 := Lib.hid (ext_then' HB1.out hb)
        have HGp2 := Lib.hid (row_then HGp1.out hb)
        clear hb HB1 HGp1
        clear cp_0 cp_7 cp_8 cp_9 cp_10 cp_12 cp_17 cp_19 cp_20 cp_21 cp_24
        have cp_0 : w2.cell? ⟨w.heap.size, 0, none⟩ = some (.int .i64 (p.kind)) := pack_at HGp2.out 0 _ rfl
        have cp_7 : w2.cell? ⟨w.heap.size, 7, none⟩ = some (.bool (p.clean)) := pack_at HGp2.out 7 _ rfl
        have cp_8 : w2.cell? ⟨w.heap.size, 8, none⟩ = some (.int .i64 (p.keep)) := pack_at HGp2.out 8 _ rfl
        have cp_9 : w2.cell? ⟨w.heap.size, 9, none⟩ = some (.string (p.client)) := pack_at HGp2.out 9 _ rfl
        have cp_10 : w2.cell? ⟨w.heap.size, 10, none⟩ = some (.bool (p.hasUser)) := pack_at HGp2.out 10 _ rfl
        have cp_12 : w2.cell? ⟨w.heap.size, 12, none⟩ = some (.bool (p.hasPass)) := pack_at HGp2.out 12 _ rfl
        have cp_17 : w2.cell? ⟨w.heap.size, 17, none⟩ = some (.int .i64 (p.wQoS)) := pack_at HGp2.out 17 _ rfl
        have cp_19 : w2.cell? ⟨w.heap.size, 19, none⟩ = some (.slice p.wProps.A p.wProps.n p.wProps.c) := pack_at HGp2.out 19 _ rfl
        have cp_20 : w2.cell? ⟨w.heap.size, 20, none⟩ = some (.bool (p.session)) := pack_at HGp2.out 20 _ rfl
        have cp_21 : w2.cell? ⟨w.heap.size, 21, none⟩ = some (.int .i64 (p.code)) := pack_at HGp2.out 21 _ rfl
        have cp_24 : w2.cell? ⟨w.heap.size, 24, none⟩ = some (.slice p.props.A p.props.n p.props.c) := pack_at HGp2.out 24 _ rfl
        go_wp2_with ((with_reducible refine pk_load (w.heap.size) (p) ?x3 HGp2.out ?a3 ?b3 ?c3 ?d3); (case a3 => rfl); (case b3 => rfl); (case c3 => rfl))
        refine (return_t p.code _).mono ?_
        rintro e w3 ⟨rfl, hb⟩
        have HB3 := Lib.hid (ext_then' HB2.out hb)
        have HGp3 := Lib.hid (row_then HGp2.out hb)
        clear hb HB2 HGp2
        clear cp_0 cp_7 cp_8 cp_9 cp_10 cp_12 cp_17 cp_19 cp_20 cp_21 cp_24
        have cp_0 : w3.cell? ⟨w.heap.size, 0, none⟩ = some (.int .i64 (p.kind)) := pack_at HGp3.out 0 _ rfl
        have cp_7 : w3.cell? ⟨w.heap.size, 7, none⟩ = some (.bool (p.clean)) := pack_at HGp3.out 7 _ rfl
        have cp_8 : w3.cell? ⟨w.heap.size, 8, none⟩ = some (.int .i64 (p.keep)) := pack_at HGp3.out 8 _ rfl
        have cp_9 : w3.cell? ⟨w.heap.size, 9, none⟩ = some (.string (p.client)) := pack_at HGp3.out 9 _ rfl
        have cp_10 : w3.cell? ⟨w.heap.size, 10, none⟩ = some (.bool (p.hasUser)) := pack_at HGp3.out 10 _ rfl
        have cp_12 : w3.cell? ⟨w.heap.size, 12, none⟩ = some (.bool (p.hasPass)) := pack_at HGp3.out 12 _ rfl
        have cp_17 : w3.cell? ⟨w.heap.size, 17, none⟩ = some (.int .i64 (p.wQoS)) := pack_at HGp3.out 17 _ rfl
        have cp_19 : w3.cell? ⟨w.heap.size, 19, none⟩ = some (.slice p.wProps.A p.wProps.n p.wProps.c) := pack_at HGp3.out 19 _ rfl
        have cp_20 : w3.cell? ⟨w.heap.size, 20, none⟩ = some (.bool (p.session)) := pack_at HGp3.out 20 _ rfl
        have cp_21 : w3.cell? ⟨w.heap.size, 21, none⟩ = some (.int .i64 (p.code)) := pack_at HGp3.out 21 _ rfl
        have cp_24 : w3.cell? ⟨w.heap.size, 24, none⟩ = some (.slice p.props.A p.props.n p.props.c) := pack_at HGp3.out 24 _ rfl
        cases hc : returnB p.code
        · have HE : Hid (rangesB v p = false) := Lib.hid (by simp only [rangesB, codeOK, lackB, keepB, hv, hs, hk, hc, if_true, if_false, Bool.false_eq_true, Bool.not_true, Bool.not_false])
          go_wp2
          go_ret
          exact ⟨by rw [HE.out]; rfl, HB3.out⟩
        · cases hz : (p.code == 0)
          · cases hq : p.session
            · have HE : Hid (rangesB v p = true) := Lib.hid (by simp only [rangesB, codeOK, lackB, keepB, hv, hs, hk, hc, hz, hq, if_true, if_false, Bool.false_eq_true, Bool.not_true, Bool.not_false])
              go_wp2
              go_ret
              exact ⟨by rw [HE.out]; rfl, HB3.out⟩
            · have HE : Hid (rangesB v p = false) := Lib.hid (by simp only [rangesB, codeOK, lackB, keepB, hv, hs, hk, hc, hz, hq, if_true, if_false, Bool.false_eq_true, Bool.not_true, Bool.not_false])
              go_wp2
              go_ret
              exact ⟨by rw [HE.out]; rfl, HB3.out⟩
          · have HE : Hid (rangesB v p = true) := Lib.hid (by simp only [rangesB, codeOK, lackB, keepB, hv, hs, hk, hc, hz, if_true, if_false, Bool.false_eq_true, Bool.not_true, Bool.not_false])
            go_wp2
            go_ret
            exact ⟨by rw [HE.out]; rfl, HB3.out⟩
    · have HE : Hid (rangesB v p = false) := Lib.hid (by simp only [rangesB, codeOK, lackB, keepB, hv, hs, if_true, if_false, Bool.false_eq_true, Bool.not_true, Bool.not_false])
      go_wp2
      go_ret
      exact ⟨by rw [HE.out]; rfl, HB1.out⟩
def sizesC (p : Pk) (lw lp : List Prp) : Int :=
  if decide ((65535 : Int) < (p.wPayload.size : Int)) = true then 2 else if decide ((65535 : Int) < (p.pass.size : Int)) = true then 2
  else if ((bytesF p.kind lp).2 != 0) = true then (bytesF p.kind lp).2 else (bytesF 16 lw).2
def connV (v : Int) (p : Pk) (lw lp : List Prp) : Int :=
  if knownB v = true then (if oursB p.kind = true then (if sameEq p (aloneQ p) = true then (if rangesB v p = true then
    (if validU p.client = true then (if validU p.user = true then (if p.hasWill = true then (if nameB p.wTopic = true then sizesC p lw lp else 10) else sizesC p lw lp) else 6) else 6)
    else 2) else 2) else 2) else 2
set_option maxRecDepth 100000 in
theorem connV_t (v : Int) (p : Pk) (hok : PkOK p) (lw lp : List Prp) (HTw : Hid (lw ≠ [] → TopicOK)) (HTp : Hid (lp ≠ [] → TopicOK)) (w : World) (hrw : RP w p.wProps.A p.wProps.n lw) (hrp : RP w p.props.A p.props.n lp) :
    Calls Try.prog 56 #[.int .i64 v, .agg (packC p)] w fun e w' => e = .returned (.int .i64 (connV v p lw lp)) ∧ Below w.heap.size w w' := by
  have HW := Lib.hid hrw
  have HP := Lib.hid hrp
  have HOK := Lib.hid hok
  clear hrw hrp hok
  have HB1 := Lib.hid ((Below.refl w.heap.size w).alloc (Nat.le_refl _) (.cells (packC p) 39))
  have HGp1 := Lib.hid (heap_alloc_new w (.cells (packC p) 39))
  go_enter Try.func56, Try.ntmps56
  have cp_0 : (w.alloc (.cells (packC p) 39)).cell? ⟨w.heap.size, 0, none⟩ = some (.int .i64 (p.kind)) := pack_at HGp1.out 0 _ rfl
  go_wp2_with fail
  refine (cknown_t v _).mono ?_
  rintro e w1x ⟨rfl, hw⟩
  subst hw
  cases hkn : knownB v
  · have HE : Hid (connV v p lw lp = 2) := Lib.hid (by simp only [connV, sizesC, hkn, if_true, if_false, Bool.false_eq_true])
    go_wp2
    go_ret
    exact ⟨by rw [HE.out]; rfl, HB1.out⟩
  · go_wp2_with fail
    refine (cours_t p.kind _).mono ?_
    rintro e w1x ⟨rfl, hw⟩
    subst hw
    cases ho : oursB p.kind
    · have HE : Hid (connV v p lw lp = 2) := Lib.hid (by simp only [connV, sizesC, hkn, ho, if_true, if_false, Bool.false_eq_true])
      go_wp2
      go_ret
      exact ⟨by rw [HE.out]; rfl, HB1.out⟩
    · go_wp2_with ((with_reducible refine pk_load (w.heap.size) (p) ?x1 HGp1.out ?a1 ?b1 ?c1 ?d1); (case a1 => rfl); (case b1 => rfl); (case c1 => rfl))
      refine (alone_t p lw lp _ (HW.out.below HB1.out) (HP.out.below HB1.out)).mono ?_
      rintro e w2 ⟨rfl, hb⟩
      have HB2 := Lib.hid (ext_then' HB1.out hb)
      have HGp2 := Lib.hid (row_then HGp1.out hb)
      clear hb HB1 HGp1
      clear cp_0
      have cp_0 : w2.cell? ⟨w.heap.size, 0, none⟩ = some (.int .i64 (p.kind)) := pack_at HGp2.out 0 _ rfl
      cases ha : sameEq p (aloneQ p)
      · have HE : Hid (connV v p lw lp = 2) := Lib.hid (by simp only [connV, sizesC, hkn, ho, ha, if_true, if_false, Bool.false_eq_true])
        go_wp2
        go_ret
        exact ⟨by rw [HE.out]; rfl, HB2.out⟩
      · go_wp2_with ((with_reducible refine pk_load (w.heap.size) (p) ?x2 HGp2.out ?a2 ?b2 ?c2 ?d2); (case a2 => rfl); (case b2 => rfl); (case c2 => rfl))
        refine (ranges_t v p HOK.out _).mono ?_
        rintro e w3 ⟨rfl, hb⟩
        have HB3 := Lib.hid (ext_then' HB2.out hb)
        have HGp3 := Lib.hid (row_then HGp2.out hb)
        clear hb HB2 HGp2
        clear cp_0
        have cp_0 : w3.cell? ⟨w.heap.size, 0, none⟩ = some (.int .i64 (p.kind)) := pack_at HGp3.out 0 _ rfl
        cases hr : rangesB v p
        · have HE : Hid (connV v p lw lp = 2) := Lib.hid (by simp only [connV, sizesC, hkn, ho, ha, hr, if_true, if_false, Bool.false_eq_true])
          go_wp2
          go_ret
          exact ⟨by rw [HE.out]; rfl, HB3.out⟩
        · clear cp_0
          have cp_9 : w3.cell? ⟨w.heap.size, 9, none⟩ = some (.string (p.client)) := pack_at HGp3.out 9 _ rfl
          have cp_11 : w3.cell? ⟨w.heap.size, 11, none⟩ = some (.string (p.user)) := pack_at HGp3.out 11 _ rfl
          go_wp2_with ((with_reducible refine pk_load (w.heap.size) (p) ?x3 HGp3.out ?a3 ?b3 ?c3 ?d3); (case a3 => rfl); (case b3 => rfl); (case c3 => rfl))
          refine (validu_t p.client _ HOK.out.client).mono ?_
          rintro e w4 ⟨rfl, hb⟩
          have HB4 := Lib.hid (ext_then' HB3.out hb)
          have HGp4 := Lib.hid (row_then HGp3.out hb)
          clear hb HB3 HGp3
          clear cp_9 cp_11
          have cp_9 : w4.cell? ⟨w.heap.size, 9, none⟩ = some (.string (p.client)) := pack_at HGp4.out 9 _ rfl
          have cp_11 : w4.cell? ⟨w.heap.size, 11, none⟩ = some (.string (p.user)) := pack_at HGp4.out 11 _ rfl
          cases hc : validU p.client
          · have HE : Hid (connV v p lw lp = 6) := Lib.hid (by simp only [connV, sizesC, hkn, ho, ha, hr, hc, if_true, if_false, Bool.false_eq_true])
            go_wp2
            go_ret
            exact ⟨by rw [HE.out]; rfl, HB4.out⟩
          · go_wp2_with ((with_reducible refine pk_load (w.heap.size) (p) ?x4 HGp4.out ?a4 ?b4 ?c4 ?d4); (case a4 => rfl); (case b4 => rfl); (case c4 => rfl))
            refine (validu_t p.user _ HOK.out.user).mono ?_
            rintro e w5 ⟨rfl, hb⟩
            have HB5 := Lib.hid (ext_then' HB4.out hb)
            have HGp5 := Lib.hid (row_then HGp4.out hb)
            clear hb HB4 HGp4
            clear cp_9 cp_11
            have cp_9 : w5.cell? ⟨w.heap.size, 9, none⟩ = some (.string (p.client)) := pack_at HGp5.out 9 _ rfl
            have cp_11 : w5.cell? ⟨w.heap.size, 11, none⟩ = some (.string (p.user)) := pack_at HGp5.out 11 _ rfl
            cases hu : validU p.user
            · have HE : Hid (connV v p lw lp = 6) := Lib.hid (by simp only [connV, sizesC, hkn, ho, ha, hr, hc, hu, if_true, if_false, Bool.false_eq_true])
              go_wp2
              go_ret
              exact ⟨by rw [HE.out]; rfl, HB5.out⟩
            · clear cp_9 cp_11
              have cp_0 : w5.cell? ⟨w.heap.size, 0, none⟩ = some (.int .i64 (p.kind)) := pack_at HGp5.out 0 _ rfl
              have cp_13 : w5.cell? ⟨w.heap.size, 13, none⟩ = some (.string (p.pass)) := pack_at HGp5.out 13 _ rfl
              have cp_14 : w5.cell? ⟨w.heap.size, 14, none⟩ = some (.bool (p.hasWill)) := pack_at HGp5.out 14 _ rfl
              have cp_15 : w5.cell? ⟨w.heap.size, 15, none⟩ = some (.string (p.wTopic)) := pack_at HGp5.out 15 _ rfl
              have cp_16 : w5.cell? ⟨w.heap.size, 16, none⟩ = some (.string (p.wPayload)) := pack_at HGp5.out 16 _ rfl
              have cp_24 : w5.cell? ⟨w.heap.size, 24, none⟩ = some (.slice p.props.A p.props.n p.props.c) := pack_at HGp5.out 24 _ rfl
              cases hw : p.hasWill
              · obtain ⟨z1, z2⟩ := (⟨HOK.out.wPayload, HOK.out.pass⟩ : _ ∧ _)
                cases s1 : decide ((65535 : Int) < (p.wPayload.size : Int))
                · have s1' : decide (65535 < p.wPayload.size) = false := by simp at s1 ⊢; omega
                  cases s2 : decide ((65535 : Int) < (p.pass.size : Int))
                  · have s2' : decide (65535 < p.pass.size) = false := by simp at s2 ⊢; omega
                    go_wp2_with ((with_reducible refine pk_load (w.heap.size) (p) ?x5 HGp5.out ?a5 ?b5 ?c5 ?d5); (case a5 => rfl); (case b5 => rfl); (case c5 => rfl))
                    refine (pvalid_t p.kind p.props.A p.props.n p.props.c lp HTp _ (HP.out.below HB5.out)).mono ?_
                    rintro e w6 ⟨rfl, hb⟩
                    have HB6 := Lib.hid (ext_then' HB5.out hb)
                    have HGp6 := Lib.hid (row_then HGp5.out hb)
                    clear hb HB5 HGp5
                    clear cp_0 cp_13 cp_14 cp_15 cp_16 cp_24
                    have cp_19 : w6.cell? ⟨w.heap.size, 19, none⟩ = some (.slice p.wProps.A p.wProps.n p.wProps.c) := pack_at HGp6.out 19 _ rfl
                    cases hb : ((bytesF p.kind lp).2 != 0)
                    · have HE : Hid (connV v p lw lp = (bytesF 16 lw).2) := Lib.hid (by simp only [connV, sizesC, hkn, ho, ha, hr, hc, hu, hw, s1, s2, hb, if_true, if_false, Bool.false_eq_true])
                      go_wp2_with ((with_reducible refine pk_load (w.heap.size) (p) ?x6 HGp6.out ?a6 ?b6 ?c6 ?d6); (case a6 => rfl); (case b6 => rfl); (case c6 => rfl))
                      refine (pvalid_t 16 p.wProps.A p.wProps.n p.wProps.c lw HTw _ (HW.out.below HB6.out)).mono ?_
                      rintro e w7 ⟨rfl, hb⟩
                      have HB7 := Lib.hid (ext_then' HB6.out hb)
                      have HGp7 := Lib.hid (row_then HGp6.out hb)
                      clear hb HB6 HGp6
                      clear cp_19
                      have cp_19 : w7.cell? ⟨w.heap.size, 19, none⟩ = some (.slice p.wProps.A p.wProps.n p.wProps.c) := pack_at HGp7.out 19 _ rfl
                      go_wp2
                      go_ret
                      exact ⟨by rw [HE.out]; rfl, HB7.out⟩
                    · have HE : Hid (connV v p lw lp = (bytesF p.kind lp).2) := Lib.hid (by simp only [connV, sizesC, hkn, ho, ha, hr, hc, hu, hw, s1, s2, hb, if_true, if_false, Bool.false_eq_true])
                      go_wp2
                      go_ret
                      exact ⟨by rw [HE.out]; rfl, HB6.out⟩
                  · have s2' : decide (65535 < p.pass.size) = true := by simp at s2 ⊢; omega
                    have HE : Hid (connV v p lw lp = 2) := Lib.hid (by simp only [connV, sizesC, hkn, ho, ha, hr, hc, hu, hw, s1, s2, if_true, if_false, Bool.false_eq_true])
                    go_wp2
                    go_ret
                    exact ⟨by rw [HE.out]; rfl, HB5.out⟩
                · have s1' : decide (65535 < p.wPayload.size) = true := by simp at s1 ⊢; omega
                  have HE : Hid (connV v p lw lp = 2) := Lib.hid (by simp only [connV, sizesC, hkn, ho, ha, hr, hc, hu, hw, s1, if_true, if_false, Bool.false_eq_true])
                  go_wp2
                  go_ret
                  exact ⟨by rw [HE.out]; rfl, HB5.out⟩
              · go_wp2_with ((with_reducible refine pk_load (w.heap.size) (p) ?x7 HGp5.out ?a7 ?b7 ?c7 ?d7); (case a7 => rfl); (case b7 => rfl); (case c7 => rfl))
                refine (topic_ok p.wTopic _ HOK.out.wTopic).mono ?_
                rintro e w6 ⟨rfl, hb⟩
                have HB6 := Lib.hid (ext_then' HB5.out hb)
                have HGp6 := Lib.hid (row_then HGp5.out hb)
                clear hb HB5 HGp5
                clear cp_0 cp_13 cp_14 cp_15 cp_16 cp_24
                have cp_0 : w6.cell? ⟨w.heap.size, 0, none⟩ = some (.int .i64 (p.kind)) := pack_at HGp6.out 0 _ rfl
                have cp_13 : w6.cell? ⟨w.heap.size, 13, none⟩ = some (.string (p.pass)) := pack_at HGp6.out 13 _ rfl
                have cp_14 : w6.cell? ⟨w.heap.size, 14, none⟩ = some (.bool (p.hasWill)) := pack_at HGp6.out 14 _ rfl
                have cp_15 : w6.cell? ⟨w.heap.size, 15, none⟩ = some (.string (p.wTopic)) := pack_at HGp6.out 15 _ rfl
                have cp_16 : w6.cell? ⟨w.heap.size, 16, none⟩ = some (.string (p.wPayload)) := pack_at HGp6.out 16 _ rfl
                have cp_24 : w6.cell? ⟨w.heap.size, 24, none⟩ = some (.slice p.props.A p.props.n p.props.c) := pack_at HGp6.out 24 _ rfl
                cases hn : nameB p.wTopic
                · have HE : Hid (connV v p lw lp = 10) := Lib.hid (by simp only [connV, sizesC, hkn, ho, ha, hr, hc, hu, hw, hn, if_true, if_false, Bool.false_eq_true])
                  go_wp2
                  go_ret
                  exact ⟨by rw [HE.out]; rfl, HB6.out⟩
                · obtain ⟨z1, z2⟩ := (⟨HOK.out.wPayload, HOK.out.pass⟩ : _ ∧ _)
                  cases s1 : decide ((65535 : Int) < (p.wPayload.size : Int))
                  · have s1' : decide (65535 < p.wPayload.size) = false := by simp at s1 ⊢; omega
                    cases s2 : decide ((65535 : Int) < (p.pass.size : Int))
                    · have s2' : decide (65535 < p.pass.size) = false := by simp at s2 ⊢; omega
                      go_wp2_with ((with_reducible refine pk_load (w.heap.size) (p) ?x8 HGp6.out ?a8 ?b8 ?c8 ?d8); (case a8 => rfl); (case b8 => rfl); (case c8 => rfl))
                      refine (pvalid_t p.kind p.props.A p.props.n p.props.c lp HTp _ (HP.out.below HB6.out)).mono ?_
                      rintro e w7 ⟨rfl, hb⟩
                      have HB7 := Lib.hid (ext_then' HB6.out hb)
                      have HGp7 := Lib.hid (row_then HGp6.out hb)
                      clear hb HB6 HGp6
                      clear cp_0 cp_13 cp_14 cp_15 cp_16 cp_24
                      have cp_19 : w7.cell? ⟨w.heap.size, 19, none⟩ = some (.slice p.wProps.A p.wProps.n p.wProps.c) := pack_at HGp7.out 19 _ rfl
                      cases hb : ((bytesF p.kind lp).2 != 0)
                      · have HE : Hid (connV v p lw lp = (bytesF 16 lw).2) := Lib.hid (by simp only [connV, sizesC, hkn, ho, ha, hr, hc, hu, hw, hn, s1, s2, hb, if_true, if_false, Bool.false_eq_true])
                        go_wp2_with ((with_reducible refine pk_load (w.heap.size) (p) ?x9 HGp7.out ?a9 ?b9 ?c9 ?d9); (case a9 => rfl); (case b9 => rfl); (case c9 => rfl))
                        refine (pvalid_t 16 p.wProps.A p.wProps.n p.wProps.c lw HTw _ (HW.out.below HB7.out)).mono ?_
                        rintro e w8 ⟨rfl, hb⟩
                        have HB8 := Lib.hid (ext_then' HB7.out hb)
                        have HGp8 := Lib.hid (row_then HGp7.out hb)
                        clear hb HB7 HGp7
                        clear cp_19
                        have cp_19 : w8.cell? ⟨w.heap.size, 19, none⟩ = some (.slice p.wProps.A p.wProps.n p.wProps.c) := pack_at HGp8.out 19 _ rfl
                        go_wp2
                        go_ret
                        exact ⟨by rw [HE.out]; rfl, HB8.out⟩
                      · have HE : Hid (connV v p lw lp = (bytesF p.kind lp).2) := Lib.hid (by simp only [connV, sizesC, hkn, ho, ha, hr, hc, hu, hw, hn, s1, s2, hb, if_true, if_false, Bool.false_eq_true])
                        go_wp2
                        go_ret
                        exact ⟨by rw [HE.out]; rfl, HB7.out⟩
                    · have s2' : decide (65535 < p.pass.size) = true := by simp at s2 ⊢; omega
                      have HE : Hid (connV v p lw lp = 2) := Lib.hid (by simp only [connV, sizesC, hkn, ho, ha, hr, hc, hu, hw, hn, s1, s2, if_true, if_false, Bool.false_eq_true])
                      go_wp2
                      go_ret
                      exact ⟨by rw [HE.out]; rfl, HB6.out⟩
                  · have s1' : decide (65535 < p.wPayload.size) = true := by simp at s1 ⊢; omega
                    have HE : Hid (connV v p lw lp = 2) := Lib.hid (by simp only [connV, sizesC, hkn, ho, ha, hr, hc, hu, hw, hn, s1, if_true, if_false, Bool.false_eq_true])
                    go_wp2
                    go_ret
                    exact ⟨by rw [HE.out]; rfl, HB6.out⟩
end Go.Proofs.Ytnbgmpfldoaodaa
