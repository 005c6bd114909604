/- varint.Read: the number that a text begins with. -/
import Derived.Test.YtnbgmpfldoaodabVi
namespace Go.Proofs.Ytnbgmpfldoaodab
open Go.RowKit Go.Sort
set_option maxHeartbeats 2000000
set_option linter.unusedVariables false
set_option linter.unusedSimpArgs false
theorem pushR_cases {k : Nat} (k4 : k < 4) {z b : Int} (z0 : 0 ≤ z) (z1 : z < 128 ^ k) (b0 : 0 ≤ b) (b1 : b < 256) :
    (k < 3 ∧ pushR k z b = (false, 0, ⟨z + b % 128 * 128 ^ k, ((k + 1 : Nat) : Int), false, false⟩) ∧ 0 ≤ z + b % 128 * 128 ^ k ∧ z + b % 128 * 128 ^ k < 128 ^ (k + 1)) ∨
    (∃ r, pushR k z b = (false, 5, r)) ∨ pushR k z b = (true, 0, ⟨z + b % 128 * 128 ^ k, ((k + 1 : Nat) : Int), true, false⟩) := by
  have hb0 : 0 ≤ b % 128 := by omega
  have hb1 : b % 128 < 128 := by omega
  rcases (show k = 0 ∨ k = 1 ∨ k = 2 ∨ k = 3 by omega) with rfl | rfl | rfl | rfl <;> unfold pushR <;> split
  all_goals first
    | (left; exact ⟨by omega, rfl, by omega, by omega⟩)
    | (right; left; exact ⟨_, rfl⟩)
    | (split <;> (right; first | (left; exact ⟨_, rfl⟩) | (right; rfl)))
set_option maxRecDepth 100000 in
theorem vnew_t (w : World) : Calls Try.prog 83 #[] w fun e w' => e = .returned (.pointer (some ⟨w.heap.size, 0, none⟩)) ∧ w' = w.alloc (.cells (rdC ⟨0, 0, false, false⟩) 123) := by
  go_enter Try.func83, Try.ntmps83
  go_wp2
  go_ret
  exact ⟨rfl, rfl⟩
def viGo : Nat → ByteArray → Nat → Int → Int × Int × Int
  | 0, _, _, _ => (0, 0, 5)
  | f + 1, s, k, z => if h : k < s.size then
      (let r := pushR k z ((s[k]'h).toNat : Int)
       if r.2.1 = 0 then (if r.1 = true then (r.2.2.n, r.2.2.size, 0) else viGo f s (k + 1) r.2.2.n) else (0, 0, r.2.1))
    else (0, 0, 3)
def viRead (s : ByteArray) : Int × Int × Int := viGo 4 s 0 0
theorem viGo_step {f : Nat} {s : ByteArray} {k : Nat} {z : Int} (h : k < s.size) {x : Int} (hx : ((s[k]'h).toNat : Int) = x) {d : Bool} {e : Int} {r : Rd} (hp : pushR k z x = (d, e, r)) : viGo (f + 1) s k z = if e = 0 then (if d = true then (r.n, r.size, 0) else viGo f s (k + 1) r.n) else (0, 0, e) := by
  rw [viGo, dif_pos h, hx, hp]
theorem viGo_end {f : Nat} {s : ByteArray} {k : Nat} {z : Int} (h : ¬ k < s.size) : viGo (f + 1) s k z = (0, 0, 3) := by rw [viGo, dif_neg h]
theorem rd_grown {a b : World} {g : Nat} {r : Rd} (h : RdAt a g r) (n : Nat) (hn : n ≤ g) (hb : b.heap[g]? = a.heap[g]?) : RdAt b g r := by unfold RdAt; rw [hb]; exact h
set_option maxRecDepth 100000 in
theorem read_t (s : ByteArray) (w : World) (hs : s.size ≤ 140737488351232) : Calls Try.prog 69 #[.string s] w fun e w' => e = .returned (.tuple #[.int .i64 (viRead s).1, .int .i64 (viRead s).2.1, .int .i64 (viRead s).2.2]) ∧ Below w.heap.size w w' := by
  go_enter Try.func69, Try.ntmps69
  go_wp2_with fail
  refine (vnew_t _).mono ?_
  rintro e w1 ⟨rfl, hw⟩
  have HR0 : Hid (RdAt w1 w.heap.size ⟨0, ((0 : Nat) : Int), false, false⟩) := Lib.hid (by rw [hw]; exact heap_alloc_new ..)
  have HB0 : Hid (Below w.heap.size w w1) := Lib.hid (by rw [hw]; exact (Below.refl w.heap.size w).alloc (Nat.le_refl _) _)
  clear hw
  go_wp2
  go_loopw [12] (fun v12 wr => ∃ (k : Nat) (z : Int), k < 4 ∧ k ≤ s.size ∧ v12 = .int .i64 k ∧ 0 ≤ z ∧ z < 128 ^ k ∧ RdAt wr w.heap.size ⟨z, (k : Int), false, false⟩ ∧ Below w.heap.size w wr ∧ viRead s = viGo (4 - k) s k z) (fun v12 _ => 4 - (intOf v12).toNat)
  case atStart => exact ⟨0, 0, by omega, by omega, rfl, by omega, by decide, HR0.out, HB0.out, rfl⟩
  case round =>
    obtain ⟨k, z, hk, hks, rfl, z0, z1, hrd, hbel, hgo⟩ := hrel
    have HZ : Hid (0 ≤ z ∧ z < 128 ^ k) := Lib.hid ⟨z0, z1⟩
    have z2 : z < 268435456 := by
      rcases (show k = 0 ∨ k = 1 ∨ k = 2 ∨ k = 3 by omega) with rfl | rfl | rfl | rfl <;> simp at z1 <;> omega
    have HRD := Lib.hid hrd
    have HBE := Lib.hid hbel
    obtain ⟨m, hm⟩ : ∃ m, 4 - k = m + 1 := ⟨3 - k, by omega⟩
    rw [hm] at hgo
    have HGO := Lib.hid hgo
    clear hrd hbel hgo z1
    by_cases hlt : k < s.size
    · obtain ⟨x, hx⟩ : ∃ x, s[k]'hlt = x := ⟨_, rfl⟩
      have hx0 := x.toNat_lt
      have HP := Lib.hid (pushR_cases hk HZ.out.1 HZ.out.2 (show (0 : Int) ≤ (x.toNat : Int) by omega) (show (x.toNat : Int) < 256 by omega))
      have HS := Lib.hid (fun d e r hp => viGo_step (f := m) (z := z) hlt (x := (x.toNat : Int)) (by rw [hx]) (d := d) (e := e) (r := r) hp)
      have HX0 : Hid ((0 : Int) ≤ (x.toNat : Int) ∧ (x.toNat : Int) < 256) := Lib.hid ⟨by omega, by omega⟩
      have HZ2 := Lib.hid z2
      clear z2 z0
      go_wp2_with fail
      refine (push_t k hk w.heap.size z (x.toNat : Int) wr HRD.out HZ.out.1 HZ2.out HX0.out.1 HX0.out.2).mono ?_
      rintro e w2 ⟨rfl, hr2, hg2⟩
      have HB2 : Hid (Below w.heap.size w w2) := Lib.hid (HBE.out.grown hg2 HBE.out.size (fun i e => by cases e; exact Nat.le_refl _))
      rcases HP.out with ⟨hk3, hp, hp0, hp1⟩ | ⟨r, hp⟩ | hp
      · rw [hp] at hr2 ⊢
        have HG3 : Hid (viRead s = viGo (4 - (k + 1)) s (k + 1) (z + (x.toNat : Int) % 128 * 128 ^ k)) := Lib.hid (by rw [HGO.out, HS.out _ _ _ hp, if_pos rfl, if_neg Bool.false_ne_true, show 4 - (k + 1) = m by omega])
        have HP3 := Lib.hid (⟨hp0, hp1⟩ : _ ∧ _)
        have HR3 := Lib.hid hr2
        have HW := Lib.hid hg2
        generalize z + (x.toNat : Int) % 128 * 128 ^ k = z3 at *
        clear hp hp0 hp1 hr2 hg2 HP HS HX0 HZ2 HRD HZ
        simp only []
        go_wp2
        go_roundw
        case rel => exact ⟨k + 1, z3, by omega, by omega, by go_num, HP3.out.1, HP3.out.2, HR3.out, HB2.out, HG3.out⟩
        case measure => simp [intOf]; omega
      · rw [hp]
        have HE : Hid (viRead s = (0, 0, 5)) := Lib.hid (by rw [HGO.out, HS.out _ _ _ hp, if_neg (by decide)])
        clear hr2 hg2 HP HS hp
        simp only []
        go_wp2
        go_ret3
        exact ⟨by rw [HE.out]; rfl, HB2.out⟩
      · rw [hp] at hr2 ⊢
        have HE : Hid (viRead s = (z + (x.toNat : Int) % 128 * 128 ^ k, ((k + 1 : Nat) : Int), 0)) := Lib.hid (by rw [HGO.out, HS.out _ _ _ hp, if_pos rfl, if_pos rfl])
        generalize z + (x.toNat : Int) % 128 * 128 ^ k = z3 at *
        simp only [] at hr2 ⊢
        obtain ⟨c0, c1, c2, c3⟩ := rd_cells hr2
        simp only [] at c0 c1
        clear hr2 hg2 HP HS hp c2 c3
        go_wp2
        go_quiet (fail)
        go_wp2
        go_ret3
        exact ⟨by rw [HE.out]; rfl, HB2.out.grown (grown_drewN _ none _) HB2.out.size (fun i e => by cases e)⟩
    · have HE : Hid (viRead s = (0, 0, 3)) := Lib.hid (by rw [HGO.out, viGo_end hlt])
      go_wp2
      go_ret3
      exact ⟨by rw [HE.out]; rfl, HBE.out⟩
end Go.Proofs.Ytnbgmpfldoaodab
