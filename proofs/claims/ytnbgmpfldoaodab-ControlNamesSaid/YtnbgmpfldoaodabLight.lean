/- kit.LightPacket: it returns; stores and results of packets. -/
import Derived.Test.YtnbgmpfldoaodabOpen
import Derived.Laws.ResultCell
import Derived.RegionTactic
import Derived.ChangeAlike
import Derived.Deep.QuietTactic
import Derived.BigQuiet
namespace Go.Proofs.Ytnbgmpfldoaodab
open Go.RowKit Go.Sort
set_option maxHeartbeats 2000000
set_option linter.unusedVariables false
set_option linter.unusedSimpArgs false
theorem pk_store {ops : Array Oper} {rest : List Oper} {o : Oper} {a : Act} {w : World} {Q : Exit → Act → World → Prop} (g : Nat) (p : Pk) (x y : Operand) (old : Array Value) (hg : w.heap[g]? = some (.cells old 35 (0, 0))) (hs : old.size = 25)
    (hgd : o.guard = none) (ho : o.op = .store 35 x y) (hx : a.eval x = .pointer (some ⟨g, 0, none⟩)) (hy : a.eval y = .agg (packC p))
    (h : ∀ w', w'.heap[g]? = some (.cells (packC p) 35 (0, 0)) → w.grownBy w' (some g) → wpList Try.prog ops Q rest (a.put o.dst undef) w') : wpList Try.prog ops Q (o :: rest) a w :=
  wpList_store_row hgd _ x y ho g (packC p) hx hy _ old hg (si_packC p) hs (by simp [packC, Value.oneCell'])
    (h _ (setRow_heap w g old _ _ _ hg) ⟨rfl, rfl, rfl, by simp, fun k _ hk => setRow_other w g k _ (fun e => hk (by rw [e]))⟩)
theorem pk_load {ops : Array Oper} {rest : List Oper} {o : Oper} {a : Act} {w : World} {Q : Exit → Act → World → Prop} (g : Nat) (p : Pk) (x : Operand) (hg : w.heap[g]? = some (.cells (packC p) 35 (0, 0)))
    (hgd : Region.wanted o (yielded ops a.tmps) = true) (ho : o.op = .load 35 x) (hx : a.eval x = .pointer (some ⟨g, 0, none⟩)) (h : wpList Try.prog ops Q rest (a.put o.dst (.agg (packC p))) w) : wpList Try.prog ops Q (o :: rest) a w :=
  wpList_step fun K hK => by
    rw [if_pos hgd]
    exact wp_load_row _ x ho g hx _ (packC p) (0, 0) _ hg ud_pack rfl (si_packC p) (hK _ _ h)
theorem results_pk {fn : Func} {s u : Tmp} (h : fn.results = #[.cell s 35, .tmp u]) (tmps : Array Value) (w : World) (g : Nat) (p : Pk)
    (hp : tmps.getD s undef = .pointer (some ⟨g, 0, none⟩)) (hg : w.heap[g]? = some (.cells (packC p) 35 (0, 0))) :
    (results fn tmps).run Try.prog w = .ok (.tuple #[.agg (packC p), tmps.getD u undef]) w := by
  rw [results_cell_tmp h, hp]
  simp [asAddr, Result.andThen, run_loadVar_row w g _ _ (packC p) (0, 0) _ hg ud_pack rfl (si_packC p)]
theorem grown_below {w0 w w1 : World} {g : Nat} (hb : Below w0.heap.size w0 w) (hg : w.grownBy w1 (some g)) (h : w0.heap.size ≤ g) : Below w0.heap.size w0 w1 :=
  hb.grown hg hb.size (fun k hk => by simp only [Option.some.injEq] at hk; omega)
theorem row_grown {a b : World} {g h : Nat} {o : Obj} (ha : a.heap[g]? = some o) (hb : a.grownBy b (some h)) (hne : g ≠ h) : b.heap[g]? = some o := by
  rw [hb.block g (Array.getElem?_eq_some_iff.1 ha).1 (fun e => hne (by simpa using e))]; exact ha
theorem below_drawnN (w : World) (n : Nat) : Below w.heap.size w (w.drewN n) := ⟨rfl, rfl, rfl, Nat.le_refl _, fun _ _ => rfl⟩
def SomeI (w : World) (e : Ending) (w' : World) : Prop := ∃ z : Int, e = .returned (.int .i64 z) ∧ Below w.heap.size w w'
def SomeB (w : World) (e : Ending) (w' : World) : Prop := ∃ b : Bool, e = .returned (.bool b) ∧ Below w.heap.size w w'
set_option maxRecDepth 100000 in
theorem weight_t (A : Option Addr) (n c : Nat) (l : List Prp) (w : World) (hr : RP w A n l) : Calls Try.prog 60 #[.slice A n c] w (SomeI w) := by
  obtain ⟨hl, hn, hok, hc⟩ := hr
  have HC := Lib.hid hc
  have HL := Lib.hid hl
  have HOK := Lib.hid hok
  clear hc hl hok
  go_enter Try.func60, Try.ntmps60
  go_wp2
  go_loopw [3, 4] (fun v3 v4 wr => ∃ (k : Nat) (z : Int), k ≤ n ∧ v4 = .int .i64 k ∧ v3 = .int .i64 z ∧ Below w.heap.size w wr) (fun _ v4 _ => n - (intOf v4).toNat)
  case atStart => exact ⟨0, 0, by omega, rfl, rfl, Below.refl _ _⟩
  case round =>
    obtain ⟨k, z, hk, rfl, rfl, hbel⟩ := hrel
    have HB := Lib.hid hbel
    by_cases hlt : k < n
    · obtain ⟨b, off, rfl, hblt, hcell⟩ := HC.out (by omega)
      obtain ⟨p, hp⟩ : ∃ p, l[k]? = some p := ⟨l[k]'(by rw [HL.out]; exact hlt), by simp [HL.out, hlt]⟩
      obtain ⟨c0, c1, c2, c3⟩ := (hcell k p hp).below hbel hblt
      have hP := HOK.out p (List.mem_of_getElem? hp)
      obtain ⟨-, -, ht, hv⟩ := hP
      have i0 : (0 : Int) ≤ (k : Int) := by omega
      have i1 : (k : Int) < (n : Int) := by omega
      clear hcell hp hbel c0 c1
      generalize wr = wq at *
      go_wp2
      go_quiet (fail)
      go_wp2
      go_roundw
      case rel => exact ⟨k + 1, _, by omega, by go_num, rfl, ext_then' HB.out (below_drawnN _ _)⟩
      case measure => simp [intOf]; omega
    · have hkn : k = n := by omega
      clear hbel
      go_wp2
      go_ret
      exact ⟨z, rfl, HB.out⟩
set_option maxRecDepth 100000 in
theorem lprops_t (A : Option Addr) (n c : Nat) (l : List Prp) (w : World) (hr : RP w A n l) : Calls Try.prog 39 #[.slice A n c] w (SomeB w) := by
  cases hd : decide ((n : Int) ≤ 1010)
  · have hd2 : decide (n ≤ 1010) = false := by simp at hd ⊢; omega
    go_enter Try.func39, Try.ntmps39
    go_wp2
    go_ret
    exact ⟨_, rfl, Below.refl _ _⟩
  · have hd2 : decide (n ≤ 1010) = true := by simp at hd ⊢; omega
    have HR := Lib.hid hr
    clear hr
    go_enter Try.func39, Try.ntmps39
    go_wp2_with fail
    refine (weight_t A n c l _ HR.out).mono ?_
    rintro e w1 ⟨z, rfl, hb⟩
    have HB := Lib.hid hb
    clear hb
    go_wp2
    go_ret
    exact ⟨_, rfl, HB.out⟩
set_option maxRecDepth 100000 in
theorem light_t (p : Pk) (lw : List Prp) (lc : List Int) (lf : List Flt) (lp : List Prp) (w : World) (hr : RPk w p lw lc lf lp) : Calls Try.prog 18 #[.agg (packC p)] w (SomeB w) := by
  have HR := Lib.hid hr
  clear hr
  have HG := Lib.hid (heap_alloc_new w (.cells (packC p) 35))
  have HB1 := Lib.hid ((Below.refl w.heap.size w).alloc (Nat.le_refl _) (.cells (packC p) 35))
  have HF := Lib.hid HR.out.filters
  have HS := Lib.hid HR.out.ok
  go_enter Try.func18, Try.ntmps18
  have c24 : (w.alloc (.cells (packC p) 35)).cell? ⟨w.heap.size, 24, none⟩ = some (.slice p.props.A p.props.n p.props.c) := pack_at HG.out 24 _ rfl
  go_wp2_with fail
  refine (lprops_t p.props.A p.props.n p.props.c lp _ (HR.out.props.below HB1.out)).mono ?_
  rintro e w2 ⟨b, rfl, hb⟩
  have HB2 := Lib.hid (ext_then' HB1.out hb)
  have HG2 := Lib.hid (row_then HG.out hb)
  clear hb HG HB1 c24
  cases b
  · go_wp2
    go_ret
    exact ⟨_, rfl, HB2.out⟩
  have HG := HG2
  clear HG2
  have c19 : w2.cell? ⟨w.heap.size, 19, none⟩ = some (.slice p.wProps.A p.wProps.n p.wProps.c) := pack_at HG.out 19 _ rfl
  go_wp2_with fail
  refine (lprops_t p.wProps.A p.wProps.n p.wProps.c lw _ (HR.out.will.below HB2.out)).mono ?_
  rintro e w3 ⟨b, rfl, hb⟩
  have HB3 := Lib.hid (ext_then' HB2.out hb)
  have HG3 := Lib.hid (row_then HG.out hb)
  clear hb HG HB2 c19
  have HG := HG3
  clear HG3
  cases b
  · go_wp2
    go_ret
    exact ⟨_, rfl, HB3.out⟩
  have c22 : w3.cell? ⟨w.heap.size, 22, none⟩ = some (.slice p.codes.A p.codes.n p.codes.c) := pack_at HG.out 22 _ rfl
  have c23 : w3.cell? ⟨w.heap.size, 23, none⟩ = some (.slice p.filters.A p.filters.n p.filters.c) := pack_at HG.out 23 _ rfl
  have hnc := HR.out.codes.2.1
  have hnf := HF.out.2.1
  cases hd : decide ((60 : Int) < (p.codes.n : Int))
  rotate_left
  · have hd2 : decide (60 < p.codes.n) = true := by simp at hd ⊢; omega
    go_wp2
    go_ret
    exact ⟨_, rfl, HB3.out⟩
  have hd2 : decide (60 < p.codes.n) = false := by simp at hd ⊢; omega
  cases he : decide ((60 : Int) < (p.filters.n : Int))
  rotate_left
  · have he2 : decide (60 < p.filters.n) = true := by simp at he ⊢; omega
    go_wp2
    go_ret
    exact ⟨_, rfl, HB3.out⟩
  have he2 : decide (60 < p.filters.n) = false := by simp at he ⊢; omega
  have c5 : w3.cell? ⟨w.heap.size, 5, none⟩ = some (.string p.topic) := pack_at HG.out 5 _ rfl
  have c6 : w3.cell? ⟨w.heap.size, 6, none⟩ = some (.string p.payload) := pack_at HG.out 6 _ rfl
  have c9 : w3.cell? ⟨w.heap.size, 9, none⟩ = some (.string p.client) := pack_at HG.out 9 _ rfl
  have c11 : w3.cell? ⟨w.heap.size, 11, none⟩ = some (.string p.user) := pack_at HG.out 11 _ rfl
  have c13 : w3.cell? ⟨w.heap.size, 13, none⟩ = some (.string p.pass) := pack_at HG.out 13 _ rfl
  have c15 : w3.cell? ⟨w.heap.size, 15, none⟩ = some (.string p.wTopic) := pack_at HG.out 15 _ rfl
  have c16 : w3.cell? ⟨w.heap.size, 16, none⟩ = some (.string p.wPayload) := pack_at HG.out 16 _ rfl
  clear HR
  obtain ⟨s5, s6, s9, s11, s13, s15, s16⟩ := (⟨HS.out.topic, HS.out.payload, HS.out.client, HS.out.user, HS.out.pass, HS.out.wTopic, HS.out.wPayload⟩ : _ ∧ _ ∧ _ ∧ _ ∧ _ ∧ _ ∧ _)
  go_wp2
  clear c5 c6 c9 c11 c13 c15 c16 c22
  generalize (p.topic.size : Int) + (p.payload.size : Int) + (p.client.size : Int) + (p.user.size : Int) + (p.pass.size : Int) + (p.wTopic.size : Int) + (p.wPayload.size : Int) = z0 at *
  go_loop [3, 4] (fun v3 v4 => ∃ (k : Nat) (z : Int), k ≤ p.filters.n ∧ v4 = .int .i64 k ∧ v3 = .int .i64 z) (fun _ v4 => p.filters.n - (intOf v4).toNat)
  case atStart => exact ⟨0, z0, by omega, rfl, rfl⟩
  case round =>
    obtain ⟨k, z, hk, rfl, rfl⟩ := hrel
    by_cases hlt : k < p.filters.n
    · obtain ⟨b, off, hA, hblt, hcell⟩ := (HF.out.below HB3.out).2.2.2 (by omega)
      obtain ⟨q, hq⟩ : ∃ q, lf[k]? = some q := ⟨lf[k]'(by rw [HF.out.1]; exact hlt), by simp [HF.out.1, hlt]⟩
      obtain ⟨d0, -⟩ := hcell k q hq
      have hqs := HF.out.2.2.1 q (List.mem_of_getElem? hq)
      have i0 : (0 : Int) ≤ (k : Int) := by omega
      have i1 : (k : Int) < (p.filters.n : Int) := by omega
      have hn60 : p.filters.n ≤ 60 := by simp at hd2 he2; omega
      rw [hA] at c23
      clear hcell hq hA
      go_wp2
      go_round
      case rel => exact ⟨k + 1, _, by omega, by go_num, rfl⟩
      case measure => simp [intOf]; omega
    · have hkn : k = p.filters.n := by omega
      go_wp2
      go_ret
      exact ⟨_, rfl, HB3.out⟩
end Go.Proofs.Ytnbgmpfldoaodab
