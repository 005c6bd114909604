/- kit.SamePacket at packets of equal contents; kit.None. -/
import Derived.Test.YtnbgmpfldoaodabLight
namespace Go.Proofs.Ytnbgmpfldoaodab
open Go.RowKit Go.Sort
set_option maxHeartbeats 2000000
set_option linter.unusedVariables false
set_option linter.unusedSimpArgs false
set_option maxRecDepth 100000 in
theorem samep_yes (A B : Option Addr) (n m c d : Nat) (l : List Prp) (w : World) (hr : RP w A n l) (hs : RP w B m l) : Calls Try.prog 15 #[.slice A n c, .slice B m d] w fun e w' => e = .returned (.bool true) ∧ Below w.heap.size w w' := by
  have hmn : m = n := by rw [← hr.1, ← hs.1]
  subst hmn
  have HR := Lib.hid hr
  have HS := Lib.hid hs
  have hn := hr.2.1
  clear hr hs
  go_enter Try.func15, Try.ntmps15
  go_wp2
  go_loopw [5] (fun v5 wr => ∃ (k : Nat), k ≤ m ∧ v5 = .int .i64 k ∧ Below w.heap.size w wr) (fun v5 _ => m - (intOf v5).toNat)
  case atStart => exact ⟨0, by omega, rfl, Below.refl _ _⟩
  case round =>
    obtain ⟨k, hk, rfl, hbel⟩ := hrel
    have HB := Lib.hid hbel
    by_cases hlt : k < m
    · obtain ⟨b, off, rfl, hblt, hcell⟩ := (HR.out.below hbel).2.2.2 (by omega)
      obtain ⟨b2, off2, rfl, hblt2, hcell2⟩ := (HS.out.below hbel).2.2.2 (by omega)
      obtain ⟨q, hq⟩ : ∃ q, l[k]? = some q := ⟨l[k]'(by rw [HR.out.1]; exact hlt), by simp [HR.out.1, hlt]⟩
      obtain ⟨c0, c1, c2, c3⟩ := hcell k q hq
      obtain ⟨d0, d1, d2, d3⟩ := hcell2 k q hq
      clear hq
      have i0 : (0 : Int) ≤ (k : Int) := by omega
      have i1 : (k : Int) < (m : Int) := by omega
      clear hcell hcell2 hbel
      go_wp2
      go_quiet (fail)
      have HB2 := Lib.hid (ext_then' HB.out (below_drawnN wr nq))
      generalize wr.drewN nq = w2 at *
      go_wp2
      go_roundw
      case rel => exact ⟨k + 1, by omega, by go_num, HB2.out⟩
      case measure => simp [intOf]; omega
    · have hkn : k = m := by omega
      clear hbel
      go_wp2
      go_ret
      exact ⟨rfl, HB.out⟩
set_option maxRecDepth 100000 in
theorem samef_yes (A B : Option Addr) (n m c d : Nat) (l : List Flt) (w : World) (hr : RF w A n l) (hs : RF w B m l) : Calls Try.prog 32 #[.slice A n c, .slice B m d] w fun e w' => e = .returned (.bool true) ∧ Below w.heap.size w w' := by
  have hmn : m = n := by rw [← hr.1, ← hs.1]
  subst hmn
  have HR := Lib.hid hr
  have HS := Lib.hid hs
  have hn := hr.2.1
  clear hr hs
  go_enter Try.func32, Try.ntmps32
  go_wp2
  go_loopw [5] (fun v5 wr => ∃ (k : Nat), k ≤ m ∧ v5 = .int .i64 k ∧ Below w.heap.size w wr) (fun v5 _ => m - (intOf v5).toNat)
  case atStart => exact ⟨0, by omega, rfl, Below.refl _ _⟩
  case round =>
    obtain ⟨k, hk, rfl, hbel⟩ := hrel
    have HB := Lib.hid hbel
    by_cases hlt : k < m
    · obtain ⟨b, off, rfl, hblt, hcell⟩ := (HR.out.below hbel).2.2.2 (by omega)
      obtain ⟨b2, off2, rfl, hblt2, hcell2⟩ := (HS.out.below hbel).2.2.2 (by omega)
      obtain ⟨q, hq⟩ : ∃ q, l[k]? = some q := ⟨l[k]'(by rw [HR.out.1]; exact hlt), by simp [HR.out.1, hlt]⟩
      obtain ⟨c0, c1, c2, c3, c4⟩ := hcell k q hq
      obtain ⟨d0, d1, d2, d3, d4⟩ := hcell2 k q hq
      clear hq
      have i0 : (0 : Int) ≤ (k : Int) := by omega
      have i1 : (k : Int) < (m : Int) := by omega
      clear hcell hcell2 hbel
      go_wp2
      go_quiet (fail)
      have HB2 := Lib.hid (ext_then' HB.out (below_drawnN wr nq))
      generalize wr.drewN nq = w2 at *
      go_wp2
      go_roundw
      case rel => exact ⟨k + 1, by omega, by go_num, HB2.out⟩
      case measure => simp [intOf]; omega
    · have hkn : k = m := by omega
      clear hbel
      go_wp2
      go_ret
      exact ⟨rfl, HB.out⟩
set_option maxRecDepth 100000 in
theorem samei_yes (A B : Option Addr) (n m c d : Nat) (l : List Int) (w : World) (hr : RI w A n l) (hs : RI w B m l) : Calls Try.prog 31 #[.slice A n c, .slice B m d] w fun e w' => e = .returned (.bool true) ∧ Below w.heap.size w w' := by
  have hmn : m = n := by rw [← hr.1, ← hs.1]
  subst hmn
  have HR := Lib.hid hr
  have HS := Lib.hid hs
  have hn := hr.2.1
  clear hr hs
  go_enter Try.func31, Try.ntmps31
  go_wp2
  go_loopw [5] (fun v5 wr => ∃ (k : Nat), k ≤ m ∧ v5 = .int .i64 k ∧ Below w.heap.size w wr) (fun v5 _ => m - (intOf v5).toNat)
  case atStart => exact ⟨0, by omega, rfl, Below.refl _ _⟩
  case round =>
    obtain ⟨k, hk, rfl, hbel⟩ := hrel
    have HB := Lib.hid hbel
    by_cases hlt : k < m
    · obtain ⟨b, off, rfl, hblt, hcell⟩ := (HR.out.below hbel).2.2 (by omega)
      obtain ⟨b2, off2, rfl, hblt2, hcell2⟩ := (HS.out.below hbel).2.2 (by omega)
      have c0 := hcell k hlt
      have d0 := hcell2 k hlt
      generalize l.getD k 0 = q at *
      have i0 : (0 : Int) ≤ (k : Int) := by omega
      have i1 : (k : Int) < (m : Int) := by omega
      clear hcell hcell2 hbel
      go_wp2
      go_quiet (fail)
      have HB2 := Lib.hid (ext_then' HB.out (below_drawnN wr nq))
      generalize wr.drewN nq = w2 at *
      go_wp2
      go_roundw
      case rel => exact ⟨k + 1, by omega, by go_num, HB2.out⟩
      case measure => simp [intOf]; omega
    · have hkn : k = m := by omega
      clear hbel
      go_wp2
      go_ret
      exact ⟨rfl, HB.out⟩
set_option maxRecDepth 100000 in
theorem samew_yes (p : Pk) (s : Sl) (cs ds : Array Value) (hcs : cs = willC p) (hds : ds = willC { p with wProps := s }) (l : List Prp) (w : World) (hr : RP w p.wProps.A p.wProps.n l) (hs : RP w s.A s.n l) :
    Calls Try.prog 30 #[.agg cs, .agg ds] w fun e w' => e = .returned (.bool true) ∧ Below w.heap.size w w' := by
  have c0 : cs[0]? = some (.string p.wTopic) := by rw [hcs]; rfl
  have c1 : cs[1]? = some (.string p.wPayload) := by rw [hcs]; rfl
  have c2 : cs[2]? = some (.int .i64 p.wQoS) := by rw [hcs]; rfl
  have c3 : cs[3]? = some (.bool p.wRetain) := by rw [hcs]; rfl
  have c4 : cs[4]? = some (.slice p.wProps.A p.wProps.n p.wProps.c) := by rw [hcs]; rfl
  have d0 : ds[0]? = some (.string p.wTopic) := by rw [hds]; rfl
  have d1 : ds[1]? = some (.string p.wPayload) := by rw [hds]; rfl
  have d2 : ds[2]? = some (.int .i64 p.wQoS) := by rw [hds]; rfl
  have d3 : ds[3]? = some (.bool p.wRetain) := by rw [hds]; rfl
  have d4 : ds[4]? = some (.slice s.A s.n s.c) := by rw [hds]; rfl
  have HR := Lib.hid hr
  have HS := Lib.hid hs
  clear hcs hds hr hs
  go_enter Try.func30, Try.ntmps30
  go_wp2_with fail
  have hB := ((Below.refl w.heap.size w).alloc (Nat.le_refl _) (.cells cs 31)).alloc (by simp) (.cells ds 31)
  have HB := Lib.hid hB
  refine (samep_yes p.wProps.A s.A p.wProps.n s.n p.wProps.c s.c l _ (RP.below HR.out hB) (RP.below HS.out hB)).mono ?_
  rintro e w2 ⟨rfl, hb⟩
  have HB2 := Lib.hid (ext_then' HB.out hb)
  clear hb hB
  go_wp2
  go_ret
  exact ⟨rfl, HB2.out⟩
/-- The same packet with other slices. -/
def reSl (p : Pk) (w c f s : Sl) : Pk := { p with wProps := w, codes := c, filters := f, props := s }
theorem will_load {ops : Array Oper} {rest : List Oper} {o : Oper} {a : Act} {w : World} {Q : Exit → Act → World → Prop} (g : Nat) (p : Pk) (x : Operand) (hg : w.heap[g]? = some (.cells (packC p) 35 (0, 0)))
    (hgd : o.guard = none) (ho : o.op = .load 31 x) (hx : a.eval x = .pointer (some ⟨g, 15, none⟩)) (h : wpList Try.prog ops Q rest (a.put o.dst (.agg (willC p))) w) : wpList Try.prog ops Q (o :: rest) a w :=
  wpList_plain hgd fun _ hK => by
    unfold Oper.wp execOp
    simp only [ho, hx, Instr.loadAt, Instr.sureAddr, Sem.run_bind, Sem.run_pure, Result.andThen_ok, load_will g p w hg]
    exact hK _ _ h
set_option maxRecDepth 100000 in
theorem samepk_yes (p : Pk) (ws cs fs ss : Sl) (lw : List Prp) (lc : List Int) (lf : List Flt) (lp : List Prp) (w : World) (hr : RPk w p lw lc lf lp) (hw : RP w ws.A ws.n lw) (hc : RI w cs.A cs.n lc) (hf : RF w fs.A fs.n lf) (hp : RP w ss.A ss.n lp) :
    Calls Try.prog 10 #[.agg (packC p), .agg (packC (reSl p ws cs fs ss))] w fun e w' => e = .returned (.bool true) ∧ Below w.heap.size w w' := by
  have HR := Lib.hid hr
  have HW := Lib.hid hw
  have HC := Lib.hid hc
  have HF := Lib.hid hf
  have HP := Lib.hid hp
  clear hr hw hc hf hp
  have HG := Lib.hid (heap_alloc2_old w (.cells (packC p) 35) (.cells (packC (reSl p ws cs fs ss)) 35))
  have HH := Lib.hid (heap_alloc2_new w (.cells (packC p) 35) (.cells (packC (reSl p ws cs fs ss)) 35))
  have HB1 := Lib.hid (((Below.refl w.heap.size w).alloc (Nat.le_refl _) (.cells (packC p) 35)).alloc (by simp) (.cells (packC (reSl p ws cs fs ss)) 35))
  go_enter Try.func10, Try.ntmps10
  go_wp2_with (first | ((with_reducible refine will_load w.heap.size p (.tmp 5) HG.out ?a1 ?b1 ?c1 ?d1); (case a1 => rfl); (case b1 => rfl); (case c1 => rfl)) | ((with_reducible refine will_load (w.heap.size + 1) (reSl p ws cs fs ss) (.tmp 7) HH.out ?a2 ?b2 ?c2 ?d2); (case a2 => rfl); (case b2 => rfl); (case c2 => rfl)))
  refine (samew_yes p ws (willC p) (willC (reSl p ws cs fs ss)) rfl rfl lw _ (HR.out.will.below HB1.out) (HW.out.below HB1.out)).mono ?_
  rintro e w2 ⟨rfl, hb⟩
  have HB2 := Lib.hid (ext_then' HB1.out hb)
  have HG2 := Lib.hid (row_then HG.out hb)
  have HH2 := Lib.hid (row_then HH.out hb)
  clear hb HG HH HB1
  have HG := HG2
  have HH := HH2
  clear HG2 HH2
  have c22 : w2.cell? ⟨w.heap.size, 22, none⟩ = some (.slice p.codes.A p.codes.n p.codes.c) := pack_at HG.out 22 _ rfl
  have d22 : w2.cell? ⟨w.heap.size + 1, 22, none⟩ = some (.slice cs.A cs.n cs.c) := pack_at HH.out 22 _ rfl
  go_wp2_with fail
  refine (samei_yes p.codes.A cs.A p.codes.n cs.n p.codes.c cs.c lc _ (HR.out.codes.below HB2.out) (HC.out.below HB2.out)).mono ?_
  rintro e w3 ⟨rfl, hb⟩
  have HB3 := Lib.hid (ext_then' HB2.out hb)
  have HG3 := Lib.hid (row_then HG.out hb)
  have HH3 := Lib.hid (row_then HH.out hb)
  clear hb HG HH HB2 c22 d22
  have HG := HG3
  have HH := HH3
  clear HG3 HH3
  have c23 : w3.cell? ⟨w.heap.size, 23, none⟩ = some (.slice p.filters.A p.filters.n p.filters.c) := pack_at HG.out 23 _ rfl
  have d23 : w3.cell? ⟨w.heap.size + 1, 23, none⟩ = some (.slice fs.A fs.n fs.c) := pack_at HH.out 23 _ rfl
  go_wp2_with fail
  refine (samef_yes p.filters.A fs.A p.filters.n fs.n p.filters.c fs.c lf _ (HR.out.filters.below HB3.out) (HF.out.below HB3.out)).mono ?_
  rintro e w4 ⟨rfl, hb⟩
  have HB4 := Lib.hid (ext_then' HB3.out hb)
  have HG4 := Lib.hid (row_then HG.out hb)
  have HH4 := Lib.hid (row_then HH.out hb)
  clear hb HG HH HB3 c23 d23
  have HG := HG4
  have HH := HH4
  clear HG4 HH4
  have c24 : w4.cell? ⟨w.heap.size, 24, none⟩ = some (.slice p.props.A p.props.n p.props.c) := pack_at HG.out 24 _ rfl
  have d24 : w4.cell? ⟨w.heap.size + 1, 24, none⟩ = some (.slice ss.A ss.n ss.c) := pack_at HH.out 24 _ rfl
  go_wp2_with fail
  refine (samep_yes p.props.A ss.A p.props.n ss.n p.props.c ss.c lp _ (HR.out.props.below HB4.out) (HP.out.below HB4.out)).mono ?_
  rintro e w5 ⟨rfl, hb⟩
  have HB5 := Lib.hid (ext_then' HB4.out hb)
  have HG5 := Lib.hid (row_then HG.out hb)
  have HH5 := Lib.hid (row_then HH.out hb)
  clear hb HG HH HB4 c24 d24
  have HG := HG5
  have HH := HH5
  clear HG5 HH5
  have c0 : w5.cell? ⟨w.heap.size, 0, none⟩ = some (.int .i64 (p.kind)) := pack_at HG.out 0 _ rfl
  have d0 : w5.cell? ⟨w.heap.size + 1, 0, none⟩ = some (.int .i64 (p.kind)) := pack_at HH.out 0 _ rfl
  have c1 : w5.cell? ⟨w.heap.size, 1, none⟩ = some (.bool (p.dup)) := pack_at HG.out 1 _ rfl
  have d1 : w5.cell? ⟨w.heap.size + 1, 1, none⟩ = some (.bool (p.dup)) := pack_at HH.out 1 _ rfl
  have c2 : w5.cell? ⟨w.heap.size, 2, none⟩ = some (.bool (p.retain)) := pack_at HG.out 2 _ rfl
  have d2 : w5.cell? ⟨w.heap.size + 1, 2, none⟩ = some (.bool (p.retain)) := pack_at HH.out 2 _ rfl
  have c3 : w5.cell? ⟨w.heap.size, 3, none⟩ = some (.int .i64 (p.qos)) := pack_at HG.out 3 _ rfl
  have d3 : w5.cell? ⟨w.heap.size + 1, 3, none⟩ = some (.int .i64 (p.qos)) := pack_at HH.out 3 _ rfl
  have c4 : w5.cell? ⟨w.heap.size, 4, none⟩ = some (.int .i64 (p.id)) := pack_at HG.out 4 _ rfl
  have d4 : w5.cell? ⟨w.heap.size + 1, 4, none⟩ = some (.int .i64 (p.id)) := pack_at HH.out 4 _ rfl
  have c5 : w5.cell? ⟨w.heap.size, 5, none⟩ = some (.string (p.topic)) := pack_at HG.out 5 _ rfl
  have d5 : w5.cell? ⟨w.heap.size + 1, 5, none⟩ = some (.string (p.topic)) := pack_at HH.out 5 _ rfl
  have c6 : w5.cell? ⟨w.heap.size, 6, none⟩ = some (.string (p.payload)) := pack_at HG.out 6 _ rfl
  have d6 : w5.cell? ⟨w.heap.size + 1, 6, none⟩ = some (.string (p.payload)) := pack_at HH.out 6 _ rfl
  have c7 : w5.cell? ⟨w.heap.size, 7, none⟩ = some (.bool (p.clean)) := pack_at HG.out 7 _ rfl
  have d7 : w5.cell? ⟨w.heap.size + 1, 7, none⟩ = some (.bool (p.clean)) := pack_at HH.out 7 _ rfl
  have c8 : w5.cell? ⟨w.heap.size, 8, none⟩ = some (.int .i64 (p.keep)) := pack_at HG.out 8 _ rfl
  have d8 : w5.cell? ⟨w.heap.size + 1, 8, none⟩ = some (.int .i64 (p.keep)) := pack_at HH.out 8 _ rfl
  have c9 : w5.cell? ⟨w.heap.size, 9, none⟩ = some (.string (p.client)) := pack_at HG.out 9 _ rfl
  have d9 : w5.cell? ⟨w.heap.size + 1, 9, none⟩ = some (.string (p.client)) := pack_at HH.out 9 _ rfl
  have c10 : w5.cell? ⟨w.heap.size, 10, none⟩ = some (.bool (p.hasUser)) := pack_at HG.out 10 _ rfl
  have d10 : w5.cell? ⟨w.heap.size + 1, 10, none⟩ = some (.bool (p.hasUser)) := pack_at HH.out 10 _ rfl
  have c11 : w5.cell? ⟨w.heap.size, 11, none⟩ = some (.string (p.user)) := pack_at HG.out 11 _ rfl
  have d11 : w5.cell? ⟨w.heap.size + 1, 11, none⟩ = some (.string (p.user)) := pack_at HH.out 11 _ rfl
  have c12 : w5.cell? ⟨w.heap.size, 12, none⟩ = some (.bool (p.hasPass)) := pack_at HG.out 12 _ rfl
  have d12 : w5.cell? ⟨w.heap.size + 1, 12, none⟩ = some (.bool (p.hasPass)) := pack_at HH.out 12 _ rfl
  have c13 : w5.cell? ⟨w.heap.size, 13, none⟩ = some (.string (p.pass)) := pack_at HG.out 13 _ rfl
  have d13 : w5.cell? ⟨w.heap.size + 1, 13, none⟩ = some (.string (p.pass)) := pack_at HH.out 13 _ rfl
  have c14 : w5.cell? ⟨w.heap.size, 14, none⟩ = some (.bool (p.hasWill)) := pack_at HG.out 14 _ rfl
  have d14 : w5.cell? ⟨w.heap.size + 1, 14, none⟩ = some (.bool (p.hasWill)) := pack_at HH.out 14 _ rfl
  have c20 : w5.cell? ⟨w.heap.size, 20, none⟩ = some (.bool (p.session)) := pack_at HG.out 20 _ rfl
  have d20 : w5.cell? ⟨w.heap.size + 1, 20, none⟩ = some (.bool (p.session)) := pack_at HH.out 20 _ rfl
  have c21 : w5.cell? ⟨w.heap.size, 21, none⟩ = some (.int .i64 (p.code)) := pack_at HG.out 21 _ rfl
  have d21 : w5.cell? ⟨w.heap.size + 1, 21, none⟩ = some (.int .i64 (p.code)) := pack_at HH.out 21 _ rfl
  clear HG HH HR HW HC HF HP
  go_wp2
  go_ret
  exact ⟨rfl, HB5.out⟩
theorem nil_RI (w : World) : RI w zeroSl.A zeroSl.n [] := ⟨rfl, by decide, fun h => absurd h (by decide)⟩
theorem nil_RF (w : World) : RF w zeroSl.A zeroSl.n [] := ⟨rfl, by decide, fun p (h : p ∈ ([] : List Flt)) => absurd h (by simp), fun h => absurd h (by decide)⟩
theorem nil_RP0 (w : World) : RP w zeroSl.A zeroSl.n [] := ⟨rfl, by decide, fun p (h : p ∈ ([] : List Prp)) => absurd h (by simp), fun h => absurd h (by decide)⟩
theorem zero_ok : PkOK zeroPk := ⟨by decide, by decide, by decide, by decide, by decide, by decide, by decide, by decide, by decide, by decide, by decide, by decide, by decide, by decide, by decide⟩
theorem zero_RPk (w : World) : RPk w zeroPk [] [] [] [] := ⟨zero_ok, nil_RP0 w, nil_RI w, nil_RF w, nil_RP0 w⟩
set_option maxRecDepth 100000 in
theorem none_t (w : World) : Calls Try.prog 19 #[.agg (packC zeroPk)] w fun e w' => e = .returned (.bool true) ∧ Below w.heap.size w w' := by
  have HG := Lib.hid (heap_alloc_new w (.cells (packC zeroPk) 35))
  have HB1 := Lib.hid ((Below.refl w.heap.size w).alloc (Nat.le_refl _) (.cells (packC zeroPk) 35))
  go_enter Try.func19, Try.ntmps19
  go_wp2_with ((with_reducible refine pack_load w.heap.size zeroPk (.tmp 1) HG.out ?a1 ?b1 ?c1 ?d1); (case a1 => rfl); (case b1 => rfl); (case c1 => rfl))
  refine (samepk_yes zeroPk zeroSl zeroSl zeroSl zeroSl [] [] [] [] _ (zero_RPk _) (nil_RP0 _) (nil_RI _) (nil_RF _) (nil_RP0 _)).mono ?_
  rintro e w2 ⟨rfl, hb⟩
  have HB2 := Lib.hid (ext_then' HB1.out hb)
  clear hb
  go_wp2
  go_ret
  exact ⟨rfl, HB2.out⟩
end Go.Proofs.Ytnbgmpfldoaodab
