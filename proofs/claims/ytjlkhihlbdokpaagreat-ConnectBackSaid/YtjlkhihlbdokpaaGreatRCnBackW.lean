/- The law ConnectBack of chapter 8: its walk. -/
import Derived.Test.YtjlkhihlbdokpaaGreatG9
import Derived.Test.YtjlkhihlbdokpaaGreatG4
import Derived.RegionTactic
import Derived.Deep.RegionHeld3
namespace Go.Proofs.YtjlkhihlbdokpaaGreat
open Go.RowKit Go.Sort
set_option maxHeartbeats 2000000
set_option linter.unusedVariables false
set_option linter.unusedSimpArgs false
def pickF (n m : Int) : Int := if decide (m < 1) = true then 0 else if decide (n.tmod m < 0) = true then n.tmod m + m else n.tmod m
theorem pick_bd (n : Int) {m : Int} (h : 1 ≤ m) : 0 ≤ pickF n m ∧ pickF n m < m := by
  have h1 := Int.tmod_lt_of_pos n (show (0 : Int) < m by omega)
  have h2 : -m < n.tmod m := by
    have := Int.tmod_lt_of_pos (-n) (show (0 : Int) < m by omega)
    rw [Int.neg_tmod] at this
    omega
  unfold pickF
  rw [if_neg (by simp; omega)]
  by_cases h : n.tmod m < 0
  · rw [if_pos (by simpa using h)]; omega
  · rw [if_neg (by simpa using h)]; omega
set_option maxRecDepth 100000 in
theorem pick_t (n m : Int) (w : World) (m1 : 1 ≤ m) (m2 : m ≤ 9223372036854775807) : Calls Tryz.prog 15 #[.int .i64 n, .int .i64 m] w fun e w' => e = .returned (.int .i64 (pickF n m)) ∧ w' = w := by
  have h1 := Int.tmod_lt_of_pos n (show (0 : Int) < m by omega)
  have h2 : -m < n.tmod m := by
    have := Int.tmod_lt_of_pos (-n) (show (0 : Int) < m by omega)
    rw [Int.neg_tmod] at this
    omega
  have hm : decide (m < 1) = false := by simp; omega
  have hm0 : (m == 0) = false := by simp; omega
  have hm1 : ¬ m = 0 := by omega
  have HE : Hid (pickF n m = if decide (n.tmod m < 0) = true then n.tmod m + m else n.tmod m) := Lib.hid (by unfold pickF; rw [hm]; rfl)
  have hw : IntKind.i64.wrap (n.tmod m) = n.tmod m := IntWalk.i64_in _ ⟨by omega, by omega⟩
  by_cases h : n.tmod m < 0
  · have hd : decide (n.tmod m < 0) = true := by simpa using h
    have HE' : Hid (pickF n m = n.tmod m + m) := Lib.hid (by rw [HE.out, if_pos hd])
    have hw2 : IntKind.i64.wrap (n.tmod m + m) = n.tmod m + m := IntWalk.i64_in _ ⟨by omega, by omega⟩
    go_enter Tryz.func15, Tryz.ntmps15
    go_wp2
    go_ret
    exact ⟨by rw [HE'.out]; rfl, rfl⟩
  · have hd : decide (n.tmod m < 0) = false := by simpa using h
    have HE' : Hid (pickF n m = n.tmod m) := Lib.hid (by rw [HE.out, if_neg (by rw [hd]; decide)])
    go_enter Tryz.func15, Tryz.ntmps15
    go_wp2
    go_ret
    exact ⟨by rw [HE'.out]; rfl, rfl⟩
theorem got_RPk {v kind : Int} {s : ByteArray} (hs : s.size ≤ 140737488351232) {w' : World} {B B' : Nat} {ps ws : Sl} (h1 : LsAt w' B ps (gotF v kind s).lp) (h2 : LsAt w' B' ws (gotF v kind s).lw) : RPk w' ((gotF v kind s).pk ps ws) (gotF v kind s).lw [] [] (gotF v kind s).lp := by
  have hl := got_len v kind s
  have hn1 := (ls_RP h1).1
  have hn2 := (ls_RP h2).1
  have hr := got_RP v kind s ps ws
  have hok := (got_ok v kind s hs).2 ps ws (by rw [hn1]; exact Nat.le_trans hl.1 (by decide)) (by rw [hn2]; exact Nat.le_trans hl.2 (by decide))
  have hq : ((gotF v kind s).pk ps ws).codes = zeroSl ∧ ((gotF v kind s).pk ps ws).filters = zeroSl := by
    unfold gotF
    split
    · exact ⟨rfl, rfl⟩
    · exact ⟨rfl, rfl⟩
  exact ⟨hok, hr.1 _ _ h2, by rw [hq.1]; exact nil_RI _, by rw [hq.2]; exact nil_RF _, hr.2 _ _ h1⟩
theorem row_drew {w : World} {g : Nat} {o : Obj} (h : w.heap[g]? = some o) : w.drew.heap[g]? = some o := h
theorem below_drew {a b : World} (h : Below a.drew.heap.size a.drew b) : Below a.heap.size a b := ⟨h.os, h.tape, h.output, h.size, fun i hi => h.block i hi⟩
theorem bl_take {a : ByteArray} {k : Nat} (h : k < a.size) : ∃ r, r ≠ [] ∧ bl a = bl (a.extract 0 k) ++ r := by
  refine ⟨(bl a).drop k, ?_, ?_⟩
  · intro e
    have := congrArg List.length e
    rw [List.length_drop, bl_len] at this
    simp at this; omega
  · rw [bl_extract, List.drop_zero, Nat.sub_zero, List.take_append_drop]
theorem conn_size {v : Int} {p : Pk} {lw lp : List Prp} (hn : p.props.n = lp.length) (hw : p.wProps.n = lw.length) (h : connV v p lw lp = 0) : (connB v p lw lp).1.size ≤ 263200000 ∧ 1 ≤ (connB v p lw lp).1.size := by
  rcases connB_kind h with hk | hk
  · have hc := cnSz (cnOK_of hk hn hw h)
    have hb : connB v p lw lp = (con3 v p lw lp, 0) := by unfold connB; rw [if_neg (by rw [h]; decide), if_neg (by rw [hk]; decide)]
    have hl := connB_con' hk h
    rw [hb] at hl ⊢
    refine ⟨con3_size hc.client hc.wTopic hc.wPay hc.user hc.pass, ?_⟩
    rw [← bl_len, hl]
    unfold conL
    rw [List.length_append]
    show 1 ≤ 6 + _
    omega
  · have hl := connB_ack' hk h
    rw [← bl_len, hl]
    obtain ⟨x, hx, -⟩ := ackFirst_bl p
    have := tailS_size v 2 lp
    have e1 : (bl (be1 p.code)).length = 1 := rfl
    unfold ackL
    rw [hx, List.length_append, List.length_append, e1, bl_len]
    simp only [List.length_singleton]
    omega
theorem cut_rd {v : Int} {p : Pk} {lw lp : List Prp} (hn : p.props.n = lp.length) (hw : p.wProps.n = lw.length) (hp : ∀ q ∈ lp, PrpOK q) (hpw : ∀ q ∈ lw, PrpOK q) (h : connV v p lw lp = 0) {k : Nat} (hk : k < (connB v p lw lp).1.size)
    (h1 : ∀ q ∈ rdP v p.kind ((connB v p lw lp).1.extract 0 k), PrpOK q) (h2 : ∀ q ∈ rdW v p.kind ((connB v p lw lp).1.extract 0 k), PrpOK q) : rdE v p.kind ((connB v p lw lp).1.extract 0 k) ≠ 0 := by
  intro h0
  unfold rdP at h1
  unfold rdW at h2
  rw [if_pos h0] at h1 h2
  obtain ⟨r, hr, hb⟩ := bl_take hk
  exact cut_bad hn hw hp hpw h (Nat.le_trans (conn_size hn hw h).1 (by decide)) hr hb h1 h2 h0
set_option maxHeartbeats 40000000 in
set_option maxRecDepth 100000 in
theorem cnBack_t (v : Int) (p : Pk) (lw : List Prp) (lc : List Int) (lf : List Flt) (lp : List Prp) (kind : Int) (s : ByteArray) (cut : Int) (w : World) (wf0 : (Lit.int .i64 v).wf = true) (hr : RPk w p lw lc lf lp) (wf2 : (Lit.int .i64 kind).wf = true) (hs : s.size ≤ 140737488351232) (wf4 : (Lit.int .i64 cut).wf = true) :
    Calls Tryz.prog 3 #[.int .i64 v, .agg (packC p), .int .i64 kind, .string s, .int .i64 cut] w fun e w' => e = .returned (.bool true) ∧ Below w.heap.size w w' := by
  have HP := Lib.hid hr
  have HS := Lib.hid hs
  clear hr wf0 wf2 wf4 hs
  have HB1 := Lib.hid ((Below.refl w.heap.size w).alloc (Nat.le_refl _) (.cells (packC p) 28))
  have HGp1 := Lib.hid (heap_alloc_new w (.cells (packC p) 28))
  go_enter Tryz.func3, Tryz.ntmps3
  go_wp2_with fail
  refine (lives08_t _).mono ?_
  rintro e w2 ⟨rfl, hb⟩
  have HB2 := Lib.hid (ext_then' HB1.out hb)
  have HGp2 := Lib.hid (row_then HGp1.out hb)
  clear hb HB1 HGp1
  go_wp2_with ((with_reducible refine pk_load (w.heap.size) (p) ?x1 HGp2.out ?a1 ?b1 ?c1 ?d1); (case a1 => rfl); (case b1 => rfl); (case c1 => rfl))
  refine (light_t p lw lc lf lp _ (HP.out.below HB2.out)).mono ?_
  rintro e w3 ⟨b, rfl, hb⟩
  have HB3 := Lib.hid (ext_then' HB2.out hb)
  have HGp3 := Lib.hid (row_then HGp2.out hb)
  clear hb HB2 HGp2
  cases b
  · go_wp2
    go_ret
    exact ⟨rfl, HB3.out⟩
  · cases hl2 : decide (2000 < (s.size : Int))
    · go_wp2_with ((with_reducible refine pk_load (w.heap.size) (p) ?x2 HGp3.out ?a2 ?b2 ?c2 ?d2); (case a2 => rfl); (case b2 => rfl); (case c2 => rfl))
      refine (connB_t v p HP.out.ok lw lp _ (HP.out.will.below HB3.out) (HP.out.props.below HB3.out)).mono ?_
      rintro e w4 ⟨rfl, hb⟩
      have HB4 := Lib.hid (ext_then' HB3.out hb)
      have HGp4 := Lib.hid (row_then HGp3.out hb)
      clear hb HB3 HGp3
      rw [connB_snd]
      go_wp2_with ((with_reducible refine pk_load (w.heap.size) (p) ?x3 HGp4.out ?a3 ?b3 ?c3 ?d3); (case a3 => rfl); (case b3 => rfl); (case c3 => rfl))
      refine (connV_t v p HP.out.ok lw lp (topicH lw) (topicH lp) _ (HP.out.will.below HB4.out) (HP.out.props.below HB4.out)).mono ?_
      rintro e w5 ⟨rfl, hb⟩
      have HB5 := Lib.hid (ext_then' HB4.out hb)
      have HGp5 := Lib.hid (row_then HGp4.out hb)
      clear hb HB4 HGp4
      cases he : (connV v p lw lp == 0)
      · have hne : connV v p lw lp ≠ 0 := by simpa using he
        rw [connB_bad hne]
        have he' : (connV v p lw lp != 0) = true := by simpa using hne
        clear hne
        generalize connV v p lw lp = av at *
        go_wp2_with ((with_reducible refine pk_load (w.heap.size) (p) ?x4 HGp5.out ?a4 ?b4 ?c4 ?d4); (case a4 => rfl); (case b4 => rfl); (case c4 => rfl))
        refine (cnread_t v kind s _ HS.out).mono ?_
        rintro e w6 ⟨ps5, ws5, hlp, hlw, rfl, hb⟩
        have HB6 := Lib.hid (ext_then' HB5.out hb)
        have HGp6 := Lib.hid (row_then HGp5.out hb)
        clear hb HB5 HGp5
        have HLP := Lib.hid hlp
        have HLW := Lib.hid hlw
        clear hlp hlw
        have HK2 : Hid (rdK v kind s ps5 ws5 = if rdE v kind s = 0 then (gotF v kind s).pk ps5 ws5 else zeroPk) := Lib.hid rfl
        have HP2 : Hid (rdP v kind s = if rdE v kind s = 0 then (gotF v kind s).lp else []) := Lib.hid rfl
        have HW2 : Hid (rdW v kind s = if rdE v kind s = 0 then (gotF v kind s).lw else []) := Lib.hid rfl
        have HBK : Hid (rdE v kind s = 0 → _) := Lib.hid fun h0 => read_back h0 HS.out ps5 ws5
        have HRK : Hid (∀ w' B B', LsAt w' B ps5 (gotF v kind s).lp → LsAt w' B' ws5 (gotF v kind s).lw → RPk w' ((gotF v kind s).pk ps5 ws5) (gotF v kind s).lw [] [] (gotF v kind s).lp) := Lib.hid fun w' B B' h1 h2 => got_RPk HS.out h1 h2
        generalize gotF v kind s = gt2 at *
        generalize rdE v kind s = e2 at *
        cases he2 : (e2 != 0)
        · have h0 : e2 = 0 := by simpa using he2
          subst h0
          rw [HK2.out, if_pos rfl]
          rw [HP2.out, if_pos rfl] at HLP
          rw [HW2.out, if_pos rfl] at HLW
          have HN1 := Lib.hid (ls_RP HLP.out).1
          have HN2 := Lib.hid (ls_RP HLW.out).1
          have HBB := Lib.hid (HBK.out rfl HN1.out HN2.out)
          clear HK2 HP2 HW2 HBK
          go_wp2_with (first | ((with_reducible refine pk_store w6.heap.size (gt2.pk ps5 ws5) ?x5 ?y5 _ (heap_alloc_new _ _) ?a5 ?b5 ?c5 ?d5 ?e5 ?f5); (case a5 => rfl); (case b5 => rfl); (case c5 => rfl); (case d5 => rfl); (case e5 => rfl)) | ((with_reducible refine pk_load (w.heap.size) (p) ?x6 HGp6.out ?a6 ?b6 ?c6 ?d6); (case a6 => rfl); (case b6 => rfl); (case c6 => rfl)))
          intro w7 hg hgr
          have HLW3 := Lib.hid (ls_store HLW.out hgr)
          have HLP3 := Lib.hid (ls_store HLP.out hgr)
          have HB7 := Lib.hid (below_store HB6.out hgr)
          have HGp7 := Lib.hid (row_store HGp6.out hgr)
          have HGy7 := Lib.hid hg
          clear hg hgr HB6 HGp6
          have HR3 := Lib.hid (HRK.out _ _ _ HLP3.out HLW3.out)
          go_wp2_with (first | ((with_reducible refine pk_load (w.heap.size) (p) ?x7 HGp7.out ?a7 ?b7 ?c7 ?d7); (case a7 => rfl); (case b7 => rfl); (case c7 => rfl)) | ((with_reducible refine pk_load (w6.heap.size) (gt2.pk ps5 ws5) ?x8 HGy7.out ?a8 ?b8 ?c8 ?d8); (case a8 => rfl); (case b8 => rfl); (case c8 => rfl)))
          refine (connB_t v (gt2.pk ps5 ws5) HR3.out.ok gt2.lw gt2.lp _ HR3.out.will HR3.out.props).mono ?_
          rintro e w8 ⟨rfl, hb⟩
          have HB8 := Lib.hid (ext_then' HB7.out hb)
          have HGp8 := Lib.hid (row_then HGp7.out hb)
          have HGy8 := Lib.hid (row_then HGy7.out hb)
          clear hb HB7 HGp7 HGy7
          rw [HBB.out.1]
          have cy : w8.cell? ⟨w6.heap.size, 0, none⟩ = some (.int .i64 kind) := by rw [← HBB.out.2.1]; exact pack_at HGy8.out 0 _ rfl
          go_wp2
          go_ret
          exact ⟨rfl, HB8.out⟩
        · have hne : ¬ e2 = 0 := by simpa using he2
          rw [HK2.out, if_neg hne]
          clear hne
          go_wp2_with (first | ((with_reducible refine pk_store w6.heap.size (zeroPk) ?x9 ?y9 _ (heap_alloc_new _ _) ?a9 ?b9 ?c9 ?d9 ?e9 ?f9); (case a9 => rfl); (case b9 => rfl); (case c9 => rfl); (case d9 => rfl); (case e9 => rfl)) | ((with_reducible refine pk_load (w.heap.size) (p) ?x10 HGp6.out ?a10 ?b10 ?c10 ?d10); (case a10 => rfl); (case b10 => rfl); (case c10 => rfl)))
          intro w7 hg hgr
          have HB7 := Lib.hid (below_store HB6.out hgr)
          have HGp7 := Lib.hid (row_store HGp6.out hgr)
          have HGz7 := Lib.hid hg
          clear hg hgr HB6 HGp6
          go_wp2_with (first | ((with_reducible refine pk_load (w.heap.size) (p) ?x11 HGp7.out ?a11 ?b11 ?c11 ?d11); (case a11 => rfl); (case b11 => rfl); (case c11 => rfl)) | ((with_reducible refine pk_load (w6.heap.size) (zeroPk) ?x12 HGz7.out ?a12 ?b12 ?c12 ?d12); (case a12 => rfl); (case b12 => rfl); (case c12 => rfl)))
          refine (none_t _).mono ?_
          rintro e w8 ⟨rfl, hb⟩
          have HB8 := Lib.hid (ext_then' HB7.out hb)
          have HGp8 := Lib.hid (row_then HGp7.out hb)
          have HGz8 := Lib.hid (row_then HGz7.out hb)
          clear hb HB7 HGp7 HGz7
          go_wp2
          go_ret
          exact ⟨rfl, HB8.out⟩
      · have h0 : connV v p lw lp = 0 := by simpa using he
        have HSZ := Lib.hid (conn_size HP.out.props.1.symm HP.out.will.1.symm h0)
        have HZ : Hid ((connB v p lw lp).1.size ≤ 140737488351232) := Lib.hid (Nat.le_trans HSZ.out.1 (by decide))
        have HRD := Lib.hid (read_body HP.out.props.1.symm HP.out.will.1.symm HP.out.props.2.2.1 HP.out.will.2.2.1 h0 HZ.out)
        have HGT := Lib.hid (got_at (r := []) HP.out.props.1.symm HP.out.will.1.symm HP.out.props.2.2.1 HP.out.will.2.2.1 h0 HZ.out (by rw [List.append_nil]))
        have HCUT : Hid (∀ k, k < (connB v p lw lp).1.size → (∀ q ∈ rdP v p.kind ((connB v p lw lp).1.extract 0 k), PrpOK q) → (∀ q ∈ rdW v p.kind ((connB v p lw lp).1.extract 0 k), PrpOK q) → rdE v p.kind ((connB v p lw lp).1.extract 0 k) ≠ 0) := Lib.hid fun k hk h1 h2 => cut_rd HP.out.props.1.symm HP.out.will.1.symm HP.out.props.2.2.1 HP.out.will.2.2.1 h0 hk h1 h2
        rw [h0]
        clear h0 he
        generalize (connB v p lw lp).1 = a at *
        have cp_0 : w5.cell? ⟨w.heap.size, 0, none⟩ = some (.int .i64 (p.kind)) := pack_at HGp5.out 0 _ rfl
        go_wp2_with ((with_reducible refine pk_load (w.heap.size) (p) ?x13 HGp5.out ?a13 ?b13 ?c13 ?d13); (case a13 => rfl); (case b13 => rfl); (case c13 => rfl))
        refine (cnread_t v p.kind a _ HZ.out).mono ?_
        rintro e w6 ⟨ps, ws, hlp, hlw, rfl, hb⟩
        have HB6 := Lib.hid (ext_then' HB5.out hb)
        have HGp6 := Lib.hid (row_then HGp5.out hb)
        clear hb HB5 HGp5
        clear cp_0
        have cp_0 : w6.cell? ⟨w.heap.size, 0, none⟩ = some (.int .i64 (p.kind)) := pack_at HGp6.out 0 _ rfl
        have HRK : Hid (∀ w' B B', LsAt w' B ps (gotF v p.kind a).lp → LsAt w' B' ws (gotF v p.kind a).lw → RPk w' ((gotF v p.kind a).pk ps ws) (gotF v p.kind a).lw [] [] (gotF v p.kind a).lp) := Lib.hid fun w' B B' h1 h2 => got_RPk HZ.out h1 h2
        have hk : rdK v p.kind a ps ws = (gotF v p.kind a).pk ps ws := by unfold rdK; rw [if_pos HRD.out]
        have hlp' : rdP v p.kind a = (gotF v p.kind a).lp := by unfold rdP; rw [if_pos HRD.out]
        have hlw' : rdW v p.kind a = (gotF v p.kind a).lw := by unfold rdW; rw [if_pos HRD.out]
        rw [hlp'] at hlp
        rw [hlw'] at hlw
        rw [hk, HRD.out]
        have HLP := Lib.hid hlp
        have HLW := Lib.hid hlw
        clear hlp hlw hk hlp' hlw'
        generalize gotF v p.kind a = gt at *
        go_wp2_with (first | ((with_reducible refine pk_store w6.heap.size (gt.pk ps ws) ?x14 ?y14 _ (heap_alloc_new _ _) ?a14 ?b14 ?c14 ?d14 ?e14 ?f14); (case a14 => rfl); (case b14 => rfl); (case c14 => rfl); (case d14 => rfl); (case e14 => rfl)) | ((with_reducible refine pk_load (w.heap.size) (p) ?x15 HGp6.out ?a15 ?b15 ?c15 ?d15); (case a15 => rfl); (case b15 => rfl); (case c15 => rfl)))
        intro w7 hg hgr
        have HLW1 := Lib.hid (ls_store HLW.out hgr)
        have HLP1 := Lib.hid (ls_store HLP.out hgr)
        have HB7 := Lib.hid (below_store HB6.out hgr)
        have HGp7 := Lib.hid (row_store HGp6.out hgr)
        have HGq7 := Lib.hid hg
        clear hg hgr HB6 HGp6
        clear cp_0
        have cp_0 : w7.cell? ⟨w.heap.size, 0, none⟩ = some (.int .i64 (p.kind)) := pack_at HGp7.out 0 _ rfl
        go_wp2_with (first | ((with_reducible refine pk_load (w.heap.size) (p) ?x16 HGp7.out ?a16 ?b16 ?c16 ?d16); (case a16 => rfl); (case b16 => rfl); (case c16 => rfl)) | ((with_reducible refine pk_load (w6.heap.size) (gt.pk ps ws) ?x17 HGq7.out ?a17 ?b17 ?c17 ?d17); (case a17 => rfl); (case b17 => rfl); (case c17 => rfl)))
        have HR1 := Lib.hid (HRK.out _ _ _ HLP1.out HLW1.out)
        have HSM := Lib.hid (HGT.out.2.2.2 ps ws)
        have HSP := samepk_yes (gt.pk ps ws) p.wProps p.codes p.filters p.props gt.lw [] [] gt.lp w7 HR1.out (by rw [HGT.out.2.1]; exact HP.out.will.below HB7.out) (by have hlc : lc = [] := List.eq_nil_of_length_eq_zero (by rw [HP.out.codes.1, HSM.out.2.1]); have := HP.out.codes.below HB7.out; rw [hlc] at this; exact this) (by have hlf : lf = [] := List.eq_nil_of_length_eq_zero (by rw [HP.out.filters.1, HSM.out.2.2]); have := HP.out.filters.below HB7.out; rw [hlf] at this; exact this) (by rw [HGT.out.1]; exact HP.out.props.below HB7.out)
        rw [← HSM.out.1] at HSP
        refine HSP.mono ?_
        rintro e w8 ⟨rfl, hb⟩
        have HB8 := Lib.hid (ext_then' HB7.out hb)
        have HGp8 := Lib.hid (row_then HGp7.out hb)
        have HGq8 := Lib.hid (row_then HGq7.out hb)
        clear hb HB7 HGp7 HGq7 HSM HR1 HLP HLW HLP1 HLW1 HRK HGT
        clear cp_0
        obtain ⟨k0, k1⟩ := pick_bd cut (m := (a.size : Int)) (by have := HSZ.out.2; omega)
        have ha0 : (0 : Int) ≤ (a.size : Int) := by omega
        obtain ⟨kn, hkn⟩ := Int.eq_ofNat_of_zero_le k0
        have HKN := Lib.hid hkn
        have hkl : kn < a.size := by omega
        have HKL := Lib.hid hkl
        have HEZ : Hid ((a.extract 0 kn).size ≤ 140737488351232) := Lib.hid (by rw [← bl_len, bl_extract, List.length_take, List.length_drop, bl_len]; have := HZ.out; omega)
        have HC := Lib.hid (HCUT.out kn hkl)
        have HGp := HGp8
        clear HCUT k0 k1 hkn hkl
        go_wp2_with fail
        refine wp_region_noPanic ?_
        refine wp_region_held_drew (S := fun w' => w'.heap[w.heap.size]? = some (.cells (packC p) 28 (0, 0))) (by kernel_rfl) (row_drew HGp.out) (fun hHeld => ?_)
        refine wpAnyH_take (i := 0) (v := .int .i64 v) rfl (by kernel_rfl) (by kernel_rfl) (by kernel_rfl) (fun _ _ _ h => h) (Or.inl ⟨by rfl, by intro w hSw; go_simp⟩) hHeld ?_
        try simp only [Act.put, List.setIfInBounds_toArray, List.set_cons_zero, List.set_cons_succ]
        refine wpAnyH_take (i := 1) (v := .pointer (some ⟨w.heap.size, 0, none⟩)) rfl (by kernel_rfl) (by kernel_rfl) (by kernel_rfl) (fun _ _ _ h => h) (Or.inl ⟨by rfl, by intro w hSw; go_simp⟩) hHeld ?_
        try simp only [Act.put, List.setIfInBounds_toArray, List.set_cons_zero, List.set_cons_succ]
        refine wpAnyH_take (i := 2) (v := .int .i64 p.kind) rfl (by kernel_rfl) (by kernel_rfl) (by kernel_rfl) (fun _ _ _ h => h) (Or.inl ⟨by rfl, by intro w' hSw; have hc := pack_at (p := p) hSw 0 (.int .i64 p.kind) rfl; go_simp⟩) hHeld ?_
        try simp only [Act.put, List.setIfInBounds_toArray, List.set_cons_zero, List.set_cons_succ]
        refine wpAnyH_take (i := 3) (v := .string a) rfl (by kernel_rfl) (by kernel_rfl) (by kernel_rfl) (fun _ _ _ h => h) (Or.inl ⟨by rfl, by intro w hSw; go_simp⟩) hHeld ?_
        try simp only [Act.put, List.setIfInBounds_toArray, List.set_cons_zero, List.set_cons_succ]
        refine wpAnyH_take (i := 4) (v := .int .i64 cut) rfl (by kernel_rfl) (by kernel_rfl) (by kernel_rfl) (fun _ _ _ h => h) (Or.inl ⟨by rfl, by intro w hSw; go_simp⟩) hHeld ?_
        try simp only [Act.put, List.setIfInBounds_toArray, List.set_cons_zero, List.set_cons_succ]
        refine wpAnyH_take (i := 5) (v := .string a) rfl (by kernel_rfl) (by kernel_rfl) (by kernel_rfl) (fun _ _ _ h => h) (Or.inl ⟨by rfl, by intro w hSw; go_simp⟩) hHeld ?_
        try simp only [Act.put, List.setIfInBounds_toArray, List.set_cons_zero, List.set_cons_succ]
        refine wpAnyH_take (i := 6) (v := .int .i64 a.size) rfl (by kernel_rfl) (by kernel_rfl) (by kernel_rfl) (fun _ _ _ h => h) (Or.inl ⟨by rfl, by intro w hSw; go_simp⟩) hHeld ?_
        try simp only [Act.put, List.setIfInBounds_toArray, List.set_cons_zero, List.set_cons_succ]
        have HBX := Lib.hid HB8.out.drew
        have HBX0 := HB8
        clear HB8
        refine wpAnyH_ready (rs := [7, 13]) (by kernel_rfl) (by simp) ?_
        refine AllReadyH.cons rfl (fun K hK => ?_) (AllReadyH.cons rfl (fun K hK => ?_) AllReadyH.nil)
        · go_simp
          go_at_call 15
          refine (pick_t cut (a.size : Int) _ (by have := HSZ.out.2; omega) (by have := HZ.out; omega)).mono ?_
          rintro e wq ⟨rfl, hwq⟩
          rw [hwq]
          clear hwq wq
          rw [HKN.out]
          try go_wp2_with fail
          refine hK.out _ _ (hHeld) (fun hHeld' => ?_)
          clear hK K hHeld
          have hHeld := hHeld'
          clear hHeld'
          try simp only [Act.put, List.setIfInBounds_toArray, List.set_cons_zero, List.set_cons_succ]
          refine wpAnyH_take (i := 8) (v := .string (a.extract 0 kn)) rfl (by kernel_rfl) (by kernel_rfl) (by kernel_rfl) (fun _ _ _ h => h) (Or.inl ⟨by rfl, by intro w' hSw; have h1 : (0 : Int) ≤ (kn : Int) := (by omega); have h2 : (kn : Int) ≤ (a.size : Int) := (by have := HKL.out; omega); go_simp⟩) hHeld ?_
          try simp only [Act.put, List.setIfInBounds_toArray, List.set_cons_zero, List.set_cons_succ]
          refine wpAnyH_ready (rs := [9, 13]) (by kernel_rfl) (by simp) ?_
          refine AllReadyH.cons rfl (fun K hK => ?_) (AllReadyH.cons rfl (fun K hK => ?_) AllReadyH.nil)
          · go_simp
            go_at_call 13
            refine (cnread_t v p.kind (a.extract 0 kn) _ HEZ.out).mono ?_
            rintro e w12 ⟨ps2, ws2, hlp2, hlw2, rfl, hb12⟩
            have hz := HC.out hlp2.2 hlw2.2
            have hq : rdK v p.kind (a.extract 0 kn) ps2 ws2 = zeroPk := by unfold rdK; rw [if_neg hz]
            rw [hq]
            have HE12 := Lib.hid hz
            have HB12 := Lib.hid (ext_then' HBX.out hb12)
            clear hq hz hlp2 hlw2 HC HBX
            have HBX := HB12
            clear HB12
            generalize rdE v p.kind (a.extract 0 kn) = e12 at *
            try go_wp2_with fail
            refine hK.out _ _ (row_then hHeld hb12) (fun hHeld' => ?_)
            clear hK K hHeld
            have hHeld := hHeld'
            clear hHeld'
            try simp only [Act.put, List.setIfInBounds_toArray, List.set_cons_zero, List.set_cons_succ]
            clear hb12
            refine wpAnyH_take (i := 10) (v := .tuple #[.agg (packC zeroPk), .int .i64 e12]) rfl (by kernel_rfl) (by kernel_rfl) (by kernel_rfl) (fun _ _ _ h => h) (Or.inl ⟨by rfl, by intro w hSw; go_simp⟩) hHeld ?_
            try simp only [Act.put, List.setIfInBounds_toArray, List.set_cons_zero, List.set_cons_succ]
            refine wpAnyH_take (i := 11) (v := .agg (packC zeroPk)) rfl (by kernel_rfl) (by kernel_rfl) (by kernel_rfl) (fun _ _ _ h => h) (Or.inl ⟨by rfl, by intro w hSw; go_simp⟩) hHeld ?_
            try simp only [Act.put, List.setIfInBounds_toArray, List.set_cons_zero, List.set_cons_succ]
            refine wpAnyH_take (i := 12) (v := .int .i64 e12) rfl (by kernel_rfl) (by kernel_rfl) (by kernel_rfl) (fun _ _ _ h => h) (Or.inl ⟨by rfl, by intro w hSw; go_simp⟩) hHeld ?_
            try simp only [Act.put, List.setIfInBounds_toArray, List.set_cons_zero, List.set_cons_succ]
            refine wpAnyH_ready (rs := [13]) (by kernel_rfl) (by simp) ?_
            refine AllReadyH.cons rfl (fun K hK => ?_) AllReadyH.nil
            have HGA := Lib.hid (Array.getElem?_eq_some_iff.1 hHeld).1
            go_simp
            refine hK.out _ _ ((heap_alloc_old _ _ (Array.getElem?_eq_some_iff.1 hHeld).1).trans hHeld) (fun hHeld' => ?_)
            clear hK K hHeld
            have hHeld := hHeld'
            clear hHeld'
            try simp only [Act.put, List.setIfInBounds_toArray, List.set_cons_zero, List.set_cons_succ]
            generalize hwa : World.alloc w12 _ = wa at hHeld ⊢
            have HZA : Hid (wa.heap[w12.heap.size]? = some (.cells (packC zeroPk) 28 (0, 0))) := Lib.hid (by rw [← hwa]; exact heap_alloc_new w12 _)
            have HBA : Hid (Below w.heap.size w wa) := Lib.hid (by rw [← hwa]; exact HBX.out.alloc HBX.out.size _)
            clear hwa HBX
            have HBX := HBA
            clear HBA
            refine wpAnyH_ready (rs := [14]) (by kernel_rfl) (by simp) ?_
            refine AllReadyH.cons rfl (fun K hK => ?_) AllReadyH.nil
            rw [if_pos (by rfl)]
            refine wp_store_row _ _ _ rfl w12.heap.size (packC zeroPk) rfl rfl _ _ HZA.out (si_packC zeroPk) rfl (by simp [packC, Value.oneCell']) ?_
            have hgs : wa.grownBy (wa.setRow w12.heap.size (packC zeroPk)) (some w12.heap.size) := ⟨rfl, rfl, rfl, by simp, fun k _ hk => setRow_other _ w12.heap.size k _ (fun e => hk (by rw [e]))⟩
            generalize hw20 : World.setRow wa _ _ = w20 at hgs ⊢
            have HB20 := Lib.hid (grown_below HBX.out hgs (Nat.le_of_lt HGA.out))
            refine hK.out _ _ (row_grown hHeld hgs (Nat.ne_of_lt HGA.out)) (fun hHeld' => ?_)
            clear hK K hHeld hgs HBX HZA HGA hw20
            have hHeld := hHeld'
            clear hHeld'
            try simp only [Act.put, List.setIfInBounds_toArray, List.set_cons_zero, List.set_cons_succ]
            refine wpAnyH_take (i := 15) (v := .int .i64 e12) rfl (by kernel_rfl) (by kernel_rfl) (by kernel_rfl) (fun _ _ _ h => h) (Or.inl ⟨by rfl, by intro w hSw; go_simp⟩) hHeld ?_
            try simp only [Act.put, List.setIfInBounds_toArray, List.set_cons_zero, List.set_cons_succ]
            refine wpAnyH_done (by kernel_rfl) ?_ _
            refine NoPanic.normal ?_
            have HGp20 : Hid (w20.heap[w.heap.size]? = some (.cells (packC p) 28 (0, 0))) := Lib.hid hHeld
            have hne12 : (e12 == 0) = false := by simpa using HE12.out
            clear hHeld HGp HGp8 HGq8
            go_wp2_with ((with_reducible refine pk_load (w.heap.size) (p) ?x18 HGp20.out ?a18 ?b18 ?c18 ?d18); (case a18 => rfl); (case b18 => rfl); (case c18 => rfl))
            refine (cnread_t v kind s _ HS.out).mono ?_
            rintro e w21 ⟨ps20, ws20, hlp, hlw, rfl, hb⟩
            have HB21 := Lib.hid (ext_then' HB20.out hb)
            have HGp21 := Lib.hid (row_then HGp20.out hb)
            clear hb HB20 HGp20
            have HLP := Lib.hid hlp
            have HLW := Lib.hid hlw
            clear hlp hlw
            have HK2 : Hid (rdK v kind s ps20 ws20 = if rdE v kind s = 0 then (gotF v kind s).pk ps20 ws20 else zeroPk) := Lib.hid rfl
            have HP2 : Hid (rdP v kind s = if rdE v kind s = 0 then (gotF v kind s).lp else []) := Lib.hid rfl
            have HW2 : Hid (rdW v kind s = if rdE v kind s = 0 then (gotF v kind s).lw else []) := Lib.hid rfl
            have HBK : Hid (rdE v kind s = 0 → _) := Lib.hid fun h0 => read_back h0 HS.out ps20 ws20
            have HRK : Hid (∀ w' B B', LsAt w' B ps20 (gotF v kind s).lp → LsAt w' B' ws20 (gotF v kind s).lw → RPk w' ((gotF v kind s).pk ps20 ws20) (gotF v kind s).lw [] [] (gotF v kind s).lp) := Lib.hid fun w' B B' h1 h2 => got_RPk HS.out h1 h2
            generalize gotF v kind s = gt2 at *
            generalize rdE v kind s = e2 at *
            cases he2 : (e2 != 0)
            · have h0 : e2 = 0 := by simpa using he2
              subst h0
              rw [HK2.out, if_pos rfl]
              rw [HP2.out, if_pos rfl] at HLP
              rw [HW2.out, if_pos rfl] at HLW
              have HN1 := Lib.hid (ls_RP HLP.out).1
              have HN2 := Lib.hid (ls_RP HLW.out).1
              have HBB := Lib.hid (HBK.out rfl HN1.out HN2.out)
              clear HK2 HP2 HW2 HBK
              go_wp2_with (first | ((with_reducible refine pk_store w21.heap.size (gt2.pk ps20 ws20) ?x19 ?y19 _ (heap_alloc_new _ _) ?a19 ?b19 ?c19 ?d19 ?e19 ?f19); (case a19 => rfl); (case b19 => rfl); (case c19 => rfl); (case d19 => rfl); (case e19 => rfl)) | ((with_reducible refine pk_load (w.heap.size) (p) ?x20 HGp21.out ?a20 ?b20 ?c20 ?d20); (case a20 => rfl); (case b20 => rfl); (case c20 => rfl)))
              intro w22 hg hgr
              have HLW3 := Lib.hid (ls_store HLW.out hgr)
              have HLP3 := Lib.hid (ls_store HLP.out hgr)
              have HB22 := Lib.hid (below_store HB21.out hgr)
              have HGp22 := Lib.hid (row_store HGp21.out hgr)
              have HGy22 := Lib.hid hg
              clear hg hgr HB21 HGp21
              have HR3 := Lib.hid (HRK.out _ _ _ HLP3.out HLW3.out)
              go_wp2_with (first | ((with_reducible refine pk_load (w.heap.size) (p) ?x21 HGp22.out ?a21 ?b21 ?c21 ?d21); (case a21 => rfl); (case b21 => rfl); (case c21 => rfl)) | ((with_reducible refine pk_load (w21.heap.size) (gt2.pk ps20 ws20) ?x22 HGy22.out ?a22 ?b22 ?c22 ?d22); (case a22 => rfl); (case b22 => rfl); (case c22 => rfl)))
              refine (connB_t v (gt2.pk ps20 ws20) HR3.out.ok gt2.lw gt2.lp _ HR3.out.will HR3.out.props).mono ?_
              rintro e w23 ⟨rfl, hb⟩
              have HB23 := Lib.hid (ext_then' HB22.out hb)
              have HGp23 := Lib.hid (row_then HGp22.out hb)
              have HGy23 := Lib.hid (row_then HGy22.out hb)
              clear hb HB22 HGp22 HGy22
              rw [HBB.out.1]
              have cy : w23.cell? ⟨w21.heap.size, 0, none⟩ = some (.int .i64 kind) := by rw [← HBB.out.2.1]; exact pack_at HGy23.out 0 _ rfl
              go_wp2
              go_ret
              exact ⟨rfl, HB23.out⟩
            · have hne : ¬ e2 = 0 := by simpa using he2
              rw [HK2.out, if_neg hne]
              clear hne
              go_wp2_with (first | ((with_reducible refine pk_store w21.heap.size (zeroPk) ?x23 ?y23 _ (heap_alloc_new _ _) ?a23 ?b23 ?c23 ?d23 ?e23 ?f23); (case a23 => rfl); (case b23 => rfl); (case c23 => rfl); (case d23 => rfl); (case e23 => rfl)) | ((with_reducible refine pk_load (w.heap.size) (p) ?x24 HGp21.out ?a24 ?b24 ?c24 ?d24); (case a24 => rfl); (case b24 => rfl); (case c24 => rfl)))
              intro w22 hg hgr
              have HB22 := Lib.hid (below_store HB21.out hgr)
              have HGp22 := Lib.hid (row_store HGp21.out hgr)
              have HGz22 := Lib.hid hg
              clear hg hgr HB21 HGp21
              go_wp2_with (first | ((with_reducible refine pk_load (w.heap.size) (p) ?x25 HGp22.out ?a25 ?b25 ?c25 ?d25); (case a25 => rfl); (case b25 => rfl); (case c25 => rfl)) | ((with_reducible refine pk_load (w21.heap.size) (zeroPk) ?x26 HGz22.out ?a26 ?b26 ?c26 ?d26); (case a26 => rfl); (case b26 => rfl); (case c26 => rfl)))
              refine (none_t _).mono ?_
              rintro e w23 ⟨rfl, hb⟩
              have HB23 := Lib.hid (ext_then' HB22.out hb)
              have HGp23 := Lib.hid (row_then HGp22.out hb)
              have HGz23 := Lib.hid (row_then HGz22.out hb)
              clear hb HB22 HGp22 HGz22
              go_wp2
              go_ret
              exact ⟨rfl, HB23.out⟩
          · have HGA := Lib.hid (Array.getElem?_eq_some_iff.1 hHeld).1
            go_simp
            refine hK.out _ _ ((heap_alloc_old _ _ (Array.getElem?_eq_some_iff.1 hHeld).1).trans hHeld) (fun hHeld' => ?_)
            clear hK K hHeld
            have hHeld := hHeld'
            clear hHeld'
            try simp only [Act.put, List.setIfInBounds_toArray, List.set_cons_zero, List.set_cons_succ]
            generalize hwa : World.drew (World.alloc w8 _) = wa at hHeld ⊢
            have HZA : Hid (wa.heap[w8.drew.heap.size]? = some (.cells (packC zeroPk) 28 (0, 0))) := Lib.hid (by rw [← hwa]; exact heap_alloc_new w8 _)
            have HBA : Hid (Below w.heap.size w wa) := Lib.hid (by rw [← hwa]; exact (HBX0.out.alloc HBX0.out.size _).drew)
            clear hwa HBX
            have HBX := HBA
            clear HBA
            refine wpAnyH_ready (rs := [9]) (by kernel_rfl) (by simp) ?_
            refine AllReadyH.cons rfl (fun K hK => ?_) AllReadyH.nil
            go_simp
            go_at_call 13
            refine (cnread_t v p.kind (a.extract 0 kn) _ HEZ.out).mono ?_
            rintro e w12 ⟨ps2, ws2, hlp2, hlw2, rfl, hb12⟩
            have hz := HC.out hlp2.2 hlw2.2
            have hq : rdK v p.kind (a.extract 0 kn) ps2 ws2 = zeroPk := by unfold rdK; rw [if_neg hz]
            rw [hq]
            have HE12 := Lib.hid hz
            have HB12 := Lib.hid (ext_then' HBX.out hb12)
            have HZA' := Lib.hid (row_then HZA.out hb12)
            clear HZA
            have HZA := HZA'
            clear HZA'
            clear hq hz hlp2 hlw2 HC HBX
            have HBX := HB12
            clear HB12
            generalize rdE v p.kind (a.extract 0 kn) = e12 at *
            try go_wp2_with fail
            refine hK.out _ _ (row_then hHeld hb12) (fun hHeld' => ?_)
            clear hK K hHeld
            have hHeld := hHeld'
            clear hHeld'
            try simp only [Act.put, List.setIfInBounds_toArray, List.set_cons_zero, List.set_cons_succ]
            clear hb12
            refine wpAnyH_take (i := 10) (v := .tuple #[.agg (packC zeroPk), .int .i64 e12]) rfl (by kernel_rfl) (by kernel_rfl) (by kernel_rfl) (fun _ _ _ h => h) (Or.inl ⟨by rfl, by intro w hSw; go_simp⟩) hHeld ?_
            try simp only [Act.put, List.setIfInBounds_toArray, List.set_cons_zero, List.set_cons_succ]
            refine wpAnyH_take (i := 11) (v := .agg (packC zeroPk)) rfl (by kernel_rfl) (by kernel_rfl) (by kernel_rfl) (fun _ _ _ h => h) (Or.inl ⟨by rfl, by intro w hSw; go_simp⟩) hHeld ?_
            try simp only [Act.put, List.setIfInBounds_toArray, List.set_cons_zero, List.set_cons_succ]
            refine wpAnyH_take (i := 12) (v := .int .i64 e12) rfl (by kernel_rfl) (by kernel_rfl) (by kernel_rfl) (fun _ _ _ h => h) (Or.inl ⟨by rfl, by intro w hSw; go_simp⟩) hHeld ?_
            try simp only [Act.put, List.setIfInBounds_toArray, List.set_cons_zero, List.set_cons_succ]
            refine wpAnyH_ready (rs := [14]) (by kernel_rfl) (by simp) ?_
            refine AllReadyH.cons rfl (fun K hK => ?_) AllReadyH.nil
            rw [if_pos (by rfl)]
            refine wp_store_row _ _ _ rfl w8.drew.heap.size (packC zeroPk) rfl rfl _ _ HZA.out (si_packC zeroPk) rfl (by simp [packC, Value.oneCell']) ?_
            have hgs : w12.grownBy (w12.setRow w8.drew.heap.size (packC zeroPk)) (some w8.drew.heap.size) := ⟨rfl, rfl, rfl, by simp, fun k _ hk => setRow_other _ w8.drew.heap.size k _ (fun e => hk (by rw [e]))⟩
            generalize hw20 : World.setRow w12 _ _ = w20 at hgs ⊢
            have HB20 := Lib.hid (grown_below HBX.out hgs (Nat.le_of_lt HGA.out))
            refine hK.out _ _ (row_grown hHeld hgs (Nat.ne_of_lt HGA.out)) (fun hHeld' => ?_)
            clear hK K hHeld hgs HBX HZA HGA hw20
            have hHeld := hHeld'
            clear hHeld'
            try simp only [Act.put, List.setIfInBounds_toArray, List.set_cons_zero, List.set_cons_succ]
            refine wpAnyH_take (i := 15) (v := .int .i64 e12) rfl (by kernel_rfl) (by kernel_rfl) (by kernel_rfl) (fun _ _ _ h => h) (Or.inl ⟨by rfl, by intro w hSw; go_simp⟩) hHeld ?_
            try simp only [Act.put, List.setIfInBounds_toArray, List.set_cons_zero, List.set_cons_succ]
            refine wpAnyH_done (by kernel_rfl) ?_ _
            refine NoPanic.normal ?_
            have HGp20 : Hid (w20.heap[w.heap.size]? = some (.cells (packC p) 28 (0, 0))) := Lib.hid hHeld
            have hne12 : (e12 == 0) = false := by simpa using HE12.out
            clear hHeld HGp HGp8 HGq8
            go_wp2_with ((with_reducible refine pk_load (w.heap.size) (p) ?x27 HGp20.out ?a27 ?b27 ?c27 ?d27); (case a27 => rfl); (case b27 => rfl); (case c27 => rfl))
            refine (cnread_t v kind s _ HS.out).mono ?_
            rintro e w21 ⟨ps20, ws20, hlp, hlw, rfl, hb⟩
            have HB21 := Lib.hid (ext_then' HB20.out hb)
            have HGp21 := Lib.hid (row_then HGp20.out hb)
            clear hb HB20 HGp20
            have HLP := Lib.hid hlp
            have HLW := Lib.hid hlw
            clear hlp hlw
            have HK2 : Hid (rdK v kind s ps20 ws20 = if rdE v kind s = 0 then (gotF v kind s).pk ps20 ws20 else zeroPk) := Lib.hid rfl
            have HP2 : Hid (rdP v kind s = if rdE v kind s = 0 then (gotF v kind s).lp else []) := Lib.hid rfl
            have HW2 : Hid (rdW v kind s = if rdE v kind s = 0 then (gotF v kind s).lw else []) := Lib.hid rfl
            have HBK : Hid (rdE v kind s = 0 → _) := Lib.hid fun h0 => read_back h0 HS.out ps20 ws20
            have HRK : Hid (∀ w' B B', LsAt w' B ps20 (gotF v kind s).lp → LsAt w' B' ws20 (gotF v kind s).lw → RPk w' ((gotF v kind s).pk ps20 ws20) (gotF v kind s).lw [] [] (gotF v kind s).lp) := Lib.hid fun w' B B' h1 h2 => got_RPk HS.out h1 h2
            generalize gotF v kind s = gt2 at *
            generalize rdE v kind s = e2 at *
            cases he2 : (e2 != 0)
            · have h0 : e2 = 0 := by simpa using he2
              subst h0
              rw [HK2.out, if_pos rfl]
              rw [HP2.out, if_pos rfl] at HLP
              rw [HW2.out, if_pos rfl] at HLW
              have HN1 := Lib.hid (ls_RP HLP.out).1
              have HN2 := Lib.hid (ls_RP HLW.out).1
              have HBB := Lib.hid (HBK.out rfl HN1.out HN2.out)
              clear HK2 HP2 HW2 HBK
              go_wp2_with (first | ((with_reducible refine pk_store w21.heap.size (gt2.pk ps20 ws20) ?x28 ?y28 _ (heap_alloc_new _ _) ?a28 ?b28 ?c28 ?d28 ?e28 ?f28); (case a28 => rfl); (case b28 => rfl); (case c28 => rfl); (case d28 => rfl); (case e28 => rfl)) | ((with_reducible refine pk_load (w.heap.size) (p) ?x29 HGp21.out ?a29 ?b29 ?c29 ?d29); (case a29 => rfl); (case b29 => rfl); (case c29 => rfl)))
              intro w22 hg hgr
              have HLW3 := Lib.hid (ls_store HLW.out hgr)
              have HLP3 := Lib.hid (ls_store HLP.out hgr)
              have HB22 := Lib.hid (below_store HB21.out hgr)
              have HGp22 := Lib.hid (row_store HGp21.out hgr)
              have HGy22 := Lib.hid hg
              clear hg hgr HB21 HGp21
              have HR3 := Lib.hid (HRK.out _ _ _ HLP3.out HLW3.out)
              go_wp2_with (first | ((with_reducible refine pk_load (w.heap.size) (p) ?x30 HGp22.out ?a30 ?b30 ?c30 ?d30); (case a30 => rfl); (case b30 => rfl); (case c30 => rfl)) | ((with_reducible refine pk_load (w21.heap.size) (gt2.pk ps20 ws20) ?x31 HGy22.out ?a31 ?b31 ?c31 ?d31); (case a31 => rfl); (case b31 => rfl); (case c31 => rfl)))
              refine (connB_t v (gt2.pk ps20 ws20) HR3.out.ok gt2.lw gt2.lp _ HR3.out.will HR3.out.props).mono ?_
              rintro e w23 ⟨rfl, hb⟩
              have HB23 := Lib.hid (ext_then' HB22.out hb)
              have HGp23 := Lib.hid (row_then HGp22.out hb)
              have HGy23 := Lib.hid (row_then HGy22.out hb)
              clear hb HB22 HGp22 HGy22
              rw [HBB.out.1]
              have cy : w23.cell? ⟨w21.heap.size, 0, none⟩ = some (.int .i64 kind) := by rw [← HBB.out.2.1]; exact pack_at HGy23.out 0 _ rfl
              go_wp2
              go_ret
              exact ⟨rfl, HB23.out⟩
            · have hne : ¬ e2 = 0 := by simpa using he2
              rw [HK2.out, if_neg hne]
              clear hne
              go_wp2_with (first | ((with_reducible refine pk_store w21.heap.size (zeroPk) ?x32 ?y32 _ (heap_alloc_new _ _) ?a32 ?b32 ?c32 ?d32 ?e32 ?f32); (case a32 => rfl); (case b32 => rfl); (case c32 => rfl); (case d32 => rfl); (case e32 => rfl)) | ((with_reducible refine pk_load (w.heap.size) (p) ?x33 HGp21.out ?a33 ?b33 ?c33 ?d33); (case a33 => rfl); (case b33 => rfl); (case c33 => rfl)))
              intro w22 hg hgr
              have HB22 := Lib.hid (below_store HB21.out hgr)
              have HGp22 := Lib.hid (row_store HGp21.out hgr)
              have HGz22 := Lib.hid hg
              clear hg hgr HB21 HGp21
              go_wp2_with (first | ((with_reducible refine pk_load (w.heap.size) (p) ?x34 HGp22.out ?a34 ?b34 ?c34 ?d34); (case a34 => rfl); (case b34 => rfl); (case c34 => rfl)) | ((with_reducible refine pk_load (w21.heap.size) (zeroPk) ?x35 HGz22.out ?a35 ?b35 ?c35 ?d35); (case a35 => rfl); (case b35 => rfl); (case c35 => rfl)))
              refine (none_t _).mono ?_
              rintro e w23 ⟨rfl, hb⟩
              have HB23 := Lib.hid (ext_then' HB22.out hb)
              have HGp23 := Lib.hid (row_then HGp22.out hb)
              have HGz23 := Lib.hid (row_then HGz22.out hb)
              clear hb HB22 HGp22 HGz22
              go_wp2
              go_ret
              exact ⟨rfl, HB23.out⟩
        · have HGA := Lib.hid (Array.getElem?_eq_some_iff.1 hHeld).1
          go_simp
          refine hK.out _ _ ((heap_alloc_old _ _ (Array.getElem?_eq_some_iff.1 hHeld).1).trans hHeld) (fun hHeld' => ?_)
          clear hK K hHeld
          have hHeld := hHeld'
          clear hHeld'
          try simp only [Act.put, List.setIfInBounds_toArray, List.set_cons_zero, List.set_cons_succ]
          generalize hwa : World.drew (World.alloc w8 _) = wa at hHeld ⊢
          have HZA : Hid (wa.heap[w8.drew.heap.size]? = some (.cells (packC zeroPk) 28 (0, 0))) := Lib.hid (by rw [← hwa]; exact heap_alloc_new w8 _)
          have HBA : Hid (Below w.heap.size w wa) := Lib.hid (by rw [← hwa]; exact (HBX0.out.alloc HBX0.out.size _).drew)
          clear hwa HBX
          have HBX := HBA
          clear HBA
          refine wpAnyH_ready (rs := [7]) (by kernel_rfl) (by simp) ?_
          refine AllReadyH.cons rfl (fun K hK => ?_) AllReadyH.nil
          go_simp
          go_at_call 15
          refine (pick_t cut (a.size : Int) _ (by have := HSZ.out.2; omega) (by have := HZ.out; omega)).mono ?_
          rintro e wq ⟨rfl, hwq⟩
          rw [hwq]
          clear hwq wq
          rw [HKN.out]
          try go_wp2_with fail
          refine hK.out _ _ (hHeld) (fun hHeld' => ?_)
          clear hK K hHeld
          have hHeld := hHeld'
          clear hHeld'
          try simp only [Act.put, List.setIfInBounds_toArray, List.set_cons_zero, List.set_cons_succ]
          refine wpAnyH_take (i := 8) (v := .string (a.extract 0 kn)) rfl (by kernel_rfl) (by kernel_rfl) (by kernel_rfl) (fun _ _ _ h => h) (Or.inl ⟨by rfl, by intro w' hSw; have h1 : (0 : Int) ≤ (kn : Int) := (by omega); have h2 : (kn : Int) ≤ (a.size : Int) := (by have := HKL.out; omega); go_simp⟩) hHeld ?_
          try simp only [Act.put, List.setIfInBounds_toArray, List.set_cons_zero, List.set_cons_succ]
          refine wpAnyH_ready (rs := [9]) (by kernel_rfl) (by simp) ?_
          refine AllReadyH.cons rfl (fun K hK => ?_) AllReadyH.nil
          go_simp
          go_at_call 13
          refine (cnread_t v p.kind (a.extract 0 kn) _ HEZ.out).mono ?_
          rintro e w12 ⟨ps2, ws2, hlp2, hlw2, rfl, hb12⟩
          have hz := HC.out hlp2.2 hlw2.2
          have hq : rdK v p.kind (a.extract 0 kn) ps2 ws2 = zeroPk := by unfold rdK; rw [if_neg hz]
          rw [hq]
          have HE12 := Lib.hid hz
          have HB12 := Lib.hid (ext_then' HBX.out hb12)
          have HZA' := Lib.hid (row_then HZA.out hb12)
          clear HZA
          have HZA := HZA'
          clear HZA'
          clear hq hz hlp2 hlw2 HC HBX
          have HBX := HB12
          clear HB12
          generalize rdE v p.kind (a.extract 0 kn) = e12 at *
          try go_wp2_with fail
          refine hK.out _ _ (row_then hHeld hb12) (fun hHeld' => ?_)
          clear hK K hHeld
          have hHeld := hHeld'
          clear hHeld'
          try simp only [Act.put, List.setIfInBounds_toArray, List.set_cons_zero, List.set_cons_succ]
          clear hb12
          refine wpAnyH_take (i := 10) (v := .tuple #[.agg (packC zeroPk), .int .i64 e12]) rfl (by kernel_rfl) (by kernel_rfl) (by kernel_rfl) (fun _ _ _ h => h) (Or.inl ⟨by rfl, by intro w hSw; go_simp⟩) hHeld ?_
          try simp only [Act.put, List.setIfInBounds_toArray, List.set_cons_zero, List.set_cons_succ]
          refine wpAnyH_take (i := 11) (v := .agg (packC zeroPk)) rfl (by kernel_rfl) (by kernel_rfl) (by kernel_rfl) (fun _ _ _ h => h) (Or.inl ⟨by rfl, by intro w hSw; go_simp⟩) hHeld ?_
          try simp only [Act.put, List.setIfInBounds_toArray, List.set_cons_zero, List.set_cons_succ]
          refine wpAnyH_take (i := 12) (v := .int .i64 e12) rfl (by kernel_rfl) (by kernel_rfl) (by kernel_rfl) (fun _ _ _ h => h) (Or.inl ⟨by rfl, by intro w hSw; go_simp⟩) hHeld ?_
          try simp only [Act.put, List.setIfInBounds_toArray, List.set_cons_zero, List.set_cons_succ]
          refine wpAnyH_ready (rs := [14]) (by kernel_rfl) (by simp) ?_
          refine AllReadyH.cons rfl (fun K hK => ?_) AllReadyH.nil
          rw [if_pos (by rfl)]
          refine wp_store_row _ _ _ rfl w8.drew.heap.size (packC zeroPk) rfl rfl _ _ HZA.out (si_packC zeroPk) rfl (by simp [packC, Value.oneCell']) ?_
          have hgs : w12.grownBy (w12.setRow w8.drew.heap.size (packC zeroPk)) (some w8.drew.heap.size) := ⟨rfl, rfl, rfl, by simp, fun k _ hk => setRow_other _ w8.drew.heap.size k _ (fun e => hk (by rw [e]))⟩
          generalize hw20 : World.setRow w12 _ _ = w20 at hgs ⊢
          have HB20 := Lib.hid (grown_below HBX.out hgs (Nat.le_of_lt HGA.out))
          refine hK.out _ _ (row_grown hHeld hgs (Nat.ne_of_lt HGA.out)) (fun hHeld' => ?_)
          clear hK K hHeld hgs HBX HZA HGA hw20
          have hHeld := hHeld'
          clear hHeld'
          try simp only [Act.put, List.setIfInBounds_toArray, List.set_cons_zero, List.set_cons_succ]
          refine wpAnyH_take (i := 15) (v := .int .i64 e12) rfl (by kernel_rfl) (by kernel_rfl) (by kernel_rfl) (fun _ _ _ h => h) (Or.inl ⟨by rfl, by intro w hSw; go_simp⟩) hHeld ?_
          try simp only [Act.put, List.setIfInBounds_toArray, List.set_cons_zero, List.set_cons_succ]
          refine wpAnyH_done (by kernel_rfl) ?_ _
          refine NoPanic.normal ?_
          have HGp20 : Hid (w20.heap[w.heap.size]? = some (.cells (packC p) 28 (0, 0))) := Lib.hid hHeld
          have hne12 : (e12 == 0) = false := by simpa using HE12.out
          clear hHeld HGp HGp8 HGq8
          go_wp2_with ((with_reducible refine pk_load (w.heap.size) (p) ?x36 HGp20.out ?a36 ?b36 ?c36 ?d36); (case a36 => rfl); (case b36 => rfl); (case c36 => rfl))
          refine (cnread_t v kind s _ HS.out).mono ?_
          rintro e w21 ⟨ps20, ws20, hlp, hlw, rfl, hb⟩
          have HB21 := Lib.hid (ext_then' HB20.out hb)
          have HGp21 := Lib.hid (row_then HGp20.out hb)
          clear hb HB20 HGp20
          have HLP := Lib.hid hlp
          have HLW := Lib.hid hlw
          clear hlp hlw
          have HK2 : Hid (rdK v kind s ps20 ws20 = if rdE v kind s = 0 then (gotF v kind s).pk ps20 ws20 else zeroPk) := Lib.hid rfl
          have HP2 : Hid (rdP v kind s = if rdE v kind s = 0 then (gotF v kind s).lp else []) := Lib.hid rfl
          have HW2 : Hid (rdW v kind s = if rdE v kind s = 0 then (gotF v kind s).lw else []) := Lib.hid rfl
          have HBK : Hid (rdE v kind s = 0 → _) := Lib.hid fun h0 => read_back h0 HS.out ps20 ws20
          have HRK : Hid (∀ w' B B', LsAt w' B ps20 (gotF v kind s).lp → LsAt w' B' ws20 (gotF v kind s).lw → RPk w' ((gotF v kind s).pk ps20 ws20) (gotF v kind s).lw [] [] (gotF v kind s).lp) := Lib.hid fun w' B B' h1 h2 => got_RPk HS.out h1 h2
          generalize gotF v kind s = gt2 at *
          generalize rdE v kind s = e2 at *
          cases he2 : (e2 != 0)
          · have h0 : e2 = 0 := by simpa using he2
            subst h0
            rw [HK2.out, if_pos rfl]
            rw [HP2.out, if_pos rfl] at HLP
            rw [HW2.out, if_pos rfl] at HLW
            have HN1 := Lib.hid (ls_RP HLP.out).1
            have HN2 := Lib.hid (ls_RP HLW.out).1
            have HBB := Lib.hid (HBK.out rfl HN1.out HN2.out)
            clear HK2 HP2 HW2 HBK
            go_wp2_with (first | ((with_reducible refine pk_store w21.heap.size (gt2.pk ps20 ws20) ?x37 ?y37 _ (heap_alloc_new _ _) ?a37 ?b37 ?c37 ?d37 ?e37 ?f37); (case a37 => rfl); (case b37 => rfl); (case c37 => rfl); (case d37 => rfl); (case e37 => rfl)) | ((with_reducible refine pk_load (w.heap.size) (p) ?x38 HGp21.out ?a38 ?b38 ?c38 ?d38); (case a38 => rfl); (case b38 => rfl); (case c38 => rfl)))
            intro w22 hg hgr
            have HLW3 := Lib.hid (ls_store HLW.out hgr)
            have HLP3 := Lib.hid (ls_store HLP.out hgr)
            have HB22 := Lib.hid (below_store HB21.out hgr)
            have HGp22 := Lib.hid (row_store HGp21.out hgr)
            have HGy22 := Lib.hid hg
            clear hg hgr HB21 HGp21
            have HR3 := Lib.hid (HRK.out _ _ _ HLP3.out HLW3.out)
            go_wp2_with (first | ((with_reducible refine pk_load (w.heap.size) (p) ?x39 HGp22.out ?a39 ?b39 ?c39 ?d39); (case a39 => rfl); (case b39 => rfl); (case c39 => rfl)) | ((with_reducible refine pk_load (w21.heap.size) (gt2.pk ps20 ws20) ?x40 HGy22.out ?a40 ?b40 ?c40 ?d40); (case a40 => rfl); (case b40 => rfl); (case c40 => rfl)))
            refine (connB_t v (gt2.pk ps20 ws20) HR3.out.ok gt2.lw gt2.lp _ HR3.out.will HR3.out.props).mono ?_
            rintro e w23 ⟨rfl, hb⟩
            have HB23 := Lib.hid (ext_then' HB22.out hb)
            have HGp23 := Lib.hid (row_then HGp22.out hb)
            have HGy23 := Lib.hid (row_then HGy22.out hb)
            clear hb HB22 HGp22 HGy22
            rw [HBB.out.1]
            have cy : w23.cell? ⟨w21.heap.size, 0, none⟩ = some (.int .i64 kind) := by rw [← HBB.out.2.1]; exact pack_at HGy23.out 0 _ rfl
            go_wp2
            go_ret
            exact ⟨rfl, HB23.out⟩
          · have hne : ¬ e2 = 0 := by simpa using he2
            rw [HK2.out, if_neg hne]
            clear hne
            go_wp2_with (first | ((with_reducible refine pk_store w21.heap.size (zeroPk) ?x41 ?y41 _ (heap_alloc_new _ _) ?a41 ?b41 ?c41 ?d41 ?e41 ?f41); (case a41 => rfl); (case b41 => rfl); (case c41 => rfl); (case d41 => rfl); (case e41 => rfl)) | ((with_reducible refine pk_load (w.heap.size) (p) ?x42 HGp21.out ?a42 ?b42 ?c42 ?d42); (case a42 => rfl); (case b42 => rfl); (case c42 => rfl)))
            intro w22 hg hgr
            have HB22 := Lib.hid (below_store HB21.out hgr)
            have HGp22 := Lib.hid (row_store HGp21.out hgr)
            have HGz22 := Lib.hid hg
            clear hg hgr HB21 HGp21
            go_wp2_with (first | ((with_reducible refine pk_load (w.heap.size) (p) ?x43 HGp22.out ?a43 ?b43 ?c43 ?d43); (case a43 => rfl); (case b43 => rfl); (case c43 => rfl)) | ((with_reducible refine pk_load (w21.heap.size) (zeroPk) ?x44 HGz22.out ?a44 ?b44 ?c44 ?d44); (case a44 => rfl); (case b44 => rfl); (case c44 => rfl)))
            refine (none_t _).mono ?_
            rintro e w23 ⟨rfl, hb⟩
            have HB23 := Lib.hid (ext_then' HB22.out hb)
            have HGp23 := Lib.hid (row_then HGp22.out hb)
            have HGz23 := Lib.hid (row_then HGz22.out hb)
            clear hb HB22 HGp22 HGz22
            go_wp2
            go_ret
            exact ⟨rfl, HB23.out⟩
    · go_wp2
      go_ret
      exact ⟨rfl, HB3.out⟩
end Go.Proofs.YtjlkhihlbdokpaaGreat
