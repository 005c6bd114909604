/- connect.put, tail, data; Body of a CONNACK; lives of chapter 8. -/
import Derived.Test.YtnbgmpfldoaodaaConnV
namespace Go.Proofs.Ytnbgmpfldoaodaa
open Go.RowKit Go.Sort
set_option maxHeartbeats 2000000
set_option linter.unusedVariables false
set_option linter.unusedSimpArgs false
theorem ext_alloc {w w1 w2 : World} {o : Obj} (h : Below w.heap.size w w1) (k : Below (w1.alloc o).heap.size (w1.alloc o) w2) : Below w.heap.size w w2 := ext_then' (h.alloc h.size o) k
theorem row_alloc {a b : World} {g : Nat} {o o' : Obj} (h : a.heap[g]? = some o) (k : Below (a.alloc o').heap.size (a.alloc o') b) : b.heap[g]? = some o :=
  row_then ((heap_alloc_old _ _ (Array.getElem?_eq_some_iff.1 h).1).trans h) k
def catL : List ByteArray → ByteArray
  | [] => ⟨#[]⟩
  | a :: r => a ++ catL r
theorem catL_data : ∀ xs : List ByteArray, (catL xs).data.toList = (xs.map (·.data.toList)).flatten
  | [] => rfl
  | a :: r => by rw [catL, ByteArray.data_append, Array.toList_append, catL_data r]; rfl
theorem catL_join (xs : List ByteArray) : (⟨(Lib.join (xs.map (·.data.toList)) (⟨#[]⟩ : ByteArray).data.toList).toArray⟩ : ByteArray) = catL xs := by
  apply ByteArray.ext
  apply Array.ext'
  rw [catL_data]
  cases xs with
  | nil => rfl
  | cons a r =>
    rw [List.map_cons, Lib.join_cons]
    simp [Lib.joinTail, Function.comp_def]
theorem join_len (xs : List ByteArray) : (Lib.join (xs.map (·.data.toList)) (⟨#[]⟩ : ByteArray).data.toList).length = (catL xs).size := by
  rw [← catL_join]; simp [ByteArray.size]
set_option maxRecDepth 100000 in
theorem put_new (w : World) (xs : List ByteArray) (n : Nat) (hn : xs.length = n) (T : TypeId) (C : Array Value) (hC : C = (xs.map Value.string).toArray) (h0 : 0 < n) (hn2 : n ≤ 140737488355328) (hsz : (catL xs).size ≤ 140737488355328) :
    Calls Try.prog 58 #[.slice (some ⟨w.heap.size, 0, none⟩) n n] (w.alloc (.cells C T)) fun e w' => e = .returned (.string (catL xs)) ∧ Below (w.alloc (.cells C T)).heap.size (w.alloc (.cells C T)) w' := by
  have hj := Try.strings_Join w.heap.size 0 n xs ⟨#[]⟩ (w.alloc (.cells C T)) (fun j x hx => by
    rw [cell_of_row _ _ _ _ _ _ (heap_alloc_new w _), hC, Nat.zero_add]
    simp [hx]) (by simp) (by omega) (by omega) (by rw [join_len]; exact hsz)
  rw [catL_join, hn] at hj
  have HJ := Lib.hid hj
  clear hj hC hsz hn
  go_enter Try.func58, Try.ntmps58
  go_wp2_with fail
  refine HJ.out.mono ?_
  rintro e w1 ⟨rfl, hb⟩
  have HB := Lib.hid hb
  clear hb
  go_wp2
  go_ret
  exact ⟨rfl, HB.out⟩
def tailS (v kind : Int) (l : List Prp) : ByteArray := if (v == 4) = true then ⟨#[]⟩ else (bytesF kind l).1
set_option maxRecDepth 100000 in
theorem tail_t (v kind : Int) (A : Option Addr) (n cp : Nat) (l : List Prp) (HT : Hid (l ≠ [] → TopicOK)) (w : World) (hr : RP w A n l) :
    Calls Try.prog 57 #[.int .i64 v, .int .i64 kind, .slice A n cp] w fun e w' => e = .returned (.string (tailS v kind l)) ∧ Below w.heap.size w w' := by
  have HP := Lib.hid hr
  clear hr
  have HB1 := Lib.hid (Below.refl w.heap.size w)
  go_enter Try.func57, Try.ntmps57
  cases hv : (v == 4)
  · go_wp2_with fail
    refine (bytes_t kind A n cp l HT _ HP.out).mono ?_
    rintro e w2 ⟨rfl, hb⟩
    have HB2 := Lib.hid (ext_then' HB1.out hb)
    clear hb HB1
    have HE : Hid (tailS v kind l = (bytesF kind l).1) := Lib.hid (by simp only [tailS, hv, if_true, if_false, Bool.false_eq_true])
    go_wp2
    go_ret
    exact ⟨by rw [HE.out]; rfl, HB2.out⟩
  · have HE : Hid (tailS v kind l = ⟨#[]⟩) := Lib.hid (by simp only [tailS, hv, if_true, if_false, Bool.false_eq_true])
    go_wp2
    go_ret
    exact ⟨by rw [HE.out]; rfl, HB1.out⟩
theorem tailS_size (v kind : Int) (l : List Prp) : (tailS v kind l).size ≤ 131075004 := by
  unfold tailS
  split
  · exact Nat.zero_le _
  · exact bytesF_size kind l
set_option maxRecDepth 100000 in
theorem data_t (s : ByteArray) (w : World) (h : s.size ≤ 65535) : Calls Try.prog 60 #[.string s] w fun e w' => e = .returned (.string (framedS s)) ∧ Below w.heap.size w w' := by
  go_enter Try.func60, Try.ntmps60
  go_wp2_with fail
  refine (binary_t s _ h).mono ?_
  rintro e w1 ⟨rfl, hb⟩
  have HB := Lib.hid hb
  clear hb
  go_wp2
  go_ret
  exact ⟨rfl, HB.out⟩
def ackFirst (p : Pk) : ByteArray := if p.session = true then ⟨#[1]⟩ else ⟨#[0]⟩
def nameS : ByteArray := ⟨#[0, 4, 77, 81, 84, 84]⟩
def b2i (b : Bool) (n : Int) : Int := if b = true then n else 0
def flagsF (p : Pk) : Int := if (p.kind == 1) = true then b2i p.hasUser 128 + b2i p.hasPass 64 + b2i p.wRetain 32 + p.wQoS % 4 * 8 + b2i p.hasWill 4 + b2i p.clean 2 else 0
def con0 (v : Int) (p : Pk) (lp : List Prp) : ByteArray := catL [nameS, be1 v, be1 (flagsF p), be2 p.keep, tailS v p.kind lp, framedS p.client]
def con1 (v : Int) (p : Pk) (lw lp : List Prp) : ByteArray := if p.hasWill = true then catL [con0 v p lp, tailS v 16 lw, framedS p.wTopic, framedS p.wPayload] else con0 v p lp
def con2 (v : Int) (p : Pk) (lw lp : List Prp) : ByteArray := if p.hasUser = true then catL [con1 v p lw lp, framedS p.user] else con1 v p lw lp
def con3 (v : Int) (p : Pk) (lw lp : List Prp) : ByteArray := if p.hasPass = true then catL [con2 v p lw lp, framedS p.pass] else con2 v p lw lp
def connB (v : Int) (p : Pk) (lw lp : List Prp) : ByteArray × Int :=
  if (connV v p lw lp != 0) = true then (⟨#[]⟩, connV v p lw lp)
  else if (p.kind == 2) = true then (catL [ackFirst p, be1 p.code, tailS v p.kind lp], 0)
  else (con3 v p lw lp, 0)
theorem connV_code {v : Int} {p : Pk} {lw lp : List Prp} (hk : (p.kind == 2) = true) (h : (connV v p lw lp != 0) = false) : 0 ≤ p.code ∧ p.code < 256 := by
  have h0 : connV v p lw lp = 0 := by simpa using h
  have hr : rangesB v p = true := by
    unfold connV at h0
    repeat' split at h0
    all_goals first | assumption | omega
  unfold rangesB at hr
  have hm : returnB p.code = true ∨ mayB p.kind p.code = true := by
    rw [hk] at hr
    simp only [if_true] at hr
    split at hr
    · split at hr
      · cases hr
      · unfold codeOK at hr; split at hr
        · rename_i h; exact .inl h
        · cases hr
    · unfold codeOK at hr; split at hr
      · rename_i h; exact .inr h
      · cases hr
  rcases hm with h | h
  · unfold returnB at h
    rw [Bool.and_eq_true] at h
    have h1 : 0 ≤ p.code := by simpa using h.1
    have h2 : p.code ≤ 5 := by simpa using h.2
    omega
  · exact mayB_range' h
set_option maxRecDepth 100000 in
theorem connB_ack (v : Int) (p : Pk) (hk : (p.kind == 2) = true) (hok : PkOK p) (lw lp : List Prp) (HTw : Hid (lw ≠ [] → TopicOK)) (HTp : Hid (lp ≠ [] → TopicOK)) (w : World) (hrw : RP w p.wProps.A p.wProps.n lw) (hrp : RP w p.props.A p.props.n lp) :
    Calls Try.prog 42 #[.int .i64 v, .agg (packC p)] w fun e w' => e = .returned (.tuple #[.string (connB v p lw lp).1, .int .i64 (connB v p lw lp).2]) ∧ Below w.heap.size w w' := by
  have HW := Lib.hid hrw
  have HP := Lib.hid hrp
  have HOK := Lib.hid hok
  clear hrw hrp hok
  have HB1 := Lib.hid ((Below.refl w.heap.size w).alloc (Nat.le_refl _) (.cells (packC p) 39))
  have HGp1 := Lib.hid (heap_alloc_new w (.cells (packC p) 39))
  go_enter Try.func42, Try.ntmps42
  go_wp2_with ((with_reducible refine pk_load (w.heap.size) (p) ?x1 HGp1.out ?a1 ?b1 ?c1 ?d1); (case a1 => rfl); (case b1 => rfl); (case c1 => rfl))
  refine (connV_t v p HOK.out lw lp HTw HTp _ (HW.out.below HB1.out) (HP.out.below HB1.out)).mono ?_
  rintro e w2 ⟨rfl, hb⟩
  have HB2 := Lib.hid (ext_then' HB1.out hb)
  have HGp2 := Lib.hid (row_then HGp1.out hb)
  clear hb HB1 HGp1
  have cp_0 : w2.cell? ⟨w.heap.size, 0, none⟩ = some (.int .i64 (p.kind)) := pack_at HGp2.out 0 _ rfl
  have cp_20 : w2.cell? ⟨w.heap.size, 20, none⟩ = some (.bool (p.session)) := pack_at HGp2.out 20 _ rfl
  have cp_21 : w2.cell? ⟨w.heap.size, 21, none⟩ = some (.int .i64 (p.code)) := pack_at HGp2.out 21 _ rfl
  have cp_24 : w2.cell? ⟨w.heap.size, 24, none⟩ = some (.slice p.props.A p.props.n p.props.c) := pack_at HGp2.out 24 _ rfl
  cases he : (connV v p lw lp != 0)
  · have hcr := connV_code hk he
    obtain ⟨r0, r1⟩ := hcr
    go_wp2_with ((with_reducible refine pk_load (w.heap.size) (p) ?x2 HGp2.out ?a2 ?b2 ?c2 ?d2); (case a2 => rfl); (case b2 => rfl); (case c2 => rfl))
    refine (tail_t v p.kind p.props.A p.props.n p.props.c lp HTp _ (HP.out.below HB2.out)).mono ?_
    rintro e w3 ⟨rfl, hb⟩
    have HB3 := Lib.hid (ext_then' HB2.out hb)
    have HGp3 := Lib.hid (row_then HGp2.out hb)
    clear hb HB2 HGp2
    clear cp_0 cp_20 cp_21 cp_24
    have cp_0 : w3.cell? ⟨w.heap.size, 0, none⟩ = some (.int .i64 (p.kind)) := pack_at HGp3.out 0 _ rfl
    have cp_20 : w3.cell? ⟨w.heap.size, 20, none⟩ = some (.bool (p.session)) := pack_at HGp3.out 20 _ rfl
    have cp_21 : w3.cell? ⟨w.heap.size, 21, none⟩ = some (.int .i64 (p.code)) := pack_at HGp3.out 21 _ rfl
    have cp_24 : w3.cell? ⟨w.heap.size, 24, none⟩ = some (.slice p.props.A p.props.n p.props.c) := pack_at HGp3.out 24 _ rfl
    have hts := tailS_size v p.kind lp
    have hz1 : (be1 p.code).size = 1 := by simp [be1, strOfNums_size]
    cases hs : p.session
    · go_wp2_with ((with_reducible refine pk_load (w.heap.size) (p) ?x3 HGp3.out ?a3 ?b3 ?c3 ?d3); (case a3 => rfl); (case b3 => rfl); (case c3 => rfl))
      refine (put1_t p.code _ r0 (by omega)).mono ?_
      rintro e w4 ⟨rfl, hb⟩
      have HB4 := Lib.hid (ext_then' HB3.out hb)
      have HGp4 := Lib.hid (row_then HGp3.out hb)
      clear hb HB3 HGp3
      clear cp_0 cp_20 cp_21 cp_24
      have cp_0 : w4.cell? ⟨w.heap.size, 0, none⟩ = some (.int .i64 (p.kind)) := pack_at HGp4.out 0 _ rfl
      have cp_20 : w4.cell? ⟨w.heap.size, 20, none⟩ = some (.bool (p.session)) := pack_at HGp4.out 20 _ rfl
      have cp_21 : w4.cell? ⟨w.heap.size, 21, none⟩ = some (.int .i64 (p.code)) := pack_at HGp4.out 21 _ rfl
      have cp_24 : w4.cell? ⟨w.heap.size, 24, none⟩ = some (.slice p.props.A p.props.n p.props.c) := pack_at HGp4.out 24 _ rfl
      go_wp2_with ((with_reducible refine pk_load (w.heap.size) (p) ?x4 HGp4.out ?a4 ?b4 ?c4 ?d4); (case a4 => rfl); (case b4 => rfl); (case c4 => rfl))
      refine (put_new _ [⟨#[0]⟩, be1 p.code, tailS v p.kind lp] 3 rfl _ _ rfl (by omega) (by omega) (by simp only [catL, ByteArray.size_append, hz1]; have e1 : (⟨#[0]⟩ : ByteArray).size = 1 := rfl; have e0 : (⟨#[]⟩ : ByteArray).size = 0 := rfl; rw [e1, e0]; omega)).mono ?_
      rintro e w5 ⟨rfl, hb⟩
      have HB5 := Lib.hid (ext_alloc HB4.out hb)
      have HGp5 := Lib.hid (row_alloc HGp4.out hb)
      clear hb HB4 HGp4
      clear cp_0 cp_20 cp_21 cp_24
      have cp_0 : w5.cell? ⟨w.heap.size, 0, none⟩ = some (.int .i64 (p.kind)) := pack_at HGp5.out 0 _ rfl
      have cp_20 : w5.cell? ⟨w.heap.size, 20, none⟩ = some (.bool (p.session)) := pack_at HGp5.out 20 _ rfl
      have cp_21 : w5.cell? ⟨w.heap.size, 21, none⟩ = some (.int .i64 (p.code)) := pack_at HGp5.out 21 _ rfl
      have cp_24 : w5.cell? ⟨w.heap.size, 24, none⟩ = some (.slice p.props.A p.props.n p.props.c) := pack_at HGp5.out 24 _ rfl
      have HE : Hid (connB v p lw lp = (catL [⟨#[0]⟩, be1 p.code, tailS v p.kind lp], 0)) := Lib.hid (by simp only [connB, ackFirst, he, hk, hs, if_true, if_false, Bool.false_eq_true])
      go_wp2
      go_ret2
      exact ⟨by rw [HE.out]; rfl, HB5.out⟩
    · go_wp2_with ((with_reducible refine pk_load (w.heap.size) (p) ?x5 HGp3.out ?a5 ?b5 ?c5 ?d5); (case a5 => rfl); (case b5 => rfl); (case c5 => rfl))
      refine (put1_t p.code _ r0 (by omega)).mono ?_
      rintro e w4 ⟨rfl, hb⟩
      have HB4 := Lib.hid (ext_then' HB3.out hb)
      have HGp4 := Lib.hid (row_then HGp3.out hb)
      clear hb HB3 HGp3
      clear cp_0 cp_20 cp_21 cp_24
      have cp_0 : w4.cell? ⟨w.heap.size, 0, none⟩ = some (.int .i64 (p.kind)) := pack_at HGp4.out 0 _ rfl
      have cp_20 : w4.cell? ⟨w.heap.size, 20, none⟩ = some (.bool (p.session)) := pack_at HGp4.out 20 _ rfl
      have cp_21 : w4.cell? ⟨w.heap.size, 21, none⟩ = some (.int .i64 (p.code)) := pack_at HGp4.out 21 _ rfl
      have cp_24 : w4.cell? ⟨w.heap.size, 24, none⟩ = some (.slice p.props.A p.props.n p.props.c) := pack_at HGp4.out 24 _ rfl
      go_wp2_with ((with_reducible refine pk_load (w.heap.size) (p) ?x6 HGp4.out ?a6 ?b6 ?c6 ?d6); (case a6 => rfl); (case b6 => rfl); (case c6 => rfl))
      refine (put_new _ [⟨#[1]⟩, be1 p.code, tailS v p.kind lp] 3 rfl _ _ rfl (by omega) (by omega) (by simp only [catL, ByteArray.size_append, hz1]; have e1 : (⟨#[1]⟩ : ByteArray).size = 1 := rfl; have e0 : (⟨#[]⟩ : ByteArray).size = 0 := rfl; rw [e1, e0]; omega)).mono ?_
      rintro e w5 ⟨rfl, hb⟩
      have HB5 := Lib.hid (ext_alloc HB4.out hb)
      have HGp5 := Lib.hid (row_alloc HGp4.out hb)
      clear hb HB4 HGp4
      clear cp_0 cp_20 cp_21 cp_24
      have cp_0 : w5.cell? ⟨w.heap.size, 0, none⟩ = some (.int .i64 (p.kind)) := pack_at HGp5.out 0 _ rfl
      have cp_20 : w5.cell? ⟨w.heap.size, 20, none⟩ = some (.bool (p.session)) := pack_at HGp5.out 20 _ rfl
      have cp_21 : w5.cell? ⟨w.heap.size, 21, none⟩ = some (.int .i64 (p.code)) := pack_at HGp5.out 21 _ rfl
      have cp_24 : w5.cell? ⟨w.heap.size, 24, none⟩ = some (.slice p.props.A p.props.n p.props.c) := pack_at HGp5.out 24 _ rfl
      have HE : Hid (connB v p lw lp = (catL [⟨#[1]⟩, be1 p.code, tailS v p.kind lp], 0)) := Lib.hid (by simp only [connB, ackFirst, he, hk, hs, if_true, if_false, Bool.false_eq_true])
      go_wp2
      go_ret2
      exact ⟨by rw [HE.out]; rfl, HB5.out⟩
  · have HE : Hid (connB v p lw lp = (⟨#[]⟩, connV v p lw lp)) := Lib.hid (by simp only [connB, ackFirst, he, if_true, if_false, Bool.false_eq_true])
    go_wp2
    go_ret2
    exact ⟨by rw [HE.out]; rfl, HB2.out⟩
def ansPk (s : Bool) (c : Int) : Pk := { zeroPk with kind := 2, session := s, code := c }
theorem ans_ok {s : Bool} {c : Int} (hc : -9223372036854775808 ≤ c ∧ c ≤ 9223372036854775807) : PkOK (ansPk s c) :=
  ⟨by show (-9223372036854775808 : Int) ≤ 2 ∧ (2 : Int) ≤ 9223372036854775807; decide, zero_ok.qos, zero_ok.id, zero_ok.keep, zero_ok.wQoS, hc, zero_ok.topic, zero_ok.payload, zero_ok.client, zero_ok.user, zero_ok.pass, zero_ok.wTopic, zero_ok.wPayload, zero_ok.wN, zero_ok.pN⟩
theorem same_ans (s : Bool) (c : Int) : sameEq (ansPk s c) (aloneQ (ansPk s c)) = true := by
  simp [sameEq, bareEq, willEq, aloneQ, ansPk, zeroPk, zeroSl]
theorem sizes_ans (s : Bool) (c : Int) : sizesC (ansPk s c) [] [] = 0 := by
  unfold sizesC
  change (if decide ((65535 : Int) < ((0 : Nat) : Int)) = true then 2 else if decide ((65535 : Int) < ((0 : Nat) : Int)) = true then 2 else if ((bytesF 2 []).2 != 0) = true then (bytesF 2 []).2 else (bytesF 16 []).2) = _
  rw [bytes_none, bytes_none]
  rfl
theorem valid_empty : validU ⟨#[]⟩ = true := by decide
theorem connV_ans {v : Int} (hv : knownB v = true) (s : Bool) (c : Int) : connV v (ansPk s c) [] [] = if rangesB v (ansPk s c) = true then 0 else 2 := by
  unfold connV
  rw [hv, same_ans]
  change (if true = true then (if oursB 2 = true then (if true = true then (if rangesB v (ansPk s c) = true then (if validU ⟨#[]⟩ = true then (if validU ⟨#[]⟩ = true then (if false = true then _ else sizesC (ansPk s c) [] []) else 6) else 6) else 2) else 2) else 2) else 2) = _
  rw [valid_empty, sizes_ans]
  rfl
theorem ranges_ans4 (s : Bool) (c : Int) : rangesB 4 (ansPk s c) = codeOK (returnB c) (ansPk s c) := rfl
theorem ranges_ans5 (s : Bool) (c : Int) : rangesB 5 (ansPk s c) = codeOK (mayB 2 c) (ansPk s c) := rfl
theorem ansB_t (v : Int) (s : Bool) (c : Int) (hc : -9223372036854775808 ≤ c ∧ c ≤ 9223372036854775807) (w : World) : Calls Try.prog 42 #[.int .i64 v, .agg (packC (ansPk s c))] w fun e w' => e = .returned (.tuple #[.string (connB v (ansPk s c) [] []).1, .int .i64 (connB v (ansPk s c) [] []).2]) ∧ Below w.heap.size w w' :=
  connB_ack v (ansPk s c) rfl (ans_ok hc) [] [] noTopic noTopic w (nil_RP w) (nil_RP w)
theorem connB_ans {v : Int} {s : Bool} {c : Int} (hv : knownB v = true) (h : rangesB v (ansPk s c) = true) : connB v (ansPk s c) [] [] = (catL [ackFirst (ansPk s c), be1 c, tailS v 2 []], 0) := by
  unfold connB
  rw [connV_ans hv, h]
  rfl
theorem connB_ansN {v : Int} {s : Bool} {c : Int} (hv : knownB v = true) (h : rangesB v (ansPk s c) = false) : connB v (ansPk s c) [] [] = (⟨#[]⟩, 2) := by
  unfold connB
  rw [connV_ans hv, h]
  rfl
theorem clive : connB 4 (ansPk false 5) [] [] = (⟨#[0, 5]⟩, 0) := by
  rw [connB_ans (by decide) (by decide)]; rfl
set_option maxRecDepth 100000 in
theorem lives08_t (w : World) : Calls Try.prog 41 #[] w fun e w' => e = .returned (.bool true) ∧ Below w.heap.size w w' := by
  have HB0 := Lib.hid (Below.refl w.heap.size w)
  go_enter Try.func41, Try.ntmps41
  go_wp2_with fail
  refine (ansB_t 4 false 5 (by omega) _).mono ?_
  rintro e w1 ⟨rfl, hb⟩
  have HB1 := Lib.hid (ext_then' (w := w) (by repeat (first | exact HB0.out | refine Below.drew ?_ | (refine Below.alloc ?_ (by first | exact (HB0.out).size | (simp; done) | (have := (HB0.out).size; simp; omega)) _) | (refine Below.setCell ?_ (by first | (simp; done) | (have := (HB0.out).size; simp; omega)) _))) hb)
  clear hb HB0
  rw [clive]
  go_wp2
  go_ret
  exact ⟨rfl, (by repeat (first | exact HB1.out | refine Below.drew ?_ | (refine Below.alloc ?_ (by first | exact (HB1.out).size | (simp; done) | (have := (HB1.out).size; simp; omega)) _) | (refine Below.setCell ?_ (by first | (simp; done) | (have := (HB1.out).size; simp; omega)) _)))⟩
end Go.Proofs.Ytnbgmpfldoaodaa
