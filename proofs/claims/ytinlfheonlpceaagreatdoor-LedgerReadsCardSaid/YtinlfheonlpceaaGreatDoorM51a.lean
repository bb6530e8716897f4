/- Ledgers that a function has made; the examples' resources and attempts (chapter 07). -/
import Derived.Test.YtinlfheonlpceaaGreatDoorL0c
import Derived.Test.YtinlfheonlpceaaGreatDoorL1a
import Derived.Test.YtinlfheonlpceaaGreatDoorL0b
import Derived.Deep.DeepCutAuto
namespace Go.Proofs.YtinlfheonlpceaaGreatDoor
open Go.RowKit
set_option linter.unusedVariables false
set_option linter.unusedSimpArgs false
set_option maxHeartbeats 16000000
set_option maxRecDepth 20000
/-- A ledger made behind w. -/
structure LedW (w W : World) (F : Nat → Prop) (p : Nat) (l : List AtR) : Prop where
  led : Led W F p l
  low : ∀ b, F b → w.heap.size ≤ b
theorem LedW.on {w W W' : World} {F : Nat → Prop} {p : Nat} {l : List AtR} (h : LedW w W F p l) (hb : Below W.heap.size W W') : LedW w W' F p l := ⟨h.led.on hb, h.low⟩
theorem LedW.drew {w W : World} {F : Nat → Prop} {p : Nat} {l : List AtR} (h : LedW w W F p l) : LedW w W.drew F p l := h.on (Below.refl _ _).drew
theorem LedW.not_old {w W : World} {F : Nat → Prop} {p : Nat} {l : List AtR} (h : LedW w W F p l) {x : Nat} (hx : x < w.heap.size) : ¬ F x := fun hf => by have := h.low x hf; omega
theorem LedW.not_new {w W : World} {F : Nat → Prop} {p : Nat} {l : List AtR} (h : LedW w W F p l) {x : Nat} (hx : W.heap.size ≤ x) : ¬ F x := fun hf => by have := h.led.fin x hf; omega
/-- What an addition to it keeps. -/
structure AddTo (w W W' : World) (F F' : Nat → Prop) : Prop where
  size : W.heap.size ≤ W'.heap.size
  keep : ∀ x : Nat, x < W.heap.size → ¬ F x → W'.heap[x]? = W.heap[x]?
  no : ∀ x : Nat, x < W.heap.size → ¬ F x → ¬ F' x
  below : ∀ V : World, Below w.heap.size V W → Below w.heap.size V W'
theorem AddTo.row {w W W' : World} {F F' : Nat → Prop} (h : AddTo w W W' F F') {x : Nat} {cs : Array Value} {t : TypeId} (r : Row W x cs t) (hx : ¬ F x) : Row W' x cs t := ⟨(h.keep x r.lt hx).trans r.eq⟩
theorem AddTo.led {w W W' : World} {F F' : Nat → Prop} (h : AddTo w W W' F F') {G : Nat → Prop} {q : Nat} {m : List AtR} (hl : LedW w W G q m) (hd : ∀ b, G b → ¬ F b) : LedW w W' G q m ∧ ∀ b, G b → ¬ F' b := by
  obtain ⟨⟨v, mm, es, clk, hi⟩, lo⟩ := hl
  exact ⟨⟨⟨v, mm, es, clk, hi.via h.size (fun b hb => h.keep b (hi.fin b hb) (hd b hb))⟩, lo⟩, fun b hb => h.no b (hi.fin b hb) (hd b hb)⟩
theorem addW_c {w W : World} {F : Nat → Prop} {p : Nat} {l : List AtR} (a : AtR) (hg : gIn a) (hs : w.heap.size ≤ W.heap.size) (h : LedW w W F p l) :
    Calls Tryz.prog 32 #[ledP p, atV a] W fun e W' => e = .returned (.int .i64 (addE l a)) ∧ ∃ F', LedW w W' F' p (addL l a) ∧ AddTo w W W' F F' := by
  refine Calls.mono (ladd_c a hg W h.led) ?_
  rintro e W' ⟨rfl, h1, h2⟩
  refine ⟨rfl, _, ⟨h1, fun b hb => hb.elim (h.low b) (fun h3 => Nat.le_trans hs h3.1)⟩, h2.size, fun x hx hn => h2.block x hx hn, fun x hx hn hf => hf.elim hn (fun h3 => by have := h3.1; omega), fun V hb => ?_⟩
  exact ⟨h2.os.trans hb.os, h2.tape.trans hb.tape, h2.output.trans hb.output, Nat.le_trans hb.size h2.size, fun k hk => (h2.block k (Nat.lt_of_lt_of_le hk hs) (fun hf => by have := h.low k hf; omega)).trans (hb.block k hk)⟩
theorem newW_c {w : World} (W : World) (hs : w.heap.size ≤ W.heap.size) : Calls Tryz.prog 33 #[] W fun e W' => ∃ p, e = .returned (ledP p) ∧ (∃ F, LedW w W' F p [] ∧ ∀ b, F b → W.heap.size ≤ b) ∧ Below W.heap.size W W' := by
  refine Calls.mono (lnew_c W) ?_
  rintro e W' ⟨p, m, rfl, h, hb⟩
  exact ⟨p, rfl, ⟨_, ⟨⟨_, _, _, _, h⟩, fun b hb => Nat.le_trans hs hb.1⟩, fun b hb => hb.1⟩, hb⟩
theorem copyW_c {w W : World} {F : Nat → Prop} {p : Nat} {l : List AtR} (hs : w.heap.size ≤ W.heap.size) (h : LedW w W F p l) : Calls Tryz.prog 35 #[ledP p] W fun e W' => ∃ q, e = .returned (ledP q) ∧ (∃ G, LedW w W' G q l ∧ ∀ b, G b → W.heap.size ≤ b) ∧ Below W.heap.size W W' := by
  obtain ⟨⟨v, m, es, clk, hi⟩, lo⟩ := h
  refine Calls.mono (lcopy_c W hi) ?_
  rintro e W' ⟨q, rfl, h1, hb⟩
  exact ⟨q, rfl, ⟨_, ⟨h1, fun b hb => Nat.le_trans hs hb.1⟩, fun b hb => hb.1⟩, hb⟩
theorem lenW_c {w W : World} {F : Nat → Prop} {p : Nat} {l : List AtR} (h : LedW w W F p l) : Ret 28 #[ledP p] W (.int .i64 l.length) := by
  obtain ⟨⟨v, m, es, clk, hi⟩, lo⟩ := h
  obtain ⟨a, c, rfl⟩ := hi.own.holds.len
  exact (llen_c hi.row).mono fun e w' ⟨he, hw⟩ => ⟨he, by rw [hw]; exact Below.refl _ _⟩
theorem allW_c {w W : World} {F : Nat → Prop} {p : Nat} {l : List AtR} (h : LedW w W F p l) : Calls Tryz.prog 27 #[ledP p] W fun e w' => ∃ u, e = .returned u ∧ OwnsA W.heap.size w' u l ∧ Below W.heap.size W w' := by
  obtain ⟨⟨v, m, es, clk, hi⟩, lo⟩ := h
  exact lall_c hi.row hi.own.holds (by have := hi.len; omega)
theorem ofW_c {w W : World} {F : Nat → Prop} {p : Nat} {l : List AtR} (k i g : Int) (h : LedW w W F p l) : Calls Tryz.prog 31 #[ledP p, oV k i g] W fun e w' => ∃ u, e = .returned u ∧ OwnsA W.heap.size w' u (ofL k i g l) ∧ Below W.heap.size W w' := by
  obtain ⟨⟨v, m, es, clk, hi⟩, lo⟩ := h
  exact lof_c k i g W hi
theorem endedW_c {w W : World} {F : Nat → Prop} {p : Nat} {l : List AtR} (k i g : Int) (h : LedW w W F p l) : Ret 29 #[ledP p, oV k i g] W (.tuple #[.int .i64 (((ofL k i g l).find? qEnd).getD at0).ans, .bool ((ofL k i g l).find? qEnd).isSome]) := by
  obtain ⟨⟨v, m, es, clk, hi⟩, lo⟩ := h
  exact lended_c k i g W hi
theorem firstW_c {w W : World} {F : Nat → Prop} {p : Nat} {l : List AtR} (k i g : Int) (h : LedW w W F p l) : Ret 30 #[ledP p, oV k i g] W (.tuple #[atV (((ofL k i g l).find? qAll).getD at0), .bool ((ofL k i g l).find? qAll).isSome]) := by
  obtain ⟨⟨v, m, es, clk, hi⟩, lo⟩ := h
  exact lfirst_c k i g W hi
theorem LedW.len {w W : World} {F : Nat → Prop} {p : Nat} {l : List AtR} (h : LedW w W F p l) : l.length ≤ 10000 := by
  obtain ⟨⟨v, m, es, clk, hi⟩, lo⟩ := h
  exact hi.len
theorem LedW.ok {w W : World} {F : Nat → Prop} {p : Nat} {l : List AtR} (h : LedW w W F p l) : ∀ a ∈ l, aOk a = true ∧ gIn a := by
  obtain ⟨⟨v, m, es, clk, hi⟩, lo⟩ := h
  exact hi.ok
theorem file_c (w : World) : Ret 36 #[] w (oV 1 3 1) := by
  go_enter Tryz.func36, Tryz.ntmps36
  go_wp2_with fail
  go_returns
  exact ⟨rfl, by go_grown⟩
theorem lease_c (w : World) : Ret 46 #[] w (oV 3 0 2) := by
  go_enter Tryz.func46, Tryz.ntmps46
  go_wp2_with fail
  go_returns
  exact ⟨rfl, by go_grown⟩
abbrev X1 : AtR := ⟨5, 1, 3, 1, 1, 2⟩
abbrev X2 : AtR := ⟨9, 1, 3, 1, 1, 1⟩
abbrev X3 : AtR := ⟨9, 3, 0, 2, 3, 3⟩
abbrev L3 : List AtR := [X1, X2, X3]
theorem holds_new (l : List AtR) (W : World) : HoldsA (W.alloc (.cells (cellsA l).toArray 43)) (.slice (some ⟨W.heap.size, 0, none⟩) l.length l.length) l := by
  refine .inr ⟨_, 0, l.length, rfl, fun j r hj t ht => ?_⟩
  rw [Nat.zero_add, Row.cell (Row.new (W := W)), List.getElem?_toArray, cellsA_get l j r t ht hj]
theorem three_c (w : World) : Calls Tryz.prog 58 #[] w fun e w' => ∃ b, e = .returned (.slice (some ⟨b, 0, none⟩) 3 3) ∧ (Row w' b (cellsA L3).toArray 43 ∧ w.heap.size ≤ b) ∧ Below w.heap.size w w' := by
  have hc := Below.refl w.heap.size w
  go_enter Tryz.func58, Tryz.ntmps58
  go_wp2_with fail
  refine Calls.mono (file_c _) ?_
  rintro e V1 ⟨rfl, hn⟩
  replace hc := chain hc hn
  go_wp2_with fail
  refine Calls.mono (file_c _) ?_
  rintro e V2 ⟨rfl, hn⟩
  replace hc := chain hc hn
  go_wp2_with fail
  refine Calls.mono (lease_c _) ?_
  rintro e V3 ⟨rfl, hn⟩
  replace hc := chain hc hn
  go_wp2_with fail
  go_returns
  exact ⟨_, rfl, ⟨Row.new, hc.size⟩, hc.alloc hc.size _⟩
theorem dd (n : Nat) (h : n < 10) : Go.Lib.decDigits n = [UInt8.ofNat (48 + n)] := by
  have hd := digits_small (n := (n : Int)) (by omega) (by omega)
  have h1 := congrArg (fun b : ByteArray => b.data.toList) hd
  simp only [digits, Int.toNat_natCast] at h1
  rw [show Go.Lib.decDigits n = (Go.Lib.decDigits n).toArray.toList by simp, h1, show (48 + (n : Int)).toNat = 48 + n by omega]
theorem l3_text : linesA L3 = [53, 32, 102, 51, 58, 49, 32, 99, 108, 111, 115, 101, 32, 108, 97, 116, 101, 114, 10, 57, 32, 102, 51, 58, 49, 32, 99, 108, 111, 115, 101, 32, 111, 107, 10, 57, 32, 108, 48, 58, 50, 32, 99, 111, 108, 108, 101, 99, 116, 32, 102, 97, 105, 108, 10] := by
  simp [linesA, lineL, dTextL, dd, letterB, whyW, ansW]
theorem l3_print : printA L3 = (linesA L3, 0) := by
  unfold printA
  rw [if_pos (by decide), if_neg (by rw [l3_text]; decide)]
theorem l3_ok : ∀ a ∈ L3, aOk a = true ∧ gIn a := by
  intro a ha
  simp only [List.mem_cons, List.not_mem_nil, or_false] at ha
  unfold gIn
  rcases ha with rfl | rfl | rfl <;> exact ⟨by decide, by decide⟩
theorem l3_parse : parseA (linesA L3) = (L3, 0, 0) := parse_lines l3_ok (by rw [l3_text]; decide)
end Go.Proofs.YtinlfheonlpceaaGreatDoor

/- The examples of chapter 07 hold. -/
namespace Go.Proofs.YtinlfheonlpceaaGreatDoor
open Go.RowKit
set_option linter.unusedVariables false
set_option linter.unusedSimpArgs false
set_option maxHeartbeats 40000000
set_option maxRecDepth 20000
theorem row_holds {W : World} {b : Nat} {l : List AtR} {t : TypeId} (r : Row W b (cellsA l).toArray t) (n c : Nat) (hn : n ≤ l.length) : HoldsA W (.slice (some ⟨b, 0, none⟩) n c) (l.take n) := by
  refine .inr ⟨b, 0, c, by rw [List.length_take, Nat.min_eq_left hn], fun j x hj t ht => ?_⟩
  rw [List.getElem?_take] at hj
  split at hj
  · rw [Nat.zero_add, r.cell, List.getElem?_toArray, cellsA_get l j x t ht hj]
  · cases hj
theorem g1 : gIn X1 := by unfold gIn; exact ⟨by decide, by decide⟩
theorem g2 : gIn X2 := by unfold gIn; exact ⟨by decide, by decide⟩
theorem g3 : gIn X3 := by unfold gIn; exact ⟨by decide, by decide⟩
theorem of_file : ofL 1 3 1 L3 = [X1, X2] := by decide
theorem of_lease : ofL 3 0 2 L3 = [X3] := by decide
theorem end_file : ([X1, X2] : List AtR).find? qEnd = some X2 := by decide
theorem end_lease : ([X3] : List AtR).find? qEnd = some X3 := by decide
theorem first_file : ([X1, X2] : List AtR).find? qAll = some X1 := by decide
def TX : ByteArray := ⟨(linesA L3).toArray⟩
theorem TX_lit : TX = ⟨#[53, 32, 102, 51, 58, 49, 32, 99, 108, 111, 115, 101, 32, 108, 97, 116, 101, 114, 10, 57, 32, 102, 51, 58, 49, 32, 99, 108, 111, 115, 101, 32, 111, 107, 10, 57, 32, 108, 48, 58, 50, 32, 99, 111, 108, 108, 101, 99, 116, 32, 102, 97, 105, 108, 10]⟩ := by unfold TX; rw [l3_text]
theorem tx_list : TX.data.toList = linesA L3 := by simp [TX]
theorem tx_size : TX.size ≤ 1000 := by rw [TX_lit]; decide
theorem add3 : addL (addL (addL [] X1) X2) X3 = L3 := by decide
theorem add4 : addL L3 X1 = L3 := by decide
theorem end_1 {w : World} {F : Nat → Prop} {p : Nat} (W : World) (h : LedW w W F p L3) : Ret 29 #[ledP p, oV 1 3 1] W (.tuple #[.int .i64 1, .bool true]) := by
  have := endedW_c 1 3 1 h
  rwa [of_file, end_file] at this
theorem end_2 {w : World} {F : Nat → Prop} {p : Nat} (W : World) (h : LedW w W F p L3) : Ret 29 #[ledP p, oV 3 0 2] W (.tuple #[.int .i64 3, .bool true]) := by
  have := endedW_c 3 0 2 h
  rwa [of_lease, end_lease] at this
theorem first_1 {w : World} {F : Nat → Prop} {p : Nat} (W : World) (h : LedW w W F p L3) : Ret 30 #[ledP p, oV 1 3 1] W (.tuple #[.agg #[.int .i64 5, .int .i64 1, .int .i64 3, .int .u32 1, .int .i64 1, .int .i64 2], .bool true]) := by
  have := firstW_c 1 3 1 h
  rwa [of_file, first_file] at this
theorem works (w : World) (hE : EnvP w) : Ret 15 #[] w (.bool true) := by
  have HE := Lib.hid hE
  have hc := Below.refl w.heap.size w
  have CE := Lib.hid (fun W v u m (hv : HoldsA W v m) (hu : HoldsA W u m) (hm : m.length ≤ 100000) => (equalA_c v u m m W hv hu hm hm).to (v' := .bool true) (by rw [decide_eq_true rfl]))
  have cp := fun W hW v hv => lprint_c v L3 W hW hv (by decide) (fun p hp => (l3_ok p hp).2)
  rw [l3_print] at cp
  have CP := Lib.hid (show ∀ W, Env W → ∀ v, HoldsA W v L3 → Ret 13 #[v] W (.tuple #[.string TX, .int .i64 0]) from cp)
  have cq := fun W hW => lparse_c TX W hW (by have := tx_size; omega)
  unfold ParseP at cq
  rw [tx_list, l3_parse] at cq
  have CQ := Lib.hid cq
  have hlit := TX_lit
  have htx : (TX.toList == (⟨#[53, 32, 102, 51, 58, 49, 32, 99, 108, 111, 115, 101, 32, 108, 97, 116, 101, 114, 10, 57, 32, 102, 51, 58, 49, 32, 99, 108, 111, 115, 101, 32, 111, 107, 10, 57, 32, 108, 48, 58, 50, 32, 99, 111, 108, 108, 101, 99, 116, 32, 102, 97, 105, 108, 10]⟩ : ByteArray).toList) = true := by rw [← hlit]; simp
  have htx2 : (TX.toList == [53, 32, 102, 51, 58, 49, 32, 99, 108, 111, 115, 101, 32, 108, 97, 116, 101, 114, 10, 57, 32, 102, 51, 58, 49, 32, 99, 108, 111, 115, 101, 32, 111, 107, 10, 57, 32, 108, 48, 58, 50, 32, 99, 111, 108, 108, 101, 99, 116, 32, 102, 97, 105, 108, 10]) = true := by rw [hlit, ByteArray.toList_eq]; decide
  have qe := eq_at X1 X1
  rw [decide_eq_true rfl] at qe
  clear cp cq hE hlit
  generalize TX = T at *
  go_enter Tryz.func15, Tryz.ntmps15
  go_wp2_with fail
  refine Calls.mono (newW_c (w := w) _ hc.size) ?_
  rintro e V1 ⟨p, rfl, ⟨F0, hl, hF⟩, hn⟩
  replace hc := chain hc hn
  clear hn hF
  go_wp2_with fail
  refine Calls.mono (three_c _) ?_
  rintro e V2 ⟨b3, rfl, ⟨r3, hb3⟩, hn⟩
  have no3 : ¬ F0 b3 := hl.not_new hb3
  replace hl := hl.on hn
  replace hc := chain hc hn
  clear hn
  have hc3 : (cellsA L3).toArray = #[.int .i64 5, .int .i64 1, .int .i64 3, .int .u32 1, .int .i64 1, .int .i64 2, .int .i64 9, .int .i64 1, .int .i64 3, .int .u32 1, .int .i64 1, .int .i64 1, .int .i64 9, .int .i64 3, .int .i64 0, .int .u32 2, .int .i64 3, .int .i64 3] := by simp [cellsA, atL]
  have HC3 := Lib.hid hc3
  rw [hc3] at r3
  clear hc3
  go_upto_region 3 with fail
  refine wp_loop_rounds 4 ?_
  rw [rounds_succ]
  have yr3 := r3.cell
  have zr3 := r3.lt
  go_upto_region 5 with fail
  clear yr3 zr3
  have q1 := Row.new (W := V2) (cs := #[.int .i64 5, .int .i64 1, .int .i64 3, .int .u32 1, .int .i64 1, .int .i64 2]) (t := 43)
  have hn := below_alloc V2 (.cells #[.int .i64 5, .int .i64 1, .int .i64 3, .int .u32 1, .int .i64 1, .int .i64 2] 43)
  replace r3 := r3.on hn
  replace hl := hl.on hn
  replace hc := chain hc hn
  clear hn
  generalize V2.alloc (.cells #[.int .i64 5, .int .i64 1, .int .i64 3, .int .u32 1, .int .i64 1, .int .i64 2] 43) = V3 at r3 hl q1 hc ⊢
  have yr3 := r3.cell
  have zr3 := r3.lt
  have yq1 := q1.cell
  have zq1 := q1.lt
  go_wp2_with fail
  clear yr3 yq1 zr3 zq1
  refine Calls.mono (addW_c X1 g1 hc.size hl) ?_
  rintro e V4 ⟨rfl, F1, hl2, hadd⟩
  clear hl
  have no4 := hadd.no _ r3.lt no3
  replace r3 := hadd.row r3 no3
  replace hc := hadd.below _ hc
  clear hadd no3
  have hl := hl2
  have no3 := no4
  clear hl2 no4
  clear q1
  have yr3 := r3.cell
  have zr3 := r3.lt
  go_wp2_with fail
  clear yr3 zr3
  rw [rounds_succ]
  have yr3 := r3.cell
  have zr3 := r3.lt
  go_upto_region 5 with fail
  clear yr3 zr3
  have q2 := Row.new (W := V4) (cs := #[.int .i64 9, .int .i64 1, .int .i64 3, .int .u32 1, .int .i64 1, .int .i64 1]) (t := 43)
  have hn := below_alloc V4 (.cells #[.int .i64 9, .int .i64 1, .int .i64 3, .int .u32 1, .int .i64 1, .int .i64 1] 43)
  replace r3 := r3.on hn
  replace hl := hl.on hn
  replace hc := chain hc hn
  clear hn
  generalize V4.alloc (.cells #[.int .i64 9, .int .i64 1, .int .i64 3, .int .u32 1, .int .i64 1, .int .i64 1] 43) = V5 at r3 hl q2 hc ⊢
  have yr3 := r3.cell
  have zr3 := r3.lt
  have yq2 := q2.cell
  have zq2 := q2.lt
  go_wp2_with fail
  clear yr3 yq2 zr3 zq2
  refine Calls.mono (addW_c X2 g2 hc.size hl) ?_
  rintro e V6 ⟨rfl, F2, hl2, hadd⟩
  clear hl
  have no4 := hadd.no _ r3.lt no3
  replace r3 := hadd.row r3 no3
  replace hc := hadd.below _ hc
  clear hadd no3
  have hl := hl2
  have no3 := no4
  clear hl2 no4
  clear q2
  have yr3 := r3.cell
  have zr3 := r3.lt
  go_wp2_with fail
  clear yr3 zr3
  rw [rounds_succ]
  have yr3 := r3.cell
  have zr3 := r3.lt
  go_upto_region 5 with fail
  clear yr3 zr3
  have q3 := Row.new (W := V6) (cs := #[.int .i64 9, .int .i64 3, .int .i64 0, .int .u32 2, .int .i64 3, .int .i64 3]) (t := 43)
  have hn := below_alloc V6 (.cells #[.int .i64 9, .int .i64 3, .int .i64 0, .int .u32 2, .int .i64 3, .int .i64 3] 43)
  replace r3 := r3.on hn
  replace hl := hl.on hn
  replace hc := chain hc hn
  clear hn
  generalize V6.alloc (.cells #[.int .i64 9, .int .i64 3, .int .i64 0, .int .u32 2, .int .i64 3, .int .i64 3] 43) = V7 at r3 hl q3 hc ⊢
  have yr3 := r3.cell
  have zr3 := r3.lt
  have yq3 := q3.cell
  have zq3 := q3.lt
  go_wp2_with fail
  clear yr3 yq3 zr3 zq3
  refine Calls.mono (addW_c X3 g3 hc.size hl) ?_
  rintro e V8 ⟨rfl, F3, hl2, hadd⟩
  clear hl
  have no4 := hadd.no _ r3.lt no3
  replace r3 := hadd.row r3 no3
  replace hc := hadd.below _ hc
  clear hadd no3
  have hl := hl2
  have no3 := no4
  clear hl2 no4
  clear q3
  have yr3 := r3.cell
  have zr3 := r3.lt
  go_wp2_with fail
  clear yr3 zr3
  rw [rounds_succ]
  rw [add3] at hl
  have yr3 := r3.cell
  have zr3 := r3.lt
  go_wp2_with fail
  clear yr3 zr3
  refine Calls.mono (addW_c X1 g1 hc.size hl) ?_
  rintro e V9 ⟨rfl, F4, hl2, hadd⟩
  clear hl
  have no4 := hadd.no _ r3.lt no3
  replace r3 := hadd.row r3 no3
  replace hc := hadd.below _ hc
  clear hadd no3
  have hl := hl2
  have no3 := no4
  clear hl2 no4
  rw [add4] at hl
  have yr3 := r3.cell
  have zr3 := r3.lt
  go_wp2_with fail
  refine Calls.mono (lenW_c hl) ?_
  rintro e V10 ⟨rfl, hn⟩
  clear yr3 zr3
  replace r3 := r3.on hn
  replace hl := hl.on hn
  replace hc := chain hc hn
  clear hn
  have yr3 := r3.cell
  have zr3 := r3.lt
  go_wp2_with fail
  refine Calls.mono (file_c _) ?_
  rintro e V11 ⟨rfl, hn⟩
  clear yr3 zr3
  replace r3 := r3.on hn
  replace hl := hl.on hn
  replace hc := chain hc hn
  clear hn
  have yr3 := r3.cell
  have zr3 := r3.lt
  go_wp2_with fail
  refine Calls.mono ((end_1 _ hl)) ?_
  rintro e V12 ⟨rfl, hn⟩
  clear yr3 zr3
  replace r3 := r3.on hn
  replace hl := hl.on hn
  replace hc := chain hc hn
  clear hn
  have yr3 := r3.cell
  have zr3 := r3.lt
  go_wp2_with fail
  refine Calls.mono (lease_c _) ?_
  rintro e V13 ⟨rfl, hn⟩
  clear yr3 zr3
  replace r3 := r3.on hn
  replace hl := hl.on hn
  replace hc := chain hc hn
  clear hn
  have yr3 := r3.cell
  have zr3 := r3.lt
  go_wp2_with fail
  refine Calls.mono ((end_2 _ hl)) ?_
  rintro e V14 ⟨rfl, hn⟩
  clear yr3 zr3
  replace r3 := r3.on hn
  replace hl := hl.on hn
  replace hc := chain hc hn
  clear hn
  have yr3 := r3.cell
  have zr3 := r3.lt
  go_wp2_with fail
  refine Calls.mono (file_c _) ?_
  rintro e V15 ⟨rfl, hn⟩
  clear yr3 zr3
  replace r3 := r3.on hn
  replace hl := hl.on hn
  replace hc := chain hc hn
  clear hn
  have yr3 := r3.cell
  have zr3 := r3.lt
  go_wp2_with fail
  refine Calls.mono ((first_1 _ hl)) ?_
  rintro e V16 ⟨rfl, hn⟩
  clear yr3 zr3
  replace r3 := r3.on hn
  replace hl := hl.on hn
  replace hc := chain hc hn
  clear hn
  have yr3 := r3.cell
  have zr3 := r3.lt
  go_upto_region 13 with fail
  clear yr3 zr3
  have bx := Row.new (W := V16) (cs := #[.int .i64 5, .int .i64 1, .int .i64 3, .int .u32 1, .int .i64 1, .int .i64 2]) (t := 43)
  have hn := below_alloc V16 (.cells #[.int .i64 5, .int .i64 1, .int .i64 3, .int .u32 1, .int .i64 1, .int .i64 2] 43)
  have nr3_bx : b3 ≠ V16.heap.size := Nat.ne_of_lt r3.lt
  have wbx : w.heap.size ≤ V16.heap.size := hc.size
  replace r3 := r3.on hn
  replace hl := hl.on hn
  replace hc := chain hc hn
  clear hn
  generalize V16.alloc (.cells #[.int .i64 5, .int .i64 1, .int .i64 3, .int .u32 1, .int .i64 1, .int .i64 2] 43) = V17 at r3 hl bx hc ⊢
  generalize V16.heap.size = xb at *
  have H3 := row_holds (l := L3) (show Row _ _ (cellsA L3).toArray _ from HC3.out.symm ▸ r3) 3 3 (by decide)
  rw [show L3.take 3 = L3 from rfl] at H3
  have yr3 := r3.cell
  have zr3 := r3.lt
  have ybx := bx.cell
  have zbx := bx.lt
  go_wp2_with fail
  refine Calls.mono (CP.out _ (HE.out.on hc).toEnv _ H3) ?_
  rintro e V18 ⟨rfl, hn⟩
  clear yr3 ybx zr3 zbx
  replace r3 := r3.on hn
  replace bx := bx.on hn
  replace hl := hl.on hn
  replace hc := chain hc hn
  clear hn
  have yr3 := r3.cell
  have zr3 := r3.lt
  have ybx := bx.cell
  have zbx := bx.lt
  go_wp2_with fail
  clear yr3 ybx zr3 zbx
  refine Calls.mono (CQ.out _ (HE.out.on hc)) ?_
  rintro e VP ⟨⟨vp, rfl, ho⟩, hn⟩
  have hp := ho.holds
  replace r3 := r3.on hn
  replace bx := bx.on hn
  replace hl := hl.on hn
  replace hc := chain hc hn
  clear hn
  have yr3 := r3.cell
  have zr3 := r3.lt
  have ybx := bx.cell
  have zbx := bx.lt
  go_upto_region 15 with fail
  clear yr3 ybx zr3 zbx
  refine wp_region_held_drew (S := fun W' => (∀ j : Nat, W'.cell? ⟨b3, j, none⟩ = #[.int .i64 5, .int .i64 1, .int .i64 3, .int .u32 1, .int .i64 1, .int .i64 2, .int .i64 9, .int .i64 1, .int .i64 3, .int .u32 1, .int .i64 1, .int .i64 1, .int .i64 9, .int .i64 3, .int .i64 0, .int .u32 2, .int .i64 3, .int .i64 3][j]?) ∧ (∀ j : Nat, W'.cell? ⟨xb, j, none⟩ = #[.int .i64 5, .int .i64 1, .int .i64 3, .int .u32 1, .int .i64 1, .int .i64 2][j]?)) (by kernel_rfl) ⟨r3.cell, bx.cell⟩ (fun hHeld => ?_)
  replace hc := hc.drew
  replace hl := hl.drew
  replace r3 := r3.drew
  replace bx := bx.drew
  replace ho := ho.on (Below.refl _ _).drew
  clear H3 hp
  generalize VP.drew = VD at *
  refine' wpAnyH_take (i := 0) (oi := _) (v := _) ?_ (by kernel_rfl) (by kernel_rfl) (by kernel_rfl) ?_ (Or.inl ⟨?_, ?_⟩) (by assumption) ?_
  rotate_left 2
  · (simp only [List.getElem?_toArray, List.getElem?_cons_succ, List.getElem?_cons_zero]; rfl)
  · first | exact fun _ _ _ h => h | exact fun _ _ _ h => nomatch h.1
  · rfl
  · (intro W hSW; (try dsimp only at hSW); go_split_ands; first | (go_simp; done) | (go_simp; with_reducible rfl))
  try simp only [Act.put, List.setIfInBounds_toArray, List.set_cons_zero, List.set_cons_succ]
  refine' wpAnyH_take (i := 3) (oi := _) (v := _) ?_ (by kernel_rfl) (by kernel_rfl) (by kernel_rfl) ?_ (Or.inl ⟨?_, ?_⟩) (by assumption) ?_
  rotate_left 2
  · (simp only [List.getElem?_toArray, List.getElem?_cons_succ, List.getElem?_cons_zero]; rfl)
  · first | exact fun _ _ _ h => h | exact fun _ _ _ h => nomatch h.1
  · rfl
  · (intro W hSW; (try dsimp only at hSW); go_split_ands; first | (go_simp; done) | (go_simp; with_reducible rfl))
  try simp only [Act.put, List.setIfInBounds_toArray, List.set_cons_zero, List.set_cons_succ]
  refine' wpAnyH_take (i := 4) (oi := _) (v := _) ?_ (by kernel_rfl) (by kernel_rfl) (by kernel_rfl) ?_ (Or.inl ⟨?_, ?_⟩) (by assumption) ?_
  rotate_left 2
  · (simp only [List.getElem?_toArray, List.getElem?_cons_succ, List.getElem?_cons_zero]; rfl)
  · first | exact fun _ _ _ h => h | exact fun _ _ _ h => nomatch h.1
  · rfl
  · (intro W hSW; (try dsimp only at hSW); go_split_ands; first | (go_simp; done) | (go_simp; with_reducible rfl))
  try simp only [Act.put, List.setIfInBounds_toArray, List.set_cons_zero, List.set_cons_succ]
  refine wpAnyH_ready (rs := [1]) (by kernel_rfl) (by simp) ?_
  refine' AllReadyH.cons (o := _) ?_ (fun K hK => ?_) AllReadyH.nil
  rotate_left 1
  · (simp only [List.getElem?_toArray, List.getElem?_cons_succ, List.getElem?_cons_zero]; rfl)
  go_simp
  refine Calls.mono (file_c _) ?_
  rintro e V19 ⟨rfl, hn⟩
  replace r3 := r3.on hn
  replace bx := bx.on hn
  replace hl := hl.on hn
  replace ho := ho.on hn
  replace hc := chain hc hn
  clear hn
  go_simp
  refine hK.out _ _ ⟨r3.cell, bx.cell⟩ (fun hHeld => ?_)
  clear hK K
  clear hHeld
  refine wpAnyH_ready (rs := [2]) (by kernel_rfl) (by simp) ?_
  refine' AllReadyH.cons (o := _) ?_ (fun K hK => ?_) AllReadyH.nil
  rotate_left 1
  · (simp only [List.getElem?_toArray, List.getElem?_cons_succ, List.getElem?_cons_zero]; rfl)
  go_simp
  refine Calls.mono (ofW_c 1 3 1 hl) ?_
  rintro e VO ⟨vo, rfl, hof, hn⟩
  rw [of_file] at hof
  replace r3 := r3.on hn
  replace bx := bx.on hn
  replace hl := hl.on hn
  replace ho := ho.on hn
  replace hc := chain hc hn
  clear hn
  go_simp
  refine hK.out _ _ ⟨r3.cell, bx.cell⟩ (fun hHeld => ?_)
  clear hK K
  clear hHeld
  refine wpAnyH_ready (rs := [5]) (by kernel_rfl) (by simp) ?_
  refine' AllReadyH.cons (o := _) ?_ (fun K hK => ?_) AllReadyH.nil
  rotate_left 1
  · (simp only [List.getElem?_toArray, List.getElem?_cons_succ, List.getElem?_cons_zero]; rfl)
  go_simp
  have H3 := row_holds (l := L3) (show Row _ _ (cellsA L3).toArray _ from HC3.out.symm ▸ r3) 2 3 (by decide)
  rw [show L3.take 2 = [X1, X2] from rfl] at H3
  refine Calls.mono (CE.out _ _ _ _ hof.holds H3 (by decide)) ?_
  rintro e VQ ⟨rfl, hn⟩
  clear H3 hof
  replace r3 := r3.on hn
  replace bx := bx.on hn
  replace hl := hl.on hn
  replace ho := ho.on hn
  replace hc := chain hc hn
  clear hn
  go_simp
  refine hK.out _ _ ⟨r3.cell, bx.cell⟩ (fun hHeld => ?_)
  clear hK K
  refine' wpAnyH_take (i := 6) (oi := _) (v := _) ?_ (by kernel_rfl) (by kernel_rfl) (by kernel_rfl) ?_ (Or.inl ⟨?_, ?_⟩) (by assumption) ?_
  rotate_left 2
  · (simp only [List.getElem?_toArray, List.getElem?_cons_succ, List.getElem?_cons_zero]; rfl)
  · first | exact fun _ _ _ h => h | exact fun _ _ _ h => nomatch h.1
  · rfl
  · (intro W hSW; (try dsimp only at hSW); go_split_ands; first | (go_simp; done) | (go_simp; with_reducible rfl))
  try simp only [Act.put, List.setIfInBounds_toArray, List.set_cons_zero, List.set_cons_succ]
  refine' wpAnyH_take (i := 7) (oi := _) (v := _) ?_ (by kernel_rfl) (by kernel_rfl) (by kernel_rfl) ?_ (Or.inl ⟨?_, ?_⟩) (by assumption) ?_
  rotate_left 2
  · (simp only [List.getElem?_toArray, List.getElem?_cons_succ, List.getElem?_cons_zero]; rfl)
  · first | exact fun _ _ _ h => h | exact fun _ _ _ h => nomatch h.1
  · rfl
  · (intro W hSW; (try dsimp only at hSW); go_split_ands; first | (go_simp; done) | (go_simp; with_reducible rfl))
  try simp only [Act.put, List.setIfInBounds_toArray, List.set_cons_zero, List.set_cons_succ]
  refine' wpAnyH_take (i := 8) (oi := _) (v := _) ?_ (by kernel_rfl) (by kernel_rfl) (by kernel_rfl) ?_ (Or.inl ⟨?_, ?_⟩) (by assumption) ?_
  rotate_left 2
  · (simp only [List.getElem?_toArray, List.getElem?_cons_succ, List.getElem?_cons_zero]; rfl)
  · first | exact fun _ _ _ h => h | exact fun _ _ _ h => nomatch h.1
  · rfl
  · (intro W hSW; (try dsimp only at hSW); go_split_ands; first | (go_simp; done) | (go_simp; with_reducible rfl))
  try simp only [Act.put, List.setIfInBounds_toArray, List.set_cons_zero, List.set_cons_succ]
  refine' wpAnyH_take (i := 9) (oi := _) (v := _) ?_ (by kernel_rfl) (by kernel_rfl) (by kernel_rfl) ?_ (Or.inl ⟨?_, ?_⟩) (by assumption) ?_
  rotate_left 2
  · (simp only [List.getElem?_toArray, List.getElem?_cons_succ, List.getElem?_cons_zero]; rfl)
  · first | exact fun _ _ _ h => h | exact fun _ _ _ h => nomatch h.1
  · rfl
  · (intro W hSW; (try dsimp only at hSW); go_split_ands; first | (go_simp; done) | (go_simp; with_reducible rfl))
  try simp only [Act.put, List.setIfInBounds_toArray, List.set_cons_zero, List.set_cons_succ]
  refine' wpAnyH_take (i := 10) (oi := _) (v := _) ?_ (by kernel_rfl) (by kernel_rfl) (by kernel_rfl) ?_ (Or.inl ⟨?_, ?_⟩) (by assumption) ?_
  rotate_left 2
  · (simp only [List.getElem?_toArray, List.getElem?_cons_succ, List.getElem?_cons_zero]; rfl)
  · first | exact fun _ _ _ h => h | exact fun _ _ _ h => nomatch h.1
  · rfl
  · (intro W hSW; (try dsimp only at hSW); go_split_ands; first | (go_simp; done) | (go_simp; with_reducible rfl))
  try simp only [Act.put, List.setIfInBounds_toArray, List.set_cons_zero, List.set_cons_succ]
  refine' wpAnyH_take (i := 11) (oi := _) (v := _) ?_ (by kernel_rfl) (by kernel_rfl) (by kernel_rfl) ?_ (Or.inl ⟨?_, ?_⟩) (by assumption) ?_
  rotate_left 2
  · (simp only [List.getElem?_toArray, List.getElem?_cons_succ, List.getElem?_cons_zero]; rfl)
  · first | exact fun _ _ _ h => h | exact fun _ _ _ h => nomatch h.1
  · rfl
  · (intro W hSW; (try dsimp only at hSW); go_split_ands; first | (go_simp; done) | (go_simp; with_reducible rfl))
  try simp only [Act.put, List.setIfInBounds_toArray, List.set_cons_zero, List.set_cons_succ]
  refine' wpAnyH_take (i := 12) (oi := _) (v := _) ?_ (by kernel_rfl) (by kernel_rfl) (by kernel_rfl) ?_ (Or.inl ⟨?_, ?_⟩) (by assumption) ?_
  rotate_left 2
  · (simp only [List.getElem?_toArray, List.getElem?_cons_succ, List.getElem?_cons_zero]; rfl)
  · first | exact fun _ _ _ h => h | exact fun _ _ _ h => nomatch h.1
  · rfl
  · (intro W hSW; (try dsimp only at hSW); go_split_ands; first | (go_simp; done) | (go_simp; with_reducible rfl))
  try simp only [Act.put, List.setIfInBounds_toArray, List.set_cons_zero, List.set_cons_succ]
  refine' wpAnyH_take (i := 13) (oi := _) (v := _) ?_ (by kernel_rfl) (by kernel_rfl) (by kernel_rfl) ?_ (Or.inl ⟨?_, ?_⟩) (by assumption) ?_
  rotate_left 2
  · (simp only [List.getElem?_toArray, List.getElem?_cons_succ, List.getElem?_cons_zero]; rfl)
  · first | exact fun _ _ _ h => h | exact fun _ _ _ h => nomatch h.1
  · rfl
  · (intro W hSW; (try dsimp only at hSW); go_split_ands; first | (go_simp; done) | (go_simp; with_reducible rfl))
  try simp only [Act.put, List.setIfInBounds_toArray, List.set_cons_zero, List.set_cons_succ]
  refine' wpAnyH_take (i := 14) (oi := _) (v := _) ?_ (by kernel_rfl) (by kernel_rfl) (by kernel_rfl) ?_ (Or.inl ⟨?_, ?_⟩) (by assumption) ?_
  rotate_left 2
  · (simp only [List.getElem?_toArray, List.getElem?_cons_succ, List.getElem?_cons_zero]; rfl)
  · first | exact fun _ _ _ h => h | exact fun _ _ _ h => nomatch h.1
  · rfl
  · (intro W hSW; (try dsimp only at hSW); go_split_ands; first | (go_simp; done) | (go_simp; with_reducible rfl))
  try simp only [Act.put, List.setIfInBounds_toArray, List.set_cons_zero, List.set_cons_succ]
  refine' wpAnyH_take (i := 15) (oi := _) (v := _) ?_ (by kernel_rfl) (by kernel_rfl) (by kernel_rfl) ?_ (Or.inl ⟨?_, ?_⟩) (by assumption) ?_
  rotate_left 2
  · (simp only [List.getElem?_toArray, List.getElem?_cons_succ, List.getElem?_cons_zero]; rfl)
  · first | exact fun _ _ _ h => h | exact fun _ _ _ h => nomatch h.1
  · rfl
  · (intro W hSW; (try dsimp only at hSW); go_split_ands; first | (go_simp; done) | (go_simp; with_reducible rfl))
  try simp only [Act.put, List.setIfInBounds_toArray, List.set_cons_zero, List.set_cons_succ]
  refine' wpAnyH_take (i := 16) (oi := _) (v := _) ?_ (by kernel_rfl) (by kernel_rfl) (by kernel_rfl) ?_ (Or.inl ⟨?_, ?_⟩) (by assumption) ?_
  rotate_left 2
  · (simp only [List.getElem?_toArray, List.getElem?_cons_succ, List.getElem?_cons_zero]; rfl)
  · first | exact fun _ _ _ h => h | exact fun _ _ _ h => nomatch h.1
  · rfl
  · (intro W hSW; (try dsimp only at hSW); go_split_ands; first | (go_simp; done) | (go_simp; with_reducible rfl))
  try simp only [Act.put, List.setIfInBounds_toArray, List.set_cons_zero, List.set_cons_succ]
  refine' wpAnyH_take (i := 17) (oi := _) (v := _) ?_ (by kernel_rfl) (by kernel_rfl) (by kernel_rfl) ?_ (Or.inl ⟨?_, ?_⟩) (by assumption) ?_
  rotate_left 2
  · (simp only [List.getElem?_toArray, List.getElem?_cons_succ, List.getElem?_cons_zero]; rfl)
  · first | exact fun _ _ _ h => h | exact fun _ _ _ h => nomatch h.1
  · rfl
  · (intro W hSW; (try dsimp only at hSW); go_split_ands; first | (go_simp; done) | (go_simp; with_reducible rfl))
  try simp only [Act.put, List.setIfInBounds_toArray, List.set_cons_zero, List.set_cons_succ]
  refine' wpAnyH_take (i := 18) (oi := _) (v := _) ?_ (by kernel_rfl) (by kernel_rfl) (by kernel_rfl) ?_ (Or.inl ⟨?_, ?_⟩) (by assumption) ?_
  rotate_left 2
  · (simp only [List.getElem?_toArray, List.getElem?_cons_succ, List.getElem?_cons_zero]; rfl)
  · first | exact fun _ _ _ h => h | exact fun _ _ _ h => nomatch h.1
  · rfl
  · (intro W hSW; (try dsimp only at hSW); go_split_ands; first | (go_simp; done) | (go_simp; with_reducible rfl))
  try simp only [Act.put, List.setIfInBounds_toArray, List.set_cons_zero, List.set_cons_succ]
  refine' wpAnyH_take (i := 19) (oi := _) (v := _) ?_ (by kernel_rfl) (by kernel_rfl) (by kernel_rfl) ?_ (Or.inl ⟨?_, ?_⟩) (by assumption) ?_
  rotate_left 2
  · (simp only [List.getElem?_toArray, List.getElem?_cons_succ, List.getElem?_cons_zero]; rfl)
  · first | exact fun _ _ _ h => h | exact fun _ _ _ h => nomatch h.1
  · rfl
  · (intro W hSW; (try dsimp only at hSW); go_split_ands; first | (go_simp; done) | (go_simp; with_reducible rfl))
  try simp only [Act.put, List.setIfInBounds_toArray, List.set_cons_zero, List.set_cons_succ]
  refine' wpAnyH_take (i := 20) (oi := _) (v := _) ?_ (by kernel_rfl) (by kernel_rfl) (by kernel_rfl) ?_ (Or.inl ⟨?_, ?_⟩) (by assumption) ?_
  rotate_left 2
  · (simp only [List.getElem?_toArray, List.getElem?_cons_succ, List.getElem?_cons_zero]; rfl)
  · first | exact fun _ _ _ h => h | exact fun _ _ _ h => nomatch h.1
  · rfl
  · (intro W hSW; (try dsimp only at hSW); go_split_ands; first | (go_simp; done) | (go_simp; with_reducible rfl))
  try simp only [Act.put, List.setIfInBounds_toArray, List.set_cons_zero, List.set_cons_succ]
  refine' wpAnyH_take (i := 21) (oi := _) (v := _) ?_ (by kernel_rfl) (by kernel_rfl) (by kernel_rfl) ?_ (Or.inl ⟨?_, ?_⟩) (by assumption) ?_
  rotate_left 2
  · (simp only [List.getElem?_toArray, List.getElem?_cons_succ, List.getElem?_cons_zero]; rfl)
  · first | exact fun _ _ _ h => h | exact fun _ _ _ h => nomatch h.1
  · rfl
  · (intro W hSW; (try dsimp only at hSW); go_split_ands; first | (go_simp; done) | (go_simp; with_reducible rfl))
  try simp only [Act.put, List.setIfInBounds_toArray, List.set_cons_zero, List.set_cons_succ]
  refine' wpAnyH_take (i := 22) (oi := _) (v := _) ?_ (by kernel_rfl) (by kernel_rfl) (by kernel_rfl) ?_ (Or.inl ⟨?_, ?_⟩) (by assumption) ?_
  rotate_left 2
  · (simp only [List.getElem?_toArray, List.getElem?_cons_succ, List.getElem?_cons_zero]; rfl)
  · first | exact fun _ _ _ h => h | exact fun _ _ _ h => nomatch h.1
  · rfl
  · (intro W hSW; (try dsimp only at hSW); go_split_ands; first | (go_simp; done) | (go_simp; with_reducible rfl))
  try simp only [Act.put, List.setIfInBounds_toArray, List.set_cons_zero, List.set_cons_succ]
  refine' wpAnyH_take (i := 23) (oi := _) (v := _) ?_ (by kernel_rfl) (by kernel_rfl) (by kernel_rfl) ?_ (Or.inl ⟨?_, ?_⟩) (by assumption) ?_
  rotate_left 2
  · (simp only [List.getElem?_toArray, List.getElem?_cons_succ, List.getElem?_cons_zero]; rfl)
  · first | exact fun _ _ _ h => h | exact fun _ _ _ h => nomatch h.1
  · rfl
  · (intro W hSW; (try dsimp only at hSW); go_split_ands; first | (go_simp; done) | (go_simp; with_reducible rfl))
  try simp only [Act.put, List.setIfInBounds_toArray, List.set_cons_zero, List.set_cons_succ]
  refine' wpAnyH_take (i := 24) (oi := _) (v := _) ?_ (by kernel_rfl) (by kernel_rfl) (by kernel_rfl) ?_ (Or.inl ⟨?_, ?_⟩) (by assumption) ?_
  rotate_left 2
  · (simp only [List.getElem?_toArray, List.getElem?_cons_succ, List.getElem?_cons_zero]; rfl)
  · first | exact fun _ _ _ h => h | exact fun _ _ _ h => nomatch h.1
  · rfl
  · (intro W hSW; (try dsimp only at hSW); go_split_ands; first | (go_simp; done) | (go_simp; with_reducible rfl))
  try simp only [Act.put, List.setIfInBounds_toArray, List.set_cons_zero, List.set_cons_succ]
  refine' wpAnyH_take (i := 25) (oi := _) (v := _) ?_ (by kernel_rfl) (by kernel_rfl) (by kernel_rfl) ?_ (Or.inl ⟨?_, ?_⟩) (by assumption) ?_
  rotate_left 2
  · (simp only [List.getElem?_toArray, List.getElem?_cons_succ, List.getElem?_cons_zero]; rfl)
  · first | exact fun _ _ _ h => h | exact fun _ _ _ h => nomatch h.1
  · rfl
  · (intro W hSW; (try dsimp only at hSW); go_split_ands; first | (go_simp; done) | (go_simp; with_reducible rfl))
  try simp only [Act.put, List.setIfInBounds_toArray, List.set_cons_zero, List.set_cons_succ]
  refine' wpAnyH_take (i := 26) (oi := _) (v := _) ?_ (by kernel_rfl) (by kernel_rfl) (by kernel_rfl) ?_ (Or.inl ⟨?_, ?_⟩) (by assumption) ?_
  rotate_left 2
  · (simp only [List.getElem?_toArray, List.getElem?_cons_succ, List.getElem?_cons_zero]; rfl)
  · first | exact fun _ _ _ h => h | exact fun _ _ _ h => nomatch h.1
  · rfl
  · (intro W hSW; (try dsimp only at hSW); go_split_ands; first | (go_simp; done) | (go_simp; with_reducible rfl))
  try simp only [Act.put, List.setIfInBounds_toArray, List.set_cons_zero, List.set_cons_succ]
  refine' wpAnyH_take (i := 27) (oi := _) (v := _) ?_ (by kernel_rfl) (by kernel_rfl) (by kernel_rfl) ?_ (Or.inl ⟨?_, ?_⟩) (by assumption) ?_
  rotate_left 2
  · (simp only [List.getElem?_toArray, List.getElem?_cons_succ, List.getElem?_cons_zero]; rfl)
  · first | exact fun _ _ _ h => h | exact fun _ _ _ h => nomatch h.1
  · rfl
  · (intro W hSW; (try dsimp only at hSW); go_split_ands; first | (go_simp; done) | (go_simp; with_reducible rfl))
  try simp only [Act.put, List.setIfInBounds_toArray, List.set_cons_zero, List.set_cons_succ]
  refine' wpAnyH_take (i := 28) (oi := _) (v := _) ?_ (by kernel_rfl) (by kernel_rfl) (by kernel_rfl) ?_ (Or.inl ⟨?_, ?_⟩) (by assumption) ?_
  rotate_left 2
  · (simp only [List.getElem?_toArray, List.getElem?_cons_succ, List.getElem?_cons_zero]; rfl)
  · first | exact fun _ _ _ h => h | exact fun _ _ _ h => nomatch h.1
  · rfl
  · (intro W hSW; (try dsimp only at hSW); go_split_ands; first | (go_simp; done) | (go_simp; with_reducible rfl))
  try simp only [Act.put, List.setIfInBounds_toArray, List.set_cons_zero, List.set_cons_succ]
  refine' wpAnyH_take (i := 29) (oi := _) (v := _) ?_ (by kernel_rfl) (by kernel_rfl) (by kernel_rfl) ?_ (Or.inl ⟨?_, ?_⟩) (by assumption) ?_
  rotate_left 2
  · (simp only [List.getElem?_toArray, List.getElem?_cons_succ, List.getElem?_cons_zero]; rfl)
  · first | exact fun _ _ _ h => h | exact fun _ _ _ h => nomatch h.1
  · rfl
  · (intro W hSW; (try dsimp only at hSW); go_split_ands; first | (go_simp; done) | (go_simp; with_reducible rfl))
  try simp only [Act.put, List.setIfInBounds_toArray, List.set_cons_zero, List.set_cons_succ]
  refine' wpAnyH_take (i := 30) (oi := _) (v := _) ?_ (by kernel_rfl) (by kernel_rfl) (by kernel_rfl) ?_ (Or.inl ⟨?_, ?_⟩) (by assumption) ?_
  rotate_left 2
  · (simp only [List.getElem?_toArray, List.getElem?_cons_succ, List.getElem?_cons_zero]; rfl)
  · first | exact fun _ _ _ h => h | exact fun _ _ _ h => nomatch h.1
  · rfl
  · (intro W hSW; (try dsimp only at hSW); go_split_ands; first | (go_simp; done) | (go_simp; with_reducible rfl))
  try simp only [Act.put, List.setIfInBounds_toArray, List.set_cons_zero, List.set_cons_succ]
  refine' wpAnyH_take (i := 31) (oi := _) (v := _) ?_ (by kernel_rfl) (by kernel_rfl) (by kernel_rfl) ?_ (Or.inl ⟨?_, ?_⟩) (by assumption) ?_
  rotate_left 2
  · (simp only [List.getElem?_toArray, List.getElem?_cons_succ, List.getElem?_cons_zero]; rfl)
  · first | exact fun _ _ _ h => h | exact fun _ _ _ h => nomatch h.1
  · rfl
  · (intro W hSW; (try dsimp only at hSW); go_split_ands; first | (go_simp; done) | (go_simp; with_reducible rfl))
  try simp only [Act.put, List.setIfInBounds_toArray, List.set_cons_zero, List.set_cons_succ]
  refine' wpAnyH_take (i := 32) (oi := _) (v := _) ?_ (by kernel_rfl) (by kernel_rfl) (by kernel_rfl) ?_ (Or.inl ⟨?_, ?_⟩) (by assumption) ?_
  rotate_left 2
  · (simp only [List.getElem?_toArray, List.getElem?_cons_succ, List.getElem?_cons_zero]; rfl)
  · first | exact fun _ _ _ h => h | exact fun _ _ _ h => nomatch h.1
  · rfl
  · (intro W hSW; (try dsimp only at hSW); go_split_ands; first | (go_simp; done) | (go_simp; with_reducible rfl))
  try simp only [Act.put, List.setIfInBounds_toArray, List.set_cons_zero, List.set_cons_succ]
  refine' wpAnyH_take (i := 33) (oi := _) (v := _) ?_ (by kernel_rfl) (by kernel_rfl) (by kernel_rfl) ?_ (Or.inl ⟨?_, ?_⟩) (by assumption) ?_
  rotate_left 2
  · (simp only [List.getElem?_toArray, List.getElem?_cons_succ, List.getElem?_cons_zero]; rfl)
  · first | exact fun _ _ _ h => h | exact fun _ _ _ h => nomatch h.1
  · rfl
  · (intro W hSW; (try dsimp only at hSW); go_split_ands; first | (go_simp; done) | (go_simp; with_reducible rfl))
  try simp only [Act.put, List.setIfInBounds_toArray, List.set_cons_zero, List.set_cons_succ]
  refine' wpAnyH_take (i := 34) (oi := _) (v := _) ?_ (by kernel_rfl) (by kernel_rfl) (by kernel_rfl) ?_ (Or.inl ⟨?_, ?_⟩) (by assumption) ?_
  rotate_left 2
  · (simp only [List.getElem?_toArray, List.getElem?_cons_succ, List.getElem?_cons_zero]; rfl)
  · first | exact fun _ _ _ h => h | exact fun _ _ _ h => nomatch h.1
  · rfl
  · (intro W hSW; (try dsimp only at hSW); go_split_ands; first | (go_simp; done) | (go_simp; with_reducible rfl))
  try simp only [Act.put, List.setIfInBounds_toArray, List.set_cons_zero, List.set_cons_succ]
  refine' wpAnyH_take (i := 35) (oi := _) (v := _) ?_ (by kernel_rfl) (by kernel_rfl) (by kernel_rfl) ?_ (Or.inl ⟨?_, ?_⟩) (by assumption) ?_
  rotate_left 2
  · (simp only [List.getElem?_toArray, List.getElem?_cons_succ, List.getElem?_cons_zero]; rfl)
  · first | exact fun _ _ _ h => h | exact fun _ _ _ h => nomatch h.1
  · rfl
  · (intro W hSW; (try dsimp only at hSW); go_split_ands; first | (go_simp; done) | (go_simp; with_reducible rfl))
  try simp only [Act.put, List.setIfInBounds_toArray, List.set_cons_zero, List.set_cons_succ]
  refine' wpAnyH_take (i := 36) (oi := _) (v := _) ?_ (by kernel_rfl) (by kernel_rfl) (by kernel_rfl) ?_ (Or.inl ⟨?_, ?_⟩) (by assumption) ?_
  rotate_left 2
  · (simp only [List.getElem?_toArray, List.getElem?_cons_succ, List.getElem?_cons_zero]; rfl)
  · first | exact fun _ _ _ h => h | exact fun _ _ _ h => nomatch h.1
  · rfl
  · (intro W hSW; (try dsimp only at hSW); go_split_ands; first | (go_simp; done) | (go_simp; with_reducible rfl))
  try simp only [Act.put, List.setIfInBounds_toArray, List.set_cons_zero, List.set_cons_succ]
  refine' wpAnyH_take (i := 37) (oi := _) (v := _) ?_ (by kernel_rfl) (by kernel_rfl) (by kernel_rfl) ?_ (Or.inl ⟨?_, ?_⟩) (by assumption) ?_
  rotate_left 2
  · (simp only [List.getElem?_toArray, List.getElem?_cons_succ, List.getElem?_cons_zero]; rfl)
  · first | exact fun _ _ _ h => h | exact fun _ _ _ h => nomatch h.1
  · rfl
  · (intro W hSW; (try dsimp only at hSW); go_split_ands; first | (go_simp; done) | (go_simp; with_reducible rfl))
  try simp only [Act.put, List.setIfInBounds_toArray, List.set_cons_zero, List.set_cons_succ]
  refine' wpAnyH_take (i := 38) (oi := _) (v := _) ?_ (by kernel_rfl) (by kernel_rfl) (by kernel_rfl) ?_ (Or.inl ⟨?_, ?_⟩) (by assumption) ?_
  rotate_left 2
  · (simp only [List.getElem?_toArray, List.getElem?_cons_succ, List.getElem?_cons_zero]; rfl)
  · first | exact fun _ _ _ h => h | exact fun _ _ _ h => nomatch h.1
  · rfl
  · (intro W hSW; (try dsimp only at hSW); go_split_ands; first | (go_simp; done) | (go_simp; with_reducible rfl))
  try simp only [Act.put, List.setIfInBounds_toArray, List.set_cons_zero, List.set_cons_succ]
  refine' wpAnyH_take (i := 39) (oi := _) (v := _) ?_ (by kernel_rfl) (by kernel_rfl) (by kernel_rfl) ?_ (Or.inl ⟨?_, ?_⟩) (by assumption) ?_
  rotate_left 2
  · (simp only [List.getElem?_toArray, List.getElem?_cons_succ, List.getElem?_cons_zero]; rfl)
  · first | exact fun _ _ _ h => h | exact fun _ _ _ h => nomatch h.1
  · rfl
  · (intro W hSW; (try dsimp only at hSW); go_split_ands; first | (go_simp; done) | (go_simp; with_reducible rfl))
  try simp only [Act.put, List.setIfInBounds_toArray, List.set_cons_zero, List.set_cons_succ]
  refine' wpAnyH_take (i := 40) (oi := _) (v := _) ?_ (by kernel_rfl) (by kernel_rfl) (by kernel_rfl) ?_ (Or.inl ⟨?_, ?_⟩) (by assumption) ?_
  rotate_left 2
  · (simp only [List.getElem?_toArray, List.getElem?_cons_succ, List.getElem?_cons_zero]; rfl)
  · first | exact fun _ _ _ h => h | exact fun _ _ _ h => nomatch h.1
  · rfl
  · (intro W hSW; (try dsimp only at hSW); go_split_ands; first | (go_simp; done) | (go_simp; with_reducible rfl))
  try simp only [Act.put, List.setIfInBounds_toArray, List.set_cons_zero, List.set_cons_succ]
  clear hHeld
  refine wpAnyH_ready (rs := [41]) (by kernel_rfl) (by simp) ?_
  refine' AllReadyH.cons (o := _) ?_ (fun K hK => ?_) AllReadyH.nil
  rotate_left 1
  · (simp only [List.getElem?_toArray, List.getElem?_cons_succ, List.getElem?_cons_zero]; rfl)
  go_simp
  have H3 := row_holds (l := L3) (show Row _ _ (cellsA L3).toArray _ from HC3.out.symm ▸ r3) 3 3 (by decide)
  rw [show L3.take 3 = L3 from rfl] at H3
  refine Calls.mono (CE.out _ _ _ _ ho.holds H3 (by decide)) ?_
  rintro e VR ⟨rfl, hn⟩
  clear H3
  replace r3 := r3.on hn
  replace bx := bx.on hn
  replace hl := hl.on hn
  replace ho := ho.on hn
  replace hc := chain hc hn
  clear hn
  go_simp
  refine hK.out _ _ ⟨r3.cell, bx.cell⟩ (fun hHeld => ?_)
  clear hK K
  refine' wpAnyH_take (i := 42) (oi := _) (v := _) ?_ (by kernel_rfl) (by kernel_rfl) (by kernel_rfl) ?_ (Or.inl ⟨?_, ?_⟩) (by assumption) ?_
  rotate_left 2
  · (simp only [List.getElem?_toArray, List.getElem?_cons_succ, List.getElem?_cons_zero]; rfl)
  · first | exact fun _ _ _ h => h | exact fun _ _ _ h => nomatch h.1
  · rfl
  · (intro W hSW; (try dsimp only at hSW); go_split_ands; first | (go_simp; done) | (go_simp; with_reducible rfl))
  try simp only [Act.put, List.setIfInBounds_toArray, List.set_cons_zero, List.set_cons_succ]
  refine' wpAnyH_take (i := 43) (oi := _) (v := _) ?_ (by kernel_rfl) (by kernel_rfl) (by kernel_rfl) ?_ (Or.inl ⟨?_, ?_⟩) (by assumption) ?_
  rotate_left 2
  · (simp only [List.getElem?_toArray, List.getElem?_cons_succ, List.getElem?_cons_zero]; rfl)
  · first | exact fun _ _ _ h => h | exact fun _ _ _ h => nomatch h.1
  · rfl
  · (intro W hSW; (try dsimp only at hSW); go_split_ands; first | (go_simp; done) | (go_simp; with_reducible rfl))
  try simp only [Act.put, List.setIfInBounds_toArray, List.set_cons_zero, List.set_cons_succ]
  refine' wpAnyH_take (i := 44) (oi := _) (v := _) ?_ (by kernel_rfl) (by kernel_rfl) (by kernel_rfl) ?_ (Or.inl ⟨?_, ?_⟩) (by assumption) ?_
  rotate_left 2
  · (simp only [List.getElem?_toArray, List.getElem?_cons_succ, List.getElem?_cons_zero]; rfl)
  · first | exact fun _ _ _ h => h | exact fun _ _ _ h => nomatch h.1
  · rfl
  · (intro W hSW; (try dsimp only at hSW); go_split_ands; first | (go_simp; done) | (go_simp; with_reducible rfl))
  try simp only [Act.put, List.setIfInBounds_toArray, List.set_cons_zero, List.set_cons_succ]
  refine' wpAnyH_take (i := 45) (oi := _) (v := _) ?_ (by kernel_rfl) (by kernel_rfl) (by kernel_rfl) ?_ (Or.inl ⟨?_, ?_⟩) (by assumption) ?_
  rotate_left 2
  · (simp only [List.getElem?_toArray, List.getElem?_cons_succ, List.getElem?_cons_zero]; rfl)
  · first | exact fun _ _ _ h => h | exact fun _ _ _ h => nomatch h.1
  · rfl
  · (intro W hSW; (try dsimp only at hSW); go_split_ands; first | (go_simp; done) | (go_simp; with_reducible rfl))
  try simp only [Act.put, List.setIfInBounds_toArray, List.set_cons_zero, List.set_cons_succ]
  refine' wpAnyH_take (i := 46) (oi := _) (v := _) ?_ (by kernel_rfl) (by kernel_rfl) (by kernel_rfl) ?_ (Or.inl ⟨?_, ?_⟩) (by assumption) ?_
  rotate_left 2
  · (simp only [List.getElem?_toArray, List.getElem?_cons_succ, List.getElem?_cons_zero]; rfl)
  · first | exact fun _ _ _ h => h | exact fun _ _ _ h => nomatch h.1
  · rfl
  · (intro W hSW; (try dsimp only at hSW); go_split_ands; first | (go_simp; done) | (go_simp; with_reducible rfl))
  try simp only [Act.put, List.setIfInBounds_toArray, List.set_cons_zero, List.set_cons_succ]
  refine' wpAnyH_take (i := 47) (oi := _) (v := _) ?_ (by kernel_rfl) (by kernel_rfl) (by kernel_rfl) ?_ (Or.inl ⟨?_, ?_⟩) (by assumption) ?_
  rotate_left 2
  · (simp only [List.getElem?_toArray, List.getElem?_cons_succ, List.getElem?_cons_zero]; rfl)
  · first | exact fun _ _ _ h => h | exact fun _ _ _ h => nomatch h.1
  · rfl
  · (intro W hSW; (try dsimp only at hSW); go_split_ands; first | (go_simp; done) | (go_simp; with_reducible rfl))
  try simp only [Act.put, List.setIfInBounds_toArray, List.set_cons_zero, List.set_cons_succ]
  refine' wpAnyH_take (i := 48) (oi := _) (v := _) ?_ (by kernel_rfl) (by kernel_rfl) (by kernel_rfl) ?_ (Or.inl ⟨?_, ?_⟩) (by assumption) ?_
  rotate_left 2
  · (simp only [List.getElem?_toArray, List.getElem?_cons_succ, List.getElem?_cons_zero]; rfl)
  · first | exact fun _ _ _ h => h | exact fun _ _ _ h => nomatch h.1
  · rfl
  · (intro W hSW; (try dsimp only at hSW); go_split_ands; first | (go_simp; done) | (go_simp; with_reducible rfl))
  try simp only [Act.put, List.setIfInBounds_toArray, List.set_cons_zero, List.set_cons_succ]
  refine' wpAnyH_take (i := 49) (oi := _) (v := _) ?_ (by kernel_rfl) (by kernel_rfl) (by kernel_rfl) ?_ (Or.inl ⟨?_, ?_⟩) (by assumption) ?_
  rotate_left 2
  · (simp only [List.getElem?_toArray, List.getElem?_cons_succ, List.getElem?_cons_zero]; rfl)
  · first | exact fun _ _ _ h => h | exact fun _ _ _ h => nomatch h.1
  · rfl
  · (intro W hSW; (try dsimp only at hSW); go_split_ands; first | (go_simp; done) | (go_simp; with_reducible rfl))
  try simp only [Act.put, List.setIfInBounds_toArray, List.set_cons_zero, List.set_cons_succ]
  refine' wpAnyH_take (i := 50) (oi := _) (v := _) ?_ (by kernel_rfl) (by kernel_rfl) (by kernel_rfl) ?_ (Or.inl ⟨?_, ?_⟩) (by assumption) ?_
  rotate_left 2
  · (simp only [List.getElem?_toArray, List.getElem?_cons_succ, List.getElem?_cons_zero]; rfl)
  · first | exact fun _ _ _ h => h | exact fun _ _ _ h => nomatch h.1
  · rfl
  · (intro W hSW; (try dsimp only at hSW); go_split_ands; first | (go_simp; done) | (go_simp; with_reducible rfl))
  try simp only [Act.put, List.setIfInBounds_toArray, List.set_cons_zero, List.set_cons_succ]
  refine' wpAnyH_take (i := 51) (oi := _) (v := _) ?_ (by kernel_rfl) (by kernel_rfl) (by kernel_rfl) ?_ (Or.inl ⟨?_, ?_⟩) (by assumption) ?_
  rotate_left 2
  · (simp only [List.getElem?_toArray, List.getElem?_cons_succ, List.getElem?_cons_zero]; rfl)
  · first | exact fun _ _ _ h => h | exact fun _ _ _ h => nomatch h.1
  · rfl
  · (intro W hSW; (try dsimp only at hSW); go_split_ands; first | (go_simp; done) | (go_simp; with_reducible rfl))
  try simp only [Act.put, List.setIfInBounds_toArray, List.set_cons_zero, List.set_cons_succ]
  refine wpAnyH_done (by kernel_rfl) ?_ _
  go_wp2_with fail
  go_returns
  exact ⟨rfl, hc⟩
end Go.Proofs.YtinlfheonlpceaaGreatDoor
