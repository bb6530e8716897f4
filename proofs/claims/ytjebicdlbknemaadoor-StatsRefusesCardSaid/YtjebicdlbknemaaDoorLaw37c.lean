/- StatsRefuses: its walk. -/
import Derived.Test.YtjebicdlbknemaaDoorStMade
import Derived.Test.YtjebicdlbknemaaDoorRow
namespace Go.Proofs.YtjebicdlbknemaaDoor
open Go.RowKit
set_option linter.unusedVariables false
set_option linter.unusedSimpArgs false
set_option maxHeartbeats 8000000 in
theorem of_nil (w : World) : Ret 19 #[.pointer none, .int .i64 (-1)] w (.tuple #[stV 0 0 0 0 0, .int .i64 1]) := by
  go_enter Tryd.func19, Tryd.ntmps19
  go_wp2
  go_returns
  exact ⟨rfl, by go_grown⟩
set_option maxHeartbeats 8000000 in
set_option maxRecDepth 20000 in
theorem of_zero (w : World) (z : Nat) (hz : z < w.heap.size) (h0 : w.cell? ⟨z, 1, none⟩ = some (.map none)) : Ret 19 #[.pointer (some ⟨z, 0, none⟩), .int .i64 (-1)] w (.tuple #[stV 0 0 0 0 0, .int .i64 1]) := by
  have hm := fun W r => run_neq_map_nil (P := Tryd.prog) W 49 _ _ r Tryd.underlying49
  go_enter Tryd.func19, Tryd.ntmps19
  go_wp2
  go_returns
  exact ⟨rfl, by go_grown⟩
/-- What Add says of any change of the counts. -/
def AddAny (o l c r q f t : Int) : Prop := ∃ o1 l1 c1 r1 q1 e1 : Int, (∀ w, Ret 11 #[stV o l c r q, .int .i64 f, .int .i64 t] w (.tuple #[stV o1 l1 c1 r1 q1, .int .i64 e1])) ∧ (chg f t = false → o1 = 0 ∧ l1 = 0 ∧ c1 = 0 ∧ r1 = 0 ∧ q1 = 0 ∧ e1 = 2)
def BadSt (W : World) (y : Nat) : Prop := ∃ o l c r q : Int, sOk o l c r q = false ∧ W.cell? ⟨y, 0, none⟩ = some (.int .i64 o) ∧ W.cell? ⟨y, 1, none⟩ = some (.int .i64 l) ∧ W.cell? ⟨y, 2, none⟩ = some (.int .i64 c) ∧ W.cell? ⟨y, 3, none⟩ = some (.int .i64 r) ∧ W.cell? ⟨y, 4, none⟩ = some (.int .i64 q)
theorem badSt_mk {W : World} {y : Nat} {o l c r q : Int} (h : sOk o l c r q = false) (h0 : W.cell? ⟨y, 0, none⟩ = some (.int .i64 o)) (h1 : W.cell? ⟨y, 1, none⟩ = some (.int .i64 l)) (h2 : W.cell? ⟨y, 2, none⟩ = some (.int .i64 c)) (h3 : W.cell? ⟨y, 3, none⟩ = some (.int .i64 r)) (h4 : W.cell? ⟨y, 4, none⟩ = some (.int .i64 q)) : BadSt W y := ⟨o, l, c, r, q, h, h0, h1, h2, h3, h4⟩
theorem bad_of {o l c r q : Int} (h : ¬ (0 ≤ o ∧ o ≤ 10000 ∧ 0 ≤ l ∧ l ≤ 10000 ∧ 0 ≤ c ∧ c ≤ 10000 ∧ 0 ≤ r ∧ r ≤ 10000 ∧ 0 ≤ q ∧ q ≤ 10000 ∧ l + c + r + q = o)) : sOk o l c r q = false := by unfold sOk; rw [decide_eq_false_iff_not]; exact h
set_option maxHeartbeats 64000000 in
set_option maxRecDepth 20000 in
theorem ref_any (a b c d h g f t l cl r q : Int) (K : Int) (w : World) (hE : Env w) (g0 : 0 ≤ g) (g1 : g ≤ 65535) (l0 : 0 ≤ l) (l1 : l ≤ 2500) (c0 : 0 ≤ cl) (c1' : cl ≤ 2500) (r0 : 0 ≤ r) (r1 : r ≤ 2500) (q0 : 0 ≤ q) (q1 : q ≤ 2500)
    (hK : K = 0 ∨ K = 1 ∨ K = 2 ∨ K = 3 ∨ K = 4 ∨ K = 5) (hh : Int.tmod h 6 = K)
    (c1 : ∀ w, Ret 16 #[.agg #[.int .u16 a, .int .u16 b, .int .u16 c, .int .u16 d]] w (stV (l + cl + r + q) l cl r q))
    (hadd : AddAny (l + cl + r + q) l cl r q f t) :
    Ret 5 #[.agg #[.int .u16 a, .int .u16 b, .int .u16 c, .int .u16 d], .int .u8 h, .int .u16 g, .int .i64 f, .int .i64 t] w (.bool true) := by
  have C1 := Lib.hid c1
  have HK := Lib.hid hK
  have HH := Lib.hid hh
  have HA := Lib.hid hadd
  have hc0 := Below.refl w.heap.size w
  clear c1 hK hh hadd
  go_enter Tryd.func5, Tryd.ntmps5
  go_wp2_with fail
  refine Calls.mono (C1.out _) ?_
  rintro e w1 ⟨rfl, hb1⟩
  obtain ⟨kk, ff⟩ := bcell hb1
  have hc1 : Below w.heap.size w w1 := under hb1
  clear kk ff
  have hs1 := hc1.size
  clear hc0 hb1
  go_upto_block 0 with (fail)
  go_cut [37] (fun s37 wx => Below w.heap.size w wx ∧ Row wx w1.heap.size #[.int .i64 (l + cl + r + q), .int .i64 l, .int .i64 cl, .int .i64 r, .int .i64 q] 23 ∧ w1.heap.size + 1 < wx.heap.size ∧ BadSt wx (w1.heap.size + 1))
  case first =>
    rcases HK.out with rfl | rfl | rfl | rfl | rfl | rfl
    all_goals
      have hk := HH.out
      have hw0 : IntKind.u8.wrap 0 = 0 := rfl
      have hw1 : IntKind.u8.wrap 1 = 1 := rfl
      have hw2 : IntKind.u8.wrap 2 = 2 := rfl
      have hw3 : IntKind.u8.wrap 3 = 3 := rfl
      have hw4 : IntKind.u8.wrap 4 = 4 := rfl
      have hw5 : IntKind.u8.wrap 5 = 5 := rfl
      go_wp2_with fail
      go_meet
      refine ⟨by go_grown, ?_, by simp, badSt_mk (bad_of ?_) (by go_simp; rfl) (by go_simp; rfl) (by go_simp; rfl) (by go_simp; rfl) (by go_simp; rfl)⟩
      · exact (Row.new (W := w1)).on (below_alloc _ _)
      · omega
  case rest =>
    obtain ⟨hc1, hX, hz, o', l', c', r', q', hbad, y0, y1, y2, y3, y4⟩ := hcut
    have x0 := hX.cell 0
    have x1 := hX.cell 1
    have x2 := hX.cell 2
    have x3 := hX.cell 3
    have x4 := hX.cell 4
    simp only [List.getElem?_toArray, List.getElem?_cons_succ, List.getElem?_cons_zero] at x0 x1 x2 x3 x4
    have lx := hX.lt
    have hB := Lib.hid hbad
    have hs1 := hc1.size
    clear hX hbad
    go_wp2_with fail
    refine Calls.mono (used_bad _ _ _ _ _ _ hB.out) ?_
    rintro e w2 ⟨rfl, hb2⟩
    obtain ⟨kk, ff⟩ := bcell hb2
    have hc2 : Below w.heap.size w w2 := under hb2
    have k2_0 : ∀ o, w2.cell? ⟨w1.heap.size, o, none⟩ = _ := fun o => kk _ o (by first | assumption | omega | (simp; done) | (simp; omega))
    have f2_0 : ∀ o, w2.frozen? ⟨w1.heap.size, o, none⟩ = _ := fun o => ff _ o (by first | assumption | omega | (simp; done) | (simp; omega))
    have z2_0 : w1.heap.size < w2.heap.size := by have := hb2.size; (try simp at this); omega
    have k2_1 : ∀ o, w2.cell? ⟨w1.heap.size+1, o, none⟩ = _ := fun o => kk _ o (by first | assumption | omega | (simp; done) | (simp; omega))
    have f2_1 : ∀ o, w2.frozen? ⟨w1.heap.size+1, o, none⟩ = _ := fun o => ff _ o (by first | assumption | omega | (simp; done) | (simp; omega))
    have z2_1 : w1.heap.size+1 < w2.heap.size := by have := hb2.size; (try simp at this); omega
    clear kk ff
    have hs2 := hc2.size
    clear hc1 hb2
    go_wp2_with fail
    refine Calls.mono (add_bad _ _ _ _ _ _ _ _ hB.out) ?_
    rintro e w3 ⟨rfl, hb3⟩
    obtain ⟨kk, ff⟩ := bcell hb3
    have hc3 : Below w.heap.size w w3 := under hb3
    have k3_0 : ∀ o, w3.cell? ⟨w1.heap.size, o, none⟩ = _ := fun o => kk _ o (by first | assumption | omega | (simp; done) | (simp; omega))
    have f3_0 : ∀ o, w3.frozen? ⟨w1.heap.size, o, none⟩ = _ := fun o => ff _ o (by first | assumption | omega | (simp; done) | (simp; omega))
    have z3_0 : w1.heap.size < w3.heap.size := by have := hb3.size; (try simp at this); omega
    have k3_1 : ∀ o, w3.cell? ⟨w1.heap.size+1, o, none⟩ = _ := fun o => kk _ o (by first | assumption | omega | (simp; done) | (simp; omega))
    have f3_1 : ∀ o, w3.frozen? ⟨w1.heap.size+1, o, none⟩ = _ := fun o => ff _ o (by first | assumption | omega | (simp; done) | (simp; omega))
    have z3_1 : w1.heap.size+1 < w3.heap.size := by have := hb3.size; (try simp at this); omega
    clear kk ff
    have hs3 := hc3.size
    clear hc2 hb3
    go_wp2_with fail
    refine Calls.mono (text_bad _ _ _ _ _ _ hB.out) ?_
    rintro e w4 ⟨rfl, hb4⟩
    obtain ⟨kk, ff⟩ := bcell hb4
    have hc4 : Below w.heap.size w w4 := under hb4
    have k4_0 : ∀ o, w4.cell? ⟨w1.heap.size, o, none⟩ = _ := fun o => kk _ o (by first | assumption | omega | (simp; done) | (simp; omega))
    have f4_0 : ∀ o, w4.frozen? ⟨w1.heap.size, o, none⟩ = _ := fun o => ff _ o (by first | assumption | omega | (simp; done) | (simp; omega))
    have z4_0 : w1.heap.size < w4.heap.size := by have := hb4.size; (try simp at this); omega
    have k4_1 : ∀ o, w4.cell? ⟨w1.heap.size+1, o, none⟩ = _ := fun o => kk _ o (by first | assumption | omega | (simp; done) | (simp; omega))
    have f4_1 : ∀ o, w4.frozen? ⟨w1.heap.size+1, o, none⟩ = _ := fun o => ff _ o (by first | assumption | omega | (simp; done) | (simp; omega))
    have z4_1 : w1.heap.size+1 < w4.heap.size := by have := hb4.size; (try simp at this); omega
    have k4_2 : ∀ o, w4.cell? ⟨w3.heap.size, o, none⟩ = _ := fun o => kk _ o (by first | assumption | omega | (simp; done) | (simp; omega))
    have f4_2 : ∀ o, w4.frozen? ⟨w3.heap.size, o, none⟩ = _ := fun o => ff _ o (by first | assumption | omega | (simp; done) | (simp; omega))
    have z4_2 : w3.heap.size < w4.heap.size := by have := hb4.size; (try simp at this); omega
    clear kk ff
    have hs4 := hc4.size
    clear hc3 hb4
    go_wp2_with fail
    refine Calls.mono (check_bad _ _ _ _ _ _ hB.out) ?_
    rintro e w5 ⟨rfl, hb5⟩
    obtain ⟨kk, ff⟩ := bcell hb5
    have hc5 : Below w.heap.size w w5 := under hb5
    have k5_0 : ∀ o, w5.cell? ⟨w1.heap.size, o, none⟩ = _ := fun o => kk _ o (by first | assumption | omega | (simp; done) | (simp; omega))
    have f5_0 : ∀ o, w5.frozen? ⟨w1.heap.size, o, none⟩ = _ := fun o => ff _ o (by first | assumption | omega | (simp; done) | (simp; omega))
    have z5_0 : w1.heap.size < w5.heap.size := by have := hb5.size; (try simp at this); omega
    have k5_1 : ∀ o, w5.cell? ⟨w3.heap.size, o, none⟩ = _ := fun o => kk _ o (by first | assumption | omega | (simp; done) | (simp; omega))
    have f5_1 : ∀ o, w5.frozen? ⟨w3.heap.size, o, none⟩ = _ := fun o => ff _ o (by first | assumption | omega | (simp; done) | (simp; omega))
    have z5_1 : w3.heap.size < w5.heap.size := by have := hb5.size; (try simp at this); omega
    clear kk ff
    have hs5 := hc5.size
    clear hc4 hb5
    go_wp2_with fail
    refine (changes_ret _).mono ?_
    rintro e w6 ⟨rfl, rfl⟩
    go_upto_block 1 with (fail)
    have xx0 : w5.cell? ⟨w1.heap.size, 0, none⟩ = some (.int .i64 (l + cl + r + q)) := by go_simp
    have xx1 : w5.cell? ⟨w1.heap.size, 1, none⟩ = some (.int .i64 l) := by go_simp
    have xx2 : w5.cell? ⟨w1.heap.size, 2, none⟩ = some (.int .i64 cl) := by go_simp
    have xx3 : w5.cell? ⟨w1.heap.size, 3, none⟩ = some (.int .i64 r) := by go_simp
    have xx4 : w5.cell? ⟨w1.heap.size, 4, none⟩ = some (.int .i64 q) := by go_simp
    clear x0 x1 x2 x3 x4 y0 y1 y2 y3 y4 k2_0 f2_0 k2_1 f2_1 k3_0 f3_0 k3_1 f3_1 k4_0 f4_0 k4_1 f4_1 k4_2 f4_2 k5_0 f5_0 k5_1 f5_1
    go_cut [20, 158] (fun s20 s158 wx => s20 = .bool (chg f t) ∧ Below w.heap.size w wx ∧ w1.heap.size < wx.heap.size ∧ wx.cell? ⟨w1.heap.size, 0, none⟩ = some (.int .i64 (l + cl + r + q)) ∧ wx.cell? ⟨w1.heap.size, 1, none⟩ = some (.int .i64 l) ∧ wx.cell? ⟨w1.heap.size, 2, none⟩ = some (.int .i64 cl) ∧ wx.cell? ⟨w1.heap.size, 3, none⟩ = some (.int .i64 r) ∧ wx.cell? ⟨w1.heap.size, 4, none⟩ = some (.int .i64 q))
    case first =>
      cases hch : chg f t
      · have e0 := pair_no (a := 0) (b := 1) hch (by decide)
        have e1 := pair_no (a := 1) (b := 2) hch (by decide)
        have e2 := pair_no (a := 2) (b := 2) hch (by decide)
        have e3 := pair_no (a := 2) (b := 3) hch (by decide)
        have e4 := pair_no (a := 2) (b := 4) hch (by decide)
        have HC := Lib.hid hch
        clear hch
        go_wp2_with fail
        refine wp_loop_rounds 6 ?_
        repeat any_goals (rw [rounds_succ]; go_wp2_with fail)
        go_meet
        exact ⟨by rw [HC.out], by go_grown, by (simp; omega), keep_cell (W := w5) (by go_grown) z5_0 xx0, keep_cell (W := w5) (by go_grown) z5_0 xx1, keep_cell (W := w5) (by go_grown) z5_0 xx2, keep_cell (W := w5) (by go_grown) z5_0 xx3, keep_cell (W := w5) (by go_grown) z5_0 xx4⟩
      · have hq := pair_eq
        rcases chg_cases hch with ⟨rfl, rfl⟩ | ⟨rfl, rfl⟩ | ⟨rfl, rfl⟩ | ⟨rfl, rfl⟩ | ⟨rfl, rfl⟩
        all_goals
          clear hch
          go_wp2_with fail
          refine wp_loop_rounds 6 ?_
          repeat any_goals (rw [rounds_succ]; go_wp2_with fail)
          go_meet
          exact ⟨rfl, by go_grown, by (simp; omega), keep_cell (W := w5) (by go_grown) z5_0 xx0, keep_cell (W := w5) (by go_grown) z5_0 xx1, keep_cell (W := w5) (by go_grown) z5_0 xx2, keep_cell (W := w5) (by go_grown) z5_0 xx3, keep_cell (W := w5) (by go_grown) z5_0 xx4⟩
    case rest =>
      clear xx0 xx1 xx2 xx3 xx4
      obtain ⟨rfl, hc6, hz6, x0, x1, x2, x3, x4⟩ := hcut
      have hs6 := hc6.size
      obtain ⟨o1, l1, c1, r1, q1, e1, ha, hno⟩ := HA.out
      have A := Lib.hid ha
      have NO := Lib.hid hno
      clear ha hno
      go_wp2_with fail
      refine Calls.mono (A.out _) ?_
      rintro e w7 ⟨rfl, hb7⟩
      obtain ⟨kk, ff⟩ := bcell hb7
      have hc7 : Below w.heap.size w w7 := under hb7
      clear kk ff
      have hs7 := hc7.size
      clear hc6 hb7
      cases hch : chg f t
      · obtain ⟨rfl, rfl, rfl, rfl, rfl, rfl⟩ := NO.out hch
        go_wp2_with fail
        refine wp_loop_rounds 3 ?_
        rw [rounds_succ]
        go_wp2_with fail
        refine Calls.mono (of_nil _) ?_
        rintro e w8 ⟨rfl, hb8⟩
        obtain ⟨kk, ff⟩ := bcell hb8
        have hc8 : Below w.heap.size w w8 := under hb8
        have k8_0 : ∀ o, w8.cell? ⟨w7.heap.size+1, o, none⟩ = _ := fun o => kk _ o (by first | assumption | omega | (simp; done) | (simp; omega))
        have f8_0 : ∀ o, w8.frozen? ⟨w7.heap.size+1, o, none⟩ = _ := fun o => ff _ o (by first | assumption | omega | (simp; done) | (simp; omega))
        have z8_0 : w7.heap.size+1 < w8.heap.size := by have := hb8.size; (try simp at this); omega
        have k8_1 : ∀ o, w8.cell? ⟨w7.heap.size+1+1, o, none⟩ = _ := fun o => kk _ o (by first | assumption | omega | (simp; done) | (simp; omega))
        have f8_1 : ∀ o, w8.frozen? ⟨w7.heap.size+1+1, o, none⟩ = _ := fun o => ff _ o (by first | assumption | omega | (simp; done) | (simp; omega))
        have z8_1 : w7.heap.size+1+1 < w8.heap.size := by have := hb8.size; (try simp at this); omega
        clear kk ff
        have hs8 := hc8.size
        clear hc7 hb8
        go_wp2_with fail
        rw [rounds_succ]
        go_wp2_with fail
        refine Calls.mono (of_zero _ _ (by simp; omega) (by go_simp)) ?_
        rintro e w9 ⟨rfl, hb9⟩
        obtain ⟨kk, ff⟩ := bcell hb9
        have hc9 : Below w.heap.size w w9 := under hb9
        clear kk ff
        have hs9 := hc9.size
        clear hc8 hb9
        go_wp2_with fail
        rw [rounds_succ]
        go_wp2_with fail
        refine Calls.mono (works _ (hE.on (by go_grown))) ?_
        rintro e w10 ⟨rfl, hb10⟩
        obtain ⟨kk, ff⟩ := bcell hb10
        have hc10 : Below w.heap.size w w10 := under hb10
        clear kk ff
        have hs10 := hc10.size
        clear hc9 hb10
        go_wp2_with fail
        go_returns
        exact ⟨rfl, by go_grown⟩
      · go_wp2_with fail
        refine wp_loop_rounds 3 ?_
        rw [rounds_succ]
        go_wp2_with fail
        refine Calls.mono (of_nil _) ?_
        rintro e w8 ⟨rfl, hb8⟩
        obtain ⟨kk, ff⟩ := bcell hb8
        have hc8 : Below w.heap.size w w8 := under hb8
        have k8_0 : ∀ o, w8.cell? ⟨w7.heap.size+1, o, none⟩ = _ := fun o => kk _ o (by first | assumption | omega | (simp; done) | (simp; omega))
        have f8_0 : ∀ o, w8.frozen? ⟨w7.heap.size+1, o, none⟩ = _ := fun o => ff _ o (by first | assumption | omega | (simp; done) | (simp; omega))
        have z8_0 : w7.heap.size+1 < w8.heap.size := by have := hb8.size; (try simp at this); omega
        have k8_1 : ∀ o, w8.cell? ⟨w7.heap.size+1+1, o, none⟩ = _ := fun o => kk _ o (by first | assumption | omega | (simp; done) | (simp; omega))
        have f8_1 : ∀ o, w8.frozen? ⟨w7.heap.size+1+1, o, none⟩ = _ := fun o => ff _ o (by first | assumption | omega | (simp; done) | (simp; omega))
        have z8_1 : w7.heap.size+1+1 < w8.heap.size := by have := hb8.size; (try simp at this); omega
        clear kk ff
        have hs8 := hc8.size
        clear hc7 hb8
        go_wp2_with fail
        rw [rounds_succ]
        go_wp2_with fail
        refine Calls.mono (of_zero _ _ (by simp; omega) (by go_simp)) ?_
        rintro e w9 ⟨rfl, hb9⟩
        obtain ⟨kk, ff⟩ := bcell hb9
        have hc9 : Below w.heap.size w w9 := under hb9
        clear kk ff
        have hs9 := hc9.size
        clear hc8 hb9
        go_wp2_with fail
        rw [rounds_succ]
        go_wp2_with fail
        refine Calls.mono (works _ (hE.on (by go_grown))) ?_
        rintro e w10 ⟨rfl, hb10⟩
        obtain ⟨kk, ff⟩ := bcell hb10
        have hc10 : Below w.heap.size w w10 := under hb10
        clear kk ff
        have hs10 := hc10.size
        clear hc9 hb10
        go_wp2_with fail
        go_returns
        exact ⟨rfl, by go_grown⟩
theorem addAny_of (o l c r q f t : Int) (h : sOk o l c r q = true) : AddAny o l c r q f t := by
  cases hc : chg f t with
  | false =>
    obtain ⟨l0, l1, c0, c1, r0, r1, q0, q1, hm, rfl⟩ := sOk_parts h
    exact ⟨0, 0, 0, 0, 0, 2, fun w => add_nochg l c r q f t w l0 l1 c0 c1 r0 r1 q0 q1 hm hc, fun _ => ⟨rfl, rfl, rfl, rfl, rfl, rfl⟩⟩
  | true =>
    obtain ⟨o1, l1, c1, r1, q1, e1, ha, -⟩ := add_joint o l c r q f t
    exact ⟨o1, l1, c1, r1, q1, e1, ha, fun h' => by rw [hc] at h'; cases h'⟩
theorem refuses_walk (a b c d h g f t : Int) (w : World) (hE : Env w) (a0 : 0 ≤ a) (a1 : a ≤ 65535) (b0 : 0 ≤ b) (b1 : b ≤ 65535) (c0 : 0 ≤ c) (c1 : c ≤ 65535) (d0 : 0 ≤ d) (d1 : d ≤ 65535) (h0 : 0 ≤ h) (h1 : h ≤ 255) (g0 : 0 ≤ g) (g1 : g ≤ 65535) :
    Ret 5 #[.agg #[.int .u16 a, .int .u16 b, .int .u16 c, .int .u16 d], .int .u8 h, .int .u16 g, .int .i64 f, .int .i64 t] w (.bool true) :=
  ref_any a b c d h g f t _ _ _ _ (h % 6) w hE g0 g1 (by omega) (by omega) (by omega) (by omega) (by omega) (by omega) (by omega) (by omega) (by omega) (by rw [Int.tmod_eq_emod_of_nonneg h0]) (fun w => made_ret a b c d w a0 a1 b0 b1 c0 c1 d0 d1)
    (addAny_of _ _ _ _ _ f t (by unfold sOk; rw [decide_eq_true_iff]; omega))
end Go.Proofs.YtjebicdlbknemaaDoor
