/- fields.Check: its contract. -/
import Derived.Test.YtpegkcmomkdoeaaDoorFieldIt
namespace Go.Proofs.YtpegkcmomkdoeaaDoor
open Go.RowKit Go.Shelf
set_option linter.unusedVariables false
set_option linter.unusedSimpArgs false
attribute [local go_sem] Oper.semAt_some

def fErr (b : Bool) : Int := if b then 2 else 0
abbrev obV (n s0 g0 s1 g1 s2 g2 s3 g3 : Int) (h : Bool) : Value := .agg #[.int .i64 n, .int .i64 s0, .int .u32 g0, .int .i64 s1, .int .u32 g1, .int .i64 s2, .int .u32 g2, .int .i64 s3, .int .u32 g3, .bool h]
abbrev obC (n s0 g0 s1 g1 s2 g2 s3 g3 : Int) (h : Bool) : Array Value := #[.int .i64 n, .int .i64 s0, .int .u32 g0, .int .i64 s1, .int .u32 g1, .int .i64 s2, .int .u32 g2, .int .i64 s3, .int .u32 g3, .bool h]
theorem lt_of_cell {W : World} {b o : Nat} {v : Value} (h : W.cell? ⟨b, o, none⟩ = some v) : b < W.heap.size := by
  rcases Nat.lt_or_ge b W.heap.size with h' | h'
  · exact h'
  · simp [World.cell?, Array.getElem?_eq_none h'] at h
theorem keeps_below {W W' : World} (h : Below W.heap.size W W') : KeepsOthers W W' := ⟨h.size, fun k o hk _ => (h.block k (Array.getElem?_eq_some_iff.1 hk).1).trans hk⟩
theorem full_in (m : Nat) (n s0 g0 s1 g1 s2 g2 s3 g3 : Int) (h : Bool) (w : World) :
    CallsIn Fence.wide m Tryd.prog 30 #[obV n s0 g0 s1 g1 s2 g2 s3 g3 h] w fun e w' => e = .returned (.func (.func 42) #[] #[.pointer (some ⟨w.heap.size, 0, none⟩)]) ∧ w' = w.alloc (.cells (obC n s0 g0 s1 g1 s2 g2 s3 g3 h) 27) := by
  refine callsIn_wide.2 ?_
  go_enter Tryd.func30, Tryd.ntmps30
  go_wp2
  go_returns
  exact ⟨rfl, rfl⟩
theorem full_stops (m Bn : Nat) (hm : 1 ≤ m) (n s0 g0 s1 g1 s2 g2 s3 g3 : Int) (h : Bool) (Kp : World → World → Prop) (w : World) (hB : Bn < w.heap.size) (hc : Row w Bn (obC n s0 g0 s1 g1 s2 g2 s3 g3 h) 27) :
    SeqStopsK Fence.wide m Tryd.prog 42 #[.pointer (some ⟨Bn, 0, none⟩)] encR Kp (fun ys => ys = full (s0, g0) (s1, g1) (s2, g2) (s3, g3)) (fun pre => pre <+: full (s0, g0) (s1, g1) (s2, g2) (s3, g3)) 4 w := fun l J Jx W hW hJ hJx hY h0 =>
  full1_in Fence.wide m trivial rfl hm l Bn s0 g0 s1 g1 s2 g2 s3 g3 J Jx Kp (fun _ => True) (fun _ _ => trivial) W (fun s W o h => hJ s W _ none h (World.grownBy_alloc W o none) (fun r e => by cases e)) (fun s W o h => hJx s W _ none h (World.grownBy_alloc W o none) (fun r e => by cases e)) (fun pre x W1 _ => hY pre x W1)
    (fun j => by
      have hr := (hc.on hW).cell (1 + j)
      rw [hr]
      rcases Nat.lt_or_ge j 8 with hj | hj
      · left
        rcases (by omega : j = 0 ∨ j = 1 ∨ j = 2 ∨ j = 3 ∨ j = 4 ∨ j = 5 ∨ j = 6 ∨ j = 7) with rfl | rfl | rfl | rfl | rfl | rfl | rfl | rfl <;> rfl
      · exact .inr hj) h0
set_option maxRecDepth 100000 in
set_option maxHeartbeats 8000000 in
theorem fcheck_in (n s0 g0 s1 g1 s2 g2 s3 g3 : Int) (h : Bool) (w : World) (n0 : 0 ≤ n) (n1 : n ≤ 4) (hh : (h && decide (0 < n)) = false) :
    CallsIn Fence.wide 3 Tryd.prog 13 #[obV n s0 g0 s1 g1 s2 g2 s3 g3 h] w fun e w' => e = .returned (.int .i64 (fErr ((full (s0, g0) (s1, g1) (s2, g2) (s3, g3)).any (badF n)))) ∧ Below w.heap.size w w' := by
  have d1 : decide (n < 0) = false := by rw [decide_eq_false_iff_not]; omega
  have d2 : decide (4 < n) = false := by rw [decide_eq_false_iff_not]; omega
  have hh' : h = false ∨ (h = true ∧ ¬ 0 < n) := by cases h <;> simp_all
  rcases hh' with rfl | ⟨rfl, hn'⟩
  · have hro : Fence.wide.round = none := rfl
    refine callsIn_of_wp_marks Tryd.func13 rfl trivial ?_ hro
    simp only [Tryd.ntmps13, List.size_toArray, List.length_cons, List.length_nil, Nat.reduceAdd, Nat.reduceSub, Array.replicate_succ, Array.replicate_zero, List.push_toArray, List.append_toArray, List.nil_append, List.cons_append]
    gi_wp2_with (refine ⟨trivial, ?_⟩; gi_at_call 30; refine (full_in _ _ _ _ _ _ _ _ _ _ _ _).mono ?_; rintro e w' ⟨rfl, rfl⟩)
    have r0 : Row (((w.alloc (.cells (obC n s0 g0 s1 g1 s2 g2 s3 g3 false) 27)).alloc (.cells #[.int .i64 0] 28)).alloc (.cells (obC n s0 g0 s1 g1 s2 g2 s3 g3 false) 27)) w.heap.size (obC n s0 g0 s1 g1 s2 g2 s3 g3 false) 27 := (Row.new.on (below_alloc _ _)).on (below_alloc _ _)
    have r1 : Row (((w.alloc (.cells (obC n s0 g0 s1 g1 s2 g2 s3 g3 false) 27)).alloc (.cells #[.int .i64 0] 28)).alloc (.cells (obC n s0 g0 s1 g1 s2 g2 s3 g3 false) 27)) (w.heap.size + 1) #[.int .i64 0] 28 := by
      have := (Row.new (W := w.alloc (.cells (obC n s0 g0 s1 g1 s2 g2 s3 g3 false) 27)) (cs := #[.int .i64 0]) (t := 28)).on (below_alloc _ (.cells (obC n s0 g0 s1 g1 s2 g2 s3 g3 false) 27))
      simpa using this
    have r2 : Row (((w.alloc (.cells (obC n s0 g0 s1 g1 s2 g2 s3 g3 false) 27)).alloc (.cells #[.int .i64 0] 28)).alloc (.cells (obC n s0 g0 s1 g1 s2 g2 s3 g3 false) 27)) (w.heap.size + 1 + 1) (obC n s0 g0 s1 g1 s2 g2 s3 g3 false) 27 := by
      have := (Row.new (W := (w.alloc (.cells (obC n s0 g0 s1 g1 s2 g2 s3 g3 false) 27)).alloc (.cells #[.int .i64 0] 28)) (cs := obC n s0 g0 s1 g1 s2 g2 s3 g3 false) (t := 27))
      simpa using this
    have hB0 : Below w.heap.size w (((w.alloc (.cells (obC n s0 g0 s1 g1 s2 g2 s3 g3 false) 27)).alloc (.cells #[.int .i64 0] 28)).alloc (.cells (obC n s0 g0 s1 g1 s2 g2 s3 g3 false) 27)) := by go_grown
    obtain ⟨W0, hW0⟩ : ∃ W0, (((w.alloc (.cells (obC n s0 g0 s1 g1 s2 g2 s3 g3 false) 27)).alloc (.cells #[.int .i64 0] 28)).alloc (.cells (obC n s0 g0 s1 g1 s2 g2 s3 g3 false) 27)) = W0 := ⟨_, rfl⟩
    rw [hW0] at r0 r1 r2 hB0
    simp only [obC] at hW0
    rw [hW0]
    clear hW0
    have hsz := r2.lt
    refine wpIn_rangeFunc_ownH hro (by omega) (gf := 42) (lb := #[.pointer (some ⟨w.heap.size + 1 + 1, 0, none⟩)]) rfl trivial (enters_of Tryd.func42 (by kernel_rfl) rfl)
      (full_stops 2 (w.heap.size + 1 + 1) (by omega) n s0 g0 s1 g1 s2 g2 s3 g3 false (Below w.heap.size) W0 hsz r2) belowK_t (belowK_b (by omega)) (Below.refl _ _) (fun _ => rfl)
      (fun pre W => (W.cell? ⟨w.heap.size, 0, none⟩ = some (.int .i64 n) ∧ W.cell? ⟨w.heap.size + 1, 0, none⟩ = some (.int .i64 0) ∧ W.frozen? ⟨w.heap.size + 1, 0, none⟩ = false ∧ pre.any (badF n) = false) ∧ Below w.heap.size w W)
      (fun c pre W => (c = .ret ∧ pre.any (badF n) = true ∧ W.cell? ⟨w.heap.size + 1, 0, none⟩ = some (.int .i64 2)) ∧ Below w.heap.size w W)
      (OwnFrom.and (Own.from (fun s A B row hs hg hr => ⟨cell_kept hs.1 hg hr, cell_kept hs.2.1 hg hr, (frozen_kept hs.2.1 hg hr).trans hs.2.2.1, hs.2.2.2⟩) _) (ownFrom_below (Nat.le_refl _) (by omega)))
      (fun c => OwnFrom.and (Own.from (fun s A B row hs hg hr => ⟨hs.1, hs.2.1, cell_kept hs.2.2 hg hr⟩) _) (ownFrom_below (Nat.le_refl _) (by omega)))
      ⟨⟨r0.cell 0, r1.cell 0, r1.free 0, rfl⟩, hB0⟩
      (fun x a' W => ∃ Bx, w.heap.size + 1 < Bx ∧ W.cell? ⟨Bx, 0, none⟩ = some (.int .i64 x.2.1) ∧ W.cell? ⟨Bx, 1, none⟩ = some (.int .u32 x.2.2) ∧ a' = { tmps := #[obV n s0 g0 s1 g1 s2 g2 s3 g3 false, .pointer (some ⟨w.heap.size, 0, none⟩), .pointer (some ⟨w.heap.size + 1, 0, none⟩), .int .i64 x.1, .pointer (some ⟨Bx, 0, none⟩), .pointer (some ⟨w.heap.size, 0, none⟩), .int .i64 n, .bool false, .bool false, .pointer (some ⟨w.heap.size, 0, none⟩), .int .i64 n, .bool false, .bool false, .bool false, .pointer (some ⟨w.heap.size, 9, none⟩), .bool false, .bool false, undef, undef, undef, .bool false, .bool false, .agg #[.int .i64 n, .int .i64 s0, .int .u32 g0, .int .i64 s1, .int .u32 g1, .int .i64 s2, .int .u32 g2, .int .i64 s3, .int .u32 g3, .bool false], .func (.func 42) #[] #[.pointer (some ⟨w.heap.size + 1 + 1, 0, none⟩)], .int .i64 x.1, .agg #[.int .i64 x.2.1, .int .u32 x.2.2], undef, undef, undef, undef, undef, undef, undef, undef], defers := [] })
      (fun x a' _ X Y row hs hg hr => by obtain ⟨Bx, h1, h2, h3, h4⟩ := hs; exact ⟨Bx, h1, cell_kept h2 hg (fun r e => (hr r e).2), cell_kept h3 hg (fun r e => (hr r e).2), h4⟩)
      ?assign ?body ?done ?stop
    case assign =>
      rintro l pre x W K ⟨⟨i0, i1, i2, i3⟩, hB1⟩ hK
      have lt1 : w.heap.size + 1 < W.heap.size := lt_of_cell i1
      gi_wp2
      exact hK _ _ ((KeepsOthers.alloc _ _).from _) ((Below.refl _ W).alloc hB1.size _) ⟨⟨keep_cell (below_alloc W _) (by omega) i0, keep_cell (below_alloc W _) lt1 i1, ((bcell (below_alloc W _)).2 _ _ lt1).trans i2, i3⟩, hB1.alloc hB1.size _⟩ ⟨W.heap.size, lt1, (Row.new (W := W)).cell 0, (Row.new (W := W)).cell 1, rfl⟩
    case body =>
      rintro l pre x a' W hl ⟨r, hr⟩ ⟨⟨i0, i1, i2, i3⟩, hB1⟩ ⟨Bx, hBx, x0, x1, rfl⟩ hlt
      have lt1 : w.heap.size + 1 < W.heap.size := lt_of_cell i1
      have hsW := hB1.size
      have I3 := Lib.hid i3
      clear i3
      by_cases hx : n ≤ x.1
      · have e1 : decide (n ≤ x.1) = true := decide_eq_true hx
        have hbad : badF n x = true := by unfold badF; rw [e1]; rfl
        have HBAD := Lib.hid hbad
        clear hbad
        gi_wp2
        refine ⟨trivial, ?_⟩
        gi_wp2
        exact ⟨(KeepsOthers.setCell _ _ _).from _, ⟨rfl, by rw [List.any_append]; simp [HBAD.out], World.cell?_setCell_same' _ _ _ (by rw [i1]; rfl)⟩, hB1.setCell (p := ⟨w.heap.size + 1, 0, none⟩) (by simp) _⟩
      · have e1 : decide (n ≤ x.1) = false := decide_eq_false hx
        have hbad : badF n x = rWrong x.2 := by unfold badF; rw [e1]; rfl
        have HBAD := Lib.hid hbad
        have hw := fun w => wrong_c x.2.1 x.2.2 w
        clear hbad
        cases hwr : rWrong (x.2.1, x.2.2)
        · rw [hwr] at hw
          have hb0 : badF n x = false := HBAD.out.trans hwr
          have HB0 := Lib.hid hb0
          have HW := Lib.hid hw
          clear hw hwr hb0
          gi_wp2_with (refine ⟨trivial, ?_⟩; gi_at_call 31; refine (CallsIn.inRound l (callsIn_wide.2 (HW.out _))).mono ?_; rintro e w5 ⟨rfl, hb5⟩; have j1 := keep_cell hb5 lt1 i1; have j2 := ((bcell hb5).2 _ 0 lt1).trans i2)
          exact ⟨(keeps_below hb5).from _, hb5.mono hB1.size, ⟨keep_cell hb5 (by omega) i0, j1, j2, by rw [List.any_append, I3.out]; simp [HB0.out]⟩, chain hB1 hb5⟩
        · rw [hwr] at hw
          have hb0 : badF n x = true := HBAD.out.trans hwr
          have HB0 := Lib.hid hb0
          have HW := Lib.hid hw
          clear hw hwr hb0
          gi_wp2_with (refine ⟨trivial, ?_⟩; gi_at_call 31; refine (CallsIn.inRound l (callsIn_wide.2 (HW.out _))).mono ?_; rintro e w5 ⟨rfl, hb5⟩; have j1 := keep_cell hb5 lt1 i1; have j2 := ((bcell hb5).2 _ 0 lt1).trans i2)
          exact ⟨((keeps_below hb5).trans (KeepsOthers.setCell _ _ _)).from _, ⟨rfl, by rw [List.any_append]; simp [HB0.out], World.cell?_setCell_same' _ _ _ (by rw [j1]; rfl)⟩, (chain hB1 hb5).setCell (p := ⟨w.heap.size + 1, 0, none⟩) (by simp) _⟩
    case done =>
      rintro D zs W hD rfl ⟨⟨i0, i1, i2, i3⟩, hB1⟩ hK
      have I3 := Lib.hid i3
      clear i3
      have hK' := (KeepsOthers.setCell W ⟨w.heap.size + 1, 0, none⟩ (.int .i64 0)).same D _ hK rfl
      gi_wp2
      refine ⟨by simp, .inl ⟨_, _, rfl, run_takeDeferred hK', ?_⟩⟩
      have hc5 := cell_kept (World.cell?_setCell_same' W ⟨w.heap.size + 1, 0, none⟩ (.int .i64 0) (by rw [i1]; rfl)) (grownBy_putObj' _ D (.deferred none)) (fun r e => by cases e; exact ⟨_, hK', rfl⟩)
      refine ⟨.int .i64 0, ?_, by rw [I3.out]; rfl, (hB1.setCell (p := ⟨w.heap.size + 1, 0, none⟩) (by simp) _).trans (belowK_b (w := w) (Nat.le_refl _) _ D _ _ (by omega) hK' rfl rfl)⟩
      simp [results, Tryd.f13, go_sem, hc5]
    case stop =>
      rintro D c pre W hD hpre ⟨⟨rfl, hbad, i1⟩, hB1⟩ hK
      have hany : (full (s0, g0) (s1, g1) (s2, g2) (s3, g3)).any (badF n) = true := by
        obtain ⟨t, ht⟩ := hpre
        rw [← ht, List.any_append, hbad]
        rfl
      have HA := Lib.hid hany
      clear hbad hpre hany
      gi_wp2
      refine ⟨by simp, .inl ⟨_, _, rfl, run_takeDeferred hK, ?_⟩⟩
      have hc5 := cell_kept i1 (grownBy_putObj' _ D (.deferred none)) (fun r e => by cases e; exact ⟨_, hK, rfl⟩)
      refine ⟨.int .i64 2, ?_, by rw [HA.out]; rfl, hB1.trans (belowK_b (w := w) (Nat.le_refl _) W D _ _ (by omega) hK rfl rfl)⟩
      simp [results, Tryd.f13, go_sem, hc5]
  · have d3 : decide (0 < n) = false := decide_eq_false hn'
    have hro : Fence.wide.round = none := rfl
    clear hn'
    refine callsIn_of_wp_marks Tryd.func13 rfl trivial ?_ hro
    simp only [Tryd.ntmps13, List.size_toArray, List.length_cons, List.length_nil, Nat.reduceAdd, Nat.reduceSub, Array.replicate_succ, Array.replicate_zero, List.push_toArray, List.append_toArray, List.nil_append, List.cons_append]
    gi_wp2_with (refine ⟨trivial, ?_⟩; gi_at_call 30; refine (full_in _ _ _ _ _ _ _ _ _ _ _ _).mono ?_; rintro e w' ⟨rfl, rfl⟩)
    have r0 : Row (((w.alloc (.cells (obC n s0 g0 s1 g1 s2 g2 s3 g3 true) 27)).alloc (.cells #[.int .i64 0] 28)).alloc (.cells (obC n s0 g0 s1 g1 s2 g2 s3 g3 true) 27)) w.heap.size (obC n s0 g0 s1 g1 s2 g2 s3 g3 true) 27 := (Row.new.on (below_alloc _ _)).on (below_alloc _ _)
    have r1 : Row (((w.alloc (.cells (obC n s0 g0 s1 g1 s2 g2 s3 g3 true) 27)).alloc (.cells #[.int .i64 0] 28)).alloc (.cells (obC n s0 g0 s1 g1 s2 g2 s3 g3 true) 27)) (w.heap.size + 1) #[.int .i64 0] 28 := by
      have := (Row.new (W := w.alloc (.cells (obC n s0 g0 s1 g1 s2 g2 s3 g3 true) 27)) (cs := #[.int .i64 0]) (t := 28)).on (below_alloc _ (.cells (obC n s0 g0 s1 g1 s2 g2 s3 g3 true) 27))
      simpa using this
    have r2 : Row (((w.alloc (.cells (obC n s0 g0 s1 g1 s2 g2 s3 g3 true) 27)).alloc (.cells #[.int .i64 0] 28)).alloc (.cells (obC n s0 g0 s1 g1 s2 g2 s3 g3 true) 27)) (w.heap.size + 1 + 1) (obC n s0 g0 s1 g1 s2 g2 s3 g3 true) 27 := by
      have := (Row.new (W := (w.alloc (.cells (obC n s0 g0 s1 g1 s2 g2 s3 g3 true) 27)).alloc (.cells #[.int .i64 0] 28)) (cs := obC n s0 g0 s1 g1 s2 g2 s3 g3 true) (t := 27))
      simpa using this
    have hB0 : Below w.heap.size w (((w.alloc (.cells (obC n s0 g0 s1 g1 s2 g2 s3 g3 true) 27)).alloc (.cells #[.int .i64 0] 28)).alloc (.cells (obC n s0 g0 s1 g1 s2 g2 s3 g3 true) 27)) := by go_grown
    obtain ⟨W0, hW0⟩ : ∃ W0, (((w.alloc (.cells (obC n s0 g0 s1 g1 s2 g2 s3 g3 true) 27)).alloc (.cells #[.int .i64 0] 28)).alloc (.cells (obC n s0 g0 s1 g1 s2 g2 s3 g3 true) 27)) = W0 := ⟨_, rfl⟩
    rw [hW0] at r0 r1 r2 hB0
    simp only [obC] at hW0
    rw [hW0]
    clear hW0
    have hsz := r2.lt
    refine wpIn_rangeFunc_ownH hro (by omega) (gf := 42) (lb := #[.pointer (some ⟨w.heap.size + 1 + 1, 0, none⟩)]) rfl trivial (enters_of Tryd.func42 (by kernel_rfl) rfl)
      (full_stops 2 (w.heap.size + 1 + 1) (by omega) n s0 g0 s1 g1 s2 g2 s3 g3 true (Below w.heap.size) W0 hsz r2) belowK_t (belowK_b (by omega)) (Below.refl _ _) (fun _ => rfl)
      (fun pre W => (W.cell? ⟨w.heap.size, 0, none⟩ = some (.int .i64 n) ∧ W.cell? ⟨w.heap.size + 1, 0, none⟩ = some (.int .i64 0) ∧ W.frozen? ⟨w.heap.size + 1, 0, none⟩ = false ∧ pre.any (badF n) = false) ∧ Below w.heap.size w W)
      (fun c pre W => (c = .ret ∧ pre.any (badF n) = true ∧ W.cell? ⟨w.heap.size + 1, 0, none⟩ = some (.int .i64 2)) ∧ Below w.heap.size w W)
      (OwnFrom.and (Own.from (fun s A B row hs hg hr => ⟨cell_kept hs.1 hg hr, cell_kept hs.2.1 hg hr, (frozen_kept hs.2.1 hg hr).trans hs.2.2.1, hs.2.2.2⟩) _) (ownFrom_below (Nat.le_refl _) (by omega)))
      (fun c => OwnFrom.and (Own.from (fun s A B row hs hg hr => ⟨hs.1, hs.2.1, cell_kept hs.2.2 hg hr⟩) _) (ownFrom_below (Nat.le_refl _) (by omega)))
      ⟨⟨r0.cell 0, r1.cell 0, r1.free 0, rfl⟩, hB0⟩
      (fun x a' W => ∃ Bx, w.heap.size + 1 < Bx ∧ W.cell? ⟨Bx, 0, none⟩ = some (.int .i64 x.2.1) ∧ W.cell? ⟨Bx, 1, none⟩ = some (.int .u32 x.2.2) ∧ a' = { tmps := #[obV n s0 g0 s1 g1 s2 g2 s3 g3 true, .pointer (some ⟨w.heap.size, 0, none⟩), .pointer (some ⟨w.heap.size + 1, 0, none⟩), .int .i64 x.1, .pointer (some ⟨Bx, 0, none⟩), .pointer (some ⟨w.heap.size, 0, none⟩), .int .i64 n, .bool false, .bool false, .pointer (some ⟨w.heap.size, 0, none⟩), .int .i64 n, .bool false, .bool false, .bool false, .pointer (some ⟨w.heap.size, 9, none⟩), .bool true, .bool true, .pointer (some ⟨w.heap.size, 0, none⟩), .int .i64 n, .bool false, .bool false, .bool false, .agg #[.int .i64 n, .int .i64 s0, .int .u32 g0, .int .i64 s1, .int .u32 g1, .int .i64 s2, .int .u32 g2, .int .i64 s3, .int .u32 g3, .bool true], .func (.func 42) #[] #[.pointer (some ⟨w.heap.size + 1 + 1, 0, none⟩)], .int .i64 x.1, .agg #[.int .i64 x.2.1, .int .u32 x.2.2], undef, undef, undef, undef, undef, undef, undef, undef], defers := [] })
      (fun x a' _ X Y row hs hg hr => by obtain ⟨Bx, h1, h2, h3, h4⟩ := hs; exact ⟨Bx, h1, cell_kept h2 hg (fun r e => (hr r e).2), cell_kept h3 hg (fun r e => (hr r e).2), h4⟩)
      ?assign ?body ?done ?stop
    case assign =>
      rintro l pre x W K ⟨⟨i0, i1, i2, i3⟩, hB1⟩ hK
      have lt1 : w.heap.size + 1 < W.heap.size := lt_of_cell i1
      gi_wp2
      exact hK _ _ ((KeepsOthers.alloc _ _).from _) ((Below.refl _ W).alloc hB1.size _) ⟨⟨keep_cell (below_alloc W _) (by omega) i0, keep_cell (below_alloc W _) lt1 i1, ((bcell (below_alloc W _)).2 _ _ lt1).trans i2, i3⟩, hB1.alloc hB1.size _⟩ ⟨W.heap.size, lt1, (Row.new (W := W)).cell 0, (Row.new (W := W)).cell 1, rfl⟩
    case body =>
      rintro l pre x a' W hl ⟨r, hr⟩ ⟨⟨i0, i1, i2, i3⟩, hB1⟩ ⟨Bx, hBx, x0, x1, rfl⟩ hlt
      have lt1 : w.heap.size + 1 < W.heap.size := lt_of_cell i1
      have hsW := hB1.size
      have I3 := Lib.hid i3
      clear i3
      by_cases hx : n ≤ x.1
      · have e1 : decide (n ≤ x.1) = true := decide_eq_true hx
        have hbad : badF n x = true := by unfold badF; rw [e1]; rfl
        have HBAD := Lib.hid hbad
        clear hbad
        gi_wp2
        refine ⟨trivial, ?_⟩
        gi_wp2
        exact ⟨(KeepsOthers.setCell _ _ _).from _, ⟨rfl, by rw [List.any_append]; simp [HBAD.out], World.cell?_setCell_same' _ _ _ (by rw [i1]; rfl)⟩, hB1.setCell (p := ⟨w.heap.size + 1, 0, none⟩) (by simp) _⟩
      · have e1 : decide (n ≤ x.1) = false := decide_eq_false hx
        have hbad : badF n x = rWrong x.2 := by unfold badF; rw [e1]; rfl
        have HBAD := Lib.hid hbad
        have hw := fun w => wrong_c x.2.1 x.2.2 w
        clear hbad
        cases hwr : rWrong (x.2.1, x.2.2)
        · rw [hwr] at hw
          have hb0 : badF n x = false := HBAD.out.trans hwr
          have HB0 := Lib.hid hb0
          have HW := Lib.hid hw
          clear hw hwr hb0
          gi_wp2_with (refine ⟨trivial, ?_⟩; gi_at_call 31; refine (CallsIn.inRound l (callsIn_wide.2 (HW.out _))).mono ?_; rintro e w5 ⟨rfl, hb5⟩; have j1 := keep_cell hb5 lt1 i1; have j2 := ((bcell hb5).2 _ 0 lt1).trans i2)
          exact ⟨(keeps_below hb5).from _, hb5.mono hB1.size, ⟨keep_cell hb5 (by omega) i0, j1, j2, by rw [List.any_append, I3.out]; simp [HB0.out]⟩, chain hB1 hb5⟩
        · rw [hwr] at hw
          have hb0 : badF n x = true := HBAD.out.trans hwr
          have HB0 := Lib.hid hb0
          have HW := Lib.hid hw
          clear hw hwr hb0
          gi_wp2_with (refine ⟨trivial, ?_⟩; gi_at_call 31; refine (CallsIn.inRound l (callsIn_wide.2 (HW.out _))).mono ?_; rintro e w5 ⟨rfl, hb5⟩; have j1 := keep_cell hb5 lt1 i1; have j2 := ((bcell hb5).2 _ 0 lt1).trans i2)
          exact ⟨((keeps_below hb5).trans (KeepsOthers.setCell _ _ _)).from _, ⟨rfl, by rw [List.any_append]; simp [HB0.out], World.cell?_setCell_same' _ _ _ (by rw [j1]; rfl)⟩, (chain hB1 hb5).setCell (p := ⟨w.heap.size + 1, 0, none⟩) (by simp) _⟩
    case done =>
      rintro D zs W hD rfl ⟨⟨i0, i1, i2, i3⟩, hB1⟩ hK
      have I3 := Lib.hid i3
      clear i3
      have hK' := (KeepsOthers.setCell W ⟨w.heap.size + 1, 0, none⟩ (.int .i64 0)).same D _ hK rfl
      gi_wp2
      refine ⟨by simp, .inl ⟨_, _, rfl, run_takeDeferred hK', ?_⟩⟩
      have hc5 := cell_kept (World.cell?_setCell_same' W ⟨w.heap.size + 1, 0, none⟩ (.int .i64 0) (by rw [i1]; rfl)) (grownBy_putObj' _ D (.deferred none)) (fun r e => by cases e; exact ⟨_, hK', rfl⟩)
      refine ⟨.int .i64 0, ?_, by rw [I3.out]; rfl, (hB1.setCell (p := ⟨w.heap.size + 1, 0, none⟩) (by simp) _).trans (belowK_b (w := w) (Nat.le_refl _) _ D _ _ (by omega) hK' rfl rfl)⟩
      simp [results, Tryd.f13, go_sem, hc5]
    case stop =>
      rintro D c pre W hD hpre ⟨⟨rfl, hbad, i1⟩, hB1⟩ hK
      have hany : (full (s0, g0) (s1, g1) (s2, g2) (s3, g3)).any (badF n) = true := by
        obtain ⟨t, ht⟩ := hpre
        rw [← ht, List.any_append, hbad]
        rfl
      have HA := Lib.hid hany
      clear hbad hpre hany
      gi_wp2
      refine ⟨by simp, .inl ⟨_, _, rfl, run_takeDeferred hK, ?_⟩⟩
      have hc5 := cell_kept i1 (grownBy_putObj' _ D (.deferred none)) (fun r e => by cases e; exact ⟨_, hK, rfl⟩)
      refine ⟨.int .i64 2, ?_, by rw [HA.out]; rfl, hB1.trans (belowK_b (w := w) (Nat.le_refl _) W D _ _ (by omega) hK rfl rfl)⟩
      simp [results, Tryd.f13, go_sem, hc5]
/-- fields.Check: whatever the object. -/
theorem fcheck_range (n s0 g0 s1 g1 s2 g2 s3 g3 : Int) (h : Bool) (w : World) (hn : n < 0 ∨ 4 < n ∨ (h = true ∧ 0 < n)) : Ret 13 #[obV n s0 g0 s1 g1 s2 g2 s3 g3 h] w (.int .i64 2) := by
  have h3 : n < 0 ∨ (0 ≤ n ∧ 4 < n) ∨ (0 ≤ n ∧ n ≤ 4 ∧ h = true ∧ 0 < n) := by
    rcases hn with hl | hl | ⟨hl, h'⟩
    · exact .inl hl
    · exact .inr (.inl ⟨by omega, hl⟩)
    · by_cases h4 : 4 < n
      · exact .inr (.inl ⟨by omega, h4⟩)
      · exact .inr (.inr ⟨by omega, by omega, hl, h'⟩)
  rcases h3 with hn | ⟨h0, hn⟩ | ⟨h0, h1, rfl, hn⟩
  all_goals
    go_enter Tryd.func13, Tryd.ntmps13
    go_wp2_with fail
    go_returns
    exact ⟨rfl, by go_grown⟩
theorem fcheck_c (n s0 g0 s1 g1 s2 g2 s3 g3 : Int) (h : Bool) (w : World) : Ret 13 #[obV n s0 g0 s1 g1 s2 g2 s3 g3 h] w (.int .i64 (oErr n (s0, g0) (s1, g1) (s2, g2) (s3, g3) h)) := by
  by_cases hn : n < 0 ∨ 4 < n ∨ (h = true ∧ 0 < n)
  · refine (fcheck_range n s0 g0 s1 g1 s2 g2 s3 g3 h w hn).to ?_
    unfold oErr oOk
    rcases hn with h1 | h1 | ⟨rfl, h1⟩
    · have e : decide (0 ≤ n ∧ n ≤ 4) = false := by rw [decide_eq_false_iff_not]; omega
      rw [e]; rfl
    · have e : decide (0 ≤ n ∧ n ≤ 4) = false := by rw [decide_eq_false_iff_not]; omega
      rw [e]; rfl
    · have e : decide (0 < n) = true := decide_eq_true h1
      rw [e]; simp
  · have hh : (h && decide (0 < n)) = false := by
      cases h
      · rfl
      · simp at hn ⊢; omega
    have hc := callsIn_wide.1 (fcheck_in n s0 g0 s1 g1 s2 g2 s3 g3 h w (by omega) (by omega) hh)
    refine Ret.to hc ?_
    unfold oErr oOk fErr
    have e : decide (0 ≤ n ∧ n ≤ 4) = true := decide_eq_true (by omega)
    rw [full_all, e, hh]
    simp only [Bool.not_false, Bool.and_true, Bool.true_and]
    generalize (fOk n 0 (s0, g0) && fOk n 1 (s1, g1) && fOk n 2 (s2, g2) && fOk n 3 (s3, g3)) = z
    cases z <;> rfl
end Go.Proofs.YtpegkcmomkdoeaaDoor
