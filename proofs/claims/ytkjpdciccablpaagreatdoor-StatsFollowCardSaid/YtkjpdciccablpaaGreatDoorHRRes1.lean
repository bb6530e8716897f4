/- The reference's functions on resources: their contracts. -/
import Derived.Test.YtkjpdciccablpaaGreatDoorHRes3
import Derived.Test.YtkjpdciccablpaaGreatDoorL1a
import Derived.Test.YtkjpdciccablpaaGreatDoorL0a
namespace Go.Proofs.YtkjpdciccablpaaGreatDoor
open Go.RowKit
set_option linter.unusedVariables false
set_option linter.unusedSimpArgs false
theorem rtime_c (n : Int) (w : World) : Ret 75 #[.int .i64 n] w (.bool (isT n)) := by
  unfold isT
  by_cases h : 0 ≤ n
  · rw [decide_eq_true h]
    go_enter Tryz.func75, Tryz.ntmps75
    go_wp2_with fail
    go_returns
    exact ⟨rfl, Below.refl _ _⟩
  · rw [decide_eq_false h]
    go_enter Tryz.func75, Tryz.ntmps75
    go_wp2_with fail
    go_returns
    exact ⟨rfl, Below.refl _ _⟩
theorem rwhy_c (n : Int) (w : World) : Ret 74 #[.int .i64 n] w (.bool (inB n 1 3)) := by
  unfold inB
  by_cases h : 1 ≤ n
  · rw [decide_eq_true h]
    go_enter Tryz.func74, Tryz.ntmps74
    go_wp2_with fail
    go_returns
    exact ⟨rfl, Below.refl _ _⟩
  · rw [decide_eq_false h]
    go_enter Tryz.func74, Tryz.ntmps74
    go_wp2_with fail
    go_returns
    exact ⟨rfl, Below.refl _ _⟩
theorem pOk_iff {k i g st wy tr nx : Int} : pOk k i g st wy tr nx = true ↔ dOk 64 k i g = true ∧ (1 ≤ st ∧ st ≤ 4) ∧ (st = 1 → wy = 0 ∧ tr = 0 ∧ nx = 0) ∧ (st ≠ 1 → (1 ≤ wy ∧ wy ≤ 3) ∧ (0 ≤ tr ∧ tr ≤ 10000) ∧ (0 ≤ nx ∧ nx ≤ 1099511627776) ∧ (st = 2 ∨ nx = 0)) := by
  unfold pOk
  by_cases h1 : st = 1
  · subst h1
    simp only [if_true, Bool.and_eq_true, inB_iff, isT_iff, decide_eq_true_iff]
    constructor
    · rintro ⟨a, b, c, d, e, f⟩
      exact ⟨a, b, fun _ => ⟨by omega, by omega, f⟩, fun h => absurd rfl h⟩
    · rintro ⟨a, b, c, d⟩
      obtain ⟨c1, c2, c3⟩ := c (by trivial)
      exact ⟨a, b, by omega, by omega, by omega, c3⟩
  · rw [if_neg h1]
    simp only [Bool.and_eq_true, Bool.or_eq_true, inB_iff, isT_iff, decide_eq_true_iff]
    constructor
    · rintro ⟨a, b, c, d, e, f⟩
      exact ⟨a, b, fun h => absurd h h1, fun _ => ⟨c, d, e, f⟩⟩
    · rintro ⟨a, b, c, d⟩
      obtain ⟨c1, c2, c3, c4⟩ := d h1
      exact ⟨a, b, c1, c2, c3, c4⟩
theorem pOk_no {k i g st wy tr nx : Int} (h : ¬ pOk k i g st wy tr nx = true) : pOk k i g st wy tr nx = false := by
  cases hx : pOk k i g st wy tr nx
  · rfl
  · exact absurd hx h

set_option maxHeartbeats 8000000 in
set_option maxRecDepth 20000 in
theorem rposs_d (k i g st wy tr nx : Int) (tag : ByteArray) (w : World) (g0 : 0 ≤ g) (hs : tag.size ≤ 1000000) (hd : dOk 64 k i g = false) : Ret 94 #[rV k i g st wy tr nx tag] w (.bool false) := by
  have c0 := fun w => ro_check k i g w g0
  rw [dErr_bad hd] at c0
  have C0 := Lib.hid c0
  clear c0
  go_enter Tryz.func94, Tryz.ntmps94
  go_wp2_with fail
  refine Calls.mono (C0.out _) ?_
  rintro e w1 ⟨rfl, hb⟩
  have r1 := (Row.new (W := w) (cs := (rC k i g st wy tr nx tag)) (t := 94)).on hb
  have hc : Below w.heap.size w w1 := under hb
  clear hb
  have y0 := r1.cell
  have y1 := r1.lt
  go_wp2_with fail
  go_returns
  exact ⟨rfl, hc⟩

set_option maxHeartbeats 8000000 in
set_option maxRecDepth 20000 in
theorem rposs_lo (k i g st wy tr nx : Int) (tag : ByteArray) (w : World) (g0 : 0 ≤ g) (hs : tag.size ≤ 1000000) (hd : dOk 64 k i g = true) (h : st < 1) : Ret 94 #[rV k i g st wy tr nx tag] w (.bool false) := by
  have p0 : decide (st < 1) = true := decide_eq_true (by omega)
  have c0 := fun w => ro_check k i g w g0
  rw [dErr_ok hd] at c0
  have C0 := Lib.hid c0
  clear c0
  go_enter Tryz.func94, Tryz.ntmps94
  go_wp2_with fail
  refine Calls.mono (C0.out _) ?_
  rintro e w1 ⟨rfl, hb⟩
  have r1 := (Row.new (W := w) (cs := (rC k i g st wy tr nx tag)) (t := 94)).on hb
  have hc : Below w.heap.size w w1 := under hb
  clear hb
  have y0 := r1.cell
  have y1 := r1.lt
  go_wp2_with fail
  go_returns
  exact ⟨rfl, hc⟩

set_option maxHeartbeats 8000000 in
set_option maxRecDepth 20000 in
theorem rposs_hi (k i g st wy tr nx : Int) (tag : ByteArray) (w : World) (g0 : 0 ≤ g) (hs : tag.size ≤ 1000000) (hd : dOk 64 k i g = true) (h : 4 < st) : Ret 94 #[rV k i g st wy tr nx tag] w (.bool false) := by
  have p0 : decide (st < 1) = false := decide_eq_false (by omega)
  have p1 : decide ((4 : Int) < st) = true := decide_eq_true (by omega)
  have c0 := fun w => ro_check k i g w g0
  rw [dErr_ok hd] at c0
  have C0 := Lib.hid c0
  clear c0
  go_enter Tryz.func94, Tryz.ntmps94
  go_wp2_with fail
  refine Calls.mono (C0.out _) ?_
  rintro e w1 ⟨rfl, hb⟩
  have r1 := (Row.new (W := w) (cs := (rC k i g st wy tr nx tag)) (t := 94)).on hb
  have hc : Below w.heap.size w w1 := under hb
  clear hb
  have y0 := r1.cell
  have y1 := r1.lt
  go_wp2_with fail
  go_returns
  exact ⟨rfl, hc⟩

set_option maxHeartbeats 8000000 in
set_option maxRecDepth 20000 in
theorem rposs_1a (k i g st wy tr nx : Int) (tag : ByteArray) (w : World) (g0 : 0 ≤ g) (hs : tag.size ≤ 1000000) (hd : dOk 64 k i g = true) (h : st = 1) (h1 : wy ≠ 0) : Ret 94 #[rV k i g st wy tr nx tag] w (.bool false) := by
  have p0 : decide (st < 1) = false := decide_eq_false (by omega)
  have p1 : decide ((4 : Int) < st) = false := decide_eq_false (by omega)
  have p2 : (st == 1) = true := by rw [beq_iff_eq]; omega
  have p3 : (wy == 0) = false := by rw [beq_eq_false_iff_ne]; omega
  have c0 := fun w => ro_check k i g w g0
  rw [dErr_ok hd] at c0
  have C0 := Lib.hid c0
  clear c0
  clear h
  go_enter Tryz.func94, Tryz.ntmps94
  go_wp2_with fail
  refine Calls.mono (C0.out _) ?_
  rintro e w1 ⟨rfl, hb⟩
  have r1 := (Row.new (W := w) (cs := (rC k i g st wy tr nx tag)) (t := 94)).on hb
  have hc : Below w.heap.size w w1 := under hb
  clear hb
  have y0 := r1.cell
  have y1 := r1.lt
  go_wp2_with fail
  go_returns
  exact ⟨rfl, hc⟩

set_option maxHeartbeats 8000000 in
set_option maxRecDepth 20000 in
theorem rposs_1b (k i g st wy tr nx : Int) (tag : ByteArray) (w : World) (g0 : 0 ≤ g) (hs : tag.size ≤ 1000000) (hd : dOk 64 k i g = true) (h : st = 1) (h1 : wy = 0) (h2 : tr ≠ 0) : Ret 94 #[rV k i g st wy tr nx tag] w (.bool false) := by
  have p0 : decide (st < 1) = false := decide_eq_false (by omega)
  have p1 : decide ((4 : Int) < st) = false := decide_eq_false (by omega)
  have p2 : (st == 1) = true := by rw [beq_iff_eq]; omega
  have p3 : (wy == 0) = true := by rw [beq_iff_eq]; omega
  have p4 : (tr == 0) = false := by rw [beq_eq_false_iff_ne]; omega
  have c0 := fun w => ro_check k i g w g0
  rw [dErr_ok hd] at c0
  have C0 := Lib.hid c0
  clear c0
  clear h h1
  go_enter Tryz.func94, Tryz.ntmps94
  go_wp2_with fail
  refine Calls.mono (C0.out _) ?_
  rintro e w1 ⟨rfl, hb⟩
  have r1 := (Row.new (W := w) (cs := (rC k i g st wy tr nx tag)) (t := 94)).on hb
  have hc : Below w.heap.size w w1 := under hb
  clear hb
  have y0 := r1.cell
  have y1 := r1.lt
  go_wp2_with fail
  go_returns
  exact ⟨rfl, hc⟩

set_option maxHeartbeats 8000000 in
set_option maxRecDepth 20000 in
theorem rposs_1c (k i g st wy tr nx : Int) (tag : ByteArray) (w : World) (g0 : 0 ≤ g) (hs : tag.size ≤ 1000000) (hd : dOk 64 k i g = true) (h : st = 1) (h1 : wy = 0) (h2 : tr = 0) (h3 : nx ≠ 0) : Ret 94 #[rV k i g st wy tr nx tag] w (.bool false) := by
  have p0 : decide (st < 1) = false := decide_eq_false (by omega)
  have p1 : decide ((4 : Int) < st) = false := decide_eq_false (by omega)
  have p2 : (st == 1) = true := by rw [beq_iff_eq]; omega
  have p3 : (wy == 0) = true := by rw [beq_iff_eq]; omega
  have p4 : (tr == 0) = true := by rw [beq_iff_eq]; omega
  have p5 : (nx == 0) = false := by rw [beq_eq_false_iff_ne]; omega
  have c0 := fun w => ro_check k i g w g0
  rw [dErr_ok hd] at c0
  have C0 := Lib.hid c0
  clear c0
  clear h h1 h2
  go_enter Tryz.func94, Tryz.ntmps94
  go_wp2_with fail
  refine Calls.mono (C0.out _) ?_
  rintro e w1 ⟨rfl, hb⟩
  have r1 := (Row.new (W := w) (cs := (rC k i g st wy tr nx tag)) (t := 94)).on hb
  have hc : Below w.heap.size w w1 := under hb
  clear hb
  have y0 := r1.cell
  have y1 := r1.lt
  go_wp2_with fail
  go_returns
  exact ⟨rfl, hc⟩

set_option maxHeartbeats 8000000 in
set_option maxRecDepth 20000 in
theorem rposs_1d (k i g st wy tr nx : Int) (tag : ByteArray) (w : World) (g0 : 0 ≤ g) (hs : tag.size ≤ 1000000) (hd : dOk 64 k i g = true) (h : st = 1) (h1 : wy = 0) (h2 : tr = 0) (h3 : nx = 0) : Ret 94 #[rV k i g st wy tr nx tag] w (.bool true) := by
  have p0 : decide (st < 1) = false := decide_eq_false (by omega)
  have p1 : decide ((4 : Int) < st) = false := decide_eq_false (by omega)
  have p2 : (st == 1) = true := by rw [beq_iff_eq]; omega
  have p3 : (wy == 0) = true := by rw [beq_iff_eq]; omega
  have p4 : (tr == 0) = true := by rw [beq_iff_eq]; omega
  have p5 : (nx == 0) = true := by rw [beq_iff_eq]; omega
  have c0 := fun w => ro_check k i g w g0
  rw [dErr_ok hd] at c0
  have C0 := Lib.hid c0
  clear c0
  clear h h1 h2 h3
  go_enter Tryz.func94, Tryz.ntmps94
  go_wp2_with fail
  refine Calls.mono (C0.out _) ?_
  rintro e w1 ⟨rfl, hb⟩
  have r1 := (Row.new (W := w) (cs := (rC k i g st wy tr nx tag)) (t := 94)).on hb
  have hc : Below w.heap.size w w1 := under hb
  clear hb
  have y0 := r1.cell
  have y1 := r1.lt
  go_wp2_with fail
  go_returns
  exact ⟨rfl, hc⟩

set_option maxHeartbeats 8000000 in
set_option maxRecDepth 20000 in
theorem rposs_2a (k i g st wy tr nx : Int) (tag : ByteArray) (w : World) (g0 : 0 ≤ g) (hs : tag.size ≤ 1000000) (hd : dOk 64 k i g = true) (h : 1 < st) (h4 : st ≤ 4) (h1 : ¬ (1 ≤ wy ∧ wy ≤ 3)) : Ret 94 #[rV k i g st wy tr nx tag] w (.bool false) := by
  have p0 : decide (st < 1) = false := decide_eq_false (by omega)
  have p1 : decide ((4 : Int) < st) = false := decide_eq_false (by omega)
  have p2 : (st == 1) = false := by rw [beq_eq_false_iff_ne]; omega
  have c0 := fun w => ro_check k i g w g0
  rw [dErr_ok hd] at c0
  have C0 := Lib.hid c0
  clear c0
  have c1 := fun w => rwhy_c wy w
  rw [inB_not h1] at c1
  have C1 := Lib.hid c1
  clear c1
  go_enter Tryz.func94, Tryz.ntmps94
  go_wp2_with fail
  refine Calls.mono (C0.out _) ?_
  rintro e w1 ⟨rfl, hb⟩
  have r1 := (Row.new (W := w) (cs := (rC k i g st wy tr nx tag)) (t := 94)).on hb
  have hc : Below w.heap.size w w1 := under hb
  clear hb
  have y0 := r1.cell
  have y1 := r1.lt
  go_wp2_with fail
  clear y0 y1
  refine Calls.mono (C1.out _) ?_
  rintro e w2 ⟨rfl, hb⟩
  replace r1 := r1.on hb
  replace hc := chain hc hb
  clear hb
  have y0 := r1.cell
  have y1 := r1.lt
  go_wp2_with fail
  go_returns
  exact ⟨rfl, hc⟩

set_option maxHeartbeats 8000000 in
set_option maxRecDepth 20000 in
theorem rposs_2b (k i g st wy tr nx : Int) (tag : ByteArray) (w : World) (g0 : 0 ≤ g) (hs : tag.size ≤ 1000000) (hd : dOk 64 k i g = true) (h : 1 < st) (h4 : st ≤ 4) (h1 : 1 ≤ wy ∧ wy ≤ 3) (h2 : tr < 0) : Ret 94 #[rV k i g st wy tr nx tag] w (.bool false) := by
  have p0 : decide (st < 1) = false := decide_eq_false (by omega)
  have p1 : decide ((4 : Int) < st) = false := decide_eq_false (by omega)
  have p2 : (st == 1) = false := by rw [beq_eq_false_iff_ne]; omega
  have p3 : decide (0 ≤ tr) = false := decide_eq_false (by omega)
  have c0 := fun w => ro_check k i g w g0
  rw [dErr_ok hd] at c0
  have C0 := Lib.hid c0
  clear c0
  have c1 := fun w => rwhy_c wy w
  rw [inB_iff.2 h1] at c1
  have C1 := Lib.hid c1
  clear c1
  go_enter Tryz.func94, Tryz.ntmps94
  go_wp2_with fail
  refine Calls.mono (C0.out _) ?_
  rintro e w1 ⟨rfl, hb⟩
  have r1 := (Row.new (W := w) (cs := (rC k i g st wy tr nx tag)) (t := 94)).on hb
  have hc : Below w.heap.size w w1 := under hb
  clear hb
  have y0 := r1.cell
  have y1 := r1.lt
  go_wp2_with fail
  clear y0 y1
  refine Calls.mono (C1.out _) ?_
  rintro e w2 ⟨rfl, hb⟩
  replace r1 := r1.on hb
  replace hc := chain hc hb
  clear hb
  have y0 := r1.cell
  have y1 := r1.lt
  go_wp2_with fail
  go_returns
  exact ⟨rfl, hc⟩

set_option maxHeartbeats 8000000 in
set_option maxRecDepth 20000 in
theorem rposs_2c (k i g st wy tr nx : Int) (tag : ByteArray) (w : World) (g0 : 0 ≤ g) (hs : tag.size ≤ 1000000) (hd : dOk 64 k i g = true) (h : 1 < st) (h4 : st ≤ 4) (h1 : 1 ≤ wy ∧ wy ≤ 3) (h2 : 10000 < tr) : Ret 94 #[rV k i g st wy tr nx tag] w (.bool false) := by
  have p0 : decide (st < 1) = false := decide_eq_false (by omega)
  have p1 : decide ((4 : Int) < st) = false := decide_eq_false (by omega)
  have p2 : (st == 1) = false := by rw [beq_eq_false_iff_ne]; omega
  have p3 : decide (0 ≤ tr) = true := decide_eq_true (by omega)
  have p4 : decide (tr ≤ 10000) = false := decide_eq_false (by omega)
  have c0 := fun w => ro_check k i g w g0
  rw [dErr_ok hd] at c0
  have C0 := Lib.hid c0
  clear c0
  have c1 := fun w => rwhy_c wy w
  rw [inB_iff.2 h1] at c1
  have C1 := Lib.hid c1
  clear c1
  go_enter Tryz.func94, Tryz.ntmps94
  go_wp2_with fail
  refine Calls.mono (C0.out _) ?_
  rintro e w1 ⟨rfl, hb⟩
  have r1 := (Row.new (W := w) (cs := (rC k i g st wy tr nx tag)) (t := 94)).on hb
  have hc : Below w.heap.size w w1 := under hb
  clear hb
  have y0 := r1.cell
  have y1 := r1.lt
  go_wp2_with fail
  clear y0 y1
  refine Calls.mono (C1.out _) ?_
  rintro e w2 ⟨rfl, hb⟩
  replace r1 := r1.on hb
  replace hc := chain hc hb
  clear hb
  have y0 := r1.cell
  have y1 := r1.lt
  go_wp2_with fail
  go_returns
  exact ⟨rfl, hc⟩

set_option maxHeartbeats 8000000 in
set_option maxRecDepth 20000 in
theorem rposs_2d (k i g st wy tr nx : Int) (tag : ByteArray) (w : World) (g0 : 0 ≤ g) (hs : tag.size ≤ 1000000) (hd : dOk 64 k i g = true) (h : 1 < st) (h4 : st ≤ 4) (h1 : 1 ≤ wy ∧ wy ≤ 3) (h2 : 0 ≤ tr ∧ tr ≤ 10000) (h3 : ¬ (0 ≤ nx ∧ nx ≤ 1099511627776)) : Ret 94 #[rV k i g st wy tr nx tag] w (.bool false) := by
  have p0 : decide (st < 1) = false := decide_eq_false (by omega)
  have p1 : decide ((4 : Int) < st) = false := decide_eq_false (by omega)
  have p2 : (st == 1) = false := by rw [beq_eq_false_iff_ne]; omega
  have p3 : decide (0 ≤ tr) = true := decide_eq_true (by omega)
  have p4 : decide (tr ≤ 10000) = true := decide_eq_true (by omega)
  have c0 := fun w => ro_check k i g w g0
  rw [dErr_ok hd] at c0
  have C0 := Lib.hid c0
  clear c0
  have c1 := fun w => rwhy_c wy w
  rw [inB_iff.2 h1] at c1
  have C1 := Lib.hid c1
  clear c1
  have c2 := fun w => rtime_c nx w
  rw [isT_not h3] at c2
  have C2 := Lib.hid c2
  clear c2
  go_enter Tryz.func94, Tryz.ntmps94
  go_wp2_with fail
  refine Calls.mono (C0.out _) ?_
  rintro e w1 ⟨rfl, hb⟩
  have r1 := (Row.new (W := w) (cs := (rC k i g st wy tr nx tag)) (t := 94)).on hb
  have hc : Below w.heap.size w w1 := under hb
  clear hb
  have y0 := r1.cell
  have y1 := r1.lt
  go_wp2_with fail
  clear y0 y1
  refine Calls.mono (C1.out _) ?_
  rintro e w2 ⟨rfl, hb⟩
  replace r1 := r1.on hb
  replace hc := chain hc hb
  clear hb
  have y0 := r1.cell
  have y1 := r1.lt
  go_wp2_with fail
  clear y0 y1
  refine Calls.mono (C2.out _) ?_
  rintro e w3 ⟨rfl, hb⟩
  replace r1 := r1.on hb
  replace hc := chain hc hb
  clear hb
  have y0 := r1.cell
  have y1 := r1.lt
  go_wp2_with fail
  go_returns
  exact ⟨rfl, hc⟩

set_option maxHeartbeats 8000000 in
set_option maxRecDepth 20000 in
theorem rposs_2e (k i g st wy tr nx : Int) (tag : ByteArray) (w : World) (g0 : 0 ≤ g) (hs : tag.size ≤ 1000000) (hd : dOk 64 k i g = true) (h : 1 < st) (h4 : st ≤ 4) (h1 : 1 ≤ wy ∧ wy ≤ 3) (h2 : 0 ≤ tr ∧ tr ≤ 10000) (h3 : 0 ≤ nx ∧ nx ≤ 1099511627776) (h5 : st = 2) : Ret 94 #[rV k i g st wy tr nx tag] w (.bool true) := by
  have p0 : decide (st < 1) = false := decide_eq_false (by omega)
  have p1 : decide ((4 : Int) < st) = false := decide_eq_false (by omega)
  have p2 : (st == 1) = false := by rw [beq_eq_false_iff_ne]; omega
  have p3 : decide (0 ≤ tr) = true := decide_eq_true (by omega)
  have p4 : decide (tr ≤ 10000) = true := decide_eq_true (by omega)
  have p5 : (st == 2) = true := by rw [beq_iff_eq]; omega
  have c0 := fun w => ro_check k i g w g0
  rw [dErr_ok hd] at c0
  have C0 := Lib.hid c0
  clear c0
  have c1 := fun w => rwhy_c wy w
  rw [inB_iff.2 h1] at c1
  have C1 := Lib.hid c1
  clear c1
  have c2 := fun w => rtime_c nx w
  rw [isT_iff.2 h3] at c2
  have C2 := Lib.hid c2
  clear c2
  clear h5
  go_enter Tryz.func94, Tryz.ntmps94
  go_wp2_with fail
  refine Calls.mono (C0.out _) ?_
  rintro e w1 ⟨rfl, hb⟩
  have r1 := (Row.new (W := w) (cs := (rC k i g st wy tr nx tag)) (t := 94)).on hb
  have hc : Below w.heap.size w w1 := under hb
  clear hb
  have y0 := r1.cell
  have y1 := r1.lt
  go_wp2_with fail
  clear y0 y1
  refine Calls.mono (C1.out _) ?_
  rintro e w2 ⟨rfl, hb⟩
  replace r1 := r1.on hb
  replace hc := chain hc hb
  clear hb
  have y0 := r1.cell
  have y1 := r1.lt
  go_wp2_with fail
  clear y0 y1
  refine Calls.mono (C2.out _) ?_
  rintro e w3 ⟨rfl, hb⟩
  replace r1 := r1.on hb
  replace hc := chain hc hb
  clear hb
  have y0 := r1.cell
  have y1 := r1.lt
  go_wp2_with fail
  go_returns
  exact ⟨rfl, hc⟩

set_option maxHeartbeats 8000000 in
set_option maxRecDepth 20000 in
theorem rposs_2f (k i g st wy tr nx : Int) (tag : ByteArray) (w : World) (g0 : 0 ≤ g) (hs : tag.size ≤ 1000000) (hd : dOk 64 k i g = true) (h : 1 < st) (h4 : st ≤ 4) (h1 : 1 ≤ wy ∧ wy ≤ 3) (h2 : 0 ≤ tr ∧ tr ≤ 10000) (h3 : 0 ≤ nx ∧ nx ≤ 1099511627776) (h5 : st ≠ 2) (h6 : nx = 0) : Ret 94 #[rV k i g st wy tr nx tag] w (.bool true) := by
  have p0 : decide (st < 1) = false := decide_eq_false (by omega)
  have p1 : decide ((4 : Int) < st) = false := decide_eq_false (by omega)
  have p2 : (st == 1) = false := by rw [beq_eq_false_iff_ne]; omega
  have p3 : decide (0 ≤ tr) = true := decide_eq_true (by omega)
  have p4 : decide (tr ≤ 10000) = true := decide_eq_true (by omega)
  have p5 : (st == 2) = false := by rw [beq_eq_false_iff_ne]; omega
  have p6 : (nx == 0) = true := by rw [beq_iff_eq]; omega
  have c0 := fun w => ro_check k i g w g0
  rw [dErr_ok hd] at c0
  have C0 := Lib.hid c0
  clear c0
  have c1 := fun w => rwhy_c wy w
  rw [inB_iff.2 h1] at c1
  have C1 := Lib.hid c1
  clear c1
  have c2 := fun w => rtime_c nx w
  rw [isT_iff.2 h3] at c2
  have C2 := Lib.hid c2
  clear c2
  clear h6
  go_enter Tryz.func94, Tryz.ntmps94
  go_wp2_with fail
  refine Calls.mono (C0.out _) ?_
  rintro e w1 ⟨rfl, hb⟩
  have r1 := (Row.new (W := w) (cs := (rC k i g st wy tr nx tag)) (t := 94)).on hb
  have hc : Below w.heap.size w w1 := under hb
  clear hb
  have y0 := r1.cell
  have y1 := r1.lt
  go_wp2_with fail
  clear y0 y1
  refine Calls.mono (C1.out _) ?_
  rintro e w2 ⟨rfl, hb⟩
  replace r1 := r1.on hb
  replace hc := chain hc hb
  clear hb
  have y0 := r1.cell
  have y1 := r1.lt
  go_wp2_with fail
  clear y0 y1
  refine Calls.mono (C2.out _) ?_
  rintro e w3 ⟨rfl, hb⟩
  replace r1 := r1.on hb
  replace hc := chain hc hb
  clear hb
  have y0 := r1.cell
  have y1 := r1.lt
  go_wp2_with fail
  go_returns
  exact ⟨rfl, hc⟩

set_option maxHeartbeats 8000000 in
set_option maxRecDepth 20000 in
theorem rposs_2g (k i g st wy tr nx : Int) (tag : ByteArray) (w : World) (g0 : 0 ≤ g) (hs : tag.size ≤ 1000000) (hd : dOk 64 k i g = true) (h : 1 < st) (h4 : st ≤ 4) (h1 : 1 ≤ wy ∧ wy ≤ 3) (h2 : 0 ≤ tr ∧ tr ≤ 10000) (h3 : 0 ≤ nx ∧ nx ≤ 1099511627776) (h5 : st ≠ 2) (h6 : nx ≠ 0) : Ret 94 #[rV k i g st wy tr nx tag] w (.bool false) := by
  have p0 : decide (st < 1) = false := decide_eq_false (by omega)
  have p1 : decide ((4 : Int) < st) = false := decide_eq_false (by omega)
  have p2 : (st == 1) = false := by rw [beq_eq_false_iff_ne]; omega
  have p3 : decide (0 ≤ tr) = true := decide_eq_true (by omega)
  have p4 : decide (tr ≤ 10000) = true := decide_eq_true (by omega)
  have p5 : (st == 2) = false := by rw [beq_eq_false_iff_ne]; omega
  have p6 : (nx == 0) = false := by rw [beq_eq_false_iff_ne]; omega
  have c0 := fun w => ro_check k i g w g0
  rw [dErr_ok hd] at c0
  have C0 := Lib.hid c0
  clear c0
  have c1 := fun w => rwhy_c wy w
  rw [inB_iff.2 h1] at c1
  have C1 := Lib.hid c1
  clear c1
  have c2 := fun w => rtime_c nx w
  rw [isT_iff.2 h3] at c2
  have C2 := Lib.hid c2
  clear c2
  go_enter Tryz.func94, Tryz.ntmps94
  go_wp2_with fail
  refine Calls.mono (C0.out _) ?_
  rintro e w1 ⟨rfl, hb⟩
  have r1 := (Row.new (W := w) (cs := (rC k i g st wy tr nx tag)) (t := 94)).on hb
  have hc : Below w.heap.size w w1 := under hb
  clear hb
  have y0 := r1.cell
  have y1 := r1.lt
  go_wp2_with fail
  clear y0 y1
  refine Calls.mono (C1.out _) ?_
  rintro e w2 ⟨rfl, hb⟩
  replace r1 := r1.on hb
  replace hc := chain hc hb
  clear hb
  have y0 := r1.cell
  have y1 := r1.lt
  go_wp2_with fail
  clear y0 y1
  refine Calls.mono (C2.out _) ?_
  rintro e w3 ⟨rfl, hb⟩
  replace r1 := r1.on hb
  replace hc := chain hc hb
  clear hb
  have y0 := r1.cell
  have y1 := r1.lt
  go_wp2_with fail
  go_returns
  exact ⟨rfl, hc⟩

theorem rposs_c (k i g st wy tr nx : Int) (tag : ByteArray) (w : World) (g0 : 0 ≤ g) (hs : tag.size ≤ 1000000) : Ret 94 #[rV k i g st wy tr nx tag] w (.bool (pOk k i g st wy tr nx)) := by
  have no : ∀ h : ¬ pOk k i g st wy tr nx = true, Ret 94 #[rV k i g st wy tr nx tag] w (.bool false) → Ret 94 #[rV k i g st wy tr nx tag] w (.bool (pOk k i g st wy tr nx)) := fun h hr => by rw [pOk_no h]; exact hr
  have yes : ∀ h : pOk k i g st wy tr nx = true, Ret 94 #[rV k i g st wy tr nx tag] w (.bool true) → Ret 94 #[rV k i g st wy tr nx tag] w (.bool (pOk k i g st wy tr nx)) := fun h hr => by rw [h]; exact hr
  cases hd : dOk 64 k i g with
  | false => exact no (fun h => by have := (pOk_iff.1 h).1; rw [hd] at this; cases this) (rposs_d k i g st wy tr nx tag w g0 hs hd)
  | true =>
    by_cases a1 : st < 1
    · exact no (fun h => by have := (pOk_iff.1 h).2.1; omega) (rposs_lo k i g st wy tr nx tag w g0 hs hd a1)
    by_cases a2 : 4 < st
    · exact no (fun h => by have := (pOk_iff.1 h).2.1; omega) (rposs_hi k i g st wy tr nx tag w g0 hs hd a2)
    by_cases a3 : st = 1
    · by_cases b1 : wy = 0
      · by_cases b2 : tr = 0
        · by_cases b3 : nx = 0
          · exact yes (pOk_iff.2 ⟨hd, by omega, fun _ => ⟨b1, b2, b3⟩, fun h => absurd a3 h⟩) (rposs_1d k i g st wy tr nx tag w g0 hs hd a3 b1 b2 b3)
          · exact no (fun h => by have := (pOk_iff.1 h).2.2.1 a3; omega) (rposs_1c k i g st wy tr nx tag w g0 hs hd a3 b1 b2 b3)
        · exact no (fun h => by have := (pOk_iff.1 h).2.2.1 a3; omega) (rposs_1b k i g st wy tr nx tag w g0 hs hd a3 b1 b2)
      · exact no (fun h => by have := (pOk_iff.1 h).2.2.1 a3; omega) (rposs_1a k i g st wy tr nx tag w g0 hs hd a3 b1)
    by_cases b1 : 1 ≤ wy ∧ wy ≤ 3
    · by_cases b2 : tr < 0
      · exact no (fun h => by have := (pOk_iff.1 h).2.2.2 a3; omega) (rposs_2b k i g st wy tr nx tag w g0 hs hd (by omega) (by omega) b1 b2)
      by_cases b3 : 10000 < tr
      · exact no (fun h => by have := (pOk_iff.1 h).2.2.2 a3; omega) (rposs_2c k i g st wy tr nx tag w g0 hs hd (by omega) (by omega) b1 b3)
      by_cases b4 : 0 ≤ nx ∧ nx ≤ 1099511627776
      · by_cases b5 : st = 2
        · exact yes (pOk_iff.2 ⟨hd, by omega, fun h => absurd h a3, fun _ => ⟨b1, by omega, b4, .inl b5⟩⟩) (rposs_2e k i g st wy tr nx tag w g0 hs hd (by omega) (by omega) b1 (by omega) b4 b5)
        · by_cases b6 : nx = 0
          · exact yes (pOk_iff.2 ⟨hd, by omega, fun h => absurd h a3, fun _ => ⟨b1, by omega, b4, .inr b6⟩⟩) (rposs_2f k i g st wy tr nx tag w g0 hs hd (by omega) (by omega) b1 (by omega) b4 b5 b6)
          · exact no (fun h => by have := (pOk_iff.1 h).2.2.2 a3; omega) (rposs_2g k i g st wy tr nx tag w g0 hs hd (by omega) (by omega) b1 (by omega) b4 b5 b6)
      · exact no (fun h => by have := (pOk_iff.1 h).2.2.2 a3; omega) (rposs_2d k i g st wy tr nx tag w g0 hs hd (by omega) (by omega) b1 (by omega) b4)
    · exact no (fun h => by have := (pOk_iff.1 h).2.2.2 a3; omega) (rposs_2a k i g st wy tr nx tag w g0 hs hd (by omega) (by omega) b1)
theorem rrerr_c (k i g st wy tr nx : Int) (tag : ByteArray) (w : World) (g0 : 0 ≤ g) (hs : tag.size ≤ 1000000) : Ret 73 #[rV k i g st wy tr nx tag] w (.int .i64 (rErr k i g st wy tr nx tag)) := by
  have c := fun w => rposs_c k i g st wy tr nx tag w g0 hs
  have c2 := fun w => rtcheck_c tag w hs
  unfold rErr
  cases hp : pOk k i g st wy tr nx with
  | false =>
    rw [hp] at c
    have CC := Lib.hid c
    clear c c2
    go_enter Tryz.func73, Tryz.ntmps73
    go_wp2_with fail
    refine Calls.mono (CC.out _) ?_
    rintro e w1 ⟨rfl, hb⟩
    go_wp2_with fail
    go_returns
    exact ⟨rfl, under hb⟩
  | true =>
    rw [hp] at c
    have CC := Lib.hid c
    have C2 := Lib.hid c2
    clear c c2
    go_enter Tryz.func73, Tryz.ntmps73
    go_wp2_with fail
    refine Calls.mono (CC.out _) ?_
    rintro e w1 ⟨rfl, hb⟩
    have r1 := (Row.new (W := w) (cs := (rC k i g st wy tr nx tag)) (t := 94)).on hb
    have hc : Below w.heap.size w w1 := under hb
    have y0 := r1.cell
    have y1 := r1.lt
    go_wp2_with fail
    refine Calls.mono (C2.out _) ?_
    rintro e w2 ⟨rfl, hb⟩
    go_wp2_with fail
    go_returns
    exact ⟨rfl, chain hc hb⟩

end Go.Proofs.YtkjpdciccablpaaGreatDoor
