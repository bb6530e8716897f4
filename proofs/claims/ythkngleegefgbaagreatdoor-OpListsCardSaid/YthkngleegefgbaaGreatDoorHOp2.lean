/- The program's Check of operations. -/
import Derived.Test.YthkngleegefgbaaGreatDoorHOp1
import Derived.Test.YthkngleegefgbaaGreatDoorL0a
import Derived.Deep.DeepCutAuto
import Derived.Deep.CutBlock
namespace Go.Proofs.YthkngleegefgbaaGreatDoor
open Go.RowKit
set_option linter.unusedVariables false
set_option linter.unusedSimpArgs false
set_option maxHeartbeats 40000000
set_option maxRecDepth 20000
theorem tg_empty {kd : Int} {tag : ByteArray} (h8 : kd ≠ 8) (h17 : kd ≠ 17) : tgOk kd tag.data.toList = true ↔ tag = ⟨#[]⟩ := by
  unfold tgOk
  rw [if_neg h8, if_neg h17, List.isEmpty_iff]
  exact ⟨fun h => str_ext (by rw [h]), fun h => by rw [h]⟩
theorem text_q (s : ByteArray) (w : World) (hs : s.size ≤ 1000000) : Ret 31 #[.int .i32 113, .string s] w (.bool (tagOk s.data.toList)) := by
  have c := tcheck_c s w hs
  have e : (tagErr s.data.toList == 0) = tagOk s.data.toList := by unfold tagErr; cases tagOk s.data.toList <;> rfl
  have C := Lib.hid c
  clear c
  go_enter Tryz.func31, Tryz.ntmps31
  go_wp2_with fail
  refine Calls.mono C.out ?_
  rintro e w1 ⟨rfl, hb⟩
  go_wp2_with fail
  go_returns
  exact ⟨by simp [e], hb⟩
/-- Nothing is left of the fields. -/
def zeroB (m a b c : Int) (tag : ByteArray) : Bool := decide (m = 0) && (decide (a = 0) && (decide (b = 0) && (decide (c = 0) && decide (tag = ⟨#[]⟩))))
theorem op_neq (kd m a b c : Int) (tag : ByteArray) : ∀ W, (binOp .neq 23 (opV kd m a b c tag) (opV kd 0 0 0 0 ⟨#[]⟩)).run Tryz.prog W = .ok (.bool (!zeroB m a b c tag)) W := by
  intro W
  have key : tag.toList = [] → tag = ⟨#[]⟩ := fun h => str_ext (by rw [ByteArray.toList_eq] at h; rw [h])
  unfold zeroB
  go_simp
  by_cases h1 : m = 0 <;> by_cases h2 : a = 0 <;> by_cases h3 : b = 0 <;> by_cases h4 : c = 0 <;> by_cases h5 : tag = ⟨#[]⟩ <;> simp_all [Result.andThen]
  all_goals exact fun h => h5 (key h)
theorem check_1 (m a b c : Int) (tag : ByteArray) (w : World) : Ret 9 #[opV 1 m a b c tag] w (.int .i64 (opErr 1 m a b c tag)) := by
  have c1 := fun w => of_c 1 w
  rw [show inB 1 1 17 = true from rfl, show partsB 1 = ⟨#[109, 110]⟩ from rfl] at c1
  generalize wordB 1 = wd at c1
  have C := Lib.hid c1
  clear c1
  have hc := Below.refl w.heap.size w
  go_enter Tryz.func9, Tryz.ntmps9
  go_upto_region 1 with fail
  have r1 := Row.new (W := w) (cs := #[.int .i64 1, .int .i64 m, .int .i64 a, .int .i64 b, .int .i64 c, .string tag]) (t := 23)
  have hn := below_alloc w (.cells #[.int .i64 1, .int .i64 m, .int .i64 a, .int .i64 b, .int .i64 c, .string tag] 23)
  have wr1 : w.heap.size ≤ w.heap.size := hc.size
  replace hc := chain hc hn
  clear hn
  generalize w.alloc (.cells #[.int .i64 1, .int .i64 m, .int .i64 a, .int .i64 b, .int .i64 c, .string tag] 23) = V1 at r1 hc ⊢
  have yr1 := r1.cell
  have zr1 := r1.lt
  go_wp2_with fail
  refine Calls.mono (C.out _) ?_
  rintro e V2 ⟨rfl, hn⟩
  clear yr1 zr1
  replace r1 := r1.on hn
  replace hc := chain hc hn
  clear hn
  have yr1 := r1.cell
  have zr1 := r1.lt
  go_upto_region 2 with fail
  clear yr1 zr1
  have r3 := Row.new (W := V2) (cs := #[.string wd, .string ⟨#[109, 110]⟩]) (t := 44)
  have hn := below_alloc V2 (.cells #[.string wd, .string ⟨#[109, 110]⟩] 44)
  have nr1_r3 : w.heap.size ≠ V2.heap.size := Nat.ne_of_lt r1.lt
  have wr3 : w.heap.size ≤ V2.heap.size := hc.size
  replace r1 := r1.on hn
  replace hc := chain hc hn
  clear hn
  generalize V2.alloc (.cells #[.string wd, .string ⟨#[109, 110]⟩] 44) = V3 at r1 r3 hc ⊢
  generalize V2.heap.size = b3 at *
  have yr1 := r1.cell
  have zr1 := r1.lt
  have yr3 := r3.cell
  have zr3 := r3.lt
  go_upto_region 3 with fail
  clear yr1 yr3 zr1 zr3
  have r5 := Row.new (W := V3) (cs := #[.int .i64 1, .int .i64 m, .int .i64 a, .int .i64 b, .int .i64 c, .string tag]) (t := 23)
  have hn := below_alloc V3 (.cells #[.int .i64 1, .int .i64 m, .int .i64 a, .int .i64 b, .int .i64 c, .string tag] 23)
  have nr1_r5 : w.heap.size ≠ V3.heap.size := Nat.ne_of_lt r1.lt
  have nr3_r5 : b3 ≠ V3.heap.size := Nat.ne_of_lt r3.lt
  have wr5 : w.heap.size ≤ V3.heap.size := hc.size
  replace r1 := r1.on hn
  replace r3 := r3.on hn
  replace hc := chain hc hn
  clear hn
  generalize V3.alloc (.cells #[.int .i64 1, .int .i64 m, .int .i64 a, .int .i64 b, .int .i64 c, .string tag] 23) = V4 at r1 r3 r5 hc ⊢
  generalize V3.heap.size = b5 at *
  have yr1 := r1.cell
  have zr1 := r1.lt
  have yr3 := r3.cell
  have zr3 := r3.lt
  have yr5 := r5.cell
  have zr5 := r5.lt
  go_wp2_with fail
  clear yr1 yr3 yr5 zr1 zr3 zr5
  have hbi : w.heap.size ≤ V4.heap.size := hc.size
  have it := It.new V4 ⟨#[109, 110]⟩
  have hn := below_iter V4 ⟨#[109, 110]⟩
  replace r1 := r1.on hn
  replace r3 := r3.on hn
  replace r5 := r5.on hn
  replace hc := chain hc hn
  clear hn
  generalize V4.iter ⟨#[109, 110]⟩ 0 = V5 at it r1 r3 r5 hc ⊢
  generalize V4.heap.size = bi at *
  refine wp_loop_rounds 4 ?_
  rw [rounds_succ]
  have hx := it.next (by decide) 109 rfl (by decide)
  have yr1 := r1.cell
  have zr1 := r1.lt
  have yr3 := r3.cell
  have zr3 := r3.lt
  have yr5 := r5.cell
  have zr5 := r5.lt
  go_upto_region 6 with fail
  clear yr1 yr3 yr5 zr1 zr3 zr5
  clear hx
  replace r1 := r1.iter it 1
  replace r3 := r3.iter it 1
  replace r5 := r5.iter it 1
  replace hc := Lib.below_iterAt hc (show w.heap.size ≤ bi from hbi) ⟨#[109, 110]⟩ 1
  replace it := it.step 1
  generalize V5.iterAt bi ⟨#[109, 110]⟩ 1 = V6 at it r1 r3 r5 hc ⊢
  have yr1 := r1.cell
  have zr1 := r1.lt
  have yr3 := r3.cell
  have zr3 := r3.lt
  have yr5 := r5.cell
  have zr5 := r5.lt
  go_wp2_with fail
  refine Calls.mono (number_m b5 _ zr5) ?_
  rintro e W6 ⟨rfl, hW⟩
  subst hW
  clear yr1 yr3 yr5 zr1 zr3 zr5
  have yr1 := r1.cell
  have zr1 := r1.lt
  have yr3 := r3.cell
  have zr3 := r3.lt
  have yr5 := r5.cell
  have zr5 := r5.lt
  go_upto_region 10 with fail
  clear yr1 yr3 yr5 zr1 zr3 zr5
  go_cut [4] (fun q wx => q = .bool (decide ((0 : Int) ≤ m) && decide (m ≤ 3)) ∧ Row wx w.heap.size #[.int .i64 1, .int .i64 m, .int .i64 a, .int .i64 b, .int .i64 c, .string tag] 23 ∧ Row wx b3 #[.string wd, .string ⟨#[109, 110]⟩] 44 ∧ Row wx b5 #[.int .i64 1, .int .i64 m, .int .i64 a, .int .i64 b, .int .i64 c, .string tag] 23 ∧ It wx bi ⟨#[109, 110]⟩ 1 ∧ Below w.heap.size w wx)
  case first =>
    have yr1 := r1.cell
    have zr1 := r1.lt
    have yr3 := r3.cell
    have zr3 := r3.lt
    have yr5 := r5.cell
    have zr5 := r5.lt
    by_cases h1 : (0 : Int) ≤ m
    · by_cases h2 : m ≤ 3
      · go_wp2_with fail
        go_meet
        exact ⟨by first | (simp [h1, h2]; done) | (simp [h1, h2]; omega), r1, r3, r5, it, hc⟩
      · go_wp2_with fail
        go_meet
        exact ⟨by first | (simp [h1, h2]; done) | (simp [h1, h2]; omega), r1, r3, r5, it, hc⟩
    · go_wp2_with fail
      go_meet
      exact ⟨by first | (simp [h1]; done) | (simp [h1]; omega), r1, r3, r5, it, hc⟩
  obtain ⟨rfl, r1, r3, r5, it, hc⟩ := hcut
  have yr1 := r1.cell
  have zr1 := r1.lt
  have yr3 := r3.cell
  have zr3 := r3.lt
  have yr5 := r5.cell
  have zr5 := r5.lt
  have ur5 := r5.free
  go_wp2_with fail
  clear yr1 yr3 yr5 zr1 zr3 zr5 ur5
  replace it := it.set (r5.ne_iter it) 1 (.int .i64 0)
  replace r1 := (r1.other nr1_r5.symm 1 (.int .i64 0))
  replace r3 := (r3.other nr3_r5.symm 1 (.int .i64 0))
  replace r5 := (r5.set 1 (.int .i64 0))
  simp only [List.setIfInBounds_toArray, List.set_cons_zero, List.set_cons_succ] at r5
  replace hc := (hc.setCell (p := ⟨b5, 1, none⟩) wr5 (.int .i64 0))
  generalize hW : World.setCell _ _ _ = V7 at *
  clear hW
  generalize hok0 : (decide ((0 : Int) ≤ m) && decide (m ≤ 3)) = k0 at *
  rw [rounds_succ]
  have hx := it.next (by decide) 110 rfl (by decide)
  have yr1 := r1.cell
  have zr1 := r1.lt
  have yr3 := r3.cell
  have zr3 := r3.lt
  have yr5 := r5.cell
  have zr5 := r5.lt
  go_upto_region 6 with fail
  clear yr1 yr3 yr5 zr1 zr3 zr5
  clear hx
  replace r1 := r1.iter it 2
  replace r3 := r3.iter it 2
  replace r5 := r5.iter it 2
  replace hc := Lib.below_iterAt hc (show w.heap.size ≤ bi from hbi) ⟨#[109, 110]⟩ 2
  replace it := it.step 2
  generalize V7.iterAt bi ⟨#[109, 110]⟩ 2 = V8 at it r1 r3 r5 hc ⊢
  have yr1 := r1.cell
  have zr1 := r1.lt
  have yr3 := r3.cell
  have zr3 := r3.lt
  have yr5 := r5.cell
  have zr5 := r5.lt
  go_wp2_with fail
  refine Calls.mono (number_n b5 _ zr5) ?_
  rintro e W8 ⟨rfl, hW⟩
  subst hW
  clear yr1 yr3 yr5 zr1 zr3 zr5
  have yr1 := r1.cell
  have zr1 := r1.lt
  have yr3 := r3.cell
  have zr3 := r3.lt
  have yr5 := r5.cell
  have zr5 := r5.lt
  go_upto_region 10 with fail
  clear yr1 yr3 yr5 zr1 zr3 zr5
  go_cut [4] (fun q wx => q = .bool (k0 && (decide ((0 : Int) ≤ a) && decide (a ≤ 4))) ∧ Row wx w.heap.size #[.int .i64 1, .int .i64 m, .int .i64 a, .int .i64 b, .int .i64 c, .string tag] 23 ∧ Row wx b3 #[.string wd, .string ⟨#[109, 110]⟩] 44 ∧ Row wx b5 #[.int .i64 1, .int .i64 0, .int .i64 a, .int .i64 b, .int .i64 c, .string tag] 23 ∧ It wx bi ⟨#[109, 110]⟩ 2 ∧ Below w.heap.size w wx)
  case first =>
    have yr1 := r1.cell
    have zr1 := r1.lt
    have yr3 := r3.cell
    have zr3 := r3.lt
    have yr5 := r5.cell
    have zr5 := r5.lt
    cases hk : k0
    · go_wp2_with fail
      go_meet
      exact ⟨by first | (simp [hk]; done) | (simp [hk]; omega), r1, r3, r5, it, hc⟩
    by_cases h1 : (0 : Int) ≤ a
    · by_cases h2 : a ≤ 4
      · go_wp2_with fail
        go_meet
        exact ⟨by first | (simp [hk, h1, h2]; done) | (simp [hk, h1, h2]; omega), r1, r3, r5, it, hc⟩
      · go_wp2_with fail
        go_meet
        exact ⟨by first | (simp [hk, h1, h2]; done) | (simp [hk, h1, h2]; omega), r1, r3, r5, it, hc⟩
    · go_wp2_with fail
      go_meet
      exact ⟨by first | (simp [hk, h1]; done) | (simp [hk, h1]; omega), r1, r3, r5, it, hc⟩
  obtain ⟨rfl, r1, r3, r5, it, hc⟩ := hcut
  have yr1 := r1.cell
  have zr1 := r1.lt
  have yr3 := r3.cell
  have zr3 := r3.lt
  have yr5 := r5.cell
  have zr5 := r5.lt
  have ur5 := r5.free
  go_wp2_with fail
  clear yr1 yr3 yr5 zr1 zr3 zr5 ur5
  replace it := it.set (r5.ne_iter it) 2 (.int .i64 0)
  replace r1 := (r1.other nr1_r5.symm 2 (.int .i64 0))
  replace r3 := (r3.other nr3_r5.symm 2 (.int .i64 0))
  replace r5 := (r5.set 2 (.int .i64 0))
  simp only [List.setIfInBounds_toArray, List.set_cons_zero, List.set_cons_succ] at r5
  replace hc := (hc.setCell (p := ⟨b5, 2, none⟩) wr5 (.int .i64 0))
  generalize hW : World.setCell _ _ _ = V9 at *
  clear hW
  generalize hok1 : (k0 && (decide ((0 : Int) ≤ a) && decide (a ≤ 4))) = k1 at *
  rw [rounds_succ]
  have hx := it.done (by decide)
  have hq := op_neq 1 0 0 b c tag
  have he : opOk 1 m a b c tag.data.toList = (k1 && zeroB 0 0 b c tag) := by
    rw [← hok1, ← hok0]
    rw [Bool.eq_iff_iff, opOk_iff, tg_empty (by decide) (by decide)]
    unfold zeroB
    by_cases ht : tag = ⟨#[]⟩
    · simp [ht, mHi, aLo, aHi, bLo, bHi, cLo, cHi]
      try omega
    · simp [ht]
  cases hk : k1
  · rw [hk] at he
    have yr1 := r1.cell
    have zr1 := r1.lt
    have yr3 := r3.cell
    have zr3 := r3.lt
    have yr5 := r5.cell
    have zr5 := r5.lt
    go_wp2_with fail
    refine bodyPost_ret (v := .int .i64 2) (by simp [results, Tryz.results9, go_sem]) rfl ⟨by unfold opErr; rw [he, Bool.false_and]; rfl, hc⟩
  rw [hk] at he
  cases hz : zeroB 0 0 b c tag
  · rw [hz] at he hq
    have yr1 := r1.cell
    have zr1 := r1.lt
    have yr3 := r3.cell
    have zr3 := r3.lt
    have yr5 := r5.cell
    have zr5 := r5.lt
    go_wp2_with fail
    refine bodyPost_ret (v := .int .i64 2) (by simp [results, Tryz.results9, go_sem]) rfl ⟨by unfold opErr; rw [he, Bool.true_and]; rfl, hc⟩
  · rw [hz] at he hq
    have yr1 := r1.cell
    have zr1 := r1.lt
    have yr3 := r3.cell
    have zr3 := r3.lt
    have yr5 := r5.cell
    have zr5 := r5.lt
    go_wp2_with fail
    refine bodyPost_ret (v := .int .i64 0) (by simp [results, Tryz.results9, go_sem]) rfl ⟨by unfold opErr; rw [he, Bool.true_and]; rfl, hc⟩
theorem check_2 (m a b c : Int) (tag : ByteArray) (w : World) : Ret 9 #[opV 2 m a b c tag] w (.int .i64 (opErr 2 m a b c tag)) := by
  have c1 := fun w => of_c 2 w
  rw [show inB 2 1 17 = true from rfl, show partsB 2 = ⟨#[109, 114, 105]⟩ from rfl] at c1
  generalize wordB 2 = wd at c1
  have C := Lib.hid c1
  clear c1
  have hc := Below.refl w.heap.size w
  go_enter Tryz.func9, Tryz.ntmps9
  go_upto_region 1 with fail
  have r1 := Row.new (W := w) (cs := #[.int .i64 2, .int .i64 m, .int .i64 a, .int .i64 b, .int .i64 c, .string tag]) (t := 23)
  have hn := below_alloc w (.cells #[.int .i64 2, .int .i64 m, .int .i64 a, .int .i64 b, .int .i64 c, .string tag] 23)
  have wr1 : w.heap.size ≤ w.heap.size := hc.size
  replace hc := chain hc hn
  clear hn
  generalize w.alloc (.cells #[.int .i64 2, .int .i64 m, .int .i64 a, .int .i64 b, .int .i64 c, .string tag] 23) = V1 at r1 hc ⊢
  have yr1 := r1.cell
  have zr1 := r1.lt
  go_wp2_with fail
  refine Calls.mono (C.out _) ?_
  rintro e V2 ⟨rfl, hn⟩
  clear yr1 zr1
  replace r1 := r1.on hn
  replace hc := chain hc hn
  clear hn
  have yr1 := r1.cell
  have zr1 := r1.lt
  go_upto_region 2 with fail
  clear yr1 zr1
  have r3 := Row.new (W := V2) (cs := #[.string wd, .string ⟨#[109, 114, 105]⟩]) (t := 44)
  have hn := below_alloc V2 (.cells #[.string wd, .string ⟨#[109, 114, 105]⟩] 44)
  have nr1_r3 : w.heap.size ≠ V2.heap.size := Nat.ne_of_lt r1.lt
  have wr3 : w.heap.size ≤ V2.heap.size := hc.size
  replace r1 := r1.on hn
  replace hc := chain hc hn
  clear hn
  generalize V2.alloc (.cells #[.string wd, .string ⟨#[109, 114, 105]⟩] 44) = V3 at r1 r3 hc ⊢
  generalize V2.heap.size = b3 at *
  have yr1 := r1.cell
  have zr1 := r1.lt
  have yr3 := r3.cell
  have zr3 := r3.lt
  go_upto_region 3 with fail
  clear yr1 yr3 zr1 zr3
  have r5 := Row.new (W := V3) (cs := #[.int .i64 2, .int .i64 m, .int .i64 a, .int .i64 b, .int .i64 c, .string tag]) (t := 23)
  have hn := below_alloc V3 (.cells #[.int .i64 2, .int .i64 m, .int .i64 a, .int .i64 b, .int .i64 c, .string tag] 23)
  have nr1_r5 : w.heap.size ≠ V3.heap.size := Nat.ne_of_lt r1.lt
  have nr3_r5 : b3 ≠ V3.heap.size := Nat.ne_of_lt r3.lt
  have wr5 : w.heap.size ≤ V3.heap.size := hc.size
  replace r1 := r1.on hn
  replace r3 := r3.on hn
  replace hc := chain hc hn
  clear hn
  generalize V3.alloc (.cells #[.int .i64 2, .int .i64 m, .int .i64 a, .int .i64 b, .int .i64 c, .string tag] 23) = V4 at r1 r3 r5 hc ⊢
  generalize V3.heap.size = b5 at *
  have yr1 := r1.cell
  have zr1 := r1.lt
  have yr3 := r3.cell
  have zr3 := r3.lt
  have yr5 := r5.cell
  have zr5 := r5.lt
  go_wp2_with fail
  clear yr1 yr3 yr5 zr1 zr3 zr5
  have hbi : w.heap.size ≤ V4.heap.size := hc.size
  have it := It.new V4 ⟨#[109, 114, 105]⟩
  have hn := below_iter V4 ⟨#[109, 114, 105]⟩
  replace r1 := r1.on hn
  replace r3 := r3.on hn
  replace r5 := r5.on hn
  replace hc := chain hc hn
  clear hn
  generalize V4.iter ⟨#[109, 114, 105]⟩ 0 = V5 at it r1 r3 r5 hc ⊢
  generalize V4.heap.size = bi at *
  refine wp_loop_rounds 5 ?_
  rw [rounds_succ]
  have hx := it.next (by decide) 109 rfl (by decide)
  have yr1 := r1.cell
  have zr1 := r1.lt
  have yr3 := r3.cell
  have zr3 := r3.lt
  have yr5 := r5.cell
  have zr5 := r5.lt
  go_upto_region 6 with fail
  clear yr1 yr3 yr5 zr1 zr3 zr5
  clear hx
  replace r1 := r1.iter it 1
  replace r3 := r3.iter it 1
  replace r5 := r5.iter it 1
  replace hc := Lib.below_iterAt hc (show w.heap.size ≤ bi from hbi) ⟨#[109, 114, 105]⟩ 1
  replace it := it.step 1
  generalize V5.iterAt bi ⟨#[109, 114, 105]⟩ 1 = V6 at it r1 r3 r5 hc ⊢
  have yr1 := r1.cell
  have zr1 := r1.lt
  have yr3 := r3.cell
  have zr3 := r3.lt
  have yr5 := r5.cell
  have zr5 := r5.lt
  go_wp2_with fail
  refine Calls.mono (number_m b5 _ zr5) ?_
  rintro e W6 ⟨rfl, hW⟩
  subst hW
  clear yr1 yr3 yr5 zr1 zr3 zr5
  have yr1 := r1.cell
  have zr1 := r1.lt
  have yr3 := r3.cell
  have zr3 := r3.lt
  have yr5 := r5.cell
  have zr5 := r5.lt
  go_upto_region 10 with fail
  clear yr1 yr3 yr5 zr1 zr3 zr5
  go_cut [4] (fun q wx => q = .bool (decide ((0 : Int) ≤ m) && decide (m ≤ 3)) ∧ Row wx w.heap.size #[.int .i64 2, .int .i64 m, .int .i64 a, .int .i64 b, .int .i64 c, .string tag] 23 ∧ Row wx b3 #[.string wd, .string ⟨#[109, 114, 105]⟩] 44 ∧ Row wx b5 #[.int .i64 2, .int .i64 m, .int .i64 a, .int .i64 b, .int .i64 c, .string tag] 23 ∧ It wx bi ⟨#[109, 114, 105]⟩ 1 ∧ Below w.heap.size w wx)
  case first =>
    have yr1 := r1.cell
    have zr1 := r1.lt
    have yr3 := r3.cell
    have zr3 := r3.lt
    have yr5 := r5.cell
    have zr5 := r5.lt
    by_cases h1 : (0 : Int) ≤ m
    · by_cases h2 : m ≤ 3
      · go_wp2_with fail
        go_meet
        exact ⟨by first | (simp [h1, h2]; done) | (simp [h1, h2]; omega), r1, r3, r5, it, hc⟩
      · go_wp2_with fail
        go_meet
        exact ⟨by first | (simp [h1, h2]; done) | (simp [h1, h2]; omega), r1, r3, r5, it, hc⟩
    · go_wp2_with fail
      go_meet
      exact ⟨by first | (simp [h1]; done) | (simp [h1]; omega), r1, r3, r5, it, hc⟩
  obtain ⟨rfl, r1, r3, r5, it, hc⟩ := hcut
  have yr1 := r1.cell
  have zr1 := r1.lt
  have yr3 := r3.cell
  have zr3 := r3.lt
  have yr5 := r5.cell
  have zr5 := r5.lt
  have ur5 := r5.free
  go_wp2_with fail
  clear yr1 yr3 yr5 zr1 zr3 zr5 ur5
  replace it := it.set (r5.ne_iter it) 1 (.int .i64 0)
  replace r1 := (r1.other nr1_r5.symm 1 (.int .i64 0))
  replace r3 := (r3.other nr3_r5.symm 1 (.int .i64 0))
  replace r5 := (r5.set 1 (.int .i64 0))
  simp only [List.setIfInBounds_toArray, List.set_cons_zero, List.set_cons_succ] at r5
  replace hc := (hc.setCell (p := ⟨b5, 1, none⟩) wr5 (.int .i64 0))
  generalize hW : World.setCell _ _ _ = V7 at *
  clear hW
  generalize hok0 : (decide ((0 : Int) ≤ m) && decide (m ≤ 3)) = k0 at *
  rw [rounds_succ]
  have hx := it.next (by decide) 114 rfl (by decide)
  have yr1 := r1.cell
  have zr1 := r1.lt
  have yr3 := r3.cell
  have zr3 := r3.lt
  have yr5 := r5.cell
  have zr5 := r5.lt
  go_upto_region 6 with fail
  clear yr1 yr3 yr5 zr1 zr3 zr5
  clear hx
  replace r1 := r1.iter it 2
  replace r3 := r3.iter it 2
  replace r5 := r5.iter it 2
  replace hc := Lib.below_iterAt hc (show w.heap.size ≤ bi from hbi) ⟨#[109, 114, 105]⟩ 2
  replace it := it.step 2
  generalize V7.iterAt bi ⟨#[109, 114, 105]⟩ 2 = V8 at it r1 r3 r5 hc ⊢
  have yr1 := r1.cell
  have zr1 := r1.lt
  have yr3 := r3.cell
  have zr3 := r3.lt
  have yr5 := r5.cell
  have zr5 := r5.lt
  go_wp2_with fail
  refine Calls.mono (number_r b5 _ zr5) ?_
  rintro e W8 ⟨rfl, hW⟩
  subst hW
  clear yr1 yr3 yr5 zr1 zr3 zr5
  have yr1 := r1.cell
  have zr1 := r1.lt
  have yr3 := r3.cell
  have zr3 := r3.lt
  have yr5 := r5.cell
  have zr5 := r5.lt
  go_upto_region 10 with fail
  clear yr1 yr3 yr5 zr1 zr3 zr5
  go_cut [4] (fun q wx => q = .bool (k0 && (decide ((0 : Int) ≤ a) && decide (a ≤ 31))) ∧ Row wx w.heap.size #[.int .i64 2, .int .i64 m, .int .i64 a, .int .i64 b, .int .i64 c, .string tag] 23 ∧ Row wx b3 #[.string wd, .string ⟨#[109, 114, 105]⟩] 44 ∧ Row wx b5 #[.int .i64 2, .int .i64 0, .int .i64 a, .int .i64 b, .int .i64 c, .string tag] 23 ∧ It wx bi ⟨#[109, 114, 105]⟩ 2 ∧ Below w.heap.size w wx)
  case first =>
    have yr1 := r1.cell
    have zr1 := r1.lt
    have yr3 := r3.cell
    have zr3 := r3.lt
    have yr5 := r5.cell
    have zr5 := r5.lt
    cases hk : k0
    · go_wp2_with fail
      go_meet
      exact ⟨by first | (simp [hk]; done) | (simp [hk]; omega), r1, r3, r5, it, hc⟩
    by_cases h1 : (0 : Int) ≤ a
    · by_cases h2 : a ≤ 31
      · go_wp2_with fail
        go_meet
        exact ⟨by first | (simp [hk, h1, h2]; done) | (simp [hk, h1, h2]; omega), r1, r3, r5, it, hc⟩
      · go_wp2_with fail
        go_meet
        exact ⟨by first | (simp [hk, h1, h2]; done) | (simp [hk, h1, h2]; omega), r1, r3, r5, it, hc⟩
    · go_wp2_with fail
      go_meet
      exact ⟨by first | (simp [hk, h1]; done) | (simp [hk, h1]; omega), r1, r3, r5, it, hc⟩
  obtain ⟨rfl, r1, r3, r5, it, hc⟩ := hcut
  have yr1 := r1.cell
  have zr1 := r1.lt
  have yr3 := r3.cell
  have zr3 := r3.lt
  have yr5 := r5.cell
  have zr5 := r5.lt
  have ur5 := r5.free
  go_wp2_with fail
  clear yr1 yr3 yr5 zr1 zr3 zr5 ur5
  replace it := it.set (r5.ne_iter it) 2 (.int .i64 0)
  replace r1 := (r1.other nr1_r5.symm 2 (.int .i64 0))
  replace r3 := (r3.other nr3_r5.symm 2 (.int .i64 0))
  replace r5 := (r5.set 2 (.int .i64 0))
  simp only [List.setIfInBounds_toArray, List.set_cons_zero, List.set_cons_succ] at r5
  replace hc := (hc.setCell (p := ⟨b5, 2, none⟩) wr5 (.int .i64 0))
  generalize hW : World.setCell _ _ _ = V9 at *
  clear hW
  generalize hok1 : (k0 && (decide ((0 : Int) ≤ a) && decide (a ≤ 31))) = k1 at *
  rw [rounds_succ]
  have hx := it.next (by decide) 105 rfl (by decide)
  have yr1 := r1.cell
  have zr1 := r1.lt
  have yr3 := r3.cell
  have zr3 := r3.lt
  have yr5 := r5.cell
  have zr5 := r5.lt
  go_upto_region 6 with fail
  clear yr1 yr3 yr5 zr1 zr3 zr5
  clear hx
  replace r1 := r1.iter it 3
  replace r3 := r3.iter it 3
  replace r5 := r5.iter it 3
  replace hc := Lib.below_iterAt hc (show w.heap.size ≤ bi from hbi) ⟨#[109, 114, 105]⟩ 3
  replace it := it.step 3
  generalize V9.iterAt bi ⟨#[109, 114, 105]⟩ 3 = V10 at it r1 r3 r5 hc ⊢
  have yr1 := r1.cell
  have zr1 := r1.lt
  have yr3 := r3.cell
  have zr3 := r3.lt
  have yr5 := r5.cell
  have zr5 := r5.lt
  go_wp2_with fail
  refine Calls.mono (number_i b5 _ zr5) ?_
  rintro e W10 ⟨rfl, hW⟩
  subst hW
  clear yr1 yr3 yr5 zr1 zr3 zr5
  have yr1 := r1.cell
  have zr1 := r1.lt
  have yr3 := r3.cell
  have zr3 := r3.lt
  have yr5 := r5.cell
  have zr5 := r5.lt
  go_upto_region 10 with fail
  clear yr1 yr3 yr5 zr1 zr3 zr5
  go_cut [4] (fun q wx => q = .bool (k1 && (decide ((0 : Int) ≤ b) && decide (b ≤ 3))) ∧ Row wx w.heap.size #[.int .i64 2, .int .i64 m, .int .i64 a, .int .i64 b, .int .i64 c, .string tag] 23 ∧ Row wx b3 #[.string wd, .string ⟨#[109, 114, 105]⟩] 44 ∧ Row wx b5 #[.int .i64 2, .int .i64 0, .int .i64 0, .int .i64 b, .int .i64 c, .string tag] 23 ∧ It wx bi ⟨#[109, 114, 105]⟩ 3 ∧ Below w.heap.size w wx)
  case first =>
    have yr1 := r1.cell
    have zr1 := r1.lt
    have yr3 := r3.cell
    have zr3 := r3.lt
    have yr5 := r5.cell
    have zr5 := r5.lt
    cases hk : k1
    · go_wp2_with fail
      go_meet
      exact ⟨by first | (simp [hk]; done) | (simp [hk]; omega), r1, r3, r5, it, hc⟩
    by_cases h1 : (0 : Int) ≤ b
    · by_cases h2 : b ≤ 3
      · go_wp2_with fail
        go_meet
        exact ⟨by first | (simp [hk, h1, h2]; done) | (simp [hk, h1, h2]; omega), r1, r3, r5, it, hc⟩
      · go_wp2_with fail
        go_meet
        exact ⟨by first | (simp [hk, h1, h2]; done) | (simp [hk, h1, h2]; omega), r1, r3, r5, it, hc⟩
    · go_wp2_with fail
      go_meet
      exact ⟨by first | (simp [hk, h1]; done) | (simp [hk, h1]; omega), r1, r3, r5, it, hc⟩
  obtain ⟨rfl, r1, r3, r5, it, hc⟩ := hcut
  have yr1 := r1.cell
  have zr1 := r1.lt
  have yr3 := r3.cell
  have zr3 := r3.lt
  have yr5 := r5.cell
  have zr5 := r5.lt
  have ur5 := r5.free
  go_wp2_with fail
  clear yr1 yr3 yr5 zr1 zr3 zr5 ur5
  replace it := it.set (r5.ne_iter it) 3 (.int .i64 0)
  replace r1 := (r1.other nr1_r5.symm 3 (.int .i64 0))
  replace r3 := (r3.other nr3_r5.symm 3 (.int .i64 0))
  replace r5 := (r5.set 3 (.int .i64 0))
  simp only [List.setIfInBounds_toArray, List.set_cons_zero, List.set_cons_succ] at r5
  replace hc := (hc.setCell (p := ⟨b5, 3, none⟩) wr5 (.int .i64 0))
  generalize hW : World.setCell _ _ _ = V11 at *
  clear hW
  generalize hok2 : (k1 && (decide ((0 : Int) ≤ b) && decide (b ≤ 3))) = k2 at *
  rw [rounds_succ]
  have hx := it.done (by decide)
  have hq := op_neq 2 0 0 0 c tag
  have he : opOk 2 m a b c tag.data.toList = (k2 && zeroB 0 0 0 c tag) := by
    rw [← hok2, ← hok1, ← hok0]
    rw [Bool.eq_iff_iff, opOk_iff, tg_empty (by decide) (by decide)]
    unfold zeroB
    by_cases ht : tag = ⟨#[]⟩
    · simp [ht, mHi, aLo, aHi, bLo, bHi, cLo, cHi]
      try omega
    · simp [ht]
  cases hk : k2
  · rw [hk] at he
    have yr1 := r1.cell
    have zr1 := r1.lt
    have yr3 := r3.cell
    have zr3 := r3.lt
    have yr5 := r5.cell
    have zr5 := r5.lt
    go_wp2_with fail
    refine bodyPost_ret (v := .int .i64 2) (by simp [results, Tryz.results9, go_sem]) rfl ⟨by unfold opErr; rw [he, Bool.false_and]; rfl, hc⟩
  rw [hk] at he
  cases hz : zeroB 0 0 0 c tag
  · rw [hz] at he hq
    have yr1 := r1.cell
    have zr1 := r1.lt
    have yr3 := r3.cell
    have zr3 := r3.lt
    have yr5 := r5.cell
    have zr5 := r5.lt
    go_wp2_with fail
    refine bodyPost_ret (v := .int .i64 2) (by simp [results, Tryz.results9, go_sem]) rfl ⟨by unfold opErr; rw [he, Bool.true_and]; rfl, hc⟩
  · rw [hz] at he hq
    have yr1 := r1.cell
    have zr1 := r1.lt
    have yr3 := r3.cell
    have zr3 := r3.lt
    have yr5 := r5.cell
    have zr5 := r5.lt
    go_wp2_with fail
    refine bodyPost_ret (v := .int .i64 0) (by simp [results, Tryz.results9, go_sem]) rfl ⟨by unfold opErr; rw [he, Bool.true_and]; rfl, hc⟩
theorem check_3 (m a b c : Int) (tag : ByteArray) (w : World) : Ret 9 #[opV 3 m a b c tag] w (.int .i64 (opErr 3 m a b c tag)) := by
  have c1 := fun w => of_c 3 w
  rw [show inB 3 1 17 = true from rfl, show partsB 3 = ⟨#[109, 114, 105, 118]⟩ from rfl] at c1
  generalize wordB 3 = wd at c1
  have C := Lib.hid c1
  clear c1
  have hc := Below.refl w.heap.size w
  go_enter Tryz.func9, Tryz.ntmps9
  go_upto_region 1 with fail
  have r1 := Row.new (W := w) (cs := #[.int .i64 3, .int .i64 m, .int .i64 a, .int .i64 b, .int .i64 c, .string tag]) (t := 23)
  have hn := below_alloc w (.cells #[.int .i64 3, .int .i64 m, .int .i64 a, .int .i64 b, .int .i64 c, .string tag] 23)
  have wr1 : w.heap.size ≤ w.heap.size := hc.size
  replace hc := chain hc hn
  clear hn
  generalize w.alloc (.cells #[.int .i64 3, .int .i64 m, .int .i64 a, .int .i64 b, .int .i64 c, .string tag] 23) = V1 at r1 hc ⊢
  have yr1 := r1.cell
  have zr1 := r1.lt
  go_wp2_with fail
  refine Calls.mono (C.out _) ?_
  rintro e V2 ⟨rfl, hn⟩
  clear yr1 zr1
  replace r1 := r1.on hn
  replace hc := chain hc hn
  clear hn
  have yr1 := r1.cell
  have zr1 := r1.lt
  go_upto_region 2 with fail
  clear yr1 zr1
  have r3 := Row.new (W := V2) (cs := #[.string wd, .string ⟨#[109, 114, 105, 118]⟩]) (t := 44)
  have hn := below_alloc V2 (.cells #[.string wd, .string ⟨#[109, 114, 105, 118]⟩] 44)
  have nr1_r3 : w.heap.size ≠ V2.heap.size := Nat.ne_of_lt r1.lt
  have wr3 : w.heap.size ≤ V2.heap.size := hc.size
  replace r1 := r1.on hn
  replace hc := chain hc hn
  clear hn
  generalize V2.alloc (.cells #[.string wd, .string ⟨#[109, 114, 105, 118]⟩] 44) = V3 at r1 r3 hc ⊢
  generalize V2.heap.size = b3 at *
  have yr1 := r1.cell
  have zr1 := r1.lt
  have yr3 := r3.cell
  have zr3 := r3.lt
  go_upto_region 3 with fail
  clear yr1 yr3 zr1 zr3
  have r5 := Row.new (W := V3) (cs := #[.int .i64 3, .int .i64 m, .int .i64 a, .int .i64 b, .int .i64 c, .string tag]) (t := 23)
  have hn := below_alloc V3 (.cells #[.int .i64 3, .int .i64 m, .int .i64 a, .int .i64 b, .int .i64 c, .string tag] 23)
  have nr1_r5 : w.heap.size ≠ V3.heap.size := Nat.ne_of_lt r1.lt
  have nr3_r5 : b3 ≠ V3.heap.size := Nat.ne_of_lt r3.lt
  have wr5 : w.heap.size ≤ V3.heap.size := hc.size
  replace r1 := r1.on hn
  replace r3 := r3.on hn
  replace hc := chain hc hn
  clear hn
  generalize V3.alloc (.cells #[.int .i64 3, .int .i64 m, .int .i64 a, .int .i64 b, .int .i64 c, .string tag] 23) = V4 at r1 r3 r5 hc ⊢
  generalize V3.heap.size = b5 at *
  have yr1 := r1.cell
  have zr1 := r1.lt
  have yr3 := r3.cell
  have zr3 := r3.lt
  have yr5 := r5.cell
  have zr5 := r5.lt
  go_wp2_with fail
  clear yr1 yr3 yr5 zr1 zr3 zr5
  have hbi : w.heap.size ≤ V4.heap.size := hc.size
  have it := It.new V4 ⟨#[109, 114, 105, 118]⟩
  have hn := below_iter V4 ⟨#[109, 114, 105, 118]⟩
  replace r1 := r1.on hn
  replace r3 := r3.on hn
  replace r5 := r5.on hn
  replace hc := chain hc hn
  clear hn
  generalize V4.iter ⟨#[109, 114, 105, 118]⟩ 0 = V5 at it r1 r3 r5 hc ⊢
  generalize V4.heap.size = bi at *
  refine wp_loop_rounds 6 ?_
  rw [rounds_succ]
  have hx := it.next (by decide) 109 rfl (by decide)
  have yr1 := r1.cell
  have zr1 := r1.lt
  have yr3 := r3.cell
  have zr3 := r3.lt
  have yr5 := r5.cell
  have zr5 := r5.lt
  go_upto_region 6 with fail
  clear yr1 yr3 yr5 zr1 zr3 zr5
  clear hx
  replace r1 := r1.iter it 1
  replace r3 := r3.iter it 1
  replace r5 := r5.iter it 1
  replace hc := Lib.below_iterAt hc (show w.heap.size ≤ bi from hbi) ⟨#[109, 114, 105, 118]⟩ 1
  replace it := it.step 1
  generalize V5.iterAt bi ⟨#[109, 114, 105, 118]⟩ 1 = V6 at it r1 r3 r5 hc ⊢
  have yr1 := r1.cell
  have zr1 := r1.lt
  have yr3 := r3.cell
  have zr3 := r3.lt
  have yr5 := r5.cell
  have zr5 := r5.lt
  go_wp2_with fail
  refine Calls.mono (number_m b5 _ zr5) ?_
  rintro e W6 ⟨rfl, hW⟩
  subst hW
  clear yr1 yr3 yr5 zr1 zr3 zr5
  have yr1 := r1.cell
  have zr1 := r1.lt
  have yr3 := r3.cell
  have zr3 := r3.lt
  have yr5 := r5.cell
  have zr5 := r5.lt
  go_upto_region 10 with fail
  clear yr1 yr3 yr5 zr1 zr3 zr5
  go_cut [4] (fun q wx => q = .bool (decide ((0 : Int) ≤ m) && decide (m ≤ 3)) ∧ Row wx w.heap.size #[.int .i64 3, .int .i64 m, .int .i64 a, .int .i64 b, .int .i64 c, .string tag] 23 ∧ Row wx b3 #[.string wd, .string ⟨#[109, 114, 105, 118]⟩] 44 ∧ Row wx b5 #[.int .i64 3, .int .i64 m, .int .i64 a, .int .i64 b, .int .i64 c, .string tag] 23 ∧ It wx bi ⟨#[109, 114, 105, 118]⟩ 1 ∧ Below w.heap.size w wx)
  case first =>
    have yr1 := r1.cell
    have zr1 := r1.lt
    have yr3 := r3.cell
    have zr3 := r3.lt
    have yr5 := r5.cell
    have zr5 := r5.lt
    by_cases h1 : (0 : Int) ≤ m
    · by_cases h2 : m ≤ 3
      · go_wp2_with fail
        go_meet
        exact ⟨by first | (simp [h1, h2]; done) | (simp [h1, h2]; omega), r1, r3, r5, it, hc⟩
      · go_wp2_with fail
        go_meet
        exact ⟨by first | (simp [h1, h2]; done) | (simp [h1, h2]; omega), r1, r3, r5, it, hc⟩
    · go_wp2_with fail
      go_meet
      exact ⟨by first | (simp [h1]; done) | (simp [h1]; omega), r1, r3, r5, it, hc⟩
  obtain ⟨rfl, r1, r3, r5, it, hc⟩ := hcut
  have yr1 := r1.cell
  have zr1 := r1.lt
  have yr3 := r3.cell
  have zr3 := r3.lt
  have yr5 := r5.cell
  have zr5 := r5.lt
  have ur5 := r5.free
  go_wp2_with fail
  clear yr1 yr3 yr5 zr1 zr3 zr5 ur5
  replace it := it.set (r5.ne_iter it) 1 (.int .i64 0)
  replace r1 := (r1.other nr1_r5.symm 1 (.int .i64 0))
  replace r3 := (r3.other nr3_r5.symm 1 (.int .i64 0))
  replace r5 := (r5.set 1 (.int .i64 0))
  simp only [List.setIfInBounds_toArray, List.set_cons_zero, List.set_cons_succ] at r5
  replace hc := (hc.setCell (p := ⟨b5, 1, none⟩) wr5 (.int .i64 0))
  generalize hW : World.setCell _ _ _ = V7 at *
  clear hW
  generalize hok0 : (decide ((0 : Int) ≤ m) && decide (m ≤ 3)) = k0 at *
  rw [rounds_succ]
  have hx := it.next (by decide) 114 rfl (by decide)
  have yr1 := r1.cell
  have zr1 := r1.lt
  have yr3 := r3.cell
  have zr3 := r3.lt
  have yr5 := r5.cell
  have zr5 := r5.lt
  go_upto_region 6 with fail
  clear yr1 yr3 yr5 zr1 zr3 zr5
  clear hx
  replace r1 := r1.iter it 2
  replace r3 := r3.iter it 2
  replace r5 := r5.iter it 2
  replace hc := Lib.below_iterAt hc (show w.heap.size ≤ bi from hbi) ⟨#[109, 114, 105, 118]⟩ 2
  replace it := it.step 2
  generalize V7.iterAt bi ⟨#[109, 114, 105, 118]⟩ 2 = V8 at it r1 r3 r5 hc ⊢
  have yr1 := r1.cell
  have zr1 := r1.lt
  have yr3 := r3.cell
  have zr3 := r3.lt
  have yr5 := r5.cell
  have zr5 := r5.lt
  go_wp2_with fail
  refine Calls.mono (number_r b5 _ zr5) ?_
  rintro e W8 ⟨rfl, hW⟩
  subst hW
  clear yr1 yr3 yr5 zr1 zr3 zr5
  have yr1 := r1.cell
  have zr1 := r1.lt
  have yr3 := r3.cell
  have zr3 := r3.lt
  have yr5 := r5.cell
  have zr5 := r5.lt
  go_upto_region 10 with fail
  clear yr1 yr3 yr5 zr1 zr3 zr5
  go_cut [4] (fun q wx => q = .bool (k0 && (decide ((0 : Int) ≤ a) && decide (a ≤ 31))) ∧ Row wx w.heap.size #[.int .i64 3, .int .i64 m, .int .i64 a, .int .i64 b, .int .i64 c, .string tag] 23 ∧ Row wx b3 #[.string wd, .string ⟨#[109, 114, 105, 118]⟩] 44 ∧ Row wx b5 #[.int .i64 3, .int .i64 0, .int .i64 a, .int .i64 b, .int .i64 c, .string tag] 23 ∧ It wx bi ⟨#[109, 114, 105, 118]⟩ 2 ∧ Below w.heap.size w wx)
  case first =>
    have yr1 := r1.cell
    have zr1 := r1.lt
    have yr3 := r3.cell
    have zr3 := r3.lt
    have yr5 := r5.cell
    have zr5 := r5.lt
    cases hk : k0
    · go_wp2_with fail
      go_meet
      exact ⟨by first | (simp [hk]; done) | (simp [hk]; omega), r1, r3, r5, it, hc⟩
    by_cases h1 : (0 : Int) ≤ a
    · by_cases h2 : a ≤ 31
      · go_wp2_with fail
        go_meet
        exact ⟨by first | (simp [hk, h1, h2]; done) | (simp [hk, h1, h2]; omega), r1, r3, r5, it, hc⟩
      · go_wp2_with fail
        go_meet
        exact ⟨by first | (simp [hk, h1, h2]; done) | (simp [hk, h1, h2]; omega), r1, r3, r5, it, hc⟩
    · go_wp2_with fail
      go_meet
      exact ⟨by first | (simp [hk, h1]; done) | (simp [hk, h1]; omega), r1, r3, r5, it, hc⟩
  obtain ⟨rfl, r1, r3, r5, it, hc⟩ := hcut
  have yr1 := r1.cell
  have zr1 := r1.lt
  have yr3 := r3.cell
  have zr3 := r3.lt
  have yr5 := r5.cell
  have zr5 := r5.lt
  have ur5 := r5.free
  go_wp2_with fail
  clear yr1 yr3 yr5 zr1 zr3 zr5 ur5
  replace it := it.set (r5.ne_iter it) 2 (.int .i64 0)
  replace r1 := (r1.other nr1_r5.symm 2 (.int .i64 0))
  replace r3 := (r3.other nr3_r5.symm 2 (.int .i64 0))
  replace r5 := (r5.set 2 (.int .i64 0))
  simp only [List.setIfInBounds_toArray, List.set_cons_zero, List.set_cons_succ] at r5
  replace hc := (hc.setCell (p := ⟨b5, 2, none⟩) wr5 (.int .i64 0))
  generalize hW : World.setCell _ _ _ = V9 at *
  clear hW
  generalize hok1 : (k0 && (decide ((0 : Int) ≤ a) && decide (a ≤ 31))) = k1 at *
  rw [rounds_succ]
  have hx := it.next (by decide) 105 rfl (by decide)
  have yr1 := r1.cell
  have zr1 := r1.lt
  have yr3 := r3.cell
  have zr3 := r3.lt
  have yr5 := r5.cell
  have zr5 := r5.lt
  go_upto_region 6 with fail
  clear yr1 yr3 yr5 zr1 zr3 zr5
  clear hx
  replace r1 := r1.iter it 3
  replace r3 := r3.iter it 3
  replace r5 := r5.iter it 3
  replace hc := Lib.below_iterAt hc (show w.heap.size ≤ bi from hbi) ⟨#[109, 114, 105, 118]⟩ 3
  replace it := it.step 3
  generalize V9.iterAt bi ⟨#[109, 114, 105, 118]⟩ 3 = V10 at it r1 r3 r5 hc ⊢
  have yr1 := r1.cell
  have zr1 := r1.lt
  have yr3 := r3.cell
  have zr3 := r3.lt
  have yr5 := r5.cell
  have zr5 := r5.lt
  go_wp2_with fail
  refine Calls.mono (number_i b5 _ zr5) ?_
  rintro e W10 ⟨rfl, hW⟩
  subst hW
  clear yr1 yr3 yr5 zr1 zr3 zr5
  have yr1 := r1.cell
  have zr1 := r1.lt
  have yr3 := r3.cell
  have zr3 := r3.lt
  have yr5 := r5.cell
  have zr5 := r5.lt
  go_upto_region 10 with fail
  clear yr1 yr3 yr5 zr1 zr3 zr5
  go_cut [4] (fun q wx => q = .bool (k1 && (decide ((0 : Int) ≤ b) && decide (b ≤ 3))) ∧ Row wx w.heap.size #[.int .i64 3, .int .i64 m, .int .i64 a, .int .i64 b, .int .i64 c, .string tag] 23 ∧ Row wx b3 #[.string wd, .string ⟨#[109, 114, 105, 118]⟩] 44 ∧ Row wx b5 #[.int .i64 3, .int .i64 0, .int .i64 0, .int .i64 b, .int .i64 c, .string tag] 23 ∧ It wx bi ⟨#[109, 114, 105, 118]⟩ 3 ∧ Below w.heap.size w wx)
  case first =>
    have yr1 := r1.cell
    have zr1 := r1.lt
    have yr3 := r3.cell
    have zr3 := r3.lt
    have yr5 := r5.cell
    have zr5 := r5.lt
    cases hk : k1
    · go_wp2_with fail
      go_meet
      exact ⟨by first | (simp [hk]; done) | (simp [hk]; omega), r1, r3, r5, it, hc⟩
    by_cases h1 : (0 : Int) ≤ b
    · by_cases h2 : b ≤ 3
      · go_wp2_with fail
        go_meet
        exact ⟨by first | (simp [hk, h1, h2]; done) | (simp [hk, h1, h2]; omega), r1, r3, r5, it, hc⟩
      · go_wp2_with fail
        go_meet
        exact ⟨by first | (simp [hk, h1, h2]; done) | (simp [hk, h1, h2]; omega), r1, r3, r5, it, hc⟩
    · go_wp2_with fail
      go_meet
      exact ⟨by first | (simp [hk, h1]; done) | (simp [hk, h1]; omega), r1, r3, r5, it, hc⟩
  obtain ⟨rfl, r1, r3, r5, it, hc⟩ := hcut
  have yr1 := r1.cell
  have zr1 := r1.lt
  have yr3 := r3.cell
  have zr3 := r3.lt
  have yr5 := r5.cell
  have zr5 := r5.lt
  have ur5 := r5.free
  go_wp2_with fail
  clear yr1 yr3 yr5 zr1 zr3 zr5 ur5
  replace it := it.set (r5.ne_iter it) 3 (.int .i64 0)
  replace r1 := (r1.other nr1_r5.symm 3 (.int .i64 0))
  replace r3 := (r3.other nr3_r5.symm 3 (.int .i64 0))
  replace r5 := (r5.set 3 (.int .i64 0))
  simp only [List.setIfInBounds_toArray, List.set_cons_zero, List.set_cons_succ] at r5
  replace hc := (hc.setCell (p := ⟨b5, 3, none⟩) wr5 (.int .i64 0))
  generalize hW : World.setCell _ _ _ = V11 at *
  clear hW
  generalize hok2 : (k1 && (decide ((0 : Int) ≤ b) && decide (b ≤ 3))) = k2 at *
  rw [rounds_succ]
  have hx := it.next (by decide) 118 rfl (by decide)
  have yr1 := r1.cell
  have zr1 := r1.lt
  have yr3 := r3.cell
  have zr3 := r3.lt
  have yr5 := r5.cell
  have zr5 := r5.lt
  go_upto_region 6 with fail
  clear yr1 yr3 yr5 zr1 zr3 zr5
  clear hx
  replace r1 := r1.iter it 4
  replace r3 := r3.iter it 4
  replace r5 := r5.iter it 4
  replace hc := Lib.below_iterAt hc (show w.heap.size ≤ bi from hbi) ⟨#[109, 114, 105, 118]⟩ 4
  replace it := it.step 4
  generalize V11.iterAt bi ⟨#[109, 114, 105, 118]⟩ 4 = V12 at it r1 r3 r5 hc ⊢
  have yr1 := r1.cell
  have zr1 := r1.lt
  have yr3 := r3.cell
  have zr3 := r3.lt
  have yr5 := r5.cell
  have zr5 := r5.lt
  go_wp2_with fail
  refine Calls.mono (number_v b5 _ zr5) ?_
  rintro e W12 ⟨rfl, hW⟩
  subst hW
  clear yr1 yr3 yr5 zr1 zr3 zr5
  have yr1 := r1.cell
  have zr1 := r1.lt
  have yr3 := r3.cell
  have zr3 := r3.lt
  have yr5 := r5.cell
  have zr5 := r5.lt
  go_upto_region 10 with fail
  clear yr1 yr3 yr5 zr1 zr3 zr5
  go_cut [4] (fun q wx => q = .bool (k2 && (decide ((-1 : Int) ≤ c) && decide (c ≤ 31))) ∧ Row wx w.heap.size #[.int .i64 3, .int .i64 m, .int .i64 a, .int .i64 b, .int .i64 c, .string tag] 23 ∧ Row wx b3 #[.string wd, .string ⟨#[109, 114, 105, 118]⟩] 44 ∧ Row wx b5 #[.int .i64 3, .int .i64 0, .int .i64 0, .int .i64 0, .int .i64 c, .string tag] 23 ∧ It wx bi ⟨#[109, 114, 105, 118]⟩ 4 ∧ Below w.heap.size w wx)
  case first =>
    have yr1 := r1.cell
    have zr1 := r1.lt
    have yr3 := r3.cell
    have zr3 := r3.lt
    have yr5 := r5.cell
    have zr5 := r5.lt
    cases hk : k2
    · go_wp2_with fail
      go_meet
      exact ⟨by first | (simp [hk]; done) | (simp [hk]; omega), r1, r3, r5, it, hc⟩
    by_cases h1 : (-1 : Int) ≤ c
    · by_cases h2 : c ≤ 31
      · go_wp2_with fail
        go_meet
        exact ⟨by first | (simp [hk, h1, h2]; done) | (simp [hk, h1, h2]; omega), r1, r3, r5, it, hc⟩
      · go_wp2_with fail
        go_meet
        exact ⟨by first | (simp [hk, h1, h2]; done) | (simp [hk, h1, h2]; omega), r1, r3, r5, it, hc⟩
    · go_wp2_with fail
      go_meet
      exact ⟨by first | (simp [hk, h1]; done) | (simp [hk, h1]; omega), r1, r3, r5, it, hc⟩
  obtain ⟨rfl, r1, r3, r5, it, hc⟩ := hcut
  have yr1 := r1.cell
  have zr1 := r1.lt
  have yr3 := r3.cell
  have zr3 := r3.lt
  have yr5 := r5.cell
  have zr5 := r5.lt
  have ur5 := r5.free
  go_wp2_with fail
  clear yr1 yr3 yr5 zr1 zr3 zr5 ur5
  replace it := it.set (r5.ne_iter it) 4 (.int .i64 0)
  replace r1 := (r1.other nr1_r5.symm 4 (.int .i64 0))
  replace r3 := (r3.other nr3_r5.symm 4 (.int .i64 0))
  replace r5 := (r5.set 4 (.int .i64 0))
  simp only [List.setIfInBounds_toArray, List.set_cons_zero, List.set_cons_succ] at r5
  replace hc := (hc.setCell (p := ⟨b5, 4, none⟩) wr5 (.int .i64 0))
  generalize hW : World.setCell _ _ _ = V13 at *
  clear hW
  generalize hok3 : (k2 && (decide ((-1 : Int) ≤ c) && decide (c ≤ 31))) = k3 at *
  rw [rounds_succ]
  have hx := it.done (by decide)
  have hq := op_neq 3 0 0 0 0 tag
  have he : opOk 3 m a b c tag.data.toList = (k3 && zeroB 0 0 0 0 tag) := by
    rw [← hok3, ← hok2, ← hok1, ← hok0]
    rw [Bool.eq_iff_iff, opOk_iff, tg_empty (by decide) (by decide)]
    unfold zeroB
    by_cases ht : tag = ⟨#[]⟩
    · simp [ht, mHi, aLo, aHi, bLo, bHi, cLo, cHi]
      try omega
    · simp [ht]
  cases hk : k3
  · rw [hk] at he
    have yr1 := r1.cell
    have zr1 := r1.lt
    have yr3 := r3.cell
    have zr3 := r3.lt
    have yr5 := r5.cell
    have zr5 := r5.lt
    go_wp2_with fail
    refine bodyPost_ret (v := .int .i64 2) (by simp [results, Tryz.results9, go_sem]) rfl ⟨by unfold opErr; rw [he, Bool.false_and]; rfl, hc⟩
  rw [hk] at he
  cases hz : zeroB 0 0 0 0 tag
  · rw [hz] at he hq
    have yr1 := r1.cell
    have zr1 := r1.lt
    have yr3 := r3.cell
    have zr3 := r3.lt
    have yr5 := r5.cell
    have zr5 := r5.lt
    go_wp2_with fail
    refine bodyPost_ret (v := .int .i64 2) (by simp [results, Tryz.results9, go_sem]) rfl ⟨by unfold opErr; rw [he, Bool.true_and]; rfl, hc⟩
  · rw [hz] at he hq
    have yr1 := r1.cell
    have zr1 := r1.lt
    have yr3 := r3.cell
    have zr3 := r3.lt
    have yr5 := r5.cell
    have zr5 := r5.lt
    go_wp2_with fail
    refine bodyPost_ret (v := .int .i64 0) (by simp [results, Tryz.results9, go_sem]) rfl ⟨by unfold opErr; rw [he, Bool.true_and]; rfl, hc⟩
theorem check_4 (m a b c : Int) (tag : ByteArray) (w : World) : Ret 9 #[opV 4 m a b c tag] w (.int .i64 (opErr 4 m a b c tag)) := by
  have c1 := fun w => of_c 4 w
  rw [show inB 4 1 17 = true from rfl, show partsB 4 = ⟨#[109, 114]⟩ from rfl] at c1
  generalize wordB 4 = wd at c1
  have C := Lib.hid c1
  clear c1
  have hc := Below.refl w.heap.size w
  go_enter Tryz.func9, Tryz.ntmps9
  go_upto_region 1 with fail
  have r1 := Row.new (W := w) (cs := #[.int .i64 4, .int .i64 m, .int .i64 a, .int .i64 b, .int .i64 c, .string tag]) (t := 23)
  have hn := below_alloc w (.cells #[.int .i64 4, .int .i64 m, .int .i64 a, .int .i64 b, .int .i64 c, .string tag] 23)
  have wr1 : w.heap.size ≤ w.heap.size := hc.size
  replace hc := chain hc hn
  clear hn
  generalize w.alloc (.cells #[.int .i64 4, .int .i64 m, .int .i64 a, .int .i64 b, .int .i64 c, .string tag] 23) = V1 at r1 hc ⊢
  have yr1 := r1.cell
  have zr1 := r1.lt
  go_wp2_with fail
  refine Calls.mono (C.out _) ?_
  rintro e V2 ⟨rfl, hn⟩
  clear yr1 zr1
  replace r1 := r1.on hn
  replace hc := chain hc hn
  clear hn
  have yr1 := r1.cell
  have zr1 := r1.lt
  go_upto_region 2 with fail
  clear yr1 zr1
  have r3 := Row.new (W := V2) (cs := #[.string wd, .string ⟨#[109, 114]⟩]) (t := 44)
  have hn := below_alloc V2 (.cells #[.string wd, .string ⟨#[109, 114]⟩] 44)
  have nr1_r3 : w.heap.size ≠ V2.heap.size := Nat.ne_of_lt r1.lt
  have wr3 : w.heap.size ≤ V2.heap.size := hc.size
  replace r1 := r1.on hn
  replace hc := chain hc hn
  clear hn
  generalize V2.alloc (.cells #[.string wd, .string ⟨#[109, 114]⟩] 44) = V3 at r1 r3 hc ⊢
  generalize V2.heap.size = b3 at *
  have yr1 := r1.cell
  have zr1 := r1.lt
  have yr3 := r3.cell
  have zr3 := r3.lt
  go_upto_region 3 with fail
  clear yr1 yr3 zr1 zr3
  have r5 := Row.new (W := V3) (cs := #[.int .i64 4, .int .i64 m, .int .i64 a, .int .i64 b, .int .i64 c, .string tag]) (t := 23)
  have hn := below_alloc V3 (.cells #[.int .i64 4, .int .i64 m, .int .i64 a, .int .i64 b, .int .i64 c, .string tag] 23)
  have nr1_r5 : w.heap.size ≠ V3.heap.size := Nat.ne_of_lt r1.lt
  have nr3_r5 : b3 ≠ V3.heap.size := Nat.ne_of_lt r3.lt
  have wr5 : w.heap.size ≤ V3.heap.size := hc.size
  replace r1 := r1.on hn
  replace r3 := r3.on hn
  replace hc := chain hc hn
  clear hn
  generalize V3.alloc (.cells #[.int .i64 4, .int .i64 m, .int .i64 a, .int .i64 b, .int .i64 c, .string tag] 23) = V4 at r1 r3 r5 hc ⊢
  generalize V3.heap.size = b5 at *
  have yr1 := r1.cell
  have zr1 := r1.lt
  have yr3 := r3.cell
  have zr3 := r3.lt
  have yr5 := r5.cell
  have zr5 := r5.lt
  go_wp2_with fail
  clear yr1 yr3 yr5 zr1 zr3 zr5
  have hbi : w.heap.size ≤ V4.heap.size := hc.size
  have it := It.new V4 ⟨#[109, 114]⟩
  have hn := below_iter V4 ⟨#[109, 114]⟩
  replace r1 := r1.on hn
  replace r3 := r3.on hn
  replace r5 := r5.on hn
  replace hc := chain hc hn
  clear hn
  generalize V4.iter ⟨#[109, 114]⟩ 0 = V5 at it r1 r3 r5 hc ⊢
  generalize V4.heap.size = bi at *
  refine wp_loop_rounds 4 ?_
  rw [rounds_succ]
  have hx := it.next (by decide) 109 rfl (by decide)
  have yr1 := r1.cell
  have zr1 := r1.lt
  have yr3 := r3.cell
  have zr3 := r3.lt
  have yr5 := r5.cell
  have zr5 := r5.lt
  go_upto_region 6 with fail
  clear yr1 yr3 yr5 zr1 zr3 zr5
  clear hx
  replace r1 := r1.iter it 1
  replace r3 := r3.iter it 1
  replace r5 := r5.iter it 1
  replace hc := Lib.below_iterAt hc (show w.heap.size ≤ bi from hbi) ⟨#[109, 114]⟩ 1
  replace it := it.step 1
  generalize V5.iterAt bi ⟨#[109, 114]⟩ 1 = V6 at it r1 r3 r5 hc ⊢
  have yr1 := r1.cell
  have zr1 := r1.lt
  have yr3 := r3.cell
  have zr3 := r3.lt
  have yr5 := r5.cell
  have zr5 := r5.lt
  go_wp2_with fail
  refine Calls.mono (number_m b5 _ zr5) ?_
  rintro e W6 ⟨rfl, hW⟩
  subst hW
  clear yr1 yr3 yr5 zr1 zr3 zr5
  have yr1 := r1.cell
  have zr1 := r1.lt
  have yr3 := r3.cell
  have zr3 := r3.lt
  have yr5 := r5.cell
  have zr5 := r5.lt
  go_upto_region 10 with fail
  clear yr1 yr3 yr5 zr1 zr3 zr5
  go_cut [4] (fun q wx => q = .bool (decide ((0 : Int) ≤ m) && decide (m ≤ 3)) ∧ Row wx w.heap.size #[.int .i64 4, .int .i64 m, .int .i64 a, .int .i64 b, .int .i64 c, .string tag] 23 ∧ Row wx b3 #[.string wd, .string ⟨#[109, 114]⟩] 44 ∧ Row wx b5 #[.int .i64 4, .int .i64 m, .int .i64 a, .int .i64 b, .int .i64 c, .string tag] 23 ∧ It wx bi ⟨#[109, 114]⟩ 1 ∧ Below w.heap.size w wx)
  case first =>
    have yr1 := r1.cell
    have zr1 := r1.lt
    have yr3 := r3.cell
    have zr3 := r3.lt
    have yr5 := r5.cell
    have zr5 := r5.lt
    by_cases h1 : (0 : Int) ≤ m
    · by_cases h2 : m ≤ 3
      · go_wp2_with fail
        go_meet
        exact ⟨by first | (simp [h1, h2]; done) | (simp [h1, h2]; omega), r1, r3, r5, it, hc⟩
      · go_wp2_with fail
        go_meet
        exact ⟨by first | (simp [h1, h2]; done) | (simp [h1, h2]; omega), r1, r3, r5, it, hc⟩
    · go_wp2_with fail
      go_meet
      exact ⟨by first | (simp [h1]; done) | (simp [h1]; omega), r1, r3, r5, it, hc⟩
  obtain ⟨rfl, r1, r3, r5, it, hc⟩ := hcut
  have yr1 := r1.cell
  have zr1 := r1.lt
  have yr3 := r3.cell
  have zr3 := r3.lt
  have yr5 := r5.cell
  have zr5 := r5.lt
  have ur5 := r5.free
  go_wp2_with fail
  clear yr1 yr3 yr5 zr1 zr3 zr5 ur5
  replace it := it.set (r5.ne_iter it) 1 (.int .i64 0)
  replace r1 := (r1.other nr1_r5.symm 1 (.int .i64 0))
  replace r3 := (r3.other nr3_r5.symm 1 (.int .i64 0))
  replace r5 := (r5.set 1 (.int .i64 0))
  simp only [List.setIfInBounds_toArray, List.set_cons_zero, List.set_cons_succ] at r5
  replace hc := (hc.setCell (p := ⟨b5, 1, none⟩) wr5 (.int .i64 0))
  generalize hW : World.setCell _ _ _ = V7 at *
  clear hW
  generalize hok0 : (decide ((0 : Int) ≤ m) && decide (m ≤ 3)) = k0 at *
  rw [rounds_succ]
  have hx := it.next (by decide) 114 rfl (by decide)
  have yr1 := r1.cell
  have zr1 := r1.lt
  have yr3 := r3.cell
  have zr3 := r3.lt
  have yr5 := r5.cell
  have zr5 := r5.lt
  go_upto_region 6 with fail
  clear yr1 yr3 yr5 zr1 zr3 zr5
  clear hx
  replace r1 := r1.iter it 2
  replace r3 := r3.iter it 2
  replace r5 := r5.iter it 2
  replace hc := Lib.below_iterAt hc (show w.heap.size ≤ bi from hbi) ⟨#[109, 114]⟩ 2
  replace it := it.step 2
  generalize V7.iterAt bi ⟨#[109, 114]⟩ 2 = V8 at it r1 r3 r5 hc ⊢
  have yr1 := r1.cell
  have zr1 := r1.lt
  have yr3 := r3.cell
  have zr3 := r3.lt
  have yr5 := r5.cell
  have zr5 := r5.lt
  go_wp2_with fail
  refine Calls.mono (number_r b5 _ zr5) ?_
  rintro e W8 ⟨rfl, hW⟩
  subst hW
  clear yr1 yr3 yr5 zr1 zr3 zr5
  have yr1 := r1.cell
  have zr1 := r1.lt
  have yr3 := r3.cell
  have zr3 := r3.lt
  have yr5 := r5.cell
  have zr5 := r5.lt
  go_upto_region 10 with fail
  clear yr1 yr3 yr5 zr1 zr3 zr5
  go_cut [4] (fun q wx => q = .bool (k0 && (decide ((0 : Int) ≤ a) && decide (a ≤ 31))) ∧ Row wx w.heap.size #[.int .i64 4, .int .i64 m, .int .i64 a, .int .i64 b, .int .i64 c, .string tag] 23 ∧ Row wx b3 #[.string wd, .string ⟨#[109, 114]⟩] 44 ∧ Row wx b5 #[.int .i64 4, .int .i64 0, .int .i64 a, .int .i64 b, .int .i64 c, .string tag] 23 ∧ It wx bi ⟨#[109, 114]⟩ 2 ∧ Below w.heap.size w wx)
  case first =>
    have yr1 := r1.cell
    have zr1 := r1.lt
    have yr3 := r3.cell
    have zr3 := r3.lt
    have yr5 := r5.cell
    have zr5 := r5.lt
    cases hk : k0
    · go_wp2_with fail
      go_meet
      exact ⟨by first | (simp [hk]; done) | (simp [hk]; omega), r1, r3, r5, it, hc⟩
    by_cases h1 : (0 : Int) ≤ a
    · by_cases h2 : a ≤ 31
      · go_wp2_with fail
        go_meet
        exact ⟨by first | (simp [hk, h1, h2]; done) | (simp [hk, h1, h2]; omega), r1, r3, r5, it, hc⟩
      · go_wp2_with fail
        go_meet
        exact ⟨by first | (simp [hk, h1, h2]; done) | (simp [hk, h1, h2]; omega), r1, r3, r5, it, hc⟩
    · go_wp2_with fail
      go_meet
      exact ⟨by first | (simp [hk, h1]; done) | (simp [hk, h1]; omega), r1, r3, r5, it, hc⟩
  obtain ⟨rfl, r1, r3, r5, it, hc⟩ := hcut
  have yr1 := r1.cell
  have zr1 := r1.lt
  have yr3 := r3.cell
  have zr3 := r3.lt
  have yr5 := r5.cell
  have zr5 := r5.lt
  have ur5 := r5.free
  go_wp2_with fail
  clear yr1 yr3 yr5 zr1 zr3 zr5 ur5
  replace it := it.set (r5.ne_iter it) 2 (.int .i64 0)
  replace r1 := (r1.other nr1_r5.symm 2 (.int .i64 0))
  replace r3 := (r3.other nr3_r5.symm 2 (.int .i64 0))
  replace r5 := (r5.set 2 (.int .i64 0))
  simp only [List.setIfInBounds_toArray, List.set_cons_zero, List.set_cons_succ] at r5
  replace hc := (hc.setCell (p := ⟨b5, 2, none⟩) wr5 (.int .i64 0))
  generalize hW : World.setCell _ _ _ = V9 at *
  clear hW
  generalize hok1 : (k0 && (decide ((0 : Int) ≤ a) && decide (a ≤ 31))) = k1 at *
  rw [rounds_succ]
  have hx := it.done (by decide)
  have hq := op_neq 4 0 0 b c tag
  have he : opOk 4 m a b c tag.data.toList = (k1 && zeroB 0 0 b c tag) := by
    rw [← hok1, ← hok0]
    rw [Bool.eq_iff_iff, opOk_iff, tg_empty (by decide) (by decide)]
    unfold zeroB
    by_cases ht : tag = ⟨#[]⟩
    · simp [ht, mHi, aLo, aHi, bLo, bHi, cLo, cHi]
      try omega
    · simp [ht]
  cases hk : k1
  · rw [hk] at he
    have yr1 := r1.cell
    have zr1 := r1.lt
    have yr3 := r3.cell
    have zr3 := r3.lt
    have yr5 := r5.cell
    have zr5 := r5.lt
    go_wp2_with fail
    refine bodyPost_ret (v := .int .i64 2) (by simp [results, Tryz.results9, go_sem]) rfl ⟨by unfold opErr; rw [he, Bool.false_and]; rfl, hc⟩
  rw [hk] at he
  cases hz : zeroB 0 0 b c tag
  · rw [hz] at he hq
    have yr1 := r1.cell
    have zr1 := r1.lt
    have yr3 := r3.cell
    have zr3 := r3.lt
    have yr5 := r5.cell
    have zr5 := r5.lt
    go_wp2_with fail
    refine bodyPost_ret (v := .int .i64 2) (by simp [results, Tryz.results9, go_sem]) rfl ⟨by unfold opErr; rw [he, Bool.true_and]; rfl, hc⟩
  · rw [hz] at he hq
    have yr1 := r1.cell
    have zr1 := r1.lt
    have yr3 := r3.cell
    have zr3 := r3.lt
    have yr5 := r5.cell
    have zr5 := r5.lt
    go_wp2_with fail
    refine bodyPost_ret (v := .int .i64 0) (by simp [results, Tryz.results9, go_sem]) rfl ⟨by unfold opErr; rw [he, Bool.true_and]; rfl, hc⟩
theorem check_5 (m a b c : Int) (tag : ByteArray) (w : World) : Ret 9 #[opV 5 m a b c tag] w (.int .i64 (opErr 5 m a b c tag)) := by
  have c1 := fun w => of_c 5 w
  rw [show inB 5 1 17 = true from rfl, show partsB 5 = ⟨#[109, 82, 103]⟩ from rfl] at c1
  generalize wordB 5 = wd at c1
  have C := Lib.hid c1
  clear c1
  have hc := Below.refl w.heap.size w
  go_enter Tryz.func9, Tryz.ntmps9
  go_upto_region 1 with fail
  have r1 := Row.new (W := w) (cs := #[.int .i64 5, .int .i64 m, .int .i64 a, .int .i64 b, .int .i64 c, .string tag]) (t := 23)
  have hn := below_alloc w (.cells #[.int .i64 5, .int .i64 m, .int .i64 a, .int .i64 b, .int .i64 c, .string tag] 23)
  have wr1 : w.heap.size ≤ w.heap.size := hc.size
  replace hc := chain hc hn
  clear hn
  generalize w.alloc (.cells #[.int .i64 5, .int .i64 m, .int .i64 a, .int .i64 b, .int .i64 c, .string tag] 23) = V1 at r1 hc ⊢
  have yr1 := r1.cell
  have zr1 := r1.lt
  go_wp2_with fail
  refine Calls.mono (C.out _) ?_
  rintro e V2 ⟨rfl, hn⟩
  clear yr1 zr1
  replace r1 := r1.on hn
  replace hc := chain hc hn
  clear hn
  have yr1 := r1.cell
  have zr1 := r1.lt
  go_upto_region 2 with fail
  clear yr1 zr1
  have r3 := Row.new (W := V2) (cs := #[.string wd, .string ⟨#[109, 82, 103]⟩]) (t := 44)
  have hn := below_alloc V2 (.cells #[.string wd, .string ⟨#[109, 82, 103]⟩] 44)
  have nr1_r3 : w.heap.size ≠ V2.heap.size := Nat.ne_of_lt r1.lt
  have wr3 : w.heap.size ≤ V2.heap.size := hc.size
  replace r1 := r1.on hn
  replace hc := chain hc hn
  clear hn
  generalize V2.alloc (.cells #[.string wd, .string ⟨#[109, 82, 103]⟩] 44) = V3 at r1 r3 hc ⊢
  generalize V2.heap.size = b3 at *
  have yr1 := r1.cell
  have zr1 := r1.lt
  have yr3 := r3.cell
  have zr3 := r3.lt
  go_upto_region 3 with fail
  clear yr1 yr3 zr1 zr3
  have r5 := Row.new (W := V3) (cs := #[.int .i64 5, .int .i64 m, .int .i64 a, .int .i64 b, .int .i64 c, .string tag]) (t := 23)
  have hn := below_alloc V3 (.cells #[.int .i64 5, .int .i64 m, .int .i64 a, .int .i64 b, .int .i64 c, .string tag] 23)
  have nr1_r5 : w.heap.size ≠ V3.heap.size := Nat.ne_of_lt r1.lt
  have nr3_r5 : b3 ≠ V3.heap.size := Nat.ne_of_lt r3.lt
  have wr5 : w.heap.size ≤ V3.heap.size := hc.size
  replace r1 := r1.on hn
  replace r3 := r3.on hn
  replace hc := chain hc hn
  clear hn
  generalize V3.alloc (.cells #[.int .i64 5, .int .i64 m, .int .i64 a, .int .i64 b, .int .i64 c, .string tag] 23) = V4 at r1 r3 r5 hc ⊢
  generalize V3.heap.size = b5 at *
  have yr1 := r1.cell
  have zr1 := r1.lt
  have yr3 := r3.cell
  have zr3 := r3.lt
  have yr5 := r5.cell
  have zr5 := r5.lt
  go_wp2_with fail
  clear yr1 yr3 yr5 zr1 zr3 zr5
  have hbi : w.heap.size ≤ V4.heap.size := hc.size
  have it := It.new V4 ⟨#[109, 82, 103]⟩
  have hn := below_iter V4 ⟨#[109, 82, 103]⟩
  replace r1 := r1.on hn
  replace r3 := r3.on hn
  replace r5 := r5.on hn
  replace hc := chain hc hn
  clear hn
  generalize V4.iter ⟨#[109, 82, 103]⟩ 0 = V5 at it r1 r3 r5 hc ⊢
  generalize V4.heap.size = bi at *
  refine wp_loop_rounds 5 ?_
  rw [rounds_succ]
  have hx := it.next (by decide) 109 rfl (by decide)
  have yr1 := r1.cell
  have zr1 := r1.lt
  have yr3 := r3.cell
  have zr3 := r3.lt
  have yr5 := r5.cell
  have zr5 := r5.lt
  go_upto_region 6 with fail
  clear yr1 yr3 yr5 zr1 zr3 zr5
  clear hx
  replace r1 := r1.iter it 1
  replace r3 := r3.iter it 1
  replace r5 := r5.iter it 1
  replace hc := Lib.below_iterAt hc (show w.heap.size ≤ bi from hbi) ⟨#[109, 82, 103]⟩ 1
  replace it := it.step 1
  generalize V5.iterAt bi ⟨#[109, 82, 103]⟩ 1 = V6 at it r1 r3 r5 hc ⊢
  have yr1 := r1.cell
  have zr1 := r1.lt
  have yr3 := r3.cell
  have zr3 := r3.lt
  have yr5 := r5.cell
  have zr5 := r5.lt
  go_wp2_with fail
  refine Calls.mono (number_m b5 _ zr5) ?_
  rintro e W6 ⟨rfl, hW⟩
  subst hW
  clear yr1 yr3 yr5 zr1 zr3 zr5
  have yr1 := r1.cell
  have zr1 := r1.lt
  have yr3 := r3.cell
  have zr3 := r3.lt
  have yr5 := r5.cell
  have zr5 := r5.lt
  go_upto_region 10 with fail
  clear yr1 yr3 yr5 zr1 zr3 zr5
  go_cut [4] (fun q wx => q = .bool (decide ((0 : Int) ≤ m) && decide (m ≤ 3)) ∧ Row wx w.heap.size #[.int .i64 5, .int .i64 m, .int .i64 a, .int .i64 b, .int .i64 c, .string tag] 23 ∧ Row wx b3 #[.string wd, .string ⟨#[109, 82, 103]⟩] 44 ∧ Row wx b5 #[.int .i64 5, .int .i64 m, .int .i64 a, .int .i64 b, .int .i64 c, .string tag] 23 ∧ It wx bi ⟨#[109, 82, 103]⟩ 1 ∧ Below w.heap.size w wx)
  case first =>
    have yr1 := r1.cell
    have zr1 := r1.lt
    have yr3 := r3.cell
    have zr3 := r3.lt
    have yr5 := r5.cell
    have zr5 := r5.lt
    by_cases h1 : (0 : Int) ≤ m
    · by_cases h2 : m ≤ 3
      · go_wp2_with fail
        go_meet
        exact ⟨by first | (simp [h1, h2]; done) | (simp [h1, h2]; omega), r1, r3, r5, it, hc⟩
      · go_wp2_with fail
        go_meet
        exact ⟨by first | (simp [h1, h2]; done) | (simp [h1, h2]; omega), r1, r3, r5, it, hc⟩
    · go_wp2_with fail
      go_meet
      exact ⟨by first | (simp [h1]; done) | (simp [h1]; omega), r1, r3, r5, it, hc⟩
  obtain ⟨rfl, r1, r3, r5, it, hc⟩ := hcut
  have yr1 := r1.cell
  have zr1 := r1.lt
  have yr3 := r3.cell
  have zr3 := r3.lt
  have yr5 := r5.cell
  have zr5 := r5.lt
  have ur5 := r5.free
  go_wp2_with fail
  clear yr1 yr3 yr5 zr1 zr3 zr5 ur5
  replace it := it.set (r5.ne_iter it) 1 (.int .i64 0)
  replace r1 := (r1.other nr1_r5.symm 1 (.int .i64 0))
  replace r3 := (r3.other nr3_r5.symm 1 (.int .i64 0))
  replace r5 := (r5.set 1 (.int .i64 0))
  simp only [List.setIfInBounds_toArray, List.set_cons_zero, List.set_cons_succ] at r5
  replace hc := (hc.setCell (p := ⟨b5, 1, none⟩) wr5 (.int .i64 0))
  generalize hW : World.setCell _ _ _ = V7 at *
  clear hW
  generalize hok0 : (decide ((0 : Int) ≤ m) && decide (m ≤ 3)) = k0 at *
  rw [rounds_succ]
  have hx := it.next (by decide) 82 rfl (by decide)
  have yr1 := r1.cell
  have zr1 := r1.lt
  have yr3 := r3.cell
  have zr3 := r3.lt
  have yr5 := r5.cell
  have zr5 := r5.lt
  go_upto_region 6 with fail
  clear yr1 yr3 yr5 zr1 zr3 zr5
  clear hx
  replace r1 := r1.iter it 2
  replace r3 := r3.iter it 2
  replace r5 := r5.iter it 2
  replace hc := Lib.below_iterAt hc (show w.heap.size ≤ bi from hbi) ⟨#[109, 82, 103]⟩ 2
  replace it := it.step 2
  generalize V7.iterAt bi ⟨#[109, 82, 103]⟩ 2 = V8 at it r1 r3 r5 hc ⊢
  have yr1 := r1.cell
  have zr1 := r1.lt
  have yr3 := r3.cell
  have zr3 := r3.lt
  have yr5 := r5.cell
  have zr5 := r5.lt
  go_wp2_with fail
  refine Calls.mono (number_R2 b5 _ zr5) ?_
  rintro e W8 ⟨rfl, hW⟩
  subst hW
  clear yr1 yr3 yr5 zr1 zr3 zr5
  have yr1 := r1.cell
  have zr1 := r1.lt
  have yr3 := r3.cell
  have zr3 := r3.lt
  have yr5 := r5.cell
  have zr5 := r5.lt
  go_upto_region 10 with fail
  clear yr1 yr3 yr5 zr1 zr3 zr5
  go_cut [4] (fun q wx => q = .bool (k0 && (decide ((-1 : Int) ≤ a) && decide (a ≤ 31))) ∧ Row wx w.heap.size #[.int .i64 5, .int .i64 m, .int .i64 a, .int .i64 b, .int .i64 c, .string tag] 23 ∧ Row wx b3 #[.string wd, .string ⟨#[109, 82, 103]⟩] 44 ∧ Row wx b5 #[.int .i64 5, .int .i64 0, .int .i64 a, .int .i64 b, .int .i64 c, .string tag] 23 ∧ It wx bi ⟨#[109, 82, 103]⟩ 2 ∧ Below w.heap.size w wx)
  case first =>
    have yr1 := r1.cell
    have zr1 := r1.lt
    have yr3 := r3.cell
    have zr3 := r3.lt
    have yr5 := r5.cell
    have zr5 := r5.lt
    cases hk : k0
    · go_wp2_with fail
      go_meet
      exact ⟨by first | (simp [hk]; done) | (simp [hk]; omega), r1, r3, r5, it, hc⟩
    by_cases h1 : (-1 : Int) ≤ a
    · by_cases h2 : a ≤ 31
      · go_wp2_with fail
        go_meet
        exact ⟨by first | (simp [hk, h1, h2]; done) | (simp [hk, h1, h2]; omega), r1, r3, r5, it, hc⟩
      · go_wp2_with fail
        go_meet
        exact ⟨by first | (simp [hk, h1, h2]; done) | (simp [hk, h1, h2]; omega), r1, r3, r5, it, hc⟩
    · go_wp2_with fail
      go_meet
      exact ⟨by first | (simp [hk, h1]; done) | (simp [hk, h1]; omega), r1, r3, r5, it, hc⟩
  obtain ⟨rfl, r1, r3, r5, it, hc⟩ := hcut
  have yr1 := r1.cell
  have zr1 := r1.lt
  have yr3 := r3.cell
  have zr3 := r3.lt
  have yr5 := r5.cell
  have zr5 := r5.lt
  have ur5 := r5.free
  go_wp2_with fail
  clear yr1 yr3 yr5 zr1 zr3 zr5 ur5
  replace it := it.set (r5.ne_iter it) 2 (.int .i64 0)
  replace r1 := (r1.other nr1_r5.symm 2 (.int .i64 0))
  replace r3 := (r3.other nr3_r5.symm 2 (.int .i64 0))
  replace r5 := (r5.set 2 (.int .i64 0))
  simp only [List.setIfInBounds_toArray, List.set_cons_zero, List.set_cons_succ] at r5
  replace hc := (hc.setCell (p := ⟨b5, 2, none⟩) wr5 (.int .i64 0))
  generalize hW : World.setCell _ _ _ = V9 at *
  clear hW
  generalize hok1 : (k0 && (decide ((-1 : Int) ≤ a) && decide (a ≤ 31))) = k1 at *
  rw [rounds_succ]
  have hx := it.next (by decide) 103 rfl (by decide)
  have yr1 := r1.cell
  have zr1 := r1.lt
  have yr3 := r3.cell
  have zr3 := r3.lt
  have yr5 := r5.cell
  have zr5 := r5.lt
  go_upto_region 6 with fail
  clear yr1 yr3 yr5 zr1 zr3 zr5
  clear hx
  replace r1 := r1.iter it 3
  replace r3 := r3.iter it 3
  replace r5 := r5.iter it 3
  replace hc := Lib.below_iterAt hc (show w.heap.size ≤ bi from hbi) ⟨#[109, 82, 103]⟩ 3
  replace it := it.step 3
  generalize V9.iterAt bi ⟨#[109, 82, 103]⟩ 3 = V10 at it r1 r3 r5 hc ⊢
  have yr1 := r1.cell
  have zr1 := r1.lt
  have yr3 := r3.cell
  have zr3 := r3.lt
  have yr5 := r5.cell
  have zr5 := r5.lt
  go_wp2_with fail
  refine Calls.mono (number_g b5 _ zr5) ?_
  rintro e W10 ⟨rfl, hW⟩
  subst hW
  clear yr1 yr3 yr5 zr1 zr3 zr5
  have yr1 := r1.cell
  have zr1 := r1.lt
  have yr3 := r3.cell
  have zr3 := r3.lt
  have yr5 := r5.cell
  have zr5 := r5.lt
  go_upto_region 10 with fail
  clear yr1 yr3 yr5 zr1 zr3 zr5
  go_cut [4] (fun q wx => q = .bool (k1 && (decide ((0 : Int) ≤ b) && decide (b ≤ 7))) ∧ Row wx w.heap.size #[.int .i64 5, .int .i64 m, .int .i64 a, .int .i64 b, .int .i64 c, .string tag] 23 ∧ Row wx b3 #[.string wd, .string ⟨#[109, 82, 103]⟩] 44 ∧ Row wx b5 #[.int .i64 5, .int .i64 0, .int .i64 0, .int .i64 b, .int .i64 c, .string tag] 23 ∧ It wx bi ⟨#[109, 82, 103]⟩ 3 ∧ Below w.heap.size w wx)
  case first =>
    have yr1 := r1.cell
    have zr1 := r1.lt
    have yr3 := r3.cell
    have zr3 := r3.lt
    have yr5 := r5.cell
    have zr5 := r5.lt
    cases hk : k1
    · go_wp2_with fail
      go_meet
      exact ⟨by first | (simp [hk]; done) | (simp [hk]; omega), r1, r3, r5, it, hc⟩
    by_cases h1 : (0 : Int) ≤ b
    · by_cases h2 : b ≤ 7
      · go_wp2_with fail
        go_meet
        exact ⟨by first | (simp [hk, h1, h2]; done) | (simp [hk, h1, h2]; omega), r1, r3, r5, it, hc⟩
      · go_wp2_with fail
        go_meet
        exact ⟨by first | (simp [hk, h1, h2]; done) | (simp [hk, h1, h2]; omega), r1, r3, r5, it, hc⟩
    · go_wp2_with fail
      go_meet
      exact ⟨by first | (simp [hk, h1]; done) | (simp [hk, h1]; omega), r1, r3, r5, it, hc⟩
  obtain ⟨rfl, r1, r3, r5, it, hc⟩ := hcut
  have yr1 := r1.cell
  have zr1 := r1.lt
  have yr3 := r3.cell
  have zr3 := r3.lt
  have yr5 := r5.cell
  have zr5 := r5.lt
  have ur5 := r5.free
  go_wp2_with fail
  clear yr1 yr3 yr5 zr1 zr3 zr5 ur5
  replace it := it.set (r5.ne_iter it) 3 (.int .i64 0)
  replace r1 := (r1.other nr1_r5.symm 3 (.int .i64 0))
  replace r3 := (r3.other nr3_r5.symm 3 (.int .i64 0))
  replace r5 := (r5.set 3 (.int .i64 0))
  simp only [List.setIfInBounds_toArray, List.set_cons_zero, List.set_cons_succ] at r5
  replace hc := (hc.setCell (p := ⟨b5, 3, none⟩) wr5 (.int .i64 0))
  generalize hW : World.setCell _ _ _ = V11 at *
  clear hW
  generalize hok2 : (k1 && (decide ((0 : Int) ≤ b) && decide (b ≤ 7))) = k2 at *
  rw [rounds_succ]
  have hx := it.done (by decide)
  have hq := op_neq 5 0 0 0 c tag
  have he : opOk 5 m a b c tag.data.toList = (k2 && zeroB 0 0 0 c tag) := by
    rw [← hok2, ← hok1, ← hok0]
    rw [Bool.eq_iff_iff, opOk_iff, tg_empty (by decide) (by decide)]
    unfold zeroB
    by_cases ht : tag = ⟨#[]⟩
    · simp [ht, mHi, aLo, aHi, bLo, bHi, cLo, cHi]
      try omega
    · simp [ht]
  cases hk : k2
  · rw [hk] at he
    have yr1 := r1.cell
    have zr1 := r1.lt
    have yr3 := r3.cell
    have zr3 := r3.lt
    have yr5 := r5.cell
    have zr5 := r5.lt
    go_wp2_with fail
    refine bodyPost_ret (v := .int .i64 2) (by simp [results, Tryz.results9, go_sem]) rfl ⟨by unfold opErr; rw [he, Bool.false_and]; rfl, hc⟩
  rw [hk] at he
  cases hz : zeroB 0 0 0 c tag
  · rw [hz] at he hq
    have yr1 := r1.cell
    have zr1 := r1.lt
    have yr3 := r3.cell
    have zr3 := r3.lt
    have yr5 := r5.cell
    have zr5 := r5.lt
    go_wp2_with fail
    refine bodyPost_ret (v := .int .i64 2) (by simp [results, Tryz.results9, go_sem]) rfl ⟨by unfold opErr; rw [he, Bool.true_and]; rfl, hc⟩
  · rw [hz] at he hq
    have yr1 := r1.cell
    have zr1 := r1.lt
    have yr3 := r3.cell
    have zr3 := r3.lt
    have yr5 := r5.cell
    have zr5 := r5.lt
    go_wp2_with fail
    refine bodyPost_ret (v := .int .i64 0) (by simp [results, Tryz.results9, go_sem]) rfl ⟨by unfold opErr; rw [he, Bool.true_and]; rfl, hc⟩
theorem check_6 (m a b c : Int) (tag : ByteArray) (w : World) : Ret 9 #[opV 6 m a b c tag] w (.int .i64 (opErr 6 m a b c tag)) := by
  have c1 := fun w => of_c 6 w
  rw [show inB 6 1 17 = true from rfl, show partsB 6 = ⟨#[109, 103]⟩ from rfl] at c1
  generalize wordB 6 = wd at c1
  have C := Lib.hid c1
  clear c1
  have hc := Below.refl w.heap.size w
  go_enter Tryz.func9, Tryz.ntmps9
  go_upto_region 1 with fail
  have r1 := Row.new (W := w) (cs := #[.int .i64 6, .int .i64 m, .int .i64 a, .int .i64 b, .int .i64 c, .string tag]) (t := 23)
  have hn := below_alloc w (.cells #[.int .i64 6, .int .i64 m, .int .i64 a, .int .i64 b, .int .i64 c, .string tag] 23)
  have wr1 : w.heap.size ≤ w.heap.size := hc.size
  replace hc := chain hc hn
  clear hn
  generalize w.alloc (.cells #[.int .i64 6, .int .i64 m, .int .i64 a, .int .i64 b, .int .i64 c, .string tag] 23) = V1 at r1 hc ⊢
  have yr1 := r1.cell
  have zr1 := r1.lt
  go_wp2_with fail
  refine Calls.mono (C.out _) ?_
  rintro e V2 ⟨rfl, hn⟩
  clear yr1 zr1
  replace r1 := r1.on hn
  replace hc := chain hc hn
  clear hn
  have yr1 := r1.cell
  have zr1 := r1.lt
  go_upto_region 2 with fail
  clear yr1 zr1
  have r3 := Row.new (W := V2) (cs := #[.string wd, .string ⟨#[109, 103]⟩]) (t := 44)
  have hn := below_alloc V2 (.cells #[.string wd, .string ⟨#[109, 103]⟩] 44)
  have nr1_r3 : w.heap.size ≠ V2.heap.size := Nat.ne_of_lt r1.lt
  have wr3 : w.heap.size ≤ V2.heap.size := hc.size
  replace r1 := r1.on hn
  replace hc := chain hc hn
  clear hn
  generalize V2.alloc (.cells #[.string wd, .string ⟨#[109, 103]⟩] 44) = V3 at r1 r3 hc ⊢
  generalize V2.heap.size = b3 at *
  have yr1 := r1.cell
  have zr1 := r1.lt
  have yr3 := r3.cell
  have zr3 := r3.lt
  go_upto_region 3 with fail
  clear yr1 yr3 zr1 zr3
  have r5 := Row.new (W := V3) (cs := #[.int .i64 6, .int .i64 m, .int .i64 a, .int .i64 b, .int .i64 c, .string tag]) (t := 23)
  have hn := below_alloc V3 (.cells #[.int .i64 6, .int .i64 m, .int .i64 a, .int .i64 b, .int .i64 c, .string tag] 23)
  have nr1_r5 : w.heap.size ≠ V3.heap.size := Nat.ne_of_lt r1.lt
  have nr3_r5 : b3 ≠ V3.heap.size := Nat.ne_of_lt r3.lt
  have wr5 : w.heap.size ≤ V3.heap.size := hc.size
  replace r1 := r1.on hn
  replace r3 := r3.on hn
  replace hc := chain hc hn
  clear hn
  generalize V3.alloc (.cells #[.int .i64 6, .int .i64 m, .int .i64 a, .int .i64 b, .int .i64 c, .string tag] 23) = V4 at r1 r3 r5 hc ⊢
  generalize V3.heap.size = b5 at *
  have yr1 := r1.cell
  have zr1 := r1.lt
  have yr3 := r3.cell
  have zr3 := r3.lt
  have yr5 := r5.cell
  have zr5 := r5.lt
  go_wp2_with fail
  clear yr1 yr3 yr5 zr1 zr3 zr5
  have hbi : w.heap.size ≤ V4.heap.size := hc.size
  have it := It.new V4 ⟨#[109, 103]⟩
  have hn := below_iter V4 ⟨#[109, 103]⟩
  replace r1 := r1.on hn
  replace r3 := r3.on hn
  replace r5 := r5.on hn
  replace hc := chain hc hn
  clear hn
  generalize V4.iter ⟨#[109, 103]⟩ 0 = V5 at it r1 r3 r5 hc ⊢
  generalize V4.heap.size = bi at *
  refine wp_loop_rounds 4 ?_
  rw [rounds_succ]
  have hx := it.next (by decide) 109 rfl (by decide)
  have yr1 := r1.cell
  have zr1 := r1.lt
  have yr3 := r3.cell
  have zr3 := r3.lt
  have yr5 := r5.cell
  have zr5 := r5.lt
  go_upto_region 6 with fail
  clear yr1 yr3 yr5 zr1 zr3 zr5
  clear hx
  replace r1 := r1.iter it 1
  replace r3 := r3.iter it 1
  replace r5 := r5.iter it 1
  replace hc := Lib.below_iterAt hc (show w.heap.size ≤ bi from hbi) ⟨#[109, 103]⟩ 1
  replace it := it.step 1
  generalize V5.iterAt bi ⟨#[109, 103]⟩ 1 = V6 at it r1 r3 r5 hc ⊢
  have yr1 := r1.cell
  have zr1 := r1.lt
  have yr3 := r3.cell
  have zr3 := r3.lt
  have yr5 := r5.cell
  have zr5 := r5.lt
  go_wp2_with fail
  refine Calls.mono (number_m b5 _ zr5) ?_
  rintro e W6 ⟨rfl, hW⟩
  subst hW
  clear yr1 yr3 yr5 zr1 zr3 zr5
  have yr1 := r1.cell
  have zr1 := r1.lt
  have yr3 := r3.cell
  have zr3 := r3.lt
  have yr5 := r5.cell
  have zr5 := r5.lt
  go_upto_region 10 with fail
  clear yr1 yr3 yr5 zr1 zr3 zr5
  go_cut [4] (fun q wx => q = .bool (decide ((0 : Int) ≤ m) && decide (m ≤ 3)) ∧ Row wx w.heap.size #[.int .i64 6, .int .i64 m, .int .i64 a, .int .i64 b, .int .i64 c, .string tag] 23 ∧ Row wx b3 #[.string wd, .string ⟨#[109, 103]⟩] 44 ∧ Row wx b5 #[.int .i64 6, .int .i64 m, .int .i64 a, .int .i64 b, .int .i64 c, .string tag] 23 ∧ It wx bi ⟨#[109, 103]⟩ 1 ∧ Below w.heap.size w wx)
  case first =>
    have yr1 := r1.cell
    have zr1 := r1.lt
    have yr3 := r3.cell
    have zr3 := r3.lt
    have yr5 := r5.cell
    have zr5 := r5.lt
    by_cases h1 : (0 : Int) ≤ m
    · by_cases h2 : m ≤ 3
      · go_wp2_with fail
        go_meet
        exact ⟨by first | (simp [h1, h2]; done) | (simp [h1, h2]; omega), r1, r3, r5, it, hc⟩
      · go_wp2_with fail
        go_meet
        exact ⟨by first | (simp [h1, h2]; done) | (simp [h1, h2]; omega), r1, r3, r5, it, hc⟩
    · go_wp2_with fail
      go_meet
      exact ⟨by first | (simp [h1]; done) | (simp [h1]; omega), r1, r3, r5, it, hc⟩
  obtain ⟨rfl, r1, r3, r5, it, hc⟩ := hcut
  have yr1 := r1.cell
  have zr1 := r1.lt
  have yr3 := r3.cell
  have zr3 := r3.lt
  have yr5 := r5.cell
  have zr5 := r5.lt
  have ur5 := r5.free
  go_wp2_with fail
  clear yr1 yr3 yr5 zr1 zr3 zr5 ur5
  replace it := it.set (r5.ne_iter it) 1 (.int .i64 0)
  replace r1 := (r1.other nr1_r5.symm 1 (.int .i64 0))
  replace r3 := (r3.other nr3_r5.symm 1 (.int .i64 0))
  replace r5 := (r5.set 1 (.int .i64 0))
  simp only [List.setIfInBounds_toArray, List.set_cons_zero, List.set_cons_succ] at r5
  replace hc := (hc.setCell (p := ⟨b5, 1, none⟩) wr5 (.int .i64 0))
  generalize hW : World.setCell _ _ _ = V7 at *
  clear hW
  generalize hok0 : (decide ((0 : Int) ≤ m) && decide (m ≤ 3)) = k0 at *
  rw [rounds_succ]
  have hx := it.next (by decide) 103 rfl (by decide)
  have yr1 := r1.cell
  have zr1 := r1.lt
  have yr3 := r3.cell
  have zr3 := r3.lt
  have yr5 := r5.cell
  have zr5 := r5.lt
  go_upto_region 6 with fail
  clear yr1 yr3 yr5 zr1 zr3 zr5
  clear hx
  replace r1 := r1.iter it 2
  replace r3 := r3.iter it 2
  replace r5 := r5.iter it 2
  replace hc := Lib.below_iterAt hc (show w.heap.size ≤ bi from hbi) ⟨#[109, 103]⟩ 2
  replace it := it.step 2
  generalize V7.iterAt bi ⟨#[109, 103]⟩ 2 = V8 at it r1 r3 r5 hc ⊢
  have yr1 := r1.cell
  have zr1 := r1.lt
  have yr3 := r3.cell
  have zr3 := r3.lt
  have yr5 := r5.cell
  have zr5 := r5.lt
  go_wp2_with fail
  refine Calls.mono (number_g b5 _ zr5) ?_
  rintro e W8 ⟨rfl, hW⟩
  subst hW
  clear yr1 yr3 yr5 zr1 zr3 zr5
  have yr1 := r1.cell
  have zr1 := r1.lt
  have yr3 := r3.cell
  have zr3 := r3.lt
  have yr5 := r5.cell
  have zr5 := r5.lt
  go_upto_region 10 with fail
  clear yr1 yr3 yr5 zr1 zr3 zr5
  go_cut [4] (fun q wx => q = .bool (k0 && (decide ((0 : Int) ≤ b) && decide (b ≤ 7))) ∧ Row wx w.heap.size #[.int .i64 6, .int .i64 m, .int .i64 a, .int .i64 b, .int .i64 c, .string tag] 23 ∧ Row wx b3 #[.string wd, .string ⟨#[109, 103]⟩] 44 ∧ Row wx b5 #[.int .i64 6, .int .i64 0, .int .i64 a, .int .i64 b, .int .i64 c, .string tag] 23 ∧ It wx bi ⟨#[109, 103]⟩ 2 ∧ Below w.heap.size w wx)
  case first =>
    have yr1 := r1.cell
    have zr1 := r1.lt
    have yr3 := r3.cell
    have zr3 := r3.lt
    have yr5 := r5.cell
    have zr5 := r5.lt
    cases hk : k0
    · go_wp2_with fail
      go_meet
      exact ⟨by first | (simp [hk]; done) | (simp [hk]; omega), r1, r3, r5, it, hc⟩
    by_cases h1 : (0 : Int) ≤ b
    · by_cases h2 : b ≤ 7
      · go_wp2_with fail
        go_meet
        exact ⟨by first | (simp [hk, h1, h2]; done) | (simp [hk, h1, h2]; omega), r1, r3, r5, it, hc⟩
      · go_wp2_with fail
        go_meet
        exact ⟨by first | (simp [hk, h1, h2]; done) | (simp [hk, h1, h2]; omega), r1, r3, r5, it, hc⟩
    · go_wp2_with fail
      go_meet
      exact ⟨by first | (simp [hk, h1]; done) | (simp [hk, h1]; omega), r1, r3, r5, it, hc⟩
  obtain ⟨rfl, r1, r3, r5, it, hc⟩ := hcut
  have yr1 := r1.cell
  have zr1 := r1.lt
  have yr3 := r3.cell
  have zr3 := r3.lt
  have yr5 := r5.cell
  have zr5 := r5.lt
  have ur5 := r5.free
  go_wp2_with fail
  clear yr1 yr3 yr5 zr1 zr3 zr5 ur5
  replace it := it.set (r5.ne_iter it) 3 (.int .i64 0)
  replace r1 := (r1.other nr1_r5.symm 3 (.int .i64 0))
  replace r3 := (r3.other nr3_r5.symm 3 (.int .i64 0))
  replace r5 := (r5.set 3 (.int .i64 0))
  simp only [List.setIfInBounds_toArray, List.set_cons_zero, List.set_cons_succ] at r5
  replace hc := (hc.setCell (p := ⟨b5, 3, none⟩) wr5 (.int .i64 0))
  generalize hW : World.setCell _ _ _ = V9 at *
  clear hW
  generalize hok1 : (k0 && (decide ((0 : Int) ≤ b) && decide (b ≤ 7))) = k1 at *
  rw [rounds_succ]
  have hx := it.done (by decide)
  have hq := op_neq 6 0 a 0 c tag
  have he : opOk 6 m a b c tag.data.toList = (k1 && zeroB 0 a 0 c tag) := by
    rw [← hok1, ← hok0]
    rw [Bool.eq_iff_iff, opOk_iff, tg_empty (by decide) (by decide)]
    unfold zeroB
    by_cases ht : tag = ⟨#[]⟩
    · simp [ht, mHi, aLo, aHi, bLo, bHi, cLo, cHi]
      try omega
    · simp [ht]
  cases hk : k1
  · rw [hk] at he
    have yr1 := r1.cell
    have zr1 := r1.lt
    have yr3 := r3.cell
    have zr3 := r3.lt
    have yr5 := r5.cell
    have zr5 := r5.lt
    go_wp2_with fail
    refine bodyPost_ret (v := .int .i64 2) (by simp [results, Tryz.results9, go_sem]) rfl ⟨by unfold opErr; rw [he, Bool.false_and]; rfl, hc⟩
  rw [hk] at he
  cases hz : zeroB 0 a 0 c tag
  · rw [hz] at he hq
    have yr1 := r1.cell
    have zr1 := r1.lt
    have yr3 := r3.cell
    have zr3 := r3.lt
    have yr5 := r5.cell
    have zr5 := r5.lt
    go_wp2_with fail
    refine bodyPost_ret (v := .int .i64 2) (by simp [results, Tryz.results9, go_sem]) rfl ⟨by unfold opErr; rw [he, Bool.true_and]; rfl, hc⟩
  · rw [hz] at he hq
    have yr1 := r1.cell
    have zr1 := r1.lt
    have yr3 := r3.cell
    have zr3 := r3.lt
    have yr5 := r5.cell
    have zr5 := r5.lt
    go_wp2_with fail
    refine bodyPost_ret (v := .int .i64 0) (by simp [results, Tryz.results9, go_sem]) rfl ⟨by unfold opErr; rw [he, Bool.true_and]; rfl, hc⟩
theorem check_7 (m a b c : Int) (tag : ByteArray) (w : World) : Ret 9 #[opV 7 m a b c tag] w (.int .i64 (opErr 7 m a b c tag)) := by
  have c1 := fun w => of_c 7 w
  rw [show inB 7 1 17 = true from rfl, show partsB 7 = ⟨#[109]⟩ from rfl] at c1
  generalize wordB 7 = wd at c1
  have C := Lib.hid c1
  clear c1
  have hc := Below.refl w.heap.size w
  go_enter Tryz.func9, Tryz.ntmps9
  go_upto_region 1 with fail
  have r1 := Row.new (W := w) (cs := #[.int .i64 7, .int .i64 m, .int .i64 a, .int .i64 b, .int .i64 c, .string tag]) (t := 23)
  have hn := below_alloc w (.cells #[.int .i64 7, .int .i64 m, .int .i64 a, .int .i64 b, .int .i64 c, .string tag] 23)
  have wr1 : w.heap.size ≤ w.heap.size := hc.size
  replace hc := chain hc hn
  clear hn
  generalize w.alloc (.cells #[.int .i64 7, .int .i64 m, .int .i64 a, .int .i64 b, .int .i64 c, .string tag] 23) = V1 at r1 hc ⊢
  have yr1 := r1.cell
  have zr1 := r1.lt
  go_wp2_with fail
  refine Calls.mono (C.out _) ?_
  rintro e V2 ⟨rfl, hn⟩
  clear yr1 zr1
  replace r1 := r1.on hn
  replace hc := chain hc hn
  clear hn
  have yr1 := r1.cell
  have zr1 := r1.lt
  go_upto_region 2 with fail
  clear yr1 zr1
  have r3 := Row.new (W := V2) (cs := #[.string wd, .string ⟨#[109]⟩]) (t := 44)
  have hn := below_alloc V2 (.cells #[.string wd, .string ⟨#[109]⟩] 44)
  have nr1_r3 : w.heap.size ≠ V2.heap.size := Nat.ne_of_lt r1.lt
  have wr3 : w.heap.size ≤ V2.heap.size := hc.size
  replace r1 := r1.on hn
  replace hc := chain hc hn
  clear hn
  generalize V2.alloc (.cells #[.string wd, .string ⟨#[109]⟩] 44) = V3 at r1 r3 hc ⊢
  generalize V2.heap.size = b3 at *
  have yr1 := r1.cell
  have zr1 := r1.lt
  have yr3 := r3.cell
  have zr3 := r3.lt
  go_upto_region 3 with fail
  clear yr1 yr3 zr1 zr3
  have r5 := Row.new (W := V3) (cs := #[.int .i64 7, .int .i64 m, .int .i64 a, .int .i64 b, .int .i64 c, .string tag]) (t := 23)
  have hn := below_alloc V3 (.cells #[.int .i64 7, .int .i64 m, .int .i64 a, .int .i64 b, .int .i64 c, .string tag] 23)
  have nr1_r5 : w.heap.size ≠ V3.heap.size := Nat.ne_of_lt r1.lt
  have nr3_r5 : b3 ≠ V3.heap.size := Nat.ne_of_lt r3.lt
  have wr5 : w.heap.size ≤ V3.heap.size := hc.size
  replace r1 := r1.on hn
  replace r3 := r3.on hn
  replace hc := chain hc hn
  clear hn
  generalize V3.alloc (.cells #[.int .i64 7, .int .i64 m, .int .i64 a, .int .i64 b, .int .i64 c, .string tag] 23) = V4 at r1 r3 r5 hc ⊢
  generalize V3.heap.size = b5 at *
  have yr1 := r1.cell
  have zr1 := r1.lt
  have yr3 := r3.cell
  have zr3 := r3.lt
  have yr5 := r5.cell
  have zr5 := r5.lt
  go_wp2_with fail
  clear yr1 yr3 yr5 zr1 zr3 zr5
  have hbi : w.heap.size ≤ V4.heap.size := hc.size
  have it := It.new V4 ⟨#[109]⟩
  have hn := below_iter V4 ⟨#[109]⟩
  replace r1 := r1.on hn
  replace r3 := r3.on hn
  replace r5 := r5.on hn
  replace hc := chain hc hn
  clear hn
  generalize V4.iter ⟨#[109]⟩ 0 = V5 at it r1 r3 r5 hc ⊢
  generalize V4.heap.size = bi at *
  refine wp_loop_rounds 3 ?_
  rw [rounds_succ]
  have hx := it.next (by decide) 109 rfl (by decide)
  have yr1 := r1.cell
  have zr1 := r1.lt
  have yr3 := r3.cell
  have zr3 := r3.lt
  have yr5 := r5.cell
  have zr5 := r5.lt
  go_upto_region 6 with fail
  clear yr1 yr3 yr5 zr1 zr3 zr5
  clear hx
  replace r1 := r1.iter it 1
  replace r3 := r3.iter it 1
  replace r5 := r5.iter it 1
  replace hc := Lib.below_iterAt hc (show w.heap.size ≤ bi from hbi) ⟨#[109]⟩ 1
  replace it := it.step 1
  generalize V5.iterAt bi ⟨#[109]⟩ 1 = V6 at it r1 r3 r5 hc ⊢
  have yr1 := r1.cell
  have zr1 := r1.lt
  have yr3 := r3.cell
  have zr3 := r3.lt
  have yr5 := r5.cell
  have zr5 := r5.lt
  go_wp2_with fail
  refine Calls.mono (number_m b5 _ zr5) ?_
  rintro e W6 ⟨rfl, hW⟩
  subst hW
  clear yr1 yr3 yr5 zr1 zr3 zr5
  have yr1 := r1.cell
  have zr1 := r1.lt
  have yr3 := r3.cell
  have zr3 := r3.lt
  have yr5 := r5.cell
  have zr5 := r5.lt
  go_upto_region 10 with fail
  clear yr1 yr3 yr5 zr1 zr3 zr5
  go_cut [4] (fun q wx => q = .bool (decide ((0 : Int) ≤ m) && decide (m ≤ 3)) ∧ Row wx w.heap.size #[.int .i64 7, .int .i64 m, .int .i64 a, .int .i64 b, .int .i64 c, .string tag] 23 ∧ Row wx b3 #[.string wd, .string ⟨#[109]⟩] 44 ∧ Row wx b5 #[.int .i64 7, .int .i64 m, .int .i64 a, .int .i64 b, .int .i64 c, .string tag] 23 ∧ It wx bi ⟨#[109]⟩ 1 ∧ Below w.heap.size w wx)
  case first =>
    have yr1 := r1.cell
    have zr1 := r1.lt
    have yr3 := r3.cell
    have zr3 := r3.lt
    have yr5 := r5.cell
    have zr5 := r5.lt
    by_cases h1 : (0 : Int) ≤ m
    · by_cases h2 : m ≤ 3
      · go_wp2_with fail
        go_meet
        exact ⟨by first | (simp [h1, h2]; done) | (simp [h1, h2]; omega), r1, r3, r5, it, hc⟩
      · go_wp2_with fail
        go_meet
        exact ⟨by first | (simp [h1, h2]; done) | (simp [h1, h2]; omega), r1, r3, r5, it, hc⟩
    · go_wp2_with fail
      go_meet
      exact ⟨by first | (simp [h1]; done) | (simp [h1]; omega), r1, r3, r5, it, hc⟩
  obtain ⟨rfl, r1, r3, r5, it, hc⟩ := hcut
  have yr1 := r1.cell
  have zr1 := r1.lt
  have yr3 := r3.cell
  have zr3 := r3.lt
  have yr5 := r5.cell
  have zr5 := r5.lt
  have ur5 := r5.free
  go_wp2_with fail
  clear yr1 yr3 yr5 zr1 zr3 zr5 ur5
  replace it := it.set (r5.ne_iter it) 1 (.int .i64 0)
  replace r1 := (r1.other nr1_r5.symm 1 (.int .i64 0))
  replace r3 := (r3.other nr3_r5.symm 1 (.int .i64 0))
  replace r5 := (r5.set 1 (.int .i64 0))
  simp only [List.setIfInBounds_toArray, List.set_cons_zero, List.set_cons_succ] at r5
  replace hc := (hc.setCell (p := ⟨b5, 1, none⟩) wr5 (.int .i64 0))
  generalize hW : World.setCell _ _ _ = V7 at *
  clear hW
  generalize hok0 : (decide ((0 : Int) ≤ m) && decide (m ≤ 3)) = k0 at *
  rw [rounds_succ]
  have hx := it.done (by decide)
  have hq := op_neq 7 0 a b c tag
  have he : opOk 7 m a b c tag.data.toList = (k0 && zeroB 0 a b c tag) := by
    rw [← hok0]
    rw [Bool.eq_iff_iff, opOk_iff, tg_empty (by decide) (by decide)]
    unfold zeroB
    by_cases ht : tag = ⟨#[]⟩
    · simp [ht, mHi, aLo, aHi, bLo, bHi, cLo, cHi]
      try omega
    · simp [ht]
  cases hk : k0
  · rw [hk] at he
    have yr1 := r1.cell
    have zr1 := r1.lt
    have yr3 := r3.cell
    have zr3 := r3.lt
    have yr5 := r5.cell
    have zr5 := r5.lt
    go_wp2_with fail
    refine bodyPost_ret (v := .int .i64 2) (by simp [results, Tryz.results9, go_sem]) rfl ⟨by unfold opErr; rw [he, Bool.false_and]; rfl, hc⟩
  rw [hk] at he
  cases hz : zeroB 0 a b c tag
  · rw [hz] at he hq
    have yr1 := r1.cell
    have zr1 := r1.lt
    have yr3 := r3.cell
    have zr3 := r3.lt
    have yr5 := r5.cell
    have zr5 := r5.lt
    go_wp2_with fail
    refine bodyPost_ret (v := .int .i64 2) (by simp [results, Tryz.results9, go_sem]) rfl ⟨by unfold opErr; rw [he, Bool.true_and]; rfl, hc⟩
  · rw [hz] at he hq
    have yr1 := r1.cell
    have zr1 := r1.lt
    have yr3 := r3.cell
    have zr3 := r3.lt
    have yr5 := r5.cell
    have zr5 := r5.lt
    go_wp2_with fail
    refine bodyPost_ret (v := .int .i64 0) (by simp [results, Tryz.results9, go_sem]) rfl ⟨by unfold opErr; rw [he, Bool.true_and]; rfl, hc⟩
theorem check_8 (m a b c : Int) (tag : ByteArray) (w : World) (hts : tag.size ≤ 1000000) : Ret 9 #[opV 8 m a b c tag] w (.int .i64 (opErr 8 m a b c tag)) := by
  have c1 := fun w => of_c 8 w
  rw [show inB 8 1 17 = true from rfl, show partsB 8 = ⟨#[109, 107, 98, 113]⟩ from rfl] at c1
  generalize wordB 8 = wd at c1
  have C := Lib.hid c1
  clear c1
  have hc := Below.refl w.heap.size w
  go_enter Tryz.func9, Tryz.ntmps9
  go_upto_region 1 with fail
  have r1 := Row.new (W := w) (cs := #[.int .i64 8, .int .i64 m, .int .i64 a, .int .i64 b, .int .i64 c, .string tag]) (t := 23)
  have hn := below_alloc w (.cells #[.int .i64 8, .int .i64 m, .int .i64 a, .int .i64 b, .int .i64 c, .string tag] 23)
  have wr1 : w.heap.size ≤ w.heap.size := hc.size
  replace hc := chain hc hn
  clear hn
  generalize w.alloc (.cells #[.int .i64 8, .int .i64 m, .int .i64 a, .int .i64 b, .int .i64 c, .string tag] 23) = V1 at r1 hc ⊢
  have yr1 := r1.cell
  have zr1 := r1.lt
  go_wp2_with fail
  refine Calls.mono (C.out _) ?_
  rintro e V2 ⟨rfl, hn⟩
  clear yr1 zr1
  replace r1 := r1.on hn
  replace hc := chain hc hn
  clear hn
  have yr1 := r1.cell
  have zr1 := r1.lt
  go_upto_region 2 with fail
  clear yr1 zr1
  have r3 := Row.new (W := V2) (cs := #[.string wd, .string ⟨#[109, 107, 98, 113]⟩]) (t := 44)
  have hn := below_alloc V2 (.cells #[.string wd, .string ⟨#[109, 107, 98, 113]⟩] 44)
  have nr1_r3 : w.heap.size ≠ V2.heap.size := Nat.ne_of_lt r1.lt
  have wr3 : w.heap.size ≤ V2.heap.size := hc.size
  replace r1 := r1.on hn
  replace hc := chain hc hn
  clear hn
  generalize V2.alloc (.cells #[.string wd, .string ⟨#[109, 107, 98, 113]⟩] 44) = V3 at r1 r3 hc ⊢
  generalize V2.heap.size = b3 at *
  have yr1 := r1.cell
  have zr1 := r1.lt
  have yr3 := r3.cell
  have zr3 := r3.lt
  go_upto_region 3 with fail
  clear yr1 yr3 zr1 zr3
  have r5 := Row.new (W := V3) (cs := #[.int .i64 8, .int .i64 m, .int .i64 a, .int .i64 b, .int .i64 c, .string tag]) (t := 23)
  have hn := below_alloc V3 (.cells #[.int .i64 8, .int .i64 m, .int .i64 a, .int .i64 b, .int .i64 c, .string tag] 23)
  have nr1_r5 : w.heap.size ≠ V3.heap.size := Nat.ne_of_lt r1.lt
  have nr3_r5 : b3 ≠ V3.heap.size := Nat.ne_of_lt r3.lt
  have wr5 : w.heap.size ≤ V3.heap.size := hc.size
  replace r1 := r1.on hn
  replace r3 := r3.on hn
  replace hc := chain hc hn
  clear hn
  generalize V3.alloc (.cells #[.int .i64 8, .int .i64 m, .int .i64 a, .int .i64 b, .int .i64 c, .string tag] 23) = V4 at r1 r3 r5 hc ⊢
  generalize V3.heap.size = b5 at *
  have yr1 := r1.cell
  have zr1 := r1.lt
  have yr3 := r3.cell
  have zr3 := r3.lt
  have yr5 := r5.cell
  have zr5 := r5.lt
  go_wp2_with fail
  clear yr1 yr3 yr5 zr1 zr3 zr5
  have hbi : w.heap.size ≤ V4.heap.size := hc.size
  have it := It.new V4 ⟨#[109, 107, 98, 113]⟩
  have hn := below_iter V4 ⟨#[109, 107, 98, 113]⟩
  replace r1 := r1.on hn
  replace r3 := r3.on hn
  replace r5 := r5.on hn
  replace hc := chain hc hn
  clear hn
  generalize V4.iter ⟨#[109, 107, 98, 113]⟩ 0 = V5 at it r1 r3 r5 hc ⊢
  generalize V4.heap.size = bi at *
  refine wp_loop_rounds 6 ?_
  rw [rounds_succ]
  have hx := it.next (by decide) 109 rfl (by decide)
  have yr1 := r1.cell
  have zr1 := r1.lt
  have yr3 := r3.cell
  have zr3 := r3.lt
  have yr5 := r5.cell
  have zr5 := r5.lt
  go_upto_region 6 with fail
  clear yr1 yr3 yr5 zr1 zr3 zr5
  clear hx
  replace r1 := r1.iter it 1
  replace r3 := r3.iter it 1
  replace r5 := r5.iter it 1
  replace hc := Lib.below_iterAt hc (show w.heap.size ≤ bi from hbi) ⟨#[109, 107, 98, 113]⟩ 1
  replace it := it.step 1
  generalize V5.iterAt bi ⟨#[109, 107, 98, 113]⟩ 1 = V6 at it r1 r3 r5 hc ⊢
  have yr1 := r1.cell
  have zr1 := r1.lt
  have yr3 := r3.cell
  have zr3 := r3.lt
  have yr5 := r5.cell
  have zr5 := r5.lt
  go_wp2_with fail
  refine Calls.mono (number_m b5 _ zr5) ?_
  rintro e W6 ⟨rfl, hW⟩
  subst hW
  clear yr1 yr3 yr5 zr1 zr3 zr5
  have yr1 := r1.cell
  have zr1 := r1.lt
  have yr3 := r3.cell
  have zr3 := r3.lt
  have yr5 := r5.cell
  have zr5 := r5.lt
  go_upto_region 10 with fail
  clear yr1 yr3 yr5 zr1 zr3 zr5
  go_cut [4] (fun q wx => q = .bool (decide ((0 : Int) ≤ m) && decide (m ≤ 3)) ∧ Row wx w.heap.size #[.int .i64 8, .int .i64 m, .int .i64 a, .int .i64 b, .int .i64 c, .string tag] 23 ∧ Row wx b3 #[.string wd, .string ⟨#[109, 107, 98, 113]⟩] 44 ∧ Row wx b5 #[.int .i64 8, .int .i64 m, .int .i64 a, .int .i64 b, .int .i64 c, .string tag] 23 ∧ It wx bi ⟨#[109, 107, 98, 113]⟩ 1 ∧ Below w.heap.size w wx)
  case first =>
    have yr1 := r1.cell
    have zr1 := r1.lt
    have yr3 := r3.cell
    have zr3 := r3.lt
    have yr5 := r5.cell
    have zr5 := r5.lt
    by_cases h1 : (0 : Int) ≤ m
    · by_cases h2 : m ≤ 3
      · go_wp2_with fail
        go_meet
        exact ⟨by first | (simp [h1, h2]; done) | (simp [h1, h2]; omega), r1, r3, r5, it, hc⟩
      · go_wp2_with fail
        go_meet
        exact ⟨by first | (simp [h1, h2]; done) | (simp [h1, h2]; omega), r1, r3, r5, it, hc⟩
    · go_wp2_with fail
      go_meet
      exact ⟨by first | (simp [h1]; done) | (simp [h1]; omega), r1, r3, r5, it, hc⟩
  obtain ⟨rfl, r1, r3, r5, it, hc⟩ := hcut
  have yr1 := r1.cell
  have zr1 := r1.lt
  have yr3 := r3.cell
  have zr3 := r3.lt
  have yr5 := r5.cell
  have zr5 := r5.lt
  have ur5 := r5.free
  go_wp2_with fail
  clear yr1 yr3 yr5 zr1 zr3 zr5 ur5
  replace it := it.set (r5.ne_iter it) 1 (.int .i64 0)
  replace r1 := (r1.other nr1_r5.symm 1 (.int .i64 0))
  replace r3 := (r3.other nr3_r5.symm 1 (.int .i64 0))
  replace r5 := (r5.set 1 (.int .i64 0))
  simp only [List.setIfInBounds_toArray, List.set_cons_zero, List.set_cons_succ] at r5
  replace hc := (hc.setCell (p := ⟨b5, 1, none⟩) wr5 (.int .i64 0))
  generalize hW : World.setCell _ _ _ = V7 at *
  clear hW
  generalize hok0 : (decide ((0 : Int) ≤ m) && decide (m ≤ 3)) = k0 at *
  rw [rounds_succ]
  have hx := it.next (by decide) 107 rfl (by decide)
  have yr1 := r1.cell
  have zr1 := r1.lt
  have yr3 := r3.cell
  have zr3 := r3.lt
  have yr5 := r5.cell
  have zr5 := r5.lt
  go_upto_region 6 with fail
  clear yr1 yr3 yr5 zr1 zr3 zr5
  clear hx
  replace r1 := r1.iter it 2
  replace r3 := r3.iter it 2
  replace r5 := r5.iter it 2
  replace hc := Lib.below_iterAt hc (show w.heap.size ≤ bi from hbi) ⟨#[109, 107, 98, 113]⟩ 2
  replace it := it.step 2
  generalize V7.iterAt bi ⟨#[109, 107, 98, 113]⟩ 2 = V8 at it r1 r3 r5 hc ⊢
  have yr1 := r1.cell
  have zr1 := r1.lt
  have yr3 := r3.cell
  have zr3 := r3.lt
  have yr5 := r5.cell
  have zr5 := r5.lt
  go_wp2_with fail
  refine Calls.mono (number_k b5 _ zr5) ?_
  rintro e W8 ⟨rfl, hW⟩
  subst hW
  clear yr1 yr3 yr5 zr1 zr3 zr5
  have yr1 := r1.cell
  have zr1 := r1.lt
  have yr3 := r3.cell
  have zr3 := r3.lt
  have yr5 := r5.cell
  have zr5 := r5.lt
  go_upto_region 10 with fail
  clear yr1 yr3 yr5 zr1 zr3 zr5
  go_cut [4] (fun q wx => q = .bool (k0 && (decide ((1 : Int) ≤ a) && decide (a ≤ 3))) ∧ Row wx w.heap.size #[.int .i64 8, .int .i64 m, .int .i64 a, .int .i64 b, .int .i64 c, .string tag] 23 ∧ Row wx b3 #[.string wd, .string ⟨#[109, 107, 98, 113]⟩] 44 ∧ Row wx b5 #[.int .i64 8, .int .i64 0, .int .i64 a, .int .i64 b, .int .i64 c, .string tag] 23 ∧ It wx bi ⟨#[109, 107, 98, 113]⟩ 2 ∧ Below w.heap.size w wx)
  case first =>
    have yr1 := r1.cell
    have zr1 := r1.lt
    have yr3 := r3.cell
    have zr3 := r3.lt
    have yr5 := r5.cell
    have zr5 := r5.lt
    cases hk : k0
    · go_wp2_with fail
      go_meet
      exact ⟨by first | (simp [hk]; done) | (simp [hk]; omega), r1, r3, r5, it, hc⟩
    by_cases h1 : (1 : Int) ≤ a
    · by_cases h2 : a ≤ 3
      · go_wp2_with fail
        go_meet
        exact ⟨by first | (simp [hk, h1, h2]; done) | (simp [hk, h1, h2]; omega), r1, r3, r5, it, hc⟩
      · go_wp2_with fail
        go_meet
        exact ⟨by first | (simp [hk, h1, h2]; done) | (simp [hk, h1, h2]; omega), r1, r3, r5, it, hc⟩
    · go_wp2_with fail
      go_meet
      exact ⟨by first | (simp [hk, h1]; done) | (simp [hk, h1]; omega), r1, r3, r5, it, hc⟩
  obtain ⟨rfl, r1, r3, r5, it, hc⟩ := hcut
  have yr1 := r1.cell
  have zr1 := r1.lt
  have yr3 := r3.cell
  have zr3 := r3.lt
  have yr5 := r5.cell
  have zr5 := r5.lt
  have ur5 := r5.free
  go_wp2_with fail
  clear yr1 yr3 yr5 zr1 zr3 zr5 ur5
  replace it := it.set (r5.ne_iter it) 2 (.int .i64 0)
  replace r1 := (r1.other nr1_r5.symm 2 (.int .i64 0))
  replace r3 := (r3.other nr3_r5.symm 2 (.int .i64 0))
  replace r5 := (r5.set 2 (.int .i64 0))
  simp only [List.setIfInBounds_toArray, List.set_cons_zero, List.set_cons_succ] at r5
  replace hc := (hc.setCell (p := ⟨b5, 2, none⟩) wr5 (.int .i64 0))
  generalize hW : World.setCell _ _ _ = V9 at *
  clear hW
  generalize hok1 : (k0 && (decide ((1 : Int) ≤ a) && decide (a ≤ 3))) = k1 at *
  rw [rounds_succ]
  have hx := it.next (by decide) 98 rfl (by decide)
  have yr1 := r1.cell
  have zr1 := r1.lt
  have yr3 := r3.cell
  have zr3 := r3.lt
  have yr5 := r5.cell
  have zr5 := r5.lt
  go_upto_region 6 with fail
  clear yr1 yr3 yr5 zr1 zr3 zr5
  clear hx
  replace r1 := r1.iter it 3
  replace r3 := r3.iter it 3
  replace r5 := r5.iter it 3
  replace hc := Lib.below_iterAt hc (show w.heap.size ≤ bi from hbi) ⟨#[109, 107, 98, 113]⟩ 3
  replace it := it.step 3
  generalize V9.iterAt bi ⟨#[109, 107, 98, 113]⟩ 3 = V10 at it r1 r3 r5 hc ⊢
  have yr1 := r1.cell
  have zr1 := r1.lt
  have yr3 := r3.cell
  have zr3 := r3.lt
  have yr5 := r5.cell
  have zr5 := r5.lt
  go_wp2_with fail
  refine Calls.mono (number_b b5 _ zr5) ?_
  rintro e W10 ⟨rfl, hW⟩
  subst hW
  clear yr1 yr3 yr5 zr1 zr3 zr5
  have yr1 := r1.cell
  have zr1 := r1.lt
  have yr3 := r3.cell
  have zr3 := r3.lt
  have yr5 := r5.cell
  have zr5 := r5.lt
  go_upto_region 10 with fail
  clear yr1 yr3 yr5 zr1 zr3 zr5
  go_cut [4] (fun q wx => q = .bool (k1 && (decide ((0 : Int) ≤ b) && decide (b ≤ 1048576))) ∧ Row wx w.heap.size #[.int .i64 8, .int .i64 m, .int .i64 a, .int .i64 b, .int .i64 c, .string tag] 23 ∧ Row wx b3 #[.string wd, .string ⟨#[109, 107, 98, 113]⟩] 44 ∧ Row wx b5 #[.int .i64 8, .int .i64 0, .int .i64 0, .int .i64 b, .int .i64 c, .string tag] 23 ∧ It wx bi ⟨#[109, 107, 98, 113]⟩ 3 ∧ Below w.heap.size w wx)
  case first =>
    have yr1 := r1.cell
    have zr1 := r1.lt
    have yr3 := r3.cell
    have zr3 := r3.lt
    have yr5 := r5.cell
    have zr5 := r5.lt
    cases hk : k1
    · go_wp2_with fail
      go_meet
      exact ⟨by first | (simp [hk]; done) | (simp [hk]; omega), r1, r3, r5, it, hc⟩
    by_cases h1 : (0 : Int) ≤ b
    · by_cases h2 : b ≤ 1048576
      · go_wp2_with fail
        go_meet
        exact ⟨by first | (simp [hk, h1, h2]; done) | (simp [hk, h1, h2]; omega), r1, r3, r5, it, hc⟩
      · go_wp2_with fail
        go_meet
        exact ⟨by first | (simp [hk, h1, h2]; done) | (simp [hk, h1, h2]; omega), r1, r3, r5, it, hc⟩
    · go_wp2_with fail
      go_meet
      exact ⟨by first | (simp [hk, h1]; done) | (simp [hk, h1]; omega), r1, r3, r5, it, hc⟩
  obtain ⟨rfl, r1, r3, r5, it, hc⟩ := hcut
  have yr1 := r1.cell
  have zr1 := r1.lt
  have yr3 := r3.cell
  have zr3 := r3.lt
  have yr5 := r5.cell
  have zr5 := r5.lt
  have ur5 := r5.free
  go_wp2_with fail
  clear yr1 yr3 yr5 zr1 zr3 zr5 ur5
  replace it := it.set (r5.ne_iter it) 3 (.int .i64 0)
  replace r1 := (r1.other nr1_r5.symm 3 (.int .i64 0))
  replace r3 := (r3.other nr3_r5.symm 3 (.int .i64 0))
  replace r5 := (r5.set 3 (.int .i64 0))
  simp only [List.setIfInBounds_toArray, List.set_cons_zero, List.set_cons_succ] at r5
  replace hc := (hc.setCell (p := ⟨b5, 3, none⟩) wr5 (.int .i64 0))
  generalize hW : World.setCell _ _ _ = V11 at *
  clear hW
  generalize hok2 : (k1 && (decide ((0 : Int) ≤ b) && decide (b ≤ 1048576))) = k2 at *
  rw [rounds_succ]
  have hx := it.next (by decide) 113 rfl (by decide)
  have yr1 := r1.cell
  have zr1 := r1.lt
  have yr3 := r3.cell
  have zr3 := r3.lt
  have yr5 := r5.cell
  have zr5 := r5.lt
  go_upto_region 6 with fail
  clear yr1 yr3 yr5 zr1 zr3 zr5
  clear hx
  replace r1 := r1.iter it 4
  replace r3 := r3.iter it 4
  replace r5 := r5.iter it 4
  replace hc := Lib.below_iterAt hc (show w.heap.size ≤ bi from hbi) ⟨#[109, 107, 98, 113]⟩ 4
  replace it := it.step 4
  generalize V11.iterAt bi ⟨#[109, 107, 98, 113]⟩ 4 = V12 at it r1 r3 r5 hc ⊢
  have ct := fun w => text_q tag w (by omega)
  generalize hT : tagOk tag.data.toList = tB at ct
  have CT := Lib.hid ct
  clear ct
  have yr1 := r1.cell
  have zr1 := r1.lt
  have yr3 := r3.cell
  have zr3 := r3.lt
  have yr5 := r5.cell
  have zr5 := r5.lt
  go_wp2_with fail
  refine Calls.mono (number_q b5 _) ?_
  rintro e W12 ⟨rfl, hW⟩
  subst hW
  clear yr1 yr3 yr5 zr1 zr3 zr5
  have yr1 := r1.cell
  have zr1 := r1.lt
  have yr3 := r3.cell
  have zr3 := r3.lt
  have yr5 := r5.cell
  have zr5 := r5.lt
  go_upto_region 8 with fail
  clear yr1 yr3 yr5 zr1 zr3 zr5
  go_cut [4] (fun q wx => q = .bool (k2 && tB) ∧ Row wx w.heap.size #[.int .i64 8, .int .i64 m, .int .i64 a, .int .i64 b, .int .i64 c, .string tag] 23 ∧ Row wx b3 #[.string wd, .string ⟨#[109, 107, 98, 113]⟩] 44 ∧ Row wx b5 #[.int .i64 8, .int .i64 0, .int .i64 0, .int .i64 0, .int .i64 c, .string tag] 23 ∧ It wx bi ⟨#[109, 107, 98, 113]⟩ 4 ∧ Below w.heap.size w wx)
  case first =>
    cases hk : k2
    · have yr1 := r1.cell
      have zr1 := r1.lt
      have yr3 := r3.cell
      have zr3 := r3.lt
      have yr5 := r5.cell
      have zr5 := r5.lt
      go_wp2_with fail
      go_meet
      exact ⟨by simp [hk], r1, r3, r5, it, hc⟩
    have yr1 := r1.cell
    have zr1 := r1.lt
    have yr3 := r3.cell
    have zr3 := r3.lt
    have yr5 := r5.cell
    have zr5 := r5.lt
    go_wp2_with fail
    refine Calls.mono (CT.out _) ?_
    rintro e V13 ⟨rfl, hn⟩
    clear yr1 yr3 yr5 zr1 zr3 zr5
    replace r1 := r1.on hn
    replace r3 := r3.on hn
    replace r5 := r5.on hn
    replace it := it.on hn
    replace hc := chain hc hn
    clear hn
    have yr1 := r1.cell
    have zr1 := r1.lt
    have yr3 := r3.cell
    have zr3 := r3.lt
    have yr5 := r5.cell
    have zr5 := r5.lt
    go_wp2_with fail
    go_meet
    exact ⟨by simp [hk], r1, r3, r5, it, hc⟩
  obtain ⟨rfl, r1, r3, r5, it, hc⟩ := hcut
  have yr1 := r1.cell
  have zr1 := r1.lt
  have yr3 := r3.cell
  have zr3 := r3.lt
  have yr5 := r5.cell
  have zr5 := r5.lt
  have ur5 := r5.free
  go_wp2_with fail
  clear yr1 yr3 yr5 zr1 zr3 zr5 ur5
  replace it := it.set (r5.ne_iter it) 5 (.string ⟨#[]⟩)
  replace r1 := (r1.other nr1_r5.symm 5 (.string ⟨#[]⟩))
  replace r3 := (r3.other nr3_r5.symm 5 (.string ⟨#[]⟩))
  replace r5 := (r5.set 5 (.string ⟨#[]⟩))
  simp only [List.setIfInBounds_toArray, List.set_cons_zero, List.set_cons_succ] at r5
  replace hc := (hc.setCell (p := ⟨b5, 5, none⟩) wr5 (.string ⟨#[]⟩))
  generalize hW : World.setCell _ _ _ = V13 at *
  clear hW
  generalize hok3 : (k2 && tB) = k3 at *
  rw [rounds_succ]
  have hx := it.done (by decide)
  have hq := op_neq 8 0 0 0 c ⟨#[]⟩
  have he : opOk 8 m a b c tag.data.toList = (k3 && zeroB 0 0 0 c ⟨#[]⟩) := by
    rw [← hok3, ← hok2, ← hok1, ← hok0]
    rw [← hT]
    rw [Bool.eq_iff_iff, opOk_iff]
    unfold zeroB
    by_cases ht : tagOk tag.data.toList = true
    · simp [tgOk, ht, mHi, aLo, aHi, bLo, bHi, cLo, cHi]
      try omega
    · simp [tgOk, ht]
  cases hk : k3
  · rw [hk] at he
    have yr1 := r1.cell
    have zr1 := r1.lt
    have yr3 := r3.cell
    have zr3 := r3.lt
    have yr5 := r5.cell
    have zr5 := r5.lt
    go_wp2_with fail
    refine bodyPost_ret (v := .int .i64 2) (by simp [results, Tryz.results9, go_sem]) rfl ⟨by unfold opErr; rw [he, Bool.false_and]; rfl, hc⟩
  rw [hk] at he
  cases hz : zeroB 0 0 0 c ⟨#[]⟩
  · rw [hz] at he hq
    have yr1 := r1.cell
    have zr1 := r1.lt
    have yr3 := r3.cell
    have zr3 := r3.lt
    have yr5 := r5.cell
    have zr5 := r5.lt
    go_wp2_with fail
    refine bodyPost_ret (v := .int .i64 2) (by simp [results, Tryz.results9, go_sem]) rfl ⟨by unfold opErr; rw [he, Bool.true_and]; rfl, hc⟩
  · rw [hz] at he hq
    have yr1 := r1.cell
    have zr1 := r1.lt
    have yr3 := r3.cell
    have zr3 := r3.lt
    have yr5 := r5.cell
    have zr5 := r5.lt
    go_wp2_with fail
    refine bodyPost_ret (v := .int .i64 0) (by simp [results, Tryz.results9, go_sem]) rfl ⟨by unfold opErr; rw [he, Bool.true_and]; rfl, hc⟩
theorem check_9 (m a b c : Int) (tag : ByteArray) (w : World) : Ret 9 #[opV 9 m a b c tag] w (.int .i64 (opErr 9 m a b c tag)) := by
  have c1 := fun w => of_c 9 w
  rw [show inB 9 1 17 = true from rfl, show partsB 9 = ⟨#[109, 100]⟩ from rfl] at c1
  generalize wordB 9 = wd at c1
  have C := Lib.hid c1
  clear c1
  have hc := Below.refl w.heap.size w
  go_enter Tryz.func9, Tryz.ntmps9
  go_upto_region 1 with fail
  have r1 := Row.new (W := w) (cs := #[.int .i64 9, .int .i64 m, .int .i64 a, .int .i64 b, .int .i64 c, .string tag]) (t := 23)
  have hn := below_alloc w (.cells #[.int .i64 9, .int .i64 m, .int .i64 a, .int .i64 b, .int .i64 c, .string tag] 23)
  have wr1 : w.heap.size ≤ w.heap.size := hc.size
  replace hc := chain hc hn
  clear hn
  generalize w.alloc (.cells #[.int .i64 9, .int .i64 m, .int .i64 a, .int .i64 b, .int .i64 c, .string tag] 23) = V1 at r1 hc ⊢
  have yr1 := r1.cell
  have zr1 := r1.lt
  go_wp2_with fail
  refine Calls.mono (C.out _) ?_
  rintro e V2 ⟨rfl, hn⟩
  clear yr1 zr1
  replace r1 := r1.on hn
  replace hc := chain hc hn
  clear hn
  have yr1 := r1.cell
  have zr1 := r1.lt
  go_upto_region 2 with fail
  clear yr1 zr1
  have r3 := Row.new (W := V2) (cs := #[.string wd, .string ⟨#[109, 100]⟩]) (t := 44)
  have hn := below_alloc V2 (.cells #[.string wd, .string ⟨#[109, 100]⟩] 44)
  have nr1_r3 : w.heap.size ≠ V2.heap.size := Nat.ne_of_lt r1.lt
  have wr3 : w.heap.size ≤ V2.heap.size := hc.size
  replace r1 := r1.on hn
  replace hc := chain hc hn
  clear hn
  generalize V2.alloc (.cells #[.string wd, .string ⟨#[109, 100]⟩] 44) = V3 at r1 r3 hc ⊢
  generalize V2.heap.size = b3 at *
  have yr1 := r1.cell
  have zr1 := r1.lt
  have yr3 := r3.cell
  have zr3 := r3.lt
  go_upto_region 3 with fail
  clear yr1 yr3 zr1 zr3
  have r5 := Row.new (W := V3) (cs := #[.int .i64 9, .int .i64 m, .int .i64 a, .int .i64 b, .int .i64 c, .string tag]) (t := 23)
  have hn := below_alloc V3 (.cells #[.int .i64 9, .int .i64 m, .int .i64 a, .int .i64 b, .int .i64 c, .string tag] 23)
  have nr1_r5 : w.heap.size ≠ V3.heap.size := Nat.ne_of_lt r1.lt
  have nr3_r5 : b3 ≠ V3.heap.size := Nat.ne_of_lt r3.lt
  have wr5 : w.heap.size ≤ V3.heap.size := hc.size
  replace r1 := r1.on hn
  replace r3 := r3.on hn
  replace hc := chain hc hn
  clear hn
  generalize V3.alloc (.cells #[.int .i64 9, .int .i64 m, .int .i64 a, .int .i64 b, .int .i64 c, .string tag] 23) = V4 at r1 r3 r5 hc ⊢
  generalize V3.heap.size = b5 at *
  have yr1 := r1.cell
  have zr1 := r1.lt
  have yr3 := r3.cell
  have zr3 := r3.lt
  have yr5 := r5.cell
  have zr5 := r5.lt
  go_wp2_with fail
  clear yr1 yr3 yr5 zr1 zr3 zr5
  have hbi : w.heap.size ≤ V4.heap.size := hc.size
  have it := It.new V4 ⟨#[109, 100]⟩
  have hn := below_iter V4 ⟨#[109, 100]⟩
  replace r1 := r1.on hn
  replace r3 := r3.on hn
  replace r5 := r5.on hn
  replace hc := chain hc hn
  clear hn
  generalize V4.iter ⟨#[109, 100]⟩ 0 = V5 at it r1 r3 r5 hc ⊢
  generalize V4.heap.size = bi at *
  refine wp_loop_rounds 4 ?_
  rw [rounds_succ]
  have hx := it.next (by decide) 109 rfl (by decide)
  have yr1 := r1.cell
  have zr1 := r1.lt
  have yr3 := r3.cell
  have zr3 := r3.lt
  have yr5 := r5.cell
  have zr5 := r5.lt
  go_upto_region 6 with fail
  clear yr1 yr3 yr5 zr1 zr3 zr5
  clear hx
  replace r1 := r1.iter it 1
  replace r3 := r3.iter it 1
  replace r5 := r5.iter it 1
  replace hc := Lib.below_iterAt hc (show w.heap.size ≤ bi from hbi) ⟨#[109, 100]⟩ 1
  replace it := it.step 1
  generalize V5.iterAt bi ⟨#[109, 100]⟩ 1 = V6 at it r1 r3 r5 hc ⊢
  have yr1 := r1.cell
  have zr1 := r1.lt
  have yr3 := r3.cell
  have zr3 := r3.lt
  have yr5 := r5.cell
  have zr5 := r5.lt
  go_wp2_with fail
  refine Calls.mono (number_m b5 _ zr5) ?_
  rintro e W6 ⟨rfl, hW⟩
  subst hW
  clear yr1 yr3 yr5 zr1 zr3 zr5
  have yr1 := r1.cell
  have zr1 := r1.lt
  have yr3 := r3.cell
  have zr3 := r3.lt
  have yr5 := r5.cell
  have zr5 := r5.lt
  go_upto_region 10 with fail
  clear yr1 yr3 yr5 zr1 zr3 zr5
  go_cut [4] (fun q wx => q = .bool (decide ((0 : Int) ≤ m) && decide (m ≤ 3)) ∧ Row wx w.heap.size #[.int .i64 9, .int .i64 m, .int .i64 a, .int .i64 b, .int .i64 c, .string tag] 23 ∧ Row wx b3 #[.string wd, .string ⟨#[109, 100]⟩] 44 ∧ Row wx b5 #[.int .i64 9, .int .i64 m, .int .i64 a, .int .i64 b, .int .i64 c, .string tag] 23 ∧ It wx bi ⟨#[109, 100]⟩ 1 ∧ Below w.heap.size w wx)
  case first =>
    have yr1 := r1.cell
    have zr1 := r1.lt
    have yr3 := r3.cell
    have zr3 := r3.lt
    have yr5 := r5.cell
    have zr5 := r5.lt
    by_cases h1 : (0 : Int) ≤ m
    · by_cases h2 : m ≤ 3
      · go_wp2_with fail
        go_meet
        exact ⟨by first | (simp [h1, h2]; done) | (simp [h1, h2]; omega), r1, r3, r5, it, hc⟩
      · go_wp2_with fail
        go_meet
        exact ⟨by first | (simp [h1, h2]; done) | (simp [h1, h2]; omega), r1, r3, r5, it, hc⟩
    · go_wp2_with fail
      go_meet
      exact ⟨by first | (simp [h1]; done) | (simp [h1]; omega), r1, r3, r5, it, hc⟩
  obtain ⟨rfl, r1, r3, r5, it, hc⟩ := hcut
  have yr1 := r1.cell
  have zr1 := r1.lt
  have yr3 := r3.cell
  have zr3 := r3.lt
  have yr5 := r5.cell
  have zr5 := r5.lt
  have ur5 := r5.free
  go_wp2_with fail
  clear yr1 yr3 yr5 zr1 zr3 zr5 ur5
  replace it := it.set (r5.ne_iter it) 1 (.int .i64 0)
  replace r1 := (r1.other nr1_r5.symm 1 (.int .i64 0))
  replace r3 := (r3.other nr3_r5.symm 1 (.int .i64 0))
  replace r5 := (r5.set 1 (.int .i64 0))
  simp only [List.setIfInBounds_toArray, List.set_cons_zero, List.set_cons_succ] at r5
  replace hc := (hc.setCell (p := ⟨b5, 1, none⟩) wr5 (.int .i64 0))
  generalize hW : World.setCell _ _ _ = V7 at *
  clear hW
  generalize hok0 : (decide ((0 : Int) ≤ m) && decide (m ≤ 3)) = k0 at *
  rw [rounds_succ]
  have hx := it.next (by decide) 100 rfl (by decide)
  have yr1 := r1.cell
  have zr1 := r1.lt
  have yr3 := r3.cell
  have zr3 := r3.lt
  have yr5 := r5.cell
  have zr5 := r5.lt
  go_upto_region 6 with fail
  clear yr1 yr3 yr5 zr1 zr3 zr5
  clear hx
  replace r1 := r1.iter it 2
  replace r3 := r3.iter it 2
  replace r5 := r5.iter it 2
  replace hc := Lib.below_iterAt hc (show w.heap.size ≤ bi from hbi) ⟨#[109, 100]⟩ 2
  replace it := it.step 2
  generalize V7.iterAt bi ⟨#[109, 100]⟩ 2 = V8 at it r1 r3 r5 hc ⊢
  have yr1 := r1.cell
  have zr1 := r1.lt
  have yr3 := r3.cell
  have zr3 := r3.lt
  have yr5 := r5.cell
  have zr5 := r5.lt
  go_wp2_with fail
  refine Calls.mono (number_d b5 _ zr5) ?_
  rintro e W8 ⟨rfl, hW⟩
  subst hW
  clear yr1 yr3 yr5 zr1 zr3 zr5
  have yr1 := r1.cell
  have zr1 := r1.lt
  have yr3 := r3.cell
  have zr3 := r3.lt
  have yr5 := r5.cell
  have zr5 := r5.lt
  go_upto_region 10 with fail
  clear yr1 yr3 yr5 zr1 zr3 zr5
  go_cut [4] (fun q wx => q = .bool (k0 && (decide ((0 : Int) ≤ a) && decide (a ≤ 1999))) ∧ Row wx w.heap.size #[.int .i64 9, .int .i64 m, .int .i64 a, .int .i64 b, .int .i64 c, .string tag] 23 ∧ Row wx b3 #[.string wd, .string ⟨#[109, 100]⟩] 44 ∧ Row wx b5 #[.int .i64 9, .int .i64 0, .int .i64 a, .int .i64 b, .int .i64 c, .string tag] 23 ∧ It wx bi ⟨#[109, 100]⟩ 2 ∧ Below w.heap.size w wx)
  case first =>
    have yr1 := r1.cell
    have zr1 := r1.lt
    have yr3 := r3.cell
    have zr3 := r3.lt
    have yr5 := r5.cell
    have zr5 := r5.lt
    cases hk : k0
    · go_wp2_with fail
      go_meet
      exact ⟨by first | (simp [hk]; done) | (simp [hk]; omega), r1, r3, r5, it, hc⟩
    by_cases h1 : (0 : Int) ≤ a
    · by_cases h2 : a ≤ 1999
      · go_wp2_with fail
        go_meet
        exact ⟨by first | (simp [hk, h1, h2]; done) | (simp [hk, h1, h2]; omega), r1, r3, r5, it, hc⟩
      · go_wp2_with fail
        go_meet
        exact ⟨by first | (simp [hk, h1, h2]; done) | (simp [hk, h1, h2]; omega), r1, r3, r5, it, hc⟩
    · go_wp2_with fail
      go_meet
      exact ⟨by first | (simp [hk, h1]; done) | (simp [hk, h1]; omega), r1, r3, r5, it, hc⟩
  obtain ⟨rfl, r1, r3, r5, it, hc⟩ := hcut
  have yr1 := r1.cell
  have zr1 := r1.lt
  have yr3 := r3.cell
  have zr3 := r3.lt
  have yr5 := r5.cell
  have zr5 := r5.lt
  have ur5 := r5.free
  go_wp2_with fail
  clear yr1 yr3 yr5 zr1 zr3 zr5 ur5
  replace it := it.set (r5.ne_iter it) 2 (.int .i64 0)
  replace r1 := (r1.other nr1_r5.symm 2 (.int .i64 0))
  replace r3 := (r3.other nr3_r5.symm 2 (.int .i64 0))
  replace r5 := (r5.set 2 (.int .i64 0))
  simp only [List.setIfInBounds_toArray, List.set_cons_zero, List.set_cons_succ] at r5
  replace hc := (hc.setCell (p := ⟨b5, 2, none⟩) wr5 (.int .i64 0))
  generalize hW : World.setCell _ _ _ = V9 at *
  clear hW
  generalize hok1 : (k0 && (decide ((0 : Int) ≤ a) && decide (a ≤ 1999))) = k1 at *
  rw [rounds_succ]
  have hx := it.done (by decide)
  have hq := op_neq 9 0 0 b c tag
  have he : opOk 9 m a b c tag.data.toList = (k1 && zeroB 0 0 b c tag) := by
    rw [← hok1, ← hok0]
    rw [Bool.eq_iff_iff, opOk_iff, tg_empty (by decide) (by decide)]
    unfold zeroB
    by_cases ht : tag = ⟨#[]⟩
    · simp [ht, mHi, aLo, aHi, bLo, bHi, cLo, cHi]
      try omega
    · simp [ht]
  cases hk : k1
  · rw [hk] at he
    have yr1 := r1.cell
    have zr1 := r1.lt
    have yr3 := r3.cell
    have zr3 := r3.lt
    have yr5 := r5.cell
    have zr5 := r5.lt
    go_wp2_with fail
    refine bodyPost_ret (v := .int .i64 2) (by simp [results, Tryz.results9, go_sem]) rfl ⟨by unfold opErr; rw [he, Bool.false_and]; rfl, hc⟩
  rw [hk] at he
  cases hz : zeroB 0 0 b c tag
  · rw [hz] at he hq
    have yr1 := r1.cell
    have zr1 := r1.lt
    have yr3 := r3.cell
    have zr3 := r3.lt
    have yr5 := r5.cell
    have zr5 := r5.lt
    go_wp2_with fail
    refine bodyPost_ret (v := .int .i64 2) (by simp [results, Tryz.results9, go_sem]) rfl ⟨by unfold opErr; rw [he, Bool.true_and]; rfl, hc⟩
  · rw [hz] at he hq
    have yr1 := r1.cell
    have zr1 := r1.lt
    have yr3 := r3.cell
    have zr3 := r3.lt
    have yr5 := r5.cell
    have zr5 := r5.lt
    go_wp2_with fail
    refine bodyPost_ret (v := .int .i64 0) (by simp [results, Tryz.results9, go_sem]) rfl ⟨by unfold opErr; rw [he, Bool.true_and]; rfl, hc⟩
theorem check_10 (m a b c : Int) (tag : ByteArray) (w : World) : Ret 9 #[opV 10 m a b c tag] w (.int .i64 (opErr 10 m a b c tag)) := by
  have c1 := fun w => of_c 10 w
  rw [show inB 10 1 17 = true from rfl, show partsB 10 = ⟨#[109, 100]⟩ from rfl] at c1
  generalize wordB 10 = wd at c1
  have C := Lib.hid c1
  clear c1
  have hc := Below.refl w.heap.size w
  go_enter Tryz.func9, Tryz.ntmps9
  go_upto_region 1 with fail
  have r1 := Row.new (W := w) (cs := #[.int .i64 10, .int .i64 m, .int .i64 a, .int .i64 b, .int .i64 c, .string tag]) (t := 23)
  have hn := below_alloc w (.cells #[.int .i64 10, .int .i64 m, .int .i64 a, .int .i64 b, .int .i64 c, .string tag] 23)
  have wr1 : w.heap.size ≤ w.heap.size := hc.size
  replace hc := chain hc hn
  clear hn
  generalize w.alloc (.cells #[.int .i64 10, .int .i64 m, .int .i64 a, .int .i64 b, .int .i64 c, .string tag] 23) = V1 at r1 hc ⊢
  have yr1 := r1.cell
  have zr1 := r1.lt
  go_wp2_with fail
  refine Calls.mono (C.out _) ?_
  rintro e V2 ⟨rfl, hn⟩
  clear yr1 zr1
  replace r1 := r1.on hn
  replace hc := chain hc hn
  clear hn
  have yr1 := r1.cell
  have zr1 := r1.lt
  go_upto_region 2 with fail
  clear yr1 zr1
  have r3 := Row.new (W := V2) (cs := #[.string wd, .string ⟨#[109, 100]⟩]) (t := 44)
  have hn := below_alloc V2 (.cells #[.string wd, .string ⟨#[109, 100]⟩] 44)
  have nr1_r3 : w.heap.size ≠ V2.heap.size := Nat.ne_of_lt r1.lt
  have wr3 : w.heap.size ≤ V2.heap.size := hc.size
  replace r1 := r1.on hn
  replace hc := chain hc hn
  clear hn
  generalize V2.alloc (.cells #[.string wd, .string ⟨#[109, 100]⟩] 44) = V3 at r1 r3 hc ⊢
  generalize V2.heap.size = b3 at *
  have yr1 := r1.cell
  have zr1 := r1.lt
  have yr3 := r3.cell
  have zr3 := r3.lt
  go_upto_region 3 with fail
  clear yr1 yr3 zr1 zr3
  have r5 := Row.new (W := V3) (cs := #[.int .i64 10, .int .i64 m, .int .i64 a, .int .i64 b, .int .i64 c, .string tag]) (t := 23)
  have hn := below_alloc V3 (.cells #[.int .i64 10, .int .i64 m, .int .i64 a, .int .i64 b, .int .i64 c, .string tag] 23)
  have nr1_r5 : w.heap.size ≠ V3.heap.size := Nat.ne_of_lt r1.lt
  have nr3_r5 : b3 ≠ V3.heap.size := Nat.ne_of_lt r3.lt
  have wr5 : w.heap.size ≤ V3.heap.size := hc.size
  replace r1 := r1.on hn
  replace r3 := r3.on hn
  replace hc := chain hc hn
  clear hn
  generalize V3.alloc (.cells #[.int .i64 10, .int .i64 m, .int .i64 a, .int .i64 b, .int .i64 c, .string tag] 23) = V4 at r1 r3 r5 hc ⊢
  generalize V3.heap.size = b5 at *
  have yr1 := r1.cell
  have zr1 := r1.lt
  have yr3 := r3.cell
  have zr3 := r3.lt
  have yr5 := r5.cell
  have zr5 := r5.lt
  go_wp2_with fail
  clear yr1 yr3 yr5 zr1 zr3 zr5
  have hbi : w.heap.size ≤ V4.heap.size := hc.size
  have it := It.new V4 ⟨#[109, 100]⟩
  have hn := below_iter V4 ⟨#[109, 100]⟩
  replace r1 := r1.on hn
  replace r3 := r3.on hn
  replace r5 := r5.on hn
  replace hc := chain hc hn
  clear hn
  generalize V4.iter ⟨#[109, 100]⟩ 0 = V5 at it r1 r3 r5 hc ⊢
  generalize V4.heap.size = bi at *
  refine wp_loop_rounds 4 ?_
  rw [rounds_succ]
  have hx := it.next (by decide) 109 rfl (by decide)
  have yr1 := r1.cell
  have zr1 := r1.lt
  have yr3 := r3.cell
  have zr3 := r3.lt
  have yr5 := r5.cell
  have zr5 := r5.lt
  go_upto_region 6 with fail
  clear yr1 yr3 yr5 zr1 zr3 zr5
  clear hx
  replace r1 := r1.iter it 1
  replace r3 := r3.iter it 1
  replace r5 := r5.iter it 1
  replace hc := Lib.below_iterAt hc (show w.heap.size ≤ bi from hbi) ⟨#[109, 100]⟩ 1
  replace it := it.step 1
  generalize V5.iterAt bi ⟨#[109, 100]⟩ 1 = V6 at it r1 r3 r5 hc ⊢
  have yr1 := r1.cell
  have zr1 := r1.lt
  have yr3 := r3.cell
  have zr3 := r3.lt
  have yr5 := r5.cell
  have zr5 := r5.lt
  go_wp2_with fail
  refine Calls.mono (number_m b5 _ zr5) ?_
  rintro e W6 ⟨rfl, hW⟩
  subst hW
  clear yr1 yr3 yr5 zr1 zr3 zr5
  have yr1 := r1.cell
  have zr1 := r1.lt
  have yr3 := r3.cell
  have zr3 := r3.lt
  have yr5 := r5.cell
  have zr5 := r5.lt
  go_upto_region 10 with fail
  clear yr1 yr3 yr5 zr1 zr3 zr5
  go_cut [4] (fun q wx => q = .bool (decide ((0 : Int) ≤ m) && decide (m ≤ 3)) ∧ Row wx w.heap.size #[.int .i64 10, .int .i64 m, .int .i64 a, .int .i64 b, .int .i64 c, .string tag] 23 ∧ Row wx b3 #[.string wd, .string ⟨#[109, 100]⟩] 44 ∧ Row wx b5 #[.int .i64 10, .int .i64 m, .int .i64 a, .int .i64 b, .int .i64 c, .string tag] 23 ∧ It wx bi ⟨#[109, 100]⟩ 1 ∧ Below w.heap.size w wx)
  case first =>
    have yr1 := r1.cell
    have zr1 := r1.lt
    have yr3 := r3.cell
    have zr3 := r3.lt
    have yr5 := r5.cell
    have zr5 := r5.lt
    by_cases h1 : (0 : Int) ≤ m
    · by_cases h2 : m ≤ 3
      · go_wp2_with fail
        go_meet
        exact ⟨by first | (simp [h1, h2]; done) | (simp [h1, h2]; omega), r1, r3, r5, it, hc⟩
      · go_wp2_with fail
        go_meet
        exact ⟨by first | (simp [h1, h2]; done) | (simp [h1, h2]; omega), r1, r3, r5, it, hc⟩
    · go_wp2_with fail
      go_meet
      exact ⟨by first | (simp [h1]; done) | (simp [h1]; omega), r1, r3, r5, it, hc⟩
  obtain ⟨rfl, r1, r3, r5, it, hc⟩ := hcut
  have yr1 := r1.cell
  have zr1 := r1.lt
  have yr3 := r3.cell
  have zr3 := r3.lt
  have yr5 := r5.cell
  have zr5 := r5.lt
  have ur5 := r5.free
  go_wp2_with fail
  clear yr1 yr3 yr5 zr1 zr3 zr5 ur5
  replace it := it.set (r5.ne_iter it) 1 (.int .i64 0)
  replace r1 := (r1.other nr1_r5.symm 1 (.int .i64 0))
  replace r3 := (r3.other nr3_r5.symm 1 (.int .i64 0))
  replace r5 := (r5.set 1 (.int .i64 0))
  simp only [List.setIfInBounds_toArray, List.set_cons_zero, List.set_cons_succ] at r5
  replace hc := (hc.setCell (p := ⟨b5, 1, none⟩) wr5 (.int .i64 0))
  generalize hW : World.setCell _ _ _ = V7 at *
  clear hW
  generalize hok0 : (decide ((0 : Int) ≤ m) && decide (m ≤ 3)) = k0 at *
  rw [rounds_succ]
  have hx := it.next (by decide) 100 rfl (by decide)
  have yr1 := r1.cell
  have zr1 := r1.lt
  have yr3 := r3.cell
  have zr3 := r3.lt
  have yr5 := r5.cell
  have zr5 := r5.lt
  go_upto_region 6 with fail
  clear yr1 yr3 yr5 zr1 zr3 zr5
  clear hx
  replace r1 := r1.iter it 2
  replace r3 := r3.iter it 2
  replace r5 := r5.iter it 2
  replace hc := Lib.below_iterAt hc (show w.heap.size ≤ bi from hbi) ⟨#[109, 100]⟩ 2
  replace it := it.step 2
  generalize V7.iterAt bi ⟨#[109, 100]⟩ 2 = V8 at it r1 r3 r5 hc ⊢
  have yr1 := r1.cell
  have zr1 := r1.lt
  have yr3 := r3.cell
  have zr3 := r3.lt
  have yr5 := r5.cell
  have zr5 := r5.lt
  go_wp2_with fail
  refine Calls.mono (number_d b5 _ zr5) ?_
  rintro e W8 ⟨rfl, hW⟩
  subst hW
  clear yr1 yr3 yr5 zr1 zr3 zr5
  have yr1 := r1.cell
  have zr1 := r1.lt
  have yr3 := r3.cell
  have zr3 := r3.lt
  have yr5 := r5.cell
  have zr5 := r5.lt
  go_upto_region 10 with fail
  clear yr1 yr3 yr5 zr1 zr3 zr5
  go_cut [4] (fun q wx => q = .bool (k0 && (decide ((0 : Int) ≤ a) && decide (a ≤ 1999))) ∧ Row wx w.heap.size #[.int .i64 10, .int .i64 m, .int .i64 a, .int .i64 b, .int .i64 c, .string tag] 23 ∧ Row wx b3 #[.string wd, .string ⟨#[109, 100]⟩] 44 ∧ Row wx b5 #[.int .i64 10, .int .i64 0, .int .i64 a, .int .i64 b, .int .i64 c, .string tag] 23 ∧ It wx bi ⟨#[109, 100]⟩ 2 ∧ Below w.heap.size w wx)
  case first =>
    have yr1 := r1.cell
    have zr1 := r1.lt
    have yr3 := r3.cell
    have zr3 := r3.lt
    have yr5 := r5.cell
    have zr5 := r5.lt
    cases hk : k0
    · go_wp2_with fail
      go_meet
      exact ⟨by first | (simp [hk]; done) | (simp [hk]; omega), r1, r3, r5, it, hc⟩
    by_cases h1 : (0 : Int) ≤ a
    · by_cases h2 : a ≤ 1999
      · go_wp2_with fail
        go_meet
        exact ⟨by first | (simp [hk, h1, h2]; done) | (simp [hk, h1, h2]; omega), r1, r3, r5, it, hc⟩
      · go_wp2_with fail
        go_meet
        exact ⟨by first | (simp [hk, h1, h2]; done) | (simp [hk, h1, h2]; omega), r1, r3, r5, it, hc⟩
    · go_wp2_with fail
      go_meet
      exact ⟨by first | (simp [hk, h1]; done) | (simp [hk, h1]; omega), r1, r3, r5, it, hc⟩
  obtain ⟨rfl, r1, r3, r5, it, hc⟩ := hcut
  have yr1 := r1.cell
  have zr1 := r1.lt
  have yr3 := r3.cell
  have zr3 := r3.lt
  have yr5 := r5.cell
  have zr5 := r5.lt
  have ur5 := r5.free
  go_wp2_with fail
  clear yr1 yr3 yr5 zr1 zr3 zr5 ur5
  replace it := it.set (r5.ne_iter it) 2 (.int .i64 0)
  replace r1 := (r1.other nr1_r5.symm 2 (.int .i64 0))
  replace r3 := (r3.other nr3_r5.symm 2 (.int .i64 0))
  replace r5 := (r5.set 2 (.int .i64 0))
  simp only [List.setIfInBounds_toArray, List.set_cons_zero, List.set_cons_succ] at r5
  replace hc := (hc.setCell (p := ⟨b5, 2, none⟩) wr5 (.int .i64 0))
  generalize hW : World.setCell _ _ _ = V9 at *
  clear hW
  generalize hok1 : (k0 && (decide ((0 : Int) ≤ a) && decide (a ≤ 1999))) = k1 at *
  rw [rounds_succ]
  have hx := it.done (by decide)
  have hq := op_neq 10 0 0 b c tag
  have he : opOk 10 m a b c tag.data.toList = (k1 && zeroB 0 0 b c tag) := by
    rw [← hok1, ← hok0]
    rw [Bool.eq_iff_iff, opOk_iff, tg_empty (by decide) (by decide)]
    unfold zeroB
    by_cases ht : tag = ⟨#[]⟩
    · simp [ht, mHi, aLo, aHi, bLo, bHi, cLo, cHi]
      try omega
    · simp [ht]
  cases hk : k1
  · rw [hk] at he
    have yr1 := r1.cell
    have zr1 := r1.lt
    have yr3 := r3.cell
    have zr3 := r3.lt
    have yr5 := r5.cell
    have zr5 := r5.lt
    go_wp2_with fail
    refine bodyPost_ret (v := .int .i64 2) (by simp [results, Tryz.results9, go_sem]) rfl ⟨by unfold opErr; rw [he, Bool.false_and]; rfl, hc⟩
  rw [hk] at he
  cases hz : zeroB 0 0 b c tag
  · rw [hz] at he hq
    have yr1 := r1.cell
    have zr1 := r1.lt
    have yr3 := r3.cell
    have zr3 := r3.lt
    have yr5 := r5.cell
    have zr5 := r5.lt
    go_wp2_with fail
    refine bodyPost_ret (v := .int .i64 2) (by simp [results, Tryz.results9, go_sem]) rfl ⟨by unfold opErr; rw [he, Bool.true_and]; rfl, hc⟩
  · rw [hz] at he hq
    have yr1 := r1.cell
    have zr1 := r1.lt
    have yr3 := r3.cell
    have zr3 := r3.lt
    have yr5 := r5.cell
    have zr5 := r5.lt
    go_wp2_with fail
    refine bodyPost_ret (v := .int .i64 0) (by simp [results, Tryz.results9, go_sem]) rfl ⟨by unfold opErr; rw [he, Bool.true_and]; rfl, hc⟩
theorem check_11 (m a b c : Int) (tag : ByteArray) (w : World) : Ret 9 #[opV 11 m a b c tag] w (.int .i64 (opErr 11 m a b c tag)) := by
  have c1 := fun w => of_c 11 w
  rw [show inB 11 1 17 = true from rfl, show partsB 11 = ⟨#[109, 100, 116]⟩ from rfl] at c1
  generalize wordB 11 = wd at c1
  have C := Lib.hid c1
  clear c1
  have hc := Below.refl w.heap.size w
  go_enter Tryz.func9, Tryz.ntmps9
  go_upto_region 1 with fail
  have r1 := Row.new (W := w) (cs := #[.int .i64 11, .int .i64 m, .int .i64 a, .int .i64 b, .int .i64 c, .string tag]) (t := 23)
  have hn := below_alloc w (.cells #[.int .i64 11, .int .i64 m, .int .i64 a, .int .i64 b, .int .i64 c, .string tag] 23)
  have wr1 : w.heap.size ≤ w.heap.size := hc.size
  replace hc := chain hc hn
  clear hn
  generalize w.alloc (.cells #[.int .i64 11, .int .i64 m, .int .i64 a, .int .i64 b, .int .i64 c, .string tag] 23) = V1 at r1 hc ⊢
  have yr1 := r1.cell
  have zr1 := r1.lt
  go_wp2_with fail
  refine Calls.mono (C.out _) ?_
  rintro e V2 ⟨rfl, hn⟩
  clear yr1 zr1
  replace r1 := r1.on hn
  replace hc := chain hc hn
  clear hn
  have yr1 := r1.cell
  have zr1 := r1.lt
  go_upto_region 2 with fail
  clear yr1 zr1
  have r3 := Row.new (W := V2) (cs := #[.string wd, .string ⟨#[109, 100, 116]⟩]) (t := 44)
  have hn := below_alloc V2 (.cells #[.string wd, .string ⟨#[109, 100, 116]⟩] 44)
  have nr1_r3 : w.heap.size ≠ V2.heap.size := Nat.ne_of_lt r1.lt
  have wr3 : w.heap.size ≤ V2.heap.size := hc.size
  replace r1 := r1.on hn
  replace hc := chain hc hn
  clear hn
  generalize V2.alloc (.cells #[.string wd, .string ⟨#[109, 100, 116]⟩] 44) = V3 at r1 r3 hc ⊢
  generalize V2.heap.size = b3 at *
  have yr1 := r1.cell
  have zr1 := r1.lt
  have yr3 := r3.cell
  have zr3 := r3.lt
  go_upto_region 3 with fail
  clear yr1 yr3 zr1 zr3
  have r5 := Row.new (W := V3) (cs := #[.int .i64 11, .int .i64 m, .int .i64 a, .int .i64 b, .int .i64 c, .string tag]) (t := 23)
  have hn := below_alloc V3 (.cells #[.int .i64 11, .int .i64 m, .int .i64 a, .int .i64 b, .int .i64 c, .string tag] 23)
  have nr1_r5 : w.heap.size ≠ V3.heap.size := Nat.ne_of_lt r1.lt
  have nr3_r5 : b3 ≠ V3.heap.size := Nat.ne_of_lt r3.lt
  have wr5 : w.heap.size ≤ V3.heap.size := hc.size
  replace r1 := r1.on hn
  replace r3 := r3.on hn
  replace hc := chain hc hn
  clear hn
  generalize V3.alloc (.cells #[.int .i64 11, .int .i64 m, .int .i64 a, .int .i64 b, .int .i64 c, .string tag] 23) = V4 at r1 r3 r5 hc ⊢
  generalize V3.heap.size = b5 at *
  have yr1 := r1.cell
  have zr1 := r1.lt
  have yr3 := r3.cell
  have zr3 := r3.lt
  have yr5 := r5.cell
  have zr5 := r5.lt
  go_wp2_with fail
  clear yr1 yr3 yr5 zr1 zr3 zr5
  have hbi : w.heap.size ≤ V4.heap.size := hc.size
  have it := It.new V4 ⟨#[109, 100, 116]⟩
  have hn := below_iter V4 ⟨#[109, 100, 116]⟩
  replace r1 := r1.on hn
  replace r3 := r3.on hn
  replace r5 := r5.on hn
  replace hc := chain hc hn
  clear hn
  generalize V4.iter ⟨#[109, 100, 116]⟩ 0 = V5 at it r1 r3 r5 hc ⊢
  generalize V4.heap.size = bi at *
  refine wp_loop_rounds 5 ?_
  rw [rounds_succ]
  have hx := it.next (by decide) 109 rfl (by decide)
  have yr1 := r1.cell
  have zr1 := r1.lt
  have yr3 := r3.cell
  have zr3 := r3.lt
  have yr5 := r5.cell
  have zr5 := r5.lt
  go_upto_region 6 with fail
  clear yr1 yr3 yr5 zr1 zr3 zr5
  clear hx
  replace r1 := r1.iter it 1
  replace r3 := r3.iter it 1
  replace r5 := r5.iter it 1
  replace hc := Lib.below_iterAt hc (show w.heap.size ≤ bi from hbi) ⟨#[109, 100, 116]⟩ 1
  replace it := it.step 1
  generalize V5.iterAt bi ⟨#[109, 100, 116]⟩ 1 = V6 at it r1 r3 r5 hc ⊢
  have yr1 := r1.cell
  have zr1 := r1.lt
  have yr3 := r3.cell
  have zr3 := r3.lt
  have yr5 := r5.cell
  have zr5 := r5.lt
  go_wp2_with fail
  refine Calls.mono (number_m b5 _ zr5) ?_
  rintro e W6 ⟨rfl, hW⟩
  subst hW
  clear yr1 yr3 yr5 zr1 zr3 zr5
  have yr1 := r1.cell
  have zr1 := r1.lt
  have yr3 := r3.cell
  have zr3 := r3.lt
  have yr5 := r5.cell
  have zr5 := r5.lt
  go_upto_region 10 with fail
  clear yr1 yr3 yr5 zr1 zr3 zr5
  go_cut [4] (fun q wx => q = .bool (decide ((0 : Int) ≤ m) && decide (m ≤ 3)) ∧ Row wx w.heap.size #[.int .i64 11, .int .i64 m, .int .i64 a, .int .i64 b, .int .i64 c, .string tag] 23 ∧ Row wx b3 #[.string wd, .string ⟨#[109, 100, 116]⟩] 44 ∧ Row wx b5 #[.int .i64 11, .int .i64 m, .int .i64 a, .int .i64 b, .int .i64 c, .string tag] 23 ∧ It wx bi ⟨#[109, 100, 116]⟩ 1 ∧ Below w.heap.size w wx)
  case first =>
    have yr1 := r1.cell
    have zr1 := r1.lt
    have yr3 := r3.cell
    have zr3 := r3.lt
    have yr5 := r5.cell
    have zr5 := r5.lt
    by_cases h1 : (0 : Int) ≤ m
    · by_cases h2 : m ≤ 3
      · go_wp2_with fail
        go_meet
        exact ⟨by first | (simp [h1, h2]; done) | (simp [h1, h2]; omega), r1, r3, r5, it, hc⟩
      · go_wp2_with fail
        go_meet
        exact ⟨by first | (simp [h1, h2]; done) | (simp [h1, h2]; omega), r1, r3, r5, it, hc⟩
    · go_wp2_with fail
      go_meet
      exact ⟨by first | (simp [h1]; done) | (simp [h1]; omega), r1, r3, r5, it, hc⟩
  obtain ⟨rfl, r1, r3, r5, it, hc⟩ := hcut
  have yr1 := r1.cell
  have zr1 := r1.lt
  have yr3 := r3.cell
  have zr3 := r3.lt
  have yr5 := r5.cell
  have zr5 := r5.lt
  have ur5 := r5.free
  go_wp2_with fail
  clear yr1 yr3 yr5 zr1 zr3 zr5 ur5
  replace it := it.set (r5.ne_iter it) 1 (.int .i64 0)
  replace r1 := (r1.other nr1_r5.symm 1 (.int .i64 0))
  replace r3 := (r3.other nr3_r5.symm 1 (.int .i64 0))
  replace r5 := (r5.set 1 (.int .i64 0))
  simp only [List.setIfInBounds_toArray, List.set_cons_zero, List.set_cons_succ] at r5
  replace hc := (hc.setCell (p := ⟨b5, 1, none⟩) wr5 (.int .i64 0))
  generalize hW : World.setCell _ _ _ = V7 at *
  clear hW
  generalize hok0 : (decide ((0 : Int) ≤ m) && decide (m ≤ 3)) = k0 at *
  rw [rounds_succ]
  have hx := it.next (by decide) 100 rfl (by decide)
  have yr1 := r1.cell
  have zr1 := r1.lt
  have yr3 := r3.cell
  have zr3 := r3.lt
  have yr5 := r5.cell
  have zr5 := r5.lt
  go_upto_region 6 with fail
  clear yr1 yr3 yr5 zr1 zr3 zr5
  clear hx
  replace r1 := r1.iter it 2
  replace r3 := r3.iter it 2
  replace r5 := r5.iter it 2
  replace hc := Lib.below_iterAt hc (show w.heap.size ≤ bi from hbi) ⟨#[109, 100, 116]⟩ 2
  replace it := it.step 2
  generalize V7.iterAt bi ⟨#[109, 100, 116]⟩ 2 = V8 at it r1 r3 r5 hc ⊢
  have yr1 := r1.cell
  have zr1 := r1.lt
  have yr3 := r3.cell
  have zr3 := r3.lt
  have yr5 := r5.cell
  have zr5 := r5.lt
  go_wp2_with fail
  refine Calls.mono (number_d b5 _ zr5) ?_
  rintro e W8 ⟨rfl, hW⟩
  subst hW
  clear yr1 yr3 yr5 zr1 zr3 zr5
  have yr1 := r1.cell
  have zr1 := r1.lt
  have yr3 := r3.cell
  have zr3 := r3.lt
  have yr5 := r5.cell
  have zr5 := r5.lt
  go_upto_region 10 with fail
  clear yr1 yr3 yr5 zr1 zr3 zr5
  go_cut [4] (fun q wx => q = .bool (k0 && (decide ((0 : Int) ≤ a) && decide (a ≤ 1999))) ∧ Row wx w.heap.size #[.int .i64 11, .int .i64 m, .int .i64 a, .int .i64 b, .int .i64 c, .string tag] 23 ∧ Row wx b3 #[.string wd, .string ⟨#[109, 100, 116]⟩] 44 ∧ Row wx b5 #[.int .i64 11, .int .i64 0, .int .i64 a, .int .i64 b, .int .i64 c, .string tag] 23 ∧ It wx bi ⟨#[109, 100, 116]⟩ 2 ∧ Below w.heap.size w wx)
  case first =>
    have yr1 := r1.cell
    have zr1 := r1.lt
    have yr3 := r3.cell
    have zr3 := r3.lt
    have yr5 := r5.cell
    have zr5 := r5.lt
    cases hk : k0
    · go_wp2_with fail
      go_meet
      exact ⟨by first | (simp [hk]; done) | (simp [hk]; omega), r1, r3, r5, it, hc⟩
    by_cases h1 : (0 : Int) ≤ a
    · by_cases h2 : a ≤ 1999
      · go_wp2_with fail
        go_meet
        exact ⟨by first | (simp [hk, h1, h2]; done) | (simp [hk, h1, h2]; omega), r1, r3, r5, it, hc⟩
      · go_wp2_with fail
        go_meet
        exact ⟨by first | (simp [hk, h1, h2]; done) | (simp [hk, h1, h2]; omega), r1, r3, r5, it, hc⟩
    · go_wp2_with fail
      go_meet
      exact ⟨by first | (simp [hk, h1]; done) | (simp [hk, h1]; omega), r1, r3, r5, it, hc⟩
  obtain ⟨rfl, r1, r3, r5, it, hc⟩ := hcut
  have yr1 := r1.cell
  have zr1 := r1.lt
  have yr3 := r3.cell
  have zr3 := r3.lt
  have yr5 := r5.cell
  have zr5 := r5.lt
  have ur5 := r5.free
  go_wp2_with fail
  clear yr1 yr3 yr5 zr1 zr3 zr5 ur5
  replace it := it.set (r5.ne_iter it) 2 (.int .i64 0)
  replace r1 := (r1.other nr1_r5.symm 2 (.int .i64 0))
  replace r3 := (r3.other nr3_r5.symm 2 (.int .i64 0))
  replace r5 := (r5.set 2 (.int .i64 0))
  simp only [List.setIfInBounds_toArray, List.set_cons_zero, List.set_cons_succ] at r5
  replace hc := (hc.setCell (p := ⟨b5, 2, none⟩) wr5 (.int .i64 0))
  generalize hW : World.setCell _ _ _ = V9 at *
  clear hW
  generalize hok1 : (k0 && (decide ((0 : Int) ≤ a) && decide (a ≤ 1999))) = k1 at *
  rw [rounds_succ]
  have hx := it.next (by decide) 116 rfl (by decide)
  have yr1 := r1.cell
  have zr1 := r1.lt
  have yr3 := r3.cell
  have zr3 := r3.lt
  have yr5 := r5.cell
  have zr5 := r5.lt
  go_upto_region 6 with fail
  clear yr1 yr3 yr5 zr1 zr3 zr5
  clear hx
  replace r1 := r1.iter it 3
  replace r3 := r3.iter it 3
  replace r5 := r5.iter it 3
  replace hc := Lib.below_iterAt hc (show w.heap.size ≤ bi from hbi) ⟨#[109, 100, 116]⟩ 3
  replace it := it.step 3
  generalize V9.iterAt bi ⟨#[109, 100, 116]⟩ 3 = V10 at it r1 r3 r5 hc ⊢
  have yr1 := r1.cell
  have zr1 := r1.lt
  have yr3 := r3.cell
  have zr3 := r3.lt
  have yr5 := r5.cell
  have zr5 := r5.lt
  go_wp2_with fail
  refine Calls.mono (number_t b5 _ zr5) ?_
  rintro e W10 ⟨rfl, hW⟩
  subst hW
  clear yr1 yr3 yr5 zr1 zr3 zr5
  have yr1 := r1.cell
  have zr1 := r1.lt
  have yr3 := r3.cell
  have zr3 := r3.lt
  have yr5 := r5.cell
  have zr5 := r5.lt
  go_upto_region 10 with fail
  clear yr1 yr3 yr5 zr1 zr3 zr5
  go_cut [4] (fun q wx => q = .bool (k1 && (decide ((1 : Int) ≤ b) && decide (b ≤ 1048576))) ∧ Row wx w.heap.size #[.int .i64 11, .int .i64 m, .int .i64 a, .int .i64 b, .int .i64 c, .string tag] 23 ∧ Row wx b3 #[.string wd, .string ⟨#[109, 100, 116]⟩] 44 ∧ Row wx b5 #[.int .i64 11, .int .i64 0, .int .i64 0, .int .i64 b, .int .i64 c, .string tag] 23 ∧ It wx bi ⟨#[109, 100, 116]⟩ 3 ∧ Below w.heap.size w wx)
  case first =>
    have yr1 := r1.cell
    have zr1 := r1.lt
    have yr3 := r3.cell
    have zr3 := r3.lt
    have yr5 := r5.cell
    have zr5 := r5.lt
    cases hk : k1
    · go_wp2_with fail
      go_meet
      exact ⟨by first | (simp [hk]; done) | (simp [hk]; omega), r1, r3, r5, it, hc⟩
    by_cases h1 : (1 : Int) ≤ b
    · by_cases h2 : b ≤ 1048576
      · go_wp2_with fail
        go_meet
        exact ⟨by first | (simp [hk, h1, h2]; done) | (simp [hk, h1, h2]; omega), r1, r3, r5, it, hc⟩
      · go_wp2_with fail
        go_meet
        exact ⟨by first | (simp [hk, h1, h2]; done) | (simp [hk, h1, h2]; omega), r1, r3, r5, it, hc⟩
    · go_wp2_with fail
      go_meet
      exact ⟨by first | (simp [hk, h1]; done) | (simp [hk, h1]; omega), r1, r3, r5, it, hc⟩
  obtain ⟨rfl, r1, r3, r5, it, hc⟩ := hcut
  have yr1 := r1.cell
  have zr1 := r1.lt
  have yr3 := r3.cell
  have zr3 := r3.lt
  have yr5 := r5.cell
  have zr5 := r5.lt
  have ur5 := r5.free
  go_wp2_with fail
  clear yr1 yr3 yr5 zr1 zr3 zr5 ur5
  replace it := it.set (r5.ne_iter it) 3 (.int .i64 0)
  replace r1 := (r1.other nr1_r5.symm 3 (.int .i64 0))
  replace r3 := (r3.other nr3_r5.symm 3 (.int .i64 0))
  replace r5 := (r5.set 3 (.int .i64 0))
  simp only [List.setIfInBounds_toArray, List.set_cons_zero, List.set_cons_succ] at r5
  replace hc := (hc.setCell (p := ⟨b5, 3, none⟩) wr5 (.int .i64 0))
  generalize hW : World.setCell _ _ _ = V11 at *
  clear hW
  generalize hok2 : (k1 && (decide ((1 : Int) ≤ b) && decide (b ≤ 1048576))) = k2 at *
  rw [rounds_succ]
  have hx := it.done (by decide)
  have hq := op_neq 11 0 0 0 c tag
  have he : opOk 11 m a b c tag.data.toList = (k2 && zeroB 0 0 0 c tag) := by
    rw [← hok2, ← hok1, ← hok0]
    rw [Bool.eq_iff_iff, opOk_iff, tg_empty (by decide) (by decide)]
    unfold zeroB
    by_cases ht : tag = ⟨#[]⟩
    · simp [ht, mHi, aLo, aHi, bLo, bHi, cLo, cHi]
      try omega
    · simp [ht]
  cases hk : k2
  · rw [hk] at he
    have yr1 := r1.cell
    have zr1 := r1.lt
    have yr3 := r3.cell
    have zr3 := r3.lt
    have yr5 := r5.cell
    have zr5 := r5.lt
    go_wp2_with fail
    refine bodyPost_ret (v := .int .i64 2) (by simp [results, Tryz.results9, go_sem]) rfl ⟨by unfold opErr; rw [he, Bool.false_and]; rfl, hc⟩
  rw [hk] at he
  cases hz : zeroB 0 0 0 c tag
  · rw [hz] at he hq
    have yr1 := r1.cell
    have zr1 := r1.lt
    have yr3 := r3.cell
    have zr3 := r3.lt
    have yr5 := r5.cell
    have zr5 := r5.lt
    go_wp2_with fail
    refine bodyPost_ret (v := .int .i64 2) (by simp [results, Tryz.results9, go_sem]) rfl ⟨by unfold opErr; rw [he, Bool.true_and]; rfl, hc⟩
  · rw [hz] at he hq
    have yr1 := r1.cell
    have zr1 := r1.lt
    have yr3 := r3.cell
    have zr3 := r3.lt
    have yr5 := r5.cell
    have zr5 := r5.lt
    go_wp2_with fail
    refine bodyPost_ret (v := .int .i64 0) (by simp [results, Tryz.results9, go_sem]) rfl ⟨by unfold opErr; rw [he, Bool.true_and]; rfl, hc⟩
theorem check_12 (m a b c : Int) (tag : ByteArray) (w : World) : Ret 9 #[opV 12 m a b c tag] w (.int .i64 (opErr 12 m a b c tag)) := by
  have c1 := fun w => of_c 12 w
  rw [show inB 12 1 17 = true from rfl, show partsB 12 = ⟨#[109, 100]⟩ from rfl] at c1
  generalize wordB 12 = wd at c1
  have C := Lib.hid c1
  clear c1
  have hc := Below.refl w.heap.size w
  go_enter Tryz.func9, Tryz.ntmps9
  go_upto_region 1 with fail
  have r1 := Row.new (W := w) (cs := #[.int .i64 12, .int .i64 m, .int .i64 a, .int .i64 b, .int .i64 c, .string tag]) (t := 23)
  have hn := below_alloc w (.cells #[.int .i64 12, .int .i64 m, .int .i64 a, .int .i64 b, .int .i64 c, .string tag] 23)
  have wr1 : w.heap.size ≤ w.heap.size := hc.size
  replace hc := chain hc hn
  clear hn
  generalize w.alloc (.cells #[.int .i64 12, .int .i64 m, .int .i64 a, .int .i64 b, .int .i64 c, .string tag] 23) = V1 at r1 hc ⊢
  have yr1 := r1.cell
  have zr1 := r1.lt
  go_wp2_with fail
  refine Calls.mono (C.out _) ?_
  rintro e V2 ⟨rfl, hn⟩
  clear yr1 zr1
  replace r1 := r1.on hn
  replace hc := chain hc hn
  clear hn
  have yr1 := r1.cell
  have zr1 := r1.lt
  go_upto_region 2 with fail
  clear yr1 zr1
  have r3 := Row.new (W := V2) (cs := #[.string wd, .string ⟨#[109, 100]⟩]) (t := 44)
  have hn := below_alloc V2 (.cells #[.string wd, .string ⟨#[109, 100]⟩] 44)
  have nr1_r3 : w.heap.size ≠ V2.heap.size := Nat.ne_of_lt r1.lt
  have wr3 : w.heap.size ≤ V2.heap.size := hc.size
  replace r1 := r1.on hn
  replace hc := chain hc hn
  clear hn
  generalize V2.alloc (.cells #[.string wd, .string ⟨#[109, 100]⟩] 44) = V3 at r1 r3 hc ⊢
  generalize V2.heap.size = b3 at *
  have yr1 := r1.cell
  have zr1 := r1.lt
  have yr3 := r3.cell
  have zr3 := r3.lt
  go_upto_region 3 with fail
  clear yr1 yr3 zr1 zr3
  have r5 := Row.new (W := V3) (cs := #[.int .i64 12, .int .i64 m, .int .i64 a, .int .i64 b, .int .i64 c, .string tag]) (t := 23)
  have hn := below_alloc V3 (.cells #[.int .i64 12, .int .i64 m, .int .i64 a, .int .i64 b, .int .i64 c, .string tag] 23)
  have nr1_r5 : w.heap.size ≠ V3.heap.size := Nat.ne_of_lt r1.lt
  have nr3_r5 : b3 ≠ V3.heap.size := Nat.ne_of_lt r3.lt
  have wr5 : w.heap.size ≤ V3.heap.size := hc.size
  replace r1 := r1.on hn
  replace r3 := r3.on hn
  replace hc := chain hc hn
  clear hn
  generalize V3.alloc (.cells #[.int .i64 12, .int .i64 m, .int .i64 a, .int .i64 b, .int .i64 c, .string tag] 23) = V4 at r1 r3 r5 hc ⊢
  generalize V3.heap.size = b5 at *
  have yr1 := r1.cell
  have zr1 := r1.lt
  have yr3 := r3.cell
  have zr3 := r3.lt
  have yr5 := r5.cell
  have zr5 := r5.lt
  go_wp2_with fail
  clear yr1 yr3 yr5 zr1 zr3 zr5
  have hbi : w.heap.size ≤ V4.heap.size := hc.size
  have it := It.new V4 ⟨#[109, 100]⟩
  have hn := below_iter V4 ⟨#[109, 100]⟩
  replace r1 := r1.on hn
  replace r3 := r3.on hn
  replace r5 := r5.on hn
  replace hc := chain hc hn
  clear hn
  generalize V4.iter ⟨#[109, 100]⟩ 0 = V5 at it r1 r3 r5 hc ⊢
  generalize V4.heap.size = bi at *
  refine wp_loop_rounds 4 ?_
  rw [rounds_succ]
  have hx := it.next (by decide) 109 rfl (by decide)
  have yr1 := r1.cell
  have zr1 := r1.lt
  have yr3 := r3.cell
  have zr3 := r3.lt
  have yr5 := r5.cell
  have zr5 := r5.lt
  go_upto_region 6 with fail
  clear yr1 yr3 yr5 zr1 zr3 zr5
  clear hx
  replace r1 := r1.iter it 1
  replace r3 := r3.iter it 1
  replace r5 := r5.iter it 1
  replace hc := Lib.below_iterAt hc (show w.heap.size ≤ bi from hbi) ⟨#[109, 100]⟩ 1
  replace it := it.step 1
  generalize V5.iterAt bi ⟨#[109, 100]⟩ 1 = V6 at it r1 r3 r5 hc ⊢
  have yr1 := r1.cell
  have zr1 := r1.lt
  have yr3 := r3.cell
  have zr3 := r3.lt
  have yr5 := r5.cell
  have zr5 := r5.lt
  go_wp2_with fail
  refine Calls.mono (number_m b5 _ zr5) ?_
  rintro e W6 ⟨rfl, hW⟩
  subst hW
  clear yr1 yr3 yr5 zr1 zr3 zr5
  have yr1 := r1.cell
  have zr1 := r1.lt
  have yr3 := r3.cell
  have zr3 := r3.lt
  have yr5 := r5.cell
  have zr5 := r5.lt
  go_upto_region 10 with fail
  clear yr1 yr3 yr5 zr1 zr3 zr5
  go_cut [4] (fun q wx => q = .bool (decide ((0 : Int) ≤ m) && decide (m ≤ 3)) ∧ Row wx w.heap.size #[.int .i64 12, .int .i64 m, .int .i64 a, .int .i64 b, .int .i64 c, .string tag] 23 ∧ Row wx b3 #[.string wd, .string ⟨#[109, 100]⟩] 44 ∧ Row wx b5 #[.int .i64 12, .int .i64 m, .int .i64 a, .int .i64 b, .int .i64 c, .string tag] 23 ∧ It wx bi ⟨#[109, 100]⟩ 1 ∧ Below w.heap.size w wx)
  case first =>
    have yr1 := r1.cell
    have zr1 := r1.lt
    have yr3 := r3.cell
    have zr3 := r3.lt
    have yr5 := r5.cell
    have zr5 := r5.lt
    by_cases h1 : (0 : Int) ≤ m
    · by_cases h2 : m ≤ 3
      · go_wp2_with fail
        go_meet
        exact ⟨by first | (simp [h1, h2]; done) | (simp [h1, h2]; omega), r1, r3, r5, it, hc⟩
      · go_wp2_with fail
        go_meet
        exact ⟨by first | (simp [h1, h2]; done) | (simp [h1, h2]; omega), r1, r3, r5, it, hc⟩
    · go_wp2_with fail
      go_meet
      exact ⟨by first | (simp [h1]; done) | (simp [h1]; omega), r1, r3, r5, it, hc⟩
  obtain ⟨rfl, r1, r3, r5, it, hc⟩ := hcut
  have yr1 := r1.cell
  have zr1 := r1.lt
  have yr3 := r3.cell
  have zr3 := r3.lt
  have yr5 := r5.cell
  have zr5 := r5.lt
  have ur5 := r5.free
  go_wp2_with fail
  clear yr1 yr3 yr5 zr1 zr3 zr5 ur5
  replace it := it.set (r5.ne_iter it) 1 (.int .i64 0)
  replace r1 := (r1.other nr1_r5.symm 1 (.int .i64 0))
  replace r3 := (r3.other nr3_r5.symm 1 (.int .i64 0))
  replace r5 := (r5.set 1 (.int .i64 0))
  simp only [List.setIfInBounds_toArray, List.set_cons_zero, List.set_cons_succ] at r5
  replace hc := (hc.setCell (p := ⟨b5, 1, none⟩) wr5 (.int .i64 0))
  generalize hW : World.setCell _ _ _ = V7 at *
  clear hW
  generalize hok0 : (decide ((0 : Int) ≤ m) && decide (m ≤ 3)) = k0 at *
  rw [rounds_succ]
  have hx := it.next (by decide) 100 rfl (by decide)
  have yr1 := r1.cell
  have zr1 := r1.lt
  have yr3 := r3.cell
  have zr3 := r3.lt
  have yr5 := r5.cell
  have zr5 := r5.lt
  go_upto_region 6 with fail
  clear yr1 yr3 yr5 zr1 zr3 zr5
  clear hx
  replace r1 := r1.iter it 2
  replace r3 := r3.iter it 2
  replace r5 := r5.iter it 2
  replace hc := Lib.below_iterAt hc (show w.heap.size ≤ bi from hbi) ⟨#[109, 100]⟩ 2
  replace it := it.step 2
  generalize V7.iterAt bi ⟨#[109, 100]⟩ 2 = V8 at it r1 r3 r5 hc ⊢
  have yr1 := r1.cell
  have zr1 := r1.lt
  have yr3 := r3.cell
  have zr3 := r3.lt
  have yr5 := r5.cell
  have zr5 := r5.lt
  go_wp2_with fail
  refine Calls.mono (number_d b5 _ zr5) ?_
  rintro e W8 ⟨rfl, hW⟩
  subst hW
  clear yr1 yr3 yr5 zr1 zr3 zr5
  have yr1 := r1.cell
  have zr1 := r1.lt
  have yr3 := r3.cell
  have zr3 := r3.lt
  have yr5 := r5.cell
  have zr5 := r5.lt
  go_upto_region 10 with fail
  clear yr1 yr3 yr5 zr1 zr3 zr5
  go_cut [4] (fun q wx => q = .bool (k0 && (decide ((0 : Int) ≤ a) && decide (a ≤ 1999))) ∧ Row wx w.heap.size #[.int .i64 12, .int .i64 m, .int .i64 a, .int .i64 b, .int .i64 c, .string tag] 23 ∧ Row wx b3 #[.string wd, .string ⟨#[109, 100]⟩] 44 ∧ Row wx b5 #[.int .i64 12, .int .i64 0, .int .i64 a, .int .i64 b, .int .i64 c, .string tag] 23 ∧ It wx bi ⟨#[109, 100]⟩ 2 ∧ Below w.heap.size w wx)
  case first =>
    have yr1 := r1.cell
    have zr1 := r1.lt
    have yr3 := r3.cell
    have zr3 := r3.lt
    have yr5 := r5.cell
    have zr5 := r5.lt
    cases hk : k0
    · go_wp2_with fail
      go_meet
      exact ⟨by first | (simp [hk]; done) | (simp [hk]; omega), r1, r3, r5, it, hc⟩
    by_cases h1 : (0 : Int) ≤ a
    · by_cases h2 : a ≤ 1999
      · go_wp2_with fail
        go_meet
        exact ⟨by first | (simp [hk, h1, h2]; done) | (simp [hk, h1, h2]; omega), r1, r3, r5, it, hc⟩
      · go_wp2_with fail
        go_meet
        exact ⟨by first | (simp [hk, h1, h2]; done) | (simp [hk, h1, h2]; omega), r1, r3, r5, it, hc⟩
    · go_wp2_with fail
      go_meet
      exact ⟨by first | (simp [hk, h1]; done) | (simp [hk, h1]; omega), r1, r3, r5, it, hc⟩
  obtain ⟨rfl, r1, r3, r5, it, hc⟩ := hcut
  have yr1 := r1.cell
  have zr1 := r1.lt
  have yr3 := r3.cell
  have zr3 := r3.lt
  have yr5 := r5.cell
  have zr5 := r5.lt
  have ur5 := r5.free
  go_wp2_with fail
  clear yr1 yr3 yr5 zr1 zr3 zr5 ur5
  replace it := it.set (r5.ne_iter it) 2 (.int .i64 0)
  replace r1 := (r1.other nr1_r5.symm 2 (.int .i64 0))
  replace r3 := (r3.other nr3_r5.symm 2 (.int .i64 0))
  replace r5 := (r5.set 2 (.int .i64 0))
  simp only [List.setIfInBounds_toArray, List.set_cons_zero, List.set_cons_succ] at r5
  replace hc := (hc.setCell (p := ⟨b5, 2, none⟩) wr5 (.int .i64 0))
  generalize hW : World.setCell _ _ _ = V9 at *
  clear hW
  generalize hok1 : (k0 && (decide ((0 : Int) ≤ a) && decide (a ≤ 1999))) = k1 at *
  rw [rounds_succ]
  have hx := it.done (by decide)
  have hq := op_neq 12 0 0 b c tag
  have he : opOk 12 m a b c tag.data.toList = (k1 && zeroB 0 0 b c tag) := by
    rw [← hok1, ← hok0]
    rw [Bool.eq_iff_iff, opOk_iff, tg_empty (by decide) (by decide)]
    unfold zeroB
    by_cases ht : tag = ⟨#[]⟩
    · simp [ht, mHi, aLo, aHi, bLo, bHi, cLo, cHi]
      try omega
    · simp [ht]
  cases hk : k1
  · rw [hk] at he
    have yr1 := r1.cell
    have zr1 := r1.lt
    have yr3 := r3.cell
    have zr3 := r3.lt
    have yr5 := r5.cell
    have zr5 := r5.lt
    go_wp2_with fail
    refine bodyPost_ret (v := .int .i64 2) (by simp [results, Tryz.results9, go_sem]) rfl ⟨by unfold opErr; rw [he, Bool.false_and]; rfl, hc⟩
  rw [hk] at he
  cases hz : zeroB 0 0 b c tag
  · rw [hz] at he hq
    have yr1 := r1.cell
    have zr1 := r1.lt
    have yr3 := r3.cell
    have zr3 := r3.lt
    have yr5 := r5.cell
    have zr5 := r5.lt
    go_wp2_with fail
    refine bodyPost_ret (v := .int .i64 2) (by simp [results, Tryz.results9, go_sem]) rfl ⟨by unfold opErr; rw [he, Bool.true_and]; rfl, hc⟩
  · rw [hz] at he hq
    have yr1 := r1.cell
    have zr1 := r1.lt
    have yr3 := r3.cell
    have zr3 := r3.lt
    have yr5 := r5.cell
    have zr5 := r5.lt
    go_wp2_with fail
    refine bodyPost_ret (v := .int .i64 0) (by simp [results, Tryz.results9, go_sem]) rfl ⟨by unfold opErr; rw [he, Bool.true_and]; rfl, hc⟩
theorem check_13 (m a b c : Int) (tag : ByteArray) (w : World) : Ret 9 #[opV 13 m a b c tag] w (.int .i64 (opErr 13 m a b c tag)) := by
  have c1 := fun w => of_c 13 w
  rw [show inB 13 1 17 = true from rfl, show partsB 13 = ⟨#[115]⟩ from rfl] at c1
  generalize wordB 13 = wd at c1
  have C := Lib.hid c1
  clear c1
  have hc := Below.refl w.heap.size w
  go_enter Tryz.func9, Tryz.ntmps9
  go_upto_region 1 with fail
  have r1 := Row.new (W := w) (cs := #[.int .i64 13, .int .i64 m, .int .i64 a, .int .i64 b, .int .i64 c, .string tag]) (t := 23)
  have hn := below_alloc w (.cells #[.int .i64 13, .int .i64 m, .int .i64 a, .int .i64 b, .int .i64 c, .string tag] 23)
  have wr1 : w.heap.size ≤ w.heap.size := hc.size
  replace hc := chain hc hn
  clear hn
  generalize w.alloc (.cells #[.int .i64 13, .int .i64 m, .int .i64 a, .int .i64 b, .int .i64 c, .string tag] 23) = V1 at r1 hc ⊢
  have yr1 := r1.cell
  have zr1 := r1.lt
  go_wp2_with fail
  refine Calls.mono (C.out _) ?_
  rintro e V2 ⟨rfl, hn⟩
  clear yr1 zr1
  replace r1 := r1.on hn
  replace hc := chain hc hn
  clear hn
  have yr1 := r1.cell
  have zr1 := r1.lt
  go_upto_region 2 with fail
  clear yr1 zr1
  have r3 := Row.new (W := V2) (cs := #[.string wd, .string ⟨#[115]⟩]) (t := 44)
  have hn := below_alloc V2 (.cells #[.string wd, .string ⟨#[115]⟩] 44)
  have nr1_r3 : w.heap.size ≠ V2.heap.size := Nat.ne_of_lt r1.lt
  have wr3 : w.heap.size ≤ V2.heap.size := hc.size
  replace r1 := r1.on hn
  replace hc := chain hc hn
  clear hn
  generalize V2.alloc (.cells #[.string wd, .string ⟨#[115]⟩] 44) = V3 at r1 r3 hc ⊢
  generalize V2.heap.size = b3 at *
  have yr1 := r1.cell
  have zr1 := r1.lt
  have yr3 := r3.cell
  have zr3 := r3.lt
  go_upto_region 3 with fail
  clear yr1 yr3 zr1 zr3
  have r5 := Row.new (W := V3) (cs := #[.int .i64 13, .int .i64 m, .int .i64 a, .int .i64 b, .int .i64 c, .string tag]) (t := 23)
  have hn := below_alloc V3 (.cells #[.int .i64 13, .int .i64 m, .int .i64 a, .int .i64 b, .int .i64 c, .string tag] 23)
  have nr1_r5 : w.heap.size ≠ V3.heap.size := Nat.ne_of_lt r1.lt
  have nr3_r5 : b3 ≠ V3.heap.size := Nat.ne_of_lt r3.lt
  have wr5 : w.heap.size ≤ V3.heap.size := hc.size
  replace r1 := r1.on hn
  replace r3 := r3.on hn
  replace hc := chain hc hn
  clear hn
  generalize V3.alloc (.cells #[.int .i64 13, .int .i64 m, .int .i64 a, .int .i64 b, .int .i64 c, .string tag] 23) = V4 at r1 r3 r5 hc ⊢
  generalize V3.heap.size = b5 at *
  have yr1 := r1.cell
  have zr1 := r1.lt
  have yr3 := r3.cell
  have zr3 := r3.lt
  have yr5 := r5.cell
  have zr5 := r5.lt
  go_wp2_with fail
  clear yr1 yr3 yr5 zr1 zr3 zr5
  have hbi : w.heap.size ≤ V4.heap.size := hc.size
  have it := It.new V4 ⟨#[115]⟩
  have hn := below_iter V4 ⟨#[115]⟩
  replace r1 := r1.on hn
  replace r3 := r3.on hn
  replace r5 := r5.on hn
  replace hc := chain hc hn
  clear hn
  generalize V4.iter ⟨#[115]⟩ 0 = V5 at it r1 r3 r5 hc ⊢
  generalize V4.heap.size = bi at *
  refine wp_loop_rounds 3 ?_
  rw [rounds_succ]
  have hx := it.next (by decide) 115 rfl (by decide)
  have yr1 := r1.cell
  have zr1 := r1.lt
  have yr3 := r3.cell
  have zr3 := r3.lt
  have yr5 := r5.cell
  have zr5 := r5.lt
  go_upto_region 6 with fail
  clear yr1 yr3 yr5 zr1 zr3 zr5
  clear hx
  replace r1 := r1.iter it 1
  replace r3 := r3.iter it 1
  replace r5 := r5.iter it 1
  replace hc := Lib.below_iterAt hc (show w.heap.size ≤ bi from hbi) ⟨#[115]⟩ 1
  replace it := it.step 1
  generalize V5.iterAt bi ⟨#[115]⟩ 1 = V6 at it r1 r3 r5 hc ⊢
  have yr1 := r1.cell
  have zr1 := r1.lt
  have yr3 := r3.cell
  have zr3 := r3.lt
  have yr5 := r5.cell
  have zr5 := r5.lt
  go_wp2_with fail
  refine Calls.mono (number_s b5 _ zr5) ?_
  rintro e W6 ⟨rfl, hW⟩
  subst hW
  clear yr1 yr3 yr5 zr1 zr3 zr5
  have yr1 := r1.cell
  have zr1 := r1.lt
  have yr3 := r3.cell
  have zr3 := r3.lt
  have yr5 := r5.cell
  have zr5 := r5.lt
  go_upto_region 10 with fail
  clear yr1 yr3 yr5 zr1 zr3 zr5
  go_cut [4] (fun q wx => q = .bool (decide ((1 : Int) ≤ a) && decide (a ≤ 10000)) ∧ Row wx w.heap.size #[.int .i64 13, .int .i64 m, .int .i64 a, .int .i64 b, .int .i64 c, .string tag] 23 ∧ Row wx b3 #[.string wd, .string ⟨#[115]⟩] 44 ∧ Row wx b5 #[.int .i64 13, .int .i64 m, .int .i64 a, .int .i64 b, .int .i64 c, .string tag] 23 ∧ It wx bi ⟨#[115]⟩ 1 ∧ Below w.heap.size w wx)
  case first =>
    have yr1 := r1.cell
    have zr1 := r1.lt
    have yr3 := r3.cell
    have zr3 := r3.lt
    have yr5 := r5.cell
    have zr5 := r5.lt
    by_cases h1 : (1 : Int) ≤ a
    · by_cases h2 : a ≤ 10000
      · go_wp2_with fail
        go_meet
        exact ⟨by first | (simp [h1, h2]; done) | (simp [h1, h2]; omega), r1, r3, r5, it, hc⟩
      · go_wp2_with fail
        go_meet
        exact ⟨by first | (simp [h1, h2]; done) | (simp [h1, h2]; omega), r1, r3, r5, it, hc⟩
    · go_wp2_with fail
      go_meet
      exact ⟨by first | (simp [h1]; done) | (simp [h1]; omega), r1, r3, r5, it, hc⟩
  obtain ⟨rfl, r1, r3, r5, it, hc⟩ := hcut
  have yr1 := r1.cell
  have zr1 := r1.lt
  have yr3 := r3.cell
  have zr3 := r3.lt
  have yr5 := r5.cell
  have zr5 := r5.lt
  have ur5 := r5.free
  go_wp2_with fail
  clear yr1 yr3 yr5 zr1 zr3 zr5 ur5
  replace it := it.set (r5.ne_iter it) 2 (.int .i64 0)
  replace r1 := (r1.other nr1_r5.symm 2 (.int .i64 0))
  replace r3 := (r3.other nr3_r5.symm 2 (.int .i64 0))
  replace r5 := (r5.set 2 (.int .i64 0))
  simp only [List.setIfInBounds_toArray, List.set_cons_zero, List.set_cons_succ] at r5
  replace hc := (hc.setCell (p := ⟨b5, 2, none⟩) wr5 (.int .i64 0))
  generalize hW : World.setCell _ _ _ = V7 at *
  clear hW
  generalize hok0 : (decide ((1 : Int) ≤ a) && decide (a ≤ 10000)) = k0 at *
  rw [rounds_succ]
  have hx := it.done (by decide)
  have hq := op_neq 13 m 0 b c tag
  have he : opOk 13 m a b c tag.data.toList = (k0 && zeroB m 0 b c tag) := by
    rw [← hok0]
    rw [Bool.eq_iff_iff, opOk_iff, tg_empty (by decide) (by decide)]
    unfold zeroB
    by_cases ht : tag = ⟨#[]⟩
    · simp [ht, mHi, aLo, aHi, bLo, bHi, cLo, cHi]
      try omega
    · simp [ht]
  cases hk : k0
  · rw [hk] at he
    have yr1 := r1.cell
    have zr1 := r1.lt
    have yr3 := r3.cell
    have zr3 := r3.lt
    have yr5 := r5.cell
    have zr5 := r5.lt
    go_wp2_with fail
    refine bodyPost_ret (v := .int .i64 2) (by simp [results, Tryz.results9, go_sem]) rfl ⟨by unfold opErr; rw [he, Bool.false_and]; rfl, hc⟩
  rw [hk] at he
  cases hz : zeroB m 0 b c tag
  · rw [hz] at he hq
    have yr1 := r1.cell
    have zr1 := r1.lt
    have yr3 := r3.cell
    have zr3 := r3.lt
    have yr5 := r5.cell
    have zr5 := r5.lt
    go_wp2_with fail
    refine bodyPost_ret (v := .int .i64 2) (by simp [results, Tryz.results9, go_sem]) rfl ⟨by unfold opErr; rw [he, Bool.true_and]; rfl, hc⟩
  · rw [hz] at he hq
    have yr1 := r1.cell
    have zr1 := r1.lt
    have yr3 := r3.cell
    have zr3 := r3.lt
    have yr5 := r5.cell
    have zr5 := r5.lt
    go_wp2_with fail
    refine bodyPost_ret (v := .int .i64 0) (by simp [results, Tryz.results9, go_sem]) rfl ⟨by unfold opErr; rw [he, Bool.true_and]; rfl, hc⟩
theorem check_14 (m a b c : Int) (tag : ByteArray) (w : World) : Ret 9 #[opV 14 m a b c tag] w (.int .i64 (opErr 14 m a b c tag)) := by
  have c1 := fun w => of_c 14 w
  rw [show inB 14 1 17 = true from rfl, show partsB 14 = ⟨#[]⟩ from rfl] at c1
  generalize wordB 14 = wd at c1
  have C := Lib.hid c1
  clear c1
  have hc := Below.refl w.heap.size w
  go_enter Tryz.func9, Tryz.ntmps9
  go_upto_region 1 with fail
  have r1 := Row.new (W := w) (cs := #[.int .i64 14, .int .i64 m, .int .i64 a, .int .i64 b, .int .i64 c, .string tag]) (t := 23)
  have hn := below_alloc w (.cells #[.int .i64 14, .int .i64 m, .int .i64 a, .int .i64 b, .int .i64 c, .string tag] 23)
  have wr1 : w.heap.size ≤ w.heap.size := hc.size
  replace hc := chain hc hn
  clear hn
  generalize w.alloc (.cells #[.int .i64 14, .int .i64 m, .int .i64 a, .int .i64 b, .int .i64 c, .string tag] 23) = V1 at r1 hc ⊢
  have yr1 := r1.cell
  have zr1 := r1.lt
  go_wp2_with fail
  refine Calls.mono (C.out _) ?_
  rintro e V2 ⟨rfl, hn⟩
  clear yr1 zr1
  replace r1 := r1.on hn
  replace hc := chain hc hn
  clear hn
  have yr1 := r1.cell
  have zr1 := r1.lt
  go_upto_region 2 with fail
  clear yr1 zr1
  have r3 := Row.new (W := V2) (cs := #[.string wd, .string ⟨#[]⟩]) (t := 44)
  have hn := below_alloc V2 (.cells #[.string wd, .string ⟨#[]⟩] 44)
  have nr1_r3 : w.heap.size ≠ V2.heap.size := Nat.ne_of_lt r1.lt
  have wr3 : w.heap.size ≤ V2.heap.size := hc.size
  replace r1 := r1.on hn
  replace hc := chain hc hn
  clear hn
  generalize V2.alloc (.cells #[.string wd, .string ⟨#[]⟩] 44) = V3 at r1 r3 hc ⊢
  generalize V2.heap.size = b3 at *
  have yr1 := r1.cell
  have zr1 := r1.lt
  have yr3 := r3.cell
  have zr3 := r3.lt
  go_upto_region 3 with fail
  clear yr1 yr3 zr1 zr3
  have r5 := Row.new (W := V3) (cs := #[.int .i64 14, .int .i64 m, .int .i64 a, .int .i64 b, .int .i64 c, .string tag]) (t := 23)
  have hn := below_alloc V3 (.cells #[.int .i64 14, .int .i64 m, .int .i64 a, .int .i64 b, .int .i64 c, .string tag] 23)
  have nr1_r5 : w.heap.size ≠ V3.heap.size := Nat.ne_of_lt r1.lt
  have nr3_r5 : b3 ≠ V3.heap.size := Nat.ne_of_lt r3.lt
  have wr5 : w.heap.size ≤ V3.heap.size := hc.size
  replace r1 := r1.on hn
  replace r3 := r3.on hn
  replace hc := chain hc hn
  clear hn
  generalize V3.alloc (.cells #[.int .i64 14, .int .i64 m, .int .i64 a, .int .i64 b, .int .i64 c, .string tag] 23) = V4 at r1 r3 r5 hc ⊢
  generalize V3.heap.size = b5 at *
  have yr1 := r1.cell
  have zr1 := r1.lt
  have yr3 := r3.cell
  have zr3 := r3.lt
  have yr5 := r5.cell
  have zr5 := r5.lt
  go_wp2_with fail
  clear yr1 yr3 yr5 zr1 zr3 zr5
  have hbi : w.heap.size ≤ V4.heap.size := hc.size
  have it := It.new V4 ⟨#[]⟩
  have hn := below_iter V4 ⟨#[]⟩
  replace r1 := r1.on hn
  replace r3 := r3.on hn
  replace r5 := r5.on hn
  replace hc := chain hc hn
  clear hn
  generalize V4.iter ⟨#[]⟩ 0 = V5 at it r1 r3 r5 hc ⊢
  generalize V4.heap.size = bi at *
  refine wp_loop_rounds 2 ?_
  rw [rounds_succ]
  have hx := it.done (by decide)
  have hq := op_neq 14 m a b c tag
  have he : opOk 14 m a b c tag.data.toList = (true && zeroB m a b c tag) := by
    rw [Bool.eq_iff_iff, opOk_iff, tg_empty (by decide) (by decide)]
    unfold zeroB
    by_cases ht : tag = ⟨#[]⟩
    · simp [ht, mHi, aLo, aHi, bLo, bHi, cLo, cHi]
      try omega
    · simp [ht]
  cases hz : zeroB m a b c tag
  · rw [hz] at he hq
    have yr1 := r1.cell
    have zr1 := r1.lt
    have yr3 := r3.cell
    have zr3 := r3.lt
    have yr5 := r5.cell
    have zr5 := r5.lt
    go_wp2_with fail
    refine bodyPost_ret (v := .int .i64 2) (by simp [results, Tryz.results9, go_sem]) rfl ⟨by unfold opErr; rw [he, Bool.true_and]; rfl, hc⟩
  · rw [hz] at he hq
    have yr1 := r1.cell
    have zr1 := r1.lt
    have yr3 := r3.cell
    have zr3 := r3.lt
    have yr5 := r5.cell
    have zr5 := r5.lt
    go_wp2_with fail
    refine bodyPost_ret (v := .int .i64 0) (by simp [results, Tryz.results9, go_sem]) rfl ⟨by unfold opErr; rw [he, Bool.true_and]; rfl, hc⟩
theorem check_15 (m a b c : Int) (tag : ByteArray) (w : World) : Ret 9 #[opV 15 m a b c tag] w (.int .i64 (opErr 15 m a b c tag)) := by
  have c1 := fun w => of_c 15 w
  rw [show inB 15 1 17 = true from rfl, show partsB 15 = ⟨#[84]⟩ from rfl] at c1
  generalize wordB 15 = wd at c1
  have C := Lib.hid c1
  clear c1
  have hc := Below.refl w.heap.size w
  go_enter Tryz.func9, Tryz.ntmps9
  go_upto_region 1 with fail
  have r1 := Row.new (W := w) (cs := #[.int .i64 15, .int .i64 m, .int .i64 a, .int .i64 b, .int .i64 c, .string tag]) (t := 23)
  have hn := below_alloc w (.cells #[.int .i64 15, .int .i64 m, .int .i64 a, .int .i64 b, .int .i64 c, .string tag] 23)
  have wr1 : w.heap.size ≤ w.heap.size := hc.size
  replace hc := chain hc hn
  clear hn
  generalize w.alloc (.cells #[.int .i64 15, .int .i64 m, .int .i64 a, .int .i64 b, .int .i64 c, .string tag] 23) = V1 at r1 hc ⊢
  have yr1 := r1.cell
  have zr1 := r1.lt
  go_wp2_with fail
  refine Calls.mono (C.out _) ?_
  rintro e V2 ⟨rfl, hn⟩
  clear yr1 zr1
  replace r1 := r1.on hn
  replace hc := chain hc hn
  clear hn
  have yr1 := r1.cell
  have zr1 := r1.lt
  go_upto_region 2 with fail
  clear yr1 zr1
  have r3 := Row.new (W := V2) (cs := #[.string wd, .string ⟨#[84]⟩]) (t := 44)
  have hn := below_alloc V2 (.cells #[.string wd, .string ⟨#[84]⟩] 44)
  have nr1_r3 : w.heap.size ≠ V2.heap.size := Nat.ne_of_lt r1.lt
  have wr3 : w.heap.size ≤ V2.heap.size := hc.size
  replace r1 := r1.on hn
  replace hc := chain hc hn
  clear hn
  generalize V2.alloc (.cells #[.string wd, .string ⟨#[84]⟩] 44) = V3 at r1 r3 hc ⊢
  generalize V2.heap.size = b3 at *
  have yr1 := r1.cell
  have zr1 := r1.lt
  have yr3 := r3.cell
  have zr3 := r3.lt
  go_upto_region 3 with fail
  clear yr1 yr3 zr1 zr3
  have r5 := Row.new (W := V3) (cs := #[.int .i64 15, .int .i64 m, .int .i64 a, .int .i64 b, .int .i64 c, .string tag]) (t := 23)
  have hn := below_alloc V3 (.cells #[.int .i64 15, .int .i64 m, .int .i64 a, .int .i64 b, .int .i64 c, .string tag] 23)
  have nr1_r5 : w.heap.size ≠ V3.heap.size := Nat.ne_of_lt r1.lt
  have nr3_r5 : b3 ≠ V3.heap.size := Nat.ne_of_lt r3.lt
  have wr5 : w.heap.size ≤ V3.heap.size := hc.size
  replace r1 := r1.on hn
  replace r3 := r3.on hn
  replace hc := chain hc hn
  clear hn
  generalize V3.alloc (.cells #[.int .i64 15, .int .i64 m, .int .i64 a, .int .i64 b, .int .i64 c, .string tag] 23) = V4 at r1 r3 r5 hc ⊢
  generalize V3.heap.size = b5 at *
  have yr1 := r1.cell
  have zr1 := r1.lt
  have yr3 := r3.cell
  have zr3 := r3.lt
  have yr5 := r5.cell
  have zr5 := r5.lt
  go_wp2_with fail
  clear yr1 yr3 yr5 zr1 zr3 zr5
  have hbi : w.heap.size ≤ V4.heap.size := hc.size
  have it := It.new V4 ⟨#[84]⟩
  have hn := below_iter V4 ⟨#[84]⟩
  replace r1 := r1.on hn
  replace r3 := r3.on hn
  replace r5 := r5.on hn
  replace hc := chain hc hn
  clear hn
  generalize V4.iter ⟨#[84]⟩ 0 = V5 at it r1 r3 r5 hc ⊢
  generalize V4.heap.size = bi at *
  refine wp_loop_rounds 3 ?_
  rw [rounds_succ]
  have hx := it.next (by decide) 84 rfl (by decide)
  have yr1 := r1.cell
  have zr1 := r1.lt
  have yr3 := r3.cell
  have zr3 := r3.lt
  have yr5 := r5.cell
  have zr5 := r5.lt
  go_upto_region 6 with fail
  clear yr1 yr3 yr5 zr1 zr3 zr5
  clear hx
  replace r1 := r1.iter it 1
  replace r3 := r3.iter it 1
  replace r5 := r5.iter it 1
  replace hc := Lib.below_iterAt hc (show w.heap.size ≤ bi from hbi) ⟨#[84]⟩ 1
  replace it := it.step 1
  generalize V5.iterAt bi ⟨#[84]⟩ 1 = V6 at it r1 r3 r5 hc ⊢
  have yr1 := r1.cell
  have zr1 := r1.lt
  have yr3 := r3.cell
  have zr3 := r3.lt
  have yr5 := r5.cell
  have zr5 := r5.lt
  go_wp2_with fail
  refine Calls.mono (number_T2 b5 _ zr5) ?_
  rintro e W6 ⟨rfl, hW⟩
  subst hW
  clear yr1 yr3 yr5 zr1 zr3 zr5
  have yr1 := r1.cell
  have zr1 := r1.lt
  have yr3 := r3.cell
  have zr3 := r3.lt
  have yr5 := r5.cell
  have zr5 := r5.lt
  go_upto_region 10 with fail
  clear yr1 yr3 yr5 zr1 zr3 zr5
  go_cut [4] (fun q wx => q = .bool (decide ((1 : Int) ≤ a) && decide (a ≤ 1048576)) ∧ Row wx w.heap.size #[.int .i64 15, .int .i64 m, .int .i64 a, .int .i64 b, .int .i64 c, .string tag] 23 ∧ Row wx b3 #[.string wd, .string ⟨#[84]⟩] 44 ∧ Row wx b5 #[.int .i64 15, .int .i64 m, .int .i64 a, .int .i64 b, .int .i64 c, .string tag] 23 ∧ It wx bi ⟨#[84]⟩ 1 ∧ Below w.heap.size w wx)
  case first =>
    have yr1 := r1.cell
    have zr1 := r1.lt
    have yr3 := r3.cell
    have zr3 := r3.lt
    have yr5 := r5.cell
    have zr5 := r5.lt
    by_cases h1 : (1 : Int) ≤ a
    · by_cases h2 : a ≤ 1048576
      · go_wp2_with fail
        go_meet
        exact ⟨by first | (simp [h1, h2]; done) | (simp [h1, h2]; omega), r1, r3, r5, it, hc⟩
      · go_wp2_with fail
        go_meet
        exact ⟨by first | (simp [h1, h2]; done) | (simp [h1, h2]; omega), r1, r3, r5, it, hc⟩
    · go_wp2_with fail
      go_meet
      exact ⟨by first | (simp [h1]; done) | (simp [h1]; omega), r1, r3, r5, it, hc⟩
  obtain ⟨rfl, r1, r3, r5, it, hc⟩ := hcut
  have yr1 := r1.cell
  have zr1 := r1.lt
  have yr3 := r3.cell
  have zr3 := r3.lt
  have yr5 := r5.cell
  have zr5 := r5.lt
  have ur5 := r5.free
  go_wp2_with fail
  clear yr1 yr3 yr5 zr1 zr3 zr5 ur5
  replace it := it.set (r5.ne_iter it) 2 (.int .i64 0)
  replace r1 := (r1.other nr1_r5.symm 2 (.int .i64 0))
  replace r3 := (r3.other nr3_r5.symm 2 (.int .i64 0))
  replace r5 := (r5.set 2 (.int .i64 0))
  simp only [List.setIfInBounds_toArray, List.set_cons_zero, List.set_cons_succ] at r5
  replace hc := (hc.setCell (p := ⟨b5, 2, none⟩) wr5 (.int .i64 0))
  generalize hW : World.setCell _ _ _ = V7 at *
  clear hW
  generalize hok0 : (decide ((1 : Int) ≤ a) && decide (a ≤ 1048576)) = k0 at *
  rw [rounds_succ]
  have hx := it.done (by decide)
  have hq := op_neq 15 m 0 b c tag
  have he : opOk 15 m a b c tag.data.toList = (k0 && zeroB m 0 b c tag) := by
    rw [← hok0]
    rw [Bool.eq_iff_iff, opOk_iff, tg_empty (by decide) (by decide)]
    unfold zeroB
    by_cases ht : tag = ⟨#[]⟩
    · simp [ht, mHi, aLo, aHi, bLo, bHi, cLo, cHi]
      try omega
    · simp [ht]
  cases hk : k0
  · rw [hk] at he
    have yr1 := r1.cell
    have zr1 := r1.lt
    have yr3 := r3.cell
    have zr3 := r3.lt
    have yr5 := r5.cell
    have zr5 := r5.lt
    go_wp2_with fail
    refine bodyPost_ret (v := .int .i64 2) (by simp [results, Tryz.results9, go_sem]) rfl ⟨by unfold opErr; rw [he, Bool.false_and]; rfl, hc⟩
  rw [hk] at he
  cases hz : zeroB m 0 b c tag
  · rw [hz] at he hq
    have yr1 := r1.cell
    have zr1 := r1.lt
    have yr3 := r3.cell
    have zr3 := r3.lt
    have yr5 := r5.cell
    have zr5 := r5.lt
    go_wp2_with fail
    refine bodyPost_ret (v := .int .i64 2) (by simp [results, Tryz.results9, go_sem]) rfl ⟨by unfold opErr; rw [he, Bool.true_and]; rfl, hc⟩
  · rw [hz] at he hq
    have yr1 := r1.cell
    have zr1 := r1.lt
    have yr3 := r3.cell
    have zr3 := r3.lt
    have yr5 := r5.cell
    have zr5 := r5.lt
    go_wp2_with fail
    refine bodyPost_ret (v := .int .i64 0) (by simp [results, Tryz.results9, go_sem]) rfl ⟨by unfold opErr; rw [he, Bool.true_and]; rfl, hc⟩
theorem check_16 (m a b c : Int) (tag : ByteArray) (w : World) : Ret 9 #[opV 16 m a b c tag] w (.int .i64 (opErr 16 m a b c tag)) := by
  have c1 := fun w => of_c 16 w
  rw [show inB 16 1 17 = true from rfl, show partsB 16 = ⟨#[]⟩ from rfl] at c1
  generalize wordB 16 = wd at c1
  have C := Lib.hid c1
  clear c1
  have hc := Below.refl w.heap.size w
  go_enter Tryz.func9, Tryz.ntmps9
  go_upto_region 1 with fail
  have r1 := Row.new (W := w) (cs := #[.int .i64 16, .int .i64 m, .int .i64 a, .int .i64 b, .int .i64 c, .string tag]) (t := 23)
  have hn := below_alloc w (.cells #[.int .i64 16, .int .i64 m, .int .i64 a, .int .i64 b, .int .i64 c, .string tag] 23)
  have wr1 : w.heap.size ≤ w.heap.size := hc.size
  replace hc := chain hc hn
  clear hn
  generalize w.alloc (.cells #[.int .i64 16, .int .i64 m, .int .i64 a, .int .i64 b, .int .i64 c, .string tag] 23) = V1 at r1 hc ⊢
  have yr1 := r1.cell
  have zr1 := r1.lt
  go_wp2_with fail
  refine Calls.mono (C.out _) ?_
  rintro e V2 ⟨rfl, hn⟩
  clear yr1 zr1
  replace r1 := r1.on hn
  replace hc := chain hc hn
  clear hn
  have yr1 := r1.cell
  have zr1 := r1.lt
  go_upto_region 2 with fail
  clear yr1 zr1
  have r3 := Row.new (W := V2) (cs := #[.string wd, .string ⟨#[]⟩]) (t := 44)
  have hn := below_alloc V2 (.cells #[.string wd, .string ⟨#[]⟩] 44)
  have nr1_r3 : w.heap.size ≠ V2.heap.size := Nat.ne_of_lt r1.lt
  have wr3 : w.heap.size ≤ V2.heap.size := hc.size
  replace r1 := r1.on hn
  replace hc := chain hc hn
  clear hn
  generalize V2.alloc (.cells #[.string wd, .string ⟨#[]⟩] 44) = V3 at r1 r3 hc ⊢
  generalize V2.heap.size = b3 at *
  have yr1 := r1.cell
  have zr1 := r1.lt
  have yr3 := r3.cell
  have zr3 := r3.lt
  go_upto_region 3 with fail
  clear yr1 yr3 zr1 zr3
  have r5 := Row.new (W := V3) (cs := #[.int .i64 16, .int .i64 m, .int .i64 a, .int .i64 b, .int .i64 c, .string tag]) (t := 23)
  have hn := below_alloc V3 (.cells #[.int .i64 16, .int .i64 m, .int .i64 a, .int .i64 b, .int .i64 c, .string tag] 23)
  have nr1_r5 : w.heap.size ≠ V3.heap.size := Nat.ne_of_lt r1.lt
  have nr3_r5 : b3 ≠ V3.heap.size := Nat.ne_of_lt r3.lt
  have wr5 : w.heap.size ≤ V3.heap.size := hc.size
  replace r1 := r1.on hn
  replace r3 := r3.on hn
  replace hc := chain hc hn
  clear hn
  generalize V3.alloc (.cells #[.int .i64 16, .int .i64 m, .int .i64 a, .int .i64 b, .int .i64 c, .string tag] 23) = V4 at r1 r3 r5 hc ⊢
  generalize V3.heap.size = b5 at *
  have yr1 := r1.cell
  have zr1 := r1.lt
  have yr3 := r3.cell
  have zr3 := r3.lt
  have yr5 := r5.cell
  have zr5 := r5.lt
  go_wp2_with fail
  clear yr1 yr3 yr5 zr1 zr3 zr5
  have hbi : w.heap.size ≤ V4.heap.size := hc.size
  have it := It.new V4 ⟨#[]⟩
  have hn := below_iter V4 ⟨#[]⟩
  replace r1 := r1.on hn
  replace r3 := r3.on hn
  replace r5 := r5.on hn
  replace hc := chain hc hn
  clear hn
  generalize V4.iter ⟨#[]⟩ 0 = V5 at it r1 r3 r5 hc ⊢
  generalize V4.heap.size = bi at *
  refine wp_loop_rounds 2 ?_
  rw [rounds_succ]
  have hx := it.done (by decide)
  have hq := op_neq 16 m a b c tag
  have he : opOk 16 m a b c tag.data.toList = (true && zeroB m a b c tag) := by
    rw [Bool.eq_iff_iff, opOk_iff, tg_empty (by decide) (by decide)]
    unfold zeroB
    by_cases ht : tag = ⟨#[]⟩
    · simp [ht, mHi, aLo, aHi, bLo, bHi, cLo, cHi]
      try omega
    · simp [ht]
  cases hz : zeroB m a b c tag
  · rw [hz] at he hq
    have yr1 := r1.cell
    have zr1 := r1.lt
    have yr3 := r3.cell
    have zr3 := r3.lt
    have yr5 := r5.cell
    have zr5 := r5.lt
    go_wp2_with fail
    refine bodyPost_ret (v := .int .i64 2) (by simp [results, Tryz.results9, go_sem]) rfl ⟨by unfold opErr; rw [he, Bool.true_and]; rfl, hc⟩
  · rw [hz] at he hq
    have yr1 := r1.cell
    have zr1 := r1.lt
    have yr3 := r3.cell
    have zr3 := r3.lt
    have yr5 := r5.cell
    have zr5 := r5.lt
    go_wp2_with fail
    refine bodyPost_ret (v := .int .i64 0) (by simp [results, Tryz.results9, go_sem]) rfl ⟨by unfold opErr; rw [he, Bool.true_and]; rfl, hc⟩
theorem check_out (kd m a b c : Int) (tag : ByteArray) (w : World) (h : inB kd 1 17 = false) : Ret 9 #[opV kd m a b c tag] w (.int .i64 (opErr kd m a b c tag)) := by
  have c1 := fun w => of_c kd w
  rw [h, show partsB kd = ⟨#[]⟩ by unfold partsB partsK; rw [if_neg (fun e => by rw [inB_iff.2 e] at h; cases h)]] at c1
  generalize wordB kd = wd at c1
  have C := Lib.hid c1
  clear c1
  have hc := Below.refl w.heap.size w
  have he : opErr kd m a b c tag = 2 := by unfold opErr opOk; rw [h]; rfl
  rw [he]
  clear he h
  go_enter Tryz.func9, Tryz.ntmps9
  go_upto_region 1 with fail
  have r1 := Row.new (W := w) (cs := #[.int .i64 kd, .int .i64 m, .int .i64 a, .int .i64 b, .int .i64 c, .string tag]) (t := 23)
  have hn := below_alloc w (.cells #[.int .i64 kd, .int .i64 m, .int .i64 a, .int .i64 b, .int .i64 c, .string tag] 23)
  have wr1 : w.heap.size ≤ w.heap.size := hc.size
  replace hc := chain hc hn
  clear hn
  generalize w.alloc (.cells #[.int .i64 kd, .int .i64 m, .int .i64 a, .int .i64 b, .int .i64 c, .string tag] 23) = V1 at r1 hc ⊢
  have yr1 := r1.cell
  have zr1 := r1.lt
  go_wp2_with fail
  refine Calls.mono (C.out _) ?_
  rintro e V2 ⟨rfl, hn⟩
  clear yr1 zr1
  replace r1 := r1.on hn
  replace hc := chain hc hn
  clear hn
  have yr1 := r1.cell
  have zr1 := r1.lt
  go_upto_region 2 with fail
  clear yr1 zr1
  have r3 := Row.new (W := V2) (cs := #[.string wd, .string ⟨#[]⟩]) (t := 44)
  have hn := below_alloc V2 (.cells #[.string wd, .string ⟨#[]⟩] 44)
  have nr1_r3 : w.heap.size ≠ V2.heap.size := Nat.ne_of_lt r1.lt
  have wr3 : w.heap.size ≤ V2.heap.size := hc.size
  replace r1 := r1.on hn
  replace hc := chain hc hn
  clear hn
  generalize V2.alloc (.cells #[.string wd, .string ⟨#[]⟩] 44) = V3 at r1 r3 hc ⊢
  generalize V2.heap.size = b3 at *
  have yr1 := r1.cell
  have zr1 := r1.lt
  have yr3 := r3.cell
  have zr3 := r3.lt
  go_upto_region 3 with fail
  clear yr1 yr3 zr1 zr3
  have r5 := Row.new (W := V3) (cs := #[.int .i64 kd, .int .i64 m, .int .i64 a, .int .i64 b, .int .i64 c, .string tag]) (t := 23)
  have hn := below_alloc V3 (.cells #[.int .i64 kd, .int .i64 m, .int .i64 a, .int .i64 b, .int .i64 c, .string tag] 23)
  have nr1_r5 : w.heap.size ≠ V3.heap.size := Nat.ne_of_lt r1.lt
  have nr3_r5 : b3 ≠ V3.heap.size := Nat.ne_of_lt r3.lt
  have wr5 : w.heap.size ≤ V3.heap.size := hc.size
  replace r1 := r1.on hn
  replace r3 := r3.on hn
  replace hc := chain hc hn
  clear hn
  generalize V3.alloc (.cells #[.int .i64 kd, .int .i64 m, .int .i64 a, .int .i64 b, .int .i64 c, .string tag] 23) = V4 at r1 r3 r5 hc ⊢
  generalize V3.heap.size = b5 at *
  have yr1 := r1.cell
  have zr1 := r1.lt
  have yr3 := r3.cell
  have zr3 := r3.lt
  have yr5 := r5.cell
  have zr5 := r5.lt
  go_wp2_with fail
  clear yr1 yr3 yr5 zr1 zr3 zr5
  have it := It.new V4 ⟨#[]⟩
  have hn := below_iter V4 ⟨#[]⟩
  replace r1 := r1.on hn
  replace r3 := r3.on hn
  replace r5 := r5.on hn
  replace hc := chain hc hn
  clear hn
  generalize V4.iter ⟨#[]⟩ 0 = V5 at it r1 r3 r5 hc ⊢
  generalize V4.heap.size = bi at *
  refine wp_loop_rounds 2 ?_
  rw [rounds_succ]
  have hx := it.done (by decide)
  have yr1 := r1.cell
  have zr1 := r1.lt
  have yr3 := r3.cell
  have zr3 := r3.lt
  have yr5 := r5.cell
  have zr5 := r5.lt
  go_wp2_with fail
  refine bodyPost_ret (v := .int .i64 2) (by simp [results, Tryz.results9, go_sem]) rfl ⟨rfl, hc⟩
end Go.Proofs.YthkngleegefgbaaGreatDoor
