/- The reference's used. -/
import Derived.Test.YthkngleegefgbaaGreatDoorL1a
import Derived.Test.YthkngleegefgbaaGreatDoorL0a
import Derived.Deep.DeepCutAuto
namespace Go.Proofs.YthkngleegefgbaaGreatDoor
open Go.RowKit
set_option linter.unusedVariables false
set_option linter.unusedSimpArgs false
set_option maxHeartbeats 40000000
set_option maxRecDepth 20000
theorem used_1 (m a b c : Int) (tag : ByteArray) (w : World) : Ret 32 #[opV 1 m a b c tag] w (.tuple #[opV 1 m a 0 0 ⟨#[]⟩, .bool ((inB m 0 3 && inB a 0 4))]) := by
  have hc := Below.refl w.heap.size w
  have hmu : inB 1 1 12 = true := rfl
  go_enter Tryz.func32, Tryz.ntmps32
  go_upto_region 1 with fail
  have r1 := Row.new (W := w) (cs := #[.int .i64 1, .int .i64 m, .int .i64 a, .int .i64 b, .int .i64 c, .string tag]) (t := 23)
  have hn := below_alloc w (.cells #[.int .i64 1, .int .i64 m, .int .i64 a, .int .i64 b, .int .i64 c, .string tag] 23)
  replace hc := chain hc hn
  have hz1 : (w.alloc (.cells #[.int .i64 1, .int .i64 m, .int .i64 a, .int .i64 b, .int .i64 c, .string tag] 23)).heap.size = w.heap.size + 1 := by simp
  clear hn
  generalize w.alloc (.cells #[.int .i64 1, .int .i64 m, .int .i64 a, .int .i64 b, .int .i64 c, .string tag] 23) = V1 at r1 hc hz1 ⊢
  have r2 := Row.new (W := V1) (cs := #[.int .i64 0, .int .i64 0, .int .i64 0, .int .i64 0, .int .i64 0, .string ⟨#[]⟩]) (t := 23)
  have hn := below_alloc V1 (.cells #[.int .i64 0, .int .i64 0, .int .i64 0, .int .i64 0, .int .i64 0, .string ⟨#[]⟩] 23)
  replace r1 := r1.on hn
  replace hc := chain hc hn
  rw [hz1] at r2
  clear hn hz1
  generalize V1.alloc (.cells #[.int .i64 0, .int .i64 0, .int .i64 0, .int .i64 0, .int .i64 0, .string ⟨#[]⟩] 23) = V2 at r1 r2 hc ⊢
  have nr1_r2 : w.heap.size ≠ w.heap.size + 1 := by omega
  have wr2 : w.heap.size ≤ w.heap.size + 1 := by omega
  have wr1 : w.heap.size ≤ w.heap.size := Nat.le_refl _
  have yr1 := r1.cell
  have zr1 := r1.lt
  have yr2 := r2.cell
  have zr2 := r2.lt
  go_upto_region 2 with fail
  clear yr1 yr2 zr1 zr2
  have r4 := Row.new (W := V2) (cs := #[.int .i64 1, .int .i64 0, .int .i64 0, .int .i64 0, .int .i64 0, .string ⟨#[]⟩]) (t := 23)
  have hn := below_alloc V2 (.cells #[.int .i64 1, .int .i64 0, .int .i64 0, .int .i64 0, .int .i64 0, .string ⟨#[]⟩] 23)
  have nr1_r4 : w.heap.size ≠ V2.heap.size := Nat.ne_of_lt r1.lt
  have nr2_r4 : w.heap.size + 1 ≠ V2.heap.size := Nat.ne_of_lt r2.lt
  have wr4 : w.heap.size ≤ V2.heap.size := hc.size
  replace r1 := r1.on hn
  replace r2 := r2.on hn
  replace hc := chain hc hn
  clear hn
  generalize V2.alloc (.cells #[.int .i64 1, .int .i64 0, .int .i64 0, .int .i64 0, .int .i64 0, .string ⟨#[]⟩] 23) = V3 at r1 r2 r4 hc ⊢
  generalize V2.heap.size = b4 at *
  have yr1 := r1.cell
  have zr1 := r1.lt
  have yr2 := r2.cell
  have zr2 := r2.lt
  have yr4 := r4.cell
  have zr4 := r4.lt
  go_wp2_with fail
  refine Calls.mono (rmut_c _ _) ?_
  rintro e V8 ⟨rfl, hW⟩
  subst hW
  clear yr1 yr2 yr4 zr1 zr2 zr4
  rw [hmu]
  have yr1 := r1.cell
  have zr1 := r1.lt
  have yr2 := r2.cell
  have zr2 := r2.lt
  have yr4 := r4.cell
  have zr4 := r4.lt
  have ur4 := r4.free
  go_upto_region 4 with fail
  clear yr1 yr2 yr4 zr1 zr2 zr4 ur4
  replace r1 := (r1.other nr1_r4.symm 1 (.int .i64 m))
  replace r2 := (r2.other nr2_r4.symm 1 (.int .i64 m))
  replace r4 := (r4.set 1 (.int .i64 m))
  simp only [List.setIfInBounds_toArray, List.set_cons_zero, List.set_cons_succ] at r4
  replace hc := (hc.setCell (p := ⟨b4, 1, none⟩) wr4 (.int .i64 m))
  generalize hW : World.setCell _ _ _ = V4 at *
  clear hW
  have yr1 := r1.cell
  have zr1 := r1.lt
  have yr2 := r2.cell
  have zr2 := r2.lt
  have yr4 := r4.cell
  have zr4 := r4.lt
  have ur4 := r4.free
  have ur2 := r2.free
  cases h0 : inB m 0 3
  · go_wp2_with (first | (go_at_call 57; refine (rin_c _ _ _ _).mono ?_; rintro e w9 ⟨rfl, rfl⟩) | (go_at_call 58; refine (rroot_c _ _).mono ?_; rintro e w9 ⟨rfl, rfl⟩) | (go_at_call 59; refine (rfield_c _ _).mono ?_; rintro e w9 ⟨rfl, rfl⟩) | (go_at_call 60; refine (rglobal_c _ _).mono ?_; rintro e w9 ⟨rfl, rfl⟩) | (go_at_call 61; refine (rdesc_c _ _).mono ?_; rintro e w9 ⟨rfl, rfl⟩) | (go_at_call 14; refine (rmut_c _ _).mono ?_; rintro e w9 ⟨rfl, rfl⟩))
    skip
    refine bodyPost_ret (v := .tuple #[opV 1 m a 0 0 ⟨#[]⟩, .bool false]) (by simp [results, Tryz.results32, go_sem, *]) rfl ⟨by simp [*], ?_⟩
    go_grown
  · cases h1 : inB a 0 4
    · go_wp2_with (first | (go_at_call 57; refine (rin_c _ _ _ _).mono ?_; rintro e w9 ⟨rfl, rfl⟩) | (go_at_call 58; refine (rroot_c _ _).mono ?_; rintro e w9 ⟨rfl, rfl⟩) | (go_at_call 59; refine (rfield_c _ _).mono ?_; rintro e w9 ⟨rfl, rfl⟩) | (go_at_call 60; refine (rglobal_c _ _).mono ?_; rintro e w9 ⟨rfl, rfl⟩) | (go_at_call 61; refine (rdesc_c _ _).mono ?_; rintro e w9 ⟨rfl, rfl⟩) | (go_at_call 14; refine (rmut_c _ _).mono ?_; rintro e w9 ⟨rfl, rfl⟩))
      skip
      refine bodyPost_ret (v := .tuple #[opV 1 m a 0 0 ⟨#[]⟩, .bool false]) (by simp [results, Tryz.results32, go_sem, *]) rfl ⟨by simp [*], ?_⟩
      go_grown
    · go_wp2_with (first | (go_at_call 57; refine (rin_c _ _ _ _).mono ?_; rintro e w9 ⟨rfl, rfl⟩) | (go_at_call 58; refine (rroot_c _ _).mono ?_; rintro e w9 ⟨rfl, rfl⟩) | (go_at_call 59; refine (rfield_c _ _).mono ?_; rintro e w9 ⟨rfl, rfl⟩) | (go_at_call 60; refine (rglobal_c _ _).mono ?_; rintro e w9 ⟨rfl, rfl⟩) | (go_at_call 61; refine (rdesc_c _ _).mono ?_; rintro e w9 ⟨rfl, rfl⟩) | (go_at_call 14; refine (rmut_c _ _).mono ?_; rintro e w9 ⟨rfl, rfl⟩))
      skip
      refine bodyPost_ret (v := .tuple #[opV 1 m a 0 0 ⟨#[]⟩, .bool true]) (by simp [results, Tryz.results32, go_sem, *]) rfl ⟨by simp [*], ?_⟩
      go_grown
theorem used_2 (m a b c : Int) (tag : ByteArray) (w : World) : Ret 32 #[opV 2 m a b c tag] w (.tuple #[opV 2 m a b 0 ⟨#[]⟩, .bool (((inB m 0 3 && inB a 0 31) && inB b 0 3))]) := by
  have hc := Below.refl w.heap.size w
  have hmu : inB 2 1 12 = true := rfl
  go_enter Tryz.func32, Tryz.ntmps32
  go_upto_region 1 with fail
  have r1 := Row.new (W := w) (cs := #[.int .i64 2, .int .i64 m, .int .i64 a, .int .i64 b, .int .i64 c, .string tag]) (t := 23)
  have hn := below_alloc w (.cells #[.int .i64 2, .int .i64 m, .int .i64 a, .int .i64 b, .int .i64 c, .string tag] 23)
  replace hc := chain hc hn
  have hz1 : (w.alloc (.cells #[.int .i64 2, .int .i64 m, .int .i64 a, .int .i64 b, .int .i64 c, .string tag] 23)).heap.size = w.heap.size + 1 := by simp
  clear hn
  generalize w.alloc (.cells #[.int .i64 2, .int .i64 m, .int .i64 a, .int .i64 b, .int .i64 c, .string tag] 23) = V1 at r1 hc hz1 ⊢
  have r2 := Row.new (W := V1) (cs := #[.int .i64 0, .int .i64 0, .int .i64 0, .int .i64 0, .int .i64 0, .string ⟨#[]⟩]) (t := 23)
  have hn := below_alloc V1 (.cells #[.int .i64 0, .int .i64 0, .int .i64 0, .int .i64 0, .int .i64 0, .string ⟨#[]⟩] 23)
  replace r1 := r1.on hn
  replace hc := chain hc hn
  rw [hz1] at r2
  clear hn hz1
  generalize V1.alloc (.cells #[.int .i64 0, .int .i64 0, .int .i64 0, .int .i64 0, .int .i64 0, .string ⟨#[]⟩] 23) = V2 at r1 r2 hc ⊢
  have nr1_r2 : w.heap.size ≠ w.heap.size + 1 := by omega
  have wr2 : w.heap.size ≤ w.heap.size + 1 := by omega
  have wr1 : w.heap.size ≤ w.heap.size := Nat.le_refl _
  have yr1 := r1.cell
  have zr1 := r1.lt
  have yr2 := r2.cell
  have zr2 := r2.lt
  go_upto_region 2 with fail
  clear yr1 yr2 zr1 zr2
  have r4 := Row.new (W := V2) (cs := #[.int .i64 2, .int .i64 0, .int .i64 0, .int .i64 0, .int .i64 0, .string ⟨#[]⟩]) (t := 23)
  have hn := below_alloc V2 (.cells #[.int .i64 2, .int .i64 0, .int .i64 0, .int .i64 0, .int .i64 0, .string ⟨#[]⟩] 23)
  have nr1_r4 : w.heap.size ≠ V2.heap.size := Nat.ne_of_lt r1.lt
  have nr2_r4 : w.heap.size + 1 ≠ V2.heap.size := Nat.ne_of_lt r2.lt
  have wr4 : w.heap.size ≤ V2.heap.size := hc.size
  replace r1 := r1.on hn
  replace r2 := r2.on hn
  replace hc := chain hc hn
  clear hn
  generalize V2.alloc (.cells #[.int .i64 2, .int .i64 0, .int .i64 0, .int .i64 0, .int .i64 0, .string ⟨#[]⟩] 23) = V3 at r1 r2 r4 hc ⊢
  generalize V2.heap.size = b4 at *
  have yr1 := r1.cell
  have zr1 := r1.lt
  have yr2 := r2.cell
  have zr2 := r2.lt
  have yr4 := r4.cell
  have zr4 := r4.lt
  go_wp2_with fail
  refine Calls.mono (rmut_c _ _) ?_
  rintro e V8 ⟨rfl, hW⟩
  subst hW
  clear yr1 yr2 yr4 zr1 zr2 zr4
  rw [hmu]
  have yr1 := r1.cell
  have zr1 := r1.lt
  have yr2 := r2.cell
  have zr2 := r2.lt
  have yr4 := r4.cell
  have zr4 := r4.lt
  have ur4 := r4.free
  go_upto_region 4 with fail
  clear yr1 yr2 yr4 zr1 zr2 zr4 ur4
  replace r1 := (r1.other nr1_r4.symm 1 (.int .i64 m))
  replace r2 := (r2.other nr2_r4.symm 1 (.int .i64 m))
  replace r4 := (r4.set 1 (.int .i64 m))
  simp only [List.setIfInBounds_toArray, List.set_cons_zero, List.set_cons_succ] at r4
  replace hc := (hc.setCell (p := ⟨b4, 1, none⟩) wr4 (.int .i64 m))
  generalize hW : World.setCell _ _ _ = V4 at *
  clear hW
  have yr1 := r1.cell
  have zr1 := r1.lt
  have yr2 := r2.cell
  have zr2 := r2.lt
  have yr4 := r4.cell
  have zr4 := r4.lt
  have ur4 := r4.free
  have ur2 := r2.free
  cases h0 : inB m 0 3
  · go_wp2_with (first | (go_at_call 57; refine (rin_c _ _ _ _).mono ?_; rintro e w9 ⟨rfl, rfl⟩) | (go_at_call 58; refine (rroot_c _ _).mono ?_; rintro e w9 ⟨rfl, rfl⟩) | (go_at_call 59; refine (rfield_c _ _).mono ?_; rintro e w9 ⟨rfl, rfl⟩) | (go_at_call 60; refine (rglobal_c _ _).mono ?_; rintro e w9 ⟨rfl, rfl⟩) | (go_at_call 61; refine (rdesc_c _ _).mono ?_; rintro e w9 ⟨rfl, rfl⟩) | (go_at_call 14; refine (rmut_c _ _).mono ?_; rintro e w9 ⟨rfl, rfl⟩))
    skip
    refine bodyPost_ret (v := .tuple #[opV 2 m a b 0 ⟨#[]⟩, .bool false]) (by simp [results, Tryz.results32, go_sem, *]) rfl ⟨by simp [*], ?_⟩
    go_grown
  · cases h1 : inB a 0 31
    · go_wp2_with (first | (go_at_call 57; refine (rin_c _ _ _ _).mono ?_; rintro e w9 ⟨rfl, rfl⟩) | (go_at_call 58; refine (rroot_c _ _).mono ?_; rintro e w9 ⟨rfl, rfl⟩) | (go_at_call 59; refine (rfield_c _ _).mono ?_; rintro e w9 ⟨rfl, rfl⟩) | (go_at_call 60; refine (rglobal_c _ _).mono ?_; rintro e w9 ⟨rfl, rfl⟩) | (go_at_call 61; refine (rdesc_c _ _).mono ?_; rintro e w9 ⟨rfl, rfl⟩) | (go_at_call 14; refine (rmut_c _ _).mono ?_; rintro e w9 ⟨rfl, rfl⟩))
      skip
      refine bodyPost_ret (v := .tuple #[opV 2 m a b 0 ⟨#[]⟩, .bool false]) (by simp [results, Tryz.results32, go_sem, *]) rfl ⟨by simp [*], ?_⟩
      go_grown
    · cases h2 : inB b 0 3
      · go_wp2_with (first | (go_at_call 57; refine (rin_c _ _ _ _).mono ?_; rintro e w9 ⟨rfl, rfl⟩) | (go_at_call 58; refine (rroot_c _ _).mono ?_; rintro e w9 ⟨rfl, rfl⟩) | (go_at_call 59; refine (rfield_c _ _).mono ?_; rintro e w9 ⟨rfl, rfl⟩) | (go_at_call 60; refine (rglobal_c _ _).mono ?_; rintro e w9 ⟨rfl, rfl⟩) | (go_at_call 61; refine (rdesc_c _ _).mono ?_; rintro e w9 ⟨rfl, rfl⟩) | (go_at_call 14; refine (rmut_c _ _).mono ?_; rintro e w9 ⟨rfl, rfl⟩))
        skip
        refine bodyPost_ret (v := .tuple #[opV 2 m a b 0 ⟨#[]⟩, .bool false]) (by simp [results, Tryz.results32, go_sem, *]) rfl ⟨by simp [*], ?_⟩
        go_grown
      · go_wp2_with (first | (go_at_call 57; refine (rin_c _ _ _ _).mono ?_; rintro e w9 ⟨rfl, rfl⟩) | (go_at_call 58; refine (rroot_c _ _).mono ?_; rintro e w9 ⟨rfl, rfl⟩) | (go_at_call 59; refine (rfield_c _ _).mono ?_; rintro e w9 ⟨rfl, rfl⟩) | (go_at_call 60; refine (rglobal_c _ _).mono ?_; rintro e w9 ⟨rfl, rfl⟩) | (go_at_call 61; refine (rdesc_c _ _).mono ?_; rintro e w9 ⟨rfl, rfl⟩) | (go_at_call 14; refine (rmut_c _ _).mono ?_; rintro e w9 ⟨rfl, rfl⟩))
        skip
        refine bodyPost_ret (v := .tuple #[opV 2 m a b 0 ⟨#[]⟩, .bool true]) (by simp [results, Tryz.results32, go_sem, *]) rfl ⟨by simp [*], ?_⟩
        go_grown
theorem used_3 (m a b c : Int) (tag : ByteArray) (w : World) : Ret 32 #[opV 3 m a b c tag] w (.tuple #[opV 3 m a b c ⟨#[]⟩, .bool ((((inB m 0 3 && inB a 0 31) && inB b 0 3) && (decide (c = -1) || inB c 0 31)))]) := by
  have hc := Below.refl w.heap.size w
  have hmu : inB 3 1 12 = true := rfl
  go_enter Tryz.func32, Tryz.ntmps32
  go_upto_region 1 with fail
  have r1 := Row.new (W := w) (cs := #[.int .i64 3, .int .i64 m, .int .i64 a, .int .i64 b, .int .i64 c, .string tag]) (t := 23)
  have hn := below_alloc w (.cells #[.int .i64 3, .int .i64 m, .int .i64 a, .int .i64 b, .int .i64 c, .string tag] 23)
  replace hc := chain hc hn
  have hz1 : (w.alloc (.cells #[.int .i64 3, .int .i64 m, .int .i64 a, .int .i64 b, .int .i64 c, .string tag] 23)).heap.size = w.heap.size + 1 := by simp
  clear hn
  generalize w.alloc (.cells #[.int .i64 3, .int .i64 m, .int .i64 a, .int .i64 b, .int .i64 c, .string tag] 23) = V1 at r1 hc hz1 ⊢
  have r2 := Row.new (W := V1) (cs := #[.int .i64 0, .int .i64 0, .int .i64 0, .int .i64 0, .int .i64 0, .string ⟨#[]⟩]) (t := 23)
  have hn := below_alloc V1 (.cells #[.int .i64 0, .int .i64 0, .int .i64 0, .int .i64 0, .int .i64 0, .string ⟨#[]⟩] 23)
  replace r1 := r1.on hn
  replace hc := chain hc hn
  rw [hz1] at r2
  clear hn hz1
  generalize V1.alloc (.cells #[.int .i64 0, .int .i64 0, .int .i64 0, .int .i64 0, .int .i64 0, .string ⟨#[]⟩] 23) = V2 at r1 r2 hc ⊢
  have nr1_r2 : w.heap.size ≠ w.heap.size + 1 := by omega
  have wr2 : w.heap.size ≤ w.heap.size + 1 := by omega
  have wr1 : w.heap.size ≤ w.heap.size := Nat.le_refl _
  have yr1 := r1.cell
  have zr1 := r1.lt
  have yr2 := r2.cell
  have zr2 := r2.lt
  go_upto_region 2 with fail
  clear yr1 yr2 zr1 zr2
  have r4 := Row.new (W := V2) (cs := #[.int .i64 3, .int .i64 0, .int .i64 0, .int .i64 0, .int .i64 0, .string ⟨#[]⟩]) (t := 23)
  have hn := below_alloc V2 (.cells #[.int .i64 3, .int .i64 0, .int .i64 0, .int .i64 0, .int .i64 0, .string ⟨#[]⟩] 23)
  have nr1_r4 : w.heap.size ≠ V2.heap.size := Nat.ne_of_lt r1.lt
  have nr2_r4 : w.heap.size + 1 ≠ V2.heap.size := Nat.ne_of_lt r2.lt
  have wr4 : w.heap.size ≤ V2.heap.size := hc.size
  replace r1 := r1.on hn
  replace r2 := r2.on hn
  replace hc := chain hc hn
  clear hn
  generalize V2.alloc (.cells #[.int .i64 3, .int .i64 0, .int .i64 0, .int .i64 0, .int .i64 0, .string ⟨#[]⟩] 23) = V3 at r1 r2 r4 hc ⊢
  generalize V2.heap.size = b4 at *
  have yr1 := r1.cell
  have zr1 := r1.lt
  have yr2 := r2.cell
  have zr2 := r2.lt
  have yr4 := r4.cell
  have zr4 := r4.lt
  go_wp2_with fail
  refine Calls.mono (rmut_c _ _) ?_
  rintro e V8 ⟨rfl, hW⟩
  subst hW
  clear yr1 yr2 yr4 zr1 zr2 zr4
  rw [hmu]
  have yr1 := r1.cell
  have zr1 := r1.lt
  have yr2 := r2.cell
  have zr2 := r2.lt
  have yr4 := r4.cell
  have zr4 := r4.lt
  have ur4 := r4.free
  go_upto_region 4 with fail
  clear yr1 yr2 yr4 zr1 zr2 zr4 ur4
  replace r1 := (r1.other nr1_r4.symm 1 (.int .i64 m))
  replace r2 := (r2.other nr2_r4.symm 1 (.int .i64 m))
  replace r4 := (r4.set 1 (.int .i64 m))
  simp only [List.setIfInBounds_toArray, List.set_cons_zero, List.set_cons_succ] at r4
  replace hc := (hc.setCell (p := ⟨b4, 1, none⟩) wr4 (.int .i64 m))
  generalize hW : World.setCell _ _ _ = V4 at *
  clear hW
  have yr1 := r1.cell
  have zr1 := r1.lt
  have yr2 := r2.cell
  have zr2 := r2.lt
  have yr4 := r4.cell
  have zr4 := r4.lt
  have ur4 := r4.free
  have ur2 := r2.free
  cases h0 : inB m 0 3
  · go_wp2_with (first | (go_at_call 57; refine (rin_c _ _ _ _).mono ?_; rintro e w9 ⟨rfl, rfl⟩) | (go_at_call 58; refine (rroot_c _ _).mono ?_; rintro e w9 ⟨rfl, rfl⟩) | (go_at_call 59; refine (rfield_c _ _).mono ?_; rintro e w9 ⟨rfl, rfl⟩) | (go_at_call 60; refine (rglobal_c _ _).mono ?_; rintro e w9 ⟨rfl, rfl⟩) | (go_at_call 61; refine (rdesc_c _ _).mono ?_; rintro e w9 ⟨rfl, rfl⟩) | (go_at_call 14; refine (rmut_c _ _).mono ?_; rintro e w9 ⟨rfl, rfl⟩))
    skip
    refine bodyPost_ret (v := .tuple #[opV 3 m a b c ⟨#[]⟩, .bool false]) (by simp [results, Tryz.results32, go_sem, *]) rfl ⟨by simp [*], ?_⟩
    go_grown
  · cases h1 : inB a 0 31
    · go_wp2_with (first | (go_at_call 57; refine (rin_c _ _ _ _).mono ?_; rintro e w9 ⟨rfl, rfl⟩) | (go_at_call 58; refine (rroot_c _ _).mono ?_; rintro e w9 ⟨rfl, rfl⟩) | (go_at_call 59; refine (rfield_c _ _).mono ?_; rintro e w9 ⟨rfl, rfl⟩) | (go_at_call 60; refine (rglobal_c _ _).mono ?_; rintro e w9 ⟨rfl, rfl⟩) | (go_at_call 61; refine (rdesc_c _ _).mono ?_; rintro e w9 ⟨rfl, rfl⟩) | (go_at_call 14; refine (rmut_c _ _).mono ?_; rintro e w9 ⟨rfl, rfl⟩))
      skip
      refine bodyPost_ret (v := .tuple #[opV 3 m a b c ⟨#[]⟩, .bool false]) (by simp [results, Tryz.results32, go_sem, *]) rfl ⟨by simp [*], ?_⟩
      go_grown
    · cases h2 : inB b 0 3
      · go_wp2_with (first | (go_at_call 57; refine (rin_c _ _ _ _).mono ?_; rintro e w9 ⟨rfl, rfl⟩) | (go_at_call 58; refine (rroot_c _ _).mono ?_; rintro e w9 ⟨rfl, rfl⟩) | (go_at_call 59; refine (rfield_c _ _).mono ?_; rintro e w9 ⟨rfl, rfl⟩) | (go_at_call 60; refine (rglobal_c _ _).mono ?_; rintro e w9 ⟨rfl, rfl⟩) | (go_at_call 61; refine (rdesc_c _ _).mono ?_; rintro e w9 ⟨rfl, rfl⟩) | (go_at_call 14; refine (rmut_c _ _).mono ?_; rintro e w9 ⟨rfl, rfl⟩))
        skip
        refine bodyPost_ret (v := .tuple #[opV 3 m a b c ⟨#[]⟩, .bool false]) (by simp [results, Tryz.results32, go_sem, *]) rfl ⟨by simp [*], ?_⟩
        go_grown
      · by_cases he3 : c = -1
        · have hm3 : decide (c = -1) = true := decide_eq_true he3
          have hn3 : (c == (-1 : Int)) = true := by rw [beq_iff_eq]; exact he3
          clear he3
          go_wp2_with (first | (go_at_call 57; refine (rin_c _ _ _ _).mono ?_; rintro e w9 ⟨rfl, rfl⟩) | (go_at_call 58; refine (rroot_c _ _).mono ?_; rintro e w9 ⟨rfl, rfl⟩) | (go_at_call 59; refine (rfield_c _ _).mono ?_; rintro e w9 ⟨rfl, rfl⟩) | (go_at_call 60; refine (rglobal_c _ _).mono ?_; rintro e w9 ⟨rfl, rfl⟩) | (go_at_call 61; refine (rdesc_c _ _).mono ?_; rintro e w9 ⟨rfl, rfl⟩) | (go_at_call 14; refine (rmut_c _ _).mono ?_; rintro e w9 ⟨rfl, rfl⟩))
          skip
          refine bodyPost_ret (v := .tuple #[opV 3 m a b c ⟨#[]⟩, .bool true]) (by simp [results, Tryz.results32, go_sem, *]) rfl ⟨by simp [*], ?_⟩
          go_grown
        · have hm3 : decide (c = -1) = false := decide_eq_false he3
          have hn3 : (c == (-1 : Int)) = false := by rw [beq_eq_false_iff_ne]; exact he3
          clear he3
          cases h3 : inB c 0 31
          · go_wp2_with (first | (go_at_call 57; refine (rin_c _ _ _ _).mono ?_; rintro e w9 ⟨rfl, rfl⟩) | (go_at_call 58; refine (rroot_c _ _).mono ?_; rintro e w9 ⟨rfl, rfl⟩) | (go_at_call 59; refine (rfield_c _ _).mono ?_; rintro e w9 ⟨rfl, rfl⟩) | (go_at_call 60; refine (rglobal_c _ _).mono ?_; rintro e w9 ⟨rfl, rfl⟩) | (go_at_call 61; refine (rdesc_c _ _).mono ?_; rintro e w9 ⟨rfl, rfl⟩) | (go_at_call 14; refine (rmut_c _ _).mono ?_; rintro e w9 ⟨rfl, rfl⟩))
            skip
            refine bodyPost_ret (v := .tuple #[opV 3 m a b c ⟨#[]⟩, .bool false]) (by simp [results, Tryz.results32, go_sem, *]) rfl ⟨by simp [*], ?_⟩
            go_grown
          · go_wp2_with (first | (go_at_call 57; refine (rin_c _ _ _ _).mono ?_; rintro e w9 ⟨rfl, rfl⟩) | (go_at_call 58; refine (rroot_c _ _).mono ?_; rintro e w9 ⟨rfl, rfl⟩) | (go_at_call 59; refine (rfield_c _ _).mono ?_; rintro e w9 ⟨rfl, rfl⟩) | (go_at_call 60; refine (rglobal_c _ _).mono ?_; rintro e w9 ⟨rfl, rfl⟩) | (go_at_call 61; refine (rdesc_c _ _).mono ?_; rintro e w9 ⟨rfl, rfl⟩) | (go_at_call 14; refine (rmut_c _ _).mono ?_; rintro e w9 ⟨rfl, rfl⟩))
            skip
            refine bodyPost_ret (v := .tuple #[opV 3 m a b c ⟨#[]⟩, .bool true]) (by simp [results, Tryz.results32, go_sem, *]) rfl ⟨by simp [*], ?_⟩
            go_grown
end Go.Proofs.YthkngleegefgbaaGreatDoor
