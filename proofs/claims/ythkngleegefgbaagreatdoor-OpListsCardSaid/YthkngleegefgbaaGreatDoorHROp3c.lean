/- The reference's used. -/
import Derived.Test.YthkngleegefgbaaGreatDoorL1a
import Derived.Test.YthkngleegefgbaaGreatDoorL0a
import Derived.Test.YthkngleegefgbaaGreatDoorM111a
import Derived.Deep.DeepCutAuto
namespace Go.Proofs.YthkngleegefgbaaGreatDoor
open Go.RowKit
set_option linter.unusedVariables false
set_option linter.unusedSimpArgs false
set_option maxHeartbeats 40000000
set_option maxRecDepth 20000
theorem used_8 (m a b c : Int) (tag : ByteArray) (hs : tag.size ≤ 1000000) (w : World) : Ret 32 #[opV 8 m a b c tag] w (.tuple #[opV 8 m a b 0 tag, .bool (inB m 0 3 && (inB a 1 3 && (inB b 0 1048576 && tagOk tag.data.toList)))]) := by
  have CT := Lib.hid (fun w => rtcheck_c tag w hs)
  clear hs
  have hc := Below.refl w.heap.size w
  have hmu : inB 8 1 12 = true := rfl
  go_enter Tryz.func32, Tryz.ntmps32
  go_upto_region 1 with fail
  have r1 := Row.new (W := w) (cs := #[.int .i64 8, .int .i64 m, .int .i64 a, .int .i64 b, .int .i64 c, .string tag]) (t := 23)
  have hn := below_alloc w (.cells #[.int .i64 8, .int .i64 m, .int .i64 a, .int .i64 b, .int .i64 c, .string tag] 23)
  replace hc := chain hc hn
  have hz1 : (w.alloc (.cells #[.int .i64 8, .int .i64 m, .int .i64 a, .int .i64 b, .int .i64 c, .string tag] 23)).heap.size = w.heap.size + 1 := by simp
  clear hn
  generalize w.alloc (.cells #[.int .i64 8, .int .i64 m, .int .i64 a, .int .i64 b, .int .i64 c, .string tag] 23) = V1 at r1 hc hz1 ⊢
  have r2 := Row.new (W := V1) (cs := #[.int .i64 0, .int .i64 0, .int .i64 0, .int .i64 0, .int .i64 0, .string ⟨#[]⟩]) (t := 23)
  have hn := below_alloc V1 (.cells #[.int .i64 0, .int .i64 0, .int .i64 0, .int .i64 0, .int .i64 0, .string ⟨#[]⟩] 23)
  replace r1 := r1.on hn
  replace hc := chain hc hn
  rw [hz1] at r2
  clear hn hz1
  generalize V1.alloc (.cells #[.int .i64 0, .int .i64 0, .int .i64 0, .int .i64 0, .int .i64 0, .string ⟨#[]⟩] 23) = V2 at r1 r2 hc ⊢
  have nr1_r2 : w.heap.size ≠ w.heap.size + 1 := by omega
  have wr2 : w.heap.size ≤ w.heap.size + 1 := by omega
  have wr1 : w.heap.size ≤ w.heap.size := Nat.le_refl _
  have yr1 := r1.cell
  have zr1 := r1.lt
  have yr2 := r2.cell
  have zr2 := r2.lt
  go_upto_region 2 with fail
  clear yr1 yr2 zr1 zr2
  have r4 := Row.new (W := V2) (cs := #[.int .i64 8, .int .i64 0, .int .i64 0, .int .i64 0, .int .i64 0, .string ⟨#[]⟩]) (t := 23)
  have hn := below_alloc V2 (.cells #[.int .i64 8, .int .i64 0, .int .i64 0, .int .i64 0, .int .i64 0, .string ⟨#[]⟩] 23)
  have nr1_r4 : w.heap.size ≠ V2.heap.size := Nat.ne_of_lt r1.lt
  have nr2_r4 : w.heap.size + 1 ≠ V2.heap.size := Nat.ne_of_lt r2.lt
  have wr4 : w.heap.size ≤ V2.heap.size := hc.size
  replace r1 := r1.on hn
  replace r2 := r2.on hn
  replace hc := chain hc hn
  clear hn
  generalize V2.alloc (.cells #[.int .i64 8, .int .i64 0, .int .i64 0, .int .i64 0, .int .i64 0, .string ⟨#[]⟩] 23) = V3 at r1 r2 r4 hc ⊢
  generalize V2.heap.size = b4 at *
  have yr1 := r1.cell
  have zr1 := r1.lt
  have yr2 := r2.cell
  have zr2 := r2.lt
  have yr4 := r4.cell
  have zr4 := r4.lt
  go_wp2_with fail
  refine Calls.mono (rmut_c _ _) ?_
  rintro e V8 ⟨rfl, hW⟩
  subst hW
  clear yr1 yr2 yr4 zr1 zr2 zr4
  rw [hmu]
  have yr1 := r1.cell
  have zr1 := r1.lt
  have yr2 := r2.cell
  have zr2 := r2.lt
  have yr4 := r4.cell
  have zr4 := r4.lt
  have ur4 := r4.free
  go_upto_region 4 with fail
  clear yr1 yr2 yr4 zr1 zr2 zr4 ur4
  replace r1 := (r1.other nr1_r4.symm 1 (.int .i64 m))
  replace r2 := (r2.other nr2_r4.symm 1 (.int .i64 m))
  replace r4 := (r4.set 1 (.int .i64 m))
  simp only [List.setIfInBounds_toArray, List.set_cons_zero, List.set_cons_succ] at r4
  replace hc := (hc.setCell (p := ⟨b4, 1, none⟩) wr4 (.int .i64 m))
  generalize hW : World.setCell _ _ _ = V4 at *
  clear hW
  have yr1 := r1.cell
  have zr1 := r1.lt
  have yr2 := r2.cell
  have zr2 := r2.lt
  have yr4 := r4.cell
  have zr4 := r4.lt
  have ur4 := r4.free
  go_upto_region 36 with (first | (go_at_call 57; refine (rin_c _ _ _ _).mono ?_; rintro e w9 ⟨rfl, rfl⟩) | (go_at_call 58; refine (rroot_c _ _).mono ?_; rintro e w9 ⟨rfl, rfl⟩) | (go_at_call 59; refine (rfield_c _ _).mono ?_; rintro e w9 ⟨rfl, rfl⟩) | (go_at_call 60; refine (rglobal_c _ _).mono ?_; rintro e w9 ⟨rfl, rfl⟩) | (go_at_call 61; refine (rdesc_c _ _).mono ?_; rintro e w9 ⟨rfl, rfl⟩) | (go_at_call 14; refine (rmut_c _ _).mono ?_; rintro e w9 ⟨rfl, rfl⟩))
  clear yr1 yr2 yr4 zr1 zr2 zr4 ur4
  replace r1 := (((r1.other nr1_r4.symm 2 (.int .i64 a)).other nr1_r4.symm 3 (.int .i64 b)).other nr1_r4.symm 5 (.string tag))
  replace r2 := (((r2.other nr2_r4.symm 2 (.int .i64 a)).other nr2_r4.symm 3 (.int .i64 b)).other nr2_r4.symm 5 (.string tag))
  replace r4 := (((r4.set 2 (.int .i64 a)).set 3 (.int .i64 b)).set 5 (.string tag))
  simp only [List.setIfInBounds_toArray, List.set_cons_zero, List.set_cons_succ] at r4
  replace hc := (((hc.setCell (p := ⟨b4, 2, none⟩) wr4 (.int .i64 a)).setCell (p := ⟨b4, 3, none⟩) wr4 (.int .i64 b)).setCell (p := ⟨b4, 5, none⟩) wr4 (.string tag))
  generalize hW : World.setCell _ _ _ = V5 at *
  clear hW
  cases h0 : inB m 0 3
  · have yr1 := r1.cell
    have zr1 := r1.lt
    have yr2 := r2.cell
    have zr2 := r2.lt
    have yr4 := r4.cell
    have zr4 := r4.lt
    have ur4 := r4.free
    have ur2 := r2.free
    go_wp2_with (first | (go_at_call 57; refine (rin_c _ _ _ _).mono ?_; rintro e w9 ⟨rfl, rfl⟩) | (go_at_call 58; refine (rroot_c _ _).mono ?_; rintro e w9 ⟨rfl, rfl⟩) | (go_at_call 59; refine (rfield_c _ _).mono ?_; rintro e w9 ⟨rfl, rfl⟩) | (go_at_call 60; refine (rglobal_c _ _).mono ?_; rintro e w9 ⟨rfl, rfl⟩) | (go_at_call 61; refine (rdesc_c _ _).mono ?_; rintro e w9 ⟨rfl, rfl⟩) | (go_at_call 14; refine (rmut_c _ _).mono ?_; rintro e w9 ⟨rfl, rfl⟩))
    skip
    refine bodyPost_ret (v := .tuple #[opV 8 m a b 0 tag, .bool false]) (by simp [results, Tryz.results32, go_sem, *]) rfl ⟨by simp [*], ?_⟩
    go_grown
  · cases h1 : inB a 1 3
    · have yr1 := r1.cell
      have zr1 := r1.lt
      have yr2 := r2.cell
      have zr2 := r2.lt
      have yr4 := r4.cell
      have zr4 := r4.lt
      have ur4 := r4.free
      have ur2 := r2.free
      go_wp2_with (first | (go_at_call 57; refine (rin_c _ _ _ _).mono ?_; rintro e w9 ⟨rfl, rfl⟩) | (go_at_call 58; refine (rroot_c _ _).mono ?_; rintro e w9 ⟨rfl, rfl⟩) | (go_at_call 59; refine (rfield_c _ _).mono ?_; rintro e w9 ⟨rfl, rfl⟩) | (go_at_call 60; refine (rglobal_c _ _).mono ?_; rintro e w9 ⟨rfl, rfl⟩) | (go_at_call 61; refine (rdesc_c _ _).mono ?_; rintro e w9 ⟨rfl, rfl⟩) | (go_at_call 14; refine (rmut_c _ _).mono ?_; rintro e w9 ⟨rfl, rfl⟩))
      skip
      refine bodyPost_ret (v := .tuple #[opV 8 m a b 0 tag, .bool false]) (by simp [results, Tryz.results32, go_sem, *]) rfl ⟨by simp [*], ?_⟩
      go_grown
    · cases h2 : inB b 0 1048576
      · have yr1 := r1.cell
        have zr1 := r1.lt
        have yr2 := r2.cell
        have zr2 := r2.lt
        have yr4 := r4.cell
        have zr4 := r4.lt
        have ur4 := r4.free
        have ur2 := r2.free
        go_wp2_with (first | (go_at_call 57; refine (rin_c _ _ _ _).mono ?_; rintro e w9 ⟨rfl, rfl⟩) | (go_at_call 58; refine (rroot_c _ _).mono ?_; rintro e w9 ⟨rfl, rfl⟩) | (go_at_call 59; refine (rfield_c _ _).mono ?_; rintro e w9 ⟨rfl, rfl⟩) | (go_at_call 60; refine (rglobal_c _ _).mono ?_; rintro e w9 ⟨rfl, rfl⟩) | (go_at_call 61; refine (rdesc_c _ _).mono ?_; rintro e w9 ⟨rfl, rfl⟩) | (go_at_call 14; refine (rmut_c _ _).mono ?_; rintro e w9 ⟨rfl, rfl⟩))
        skip
        refine bodyPost_ret (v := .tuple #[opV 8 m a b 0 tag, .bool false]) (by simp [results, Tryz.results32, go_sem, *]) rfl ⟨by simp [*], ?_⟩
        go_grown
      · have yr1 := r1.cell
        have zr1 := r1.lt
        have yr2 := r2.cell
        have zr2 := r2.lt
        have yr4 := r4.cell
        have zr4 := r4.lt
        go_wp2_with (first | (go_at_call 57; refine (rin_c _ _ _ _).mono ?_; rintro e w9 ⟨rfl, rfl⟩) | (go_at_call 58; refine (rroot_c _ _).mono ?_; rintro e w9 ⟨rfl, rfl⟩) | (go_at_call 59; refine (rfield_c _ _).mono ?_; rintro e w9 ⟨rfl, rfl⟩) | (go_at_call 60; refine (rglobal_c _ _).mono ?_; rintro e w9 ⟨rfl, rfl⟩) | (go_at_call 61; refine (rdesc_c _ _).mono ?_; rintro e w9 ⟨rfl, rfl⟩) | (go_at_call 14; refine (rmut_c _ _).mono ?_; rintro e w9 ⟨rfl, rfl⟩))
        refine Calls.mono (CT.out _) ?_
        rintro e V9 ⟨rfl, hn⟩
        clear yr1 yr2 yr4 zr1 zr2 zr4
        replace r1 := r1.on hn
        replace r2 := r2.on hn
        replace r4 := r4.on hn
        replace hc := chain hc hn
        clear hn
        have hte : tagErr tag.data.toList = if tagOk tag.data.toList then 0 else 16 := rfl
        cases ht : tagOk tag.data.toList
        · rw [ht] at hte
          simp only [if_true, Bool.false_eq_true, if_false] at hte
          rw [hte]
          clear hte
          have yr1 := r1.cell
          have zr1 := r1.lt
          have yr2 := r2.cell
          have zr2 := r2.lt
          have yr4 := r4.cell
          have zr4 := r4.lt
          have ur4 := r4.free
          have ur2 := r2.free
          go_wp2_with (first | (go_at_call 57; refine (rin_c _ _ _ _).mono ?_; rintro e w9 ⟨rfl, rfl⟩) | (go_at_call 58; refine (rroot_c _ _).mono ?_; rintro e w9 ⟨rfl, rfl⟩) | (go_at_call 59; refine (rfield_c _ _).mono ?_; rintro e w9 ⟨rfl, rfl⟩) | (go_at_call 60; refine (rglobal_c _ _).mono ?_; rintro e w9 ⟨rfl, rfl⟩) | (go_at_call 61; refine (rdesc_c _ _).mono ?_; rintro e w9 ⟨rfl, rfl⟩) | (go_at_call 14; refine (rmut_c _ _).mono ?_; rintro e w9 ⟨rfl, rfl⟩))
          skip
          refine bodyPost_ret (v := .tuple #[opV 8 m a b 0 tag, .bool false]) (by simp [results, Tryz.results32, go_sem, *]) rfl ⟨by simp [*], ?_⟩
          go_grown
        · rw [ht] at hte
          simp only [if_true, Bool.false_eq_true, if_false] at hte
          rw [hte]
          clear hte
          have yr1 := r1.cell
          have zr1 := r1.lt
          have yr2 := r2.cell
          have zr2 := r2.lt
          have yr4 := r4.cell
          have zr4 := r4.lt
          have ur4 := r4.free
          have ur2 := r2.free
          go_wp2_with (first | (go_at_call 57; refine (rin_c _ _ _ _).mono ?_; rintro e w9 ⟨rfl, rfl⟩) | (go_at_call 58; refine (rroot_c _ _).mono ?_; rintro e w9 ⟨rfl, rfl⟩) | (go_at_call 59; refine (rfield_c _ _).mono ?_; rintro e w9 ⟨rfl, rfl⟩) | (go_at_call 60; refine (rglobal_c _ _).mono ?_; rintro e w9 ⟨rfl, rfl⟩) | (go_at_call 61; refine (rdesc_c _ _).mono ?_; rintro e w9 ⟨rfl, rfl⟩) | (go_at_call 14; refine (rmut_c _ _).mono ?_; rintro e w9 ⟨rfl, rfl⟩))
          skip
          refine bodyPost_ret (v := .tuple #[opV 8 m a b 0 tag, .bool true]) (by simp [results, Tryz.results32, go_sem, *]) rfl ⟨by simp [*], ?_⟩
          go_grown
theorem used_13 (m a b c : Int) (tag : ByteArray) (w : World) : Ret 32 #[opV 13 m a b c tag] w (.tuple #[opV 13 0 a 0 0 ⟨#[]⟩, .bool (inB a 1 10000)]) := by
  have hc := Below.refl w.heap.size w
  have hmu : inB 13 1 12 = false := rfl
  have hm0 : inB 0 0 3 = true := rfl
  go_enter Tryz.func32, Tryz.ntmps32
  go_upto_region 1 with fail
  have r1 := Row.new (W := w) (cs := #[.int .i64 13, .int .i64 m, .int .i64 a, .int .i64 b, .int .i64 c, .string tag]) (t := 23)
  have hn := below_alloc w (.cells #[.int .i64 13, .int .i64 m, .int .i64 a, .int .i64 b, .int .i64 c, .string tag] 23)
  replace hc := chain hc hn
  have hz1 : (w.alloc (.cells #[.int .i64 13, .int .i64 m, .int .i64 a, .int .i64 b, .int .i64 c, .string tag] 23)).heap.size = w.heap.size + 1 := by simp
  clear hn
  generalize w.alloc (.cells #[.int .i64 13, .int .i64 m, .int .i64 a, .int .i64 b, .int .i64 c, .string tag] 23) = V1 at r1 hc hz1 ⊢
  have r2 := Row.new (W := V1) (cs := #[.int .i64 0, .int .i64 0, .int .i64 0, .int .i64 0, .int .i64 0, .string ⟨#[]⟩]) (t := 23)
  have hn := below_alloc V1 (.cells #[.int .i64 0, .int .i64 0, .int .i64 0, .int .i64 0, .int .i64 0, .string ⟨#[]⟩] 23)
  replace r1 := r1.on hn
  replace hc := chain hc hn
  rw [hz1] at r2
  clear hn hz1
  generalize V1.alloc (.cells #[.int .i64 0, .int .i64 0, .int .i64 0, .int .i64 0, .int .i64 0, .string ⟨#[]⟩] 23) = V2 at r1 r2 hc ⊢
  have nr1_r2 : w.heap.size ≠ w.heap.size + 1 := by omega
  have wr2 : w.heap.size ≤ w.heap.size + 1 := by omega
  have wr1 : w.heap.size ≤ w.heap.size := Nat.le_refl _
  have yr1 := r1.cell
  have zr1 := r1.lt
  have yr2 := r2.cell
  have zr2 := r2.lt
  go_upto_region 2 with fail
  clear yr1 yr2 zr1 zr2
  have r4 := Row.new (W := V2) (cs := #[.int .i64 13, .int .i64 0, .int .i64 0, .int .i64 0, .int .i64 0, .string ⟨#[]⟩]) (t := 23)
  have hn := below_alloc V2 (.cells #[.int .i64 13, .int .i64 0, .int .i64 0, .int .i64 0, .int .i64 0, .string ⟨#[]⟩] 23)
  have nr1_r4 : w.heap.size ≠ V2.heap.size := Nat.ne_of_lt r1.lt
  have nr2_r4 : w.heap.size + 1 ≠ V2.heap.size := Nat.ne_of_lt r2.lt
  have wr4 : w.heap.size ≤ V2.heap.size := hc.size
  replace r1 := r1.on hn
  replace r2 := r2.on hn
  replace hc := chain hc hn
  clear hn
  generalize V2.alloc (.cells #[.int .i64 13, .int .i64 0, .int .i64 0, .int .i64 0, .int .i64 0, .string ⟨#[]⟩] 23) = V3 at r1 r2 r4 hc ⊢
  generalize V2.heap.size = b4 at *
  have yr1 := r1.cell
  have zr1 := r1.lt
  have yr2 := r2.cell
  have zr2 := r2.lt
  have yr4 := r4.cell
  have zr4 := r4.lt
  go_wp2_with fail
  refine Calls.mono (rmut_c _ _) ?_
  rintro e V8 ⟨rfl, hW⟩
  subst hW
  clear yr1 yr2 yr4 zr1 zr2 zr4
  rw [hmu]
  have yr1 := r1.cell
  have zr1 := r1.lt
  have yr2 := r2.cell
  have zr2 := r2.lt
  have yr4 := r4.cell
  have zr4 := r4.lt
  go_upto_region 4 with fail
  clear yr1 yr2 yr4 zr1 zr2 zr4
  have yr1 := r1.cell
  have zr1 := r1.lt
  have yr2 := r2.cell
  have zr2 := r2.lt
  have yr4 := r4.cell
  have zr4 := r4.lt
  have ur4 := r4.free
  have ur2 := r2.free
  cases h0 : inB a 1 10000
  · go_wp2_with (first | (go_at_call 57; refine (rin_c _ _ _ _).mono ?_; rintro e w9 ⟨rfl, rfl⟩) | (go_at_call 58; refine (rroot_c _ _).mono ?_; rintro e w9 ⟨rfl, rfl⟩) | (go_at_call 59; refine (rfield_c _ _).mono ?_; rintro e w9 ⟨rfl, rfl⟩) | (go_at_call 60; refine (rglobal_c _ _).mono ?_; rintro e w9 ⟨rfl, rfl⟩) | (go_at_call 61; refine (rdesc_c _ _).mono ?_; rintro e w9 ⟨rfl, rfl⟩) | (go_at_call 14; refine (rmut_c _ _).mono ?_; rintro e w9 ⟨rfl, rfl⟩))
    skip
    refine bodyPost_ret (v := .tuple #[opV 13 0 a 0 0 ⟨#[]⟩, .bool false]) (by simp [results, Tryz.results32, go_sem, *]) rfl ⟨by simp [*], ?_⟩
    go_grown
  · go_wp2_with (first | (go_at_call 57; refine (rin_c _ _ _ _).mono ?_; rintro e w9 ⟨rfl, rfl⟩) | (go_at_call 58; refine (rroot_c _ _).mono ?_; rintro e w9 ⟨rfl, rfl⟩) | (go_at_call 59; refine (rfield_c _ _).mono ?_; rintro e w9 ⟨rfl, rfl⟩) | (go_at_call 60; refine (rglobal_c _ _).mono ?_; rintro e w9 ⟨rfl, rfl⟩) | (go_at_call 61; refine (rdesc_c _ _).mono ?_; rintro e w9 ⟨rfl, rfl⟩) | (go_at_call 14; refine (rmut_c _ _).mono ?_; rintro e w9 ⟨rfl, rfl⟩))
    skip
    refine bodyPost_ret (v := .tuple #[opV 13 0 a 0 0 ⟨#[]⟩, .bool true]) (by simp [results, Tryz.results32, go_sem, *]) rfl ⟨by simp [*], ?_⟩
    go_grown
theorem used_14 (m a b c : Int) (tag : ByteArray) (w : World) : Ret 32 #[opV 14 m a b c tag] w (.tuple #[opV 14 0 0 0 0 ⟨#[]⟩, .bool (true)]) := by
  have hc := Below.refl w.heap.size w
  have hmu : inB 14 1 12 = false := rfl
  have hm0 : inB 0 0 3 = true := rfl
  go_enter Tryz.func32, Tryz.ntmps32
  go_upto_region 1 with fail
  have r1 := Row.new (W := w) (cs := #[.int .i64 14, .int .i64 m, .int .i64 a, .int .i64 b, .int .i64 c, .string tag]) (t := 23)
  have hn := below_alloc w (.cells #[.int .i64 14, .int .i64 m, .int .i64 a, .int .i64 b, .int .i64 c, .string tag] 23)
  replace hc := chain hc hn
  have hz1 : (w.alloc (.cells #[.int .i64 14, .int .i64 m, .int .i64 a, .int .i64 b, .int .i64 c, .string tag] 23)).heap.size = w.heap.size + 1 := by simp
  clear hn
  generalize w.alloc (.cells #[.int .i64 14, .int .i64 m, .int .i64 a, .int .i64 b, .int .i64 c, .string tag] 23) = V1 at r1 hc hz1 ⊢
  have r2 := Row.new (W := V1) (cs := #[.int .i64 0, .int .i64 0, .int .i64 0, .int .i64 0, .int .i64 0, .string ⟨#[]⟩]) (t := 23)
  have hn := below_alloc V1 (.cells #[.int .i64 0, .int .i64 0, .int .i64 0, .int .i64 0, .int .i64 0, .string ⟨#[]⟩] 23)
  replace r1 := r1.on hn
  replace hc := chain hc hn
  rw [hz1] at r2
  clear hn hz1
  generalize V1.alloc (.cells #[.int .i64 0, .int .i64 0, .int .i64 0, .int .i64 0, .int .i64 0, .string ⟨#[]⟩] 23) = V2 at r1 r2 hc ⊢
  have nr1_r2 : w.heap.size ≠ w.heap.size + 1 := by omega
  have wr2 : w.heap.size ≤ w.heap.size + 1 := by omega
  have wr1 : w.heap.size ≤ w.heap.size := Nat.le_refl _
  have yr1 := r1.cell
  have zr1 := r1.lt
  have yr2 := r2.cell
  have zr2 := r2.lt
  go_upto_region 2 with fail
  clear yr1 yr2 zr1 zr2
  have r4 := Row.new (W := V2) (cs := #[.int .i64 14, .int .i64 0, .int .i64 0, .int .i64 0, .int .i64 0, .string ⟨#[]⟩]) (t := 23)
  have hn := below_alloc V2 (.cells #[.int .i64 14, .int .i64 0, .int .i64 0, .int .i64 0, .int .i64 0, .string ⟨#[]⟩] 23)
  have nr1_r4 : w.heap.size ≠ V2.heap.size := Nat.ne_of_lt r1.lt
  have nr2_r4 : w.heap.size + 1 ≠ V2.heap.size := Nat.ne_of_lt r2.lt
  have wr4 : w.heap.size ≤ V2.heap.size := hc.size
  replace r1 := r1.on hn
  replace r2 := r2.on hn
  replace hc := chain hc hn
  clear hn
  generalize V2.alloc (.cells #[.int .i64 14, .int .i64 0, .int .i64 0, .int .i64 0, .int .i64 0, .string ⟨#[]⟩] 23) = V3 at r1 r2 r4 hc ⊢
  generalize V2.heap.size = b4 at *
  have yr1 := r1.cell
  have zr1 := r1.lt
  have yr2 := r2.cell
  have zr2 := r2.lt
  have yr4 := r4.cell
  have zr4 := r4.lt
  go_wp2_with fail
  refine Calls.mono (rmut_c _ _) ?_
  rintro e V8 ⟨rfl, hW⟩
  subst hW
  clear yr1 yr2 yr4 zr1 zr2 zr4
  rw [hmu]
  have yr1 := r1.cell
  have zr1 := r1.lt
  have yr2 := r2.cell
  have zr2 := r2.lt
  have yr4 := r4.cell
  have zr4 := r4.lt
  go_upto_region 4 with fail
  clear yr1 yr2 yr4 zr1 zr2 zr4
  have yr1 := r1.cell
  have zr1 := r1.lt
  have yr2 := r2.cell
  have zr2 := r2.lt
  have yr4 := r4.cell
  have zr4 := r4.lt
  have ur4 := r4.free
  have ur2 := r2.free
  go_wp2_with (first | (go_at_call 57; refine (rin_c _ _ _ _).mono ?_; rintro e w9 ⟨rfl, rfl⟩) | (go_at_call 58; refine (rroot_c _ _).mono ?_; rintro e w9 ⟨rfl, rfl⟩) | (go_at_call 59; refine (rfield_c _ _).mono ?_; rintro e w9 ⟨rfl, rfl⟩) | (go_at_call 60; refine (rglobal_c _ _).mono ?_; rintro e w9 ⟨rfl, rfl⟩) | (go_at_call 61; refine (rdesc_c _ _).mono ?_; rintro e w9 ⟨rfl, rfl⟩) | (go_at_call 14; refine (rmut_c _ _).mono ?_; rintro e w9 ⟨rfl, rfl⟩))
  skip
  refine bodyPost_ret (v := .tuple #[opV 14 0 0 0 0 ⟨#[]⟩, .bool true]) (by simp [results, Tryz.results32, go_sem, *]) rfl ⟨by simp [*], ?_⟩
  go_grown
theorem used_15 (m a b c : Int) (tag : ByteArray) (w : World) : Ret 32 #[opV 15 m a b c tag] w (.tuple #[opV 15 0 a 0 0 ⟨#[]⟩, .bool (inB a 1 1048576)]) := by
  have hc := Below.refl w.heap.size w
  have hmu : inB 15 1 12 = false := rfl
  have hm0 : inB 0 0 3 = true := rfl
  go_enter Tryz.func32, Tryz.ntmps32
  go_upto_region 1 with fail
  have r1 := Row.new (W := w) (cs := #[.int .i64 15, .int .i64 m, .int .i64 a, .int .i64 b, .int .i64 c, .string tag]) (t := 23)
  have hn := below_alloc w (.cells #[.int .i64 15, .int .i64 m, .int .i64 a, .int .i64 b, .int .i64 c, .string tag] 23)
  replace hc := chain hc hn
  have hz1 : (w.alloc (.cells #[.int .i64 15, .int .i64 m, .int .i64 a, .int .i64 b, .int .i64 c, .string tag] 23)).heap.size = w.heap.size + 1 := by simp
  clear hn
  generalize w.alloc (.cells #[.int .i64 15, .int .i64 m, .int .i64 a, .int .i64 b, .int .i64 c, .string tag] 23) = V1 at r1 hc hz1 ⊢
  have r2 := Row.new (W := V1) (cs := #[.int .i64 0, .int .i64 0, .int .i64 0, .int .i64 0, .int .i64 0, .string ⟨#[]⟩]) (t := 23)
  have hn := below_alloc V1 (.cells #[.int .i64 0, .int .i64 0, .int .i64 0, .int .i64 0, .int .i64 0, .string ⟨#[]⟩] 23)
  replace r1 := r1.on hn
  replace hc := chain hc hn
  rw [hz1] at r2
  clear hn hz1
  generalize V1.alloc (.cells #[.int .i64 0, .int .i64 0, .int .i64 0, .int .i64 0, .int .i64 0, .string ⟨#[]⟩] 23) = V2 at r1 r2 hc ⊢
  have nr1_r2 : w.heap.size ≠ w.heap.size + 1 := by omega
  have wr2 : w.heap.size ≤ w.heap.size + 1 := by omega
  have wr1 : w.heap.size ≤ w.heap.size := Nat.le_refl _
  have yr1 := r1.cell
  have zr1 := r1.lt
  have yr2 := r2.cell
  have zr2 := r2.lt
  go_upto_region 2 with fail
  clear yr1 yr2 zr1 zr2
  have r4 := Row.new (W := V2) (cs := #[.int .i64 15, .int .i64 0, .int .i64 0, .int .i64 0, .int .i64 0, .string ⟨#[]⟩]) (t := 23)
  have hn := below_alloc V2 (.cells #[.int .i64 15, .int .i64 0, .int .i64 0, .int .i64 0, .int .i64 0, .string ⟨#[]⟩] 23)
  have nr1_r4 : w.heap.size ≠ V2.heap.size := Nat.ne_of_lt r1.lt
  have nr2_r4 : w.heap.size + 1 ≠ V2.heap.size := Nat.ne_of_lt r2.lt
  have wr4 : w.heap.size ≤ V2.heap.size := hc.size
  replace r1 := r1.on hn
  replace r2 := r2.on hn
  replace hc := chain hc hn
  clear hn
  generalize V2.alloc (.cells #[.int .i64 15, .int .i64 0, .int .i64 0, .int .i64 0, .int .i64 0, .string ⟨#[]⟩] 23) = V3 at r1 r2 r4 hc ⊢
  generalize V2.heap.size = b4 at *
  have yr1 := r1.cell
  have zr1 := r1.lt
  have yr2 := r2.cell
  have zr2 := r2.lt
  have yr4 := r4.cell
  have zr4 := r4.lt
  go_wp2_with fail
  refine Calls.mono (rmut_c _ _) ?_
  rintro e V8 ⟨rfl, hW⟩
  subst hW
  clear yr1 yr2 yr4 zr1 zr2 zr4
  rw [hmu]
  have yr1 := r1.cell
  have zr1 := r1.lt
  have yr2 := r2.cell
  have zr2 := r2.lt
  have yr4 := r4.cell
  have zr4 := r4.lt
  go_upto_region 4 with fail
  clear yr1 yr2 yr4 zr1 zr2 zr4
  have yr1 := r1.cell
  have zr1 := r1.lt
  have yr2 := r2.cell
  have zr2 := r2.lt
  have yr4 := r4.cell
  have zr4 := r4.lt
  have ur4 := r4.free
  have ur2 := r2.free
  cases h0 : inB a 1 1048576
  · go_wp2_with (first | (go_at_call 57; refine (rin_c _ _ _ _).mono ?_; rintro e w9 ⟨rfl, rfl⟩) | (go_at_call 58; refine (rroot_c _ _).mono ?_; rintro e w9 ⟨rfl, rfl⟩) | (go_at_call 59; refine (rfield_c _ _).mono ?_; rintro e w9 ⟨rfl, rfl⟩) | (go_at_call 60; refine (rglobal_c _ _).mono ?_; rintro e w9 ⟨rfl, rfl⟩) | (go_at_call 61; refine (rdesc_c _ _).mono ?_; rintro e w9 ⟨rfl, rfl⟩) | (go_at_call 14; refine (rmut_c _ _).mono ?_; rintro e w9 ⟨rfl, rfl⟩))
    skip
    refine bodyPost_ret (v := .tuple #[opV 15 0 a 0 0 ⟨#[]⟩, .bool false]) (by simp [results, Tryz.results32, go_sem, *]) rfl ⟨by simp [*], ?_⟩
    go_grown
  · go_wp2_with (first | (go_at_call 57; refine (rin_c _ _ _ _).mono ?_; rintro e w9 ⟨rfl, rfl⟩) | (go_at_call 58; refine (rroot_c _ _).mono ?_; rintro e w9 ⟨rfl, rfl⟩) | (go_at_call 59; refine (rfield_c _ _).mono ?_; rintro e w9 ⟨rfl, rfl⟩) | (go_at_call 60; refine (rglobal_c _ _).mono ?_; rintro e w9 ⟨rfl, rfl⟩) | (go_at_call 61; refine (rdesc_c _ _).mono ?_; rintro e w9 ⟨rfl, rfl⟩) | (go_at_call 14; refine (rmut_c _ _).mono ?_; rintro e w9 ⟨rfl, rfl⟩))
    skip
    refine bodyPost_ret (v := .tuple #[opV 15 0 a 0 0 ⟨#[]⟩, .bool true]) (by simp [results, Tryz.results32, go_sem, *]) rfl ⟨by simp [*], ?_⟩
    go_grown
theorem used_16 (m a b c : Int) (tag : ByteArray) (w : World) : Ret 32 #[opV 16 m a b c tag] w (.tuple #[opV 16 0 0 0 0 ⟨#[]⟩, .bool (true)]) := by
  have hc := Below.refl w.heap.size w
  have hmu : inB 16 1 12 = false := rfl
  have hm0 : inB 0 0 3 = true := rfl
  go_enter Tryz.func32, Tryz.ntmps32
  go_upto_region 1 with fail
  have r1 := Row.new (W := w) (cs := #[.int .i64 16, .int .i64 m, .int .i64 a, .int .i64 b, .int .i64 c, .string tag]) (t := 23)
  have hn := below_alloc w (.cells #[.int .i64 16, .int .i64 m, .int .i64 a, .int .i64 b, .int .i64 c, .string tag] 23)
  replace hc := chain hc hn
  have hz1 : (w.alloc (.cells #[.int .i64 16, .int .i64 m, .int .i64 a, .int .i64 b, .int .i64 c, .string tag] 23)).heap.size = w.heap.size + 1 := by simp
  clear hn
  generalize w.alloc (.cells #[.int .i64 16, .int .i64 m, .int .i64 a, .int .i64 b, .int .i64 c, .string tag] 23) = V1 at r1 hc hz1 ⊢
  have r2 := Row.new (W := V1) (cs := #[.int .i64 0, .int .i64 0, .int .i64 0, .int .i64 0, .int .i64 0, .string ⟨#[]⟩]) (t := 23)
  have hn := below_alloc V1 (.cells #[.int .i64 0, .int .i64 0, .int .i64 0, .int .i64 0, .int .i64 0, .string ⟨#[]⟩] 23)
  replace r1 := r1.on hn
  replace hc := chain hc hn
  rw [hz1] at r2
  clear hn hz1
  generalize V1.alloc (.cells #[.int .i64 0, .int .i64 0, .int .i64 0, .int .i64 0, .int .i64 0, .string ⟨#[]⟩] 23) = V2 at r1 r2 hc ⊢
  have nr1_r2 : w.heap.size ≠ w.heap.size + 1 := by omega
  have wr2 : w.heap.size ≤ w.heap.size + 1 := by omega
  have wr1 : w.heap.size ≤ w.heap.size := Nat.le_refl _
  have yr1 := r1.cell
  have zr1 := r1.lt
  have yr2 := r2.cell
  have zr2 := r2.lt
  go_upto_region 2 with fail
  clear yr1 yr2 zr1 zr2
  have r4 := Row.new (W := V2) (cs := #[.int .i64 16, .int .i64 0, .int .i64 0, .int .i64 0, .int .i64 0, .string ⟨#[]⟩]) (t := 23)
  have hn := below_alloc V2 (.cells #[.int .i64 16, .int .i64 0, .int .i64 0, .int .i64 0, .int .i64 0, .string ⟨#[]⟩] 23)
  have nr1_r4 : w.heap.size ≠ V2.heap.size := Nat.ne_of_lt r1.lt
  have nr2_r4 : w.heap.size + 1 ≠ V2.heap.size := Nat.ne_of_lt r2.lt
  have wr4 : w.heap.size ≤ V2.heap.size := hc.size
  replace r1 := r1.on hn
  replace r2 := r2.on hn
  replace hc := chain hc hn
  clear hn
  generalize V2.alloc (.cells #[.int .i64 16, .int .i64 0, .int .i64 0, .int .i64 0, .int .i64 0, .string ⟨#[]⟩] 23) = V3 at r1 r2 r4 hc ⊢
  generalize V2.heap.size = b4 at *
  have yr1 := r1.cell
  have zr1 := r1.lt
  have yr2 := r2.cell
  have zr2 := r2.lt
  have yr4 := r4.cell
  have zr4 := r4.lt
  go_wp2_with fail
  refine Calls.mono (rmut_c _ _) ?_
  rintro e V8 ⟨rfl, hW⟩
  subst hW
  clear yr1 yr2 yr4 zr1 zr2 zr4
  rw [hmu]
  have yr1 := r1.cell
  have zr1 := r1.lt
  have yr2 := r2.cell
  have zr2 := r2.lt
  have yr4 := r4.cell
  have zr4 := r4.lt
  go_upto_region 4 with fail
  clear yr1 yr2 yr4 zr1 zr2 zr4
  have yr1 := r1.cell
  have zr1 := r1.lt
  have yr2 := r2.cell
  have zr2 := r2.lt
  have yr4 := r4.cell
  have zr4 := r4.lt
  have ur4 := r4.free
  have ur2 := r2.free
  go_wp2_with (first | (go_at_call 57; refine (rin_c _ _ _ _).mono ?_; rintro e w9 ⟨rfl, rfl⟩) | (go_at_call 58; refine (rroot_c _ _).mono ?_; rintro e w9 ⟨rfl, rfl⟩) | (go_at_call 59; refine (rfield_c _ _).mono ?_; rintro e w9 ⟨rfl, rfl⟩) | (go_at_call 60; refine (rglobal_c _ _).mono ?_; rintro e w9 ⟨rfl, rfl⟩) | (go_at_call 61; refine (rdesc_c _ _).mono ?_; rintro e w9 ⟨rfl, rfl⟩) | (go_at_call 14; refine (rmut_c _ _).mono ?_; rintro e w9 ⟨rfl, rfl⟩))
  skip
  refine bodyPost_ret (v := .tuple #[opV 16 0 0 0 0 ⟨#[]⟩, .bool true]) (by simp [results, Tryz.results32, go_sem, *]) rfl ⟨by simp [*], ?_⟩
  go_grown
theorem used_17 (m a b c : Int) (tag : ByteArray) (hs : tag.size ≤ 1000000) (w : World) : Ret 32 #[opV 17 m a b c tag] w (.tuple #[opV 17 0 0 0 0 tag, .bool (inB (tag.size : Int) 1 100 && tag.data.toList.all olf)]) := by
  have CT := Lib.hid (fun w => rans_c tag w hs)
  clear hs
  have hc := Below.refl w.heap.size w
  have hmu : inB 17 1 12 = false := rfl
  go_enter Tryz.func32, Tryz.ntmps32
  go_upto_region 1 with fail
  have r1 := Row.new (W := w) (cs := #[.int .i64 17, .int .i64 m, .int .i64 a, .int .i64 b, .int .i64 c, .string tag]) (t := 23)
  have hn := below_alloc w (.cells #[.int .i64 17, .int .i64 m, .int .i64 a, .int .i64 b, .int .i64 c, .string tag] 23)
  replace hc := chain hc hn
  have hz1 : (w.alloc (.cells #[.int .i64 17, .int .i64 m, .int .i64 a, .int .i64 b, .int .i64 c, .string tag] 23)).heap.size = w.heap.size + 1 := by simp
  clear hn
  generalize w.alloc (.cells #[.int .i64 17, .int .i64 m, .int .i64 a, .int .i64 b, .int .i64 c, .string tag] 23) = V1 at r1 hc hz1 ⊢
  have r2 := Row.new (W := V1) (cs := #[.int .i64 0, .int .i64 0, .int .i64 0, .int .i64 0, .int .i64 0, .string ⟨#[]⟩]) (t := 23)
  have hn := below_alloc V1 (.cells #[.int .i64 0, .int .i64 0, .int .i64 0, .int .i64 0, .int .i64 0, .string ⟨#[]⟩] 23)
  replace r1 := r1.on hn
  replace hc := chain hc hn
  rw [hz1] at r2
  clear hn hz1
  generalize V1.alloc (.cells #[.int .i64 0, .int .i64 0, .int .i64 0, .int .i64 0, .int .i64 0, .string ⟨#[]⟩] 23) = V2 at r1 r2 hc ⊢
  have nr1_r2 : w.heap.size ≠ w.heap.size + 1 := by omega
  have wr2 : w.heap.size ≤ w.heap.size + 1 := by omega
  have wr1 : w.heap.size ≤ w.heap.size := Nat.le_refl _
  have yr1 := r1.cell
  have zr1 := r1.lt
  have yr2 := r2.cell
  have zr2 := r2.lt
  go_upto_region 2 with fail
  clear yr1 yr2 zr1 zr2
  have r4 := Row.new (W := V2) (cs := #[.int .i64 17, .int .i64 0, .int .i64 0, .int .i64 0, .int .i64 0, .string ⟨#[]⟩]) (t := 23)
  have hn := below_alloc V2 (.cells #[.int .i64 17, .int .i64 0, .int .i64 0, .int .i64 0, .int .i64 0, .string ⟨#[]⟩] 23)
  have nr1_r4 : w.heap.size ≠ V2.heap.size := Nat.ne_of_lt r1.lt
  have nr2_r4 : w.heap.size + 1 ≠ V2.heap.size := Nat.ne_of_lt r2.lt
  have wr4 : w.heap.size ≤ V2.heap.size := hc.size
  replace r1 := r1.on hn
  replace r2 := r2.on hn
  replace hc := chain hc hn
  clear hn
  generalize V2.alloc (.cells #[.int .i64 17, .int .i64 0, .int .i64 0, .int .i64 0, .int .i64 0, .string ⟨#[]⟩] 23) = V3 at r1 r2 r4 hc ⊢
  generalize V2.heap.size = b4 at *
  have yr1 := r1.cell
  have zr1 := r1.lt
  have yr2 := r2.cell
  have zr2 := r2.lt
  have yr4 := r4.cell
  have zr4 := r4.lt
  go_wp2_with fail
  refine Calls.mono (rmut_c _ _) ?_
  rintro e V8 ⟨rfl, hW⟩
  subst hW
  clear yr1 yr2 yr4 zr1 zr2 zr4
  rw [hmu]
  have yr1 := r1.cell
  have zr1 := r1.lt
  have yr2 := r2.cell
  have zr2 := r2.lt
  have yr4 := r4.cell
  have zr4 := r4.lt
  have ur4 := r4.free
  go_upto_region 54 with (first | (go_at_call 57; refine (rin_c _ _ _ _).mono ?_; rintro e w9 ⟨rfl, rfl⟩) | (go_at_call 58; refine (rroot_c _ _).mono ?_; rintro e w9 ⟨rfl, rfl⟩) | (go_at_call 59; refine (rfield_c _ _).mono ?_; rintro e w9 ⟨rfl, rfl⟩) | (go_at_call 60; refine (rglobal_c _ _).mono ?_; rintro e w9 ⟨rfl, rfl⟩) | (go_at_call 61; refine (rdesc_c _ _).mono ?_; rintro e w9 ⟨rfl, rfl⟩) | (go_at_call 14; refine (rmut_c _ _).mono ?_; rintro e w9 ⟨rfl, rfl⟩))
  clear yr1 yr2 yr4 zr1 zr2 zr4 ur4
  replace r1 := (r1.other nr1_r4.symm 5 (.string tag))
  replace r2 := (r2.other nr2_r4.symm 5 (.string tag))
  replace r4 := (r4.set 5 (.string tag))
  simp only [List.setIfInBounds_toArray, List.set_cons_zero, List.set_cons_succ] at r4
  replace hc := (hc.setCell (p := ⟨b4, 5, none⟩) wr4 (.string tag))
  generalize hW : World.setCell _ _ _ = V4 at *
  clear hW
  have yr1 := r1.cell
  have zr1 := r1.lt
  have yr2 := r2.cell
  have zr2 := r2.lt
  have yr4 := r4.cell
  have zr4 := r4.lt
  go_wp2_with (first | (go_at_call 57; refine (rin_c _ _ _ _).mono ?_; rintro e w9 ⟨rfl, rfl⟩) | (go_at_call 58; refine (rroot_c _ _).mono ?_; rintro e w9 ⟨rfl, rfl⟩) | (go_at_call 59; refine (rfield_c _ _).mono ?_; rintro e w9 ⟨rfl, rfl⟩) | (go_at_call 60; refine (rglobal_c _ _).mono ?_; rintro e w9 ⟨rfl, rfl⟩) | (go_at_call 61; refine (rdesc_c _ _).mono ?_; rintro e w9 ⟨rfl, rfl⟩) | (go_at_call 14; refine (rmut_c _ _).mono ?_; rintro e w9 ⟨rfl, rfl⟩))
  refine Calls.mono (CT.out _) ?_
  rintro e V9 ⟨⟨v9, rfl⟩, hn⟩
  clear yr1 yr2 yr4 zr1 zr2 zr4
  replace r1 := r1.on hn
  replace r2 := r2.on hn
  replace r4 := r4.on hn
  replace hc := chain hc hn
  clear hn
  cases h1 : inB (tag.size : Int) 1 100
  · have yr1 := r1.cell
    have zr1 := r1.lt
    have yr2 := r2.cell
    have zr2 := r2.lt
    have yr4 := r4.cell
    have zr4 := r4.lt
    have ur4 := r4.free
    have ur2 := r2.free
    go_wp2_with (first | (go_at_call 57; refine (rin_c _ _ _ _).mono ?_; rintro e w9 ⟨rfl, rfl⟩) | (go_at_call 58; refine (rroot_c _ _).mono ?_; rintro e w9 ⟨rfl, rfl⟩) | (go_at_call 59; refine (rfield_c _ _).mono ?_; rintro e w9 ⟨rfl, rfl⟩) | (go_at_call 60; refine (rglobal_c _ _).mono ?_; rintro e w9 ⟨rfl, rfl⟩) | (go_at_call 61; refine (rdesc_c _ _).mono ?_; rintro e w9 ⟨rfl, rfl⟩) | (go_at_call 14; refine (rmut_c _ _).mono ?_; rintro e w9 ⟨rfl, rfl⟩))
    skip
    refine bodyPost_ret (v := .tuple #[opV 17 0 0 0 0 tag, .bool false]) (by simp [results, Tryz.results32, go_sem, *]) rfl ⟨by simp [*], ?_⟩
    go_grown
  · cases h2 : tag.data.toList.all olf
    · have hte : ans6 tag = 9 := by unfold ans6; rw [h2]; have h3 := inB_iff.1 h1; rw [if_neg (by omega)]; rfl
      rw [hte]
      clear hte
      have yr1 := r1.cell
      have zr1 := r1.lt
      have yr2 := r2.cell
      have zr2 := r2.lt
      have yr4 := r4.cell
      have zr4 := r4.lt
      have ur4 := r4.free
      have ur2 := r2.free
      go_wp2_with (first | (go_at_call 57; refine (rin_c _ _ _ _).mono ?_; rintro e w9 ⟨rfl, rfl⟩) | (go_at_call 58; refine (rroot_c _ _).mono ?_; rintro e w9 ⟨rfl, rfl⟩) | (go_at_call 59; refine (rfield_c _ _).mono ?_; rintro e w9 ⟨rfl, rfl⟩) | (go_at_call 60; refine (rglobal_c _ _).mono ?_; rintro e w9 ⟨rfl, rfl⟩) | (go_at_call 61; refine (rdesc_c _ _).mono ?_; rintro e w9 ⟨rfl, rfl⟩) | (go_at_call 14; refine (rmut_c _ _).mono ?_; rintro e w9 ⟨rfl, rfl⟩))
      skip
      refine bodyPost_ret (v := .tuple #[opV 17 0 0 0 0 tag, .bool false]) (by simp [results, Tryz.results32, go_sem, *]) rfl ⟨by simp [*], ?_⟩
      go_grown
    · have hte : ans6 tag = 0 := by unfold ans6; rw [h2]; have h3 := inB_iff.1 h1; rw [if_neg (by omega)]; rfl
      rw [hte]
      clear hte
      have yr1 := r1.cell
      have zr1 := r1.lt
      have yr2 := r2.cell
      have zr2 := r2.lt
      have yr4 := r4.cell
      have zr4 := r4.lt
      have ur4 := r4.free
      have ur2 := r2.free
      go_wp2_with (first | (go_at_call 57; refine (rin_c _ _ _ _).mono ?_; rintro e w9 ⟨rfl, rfl⟩) | (go_at_call 58; refine (rroot_c _ _).mono ?_; rintro e w9 ⟨rfl, rfl⟩) | (go_at_call 59; refine (rfield_c _ _).mono ?_; rintro e w9 ⟨rfl, rfl⟩) | (go_at_call 60; refine (rglobal_c _ _).mono ?_; rintro e w9 ⟨rfl, rfl⟩) | (go_at_call 61; refine (rdesc_c _ _).mono ?_; rintro e w9 ⟨rfl, rfl⟩) | (go_at_call 14; refine (rmut_c _ _).mono ?_; rintro e w9 ⟨rfl, rfl⟩))
      skip
      refine bodyPost_ret (v := .tuple #[opV 17 0 0 0 0 tag, .bool true]) (by simp [results, Tryz.results32, go_sem, *]) rfl ⟨by simp [*], ?_⟩
      go_grown
theorem used_out (kd m a b c : Int) (tag : ByteArray) (hk : ¬ (1 ≤ kd ∧ kd ≤ 17)) (w : World) : Ret 32 #[opV kd m a b c tag] w (.tuple #[opV kd 0 0 0 0 ⟨#[]⟩, .bool false]) := by
  have hc := Below.refl w.heap.size w
  have hmu : inB kd 1 12 = false := inB_not (by omega)
  have hk1 : (kd == (1 : Int)) = false := by rw [beq_eq_false_iff_ne]; omega
  have hk2 : (kd == (2 : Int)) = false := by rw [beq_eq_false_iff_ne]; omega
  have hk3 : (kd == (3 : Int)) = false := by rw [beq_eq_false_iff_ne]; omega
  have hk4 : (kd == (4 : Int)) = false := by rw [beq_eq_false_iff_ne]; omega
  have hk5 : (kd == (5 : Int)) = false := by rw [beq_eq_false_iff_ne]; omega
  have hk6 : (kd == (6 : Int)) = false := by rw [beq_eq_false_iff_ne]; omega
  have hk7 : (kd == (7 : Int)) = false := by rw [beq_eq_false_iff_ne]; omega
  have hk8 : (kd == (8 : Int)) = false := by rw [beq_eq_false_iff_ne]; omega
  have hk9 : (kd == (9 : Int)) = false := by rw [beq_eq_false_iff_ne]; omega
  have hk10 : (kd == (10 : Int)) = false := by rw [beq_eq_false_iff_ne]; omega
  have hk11 : (kd == (11 : Int)) = false := by rw [beq_eq_false_iff_ne]; omega
  have hk12 : (kd == (12 : Int)) = false := by rw [beq_eq_false_iff_ne]; omega
  have hk13 : (kd == (13 : Int)) = false := by rw [beq_eq_false_iff_ne]; omega
  have hk14 : (kd == (14 : Int)) = false := by rw [beq_eq_false_iff_ne]; omega
  have hk15 : (kd == (15 : Int)) = false := by rw [beq_eq_false_iff_ne]; omega
  have hk16 : (kd == (16 : Int)) = false := by rw [beq_eq_false_iff_ne]; omega
  have hk17 : (kd == (17 : Int)) = false := by rw [beq_eq_false_iff_ne]; omega
  clear hk
  go_enter Tryz.func32, Tryz.ntmps32
  go_upto_region 1 with fail
  have r1 := Row.new (W := w) (cs := #[.int .i64 kd, .int .i64 m, .int .i64 a, .int .i64 b, .int .i64 c, .string tag]) (t := 23)
  have hn := below_alloc w (.cells #[.int .i64 kd, .int .i64 m, .int .i64 a, .int .i64 b, .int .i64 c, .string tag] 23)
  replace hc := chain hc hn
  have hz1 : (w.alloc (.cells #[.int .i64 kd, .int .i64 m, .int .i64 a, .int .i64 b, .int .i64 c, .string tag] 23)).heap.size = w.heap.size + 1 := by simp
  clear hn
  generalize w.alloc (.cells #[.int .i64 kd, .int .i64 m, .int .i64 a, .int .i64 b, .int .i64 c, .string tag] 23) = V1 at r1 hc hz1 ⊢
  have r2 := Row.new (W := V1) (cs := #[.int .i64 0, .int .i64 0, .int .i64 0, .int .i64 0, .int .i64 0, .string ⟨#[]⟩]) (t := 23)
  have hn := below_alloc V1 (.cells #[.int .i64 0, .int .i64 0, .int .i64 0, .int .i64 0, .int .i64 0, .string ⟨#[]⟩] 23)
  replace r1 := r1.on hn
  replace hc := chain hc hn
  rw [hz1] at r2
  clear hn hz1
  generalize V1.alloc (.cells #[.int .i64 0, .int .i64 0, .int .i64 0, .int .i64 0, .int .i64 0, .string ⟨#[]⟩] 23) = V2 at r1 r2 hc ⊢
  have nr1_r2 : w.heap.size ≠ w.heap.size + 1 := by omega
  have wr2 : w.heap.size ≤ w.heap.size + 1 := by omega
  have wr1 : w.heap.size ≤ w.heap.size := Nat.le_refl _
  have yr1 := r1.cell
  have zr1 := r1.lt
  have yr2 := r2.cell
  have zr2 := r2.lt
  go_upto_region 2 with fail
  clear yr1 yr2 zr1 zr2
  have r4 := Row.new (W := V2) (cs := #[.int .i64 kd, .int .i64 0, .int .i64 0, .int .i64 0, .int .i64 0, .string ⟨#[]⟩]) (t := 23)
  have hn := below_alloc V2 (.cells #[.int .i64 kd, .int .i64 0, .int .i64 0, .int .i64 0, .int .i64 0, .string ⟨#[]⟩] 23)
  have nr1_r4 : w.heap.size ≠ V2.heap.size := Nat.ne_of_lt r1.lt
  have nr2_r4 : w.heap.size + 1 ≠ V2.heap.size := Nat.ne_of_lt r2.lt
  have wr4 : w.heap.size ≤ V2.heap.size := hc.size
  replace r1 := r1.on hn
  replace r2 := r2.on hn
  replace hc := chain hc hn
  clear hn
  generalize V2.alloc (.cells #[.int .i64 kd, .int .i64 0, .int .i64 0, .int .i64 0, .int .i64 0, .string ⟨#[]⟩] 23) = V3 at r1 r2 r4 hc ⊢
  generalize V2.heap.size = b4 at *
  have yr1 := r1.cell
  have zr1 := r1.lt
  have yr2 := r2.cell
  have zr2 := r2.lt
  have yr4 := r4.cell
  have zr4 := r4.lt
  go_wp2_with fail
  refine Calls.mono (rmut_c _ _) ?_
  rintro e V8 ⟨rfl, hW⟩
  subst hW
  clear yr1 yr2 yr4 zr1 zr2 zr4
  rw [hmu]
  have yr1 := r1.cell
  have zr1 := r1.lt
  have yr2 := r2.cell
  have zr2 := r2.lt
  have yr4 := r4.cell
  have zr4 := r4.lt
  have ur4 := r4.free
  have ur2 := r2.free
  go_wp2_with (first | (go_at_call 57; refine (rin_c _ _ _ _).mono ?_; rintro e w9 ⟨rfl, rfl⟩) | (go_at_call 58; refine (rroot_c _ _).mono ?_; rintro e w9 ⟨rfl, rfl⟩) | (go_at_call 59; refine (rfield_c _ _).mono ?_; rintro e w9 ⟨rfl, rfl⟩) | (go_at_call 60; refine (rglobal_c _ _).mono ?_; rintro e w9 ⟨rfl, rfl⟩) | (go_at_call 61; refine (rdesc_c _ _).mono ?_; rintro e w9 ⟨rfl, rfl⟩) | (go_at_call 14; refine (rmut_c _ _).mono ?_; rintro e w9 ⟨rfl, rfl⟩))
  skip
  refine bodyPost_ret (v := .tuple #[opV kd 0 0 0 0 ⟨#[]⟩, .bool false]) (by simp [results, Tryz.results32, go_sem, *]) rfl ⟨by simp [*], ?_⟩
  go_grown
end Go.Proofs.YthkngleegefgbaaGreatDoor
