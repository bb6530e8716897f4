/- FieldsWrong: case 1 of its switch. -/
import Derived.Test.YtpegkcmomkdoeaaDoorLaw13c
import Derived.Test.YtpegkcmomkdoeaaDoorMade13
namespace Go.Proofs.YtpegkcmomkdoeaaDoor
open Go.RowKit
set_option linter.unusedVariables false
set_option linter.unusedSimpArgs false
abbrev lit1C (m : Int) : Array Value := #[.int .i64 (256 + m), .int .u32 1, .int .i64 (-1 - m), .int .u32 1, .int .i64 (1 + m), .int .u32 0]
theorem fpre_le1 (a b c d : Rf) (k : Nat) : (fpre a b c d k).length ≤ 4 := by
  have h := List.IsPrefix.length_le (fpre_pre a b c d k)
  unfold full at h
  exact Nat.le_trans h (Nat.le_trans (List.length_filter_le _ _) (by simp))
set_option maxHeartbeats 16000000 in
set_option maxRecDepth 20000 in
theorem wrong_1 (n a1 a2 a3 a4 b1 b2 b3 b4 what m q t mx N s0 g0 s1 g1 s2 g2 s3 g3 : Int) (h : Bool) (w : World) (hE : EnvP w) (m0 : 0 ≤ m) (m1 : m ≤ 65535) (hw : Int.tmod what 7 = 1) (hq : Int.tmod m 255 = q) (q0 : 0 ≤ q) (q1 : q < 255) (ht : Int.tmod m 4 = t) (t0 : 0 ≤ t) (t1 : t < 4)
    (c1 : ∀ w, Ret 27 #[.int .u8 n, .agg #[.int .u8 a1, .int .u8 a2, .int .u8 a3, .int .u8 a4], .agg #[.int .u32 b1, .int .u32 b2, .int .u32 b3, .int .u32 b4]] w (obV N s0 g0 s1 g1 s2 g2 s3 g3 h))
    (c2 : ∀ w, Ret 19 #[obV (-1 - m) s0 g0 s1 g1 s2 g2 s3 g3 h, .int .i64 0] w (.tuple #[refV 0 0, .int .i64 2]))
    (c3 : ∀ w, Ret 21 #[obV (-1 - m) s0 g0 s1 g1 s2 g2 s3 g3 h, .int .i64 0, refV 1 1] w (.tuple #[ob0, refV 0 0, .int .i64 2]))
    (c4 : ∀ w, Env w → Ret 23 #[obV (-1 - m) s0 g0 s1 g1 s2 g2 s3 g3 h] w (.tuple #[.string ⟨#[]⟩, .int .i64 2]))
    (c5 : ∀ w, Ret 13 #[obV (-1 - m) s0 g0 s1 g1 s2 g2 s3 g3 h] w (.int .i64 2))
    (c6 : ∀ w, Calls Tryd.prog 16 #[obV (-1 - m) s0 g0 s1 g1 s2 g2 s3 g3 h] w fun e w' => ∃ v, e = .returned v ∧ OwnsR w.heap.size w' v (refsOf (s0, g0) (s1, g1) (s2, g2) (s3, g3)) ∧ Below w.heap.size w w')
    (c7 : ∀ s g w, (s = 256 + m ∧ g = 1) ∨ (s = -1 - m ∧ g = 1) ∨ (s = 1 + m ∧ g = 0) → Ret 21 #[obV N s0 g0 s1 g1 s2 g2 s3 g3 h, .int .i64 (-1), refV s g] w (.tuple #[ob0, refV 0 0, .int .i64 2]))
    (c8 : ∀ w, Ret 11 #[.int .i64 (5 + m), .bool false] w (.tuple #[ob0, .int .i64 2]))
    (c9 : ∀ w, Ret 11 #[.int .i64 (-1 - m), .bool false] w (.tuple #[ob0, .int .i64 2]))
    (c10 : ∀ w, Ret 11 #[.int .i64 (1 + t), .bool true] w (.tuple #[ob0, .int .i64 2])) :
    Ret 10 #[.int .u8 n, .agg #[.int .u8 a1, .int .u8 a2, .int .u8 a3, .int .u8 a4], .agg #[.int .u32 b1, .int .u32 b2, .int .u32 b3, .int .u32 b4], .int .u8 what, .int .u16 m] w (.bool true) := by
  have e0 := neq_objF 0 (0, 0) (0, 0) (0, 0) (0, 0) false 0 (0, 0) (0, 0) (0, 0) (0, 0) false
  rw [eqO_same] at e0
  have v1 : IntKind.i64.wrap m = m := IntWalk.i64_in _ ⟨by omega, by omega⟩
  have v2 : IntKind.i64.wrap (5 + m) = 5 + m := IntWalk.i64_in _ ⟨by omega, by omega⟩
  have v3 : IntKind.i64.wrap (-1 - m) = -1 - m := IntWalk.i64_in _ ⟨by omega, by omega⟩
  have v4 : IntKind.i64.wrap (256 + m) = 256 + m := IntWalk.i64_in _ ⟨by omega, by omega⟩
  have v5 : IntKind.i64.wrap (1 + m) = 1 + m := IntWalk.i64_in _ ⟨by omega, by omega⟩
  have v6 : IntKind.i64.wrap q = q := IntWalk.i64_in _ ⟨by omega, by omega⟩
  have v7 : IntKind.i64.wrap (1 + q) = 1 + q := IntWalk.i64_in _ ⟨by omega, by omega⟩
  have v8 : IntKind.i64.wrap t = t := IntWalk.i64_in _ ⟨by omega, by omega⟩
  have v9 : IntKind.i64.wrap (1 + t) = 1 + t := IntWalk.i64_in _ ⟨by omega, by omega⟩
  have C1 := Lib.hid c1
  have C2 := Lib.hid c2
  have C3 := Lib.hid c3
  have C4 := Lib.hid c4
  have C5 := Lib.hid c5
  have C6 := Lib.hid c6
  have C7 := Lib.hid c7
  have C8 := Lib.hid c8
  have C9 := Lib.hid c9
  have C10 := Lib.hid c10
  have HE := Lib.hid hE
  clear c1 c2 c3 c4 c5 c6 c7 c8 c9 c10 hE
  go_enter Tryd.func10, Tryd.ntmps10
  go_wp2_with fail
  refine Calls.mono (C1.out _) ?_
  rintro e w1 ⟨rfl, hb⟩
  have hc : Below w.heap.size w w1 := under hb
  clear hb
  go_upto_region 4 with fail
  have r1 := ((Row.new (W := w1) (cs := obC N s0 g0 s1 g1 s2 g2 s3 g3 h) (t := 27)).on (below_alloc _ (.cells (obC N s0 g0 s1 g1 s2 g2 s3 g3 h) 27))).on (below_alloc _ (.cells (refC 1 1) 24))
  have r2 := (Row.new (W := w1.alloc (.cells (obC N s0 g0 s1 g1 s2 g2 s3 g3 h) 27)) (cs := obC N s0 g0 s1 g1 s2 g2 s3 g3 h) (t := 27)).on (below_alloc _ (.cells (refC 1 1) 24))
  have r3 := Row.new (W := (w1.alloc (.cells (obC N s0 g0 s1 g1 s2 g2 s3 g3 h) 27)).alloc (.cells (obC N s0 g0 s1 g1 s2 g2 s3 g3 h) 27)) (cs := refC 1 1) (t := 24)
  rw [World.size_alloc] at r2 r3
  rw [World.size_alloc] at r3
  have h20 : w.heap.size ≤ w1.heap.size + 1 := by have := hc.size; omega
  replace hc := ((hc.alloc hc.size (.cells (obC N s0 g0 s1 g1 s2 g2 s3 g3 h) 27)).alloc (by simp; have := hc.size; omega) (.cells (obC N s0 g0 s1 g1 s2 g2 s3 g3 h) 27)).alloc (by simp; have := hc.size; omega) (.cells (refC 1 1) 24)
  have h21 : w1.heap.size + 1 ≠ w1.heap.size := by omega
  have h23 : w1.heap.size + 1 ≠ w1.heap.size + 1 + 1 := by omega
  generalize ((w1.alloc (.cells (obC N s0 g0 s1 g1 s2 g2 s3 g3 h) 27)).alloc (.cells (obC N s0 g0 s1 g1 s2 g2 s3 g3 h) 27)).alloc (.cells (refC 1 1) 24) = W at *
  generalize w1.heap.size + 1 + 1 = p3 at *
  generalize w1.heap.size + 1 = p2 at *
  generalize w1.heap.size = p1 at *
  have y2 := r2.cell
  have y2f := r2.free
  have y2l := r2.lt
  have y3 := r3.cell
  have y3l := r3.lt
  go_wp2_with fail
  clear y2 y2f y2l y3 y3l
  replace r1 := (r1.other h21 0 (.int .i64 (-1 - m)))
  replace r3 := (r3.other h23 0 (.int .i64 (-1 - m)))
  replace r2 := (r2.set 0 (.int .i64 (-1 - m)))
  replace hc := (hc.setCell (p := ⟨p2, 0, none⟩) h20 (.int .i64 (-1 - m)))
  simp only [List.setIfInBounds_toArray, List.set_cons_zero, List.set_cons_succ] at r2
  generalize hW : World.setCell _ _ _ = V at *
  clear hW
  clear h20 h21 h23
  refine Calls.mono (C2.out _) ?_
  rintro e u1 ⟨rfl, hb⟩
  replace r1 := r1.on hb
  replace r2 := r2.on hb
  replace r3 := r3.on hb
  replace hc := chain hc hb
  clear hb
  have y2 := r2.cell
  have y2l := r2.lt
  have y3 := r3.cell
  have y3l := r3.lt
  go_wp2_with fail
  clear y2 y2l y3 y3l
  have r4 := Row.new (W := u1) (cs := refC 0 0) (t := 24)
  replace r1 := r1.on (below_alloc u1 (.cells (refC 0 0) 24))
  replace r2 := r2.on (below_alloc u1 (.cells (refC 0 0) 24))
  replace r3 := r3.on (below_alloc u1 (.cells (refC 0 0) 24))
  replace hc := hc.alloc hc.size (.cells (refC 0 0) 24)
  generalize u1.alloc (.cells (refC 0 0) 24) = W2 at *
  generalize u1.heap.size = p4 at *
  refine Calls.mono (C3.out _) ?_
  rintro e u2 ⟨rfl, hb⟩
  replace r1 := r1.on hb
  replace r2 := r2.on hb
  replace r4 := r4.on hb
  replace hc := chain hc hb
  clear hb r3
  have y2 := r2.cell
  have y2l := r2.lt
  go_wp2_with fail
  clear y2 y2l
  have r5 := (Row.new (W := u2) (cs := ob0C) (t := 27)).on (below_alloc _ (.cells (refC 0 0) 24))
  have r6 := Row.new (W := u2.alloc (.cells ob0C 27)) (cs := refC 0 0) (t := 24)
  rw [World.size_alloc] at r6
  replace r1 := (r1.on (below_alloc u2 (.cells ob0C 27))).on (below_alloc _ (.cells (refC 0 0) 24))
  replace r2 := (r2.on (below_alloc u2 (.cells ob0C 27))).on (below_alloc _ (.cells (refC 0 0) 24))
  replace r4 := (r4.on (below_alloc u2 (.cells ob0C 27))).on (below_alloc _ (.cells (refC 0 0) 24))
  replace hc := (hc.alloc hc.size (.cells ob0C 27)).alloc (by simp; have := hc.size; omega) (.cells (refC 0 0) 24)
  generalize (u2.alloc (.cells ob0C 27)).alloc (.cells (refC 0 0) 24) = W3 at *
  generalize u2.heap.size + 1 = p6 at *
  generalize u2.heap.size = p5 at *
  refine Calls.mono (C4.out _ (HE.out.toEnv.on hc)) ?_
  rintro e u3 ⟨rfl, hb⟩
  replace r1 := r1.on hb
  replace r2 := r2.on hb
  replace r4 := r4.on hb
  replace r5 := r5.on hb
  replace r6 := r6.on hb
  replace hc := chain hc hb
  clear hb
  have y2 := r2.cell
  have y2l := r2.lt
  go_wp2_with fail
  clear y2 y2l
  refine Calls.mono (C5.out _) ?_
  rintro e u4 ⟨rfl, hb⟩
  replace r1 := r1.on hb
  replace r2 := r2.on hb
  replace r4 := r4.on hb
  replace r5 := r5.on hb
  replace r6 := r6.on hb
  replace hc := chain hc hb
  clear hb
  have y2 := r2.cell
  have y2l := r2.lt
  have y4 := r4.cell
  have y5 := r5.cell
  have y6 := r6.cell
  have k0 := aIdx0 s0 g0 s1 g1 s2 g2 s3 g3
  have k1 := aIdx1 s0 g0 s1 g1 s2 g2 s3 g3
  have k2 := aIdx2 s0 g0 s1 g1 s2 g2 s3 g3
  have k3 := aIdx3 s0 g0 s1 g1 s2 g2 s3 g3
  go_wp2_with fail
  clear y2 y2l y4 y5 y6 r4 r5 r6 e0
  have hlen : (refsOf (s0, g0) (s1, g1) (s2, g2) (s3, g3)).length = (fpre (s0, g0) (s1, g1) (s2, g2) (s3, g3) 4).length := by
    show ((full (s0, g0) (s1, g1) (s2, g2) (s3, g3)).map _).length = _
    rw [List.length_map]
    rfl
  go_loopw [22, 148] (fun v i wr => ∃ k : Nat, k ≤ 4 ∧ v = .int .i64 ((fpre (s0, g0) (s1, g1) (s2, g2) (s3, g3) k).length : Nat) ∧ i = .int .i64 k ∧ Row wr p1 (obC N s0 g0 s1 g1 s2 g2 s3 g3 h) 27 ∧ Row wr p2 (obC (-1 - m) s0 g0 s1 g1 s2 g2 s3 g3 h) 27 ∧ Below w.heap.size w wr) (fun _ i _ => 4 - (intOf i).toNat)
  case atStart => exact ⟨0, by omega, rfl, rfl, r1, r2, hc⟩
  case round =>
    obtain ⟨k, hk, rfl, rfl, r1, r2, hc⟩ := hrel
    rcases (by omega : k = 0 ∨ k = 1 ∨ k = 2 ∨ k = 3 ∨ k = 4) with rfl | rfl | rfl | rfl | rfl
    · have hq := ref_neq0 s0 g0
      cases hnn : rNone (s0, g0) with
      | true =>
        have hl := congrArg List.length (fpre_none (s0, g0) (s1, g1) (s2, g2) (s3, g3) 0 _ (.inl ⟨rfl, rfl⟩) hnn)
        rw [hnn] at hq
        generalize hcn : (fpre (s0, g0) (s1, g1) (s2, g2) (s3, g3) 0).length = cn at *
        clear hcn
        have HL := Lib.hid hl
        clear hl hlen hnn
        go_wp2_with fail
        exact ⟨⟨0 + 1, by omega, by rw [HL.out], by go_num, r1.on (below_alloc _ _), r2.on (below_alloc _ _), hc.alloc hc.size _⟩, by simp [intOf]⟩
      | false =>
        have hl := congrArg List.length (fpre_some (s0, g0) (s1, g1) (s2, g2) (s3, g3) 0 _ (.inl ⟨rfl, rfl⟩) hnn)
        rw [List.length_append] at hl
        rw [hnn] at hq
        have hm4 := fpre_le1 (s0, g0) (s1, g1) (s2, g2) (s3, g3) 0
        generalize hcn : (fpre (s0, g0) (s1, g1) (s2, g2) (s3, g3) 0).length = cn at *
        clear hcn
        have hcw : IntKind.i64.wrap ((cn : Int) + 1) = (cn : Int) + 1 := IntWalk.i64_in _ ⟨by omega, by omega⟩
        have HL := Lib.hid hl
        clear hl hlen hnn
        go_wp2_with fail
        exact ⟨⟨0 + 1, by omega, by rw [← HL.out]; simp, by go_num, r1.on (below_alloc _ _), r2.on (below_alloc _ _), hc.alloc hc.size _⟩, by simp [intOf]⟩
    · have hq := ref_neq0 s1 g1
      cases hnn : rNone (s1, g1) with
      | true =>
        have hl := congrArg List.length (fpre_none (s0, g0) (s1, g1) (s2, g2) (s3, g3) 1 _ (.inr (.inl ⟨rfl, rfl⟩)) hnn)
        rw [hnn] at hq
        generalize hcn : (fpre (s0, g0) (s1, g1) (s2, g2) (s3, g3) 1).length = cn at *
        clear hcn
        have HL := Lib.hid hl
        clear hl hlen hnn
        go_wp2_with fail
        exact ⟨⟨1 + 1, by omega, by rw [HL.out], by go_num, r1.on (below_alloc _ _), r2.on (below_alloc _ _), hc.alloc hc.size _⟩, by simp [intOf]⟩
      | false =>
        have hl := congrArg List.length (fpre_some (s0, g0) (s1, g1) (s2, g2) (s3, g3) 1 _ (.inr (.inl ⟨rfl, rfl⟩)) hnn)
        rw [List.length_append] at hl
        rw [hnn] at hq
        have hm4 := fpre_le1 (s0, g0) (s1, g1) (s2, g2) (s3, g3) 1
        generalize hcn : (fpre (s0, g0) (s1, g1) (s2, g2) (s3, g3) 1).length = cn at *
        clear hcn
        have hcw : IntKind.i64.wrap ((cn : Int) + 1) = (cn : Int) + 1 := IntWalk.i64_in _ ⟨by omega, by omega⟩
        have HL := Lib.hid hl
        clear hl hlen hnn
        go_wp2_with fail
        exact ⟨⟨1 + 1, by omega, by rw [← HL.out]; simp, by go_num, r1.on (below_alloc _ _), r2.on (below_alloc _ _), hc.alloc hc.size _⟩, by simp [intOf]⟩
    · have hq := ref_neq0 s2 g2
      cases hnn : rNone (s2, g2) with
      | true =>
        have hl := congrArg List.length (fpre_none (s0, g0) (s1, g1) (s2, g2) (s3, g3) 2 _ (.inr (.inr (.inl ⟨rfl, rfl⟩))) hnn)
        rw [hnn] at hq
        generalize hcn : (fpre (s0, g0) (s1, g1) (s2, g2) (s3, g3) 2).length = cn at *
        clear hcn
        have HL := Lib.hid hl
        clear hl hlen hnn
        go_wp2_with fail
        exact ⟨⟨2 + 1, by omega, by rw [HL.out], by go_num, r1.on (below_alloc _ _), r2.on (below_alloc _ _), hc.alloc hc.size _⟩, by simp [intOf]⟩
      | false =>
        have hl := congrArg List.length (fpre_some (s0, g0) (s1, g1) (s2, g2) (s3, g3) 2 _ (.inr (.inr (.inl ⟨rfl, rfl⟩))) hnn)
        rw [List.length_append] at hl
        rw [hnn] at hq
        have hm4 := fpre_le1 (s0, g0) (s1, g1) (s2, g2) (s3, g3) 2
        generalize hcn : (fpre (s0, g0) (s1, g1) (s2, g2) (s3, g3) 2).length = cn at *
        clear hcn
        have hcw : IntKind.i64.wrap ((cn : Int) + 1) = (cn : Int) + 1 := IntWalk.i64_in _ ⟨by omega, by omega⟩
        have HL := Lib.hid hl
        clear hl hlen hnn
        go_wp2_with fail
        exact ⟨⟨2 + 1, by omega, by rw [← HL.out]; simp, by go_num, r1.on (below_alloc _ _), r2.on (below_alloc _ _), hc.alloc hc.size _⟩, by simp [intOf]⟩
    · have hq := ref_neq0 s3 g3
      cases hnn : rNone (s3, g3) with
      | true =>
        have hl := congrArg List.length (fpre_none (s0, g0) (s1, g1) (s2, g2) (s3, g3) 3 _ (.inr (.inr (.inr ⟨rfl, rfl⟩))) hnn)
        rw [hnn] at hq
        generalize hcn : (fpre (s0, g0) (s1, g1) (s2, g2) (s3, g3) 3).length = cn at *
        clear hcn
        have HL := Lib.hid hl
        clear hl hlen hnn
        go_wp2_with fail
        exact ⟨⟨3 + 1, by omega, by rw [HL.out], by go_num, r1.on (below_alloc _ _), r2.on (below_alloc _ _), hc.alloc hc.size _⟩, by simp [intOf]⟩
      | false =>
        have hl := congrArg List.length (fpre_some (s0, g0) (s1, g1) (s2, g2) (s3, g3) 3 _ (.inr (.inr (.inr ⟨rfl, rfl⟩))) hnn)
        rw [List.length_append] at hl
        rw [hnn] at hq
        have hm4 := fpre_le1 (s0, g0) (s1, g1) (s2, g2) (s3, g3) 3
        generalize hcn : (fpre (s0, g0) (s1, g1) (s2, g2) (s3, g3) 3).length = cn at *
        clear hcn
        have hcw : IntKind.i64.wrap ((cn : Int) + 1) = (cn : Int) + 1 := IntWalk.i64_in _ ⟨by omega, by omega⟩
        have HL := Lib.hid hl
        clear hl hlen hnn
        go_wp2_with fail
        exact ⟨⟨3 + 1, by omega, by rw [← HL.out]; simp, by go_num, r1.on (below_alloc _ _), r2.on (below_alloc _ _), hc.alloc hc.size _⟩, by simp [intOf]⟩
    · rw [← hlen]
      generalize refsOf (s0, g0) (s1, g1) (s2, g2) (s3, g3) = RL at *
      clear k0 k1 k2 k3
      go_wp2_with fail
      have r7 := Row.new (W := wr) (cs := lit1C m) (t := 24)
      replace r1 := r1.on (below_alloc wr (.cells (lit1C m) 24))
      replace r2 := r2.on (below_alloc wr (.cells (lit1C m) 24))
      replace hc := hc.alloc hc.size (.cells (lit1C m) 24)
      generalize wr.alloc (.cells (lit1C m) 24) = X0 at *
      generalize wr.heap.size = p7 at *
      refine wp_loop_rounds 4 ?_
      rw [rounds_succ]
      have y1 := r1.cell
      have y7 := r7.cell
      have z1 := r1.lt
      have z7 := r7.lt
      go_wp2_with fail
      clear y1 y7 z1 z7
      replace r1 := r1.on (below_alloc X0 (.cells (refC (256 + m) 1) 24))
      replace r2 := r2.on (below_alloc X0 (.cells (refC (256 + m) 1) 24))
      replace r7 := r7.on (below_alloc X0 (.cells (refC (256 + m) 1) 24))
      replace hc := hc.alloc hc.size (.cells (refC (256 + m) 1) 24)
      generalize X0.alloc (.cells (refC (256 + m) 1) 24) = Y0 at *
      refine Calls.mono (C7.out (256 + m) 1 _ (.inl ⟨rfl, rfl⟩)) ?_
      rintro e Z0 ⟨rfl, hb⟩
      replace r1 := r1.on hb
      replace r2 := r2.on hb
      replace r7 := r7.on hb
      replace hc := chain hc hb
      clear hb
      go_wp2_with fail
      replace r1 := (r1.on (below_alloc Z0 (.cells ob0C 27))).on (below_alloc _ (.cells (refC 0 0) 24))
      replace r2 := (r2.on (below_alloc Z0 (.cells ob0C 27))).on (below_alloc _ (.cells (refC 0 0) 24))
      replace r7 := (r7.on (below_alloc Z0 (.cells ob0C 27))).on (below_alloc _ (.cells (refC 0 0) 24))
      replace hc := (hc.alloc hc.size (.cells ob0C 27)).alloc (by simp; have := hc.size; omega) (.cells (refC 0 0) 24)
      generalize (Z0.alloc (.cells ob0C 27)).alloc (.cells (refC 0 0) 24) = X1 at *
      rw [rounds_succ]
      have y1 := r1.cell
      have y7 := r7.cell
      have z1 := r1.lt
      have z7 := r7.lt
      go_wp2_with fail
      clear y1 y7 z1 z7
      replace r1 := r1.on (below_alloc X1 (.cells (refC (-1 - m) 1) 24))
      replace r2 := r2.on (below_alloc X1 (.cells (refC (-1 - m) 1) 24))
      replace r7 := r7.on (below_alloc X1 (.cells (refC (-1 - m) 1) 24))
      replace hc := hc.alloc hc.size (.cells (refC (-1 - m) 1) 24)
      generalize X1.alloc (.cells (refC (-1 - m) 1) 24) = Y1 at *
      refine Calls.mono (C7.out (-1 - m) 1 _ (.inr (.inl ⟨rfl, rfl⟩))) ?_
      rintro e Z1 ⟨rfl, hb⟩
      replace r1 := r1.on hb
      replace r2 := r2.on hb
      replace r7 := r7.on hb
      replace hc := chain hc hb
      clear hb
      go_wp2_with fail
      replace r1 := (r1.on (below_alloc Z1 (.cells ob0C 27))).on (below_alloc _ (.cells (refC 0 0) 24))
      replace r2 := (r2.on (below_alloc Z1 (.cells ob0C 27))).on (below_alloc _ (.cells (refC 0 0) 24))
      replace r7 := (r7.on (below_alloc Z1 (.cells ob0C 27))).on (below_alloc _ (.cells (refC 0 0) 24))
      replace hc := (hc.alloc hc.size (.cells ob0C 27)).alloc (by simp; have := hc.size; omega) (.cells (refC 0 0) 24)
      generalize (Z1.alloc (.cells ob0C 27)).alloc (.cells (refC 0 0) 24) = X2 at *
      rw [rounds_succ]
      have y1 := r1.cell
      have y7 := r7.cell
      have z1 := r1.lt
      have z7 := r7.lt
      go_wp2_with fail
      clear y1 y7 z1 z7
      replace r1 := r1.on (below_alloc X2 (.cells (refC (1 + m) 0) 24))
      replace r2 := r2.on (below_alloc X2 (.cells (refC (1 + m) 0) 24))
      replace r7 := r7.on (below_alloc X2 (.cells (refC (1 + m) 0) 24))
      replace hc := hc.alloc hc.size (.cells (refC (1 + m) 0) 24)
      generalize X2.alloc (.cells (refC (1 + m) 0) 24) = Y2 at *
      refine Calls.mono (C7.out (1 + m) 0 _ (.inr (.inr ⟨rfl, rfl⟩))) ?_
      rintro e Z2 ⟨rfl, hb⟩
      replace r1 := r1.on hb
      replace r2 := r2.on hb
      replace r7 := r7.on hb
      replace hc := chain hc hb
      clear hb
      go_wp2_with fail
      replace r1 := (r1.on (below_alloc Z2 (.cells ob0C 27))).on (below_alloc _ (.cells (refC 0 0) 24))
      replace r2 := (r2.on (below_alloc Z2 (.cells ob0C 27))).on (below_alloc _ (.cells (refC 0 0) 24))
      replace r7 := (r7.on (below_alloc Z2 (.cells ob0C 27))).on (below_alloc _ (.cells (refC 0 0) 24))
      replace hc := (hc.alloc hc.size (.cells ob0C 27)).alloc (by simp; have := hc.size; omega) (.cells (refC 0 0) 24)
      generalize (Z2.alloc (.cells ob0C 27)).alloc (.cells (refC 0 0) 24) = X3 at *
      rw [rounds_succ]
      go_wp2_with fail
      refine Calls.mono (C8.out _) ?_
      rintro e Z5 ⟨rfl, hb⟩
      replace r2 := r2.on hb
      replace hc := chain hc hb
      clear hb r1 r7
      go_wp2_with fail
      replace r2 := r2.on (below_alloc Z5 (.cells ob0C 27))
      replace hc := hc.alloc hc.size (.cells ob0C 27)
      refine Calls.mono (C9.out _) ?_
      rintro e Z6 ⟨rfl, hb⟩
      replace r2 := r2.on hb
      replace hc := chain hc hb
      clear hb
      go_wp2_with fail
      replace r2 := r2.on (below_alloc Z6 (.cells ob0C 27))
      replace hc := hc.alloc hc.size (.cells ob0C 27)
      refine Calls.mono (C10.out _) ?_
      rintro e Z7 ⟨rfl, hb⟩
      replace r2 := r2.on hb
      replace hc := chain hc hb
      clear hb
      have y2 := r2.cell
      have y2l := r2.lt
      go_wp2_with fail
      replace hc := hc.alloc hc.size (.cells ob0C 27)
      refine Calls.mono (C6.out _) ?_
      rintro e Z8 ⟨v, rfl, ho, hb⟩
      replace hc := chain hc hb
      clear hb
      obtain ⟨pp, cc, rfl⟩ := ho.holds.len
      clear ho
      go_wp2_with fail
      refine Calls.mono (works _ (HE.out.on hc)) ?_
      rintro e Z9 ⟨rfl, hb⟩
      replace hc := chain hc hb
      clear hb
      go_wp2_with fail
      go_returns
      exact ⟨rfl, hc⟩
end Go.Proofs.YtpegkcmomkdoeaaDoor
