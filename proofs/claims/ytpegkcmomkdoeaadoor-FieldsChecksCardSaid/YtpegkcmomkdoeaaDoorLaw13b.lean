/- The walk of FieldsChecks. -/
import Derived.Test.YtpegkcmomkdoeaaDoorWorks13
namespace Go.Proofs.YtpegkcmomkdoeaaDoor
open Go.RowKit
set_option linter.unusedVariables false
set_option linter.unusedSimpArgs false

set_option maxHeartbeats 16000000 in
set_option maxRecDepth 20000 in
theorem checks_walk (n s0 g0 s1 g1 s2 g2 s3 g3 : Int) (h : Bool) (m : Int) (k : Bool) (w : World) (hE : EnvP w) (u0 : 0 ≤ g0) (v0 : g0 ≤ 4294967295) (u1 : 0 ≤ g1) (v1 : g1 ≤ 4294967295) (u2 : 0 ≤ g2) (v2 : g2 ≤ 4294967295) (u3 : 0 ≤ g3) (v3 : g3 ≤ 4294967295) :
    Ret 3 #[obV n s0 g0 s1 g1 s2 g2 s3 g3 h, .int .i64 m, .bool k] w (.bool true) := by
  have c1 := fun w => fnew_c m k w
  have c2 := fun w => rnew_c m k w
  have c3 := fun w => fcheck_c n s0 g0 s1 g1 s2 g2 s3 g3 h w
  have c4 := fun w => rcheck_c n s0 g0 s1 g1 s2 g2 s3 g3 h w ⟨u0, v0⟩ ⟨u1, v1⟩ ⟨u2, v2⟩ ⟨u3, v3⟩
  have c5 := fun w => frefs_c n s0 g0 s1 g1 s2 g2 s3 g3 h w
  have c6 := fun w => rrefs_c n s0 g0 s1 g1 s2 g2 s3 g3 h w
  have hrl : (refsOf (s0, g0) (s1, g1) (s2, g2) (s3, g3)).length ≤ 100000 := by
    unfold refsOf full
    rw [List.length_map]
    exact Nat.le_trans (List.length_filter_le _ _) (by simp)
  generalize refsOf (s0, g0) (s1, g1) (s2, g2) (s3, g3) = rl at c5 c6 hrl
  generalize oErr n (s0, g0) (s1, g1) (s2, g2) (s3, g3) h = ce at c3 c4
  generalize oErr m (0, 0) (0, 0) (0, 0) (0, 0) k = ne at c1 c2
  generalize newN m k = nn at c1 c2
  generalize newH m k = nh at c1 c2
  have hq := eq_objR nn (0, 0) (0, 0) (0, 0) (0, 0) nh nn (0, 0) (0, 0) (0, 0) (0, 0) nh
  rw [eqO_same] at hq
  have C1 := Lib.hid c1
  have C2 := Lib.hid c2
  have C3 := Lib.hid c3
  have C4 := Lib.hid c4
  have C5 := Lib.hid c5
  have C6 := Lib.hid c6
  have HRL := Lib.hid hrl
  have HE := Lib.hid hE
  clear c1 c2 c3 c4 c5 c6 hrl u0 v0 u1 v1 u2 v2 u3 v3 hE
  have r0 : Row (w.alloc (.cells (obC n s0 g0 s1 g1 s2 g2 s3 g3 h) 27)) w.heap.size (obC n s0 g0 s1 g1 s2 g2 s3 g3 h) 27 := Row.new
  have R0 := Lib.hid r0
  clear r0
  go_enter Tryd.func3, Tryd.ntmps3
  go_wp2_with fail
  refine Calls.mono (C1.out _) ?_
  rintro e w1 ⟨rfl, hb1⟩
  have r0 := R0.out.on hb1
  have hc : Below w.heap.size w w1 := under hb1
  clear hb1 R0
  go_wp2_with fail
  replace r0 := r0.on (below_alloc w1 (.cells (obC nn 0 0 0 0 0 0 0 0 nh) 27))
  have r1 : Row (w1.alloc (.cells (obC nn 0 0 0 0 0 0 0 0 nh) 27)) w1.heap.size (obC nn 0 0 0 0 0 0 0 0 nh) 27 := Row.new
  replace hc := hc.alloc hc.size (.cells (obC nn 0 0 0 0 0 0 0 0 nh) 27)
  refine Calls.mono (C2.out _) ?_
  rintro e w2 ⟨rfl, hb2⟩
  replace r0 := r0.on hb2
  replace r1 := r1.on hb2
  replace hc := chain hc hb2
  clear hb2
  have y0 := r0.cell
  have z0 := r0.lt
  go_wp2_with fail
  clear y0 z0
  replace r0 := (r0.on (below_alloc w2 (.cells (obC nn 0 0 0 0 0 0 0 0 nh) 31))).on (below_alloc _ (.cells (obC n s0 g0 s1 g1 s2 g2 s3 g3 h) 31))
  replace r1 := (r1.on (below_alloc w2 (.cells (obC nn 0 0 0 0 0 0 0 0 nh) 31))).on (below_alloc _ (.cells (obC n s0 g0 s1 g1 s2 g2 s3 g3 h) 31))
  have r2 := (Row.new (W := w2) (cs := obC nn 0 0 0 0 0 0 0 0 nh) (t := 31)).on (below_alloc _ (.cells (obC n s0 g0 s1 g1 s2 g2 s3 g3 h) 31))
  have r3 := Row.new (W := w2.alloc (.cells (obC nn 0 0 0 0 0 0 0 0 nh) 31)) (cs := obC n s0 g0 s1 g1 s2 g2 s3 g3 h) (t := 31)
  rw [World.size_alloc] at r3
  replace hc := (hc.alloc hc.size (.cells (obC nn 0 0 0 0 0 0 0 0 nh) 31)).alloc (by simp; have := hc.size; omega) (.cells (obC n s0 g0 s1 g1 s2 g2 s3 g3 h) 31)
  generalize (w2.alloc (.cells (obC nn 0 0 0 0 0 0 0 0 nh) 31)).alloc (.cells (obC n s0 g0 s1 g1 s2 g2 s3 g3 h) 31) = W at *
  generalize w2.heap.size + 1 = x3 at *
  generalize w2.heap.size = x2 at *
  generalize w1.heap.size = x1 at *
  refine wp_region_held_drew (S := fun W' => (∀ j, W'.cell? ⟨w.heap.size, j, none⟩ = (obC n s0 g0 s1 g1 s2 g2 s3 g3 h)[j]?) ∧ (∀ j, W'.cell? ⟨x1, j, none⟩ = (obC nn 0 0 0 0 0 0 0 0 nh)[j]?) ∧ (∀ j, W'.cell? ⟨x2, j, none⟩ = (obC nn 0 0 0 0 0 0 0 0 nh)[j]?) ∧ (∀ j, W'.cell? ⟨x3, j, none⟩ = (obC n s0 g0 s1 g1 s2 g2 s3 g3 h)[j]?)) (by kernel_rfl) ⟨r0.cell, r1.cell, r2.cell, r3.cell⟩ (fun hHeld => ?_)
  replace r0 := r0.drew
  replace r1 := r1.drew
  replace r2 := r2.drew
  replace r3 := r3.drew
  replace hc := hc.drew
  generalize W.drew = V at *
  refine' wpAnyH_take (i := 0) (oi := _) (v := _) ?_ (by kernel_rfl) (by kernel_rfl) (by kernel_rfl) ?_ (Or.inl ⟨?_, ?_⟩) (by assumption) ?_
  rotate_left 2
  · (simp only [List.getElem?_toArray, List.getElem?_cons_succ, List.getElem?_cons_zero]; rfl)
  · first | exact fun _ _ _ h => h | exact fun _ _ _ h => nomatch h.1
  · rfl
  · (intro W hSW; (try dsimp only at hSW); go_split_ands; first | (go_simp; done) | (go_simp; with_reducible rfl))
  try simp only [Act.put, List.setIfInBounds_toArray, List.set_cons_zero, List.set_cons_succ]
  refine' wpAnyH_take (i := 1) (oi := _) (v := _) ?_ (by kernel_rfl) (by kernel_rfl) (by kernel_rfl) ?_ (Or.inl ⟨?_, ?_⟩) (by assumption) ?_
  rotate_left 2
  · (simp only [List.getElem?_toArray, List.getElem?_cons_succ, List.getElem?_cons_zero]; rfl)
  · first | exact fun _ _ _ h => h | exact fun _ _ _ h => nomatch h.1
  · rfl
  · (intro W hSW; (try dsimp only at hSW); go_split_ands; first | (go_simp; done) | (go_simp; with_reducible rfl))
  try simp only [Act.put, List.setIfInBounds_toArray, List.set_cons_zero, List.set_cons_succ]
  refine' wpAnyH_take (i := 2) (oi := _) (v := _) ?_ (by kernel_rfl) (by kernel_rfl) (by kernel_rfl) ?_ (Or.inl ⟨?_, ?_⟩) (by assumption) ?_
  rotate_left 2
  · (simp only [List.getElem?_toArray, List.getElem?_cons_succ, List.getElem?_cons_zero]; rfl)
  · first | exact fun _ _ _ h => h | exact fun _ _ _ h => nomatch h.1
  · rfl
  · (intro W hSW; (try dsimp only at hSW); go_split_ands; first | (go_simp; done) | (go_simp; with_reducible rfl))
  try simp only [Act.put, List.setIfInBounds_toArray, List.set_cons_zero, List.set_cons_succ]
  refine' wpAnyH_take (i := 3) (oi := _) (v := _) ?_ (by kernel_rfl) (by kernel_rfl) (by kernel_rfl) ?_ (Or.inl ⟨?_, ?_⟩) (by assumption) ?_
  rotate_left 2
  · (simp only [List.getElem?_toArray, List.getElem?_cons_succ, List.getElem?_cons_zero]; rfl)
  · first | exact fun _ _ _ h => h | exact fun _ _ _ h => nomatch h.1
  · rfl
  · (intro W hSW; (try dsimp only at hSW); go_split_ands; first | (go_simp; done) | (go_simp; with_reducible rfl))
  try simp only [Act.put, List.setIfInBounds_toArray, List.set_cons_zero, List.set_cons_succ]
  refine' wpAnyH_take (i := 4) (oi := _) (v := _) ?_ (by kernel_rfl) (by kernel_rfl) (by kernel_rfl) ?_ (Or.inl ⟨?_, ?_⟩) (by assumption) ?_
  rotate_left 2
  · (simp only [List.getElem?_toArray, List.getElem?_cons_succ, List.getElem?_cons_zero]; rfl)
  · first | exact fun _ _ _ h => h | exact fun _ _ _ h => nomatch h.1
  · rfl
  · (intro W hSW; (try dsimp only at hSW); go_split_ands; first | (go_simp; done) | (go_simp; with_reducible rfl))
  try simp only [Act.put, List.setIfInBounds_toArray, List.set_cons_zero, List.set_cons_succ]
  refine' wpAnyH_take (i := 5) (oi := _) (v := _) ?_ (by kernel_rfl) (by kernel_rfl) (by kernel_rfl) ?_ (Or.inl ⟨?_, ?_⟩) (by assumption) ?_
  rotate_left 2
  · (simp only [List.getElem?_toArray, List.getElem?_cons_succ, List.getElem?_cons_zero]; rfl)
  · first | exact fun _ _ _ h => h | exact fun _ _ _ h => nomatch h.1
  · rfl
  · (intro W hSW; (try dsimp only at hSW); go_split_ands; first | (go_simp; done) | (go_simp; with_reducible rfl))
  try simp only [Act.put, List.setIfInBounds_toArray, List.set_cons_zero, List.set_cons_succ]
  refine' wpAnyH_take (i := 6) (oi := _) (v := _) ?_ (by kernel_rfl) (by kernel_rfl) (by kernel_rfl) ?_ (Or.inl ⟨?_, ?_⟩) (by assumption) ?_
  rotate_left 2
  · (simp only [List.getElem?_toArray, List.getElem?_cons_succ, List.getElem?_cons_zero]; rfl)
  · first | exact fun _ _ _ h => h | exact fun _ _ _ h => nomatch h.1
  · rfl
  · (intro W hSW; (try dsimp only at hSW); go_split_ands; first | (go_simp; done) | (go_simp; with_reducible rfl))
  try simp only [Act.put, List.setIfInBounds_toArray, List.set_cons_zero, List.set_cons_succ]
  refine' wpAnyH_take (i := 7) (oi := _) (v := _) ?_ (by kernel_rfl) (by kernel_rfl) (by kernel_rfl) ?_ (Or.inl ⟨?_, ?_⟩) (by assumption) ?_
  rotate_left 2
  · (simp only [List.getElem?_toArray, List.getElem?_cons_succ, List.getElem?_cons_zero]; rfl)
  · first | exact fun _ _ _ h => h | exact fun _ _ _ h => nomatch h.1
  · rfl
  · (intro W hSW; (try dsimp only at hSW); go_split_ands; first | (go_simp; done) | (go_simp; with_reducible rfl))
  try simp only [Act.put, List.setIfInBounds_toArray, List.set_cons_zero, List.set_cons_succ]
  refine' wpAnyH_take (i := 8) (oi := _) (v := _) ?_ (by kernel_rfl) (by kernel_rfl) (by kernel_rfl) ?_ (Or.inl ⟨?_, ?_⟩) (by assumption) ?_
  rotate_left 2
  · (simp only [List.getElem?_toArray, List.getElem?_cons_succ, List.getElem?_cons_zero]; rfl)
  · first | exact fun _ _ _ h => h | exact fun _ _ _ h => nomatch h.1
  · rfl
  · (intro W hSW; (try dsimp only at hSW); go_split_ands; first | (go_simp; done) | (go_simp; with_reducible rfl))
  try simp only [Act.put, List.setIfInBounds_toArray, List.set_cons_zero, List.set_cons_succ]
  refine' wpAnyH_take (i := 9) (oi := _) (v := _) ?_ (by kernel_rfl) (by kernel_rfl) (by kernel_rfl) ?_ (Or.inl ⟨?_, ?_⟩) (by assumption) ?_
  rotate_left 2
  · (simp only [List.getElem?_toArray, List.getElem?_cons_succ, List.getElem?_cons_zero]; rfl)
  · first | exact fun _ _ _ h => h | exact fun _ _ _ h => nomatch h.1
  · rfl
  · (intro W hSW; (try dsimp only at hSW); go_split_ands; first | (go_simp; done) | (go_simp; with_reducible rfl))
  try simp only [Act.put, List.setIfInBounds_toArray, List.set_cons_zero, List.set_cons_succ]
  refine' wpAnyH_take (i := 11) (oi := _) (v := _) ?_ (by kernel_rfl) (by kernel_rfl) (by kernel_rfl) ?_ (Or.inl ⟨?_, ?_⟩) (by assumption) ?_
  rotate_left 2
  · (simp only [List.getElem?_toArray, List.getElem?_cons_succ, List.getElem?_cons_zero]; rfl)
  · first | exact fun _ _ _ h => h | exact fun _ _ _ h => nomatch h.1
  · rfl
  · (intro W hSW; (try dsimp only at hSW); go_split_ands; first | (go_simp; done) | (go_simp; with_reducible rfl))
  try simp only [Act.put, List.setIfInBounds_toArray, List.set_cons_zero, List.set_cons_succ]
  refine wpAnyH_ready (rs := [10]) (by kernel_rfl) (by simp) ?_
  refine' AllReadyH.cons (o := _) ?_ (fun K hK => ?_) AllReadyH.nil
  rotate_left 1
  · (simp only [List.getElem?_toArray, List.getElem?_cons_succ, List.getElem?_cons_zero]; rfl)
  go_simp
  refine Calls.mono (C3.out _) ?_
  rintro e V1 ⟨rfl, hb⟩
  replace r0 := r0.on hb
  replace r1 := r1.on hb
  replace r2 := r2.on hb
  replace r3 := r3.on hb
  replace hc := chain hc hb
  go_simp
  refine hK.out _ _ ⟨r0.cell, r1.cell, r2.cell, r3.cell⟩ (fun _ => ?_)
  clear hK K hb
  refine wpAnyH_ready (rs := [12]) (by kernel_rfl) (by simp) ?_
  refine' AllReadyH.cons (o := _) ?_ (fun K hK => ?_) AllReadyH.nil
  rotate_left 1
  · (simp only [List.getElem?_toArray, List.getElem?_cons_succ, List.getElem?_cons_zero]; rfl)
  go_simp
  refine Calls.mono (C4.out _) ?_
  rintro e V1 ⟨rfl, hb⟩
  replace r0 := r0.on hb
  replace r1 := r1.on hb
  replace r2 := r2.on hb
  replace r3 := r3.on hb
  replace hc := chain hc hb
  go_simp
  refine hK.out _ _ ⟨r0.cell, r1.cell, r2.cell, r3.cell⟩ (fun _ => ?_)
  clear hK K hb
  refine' wpAnyH_take (i := 13) (oi := _) (v := _) ?_ (by kernel_rfl) (by kernel_rfl) (by kernel_rfl) ?_ (Or.inl ⟨?_, ?_⟩) (by assumption) ?_
  rotate_left 2
  · (simp only [List.getElem?_toArray, List.getElem?_cons_succ, List.getElem?_cons_zero]; rfl)
  · first | exact fun _ _ _ h => h | exact fun _ _ _ h => nomatch h.1
  · rfl
  · (intro W hSW; (try dsimp only at hSW); go_split_ands; first | (go_simp; done) | (go_simp; with_reducible rfl))
  try simp only [Act.put, List.setIfInBounds_toArray, List.set_cons_zero, List.set_cons_succ]
  refine' wpAnyH_take (i := 14) (oi := _) (v := _) ?_ (by kernel_rfl) (by kernel_rfl) (by kernel_rfl) ?_ (Or.inl ⟨?_, ?_⟩) (by assumption) ?_
  rotate_left 2
  · (simp only [List.getElem?_toArray, List.getElem?_cons_succ, List.getElem?_cons_zero]; rfl)
  · first | exact fun _ _ _ h => h | exact fun _ _ _ h => nomatch h.1
  · rfl
  · (intro W hSW; (try dsimp only at hSW); go_split_ands; first | (go_simp; done) | (go_simp; with_reducible rfl))
  try simp only [Act.put, List.setIfInBounds_toArray, List.set_cons_zero, List.set_cons_succ]
  refine' wpAnyH_take (i := 15) (oi := _) (v := _) ?_ (by kernel_rfl) (by kernel_rfl) (by kernel_rfl) ?_ (Or.inl ⟨?_, ?_⟩) (by assumption) ?_
  rotate_left 2
  · (simp only [List.getElem?_toArray, List.getElem?_cons_succ, List.getElem?_cons_zero]; rfl)
  · first | exact fun _ _ _ h => h | exact fun _ _ _ h => nomatch h.1
  · rfl
  · (intro W hSW; (try dsimp only at hSW); go_split_ands; first | (go_simp; done) | (go_simp; with_reducible rfl))
  try simp only [Act.put, List.setIfInBounds_toArray, List.set_cons_zero, List.set_cons_succ]
  refine' wpAnyH_take (i := 16) (oi := _) (v := _) ?_ (by kernel_rfl) (by kernel_rfl) (by kernel_rfl) ?_ (Or.inl ⟨?_, ?_⟩) (by assumption) ?_
  rotate_left 2
  · (simp only [List.getElem?_toArray, List.getElem?_cons_succ, List.getElem?_cons_zero]; rfl)
  · first | exact fun _ _ _ h => h | exact fun _ _ _ h => nomatch h.1
  · rfl
  · (intro W hSW; (try dsimp only at hSW); go_split_ands; first | (go_simp; done) | (go_simp; with_reducible rfl))
  try simp only [Act.put, List.setIfInBounds_toArray, List.set_cons_zero, List.set_cons_succ]
  refine' wpAnyH_take (i := 18) (oi := _) (v := _) ?_ (by kernel_rfl) (by kernel_rfl) (by kernel_rfl) ?_ (Or.inl ⟨?_, ?_⟩) (by assumption) ?_
  rotate_left 2
  · (simp only [List.getElem?_toArray, List.getElem?_cons_succ, List.getElem?_cons_zero]; rfl)
  · first | exact fun _ _ _ h => h | exact fun _ _ _ h => nomatch h.1
  · rfl
  · (intro W hSW; (try dsimp only at hSW); go_split_ands; first | (go_simp; done) | (go_simp; with_reducible rfl))
  try simp only [Act.put, List.setIfInBounds_toArray, List.set_cons_zero, List.set_cons_succ]
  refine wpAnyH_ready (rs := [17]) (by kernel_rfl) (by simp) ?_
  refine' AllReadyH.cons (o := _) ?_ (fun K hK => ?_) AllReadyH.nil
  rotate_left 1
  · (simp only [List.getElem?_toArray, List.getElem?_cons_succ, List.getElem?_cons_zero]; rfl)
  go_simp
  refine Calls.mono (C5.out _) ?_
  rintro e V1 ⟨v, rfl, ho, hb⟩
  replace r0 := r0.on hb
  replace r1 := r1.on hb
  replace r2 := r2.on hb
  replace r3 := r3.on hb
  replace hc := chain hc hb
  go_simp
  refine hK.out _ _ ⟨r0.cell, r1.cell, r2.cell, r3.cell⟩ (fun _ => ?_)
  clear hK K hb
  refine wpAnyH_ready (rs := [19]) (by kernel_rfl) (by simp) ?_
  refine' AllReadyH.cons (o := _) ?_ (fun K hK => ?_) AllReadyH.nil
  rotate_left 1
  · (simp only [List.getElem?_toArray, List.getElem?_cons_succ, List.getElem?_cons_zero]; rfl)
  go_simp
  refine Calls.mono (C6.out _) ?_
  rintro e V1 ⟨u, rfl, hu, hb⟩
  replace r0 := r0.on hb
  replace r1 := r1.on hb
  replace r2 := r2.on hb
  replace r3 := r3.on hb
  replace hc := chain hc hb
  replace ho := ho.on hb
  go_simp
  refine hK.out _ _ ⟨r0.cell, r1.cell, r2.cell, r3.cell⟩ (fun _ => ?_)
  clear hK K hb
  refine wpAnyH_ready (rs := [20]) (by kernel_rfl) (by simp) ?_
  refine' AllReadyH.cons (o := _) ?_ (fun K hK => ?_) AllReadyH.nil
  rotate_left 1
  · (simp only [List.getElem?_toArray, List.getElem?_cons_succ, List.getElem?_cons_zero]; rfl)
  go_simp
  refine Calls.mono (equal_c _ _ rl rl _ (OwnsR.holds ho) (OwnsR.holds hu) HRL.out HRL.out) ?_
  rintro e V1 ⟨rfl, hb⟩
  replace r0 := r0.on hb
  replace r1 := r1.on hb
  replace r2 := r2.on hb
  replace r3 := r3.on hb
  replace hc := chain hc hb
  go_simp
  refine hK.out _ _ ⟨r0.cell, r1.cell, r2.cell, r3.cell⟩ (fun _ => ?_)
  clear hK K hb
  refine' wpAnyH_take (i := 21) (oi := _) (v := _) ?_ (by kernel_rfl) (by kernel_rfl) (by kernel_rfl) ?_ (Or.inl ⟨?_, ?_⟩) (by assumption) ?_
  rotate_left 2
  · (simp only [List.getElem?_toArray, List.getElem?_cons_succ, List.getElem?_cons_zero]; rfl)
  · first | exact fun _ _ _ h => h | exact fun _ _ _ h => nomatch h.1
  · rfl
  · (intro W hSW; (try dsimp only at hSW); go_split_ands; first | (go_simp; done) | (go_simp; with_reducible rfl))
  try simp only [Act.put, List.setIfInBounds_toArray, List.set_cons_zero, List.set_cons_succ]
  refine' wpAnyH_take (i := 22) (oi := _) (v := _) ?_ (by kernel_rfl) (by kernel_rfl) (by kernel_rfl) ?_ (Or.inl ⟨?_, ?_⟩) (by assumption) ?_
  rotate_left 2
  · (simp only [List.getElem?_toArray, List.getElem?_cons_succ, List.getElem?_cons_zero]; rfl)
  · first | exact fun _ _ _ h => h | exact fun _ _ _ h => nomatch h.1
  · rfl
  · (intro W hSW; (try dsimp only at hSW); go_split_ands; first | (go_simp; done) | (go_simp; with_reducible rfl))
  try simp only [Act.put, List.setIfInBounds_toArray, List.set_cons_zero, List.set_cons_succ]
  refine wpAnyH_ready (rs := [23]) (by kernel_rfl) (by simp) ?_
  refine' AllReadyH.cons (o := _) ?_ (fun K hK => ?_) AllReadyH.nil
  rotate_left 1
  · (simp only [List.getElem?_toArray, List.getElem?_cons_succ, List.getElem?_cons_zero]; rfl)
  go_simp
  refine Calls.mono (works _ (HE.out.on hc)) ?_
  rintro e V1 ⟨rfl, hb⟩
  replace r0 := r0.on hb
  replace r1 := r1.on hb
  replace r2 := r2.on hb
  replace r3 := r3.on hb
  replace hc := chain hc hb
  go_simp
  refine hK.out _ _ ⟨r0.cell, r1.cell, r2.cell, r3.cell⟩ (fun _ => ?_)
  clear hK K hb
  refine' wpAnyH_take (i := 24) (oi := _) (v := _) ?_ (by kernel_rfl) (by kernel_rfl) (by kernel_rfl) ?_ (Or.inl ⟨?_, ?_⟩) (by assumption) ?_
  rotate_left 2
  · (simp only [List.getElem?_toArray, List.getElem?_cons_succ, List.getElem?_cons_zero]; rfl)
  · first | exact fun _ _ _ h => h | exact fun _ _ _ h => nomatch h.1
  · rfl
  · (intro W hSW; (try dsimp only at hSW); go_split_ands; first | (go_simp; done) | (go_simp; with_reducible rfl))
  try simp only [Act.put, List.setIfInBounds_toArray, List.set_cons_zero, List.set_cons_succ]
  refine' wpAnyH_take (i := 25) (oi := _) (v := _) ?_ (by kernel_rfl) (by kernel_rfl) (by kernel_rfl) ?_ (Or.inl ⟨?_, ?_⟩) (by assumption) ?_
  rotate_left 2
  · (simp only [List.getElem?_toArray, List.getElem?_cons_succ, List.getElem?_cons_zero]; rfl)
  · first | exact fun _ _ _ h => h | exact fun _ _ _ h => nomatch h.1
  · rfl
  · (intro W hSW; (try dsimp only at hSW); go_split_ands; first | (go_simp; done) | (go_simp; with_reducible rfl))
  try simp only [Act.put, List.setIfInBounds_toArray, List.set_cons_zero, List.set_cons_succ]
  refine wpAnyH_done (by kernel_rfl) ?_ _
  go_wp2_with fail
  go_returns
  exact ⟨rfl, hc⟩
end Go.Proofs.YtpegkcmomkdoeaaDoor
