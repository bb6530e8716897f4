/- Contracts of the chapter's Ref and Made: a possible object out of numbers. -/
import Derived.Test.YtpegkcmomkdoeaaDoorWorks13
namespace Go.Proofs.YtpegkcmomkdoeaaDoor
open Go.RowKit
set_option linter.unusedVariables false
set_option linter.unusedSimpArgs false

def lrf (s g : Int) : Rf := if g = 0 then (0, 0) else (s, g)
theorem lrf_fit (s g : Int) (s0 : 0 ≤ s) (s1 : s ≤ 255) (g0 : 0 ≤ g) (g1 : g ≤ 4294967295) : rFit (lrf s g) = true := by
  unfold lrf
  split
  · decide
  · unfold rFit
    rw [rOk_iff.2 ⟨s0, by simp; omega, by simp; omega, g1⟩]
    simp
set_option maxHeartbeats 4000000 in
theorem lref_c (s g : Int) (w : World) (s0 : 0 ≤ s) (s1 : s ≤ 255) : Ret 28 #[.int .u8 s, .int .u32 g] w (rfV (lrf s g)) := by
  have hw : IntKind.i64.wrap s = s := IntWalk.i64_in _ ⟨by omega, by omega⟩
  by_cases hg : g = 0
  · subst hg
    go_enter Tryd.func28, Tryd.ntmps28
    go_wp2_with fail
    go_returns
    exact ⟨rfl, by go_grown⟩
  · rw [show lrf s g = (s, g) by unfold lrf; rw [if_neg hg]]
    go_enter Tryd.func28, Tryd.ntmps28
    go_wp2_with fail
    go_returns
    exact ⟨rfl, by go_grown⟩
set_option maxHeartbeats 8000000 in
set_option maxRecDepth 20000 in
theorem made_hi (n m a0 a1 a2 a3 b0 b1 b2 b3 : Int) (w : World) (hm : Int.tmod n 8 = m) (m0 : 4 < m) (m1 : m < 8) : Ret 27 #[.int .u8 n, .agg #[.int .u8 a0, .int .u8 a1, .int .u8 a2, .int .u8 a3], .agg #[.int .u32 b0, .int .u32 b1, .int .u32 b2, .int .u32 b3]] w (obR 0 (0, 0) (0, 0) (0, 0) (0, 0) (decide (m = 7))) := by
  have hw : IntKind.u8.wrap m = m := IntWalk.u8_in _ ⟨by omega, by omega⟩
  go_enter Tryd.func27, Tryd.ntmps27
  go_wp2_with fail
  go_returns
  exact ⟨rfl, by go_grown⟩
set_option maxHeartbeats 8000000 in
set_option maxRecDepth 20000 in
theorem made_0 (n a0 a1 a2 a3 b0 b1 b2 b3 : Int) (w : World) (hm : Int.tmod n 8 = 0) (u0 : 0 ≤ a0) (v0 : a0 ≤ 255) (u1 : 0 ≤ a1) (v1 : a1 ≤ 255) (u2 : 0 ≤ a2) (v2 : a2 ≤ 255) (u3 : 0 ≤ a3) (v3 : a3 ≤ 255) :
    Ret 27 #[.int .u8 n, .agg #[.int .u8 a0, .int .u8 a1, .int .u8 a2, .int .u8 a3], .agg #[.int .u32 b0, .int .u32 b1, .int .u32 b2, .int .u32 b3]] w (obR 0 (0, 0) (0, 0) (0, 0) (0, 0) false) := by
  have hc : Below w.heap.size w ((((w.alloc (.cells #[.int .u8 a0, .int .u8 a1, .int .u8 a2, .int .u8 a3] 56)).alloc (.cells #[.int .u32 b0, .int .u32 b1, .int .u32 b2, .int .u32 b3] 57)).alloc (.cells ob0C 27)).alloc (.cells (obC 0 0 0 0 0 0 0 0 0 false) 27)) := by go_grown
  have rA : Row ((((w.alloc (.cells #[.int .u8 a0, .int .u8 a1, .int .u8 a2, .int .u8 a3] 56)).alloc (.cells #[.int .u32 b0, .int .u32 b1, .int .u32 b2, .int .u32 b3] 57)).alloc (.cells ob0C 27)).alloc (.cells (obC 0 0 0 0 0 0 0 0 0 false) 27)) w.heap.size #[.int .u8 a0, .int .u8 a1, .int .u8 a2, .int .u8 a3] 56 := ((Row.new.on (below_alloc _ _)).on (below_alloc _ _)).on (below_alloc _ _)
  have rB : Row ((((w.alloc (.cells #[.int .u8 a0, .int .u8 a1, .int .u8 a2, .int .u8 a3] 56)).alloc (.cells #[.int .u32 b0, .int .u32 b1, .int .u32 b2, .int .u32 b3] 57)).alloc (.cells ob0C 27)).alloc (.cells (obC 0 0 0 0 0 0 0 0 0 false) 27)) (w.heap.size + 1) #[.int .u32 b0, .int .u32 b1, .int .u32 b2, .int .u32 b3] 57 := by
    have h := ((Row.new (W := w.alloc (.cells #[.int .u8 a0, .int .u8 a1, .int .u8 a2, .int .u8 a3] 56)) (cs := #[.int .u32 b0, .int .u32 b1, .int .u32 b2, .int .u32 b3]) (t := 57)).on (below_alloc _ (.cells ob0C 27))).on (below_alloc _ (.cells (obC 0 0 0 0 0 0 0 0 0 false) 27))
    rw [World.size_alloc] at h
    exact h
  have rC : Row ((((w.alloc (.cells #[.int .u8 a0, .int .u8 a1, .int .u8 a2, .int .u8 a3] 56)).alloc (.cells #[.int .u32 b0, .int .u32 b1, .int .u32 b2, .int .u32 b3] 57)).alloc (.cells ob0C 27)).alloc (.cells (obC 0 0 0 0 0 0 0 0 0 false) 27)) (w.heap.size + 1 + 1) ob0C 27 := by
    have h := (Row.new (W := (w.alloc (.cells #[.int .u8 a0, .int .u8 a1, .int .u8 a2, .int .u8 a3] 56)).alloc (.cells #[.int .u32 b0, .int .u32 b1, .int .u32 b2, .int .u32 b3] 57)) (cs := ob0C) (t := 27)).on (below_alloc _ (.cells (obC 0 0 0 0 0 0 0 0 0 false) 27))
    rw [World.size_alloc, World.size_alloc] at h
    exact h
  have rO : Row ((((w.alloc (.cells #[.int .u8 a0, .int .u8 a1, .int .u8 a2, .int .u8 a3] 56)).alloc (.cells #[.int .u32 b0, .int .u32 b1, .int .u32 b2, .int .u32 b3] 57)).alloc (.cells ob0C 27)).alloc (.cells (obC 0 0 0 0 0 0 0 0 0 false) 27)) (w.heap.size + 1 + 1 + 1) (obC 0 0 0 0 0 0 0 0 0 false) 27 := by
    have h := Row.new (W := ((w.alloc (.cells #[.int .u8 a0, .int .u8 a1, .int .u8 a2, .int .u8 a3] 56)).alloc (.cells #[.int .u32 b0, .int .u32 b1, .int .u32 b2, .int .u32 b3] 57)).alloc (.cells ob0C 27)) (cs := (obC 0 0 0 0 0 0 0 0 0 false)) (t := 27)
    rw [World.size_alloc, World.size_alloc, World.size_alloc] at h
    exact h
  have h1 : w.heap.size + 1 + 1 + 1 ≠ w.heap.size := by omega
  have h2 : w.heap.size + 1 + 1 + 1 ≠ w.heap.size + 1 := by omega
  have h3 : w.heap.size + 1 + 1 + 1 ≠ w.heap.size + 1 + 1 := by omega
  have h4 : w.heap.size ≤ w.heap.size + 1 + 1 + 1 := by omega
  have h5 : w.heap.size ≤ w.heap.size + 1 + 1 := by omega
  have RA := Lib.hid rA
  have RB := Lib.hid rB
  have RC := Lib.hid rC
  have RO := Lib.hid rO
  have HC := Lib.hid hc
  clear rA rB rC rO hc
  go_enter Tryd.func27, Tryd.ntmps27
  go_wp2_with fail
  have rA := RA.out
  have rB := RB.out
  have rC := RC.out
  have rO := RO.out
  have hc := HC.out
  clear RA RB RC RO HC
  generalize ((((w.alloc (.cells #[.int .u8 a0, .int .u8 a1, .int .u8 a2, .int .u8 a3] 56)).alloc (.cells #[.int .u32 b0, .int .u32 b1, .int .u32 b2, .int .u32 b3] 57)).alloc (.cells ob0C 27)).alloc (.cells (obC 0 0 0 0 0 0 0 0 0 false) 27)) = W at *
  generalize w.heap.size + 1 + 1 + 1 = xO at *
  generalize w.heap.size + 1 + 1 = xC at *
  generalize w.heap.size + 1 = xB at *
  generalize hxA : w.heap.size = xA at rA h1 ⊢
  refine wp_loop_rounds 1 ?_
  rw [rounds_succ]
  have y0 := rO.cell
  have y2 := rO.lt
  have y3 := rC.cell
  have y4 := rC.free
  have y5 := rC.lt
  go_wp2_with fail
  clear y0 y2 y3 y4 y5
  replace rC := ((((((((((rC.set 0 (.int .i64 0)).set 1 (.int .i64 0)).set 2 (.int .u32 0)).set 3 (.int .i64 0)).set 4 (.int .u32 0)).set 5 (.int .i64 0)).set 6 (.int .u32 0)).set 7 (.int .i64 0)).set 8 (.int .u32 0)).set 9 (.bool false))
  replace hc := ((((((((((hc.setCell (p := ⟨xC, 0, none⟩) h5 (.int .i64 0)).setCell (p := ⟨xC, 1, none⟩) h5 (.int .i64 0)).setCell (p := ⟨xC, 2, none⟩) h5 (.int .u32 0)).setCell (p := ⟨xC, 3, none⟩) h5 (.int .i64 0)).setCell (p := ⟨xC, 4, none⟩) h5 (.int .u32 0)).setCell (p := ⟨xC, 5, none⟩) h5 (.int .i64 0)).setCell (p := ⟨xC, 6, none⟩) h5 (.int .u32 0)).setCell (p := ⟨xC, 7, none⟩) h5 (.int .i64 0)).setCell (p := ⟨xC, 8, none⟩) h5 (.int .u32 0)).setCell (p := ⟨xC, 9, none⟩) h5 (.bool false))
  simp only [List.setIfInBounds_toArray, List.set_cons_zero, List.set_cons_succ] at rC
  generalize hW : World.setCell _ _ _ = Z at *
  clear hW
  have q0 := rC.cell 0
  have q1 := rC.cell 1
  have q2 := rC.cell 2
  have q3 := rC.cell 3
  have q4 := rC.cell 4
  have q5 := rC.cell 5
  have q6 := rC.cell 6
  have q7 := rC.cell 7
  have q8 := rC.cell 8
  have q9 := rC.cell 9
  simp only [List.getElem?_toArray, List.getElem?_cons_succ, List.getElem?_cons_zero] at q0 q1 q2 q3 q4 q5 q6 q7 q8 q9
  clear rA rB rC rO
  refine bodyPost_ret (v := obR 0 (0, 0) (0, 0) (0, 0) (0, 0) false) (by simp [results, Tryd.results27, go_sem, q0, q1, q2, q3, q4, q5, q6, q7, q8, q9]) rfl ⟨rfl, hc⟩
set_option maxHeartbeats 8000000 in
set_option maxRecDepth 20000 in
theorem made_1 (n a0 a1 a2 a3 b0 b1 b2 b3 : Int) (w : World) (hm : Int.tmod n 8 = 1) (u0 : 0 ≤ a0) (v0 : a0 ≤ 255) (u1 : 0 ≤ a1) (v1 : a1 ≤ 255) (u2 : 0 ≤ a2) (v2 : a2 ≤ 255) (u3 : 0 ≤ a3) (v3 : a3 ≤ 255) :
    Ret 27 #[.int .u8 n, .agg #[.int .u8 a0, .int .u8 a1, .int .u8 a2, .int .u8 a3], .agg #[.int .u32 b0, .int .u32 b1, .int .u32 b2, .int .u32 b3]] w (obR 1 (lrf a0 b0) (0, 0) (0, 0) (0, 0) false) := by
  have hc : Below w.heap.size w ((((w.alloc (.cells #[.int .u8 a0, .int .u8 a1, .int .u8 a2, .int .u8 a3] 56)).alloc (.cells #[.int .u32 b0, .int .u32 b1, .int .u32 b2, .int .u32 b3] 57)).alloc (.cells ob0C 27)).alloc (.cells (obC 1 0 0 0 0 0 0 0 0 false) 27)) := by go_grown
  have rA : Row ((((w.alloc (.cells #[.int .u8 a0, .int .u8 a1, .int .u8 a2, .int .u8 a3] 56)).alloc (.cells #[.int .u32 b0, .int .u32 b1, .int .u32 b2, .int .u32 b3] 57)).alloc (.cells ob0C 27)).alloc (.cells (obC 1 0 0 0 0 0 0 0 0 false) 27)) w.heap.size #[.int .u8 a0, .int .u8 a1, .int .u8 a2, .int .u8 a3] 56 := ((Row.new.on (below_alloc _ _)).on (below_alloc _ _)).on (below_alloc _ _)
  have rB : Row ((((w.alloc (.cells #[.int .u8 a0, .int .u8 a1, .int .u8 a2, .int .u8 a3] 56)).alloc (.cells #[.int .u32 b0, .int .u32 b1, .int .u32 b2, .int .u32 b3] 57)).alloc (.cells ob0C 27)).alloc (.cells (obC 1 0 0 0 0 0 0 0 0 false) 27)) (w.heap.size + 1) #[.int .u32 b0, .int .u32 b1, .int .u32 b2, .int .u32 b3] 57 := by
    have h := ((Row.new (W := w.alloc (.cells #[.int .u8 a0, .int .u8 a1, .int .u8 a2, .int .u8 a3] 56)) (cs := #[.int .u32 b0, .int .u32 b1, .int .u32 b2, .int .u32 b3]) (t := 57)).on (below_alloc _ (.cells ob0C 27))).on (below_alloc _ (.cells (obC 1 0 0 0 0 0 0 0 0 false) 27))
    rw [World.size_alloc] at h
    exact h
  have rC : Row ((((w.alloc (.cells #[.int .u8 a0, .int .u8 a1, .int .u8 a2, .int .u8 a3] 56)).alloc (.cells #[.int .u32 b0, .int .u32 b1, .int .u32 b2, .int .u32 b3] 57)).alloc (.cells ob0C 27)).alloc (.cells (obC 1 0 0 0 0 0 0 0 0 false) 27)) (w.heap.size + 1 + 1) ob0C 27 := by
    have h := (Row.new (W := (w.alloc (.cells #[.int .u8 a0, .int .u8 a1, .int .u8 a2, .int .u8 a3] 56)).alloc (.cells #[.int .u32 b0, .int .u32 b1, .int .u32 b2, .int .u32 b3] 57)) (cs := ob0C) (t := 27)).on (below_alloc _ (.cells (obC 1 0 0 0 0 0 0 0 0 false) 27))
    rw [World.size_alloc, World.size_alloc] at h
    exact h
  have rO : Row ((((w.alloc (.cells #[.int .u8 a0, .int .u8 a1, .int .u8 a2, .int .u8 a3] 56)).alloc (.cells #[.int .u32 b0, .int .u32 b1, .int .u32 b2, .int .u32 b3] 57)).alloc (.cells ob0C 27)).alloc (.cells (obC 1 0 0 0 0 0 0 0 0 false) 27)) (w.heap.size + 1 + 1 + 1) (obC 1 0 0 0 0 0 0 0 0 false) 27 := by
    have h := Row.new (W := ((w.alloc (.cells #[.int .u8 a0, .int .u8 a1, .int .u8 a2, .int .u8 a3] 56)).alloc (.cells #[.int .u32 b0, .int .u32 b1, .int .u32 b2, .int .u32 b3] 57)).alloc (.cells ob0C 27)) (cs := (obC 1 0 0 0 0 0 0 0 0 false)) (t := 27)
    rw [World.size_alloc, World.size_alloc, World.size_alloc] at h
    exact h
  have h1 : w.heap.size + 1 + 1 + 1 ≠ w.heap.size := by omega
  have h2 : w.heap.size + 1 + 1 + 1 ≠ w.heap.size + 1 := by omega
  have h3 : w.heap.size + 1 + 1 + 1 ≠ w.heap.size + 1 + 1 := by omega
  have h4 : w.heap.size ≤ w.heap.size + 1 + 1 + 1 := by omega
  have h5 : w.heap.size ≤ w.heap.size + 1 + 1 := by omega
  have RA := Lib.hid rA
  have RB := Lib.hid rB
  have RC := Lib.hid rC
  have RO := Lib.hid rO
  have HC := Lib.hid hc
  clear rA rB rC rO hc
  go_enter Tryd.func27, Tryd.ntmps27
  go_wp2_with fail
  have rA := RA.out
  have rB := RB.out
  have rC := RC.out
  have rO := RO.out
  have hc := HC.out
  clear RA RB RC RO HC
  generalize ((((w.alloc (.cells #[.int .u8 a0, .int .u8 a1, .int .u8 a2, .int .u8 a3] 56)).alloc (.cells #[.int .u32 b0, .int .u32 b1, .int .u32 b2, .int .u32 b3] 57)).alloc (.cells ob0C 27)).alloc (.cells (obC 1 0 0 0 0 0 0 0 0 false) 27)) = W at *
  generalize w.heap.size + 1 + 1 + 1 = xO at *
  generalize w.heap.size + 1 + 1 = xC at *
  generalize w.heap.size + 1 = xB at *
  generalize hxA : w.heap.size = xA at rA h1 ⊢
  refine wp_loop_rounds 2 ?_
  rw [rounds_succ]
  go_wp2_with fail
  refine wp_region_held_drew (S := fun W' => (∀ j, W'.cell? ⟨xA, j, none⟩ = (#[.int .u8 a0, .int .u8 a1, .int .u8 a2, .int .u8 a3] : Array Value)[j]?) ∧ (∀ j, W'.cell? ⟨xB, j, none⟩ = (#[.int .u32 b0, .int .u32 b1, .int .u32 b2, .int .u32 b3] : Array Value)[j]?)) (by kernel_rfl) ⟨rA.cell, rB.cell⟩ (fun hHeld => ?_)
  replace rA := rA.drew
  replace rB := rB.drew
  replace rC := rC.drew
  replace rO := rO.drew
  replace hc := hc.drew
  generalize W.drew = V0 at *
  refine' wpAnyH_take (i := 0) (oi := _) (v := _) ?_ (by kernel_rfl) (by kernel_rfl) (by kernel_rfl) ?_ (Or.inl ⟨?_, ?_⟩) (by assumption) ?_
  rotate_left 2
  · (simp only [List.getElem?_toArray, List.getElem?_cons_succ, List.getElem?_cons_zero]; rfl)
  · first | exact fun _ _ _ h => h | exact fun _ _ _ h => nomatch h.1
  · rfl
  · (intro W hSW; (try dsimp only at hSW); go_split_ands; first | (go_simp; done) | (go_simp; with_reducible rfl))
  try simp only [Act.put, List.setIfInBounds_toArray, List.set_cons_zero, List.set_cons_succ]
  refine' wpAnyH_take (i := 1) (oi := _) (v := _) ?_ (by kernel_rfl) (by kernel_rfl) (by kernel_rfl) ?_ (Or.inl ⟨?_, ?_⟩) (by assumption) ?_
  rotate_left 2
  · (simp only [List.getElem?_toArray, List.getElem?_cons_succ, List.getElem?_cons_zero]; rfl)
  · first | exact fun _ _ _ h => h | exact fun _ _ _ h => nomatch h.1
  · rfl
  · (intro W hSW; (try dsimp only at hSW); go_split_ands; first | (go_simp; done) | (go_simp; with_reducible rfl))
  try simp only [Act.put, List.setIfInBounds_toArray, List.set_cons_zero, List.set_cons_succ]
  refine' wpAnyH_take (i := 2) (oi := _) (v := _) ?_ (by kernel_rfl) (by kernel_rfl) (by kernel_rfl) ?_ (Or.inl ⟨?_, ?_⟩) (by assumption) ?_
  rotate_left 2
  · (simp only [List.getElem?_toArray, List.getElem?_cons_succ, List.getElem?_cons_zero]; rfl)
  · first | exact fun _ _ _ h => h | exact fun _ _ _ h => nomatch h.1
  · rfl
  · (intro W hSW; (try dsimp only at hSW); go_split_ands; first | (go_simp; done) | (go_simp; with_reducible rfl))
  try simp only [Act.put, List.setIfInBounds_toArray, List.set_cons_zero, List.set_cons_succ]
  refine' wpAnyH_take (i := 3) (oi := _) (v := _) ?_ (by kernel_rfl) (by kernel_rfl) (by kernel_rfl) ?_ (Or.inl ⟨?_, ?_⟩) (by assumption) ?_
  rotate_left 2
  · (simp only [List.getElem?_toArray, List.getElem?_cons_succ, List.getElem?_cons_zero]; rfl)
  · first | exact fun _ _ _ h => h | exact fun _ _ _ h => nomatch h.1
  · rfl
  · (intro W hSW; (try dsimp only at hSW); go_split_ands; first | (go_simp; done) | (go_simp; with_reducible rfl))
  try simp only [Act.put, List.setIfInBounds_toArray, List.set_cons_zero, List.set_cons_succ]
  refine' wpAnyH_take (i := 4) (oi := _) (v := _) ?_ (by kernel_rfl) (by kernel_rfl) (by kernel_rfl) ?_ (Or.inl ⟨?_, ?_⟩) (by assumption) ?_
  rotate_left 2
  · (simp only [List.getElem?_toArray, List.getElem?_cons_succ, List.getElem?_cons_zero]; rfl)
  · first | exact fun _ _ _ h => h | exact fun _ _ _ h => nomatch h.1
  · rfl
  · (intro W hSW; (try dsimp only at hSW); go_split_ands; first | (go_simp; done) | (go_simp; with_reducible rfl))
  try simp only [Act.put, List.setIfInBounds_toArray, List.set_cons_zero, List.set_cons_succ]
  refine' wpAnyH_take (i := 5) (oi := _) (v := _) ?_ (by kernel_rfl) (by kernel_rfl) (by kernel_rfl) ?_ (Or.inl ⟨?_, ?_⟩) (by assumption) ?_
  rotate_left 2
  · (simp only [List.getElem?_toArray, List.getElem?_cons_succ, List.getElem?_cons_zero]; rfl)
  · first | exact fun _ _ _ h => h | exact fun _ _ _ h => nomatch h.1
  · rfl
  · (intro W hSW; (try dsimp only at hSW); go_split_ands; first | (go_simp; done) | (go_simp; with_reducible rfl))
  try simp only [Act.put, List.setIfInBounds_toArray, List.set_cons_zero, List.set_cons_succ]
  refine' wpAnyH_take (i := 6) (oi := _) (v := _) ?_ (by kernel_rfl) (by kernel_rfl) (by kernel_rfl) ?_ (Or.inl ⟨?_, ?_⟩) (by assumption) ?_
  rotate_left 2
  · (simp only [List.getElem?_toArray, List.getElem?_cons_succ, List.getElem?_cons_zero]; rfl)
  · first | exact fun _ _ _ h => h | exact fun _ _ _ h => nomatch h.1
  · rfl
  · (intro W hSW; (try dsimp only at hSW); go_split_ands; first | (go_simp; done) | (go_simp; with_reducible rfl))
  try simp only [Act.put, List.setIfInBounds_toArray, List.set_cons_zero, List.set_cons_succ]
  refine' wpAnyH_take (i := 8) (oi := _) (v := _) ?_ (by kernel_rfl) (by kernel_rfl) (by kernel_rfl) ?_ (Or.inl ⟨?_, ?_⟩) (by assumption) ?_
  rotate_left 2
  · (simp only [List.getElem?_toArray, List.getElem?_cons_succ, List.getElem?_cons_zero]; rfl)
  · first | exact fun _ _ _ h => h | exact fun _ _ _ h => nomatch h.1
  · rfl
  · (intro W hSW; (try dsimp only at hSW); go_split_ands; first | (go_simp; done) | (go_simp; with_reducible rfl))
  try simp only [Act.put, List.setIfInBounds_toArray, List.set_cons_zero, List.set_cons_succ]
  refine wpAnyH_ready (rs := [7]) (by kernel_rfl) (by simp) ?_
  refine' AllReadyH.cons (o := _) ?_ (fun K hK => ?_) AllReadyH.nil
  rotate_left 1
  · (simp only [List.getElem?_toArray, List.getElem?_cons_succ, List.getElem?_cons_zero]; rfl)
  go_simp
  refine Calls.mono (lref_c a0 b0 _ u0 v0) ?_
  rintro e V0' ⟨rfl, hb⟩
  replace rA := rA.on hb
  replace rB := rB.on hb
  replace rC := rC.on hb
  replace rO := rO.on hb
  replace hc := chain hc hb
  go_simp
  refine hK.out _ _ ⟨rA.cell, rB.cell⟩ (fun _ => ?_)
  clear hK K hb
  refine' wpAnyH_take (i := 9) (oi := _) (v := _) ?_ (by kernel_rfl) (by kernel_rfl) (by kernel_rfl) ?_ (Or.inl ⟨?_, ?_⟩) (by assumption) ?_
  rotate_left 2
  · (simp only [List.getElem?_toArray, List.getElem?_cons_succ, List.getElem?_cons_zero]; rfl)
  · first | exact fun _ _ _ h => h | exact fun _ _ _ h => nomatch h.1
  · rfl
  · (intro W hSW; (try dsimp only at hSW); go_split_ands; first | (go_simp; done) | (go_simp; with_reducible rfl))
  try simp only [Act.put, List.setIfInBounds_toArray, List.set_cons_zero, List.set_cons_succ]
  have y0 := rO.cell
  have y1 := rO.free
  have y2 := rO.lt
  refine wpAnyH_ready (rs := [10]) (by kernel_rfl) (by simp) ?_
  refine' AllReadyH.cons (o := _) ?_ (fun K hK => ?_) AllReadyH.nil
  rotate_left 1
  · (simp only [List.getElem?_toArray, List.getElem?_cons_succ, List.getElem?_cons_zero]; rfl)
  go_simp
  clear y0 y1 y2
  replace rA := (rA.other h1 1 (.int .i64 (lrf a0 b0).1)).other h1 2 (.int .u32 (lrf a0 b0).2)
  replace rB := (rB.other h2 1 (.int .i64 (lrf a0 b0).1)).other h2 2 (.int .u32 (lrf a0 b0).2)
  replace rC := (rC.other h3 1 (.int .i64 (lrf a0 b0).1)).other h3 2 (.int .u32 (lrf a0 b0).2)
  replace rO := (rO.set 1 (.int .i64 (lrf a0 b0).1)).set 2 (.int .u32 (lrf a0 b0).2)
  replace hc := (hc.setCell (p := ⟨xO, 1, none⟩) h4 (.int .i64 (lrf a0 b0).1)).setCell (p := ⟨xO, 2, none⟩) h4 (.int .u32 (lrf a0 b0).2)
  simp only [List.setIfInBounds_toArray, List.set_cons_zero, List.set_cons_succ] at rO
  generalize hW : World.setCell _ _ _ = U0 at *
  clear hW
  refine hK.out _ _ ⟨rA.cell, rB.cell⟩ (fun _ => ?_)
  clear hK K
  refine wpAnyH_done (by kernel_rfl) ?_ _
  go_wp2_with fail
  rw [rounds_succ]
  have y0 := rO.cell
  have y2 := rO.lt
  have y3 := rC.cell
  have y4 := rC.free
  have y5 := rC.lt
  go_wp2_with fail
  clear y0 y2 y3 y4 y5
  replace rC := ((((((((((rC.set 0 (.int .i64 1)).set 1 (.int .i64 (lrf a0 b0).1)).set 2 (.int .u32 (lrf a0 b0).2)).set 3 (.int .i64 0)).set 4 (.int .u32 0)).set 5 (.int .i64 0)).set 6 (.int .u32 0)).set 7 (.int .i64 0)).set 8 (.int .u32 0)).set 9 (.bool false))
  replace hc := ((((((((((hc.setCell (p := ⟨xC, 0, none⟩) h5 (.int .i64 1)).setCell (p := ⟨xC, 1, none⟩) h5 (.int .i64 (lrf a0 b0).1)).setCell (p := ⟨xC, 2, none⟩) h5 (.int .u32 (lrf a0 b0).2)).setCell (p := ⟨xC, 3, none⟩) h5 (.int .i64 0)).setCell (p := ⟨xC, 4, none⟩) h5 (.int .u32 0)).setCell (p := ⟨xC, 5, none⟩) h5 (.int .i64 0)).setCell (p := ⟨xC, 6, none⟩) h5 (.int .u32 0)).setCell (p := ⟨xC, 7, none⟩) h5 (.int .i64 0)).setCell (p := ⟨xC, 8, none⟩) h5 (.int .u32 0)).setCell (p := ⟨xC, 9, none⟩) h5 (.bool false))
  simp only [List.setIfInBounds_toArray, List.set_cons_zero, List.set_cons_succ] at rC
  generalize hW : World.setCell _ _ _ = Z at *
  clear hW
  have q0 := rC.cell 0
  have q1 := rC.cell 1
  have q2 := rC.cell 2
  have q3 := rC.cell 3
  have q4 := rC.cell 4
  have q5 := rC.cell 5
  have q6 := rC.cell 6
  have q7 := rC.cell 7
  have q8 := rC.cell 8
  have q9 := rC.cell 9
  simp only [List.getElem?_toArray, List.getElem?_cons_succ, List.getElem?_cons_zero] at q0 q1 q2 q3 q4 q5 q6 q7 q8 q9
  clear rA rB rC rO
  refine bodyPost_ret (v := obR 1 (lrf a0 b0) (0, 0) (0, 0) (0, 0) false) (by simp [results, Tryd.results27, go_sem, q0, q1, q2, q3, q4, q5, q6, q7, q8, q9]) rfl ⟨rfl, hc⟩
set_option maxHeartbeats 8000000 in
set_option maxRecDepth 20000 in
theorem made_2 (n a0 a1 a2 a3 b0 b1 b2 b3 : Int) (w : World) (hm : Int.tmod n 8 = 2) (u0 : 0 ≤ a0) (v0 : a0 ≤ 255) (u1 : 0 ≤ a1) (v1 : a1 ≤ 255) (u2 : 0 ≤ a2) (v2 : a2 ≤ 255) (u3 : 0 ≤ a3) (v3 : a3 ≤ 255) :
    Ret 27 #[.int .u8 n, .agg #[.int .u8 a0, .int .u8 a1, .int .u8 a2, .int .u8 a3], .agg #[.int .u32 b0, .int .u32 b1, .int .u32 b2, .int .u32 b3]] w (obR 2 (lrf a0 b0) (lrf a1 b1) (0, 0) (0, 0) false) := by
  have hc : Below w.heap.size w ((((w.alloc (.cells #[.int .u8 a0, .int .u8 a1, .int .u8 a2, .int .u8 a3] 56)).alloc (.cells #[.int .u32 b0, .int .u32 b1, .int .u32 b2, .int .u32 b3] 57)).alloc (.cells ob0C 27)).alloc (.cells (obC 2 0 0 0 0 0 0 0 0 false) 27)) := by go_grown
  have rA : Row ((((w.alloc (.cells #[.int .u8 a0, .int .u8 a1, .int .u8 a2, .int .u8 a3] 56)).alloc (.cells #[.int .u32 b0, .int .u32 b1, .int .u32 b2, .int .u32 b3] 57)).alloc (.cells ob0C 27)).alloc (.cells (obC 2 0 0 0 0 0 0 0 0 false) 27)) w.heap.size #[.int .u8 a0, .int .u8 a1, .int .u8 a2, .int .u8 a3] 56 := ((Row.new.on (below_alloc _ _)).on (below_alloc _ _)).on (below_alloc _ _)
  have rB : Row ((((w.alloc (.cells #[.int .u8 a0, .int .u8 a1, .int .u8 a2, .int .u8 a3] 56)).alloc (.cells #[.int .u32 b0, .int .u32 b1, .int .u32 b2, .int .u32 b3] 57)).alloc (.cells ob0C 27)).alloc (.cells (obC 2 0 0 0 0 0 0 0 0 false) 27)) (w.heap.size + 1) #[.int .u32 b0, .int .u32 b1, .int .u32 b2, .int .u32 b3] 57 := by
    have h := ((Row.new (W := w.alloc (.cells #[.int .u8 a0, .int .u8 a1, .int .u8 a2, .int .u8 a3] 56)) (cs := #[.int .u32 b0, .int .u32 b1, .int .u32 b2, .int .u32 b3]) (t := 57)).on (below_alloc _ (.cells ob0C 27))).on (below_alloc _ (.cells (obC 2 0 0 0 0 0 0 0 0 false) 27))
    rw [World.size_alloc] at h
    exact h
  have rC : Row ((((w.alloc (.cells #[.int .u8 a0, .int .u8 a1, .int .u8 a2, .int .u8 a3] 56)).alloc (.cells #[.int .u32 b0, .int .u32 b1, .int .u32 b2, .int .u32 b3] 57)).alloc (.cells ob0C 27)).alloc (.cells (obC 2 0 0 0 0 0 0 0 0 false) 27)) (w.heap.size + 1 + 1) ob0C 27 := by
    have h := (Row.new (W := (w.alloc (.cells #[.int .u8 a0, .int .u8 a1, .int .u8 a2, .int .u8 a3] 56)).alloc (.cells #[.int .u32 b0, .int .u32 b1, .int .u32 b2, .int .u32 b3] 57)) (cs := ob0C) (t := 27)).on (below_alloc _ (.cells (obC 2 0 0 0 0 0 0 0 0 false) 27))
    rw [World.size_alloc, World.size_alloc] at h
    exact h
  have rO : Row ((((w.alloc (.cells #[.int .u8 a0, .int .u8 a1, .int .u8 a2, .int .u8 a3] 56)).alloc (.cells #[.int .u32 b0, .int .u32 b1, .int .u32 b2, .int .u32 b3] 57)).alloc (.cells ob0C 27)).alloc (.cells (obC 2 0 0 0 0 0 0 0 0 false) 27)) (w.heap.size + 1 + 1 + 1) (obC 2 0 0 0 0 0 0 0 0 false) 27 := by
    have h := Row.new (W := ((w.alloc (.cells #[.int .u8 a0, .int .u8 a1, .int .u8 a2, .int .u8 a3] 56)).alloc (.cells #[.int .u32 b0, .int .u32 b1, .int .u32 b2, .int .u32 b3] 57)).alloc (.cells ob0C 27)) (cs := (obC 2 0 0 0 0 0 0 0 0 false)) (t := 27)
    rw [World.size_alloc, World.size_alloc, World.size_alloc] at h
    exact h
  have h1 : w.heap.size + 1 + 1 + 1 ≠ w.heap.size := by omega
  have h2 : w.heap.size + 1 + 1 + 1 ≠ w.heap.size + 1 := by omega
  have h3 : w.heap.size + 1 + 1 + 1 ≠ w.heap.size + 1 + 1 := by omega
  have h4 : w.heap.size ≤ w.heap.size + 1 + 1 + 1 := by omega
  have h5 : w.heap.size ≤ w.heap.size + 1 + 1 := by omega
  have RA := Lib.hid rA
  have RB := Lib.hid rB
  have RC := Lib.hid rC
  have RO := Lib.hid rO
  have HC := Lib.hid hc
  clear rA rB rC rO hc
  go_enter Tryd.func27, Tryd.ntmps27
  go_wp2_with fail
  have rA := RA.out
  have rB := RB.out
  have rC := RC.out
  have rO := RO.out
  have hc := HC.out
  clear RA RB RC RO HC
  generalize ((((w.alloc (.cells #[.int .u8 a0, .int .u8 a1, .int .u8 a2, .int .u8 a3] 56)).alloc (.cells #[.int .u32 b0, .int .u32 b1, .int .u32 b2, .int .u32 b3] 57)).alloc (.cells ob0C 27)).alloc (.cells (obC 2 0 0 0 0 0 0 0 0 false) 27)) = W at *
  generalize w.heap.size + 1 + 1 + 1 = xO at *
  generalize w.heap.size + 1 + 1 = xC at *
  generalize w.heap.size + 1 = xB at *
  generalize hxA : w.heap.size = xA at rA h1 ⊢
  refine wp_loop_rounds 3 ?_
  rw [rounds_succ]
  go_wp2_with fail
  refine wp_region_held_drew (S := fun W' => (∀ j, W'.cell? ⟨xA, j, none⟩ = (#[.int .u8 a0, .int .u8 a1, .int .u8 a2, .int .u8 a3] : Array Value)[j]?) ∧ (∀ j, W'.cell? ⟨xB, j, none⟩ = (#[.int .u32 b0, .int .u32 b1, .int .u32 b2, .int .u32 b3] : Array Value)[j]?)) (by kernel_rfl) ⟨rA.cell, rB.cell⟩ (fun hHeld => ?_)
  replace rA := rA.drew
  replace rB := rB.drew
  replace rC := rC.drew
  replace rO := rO.drew
  replace hc := hc.drew
  generalize W.drew = V0 at *
  refine' wpAnyH_take (i := 0) (oi := _) (v := _) ?_ (by kernel_rfl) (by kernel_rfl) (by kernel_rfl) ?_ (Or.inl ⟨?_, ?_⟩) (by assumption) ?_
  rotate_left 2
  · (simp only [List.getElem?_toArray, List.getElem?_cons_succ, List.getElem?_cons_zero]; rfl)
  · first | exact fun _ _ _ h => h | exact fun _ _ _ h => nomatch h.1
  · rfl
  · (intro W hSW; (try dsimp only at hSW); go_split_ands; first | (go_simp; done) | (go_simp; with_reducible rfl))
  try simp only [Act.put, List.setIfInBounds_toArray, List.set_cons_zero, List.set_cons_succ]
  refine' wpAnyH_take (i := 1) (oi := _) (v := _) ?_ (by kernel_rfl) (by kernel_rfl) (by kernel_rfl) ?_ (Or.inl ⟨?_, ?_⟩) (by assumption) ?_
  rotate_left 2
  · (simp only [List.getElem?_toArray, List.getElem?_cons_succ, List.getElem?_cons_zero]; rfl)
  · first | exact fun _ _ _ h => h | exact fun _ _ _ h => nomatch h.1
  · rfl
  · (intro W hSW; (try dsimp only at hSW); go_split_ands; first | (go_simp; done) | (go_simp; with_reducible rfl))
  try simp only [Act.put, List.setIfInBounds_toArray, List.set_cons_zero, List.set_cons_succ]
  refine' wpAnyH_take (i := 2) (oi := _) (v := _) ?_ (by kernel_rfl) (by kernel_rfl) (by kernel_rfl) ?_ (Or.inl ⟨?_, ?_⟩) (by assumption) ?_
  rotate_left 2
  · (simp only [List.getElem?_toArray, List.getElem?_cons_succ, List.getElem?_cons_zero]; rfl)
  · first | exact fun _ _ _ h => h | exact fun _ _ _ h => nomatch h.1
  · rfl
  · (intro W hSW; (try dsimp only at hSW); go_split_ands; first | (go_simp; done) | (go_simp; with_reducible rfl))
  try simp only [Act.put, List.setIfInBounds_toArray, List.set_cons_zero, List.set_cons_succ]
  refine' wpAnyH_take (i := 3) (oi := _) (v := _) ?_ (by kernel_rfl) (by kernel_rfl) (by kernel_rfl) ?_ (Or.inl ⟨?_, ?_⟩) (by assumption) ?_
  rotate_left 2
  · (simp only [List.getElem?_toArray, List.getElem?_cons_succ, List.getElem?_cons_zero]; rfl)
  · first | exact fun _ _ _ h => h | exact fun _ _ _ h => nomatch h.1
  · rfl
  · (intro W hSW; (try dsimp only at hSW); go_split_ands; first | (go_simp; done) | (go_simp; with_reducible rfl))
  try simp only [Act.put, List.setIfInBounds_toArray, List.set_cons_zero, List.set_cons_succ]
  refine' wpAnyH_take (i := 4) (oi := _) (v := _) ?_ (by kernel_rfl) (by kernel_rfl) (by kernel_rfl) ?_ (Or.inl ⟨?_, ?_⟩) (by assumption) ?_
  rotate_left 2
  · (simp only [List.getElem?_toArray, List.getElem?_cons_succ, List.getElem?_cons_zero]; rfl)
  · first | exact fun _ _ _ h => h | exact fun _ _ _ h => nomatch h.1
  · rfl
  · (intro W hSW; (try dsimp only at hSW); go_split_ands; first | (go_simp; done) | (go_simp; with_reducible rfl))
  try simp only [Act.put, List.setIfInBounds_toArray, List.set_cons_zero, List.set_cons_succ]
  refine' wpAnyH_take (i := 5) (oi := _) (v := _) ?_ (by kernel_rfl) (by kernel_rfl) (by kernel_rfl) ?_ (Or.inl ⟨?_, ?_⟩) (by assumption) ?_
  rotate_left 2
  · (simp only [List.getElem?_toArray, List.getElem?_cons_succ, List.getElem?_cons_zero]; rfl)
  · first | exact fun _ _ _ h => h | exact fun _ _ _ h => nomatch h.1
  · rfl
  · (intro W hSW; (try dsimp only at hSW); go_split_ands; first | (go_simp; done) | (go_simp; with_reducible rfl))
  try simp only [Act.put, List.setIfInBounds_toArray, List.set_cons_zero, List.set_cons_succ]
  refine' wpAnyH_take (i := 6) (oi := _) (v := _) ?_ (by kernel_rfl) (by kernel_rfl) (by kernel_rfl) ?_ (Or.inl ⟨?_, ?_⟩) (by assumption) ?_
  rotate_left 2
  · (simp only [List.getElem?_toArray, List.getElem?_cons_succ, List.getElem?_cons_zero]; rfl)
  · first | exact fun _ _ _ h => h | exact fun _ _ _ h => nomatch h.1
  · rfl
  · (intro W hSW; (try dsimp only at hSW); go_split_ands; first | (go_simp; done) | (go_simp; with_reducible rfl))
  try simp only [Act.put, List.setIfInBounds_toArray, List.set_cons_zero, List.set_cons_succ]
  refine' wpAnyH_take (i := 8) (oi := _) (v := _) ?_ (by kernel_rfl) (by kernel_rfl) (by kernel_rfl) ?_ (Or.inl ⟨?_, ?_⟩) (by assumption) ?_
  rotate_left 2
  · (simp only [List.getElem?_toArray, List.getElem?_cons_succ, List.getElem?_cons_zero]; rfl)
  · first | exact fun _ _ _ h => h | exact fun _ _ _ h => nomatch h.1
  · rfl
  · (intro W hSW; (try dsimp only at hSW); go_split_ands; first | (go_simp; done) | (go_simp; with_reducible rfl))
  try simp only [Act.put, List.setIfInBounds_toArray, List.set_cons_zero, List.set_cons_succ]
  refine wpAnyH_ready (rs := [7]) (by kernel_rfl) (by simp) ?_
  refine' AllReadyH.cons (o := _) ?_ (fun K hK => ?_) AllReadyH.nil
  rotate_left 1
  · (simp only [List.getElem?_toArray, List.getElem?_cons_succ, List.getElem?_cons_zero]; rfl)
  go_simp
  refine Calls.mono (lref_c a0 b0 _ u0 v0) ?_
  rintro e V0' ⟨rfl, hb⟩
  replace rA := rA.on hb
  replace rB := rB.on hb
  replace rC := rC.on hb
  replace rO := rO.on hb
  replace hc := chain hc hb
  go_simp
  refine hK.out _ _ ⟨rA.cell, rB.cell⟩ (fun _ => ?_)
  clear hK K hb
  refine' wpAnyH_take (i := 9) (oi := _) (v := _) ?_ (by kernel_rfl) (by kernel_rfl) (by kernel_rfl) ?_ (Or.inl ⟨?_, ?_⟩) (by assumption) ?_
  rotate_left 2
  · (simp only [List.getElem?_toArray, List.getElem?_cons_succ, List.getElem?_cons_zero]; rfl)
  · first | exact fun _ _ _ h => h | exact fun _ _ _ h => nomatch h.1
  · rfl
  · (intro W hSW; (try dsimp only at hSW); go_split_ands; first | (go_simp; done) | (go_simp; with_reducible rfl))
  try simp only [Act.put, List.setIfInBounds_toArray, List.set_cons_zero, List.set_cons_succ]
  have y0 := rO.cell
  have y1 := rO.free
  have y2 := rO.lt
  refine wpAnyH_ready (rs := [10]) (by kernel_rfl) (by simp) ?_
  refine' AllReadyH.cons (o := _) ?_ (fun K hK => ?_) AllReadyH.nil
  rotate_left 1
  · (simp only [List.getElem?_toArray, List.getElem?_cons_succ, List.getElem?_cons_zero]; rfl)
  go_simp
  clear y0 y1 y2
  replace rA := (rA.other h1 1 (.int .i64 (lrf a0 b0).1)).other h1 2 (.int .u32 (lrf a0 b0).2)
  replace rB := (rB.other h2 1 (.int .i64 (lrf a0 b0).1)).other h2 2 (.int .u32 (lrf a0 b0).2)
  replace rC := (rC.other h3 1 (.int .i64 (lrf a0 b0).1)).other h3 2 (.int .u32 (lrf a0 b0).2)
  replace rO := (rO.set 1 (.int .i64 (lrf a0 b0).1)).set 2 (.int .u32 (lrf a0 b0).2)
  replace hc := (hc.setCell (p := ⟨xO, 1, none⟩) h4 (.int .i64 (lrf a0 b0).1)).setCell (p := ⟨xO, 2, none⟩) h4 (.int .u32 (lrf a0 b0).2)
  simp only [List.setIfInBounds_toArray, List.set_cons_zero, List.set_cons_succ] at rO
  generalize hW : World.setCell _ _ _ = U0 at *
  clear hW
  refine hK.out _ _ ⟨rA.cell, rB.cell⟩ (fun _ => ?_)
  clear hK K
  refine wpAnyH_done (by kernel_rfl) ?_ _
  go_wp2_with fail
  rw [rounds_succ]
  go_wp2_with fail
  refine wp_region_held_drew (S := fun W' => (∀ j, W'.cell? ⟨xA, j, none⟩ = (#[.int .u8 a0, .int .u8 a1, .int .u8 a2, .int .u8 a3] : Array Value)[j]?) ∧ (∀ j, W'.cell? ⟨xB, j, none⟩ = (#[.int .u32 b0, .int .u32 b1, .int .u32 b2, .int .u32 b3] : Array Value)[j]?)) (by kernel_rfl) ⟨rA.cell, rB.cell⟩ (fun hHeld => ?_)
  replace rA := rA.drew
  replace rB := rB.drew
  replace rC := rC.drew
  replace rO := rO.drew
  replace hc := hc.drew
  generalize U0.drew = V1 at *
  refine' wpAnyH_take (i := 0) (oi := _) (v := _) ?_ (by kernel_rfl) (by kernel_rfl) (by kernel_rfl) ?_ (Or.inl ⟨?_, ?_⟩) (by assumption) ?_
  rotate_left 2
  · (simp only [List.getElem?_toArray, List.getElem?_cons_succ, List.getElem?_cons_zero]; rfl)
  · first | exact fun _ _ _ h => h | exact fun _ _ _ h => nomatch h.1
  · rfl
  · (intro W hSW; (try dsimp only at hSW); go_split_ands; first | (go_simp; done) | (go_simp; with_reducible rfl))
  try simp only [Act.put, List.setIfInBounds_toArray, List.set_cons_zero, List.set_cons_succ]
  refine' wpAnyH_take (i := 1) (oi := _) (v := _) ?_ (by kernel_rfl) (by kernel_rfl) (by kernel_rfl) ?_ (Or.inl ⟨?_, ?_⟩) (by assumption) ?_
  rotate_left 2
  · (simp only [List.getElem?_toArray, List.getElem?_cons_succ, List.getElem?_cons_zero]; rfl)
  · first | exact fun _ _ _ h => h | exact fun _ _ _ h => nomatch h.1
  · rfl
  · (intro W hSW; (try dsimp only at hSW); go_split_ands; first | (go_simp; done) | (go_simp; with_reducible rfl))
  try simp only [Act.put, List.setIfInBounds_toArray, List.set_cons_zero, List.set_cons_succ]
  refine' wpAnyH_take (i := 2) (oi := _) (v := _) ?_ (by kernel_rfl) (by kernel_rfl) (by kernel_rfl) ?_ (Or.inl ⟨?_, ?_⟩) (by assumption) ?_
  rotate_left 2
  · (simp only [List.getElem?_toArray, List.getElem?_cons_succ, List.getElem?_cons_zero]; rfl)
  · first | exact fun _ _ _ h => h | exact fun _ _ _ h => nomatch h.1
  · rfl
  · (intro W hSW; (try dsimp only at hSW); go_split_ands; first | (go_simp; done) | (go_simp; with_reducible rfl))
  try simp only [Act.put, List.setIfInBounds_toArray, List.set_cons_zero, List.set_cons_succ]
  refine' wpAnyH_take (i := 3) (oi := _) (v := _) ?_ (by kernel_rfl) (by kernel_rfl) (by kernel_rfl) ?_ (Or.inl ⟨?_, ?_⟩) (by assumption) ?_
  rotate_left 2
  · (simp only [List.getElem?_toArray, List.getElem?_cons_succ, List.getElem?_cons_zero]; rfl)
  · first | exact fun _ _ _ h => h | exact fun _ _ _ h => nomatch h.1
  · rfl
  · (intro W hSW; (try dsimp only at hSW); go_split_ands; first | (go_simp; done) | (go_simp; with_reducible rfl))
  try simp only [Act.put, List.setIfInBounds_toArray, List.set_cons_zero, List.set_cons_succ]
  refine' wpAnyH_take (i := 4) (oi := _) (v := _) ?_ (by kernel_rfl) (by kernel_rfl) (by kernel_rfl) ?_ (Or.inl ⟨?_, ?_⟩) (by assumption) ?_
  rotate_left 2
  · (simp only [List.getElem?_toArray, List.getElem?_cons_succ, List.getElem?_cons_zero]; rfl)
  · first | exact fun _ _ _ h => h | exact fun _ _ _ h => nomatch h.1
  · rfl
  · (intro W hSW; (try dsimp only at hSW); go_split_ands; first | (go_simp; done) | (go_simp; with_reducible rfl))
  try simp only [Act.put, List.setIfInBounds_toArray, List.set_cons_zero, List.set_cons_succ]
  refine' wpAnyH_take (i := 5) (oi := _) (v := _) ?_ (by kernel_rfl) (by kernel_rfl) (by kernel_rfl) ?_ (Or.inl ⟨?_, ?_⟩) (by assumption) ?_
  rotate_left 2
  · (simp only [List.getElem?_toArray, List.getElem?_cons_succ, List.getElem?_cons_zero]; rfl)
  · first | exact fun _ _ _ h => h | exact fun _ _ _ h => nomatch h.1
  · rfl
  · (intro W hSW; (try dsimp only at hSW); go_split_ands; first | (go_simp; done) | (go_simp; with_reducible rfl))
  try simp only [Act.put, List.setIfInBounds_toArray, List.set_cons_zero, List.set_cons_succ]
  refine' wpAnyH_take (i := 6) (oi := _) (v := _) ?_ (by kernel_rfl) (by kernel_rfl) (by kernel_rfl) ?_ (Or.inl ⟨?_, ?_⟩) (by assumption) ?_
  rotate_left 2
  · (simp only [List.getElem?_toArray, List.getElem?_cons_succ, List.getElem?_cons_zero]; rfl)
  · first | exact fun _ _ _ h => h | exact fun _ _ _ h => nomatch h.1
  · rfl
  · (intro W hSW; (try dsimp only at hSW); go_split_ands; first | (go_simp; done) | (go_simp; with_reducible rfl))
  try simp only [Act.put, List.setIfInBounds_toArray, List.set_cons_zero, List.set_cons_succ]
  refine' wpAnyH_take (i := 8) (oi := _) (v := _) ?_ (by kernel_rfl) (by kernel_rfl) (by kernel_rfl) ?_ (Or.inl ⟨?_, ?_⟩) (by assumption) ?_
  rotate_left 2
  · (simp only [List.getElem?_toArray, List.getElem?_cons_succ, List.getElem?_cons_zero]; rfl)
  · first | exact fun _ _ _ h => h | exact fun _ _ _ h => nomatch h.1
  · rfl
  · (intro W hSW; (try dsimp only at hSW); go_split_ands; first | (go_simp; done) | (go_simp; with_reducible rfl))
  try simp only [Act.put, List.setIfInBounds_toArray, List.set_cons_zero, List.set_cons_succ]
  refine wpAnyH_ready (rs := [7]) (by kernel_rfl) (by simp) ?_
  refine' AllReadyH.cons (o := _) ?_ (fun K hK => ?_) AllReadyH.nil
  rotate_left 1
  · (simp only [List.getElem?_toArray, List.getElem?_cons_succ, List.getElem?_cons_zero]; rfl)
  go_simp
  refine Calls.mono (lref_c a1 b1 _ u1 v1) ?_
  rintro e V1' ⟨rfl, hb⟩
  replace rA := rA.on hb
  replace rB := rB.on hb
  replace rC := rC.on hb
  replace rO := rO.on hb
  replace hc := chain hc hb
  go_simp
  refine hK.out _ _ ⟨rA.cell, rB.cell⟩ (fun _ => ?_)
  clear hK K hb
  refine' wpAnyH_take (i := 9) (oi := _) (v := _) ?_ (by kernel_rfl) (by kernel_rfl) (by kernel_rfl) ?_ (Or.inl ⟨?_, ?_⟩) (by assumption) ?_
  rotate_left 2
  · (simp only [List.getElem?_toArray, List.getElem?_cons_succ, List.getElem?_cons_zero]; rfl)
  · first | exact fun _ _ _ h => h | exact fun _ _ _ h => nomatch h.1
  · rfl
  · (intro W hSW; (try dsimp only at hSW); go_split_ands; first | (go_simp; done) | (go_simp; with_reducible rfl))
  try simp only [Act.put, List.setIfInBounds_toArray, List.set_cons_zero, List.set_cons_succ]
  have y0 := rO.cell
  have y1 := rO.free
  have y2 := rO.lt
  refine wpAnyH_ready (rs := [10]) (by kernel_rfl) (by simp) ?_
  refine' AllReadyH.cons (o := _) ?_ (fun K hK => ?_) AllReadyH.nil
  rotate_left 1
  · (simp only [List.getElem?_toArray, List.getElem?_cons_succ, List.getElem?_cons_zero]; rfl)
  go_simp
  clear y0 y1 y2
  replace rA := (rA.other h1 3 (.int .i64 (lrf a1 b1).1)).other h1 4 (.int .u32 (lrf a1 b1).2)
  replace rB := (rB.other h2 3 (.int .i64 (lrf a1 b1).1)).other h2 4 (.int .u32 (lrf a1 b1).2)
  replace rC := (rC.other h3 3 (.int .i64 (lrf a1 b1).1)).other h3 4 (.int .u32 (lrf a1 b1).2)
  replace rO := (rO.set 3 (.int .i64 (lrf a1 b1).1)).set 4 (.int .u32 (lrf a1 b1).2)
  replace hc := (hc.setCell (p := ⟨xO, 3, none⟩) h4 (.int .i64 (lrf a1 b1).1)).setCell (p := ⟨xO, 4, none⟩) h4 (.int .u32 (lrf a1 b1).2)
  simp only [List.setIfInBounds_toArray, List.set_cons_zero, List.set_cons_succ] at rO
  generalize hW : World.setCell _ _ _ = U1 at *
  clear hW
  refine hK.out _ _ ⟨rA.cell, rB.cell⟩ (fun _ => ?_)
  clear hK K
  refine wpAnyH_done (by kernel_rfl) ?_ _
  go_wp2_with fail
  rw [rounds_succ]
  have y0 := rO.cell
  have y2 := rO.lt
  have y3 := rC.cell
  have y4 := rC.free
  have y5 := rC.lt
  go_wp2_with fail
  clear y0 y2 y3 y4 y5
  replace rC := ((((((((((rC.set 0 (.int .i64 2)).set 1 (.int .i64 (lrf a0 b0).1)).set 2 (.int .u32 (lrf a0 b0).2)).set 3 (.int .i64 (lrf a1 b1).1)).set 4 (.int .u32 (lrf a1 b1).2)).set 5 (.int .i64 0)).set 6 (.int .u32 0)).set 7 (.int .i64 0)).set 8 (.int .u32 0)).set 9 (.bool false))
  replace hc := ((((((((((hc.setCell (p := ⟨xC, 0, none⟩) h5 (.int .i64 2)).setCell (p := ⟨xC, 1, none⟩) h5 (.int .i64 (lrf a0 b0).1)).setCell (p := ⟨xC, 2, none⟩) h5 (.int .u32 (lrf a0 b0).2)).setCell (p := ⟨xC, 3, none⟩) h5 (.int .i64 (lrf a1 b1).1)).setCell (p := ⟨xC, 4, none⟩) h5 (.int .u32 (lrf a1 b1).2)).setCell (p := ⟨xC, 5, none⟩) h5 (.int .i64 0)).setCell (p := ⟨xC, 6, none⟩) h5 (.int .u32 0)).setCell (p := ⟨xC, 7, none⟩) h5 (.int .i64 0)).setCell (p := ⟨xC, 8, none⟩) h5 (.int .u32 0)).setCell (p := ⟨xC, 9, none⟩) h5 (.bool false))
  simp only [List.setIfInBounds_toArray, List.set_cons_zero, List.set_cons_succ] at rC
  generalize hW : World.setCell _ _ _ = Z at *
  clear hW
  have q0 := rC.cell 0
  have q1 := rC.cell 1
  have q2 := rC.cell 2
  have q3 := rC.cell 3
  have q4 := rC.cell 4
  have q5 := rC.cell 5
  have q6 := rC.cell 6
  have q7 := rC.cell 7
  have q8 := rC.cell 8
  have q9 := rC.cell 9
  simp only [List.getElem?_toArray, List.getElem?_cons_succ, List.getElem?_cons_zero] at q0 q1 q2 q3 q4 q5 q6 q7 q8 q9
  clear rA rB rC rO
  refine bodyPost_ret (v := obR 2 (lrf a0 b0) (lrf a1 b1) (0, 0) (0, 0) false) (by simp [results, Tryd.results27, go_sem, q0, q1, q2, q3, q4, q5, q6, q7, q8, q9]) rfl ⟨rfl, hc⟩
set_option maxHeartbeats 8000000 in
set_option maxRecDepth 20000 in
theorem made_3 (n a0 a1 a2 a3 b0 b1 b2 b3 : Int) (w : World) (hm : Int.tmod n 8 = 3) (u0 : 0 ≤ a0) (v0 : a0 ≤ 255) (u1 : 0 ≤ a1) (v1 : a1 ≤ 255) (u2 : 0 ≤ a2) (v2 : a2 ≤ 255) (u3 : 0 ≤ a3) (v3 : a3 ≤ 255) :
    Ret 27 #[.int .u8 n, .agg #[.int .u8 a0, .int .u8 a1, .int .u8 a2, .int .u8 a3], .agg #[.int .u32 b0, .int .u32 b1, .int .u32 b2, .int .u32 b3]] w (obR 3 (lrf a0 b0) (lrf a1 b1) (lrf a2 b2) (0, 0) false) := by
  have hc : Below w.heap.size w ((((w.alloc (.cells #[.int .u8 a0, .int .u8 a1, .int .u8 a2, .int .u8 a3] 56)).alloc (.cells #[.int .u32 b0, .int .u32 b1, .int .u32 b2, .int .u32 b3] 57)).alloc (.cells ob0C 27)).alloc (.cells (obC 3 0 0 0 0 0 0 0 0 false) 27)) := by go_grown
  have rA : Row ((((w.alloc (.cells #[.int .u8 a0, .int .u8 a1, .int .u8 a2, .int .u8 a3] 56)).alloc (.cells #[.int .u32 b0, .int .u32 b1, .int .u32 b2, .int .u32 b3] 57)).alloc (.cells ob0C 27)).alloc (.cells (obC 3 0 0 0 0 0 0 0 0 false) 27)) w.heap.size #[.int .u8 a0, .int .u8 a1, .int .u8 a2, .int .u8 a3] 56 := ((Row.new.on (below_alloc _ _)).on (below_alloc _ _)).on (below_alloc _ _)
  have rB : Row ((((w.alloc (.cells #[.int .u8 a0, .int .u8 a1, .int .u8 a2, .int .u8 a3] 56)).alloc (.cells #[.int .u32 b0, .int .u32 b1, .int .u32 b2, .int .u32 b3] 57)).alloc (.cells ob0C 27)).alloc (.cells (obC 3 0 0 0 0 0 0 0 0 false) 27)) (w.heap.size + 1) #[.int .u32 b0, .int .u32 b1, .int .u32 b2, .int .u32 b3] 57 := by
    have h := ((Row.new (W := w.alloc (.cells #[.int .u8 a0, .int .u8 a1, .int .u8 a2, .int .u8 a3] 56)) (cs := #[.int .u32 b0, .int .u32 b1, .int .u32 b2, .int .u32 b3]) (t := 57)).on (below_alloc _ (.cells ob0C 27))).on (below_alloc _ (.cells (obC 3 0 0 0 0 0 0 0 0 false) 27))
    rw [World.size_alloc] at h
    exact h
  have rC : Row ((((w.alloc (.cells #[.int .u8 a0, .int .u8 a1, .int .u8 a2, .int .u8 a3] 56)).alloc (.cells #[.int .u32 b0, .int .u32 b1, .int .u32 b2, .int .u32 b3] 57)).alloc (.cells ob0C 27)).alloc (.cells (obC 3 0 0 0 0 0 0 0 0 false) 27)) (w.heap.size + 1 + 1) ob0C 27 := by
    have h := (Row.new (W := (w.alloc (.cells #[.int .u8 a0, .int .u8 a1, .int .u8 a2, .int .u8 a3] 56)).alloc (.cells #[.int .u32 b0, .int .u32 b1, .int .u32 b2, .int .u32 b3] 57)) (cs := ob0C) (t := 27)).on (below_alloc _ (.cells (obC 3 0 0 0 0 0 0 0 0 false) 27))
    rw [World.size_alloc, World.size_alloc] at h
    exact h
  have rO : Row ((((w.alloc (.cells #[.int .u8 a0, .int .u8 a1, .int .u8 a2, .int .u8 a3] 56)).alloc (.cells #[.int .u32 b0, .int .u32 b1, .int .u32 b2, .int .u32 b3] 57)).alloc (.cells ob0C 27)).alloc (.cells (obC 3 0 0 0 0 0 0 0 0 false) 27)) (w.heap.size + 1 + 1 + 1) (obC 3 0 0 0 0 0 0 0 0 false) 27 := by
    have h := Row.new (W := ((w.alloc (.cells #[.int .u8 a0, .int .u8 a1, .int .u8 a2, .int .u8 a3] 56)).alloc (.cells #[.int .u32 b0, .int .u32 b1, .int .u32 b2, .int .u32 b3] 57)).alloc (.cells ob0C 27)) (cs := (obC 3 0 0 0 0 0 0 0 0 false)) (t := 27)
    rw [World.size_alloc, World.size_alloc, World.size_alloc] at h
    exact h
  have h1 : w.heap.size + 1 + 1 + 1 ≠ w.heap.size := by omega
  have h2 : w.heap.size + 1 + 1 + 1 ≠ w.heap.size + 1 := by omega
  have h3 : w.heap.size + 1 + 1 + 1 ≠ w.heap.size + 1 + 1 := by omega
  have h4 : w.heap.size ≤ w.heap.size + 1 + 1 + 1 := by omega
  have h5 : w.heap.size ≤ w.heap.size + 1 + 1 := by omega
  have RA := Lib.hid rA
  have RB := Lib.hid rB
  have RC := Lib.hid rC
  have RO := Lib.hid rO
  have HC := Lib.hid hc
  clear rA rB rC rO hc
  go_enter Tryd.func27, Tryd.ntmps27
  go_wp2_with fail
  have rA := RA.out
  have rB := RB.out
  have rC := RC.out
  have rO := RO.out
  have hc := HC.out
  clear RA RB RC RO HC
  generalize ((((w.alloc (.cells #[.int .u8 a0, .int .u8 a1, .int .u8 a2, .int .u8 a3] 56)).alloc (.cells #[.int .u32 b0, .int .u32 b1, .int .u32 b2, .int .u32 b3] 57)).alloc (.cells ob0C 27)).alloc (.cells (obC 3 0 0 0 0 0 0 0 0 false) 27)) = W at *
  generalize w.heap.size + 1 + 1 + 1 = xO at *
  generalize w.heap.size + 1 + 1 = xC at *
  generalize w.heap.size + 1 = xB at *
  generalize hxA : w.heap.size = xA at rA h1 ⊢
  refine wp_loop_rounds 4 ?_
  rw [rounds_succ]
  go_wp2_with fail
  refine wp_region_held_drew (S := fun W' => (∀ j, W'.cell? ⟨xA, j, none⟩ = (#[.int .u8 a0, .int .u8 a1, .int .u8 a2, .int .u8 a3] : Array Value)[j]?) ∧ (∀ j, W'.cell? ⟨xB, j, none⟩ = (#[.int .u32 b0, .int .u32 b1, .int .u32 b2, .int .u32 b3] : Array Value)[j]?)) (by kernel_rfl) ⟨rA.cell, rB.cell⟩ (fun hHeld => ?_)
  replace rA := rA.drew
  replace rB := rB.drew
  replace rC := rC.drew
  replace rO := rO.drew
  replace hc := hc.drew
  generalize W.drew = V0 at *
  refine' wpAnyH_take (i := 0) (oi := _) (v := _) ?_ (by kernel_rfl) (by kernel_rfl) (by kernel_rfl) ?_ (Or.inl ⟨?_, ?_⟩) (by assumption) ?_
  rotate_left 2
  · (simp only [List.getElem?_toArray, List.getElem?_cons_succ, List.getElem?_cons_zero]; rfl)
  · first | exact fun _ _ _ h => h | exact fun _ _ _ h => nomatch h.1
  · rfl
  · (intro W hSW; (try dsimp only at hSW); go_split_ands; first | (go_simp; done) | (go_simp; with_reducible rfl))
  try simp only [Act.put, List.setIfInBounds_toArray, List.set_cons_zero, List.set_cons_succ]
  refine' wpAnyH_take (i := 1) (oi := _) (v := _) ?_ (by kernel_rfl) (by kernel_rfl) (by kernel_rfl) ?_ (Or.inl ⟨?_, ?_⟩) (by assumption) ?_
  rotate_left 2
  · (simp only [List.getElem?_toArray, List.getElem?_cons_succ, List.getElem?_cons_zero]; rfl)
  · first | exact fun _ _ _ h => h | exact fun _ _ _ h => nomatch h.1
  · rfl
  · (intro W hSW; (try dsimp only at hSW); go_split_ands; first | (go_simp; done) | (go_simp; with_reducible rfl))
  try simp only [Act.put, List.setIfInBounds_toArray, List.set_cons_zero, List.set_cons_succ]
  refine' wpAnyH_take (i := 2) (oi := _) (v := _) ?_ (by kernel_rfl) (by kernel_rfl) (by kernel_rfl) ?_ (Or.inl ⟨?_, ?_⟩) (by assumption) ?_
  rotate_left 2
  · (simp only [List.getElem?_toArray, List.getElem?_cons_succ, List.getElem?_cons_zero]; rfl)
  · first | exact fun _ _ _ h => h | exact fun _ _ _ h => nomatch h.1
  · rfl
  · (intro W hSW; (try dsimp only at hSW); go_split_ands; first | (go_simp; done) | (go_simp; with_reducible rfl))
  try simp only [Act.put, List.setIfInBounds_toArray, List.set_cons_zero, List.set_cons_succ]
  refine' wpAnyH_take (i := 3) (oi := _) (v := _) ?_ (by kernel_rfl) (by kernel_rfl) (by kernel_rfl) ?_ (Or.inl ⟨?_, ?_⟩) (by assumption) ?_
  rotate_left 2
  · (simp only [List.getElem?_toArray, List.getElem?_cons_succ, List.getElem?_cons_zero]; rfl)
  · first | exact fun _ _ _ h => h | exact fun _ _ _ h => nomatch h.1
  · rfl
  · (intro W hSW; (try dsimp only at hSW); go_split_ands; first | (go_simp; done) | (go_simp; with_reducible rfl))
  try simp only [Act.put, List.setIfInBounds_toArray, List.set_cons_zero, List.set_cons_succ]
  refine' wpAnyH_take (i := 4) (oi := _) (v := _) ?_ (by kernel_rfl) (by kernel_rfl) (by kernel_rfl) ?_ (Or.inl ⟨?_, ?_⟩) (by assumption) ?_
  rotate_left 2
  · (simp only [List.getElem?_toArray, List.getElem?_cons_succ, List.getElem?_cons_zero]; rfl)
  · first | exact fun _ _ _ h => h | exact fun _ _ _ h => nomatch h.1
  · rfl
  · (intro W hSW; (try dsimp only at hSW); go_split_ands; first | (go_simp; done) | (go_simp; with_reducible rfl))
  try simp only [Act.put, List.setIfInBounds_toArray, List.set_cons_zero, List.set_cons_succ]
  refine' wpAnyH_take (i := 5) (oi := _) (v := _) ?_ (by kernel_rfl) (by kernel_rfl) (by kernel_rfl) ?_ (Or.inl ⟨?_, ?_⟩) (by assumption) ?_
  rotate_left 2
  · (simp only [List.getElem?_toArray, List.getElem?_cons_succ, List.getElem?_cons_zero]; rfl)
  · first | exact fun _ _ _ h => h | exact fun _ _ _ h => nomatch h.1
  · rfl
  · (intro W hSW; (try dsimp only at hSW); go_split_ands; first | (go_simp; done) | (go_simp; with_reducible rfl))
  try simp only [Act.put, List.setIfInBounds_toArray, List.set_cons_zero, List.set_cons_succ]
  refine' wpAnyH_take (i := 6) (oi := _) (v := _) ?_ (by kernel_rfl) (by kernel_rfl) (by kernel_rfl) ?_ (Or.inl ⟨?_, ?_⟩) (by assumption) ?_
  rotate_left 2
  · (simp only [List.getElem?_toArray, List.getElem?_cons_succ, List.getElem?_cons_zero]; rfl)
  · first | exact fun _ _ _ h => h | exact fun _ _ _ h => nomatch h.1
  · rfl
  · (intro W hSW; (try dsimp only at hSW); go_split_ands; first | (go_simp; done) | (go_simp; with_reducible rfl))
  try simp only [Act.put, List.setIfInBounds_toArray, List.set_cons_zero, List.set_cons_succ]
  refine' wpAnyH_take (i := 8) (oi := _) (v := _) ?_ (by kernel_rfl) (by kernel_rfl) (by kernel_rfl) ?_ (Or.inl ⟨?_, ?_⟩) (by assumption) ?_
  rotate_left 2
  · (simp only [List.getElem?_toArray, List.getElem?_cons_succ, List.getElem?_cons_zero]; rfl)
  · first | exact fun _ _ _ h => h | exact fun _ _ _ h => nomatch h.1
  · rfl
  · (intro W hSW; (try dsimp only at hSW); go_split_ands; first | (go_simp; done) | (go_simp; with_reducible rfl))
  try simp only [Act.put, List.setIfInBounds_toArray, List.set_cons_zero, List.set_cons_succ]
  refine wpAnyH_ready (rs := [7]) (by kernel_rfl) (by simp) ?_
  refine' AllReadyH.cons (o := _) ?_ (fun K hK => ?_) AllReadyH.nil
  rotate_left 1
  · (simp only [List.getElem?_toArray, List.getElem?_cons_succ, List.getElem?_cons_zero]; rfl)
  go_simp
  refine Calls.mono (lref_c a0 b0 _ u0 v0) ?_
  rintro e V0' ⟨rfl, hb⟩
  replace rA := rA.on hb
  replace rB := rB.on hb
  replace rC := rC.on hb
  replace rO := rO.on hb
  replace hc := chain hc hb
  go_simp
  refine hK.out _ _ ⟨rA.cell, rB.cell⟩ (fun _ => ?_)
  clear hK K hb
  refine' wpAnyH_take (i := 9) (oi := _) (v := _) ?_ (by kernel_rfl) (by kernel_rfl) (by kernel_rfl) ?_ (Or.inl ⟨?_, ?_⟩) (by assumption) ?_
  rotate_left 2
  · (simp only [List.getElem?_toArray, List.getElem?_cons_succ, List.getElem?_cons_zero]; rfl)
  · first | exact fun _ _ _ h => h | exact fun _ _ _ h => nomatch h.1
  · rfl
  · (intro W hSW; (try dsimp only at hSW); go_split_ands; first | (go_simp; done) | (go_simp; with_reducible rfl))
  try simp only [Act.put, List.setIfInBounds_toArray, List.set_cons_zero, List.set_cons_succ]
  have y0 := rO.cell
  have y1 := rO.free
  have y2 := rO.lt
  refine wpAnyH_ready (rs := [10]) (by kernel_rfl) (by simp) ?_
  refine' AllReadyH.cons (o := _) ?_ (fun K hK => ?_) AllReadyH.nil
  rotate_left 1
  · (simp only [List.getElem?_toArray, List.getElem?_cons_succ, List.getElem?_cons_zero]; rfl)
  go_simp
  clear y0 y1 y2
  replace rA := (rA.other h1 1 (.int .i64 (lrf a0 b0).1)).other h1 2 (.int .u32 (lrf a0 b0).2)
  replace rB := (rB.other h2 1 (.int .i64 (lrf a0 b0).1)).other h2 2 (.int .u32 (lrf a0 b0).2)
  replace rC := (rC.other h3 1 (.int .i64 (lrf a0 b0).1)).other h3 2 (.int .u32 (lrf a0 b0).2)
  replace rO := (rO.set 1 (.int .i64 (lrf a0 b0).1)).set 2 (.int .u32 (lrf a0 b0).2)
  replace hc := (hc.setCell (p := ⟨xO, 1, none⟩) h4 (.int .i64 (lrf a0 b0).1)).setCell (p := ⟨xO, 2, none⟩) h4 (.int .u32 (lrf a0 b0).2)
  simp only [List.setIfInBounds_toArray, List.set_cons_zero, List.set_cons_succ] at rO
  generalize hW : World.setCell _ _ _ = U0 at *
  clear hW
  refine hK.out _ _ ⟨rA.cell, rB.cell⟩ (fun _ => ?_)
  clear hK K
  refine wpAnyH_done (by kernel_rfl) ?_ _
  go_wp2_with fail
  rw [rounds_succ]
  go_wp2_with fail
  refine wp_region_held_drew (S := fun W' => (∀ j, W'.cell? ⟨xA, j, none⟩ = (#[.int .u8 a0, .int .u8 a1, .int .u8 a2, .int .u8 a3] : Array Value)[j]?) ∧ (∀ j, W'.cell? ⟨xB, j, none⟩ = (#[.int .u32 b0, .int .u32 b1, .int .u32 b2, .int .u32 b3] : Array Value)[j]?)) (by kernel_rfl) ⟨rA.cell, rB.cell⟩ (fun hHeld => ?_)
  replace rA := rA.drew
  replace rB := rB.drew
  replace rC := rC.drew
  replace rO := rO.drew
  replace hc := hc.drew
  generalize U0.drew = V1 at *
  refine' wpAnyH_take (i := 0) (oi := _) (v := _) ?_ (by kernel_rfl) (by kernel_rfl) (by kernel_rfl) ?_ (Or.inl ⟨?_, ?_⟩) (by assumption) ?_
  rotate_left 2
  · (simp only [List.getElem?_toArray, List.getElem?_cons_succ, List.getElem?_cons_zero]; rfl)
  · first | exact fun _ _ _ h => h | exact fun _ _ _ h => nomatch h.1
  · rfl
  · (intro W hSW; (try dsimp only at hSW); go_split_ands; first | (go_simp; done) | (go_simp; with_reducible rfl))
  try simp only [Act.put, List.setIfInBounds_toArray, List.set_cons_zero, List.set_cons_succ]
  refine' wpAnyH_take (i := 1) (oi := _) (v := _) ?_ (by kernel_rfl) (by kernel_rfl) (by kernel_rfl) ?_ (Or.inl ⟨?_, ?_⟩) (by assumption) ?_
  rotate_left 2
  · (simp only [List.getElem?_toArray, List.getElem?_cons_succ, List.getElem?_cons_zero]; rfl)
  · first | exact fun _ _ _ h => h | exact fun _ _ _ h => nomatch h.1
  · rfl
  · (intro W hSW; (try dsimp only at hSW); go_split_ands; first | (go_simp; done) | (go_simp; with_reducible rfl))
  try simp only [Act.put, List.setIfInBounds_toArray, List.set_cons_zero, List.set_cons_succ]
  refine' wpAnyH_take (i := 2) (oi := _) (v := _) ?_ (by kernel_rfl) (by kernel_rfl) (by kernel_rfl) ?_ (Or.inl ⟨?_, ?_⟩) (by assumption) ?_
  rotate_left 2
  · (simp only [List.getElem?_toArray, List.getElem?_cons_succ, List.getElem?_cons_zero]; rfl)
  · first | exact fun _ _ _ h => h | exact fun _ _ _ h => nomatch h.1
  · rfl
  · (intro W hSW; (try dsimp only at hSW); go_split_ands; first | (go_simp; done) | (go_simp; with_reducible rfl))
  try simp only [Act.put, List.setIfInBounds_toArray, List.set_cons_zero, List.set_cons_succ]
  refine' wpAnyH_take (i := 3) (oi := _) (v := _) ?_ (by kernel_rfl) (by kernel_rfl) (by kernel_rfl) ?_ (Or.inl ⟨?_, ?_⟩) (by assumption) ?_
  rotate_left 2
  · (simp only [List.getElem?_toArray, List.getElem?_cons_succ, List.getElem?_cons_zero]; rfl)
  · first | exact fun _ _ _ h => h | exact fun _ _ _ h => nomatch h.1
  · rfl
  · (intro W hSW; (try dsimp only at hSW); go_split_ands; first | (go_simp; done) | (go_simp; with_reducible rfl))
  try simp only [Act.put, List.setIfInBounds_toArray, List.set_cons_zero, List.set_cons_succ]
  refine' wpAnyH_take (i := 4) (oi := _) (v := _) ?_ (by kernel_rfl) (by kernel_rfl) (by kernel_rfl) ?_ (Or.inl ⟨?_, ?_⟩) (by assumption) ?_
  rotate_left 2
  · (simp only [List.getElem?_toArray, List.getElem?_cons_succ, List.getElem?_cons_zero]; rfl)
  · first | exact fun _ _ _ h => h | exact fun _ _ _ h => nomatch h.1
  · rfl
  · (intro W hSW; (try dsimp only at hSW); go_split_ands; first | (go_simp; done) | (go_simp; with_reducible rfl))
  try simp only [Act.put, List.setIfInBounds_toArray, List.set_cons_zero, List.set_cons_succ]
  refine' wpAnyH_take (i := 5) (oi := _) (v := _) ?_ (by kernel_rfl) (by kernel_rfl) (by kernel_rfl) ?_ (Or.inl ⟨?_, ?_⟩) (by assumption) ?_
  rotate_left 2
  · (simp only [List.getElem?_toArray, List.getElem?_cons_succ, List.getElem?_cons_zero]; rfl)
  · first | exact fun _ _ _ h => h | exact fun _ _ _ h => nomatch h.1
  · rfl
  · (intro W hSW; (try dsimp only at hSW); go_split_ands; first | (go_simp; done) | (go_simp; with_reducible rfl))
  try simp only [Act.put, List.setIfInBounds_toArray, List.set_cons_zero, List.set_cons_succ]
  refine' wpAnyH_take (i := 6) (oi := _) (v := _) ?_ (by kernel_rfl) (by kernel_rfl) (by kernel_rfl) ?_ (Or.inl ⟨?_, ?_⟩) (by assumption) ?_
  rotate_left 2
  · (simp only [List.getElem?_toArray, List.getElem?_cons_succ, List.getElem?_cons_zero]; rfl)
  · first | exact fun _ _ _ h => h | exact fun _ _ _ h => nomatch h.1
  · rfl
  · (intro W hSW; (try dsimp only at hSW); go_split_ands; first | (go_simp; done) | (go_simp; with_reducible rfl))
  try simp only [Act.put, List.setIfInBounds_toArray, List.set_cons_zero, List.set_cons_succ]
  refine' wpAnyH_take (i := 8) (oi := _) (v := _) ?_ (by kernel_rfl) (by kernel_rfl) (by kernel_rfl) ?_ (Or.inl ⟨?_, ?_⟩) (by assumption) ?_
  rotate_left 2
  · (simp only [List.getElem?_toArray, List.getElem?_cons_succ, List.getElem?_cons_zero]; rfl)
  · first | exact fun _ _ _ h => h | exact fun _ _ _ h => nomatch h.1
  · rfl
  · (intro W hSW; (try dsimp only at hSW); go_split_ands; first | (go_simp; done) | (go_simp; with_reducible rfl))
  try simp only [Act.put, List.setIfInBounds_toArray, List.set_cons_zero, List.set_cons_succ]
  refine wpAnyH_ready (rs := [7]) (by kernel_rfl) (by simp) ?_
  refine' AllReadyH.cons (o := _) ?_ (fun K hK => ?_) AllReadyH.nil
  rotate_left 1
  · (simp only [List.getElem?_toArray, List.getElem?_cons_succ, List.getElem?_cons_zero]; rfl)
  go_simp
  refine Calls.mono (lref_c a1 b1 _ u1 v1) ?_
  rintro e V1' ⟨rfl, hb⟩
  replace rA := rA.on hb
  replace rB := rB.on hb
  replace rC := rC.on hb
  replace rO := rO.on hb
  replace hc := chain hc hb
  go_simp
  refine hK.out _ _ ⟨rA.cell, rB.cell⟩ (fun _ => ?_)
  clear hK K hb
  refine' wpAnyH_take (i := 9) (oi := _) (v := _) ?_ (by kernel_rfl) (by kernel_rfl) (by kernel_rfl) ?_ (Or.inl ⟨?_, ?_⟩) (by assumption) ?_
  rotate_left 2
  · (simp only [List.getElem?_toArray, List.getElem?_cons_succ, List.getElem?_cons_zero]; rfl)
  · first | exact fun _ _ _ h => h | exact fun _ _ _ h => nomatch h.1
  · rfl
  · (intro W hSW; (try dsimp only at hSW); go_split_ands; first | (go_simp; done) | (go_simp; with_reducible rfl))
  try simp only [Act.put, List.setIfInBounds_toArray, List.set_cons_zero, List.set_cons_succ]
  have y0 := rO.cell
  have y1 := rO.free
  have y2 := rO.lt
  refine wpAnyH_ready (rs := [10]) (by kernel_rfl) (by simp) ?_
  refine' AllReadyH.cons (o := _) ?_ (fun K hK => ?_) AllReadyH.nil
  rotate_left 1
  · (simp only [List.getElem?_toArray, List.getElem?_cons_succ, List.getElem?_cons_zero]; rfl)
  go_simp
  clear y0 y1 y2
  replace rA := (rA.other h1 3 (.int .i64 (lrf a1 b1).1)).other h1 4 (.int .u32 (lrf a1 b1).2)
  replace rB := (rB.other h2 3 (.int .i64 (lrf a1 b1).1)).other h2 4 (.int .u32 (lrf a1 b1).2)
  replace rC := (rC.other h3 3 (.int .i64 (lrf a1 b1).1)).other h3 4 (.int .u32 (lrf a1 b1).2)
  replace rO := (rO.set 3 (.int .i64 (lrf a1 b1).1)).set 4 (.int .u32 (lrf a1 b1).2)
  replace hc := (hc.setCell (p := ⟨xO, 3, none⟩) h4 (.int .i64 (lrf a1 b1).1)).setCell (p := ⟨xO, 4, none⟩) h4 (.int .u32 (lrf a1 b1).2)
  simp only [List.setIfInBounds_toArray, List.set_cons_zero, List.set_cons_succ] at rO
  generalize hW : World.setCell _ _ _ = U1 at *
  clear hW
  refine hK.out _ _ ⟨rA.cell, rB.cell⟩ (fun _ => ?_)
  clear hK K
  refine wpAnyH_done (by kernel_rfl) ?_ _
  go_wp2_with fail
  rw [rounds_succ]
  go_wp2_with fail
  refine wp_region_held_drew (S := fun W' => (∀ j, W'.cell? ⟨xA, j, none⟩ = (#[.int .u8 a0, .int .u8 a1, .int .u8 a2, .int .u8 a3] : Array Value)[j]?) ∧ (∀ j, W'.cell? ⟨xB, j, none⟩ = (#[.int .u32 b0, .int .u32 b1, .int .u32 b2, .int .u32 b3] : Array Value)[j]?)) (by kernel_rfl) ⟨rA.cell, rB.cell⟩ (fun hHeld => ?_)
  replace rA := rA.drew
  replace rB := rB.drew
  replace rC := rC.drew
  replace rO := rO.drew
  replace hc := hc.drew
  generalize U1.drew = V2 at *
  refine' wpAnyH_take (i := 0) (oi := _) (v := _) ?_ (by kernel_rfl) (by kernel_rfl) (by kernel_rfl) ?_ (Or.inl ⟨?_, ?_⟩) (by assumption) ?_
  rotate_left 2
  · (simp only [List.getElem?_toArray, List.getElem?_cons_succ, List.getElem?_cons_zero]; rfl)
  · first | exact fun _ _ _ h => h | exact fun _ _ _ h => nomatch h.1
  · rfl
  · (intro W hSW; (try dsimp only at hSW); go_split_ands; first | (go_simp; done) | (go_simp; with_reducible rfl))
  try simp only [Act.put, List.setIfInBounds_toArray, List.set_cons_zero, List.set_cons_succ]
  refine' wpAnyH_take (i := 1) (oi := _) (v := _) ?_ (by kernel_rfl) (by kernel_rfl) (by kernel_rfl) ?_ (Or.inl ⟨?_, ?_⟩) (by assumption) ?_
  rotate_left 2
  · (simp only [List.getElem?_toArray, List.getElem?_cons_succ, List.getElem?_cons_zero]; rfl)
  · first | exact fun _ _ _ h => h | exact fun _ _ _ h => nomatch h.1
  · rfl
  · (intro W hSW; (try dsimp only at hSW); go_split_ands; first | (go_simp; done) | (go_simp; with_reducible rfl))
  try simp only [Act.put, List.setIfInBounds_toArray, List.set_cons_zero, List.set_cons_succ]
  refine' wpAnyH_take (i := 2) (oi := _) (v := _) ?_ (by kernel_rfl) (by kernel_rfl) (by kernel_rfl) ?_ (Or.inl ⟨?_, ?_⟩) (by assumption) ?_
  rotate_left 2
  · (simp only [List.getElem?_toArray, List.getElem?_cons_succ, List.getElem?_cons_zero]; rfl)
  · first | exact fun _ _ _ h => h | exact fun _ _ _ h => nomatch h.1
  · rfl
  · (intro W hSW; (try dsimp only at hSW); go_split_ands; first | (go_simp; done) | (go_simp; with_reducible rfl))
  try simp only [Act.put, List.setIfInBounds_toArray, List.set_cons_zero, List.set_cons_succ]
  refine' wpAnyH_take (i := 3) (oi := _) (v := _) ?_ (by kernel_rfl) (by kernel_rfl) (by kernel_rfl) ?_ (Or.inl ⟨?_, ?_⟩) (by assumption) ?_
  rotate_left 2
  · (simp only [List.getElem?_toArray, List.getElem?_cons_succ, List.getElem?_cons_zero]; rfl)
  · first | exact fun _ _ _ h => h | exact fun _ _ _ h => nomatch h.1
  · rfl
  · (intro W hSW; (try dsimp only at hSW); go_split_ands; first | (go_simp; done) | (go_simp; with_reducible rfl))
  try simp only [Act.put, List.setIfInBounds_toArray, List.set_cons_zero, List.set_cons_succ]
  refine' wpAnyH_take (i := 4) (oi := _) (v := _) ?_ (by kernel_rfl) (by kernel_rfl) (by kernel_rfl) ?_ (Or.inl ⟨?_, ?_⟩) (by assumption) ?_
  rotate_left 2
  · (simp only [List.getElem?_toArray, List.getElem?_cons_succ, List.getElem?_cons_zero]; rfl)
  · first | exact fun _ _ _ h => h | exact fun _ _ _ h => nomatch h.1
  · rfl
  · (intro W hSW; (try dsimp only at hSW); go_split_ands; first | (go_simp; done) | (go_simp; with_reducible rfl))
  try simp only [Act.put, List.setIfInBounds_toArray, List.set_cons_zero, List.set_cons_succ]
  refine' wpAnyH_take (i := 5) (oi := _) (v := _) ?_ (by kernel_rfl) (by kernel_rfl) (by kernel_rfl) ?_ (Or.inl ⟨?_, ?_⟩) (by assumption) ?_
  rotate_left 2
  · (simp only [List.getElem?_toArray, List.getElem?_cons_succ, List.getElem?_cons_zero]; rfl)
  · first | exact fun _ _ _ h => h | exact fun _ _ _ h => nomatch h.1
  · rfl
  · (intro W hSW; (try dsimp only at hSW); go_split_ands; first | (go_simp; done) | (go_simp; with_reducible rfl))
  try simp only [Act.put, List.setIfInBounds_toArray, List.set_cons_zero, List.set_cons_succ]
  refine' wpAnyH_take (i := 6) (oi := _) (v := _) ?_ (by kernel_rfl) (by kernel_rfl) (by kernel_rfl) ?_ (Or.inl ⟨?_, ?_⟩) (by assumption) ?_
  rotate_left 2
  · (simp only [List.getElem?_toArray, List.getElem?_cons_succ, List.getElem?_cons_zero]; rfl)
  · first | exact fun _ _ _ h => h | exact fun _ _ _ h => nomatch h.1
  · rfl
  · (intro W hSW; (try dsimp only at hSW); go_split_ands; first | (go_simp; done) | (go_simp; with_reducible rfl))
  try simp only [Act.put, List.setIfInBounds_toArray, List.set_cons_zero, List.set_cons_succ]
  refine' wpAnyH_take (i := 8) (oi := _) (v := _) ?_ (by kernel_rfl) (by kernel_rfl) (by kernel_rfl) ?_ (Or.inl ⟨?_, ?_⟩) (by assumption) ?_
  rotate_left 2
  · (simp only [List.getElem?_toArray, List.getElem?_cons_succ, List.getElem?_cons_zero]; rfl)
  · first | exact fun _ _ _ h => h | exact fun _ _ _ h => nomatch h.1
  · rfl
  · (intro W hSW; (try dsimp only at hSW); go_split_ands; first | (go_simp; done) | (go_simp; with_reducible rfl))
  try simp only [Act.put, List.setIfInBounds_toArray, List.set_cons_zero, List.set_cons_succ]
  refine wpAnyH_ready (rs := [7]) (by kernel_rfl) (by simp) ?_
  refine' AllReadyH.cons (o := _) ?_ (fun K hK => ?_) AllReadyH.nil
  rotate_left 1
  · (simp only [List.getElem?_toArray, List.getElem?_cons_succ, List.getElem?_cons_zero]; rfl)
  go_simp
  refine Calls.mono (lref_c a2 b2 _ u2 v2) ?_
  rintro e V2' ⟨rfl, hb⟩
  replace rA := rA.on hb
  replace rB := rB.on hb
  replace rC := rC.on hb
  replace rO := rO.on hb
  replace hc := chain hc hb
  go_simp
  refine hK.out _ _ ⟨rA.cell, rB.cell⟩ (fun _ => ?_)
  clear hK K hb
  refine' wpAnyH_take (i := 9) (oi := _) (v := _) ?_ (by kernel_rfl) (by kernel_rfl) (by kernel_rfl) ?_ (Or.inl ⟨?_, ?_⟩) (by assumption) ?_
  rotate_left 2
  · (simp only [List.getElem?_toArray, List.getElem?_cons_succ, List.getElem?_cons_zero]; rfl)
  · first | exact fun _ _ _ h => h | exact fun _ _ _ h => nomatch h.1
  · rfl
  · (intro W hSW; (try dsimp only at hSW); go_split_ands; first | (go_simp; done) | (go_simp; with_reducible rfl))
  try simp only [Act.put, List.setIfInBounds_toArray, List.set_cons_zero, List.set_cons_succ]
  have y0 := rO.cell
  have y1 := rO.free
  have y2 := rO.lt
  refine wpAnyH_ready (rs := [10]) (by kernel_rfl) (by simp) ?_
  refine' AllReadyH.cons (o := _) ?_ (fun K hK => ?_) AllReadyH.nil
  rotate_left 1
  · (simp only [List.getElem?_toArray, List.getElem?_cons_succ, List.getElem?_cons_zero]; rfl)
  go_simp
  clear y0 y1 y2
  replace rA := (rA.other h1 5 (.int .i64 (lrf a2 b2).1)).other h1 6 (.int .u32 (lrf a2 b2).2)
  replace rB := (rB.other h2 5 (.int .i64 (lrf a2 b2).1)).other h2 6 (.int .u32 (lrf a2 b2).2)
  replace rC := (rC.other h3 5 (.int .i64 (lrf a2 b2).1)).other h3 6 (.int .u32 (lrf a2 b2).2)
  replace rO := (rO.set 5 (.int .i64 (lrf a2 b2).1)).set 6 (.int .u32 (lrf a2 b2).2)
  replace hc := (hc.setCell (p := ⟨xO, 5, none⟩) h4 (.int .i64 (lrf a2 b2).1)).setCell (p := ⟨xO, 6, none⟩) h4 (.int .u32 (lrf a2 b2).2)
  simp only [List.setIfInBounds_toArray, List.set_cons_zero, List.set_cons_succ] at rO
  generalize hW : World.setCell _ _ _ = U2 at *
  clear hW
  refine hK.out _ _ ⟨rA.cell, rB.cell⟩ (fun _ => ?_)
  clear hK K
  refine wpAnyH_done (by kernel_rfl) ?_ _
  go_wp2_with fail
  rw [rounds_succ]
  have y0 := rO.cell
  have y2 := rO.lt
  have y3 := rC.cell
  have y4 := rC.free
  have y5 := rC.lt
  go_wp2_with fail
  clear y0 y2 y3 y4 y5
  replace rC := ((((((((((rC.set 0 (.int .i64 3)).set 1 (.int .i64 (lrf a0 b0).1)).set 2 (.int .u32 (lrf a0 b0).2)).set 3 (.int .i64 (lrf a1 b1).1)).set 4 (.int .u32 (lrf a1 b1).2)).set 5 (.int .i64 (lrf a2 b2).1)).set 6 (.int .u32 (lrf a2 b2).2)).set 7 (.int .i64 0)).set 8 (.int .u32 0)).set 9 (.bool false))
  replace hc := ((((((((((hc.setCell (p := ⟨xC, 0, none⟩) h5 (.int .i64 3)).setCell (p := ⟨xC, 1, none⟩) h5 (.int .i64 (lrf a0 b0).1)).setCell (p := ⟨xC, 2, none⟩) h5 (.int .u32 (lrf a0 b0).2)).setCell (p := ⟨xC, 3, none⟩) h5 (.int .i64 (lrf a1 b1).1)).setCell (p := ⟨xC, 4, none⟩) h5 (.int .u32 (lrf a1 b1).2)).setCell (p := ⟨xC, 5, none⟩) h5 (.int .i64 (lrf a2 b2).1)).setCell (p := ⟨xC, 6, none⟩) h5 (.int .u32 (lrf a2 b2).2)).setCell (p := ⟨xC, 7, none⟩) h5 (.int .i64 0)).setCell (p := ⟨xC, 8, none⟩) h5 (.int .u32 0)).setCell (p := ⟨xC, 9, none⟩) h5 (.bool false))
  simp only [List.setIfInBounds_toArray, List.set_cons_zero, List.set_cons_succ] at rC
  generalize hW : World.setCell _ _ _ = Z at *
  clear hW
  have q0 := rC.cell 0
  have q1 := rC.cell 1
  have q2 := rC.cell 2
  have q3 := rC.cell 3
  have q4 := rC.cell 4
  have q5 := rC.cell 5
  have q6 := rC.cell 6
  have q7 := rC.cell 7
  have q8 := rC.cell 8
  have q9 := rC.cell 9
  simp only [List.getElem?_toArray, List.getElem?_cons_succ, List.getElem?_cons_zero] at q0 q1 q2 q3 q4 q5 q6 q7 q8 q9
  clear rA rB rC rO
  refine bodyPost_ret (v := obR 3 (lrf a0 b0) (lrf a1 b1) (lrf a2 b2) (0, 0) false) (by simp [results, Tryd.results27, go_sem, q0, q1, q2, q3, q4, q5, q6, q7, q8, q9]) rfl ⟨rfl, hc⟩
set_option maxHeartbeats 8000000 in
set_option maxRecDepth 20000 in
theorem made_4 (n a0 a1 a2 a3 b0 b1 b2 b3 : Int) (w : World) (hm : Int.tmod n 8 = 4) (u0 : 0 ≤ a0) (v0 : a0 ≤ 255) (u1 : 0 ≤ a1) (v1 : a1 ≤ 255) (u2 : 0 ≤ a2) (v2 : a2 ≤ 255) (u3 : 0 ≤ a3) (v3 : a3 ≤ 255) :
    Ret 27 #[.int .u8 n, .agg #[.int .u8 a0, .int .u8 a1, .int .u8 a2, .int .u8 a3], .agg #[.int .u32 b0, .int .u32 b1, .int .u32 b2, .int .u32 b3]] w (obR 4 (lrf a0 b0) (lrf a1 b1) (lrf a2 b2) (lrf a3 b3) false) := by
  have hc : Below w.heap.size w ((((w.alloc (.cells #[.int .u8 a0, .int .u8 a1, .int .u8 a2, .int .u8 a3] 56)).alloc (.cells #[.int .u32 b0, .int .u32 b1, .int .u32 b2, .int .u32 b3] 57)).alloc (.cells ob0C 27)).alloc (.cells (obC 4 0 0 0 0 0 0 0 0 false) 27)) := by go_grown
  have rA : Row ((((w.alloc (.cells #[.int .u8 a0, .int .u8 a1, .int .u8 a2, .int .u8 a3] 56)).alloc (.cells #[.int .u32 b0, .int .u32 b1, .int .u32 b2, .int .u32 b3] 57)).alloc (.cells ob0C 27)).alloc (.cells (obC 4 0 0 0 0 0 0 0 0 false) 27)) w.heap.size #[.int .u8 a0, .int .u8 a1, .int .u8 a2, .int .u8 a3] 56 := ((Row.new.on (below_alloc _ _)).on (below_alloc _ _)).on (below_alloc _ _)
  have rB : Row ((((w.alloc (.cells #[.int .u8 a0, .int .u8 a1, .int .u8 a2, .int .u8 a3] 56)).alloc (.cells #[.int .u32 b0, .int .u32 b1, .int .u32 b2, .int .u32 b3] 57)).alloc (.cells ob0C 27)).alloc (.cells (obC 4 0 0 0 0 0 0 0 0 false) 27)) (w.heap.size + 1) #[.int .u32 b0, .int .u32 b1, .int .u32 b2, .int .u32 b3] 57 := by
    have h := ((Row.new (W := w.alloc (.cells #[.int .u8 a0, .int .u8 a1, .int .u8 a2, .int .u8 a3] 56)) (cs := #[.int .u32 b0, .int .u32 b1, .int .u32 b2, .int .u32 b3]) (t := 57)).on (below_alloc _ (.cells ob0C 27))).on (below_alloc _ (.cells (obC 4 0 0 0 0 0 0 0 0 false) 27))
    rw [World.size_alloc] at h
    exact h
  have rC : Row ((((w.alloc (.cells #[.int .u8 a0, .int .u8 a1, .int .u8 a2, .int .u8 a3] 56)).alloc (.cells #[.int .u32 b0, .int .u32 b1, .int .u32 b2, .int .u32 b3] 57)).alloc (.cells ob0C 27)).alloc (.cells (obC 4 0 0 0 0 0 0 0 0 false) 27)) (w.heap.size + 1 + 1) ob0C 27 := by
    have h := (Row.new (W := (w.alloc (.cells #[.int .u8 a0, .int .u8 a1, .int .u8 a2, .int .u8 a3] 56)).alloc (.cells #[.int .u32 b0, .int .u32 b1, .int .u32 b2, .int .u32 b3] 57)) (cs := ob0C) (t := 27)).on (below_alloc _ (.cells (obC 4 0 0 0 0 0 0 0 0 false) 27))
    rw [World.size_alloc, World.size_alloc] at h
    exact h
  have rO : Row ((((w.alloc (.cells #[.int .u8 a0, .int .u8 a1, .int .u8 a2, .int .u8 a3] 56)).alloc (.cells #[.int .u32 b0, .int .u32 b1, .int .u32 b2, .int .u32 b3] 57)).alloc (.cells ob0C 27)).alloc (.cells (obC 4 0 0 0 0 0 0 0 0 false) 27)) (w.heap.size + 1 + 1 + 1) (obC 4 0 0 0 0 0 0 0 0 false) 27 := by
    have h := Row.new (W := ((w.alloc (.cells #[.int .u8 a0, .int .u8 a1, .int .u8 a2, .int .u8 a3] 56)).alloc (.cells #[.int .u32 b0, .int .u32 b1, .int .u32 b2, .int .u32 b3] 57)).alloc (.cells ob0C 27)) (cs := (obC 4 0 0 0 0 0 0 0 0 false)) (t := 27)
    rw [World.size_alloc, World.size_alloc, World.size_alloc] at h
    exact h
  have h1 : w.heap.size + 1 + 1 + 1 ≠ w.heap.size := by omega
  have h2 : w.heap.size + 1 + 1 + 1 ≠ w.heap.size + 1 := by omega
  have h3 : w.heap.size + 1 + 1 + 1 ≠ w.heap.size + 1 + 1 := by omega
  have h4 : w.heap.size ≤ w.heap.size + 1 + 1 + 1 := by omega
  have h5 : w.heap.size ≤ w.heap.size + 1 + 1 := by omega
  have RA := Lib.hid rA
  have RB := Lib.hid rB
  have RC := Lib.hid rC
  have RO := Lib.hid rO
  have HC := Lib.hid hc
  clear rA rB rC rO hc
  go_enter Tryd.func27, Tryd.ntmps27
  go_wp2_with fail
  have rA := RA.out
  have rB := RB.out
  have rC := RC.out
  have rO := RO.out
  have hc := HC.out
  clear RA RB RC RO HC
  generalize ((((w.alloc (.cells #[.int .u8 a0, .int .u8 a1, .int .u8 a2, .int .u8 a3] 56)).alloc (.cells #[.int .u32 b0, .int .u32 b1, .int .u32 b2, .int .u32 b3] 57)).alloc (.cells ob0C 27)).alloc (.cells (obC 4 0 0 0 0 0 0 0 0 false) 27)) = W at *
  generalize w.heap.size + 1 + 1 + 1 = xO at *
  generalize w.heap.size + 1 + 1 = xC at *
  generalize w.heap.size + 1 = xB at *
  generalize hxA : w.heap.size = xA at rA h1 ⊢
  refine wp_loop_rounds 5 ?_
  rw [rounds_succ]
  go_wp2_with fail
  refine wp_region_held_drew (S := fun W' => (∀ j, W'.cell? ⟨xA, j, none⟩ = (#[.int .u8 a0, .int .u8 a1, .int .u8 a2, .int .u8 a3] : Array Value)[j]?) ∧ (∀ j, W'.cell? ⟨xB, j, none⟩ = (#[.int .u32 b0, .int .u32 b1, .int .u32 b2, .int .u32 b3] : Array Value)[j]?)) (by kernel_rfl) ⟨rA.cell, rB.cell⟩ (fun hHeld => ?_)
  replace rA := rA.drew
  replace rB := rB.drew
  replace rC := rC.drew
  replace rO := rO.drew
  replace hc := hc.drew
  generalize W.drew = V0 at *
  refine' wpAnyH_take (i := 0) (oi := _) (v := _) ?_ (by kernel_rfl) (by kernel_rfl) (by kernel_rfl) ?_ (Or.inl ⟨?_, ?_⟩) (by assumption) ?_
  rotate_left 2
  · (simp only [List.getElem?_toArray, List.getElem?_cons_succ, List.getElem?_cons_zero]; rfl)
  · first | exact fun _ _ _ h => h | exact fun _ _ _ h => nomatch h.1
  · rfl
  · (intro W hSW; (try dsimp only at hSW); go_split_ands; first | (go_simp; done) | (go_simp; with_reducible rfl))
  try simp only [Act.put, List.setIfInBounds_toArray, List.set_cons_zero, List.set_cons_succ]
  refine' wpAnyH_take (i := 1) (oi := _) (v := _) ?_ (by kernel_rfl) (by kernel_rfl) (by kernel_rfl) ?_ (Or.inl ⟨?_, ?_⟩) (by assumption) ?_
  rotate_left 2
  · (simp only [List.getElem?_toArray, List.getElem?_cons_succ, List.getElem?_cons_zero]; rfl)
  · first | exact fun _ _ _ h => h | exact fun _ _ _ h => nomatch h.1
  · rfl
  · (intro W hSW; (try dsimp only at hSW); go_split_ands; first | (go_simp; done) | (go_simp; with_reducible rfl))
  try simp only [Act.put, List.setIfInBounds_toArray, List.set_cons_zero, List.set_cons_succ]
  refine' wpAnyH_take (i := 2) (oi := _) (v := _) ?_ (by kernel_rfl) (by kernel_rfl) (by kernel_rfl) ?_ (Or.inl ⟨?_, ?_⟩) (by assumption) ?_
  rotate_left 2
  · (simp only [List.getElem?_toArray, List.getElem?_cons_succ, List.getElem?_cons_zero]; rfl)
  · first | exact fun _ _ _ h => h | exact fun _ _ _ h => nomatch h.1
  · rfl
  · (intro W hSW; (try dsimp only at hSW); go_split_ands; first | (go_simp; done) | (go_simp; with_reducible rfl))
  try simp only [Act.put, List.setIfInBounds_toArray, List.set_cons_zero, List.set_cons_succ]
  refine' wpAnyH_take (i := 3) (oi := _) (v := _) ?_ (by kernel_rfl) (by kernel_rfl) (by kernel_rfl) ?_ (Or.inl ⟨?_, ?_⟩) (by assumption) ?_
  rotate_left 2
  · (simp only [List.getElem?_toArray, List.getElem?_cons_succ, List.getElem?_cons_zero]; rfl)
  · first | exact fun _ _ _ h => h | exact fun _ _ _ h => nomatch h.1
  · rfl
  · (intro W hSW; (try dsimp only at hSW); go_split_ands; first | (go_simp; done) | (go_simp; with_reducible rfl))
  try simp only [Act.put, List.setIfInBounds_toArray, List.set_cons_zero, List.set_cons_succ]
  refine' wpAnyH_take (i := 4) (oi := _) (v := _) ?_ (by kernel_rfl) (by kernel_rfl) (by kernel_rfl) ?_ (Or.inl ⟨?_, ?_⟩) (by assumption) ?_
  rotate_left 2
  · (simp only [List.getElem?_toArray, List.getElem?_cons_succ, List.getElem?_cons_zero]; rfl)
  · first | exact fun _ _ _ h => h | exact fun _ _ _ h => nomatch h.1
  · rfl
  · (intro W hSW; (try dsimp only at hSW); go_split_ands; first | (go_simp; done) | (go_simp; with_reducible rfl))
  try simp only [Act.put, List.setIfInBounds_toArray, List.set_cons_zero, List.set_cons_succ]
  refine' wpAnyH_take (i := 5) (oi := _) (v := _) ?_ (by kernel_rfl) (by kernel_rfl) (by kernel_rfl) ?_ (Or.inl ⟨?_, ?_⟩) (by assumption) ?_
  rotate_left 2
  · (simp only [List.getElem?_toArray, List.getElem?_cons_succ, List.getElem?_cons_zero]; rfl)
  · first | exact fun _ _ _ h => h | exact fun _ _ _ h => nomatch h.1
  · rfl
  · (intro W hSW; (try dsimp only at hSW); go_split_ands; first | (go_simp; done) | (go_simp; with_reducible rfl))
  try simp only [Act.put, List.setIfInBounds_toArray, List.set_cons_zero, List.set_cons_succ]
  refine' wpAnyH_take (i := 6) (oi := _) (v := _) ?_ (by kernel_rfl) (by kernel_rfl) (by kernel_rfl) ?_ (Or.inl ⟨?_, ?_⟩) (by assumption) ?_
  rotate_left 2
  · (simp only [List.getElem?_toArray, List.getElem?_cons_succ, List.getElem?_cons_zero]; rfl)
  · first | exact fun _ _ _ h => h | exact fun _ _ _ h => nomatch h.1
  · rfl
  · (intro W hSW; (try dsimp only at hSW); go_split_ands; first | (go_simp; done) | (go_simp; with_reducible rfl))
  try simp only [Act.put, List.setIfInBounds_toArray, List.set_cons_zero, List.set_cons_succ]
  refine' wpAnyH_take (i := 8) (oi := _) (v := _) ?_ (by kernel_rfl) (by kernel_rfl) (by kernel_rfl) ?_ (Or.inl ⟨?_, ?_⟩) (by assumption) ?_
  rotate_left 2
  · (simp only [List.getElem?_toArray, List.getElem?_cons_succ, List.getElem?_cons_zero]; rfl)
  · first | exact fun _ _ _ h => h | exact fun _ _ _ h => nomatch h.1
  · rfl
  · (intro W hSW; (try dsimp only at hSW); go_split_ands; first | (go_simp; done) | (go_simp; with_reducible rfl))
  try simp only [Act.put, List.setIfInBounds_toArray, List.set_cons_zero, List.set_cons_succ]
  refine wpAnyH_ready (rs := [7]) (by kernel_rfl) (by simp) ?_
  refine' AllReadyH.cons (o := _) ?_ (fun K hK => ?_) AllReadyH.nil
  rotate_left 1
  · (simp only [List.getElem?_toArray, List.getElem?_cons_succ, List.getElem?_cons_zero]; rfl)
  go_simp
  refine Calls.mono (lref_c a0 b0 _ u0 v0) ?_
  rintro e V0' ⟨rfl, hb⟩
  replace rA := rA.on hb
  replace rB := rB.on hb
  replace rC := rC.on hb
  replace rO := rO.on hb
  replace hc := chain hc hb
  go_simp
  refine hK.out _ _ ⟨rA.cell, rB.cell⟩ (fun _ => ?_)
  clear hK K hb
  refine' wpAnyH_take (i := 9) (oi := _) (v := _) ?_ (by kernel_rfl) (by kernel_rfl) (by kernel_rfl) ?_ (Or.inl ⟨?_, ?_⟩) (by assumption) ?_
  rotate_left 2
  · (simp only [List.getElem?_toArray, List.getElem?_cons_succ, List.getElem?_cons_zero]; rfl)
  · first | exact fun _ _ _ h => h | exact fun _ _ _ h => nomatch h.1
  · rfl
  · (intro W hSW; (try dsimp only at hSW); go_split_ands; first | (go_simp; done) | (go_simp; with_reducible rfl))
  try simp only [Act.put, List.setIfInBounds_toArray, List.set_cons_zero, List.set_cons_succ]
  have y0 := rO.cell
  have y1 := rO.free
  have y2 := rO.lt
  refine wpAnyH_ready (rs := [10]) (by kernel_rfl) (by simp) ?_
  refine' AllReadyH.cons (o := _) ?_ (fun K hK => ?_) AllReadyH.nil
  rotate_left 1
  · (simp only [List.getElem?_toArray, List.getElem?_cons_succ, List.getElem?_cons_zero]; rfl)
  go_simp
  clear y0 y1 y2
  replace rA := (rA.other h1 1 (.int .i64 (lrf a0 b0).1)).other h1 2 (.int .u32 (lrf a0 b0).2)
  replace rB := (rB.other h2 1 (.int .i64 (lrf a0 b0).1)).other h2 2 (.int .u32 (lrf a0 b0).2)
  replace rC := (rC.other h3 1 (.int .i64 (lrf a0 b0).1)).other h3 2 (.int .u32 (lrf a0 b0).2)
  replace rO := (rO.set 1 (.int .i64 (lrf a0 b0).1)).set 2 (.int .u32 (lrf a0 b0).2)
  replace hc := (hc.setCell (p := ⟨xO, 1, none⟩) h4 (.int .i64 (lrf a0 b0).1)).setCell (p := ⟨xO, 2, none⟩) h4 (.int .u32 (lrf a0 b0).2)
  simp only [List.setIfInBounds_toArray, List.set_cons_zero, List.set_cons_succ] at rO
  generalize hW : World.setCell _ _ _ = U0 at *
  clear hW
  refine hK.out _ _ ⟨rA.cell, rB.cell⟩ (fun _ => ?_)
  clear hK K
  refine wpAnyH_done (by kernel_rfl) ?_ _
  go_wp2_with fail
  rw [rounds_succ]
  go_wp2_with fail
  refine wp_region_held_drew (S := fun W' => (∀ j, W'.cell? ⟨xA, j, none⟩ = (#[.int .u8 a0, .int .u8 a1, .int .u8 a2, .int .u8 a3] : Array Value)[j]?) ∧ (∀ j, W'.cell? ⟨xB, j, none⟩ = (#[.int .u32 b0, .int .u32 b1, .int .u32 b2, .int .u32 b3] : Array Value)[j]?)) (by kernel_rfl) ⟨rA.cell, rB.cell⟩ (fun hHeld => ?_)
  replace rA := rA.drew
  replace rB := rB.drew
  replace rC := rC.drew
  replace rO := rO.drew
  replace hc := hc.drew
  generalize U0.drew = V1 at *
  refine' wpAnyH_take (i := 0) (oi := _) (v := _) ?_ (by kernel_rfl) (by kernel_rfl) (by kernel_rfl) ?_ (Or.inl ⟨?_, ?_⟩) (by assumption) ?_
  rotate_left 2
  · (simp only [List.getElem?_toArray, List.getElem?_cons_succ, List.getElem?_cons_zero]; rfl)
  · first | exact fun _ _ _ h => h | exact fun _ _ _ h => nomatch h.1
  · rfl
  · (intro W hSW; (try dsimp only at hSW); go_split_ands; first | (go_simp; done) | (go_simp; with_reducible rfl))
  try simp only [Act.put, List.setIfInBounds_toArray, List.set_cons_zero, List.set_cons_succ]
  refine' wpAnyH_take (i := 1) (oi := _) (v := _) ?_ (by kernel_rfl) (by kernel_rfl) (by kernel_rfl) ?_ (Or.inl ⟨?_, ?_⟩) (by assumption) ?_
  rotate_left 2
  · (simp only [List.getElem?_toArray, List.getElem?_cons_succ, List.getElem?_cons_zero]; rfl)
  · first | exact fun _ _ _ h => h | exact fun _ _ _ h => nomatch h.1
  · rfl
  · (intro W hSW; (try dsimp only at hSW); go_split_ands; first | (go_simp; done) | (go_simp; with_reducible rfl))
  try simp only [Act.put, List.setIfInBounds_toArray, List.set_cons_zero, List.set_cons_succ]
  refine' wpAnyH_take (i := 2) (oi := _) (v := _) ?_ (by kernel_rfl) (by kernel_rfl) (by kernel_rfl) ?_ (Or.inl ⟨?_, ?_⟩) (by assumption) ?_
  rotate_left 2
  · (simp only [List.getElem?_toArray, List.getElem?_cons_succ, List.getElem?_cons_zero]; rfl)
  · first | exact fun _ _ _ h => h | exact fun _ _ _ h => nomatch h.1
  · rfl
  · (intro W hSW; (try dsimp only at hSW); go_split_ands; first | (go_simp; done) | (go_simp; with_reducible rfl))
  try simp only [Act.put, List.setIfInBounds_toArray, List.set_cons_zero, List.set_cons_succ]
  refine' wpAnyH_take (i := 3) (oi := _) (v := _) ?_ (by kernel_rfl) (by kernel_rfl) (by kernel_rfl) ?_ (Or.inl ⟨?_, ?_⟩) (by assumption) ?_
  rotate_left 2
  · (simp only [List.getElem?_toArray, List.getElem?_cons_succ, List.getElem?_cons_zero]; rfl)
  · first | exact fun _ _ _ h => h | exact fun _ _ _ h => nomatch h.1
  · rfl
  · (intro W hSW; (try dsimp only at hSW); go_split_ands; first | (go_simp; done) | (go_simp; with_reducible rfl))
  try simp only [Act.put, List.setIfInBounds_toArray, List.set_cons_zero, List.set_cons_succ]
  refine' wpAnyH_take (i := 4) (oi := _) (v := _) ?_ (by kernel_rfl) (by kernel_rfl) (by kernel_rfl) ?_ (Or.inl ⟨?_, ?_⟩) (by assumption) ?_
  rotate_left 2
  · (simp only [List.getElem?_toArray, List.getElem?_cons_succ, List.getElem?_cons_zero]; rfl)
  · first | exact fun _ _ _ h => h | exact fun _ _ _ h => nomatch h.1
  · rfl
  · (intro W hSW; (try dsimp only at hSW); go_split_ands; first | (go_simp; done) | (go_simp; with_reducible rfl))
  try simp only [Act.put, List.setIfInBounds_toArray, List.set_cons_zero, List.set_cons_succ]
  refine' wpAnyH_take (i := 5) (oi := _) (v := _) ?_ (by kernel_rfl) (by kernel_rfl) (by kernel_rfl) ?_ (Or.inl ⟨?_, ?_⟩) (by assumption) ?_
  rotate_left 2
  · (simp only [List.getElem?_toArray, List.getElem?_cons_succ, List.getElem?_cons_zero]; rfl)
  · first | exact fun _ _ _ h => h | exact fun _ _ _ h => nomatch h.1
  · rfl
  · (intro W hSW; (try dsimp only at hSW); go_split_ands; first | (go_simp; done) | (go_simp; with_reducible rfl))
  try simp only [Act.put, List.setIfInBounds_toArray, List.set_cons_zero, List.set_cons_succ]
  refine' wpAnyH_take (i := 6) (oi := _) (v := _) ?_ (by kernel_rfl) (by kernel_rfl) (by kernel_rfl) ?_ (Or.inl ⟨?_, ?_⟩) (by assumption) ?_
  rotate_left 2
  · (simp only [List.getElem?_toArray, List.getElem?_cons_succ, List.getElem?_cons_zero]; rfl)
  · first | exact fun _ _ _ h => h | exact fun _ _ _ h => nomatch h.1
  · rfl
  · (intro W hSW; (try dsimp only at hSW); go_split_ands; first | (go_simp; done) | (go_simp; with_reducible rfl))
  try simp only [Act.put, List.setIfInBounds_toArray, List.set_cons_zero, List.set_cons_succ]
  refine' wpAnyH_take (i := 8) (oi := _) (v := _) ?_ (by kernel_rfl) (by kernel_rfl) (by kernel_rfl) ?_ (Or.inl ⟨?_, ?_⟩) (by assumption) ?_
  rotate_left 2
  · (simp only [List.getElem?_toArray, List.getElem?_cons_succ, List.getElem?_cons_zero]; rfl)
  · first | exact fun _ _ _ h => h | exact fun _ _ _ h => nomatch h.1
  · rfl
  · (intro W hSW; (try dsimp only at hSW); go_split_ands; first | (go_simp; done) | (go_simp; with_reducible rfl))
  try simp only [Act.put, List.setIfInBounds_toArray, List.set_cons_zero, List.set_cons_succ]
  refine wpAnyH_ready (rs := [7]) (by kernel_rfl) (by simp) ?_
  refine' AllReadyH.cons (o := _) ?_ (fun K hK => ?_) AllReadyH.nil
  rotate_left 1
  · (simp only [List.getElem?_toArray, List.getElem?_cons_succ, List.getElem?_cons_zero]; rfl)
  go_simp
  refine Calls.mono (lref_c a1 b1 _ u1 v1) ?_
  rintro e V1' ⟨rfl, hb⟩
  replace rA := rA.on hb
  replace rB := rB.on hb
  replace rC := rC.on hb
  replace rO := rO.on hb
  replace hc := chain hc hb
  go_simp
  refine hK.out _ _ ⟨rA.cell, rB.cell⟩ (fun _ => ?_)
  clear hK K hb
  refine' wpAnyH_take (i := 9) (oi := _) (v := _) ?_ (by kernel_rfl) (by kernel_rfl) (by kernel_rfl) ?_ (Or.inl ⟨?_, ?_⟩) (by assumption) ?_
  rotate_left 2
  · (simp only [List.getElem?_toArray, List.getElem?_cons_succ, List.getElem?_cons_zero]; rfl)
  · first | exact fun _ _ _ h => h | exact fun _ _ _ h => nomatch h.1
  · rfl
  · (intro W hSW; (try dsimp only at hSW); go_split_ands; first | (go_simp; done) | (go_simp; with_reducible rfl))
  try simp only [Act.put, List.setIfInBounds_toArray, List.set_cons_zero, List.set_cons_succ]
  have y0 := rO.cell
  have y1 := rO.free
  have y2 := rO.lt
  refine wpAnyH_ready (rs := [10]) (by kernel_rfl) (by simp) ?_
  refine' AllReadyH.cons (o := _) ?_ (fun K hK => ?_) AllReadyH.nil
  rotate_left 1
  · (simp only [List.getElem?_toArray, List.getElem?_cons_succ, List.getElem?_cons_zero]; rfl)
  go_simp
  clear y0 y1 y2
  replace rA := (rA.other h1 3 (.int .i64 (lrf a1 b1).1)).other h1 4 (.int .u32 (lrf a1 b1).2)
  replace rB := (rB.other h2 3 (.int .i64 (lrf a1 b1).1)).other h2 4 (.int .u32 (lrf a1 b1).2)
  replace rC := (rC.other h3 3 (.int .i64 (lrf a1 b1).1)).other h3 4 (.int .u32 (lrf a1 b1).2)
  replace rO := (rO.set 3 (.int .i64 (lrf a1 b1).1)).set 4 (.int .u32 (lrf a1 b1).2)
  replace hc := (hc.setCell (p := ⟨xO, 3, none⟩) h4 (.int .i64 (lrf a1 b1).1)).setCell (p := ⟨xO, 4, none⟩) h4 (.int .u32 (lrf a1 b1).2)
  simp only [List.setIfInBounds_toArray, List.set_cons_zero, List.set_cons_succ] at rO
  generalize hW : World.setCell _ _ _ = U1 at *
  clear hW
  refine hK.out _ _ ⟨rA.cell, rB.cell⟩ (fun _ => ?_)
  clear hK K
  refine wpAnyH_done (by kernel_rfl) ?_ _
  go_wp2_with fail
  rw [rounds_succ]
  go_wp2_with fail
  refine wp_region_held_drew (S := fun W' => (∀ j, W'.cell? ⟨xA, j, none⟩ = (#[.int .u8 a0, .int .u8 a1, .int .u8 a2, .int .u8 a3] : Array Value)[j]?) ∧ (∀ j, W'.cell? ⟨xB, j, none⟩ = (#[.int .u32 b0, .int .u32 b1, .int .u32 b2, .int .u32 b3] : Array Value)[j]?)) (by kernel_rfl) ⟨rA.cell, rB.cell⟩ (fun hHeld => ?_)
  replace rA := rA.drew
  replace rB := rB.drew
  replace rC := rC.drew
  replace rO := rO.drew
  replace hc := hc.drew
  generalize U1.drew = V2 at *
  refine' wpAnyH_take (i := 0) (oi := _) (v := _) ?_ (by kernel_rfl) (by kernel_rfl) (by kernel_rfl) ?_ (Or.inl ⟨?_, ?_⟩) (by assumption) ?_
  rotate_left 2
  · (simp only [List.getElem?_toArray, List.getElem?_cons_succ, List.getElem?_cons_zero]; rfl)
  · first | exact fun _ _ _ h => h | exact fun _ _ _ h => nomatch h.1
  · rfl
  · (intro W hSW; (try dsimp only at hSW); go_split_ands; first | (go_simp; done) | (go_simp; with_reducible rfl))
  try simp only [Act.put, List.setIfInBounds_toArray, List.set_cons_zero, List.set_cons_succ]
  refine' wpAnyH_take (i := 1) (oi := _) (v := _) ?_ (by kernel_rfl) (by kernel_rfl) (by kernel_rfl) ?_ (Or.inl ⟨?_, ?_⟩) (by assumption) ?_
  rotate_left 2
  · (simp only [List.getElem?_toArray, List.getElem?_cons_succ, List.getElem?_cons_zero]; rfl)
  · first | exact fun _ _ _ h => h | exact fun _ _ _ h => nomatch h.1
  · rfl
  · (intro W hSW; (try dsimp only at hSW); go_split_ands; first | (go_simp; done) | (go_simp; with_reducible rfl))
  try simp only [Act.put, List.setIfInBounds_toArray, List.set_cons_zero, List.set_cons_succ]
  refine' wpAnyH_take (i := 2) (oi := _) (v := _) ?_ (by kernel_rfl) (by kernel_rfl) (by kernel_rfl) ?_ (Or.inl ⟨?_, ?_⟩) (by assumption) ?_
  rotate_left 2
  · (simp only [List.getElem?_toArray, List.getElem?_cons_succ, List.getElem?_cons_zero]; rfl)
  · first | exact fun _ _ _ h => h | exact fun _ _ _ h => nomatch h.1
  · rfl
  · (intro W hSW; (try dsimp only at hSW); go_split_ands; first | (go_simp; done) | (go_simp; with_reducible rfl))
  try simp only [Act.put, List.setIfInBounds_toArray, List.set_cons_zero, List.set_cons_succ]
  refine' wpAnyH_take (i := 3) (oi := _) (v := _) ?_ (by kernel_rfl) (by kernel_rfl) (by kernel_rfl) ?_ (Or.inl ⟨?_, ?_⟩) (by assumption) ?_
  rotate_left 2
  · (simp only [List.getElem?_toArray, List.getElem?_cons_succ, List.getElem?_cons_zero]; rfl)
  · first | exact fun _ _ _ h => h | exact fun _ _ _ h => nomatch h.1
  · rfl
  · (intro W hSW; (try dsimp only at hSW); go_split_ands; first | (go_simp; done) | (go_simp; with_reducible rfl))
  try simp only [Act.put, List.setIfInBounds_toArray, List.set_cons_zero, List.set_cons_succ]
  refine' wpAnyH_take (i := 4) (oi := _) (v := _) ?_ (by kernel_rfl) (by kernel_rfl) (by kernel_rfl) ?_ (Or.inl ⟨?_, ?_⟩) (by assumption) ?_
  rotate_left 2
  · (simp only [List.getElem?_toArray, List.getElem?_cons_succ, List.getElem?_cons_zero]; rfl)
  · first | exact fun _ _ _ h => h | exact fun _ _ _ h => nomatch h.1
  · rfl
  · (intro W hSW; (try dsimp only at hSW); go_split_ands; first | (go_simp; done) | (go_simp; with_reducible rfl))
  try simp only [Act.put, List.setIfInBounds_toArray, List.set_cons_zero, List.set_cons_succ]
  refine' wpAnyH_take (i := 5) (oi := _) (v := _) ?_ (by kernel_rfl) (by kernel_rfl) (by kernel_rfl) ?_ (Or.inl ⟨?_, ?_⟩) (by assumption) ?_
  rotate_left 2
  · (simp only [List.getElem?_toArray, List.getElem?_cons_succ, List.getElem?_cons_zero]; rfl)
  · first | exact fun _ _ _ h => h | exact fun _ _ _ h => nomatch h.1
  · rfl
  · (intro W hSW; (try dsimp only at hSW); go_split_ands; first | (go_simp; done) | (go_simp; with_reducible rfl))
  try simp only [Act.put, List.setIfInBounds_toArray, List.set_cons_zero, List.set_cons_succ]
  refine' wpAnyH_take (i := 6) (oi := _) (v := _) ?_ (by kernel_rfl) (by kernel_rfl) (by kernel_rfl) ?_ (Or.inl ⟨?_, ?_⟩) (by assumption) ?_
  rotate_left 2
  · (simp only [List.getElem?_toArray, List.getElem?_cons_succ, List.getElem?_cons_zero]; rfl)
  · first | exact fun _ _ _ h => h | exact fun _ _ _ h => nomatch h.1
  · rfl
  · (intro W hSW; (try dsimp only at hSW); go_split_ands; first | (go_simp; done) | (go_simp; with_reducible rfl))
  try simp only [Act.put, List.setIfInBounds_toArray, List.set_cons_zero, List.set_cons_succ]
  refine' wpAnyH_take (i := 8) (oi := _) (v := _) ?_ (by kernel_rfl) (by kernel_rfl) (by kernel_rfl) ?_ (Or.inl ⟨?_, ?_⟩) (by assumption) ?_
  rotate_left 2
  · (simp only [List.getElem?_toArray, List.getElem?_cons_succ, List.getElem?_cons_zero]; rfl)
  · first | exact fun _ _ _ h => h | exact fun _ _ _ h => nomatch h.1
  · rfl
  · (intro W hSW; (try dsimp only at hSW); go_split_ands; first | (go_simp; done) | (go_simp; with_reducible rfl))
  try simp only [Act.put, List.setIfInBounds_toArray, List.set_cons_zero, List.set_cons_succ]
  refine wpAnyH_ready (rs := [7]) (by kernel_rfl) (by simp) ?_
  refine' AllReadyH.cons (o := _) ?_ (fun K hK => ?_) AllReadyH.nil
  rotate_left 1
  · (simp only [List.getElem?_toArray, List.getElem?_cons_succ, List.getElem?_cons_zero]; rfl)
  go_simp
  refine Calls.mono (lref_c a2 b2 _ u2 v2) ?_
  rintro e V2' ⟨rfl, hb⟩
  replace rA := rA.on hb
  replace rB := rB.on hb
  replace rC := rC.on hb
  replace rO := rO.on hb
  replace hc := chain hc hb
  go_simp
  refine hK.out _ _ ⟨rA.cell, rB.cell⟩ (fun _ => ?_)
  clear hK K hb
  refine' wpAnyH_take (i := 9) (oi := _) (v := _) ?_ (by kernel_rfl) (by kernel_rfl) (by kernel_rfl) ?_ (Or.inl ⟨?_, ?_⟩) (by assumption) ?_
  rotate_left 2
  · (simp only [List.getElem?_toArray, List.getElem?_cons_succ, List.getElem?_cons_zero]; rfl)
  · first | exact fun _ _ _ h => h | exact fun _ _ _ h => nomatch h.1
  · rfl
  · (intro W hSW; (try dsimp only at hSW); go_split_ands; first | (go_simp; done) | (go_simp; with_reducible rfl))
  try simp only [Act.put, List.setIfInBounds_toArray, List.set_cons_zero, List.set_cons_succ]
  have y0 := rO.cell
  have y1 := rO.free
  have y2 := rO.lt
  refine wpAnyH_ready (rs := [10]) (by kernel_rfl) (by simp) ?_
  refine' AllReadyH.cons (o := _) ?_ (fun K hK => ?_) AllReadyH.nil
  rotate_left 1
  · (simp only [List.getElem?_toArray, List.getElem?_cons_succ, List.getElem?_cons_zero]; rfl)
  go_simp
  clear y0 y1 y2
  replace rA := (rA.other h1 5 (.int .i64 (lrf a2 b2).1)).other h1 6 (.int .u32 (lrf a2 b2).2)
  replace rB := (rB.other h2 5 (.int .i64 (lrf a2 b2).1)).other h2 6 (.int .u32 (lrf a2 b2).2)
  replace rC := (rC.other h3 5 (.int .i64 (lrf a2 b2).1)).other h3 6 (.int .u32 (lrf a2 b2).2)
  replace rO := (rO.set 5 (.int .i64 (lrf a2 b2).1)).set 6 (.int .u32 (lrf a2 b2).2)
  replace hc := (hc.setCell (p := ⟨xO, 5, none⟩) h4 (.int .i64 (lrf a2 b2).1)).setCell (p := ⟨xO, 6, none⟩) h4 (.int .u32 (lrf a2 b2).2)
  simp only [List.setIfInBounds_toArray, List.set_cons_zero, List.set_cons_succ] at rO
  generalize hW : World.setCell _ _ _ = U2 at *
  clear hW
  refine hK.out _ _ ⟨rA.cell, rB.cell⟩ (fun _ => ?_)
  clear hK K
  refine wpAnyH_done (by kernel_rfl) ?_ _
  go_wp2_with fail
  rw [rounds_succ]
  go_wp2_with fail
  refine wp_region_held_drew (S := fun W' => (∀ j, W'.cell? ⟨xA, j, none⟩ = (#[.int .u8 a0, .int .u8 a1, .int .u8 a2, .int .u8 a3] : Array Value)[j]?) ∧ (∀ j, W'.cell? ⟨xB, j, none⟩ = (#[.int .u32 b0, .int .u32 b1, .int .u32 b2, .int .u32 b3] : Array Value)[j]?)) (by kernel_rfl) ⟨rA.cell, rB.cell⟩ (fun hHeld => ?_)
  replace rA := rA.drew
  replace rB := rB.drew
  replace rC := rC.drew
  replace rO := rO.drew
  replace hc := hc.drew
  generalize U2.drew = V3 at *
  refine' wpAnyH_take (i := 0) (oi := _) (v := _) ?_ (by kernel_rfl) (by kernel_rfl) (by kernel_rfl) ?_ (Or.inl ⟨?_, ?_⟩) (by assumption) ?_
  rotate_left 2
  · (simp only [List.getElem?_toArray, List.getElem?_cons_succ, List.getElem?_cons_zero]; rfl)
  · first | exact fun _ _ _ h => h | exact fun _ _ _ h => nomatch h.1
  · rfl
  · (intro W hSW; (try dsimp only at hSW); go_split_ands; first | (go_simp; done) | (go_simp; with_reducible rfl))
  try simp only [Act.put, List.setIfInBounds_toArray, List.set_cons_zero, List.set_cons_succ]
  refine' wpAnyH_take (i := 1) (oi := _) (v := _) ?_ (by kernel_rfl) (by kernel_rfl) (by kernel_rfl) ?_ (Or.inl ⟨?_, ?_⟩) (by assumption) ?_
  rotate_left 2
  · (simp only [List.getElem?_toArray, List.getElem?_cons_succ, List.getElem?_cons_zero]; rfl)
  · first | exact fun _ _ _ h => h | exact fun _ _ _ h => nomatch h.1
  · rfl
  · (intro W hSW; (try dsimp only at hSW); go_split_ands; first | (go_simp; done) | (go_simp; with_reducible rfl))
  try simp only [Act.put, List.setIfInBounds_toArray, List.set_cons_zero, List.set_cons_succ]
  refine' wpAnyH_take (i := 2) (oi := _) (v := _) ?_ (by kernel_rfl) (by kernel_rfl) (by kernel_rfl) ?_ (Or.inl ⟨?_, ?_⟩) (by assumption) ?_
  rotate_left 2
  · (simp only [List.getElem?_toArray, List.getElem?_cons_succ, List.getElem?_cons_zero]; rfl)
  · first | exact fun _ _ _ h => h | exact fun _ _ _ h => nomatch h.1
  · rfl
  · (intro W hSW; (try dsimp only at hSW); go_split_ands; first | (go_simp; done) | (go_simp; with_reducible rfl))
  try simp only [Act.put, List.setIfInBounds_toArray, List.set_cons_zero, List.set_cons_succ]
  refine' wpAnyH_take (i := 3) (oi := _) (v := _) ?_ (by kernel_rfl) (by kernel_rfl) (by kernel_rfl) ?_ (Or.inl ⟨?_, ?_⟩) (by assumption) ?_
  rotate_left 2
  · (simp only [List.getElem?_toArray, List.getElem?_cons_succ, List.getElem?_cons_zero]; rfl)
  · first | exact fun _ _ _ h => h | exact fun _ _ _ h => nomatch h.1
  · rfl
  · (intro W hSW; (try dsimp only at hSW); go_split_ands; first | (go_simp; done) | (go_simp; with_reducible rfl))
  try simp only [Act.put, List.setIfInBounds_toArray, List.set_cons_zero, List.set_cons_succ]
  refine' wpAnyH_take (i := 4) (oi := _) (v := _) ?_ (by kernel_rfl) (by kernel_rfl) (by kernel_rfl) ?_ (Or.inl ⟨?_, ?_⟩) (by assumption) ?_
  rotate_left 2
  · (simp only [List.getElem?_toArray, List.getElem?_cons_succ, List.getElem?_cons_zero]; rfl)
  · first | exact fun _ _ _ h => h | exact fun _ _ _ h => nomatch h.1
  · rfl
  · (intro W hSW; (try dsimp only at hSW); go_split_ands; first | (go_simp; done) | (go_simp; with_reducible rfl))
  try simp only [Act.put, List.setIfInBounds_toArray, List.set_cons_zero, List.set_cons_succ]
  refine' wpAnyH_take (i := 5) (oi := _) (v := _) ?_ (by kernel_rfl) (by kernel_rfl) (by kernel_rfl) ?_ (Or.inl ⟨?_, ?_⟩) (by assumption) ?_
  rotate_left 2
  · (simp only [List.getElem?_toArray, List.getElem?_cons_succ, List.getElem?_cons_zero]; rfl)
  · first | exact fun _ _ _ h => h | exact fun _ _ _ h => nomatch h.1
  · rfl
  · (intro W hSW; (try dsimp only at hSW); go_split_ands; first | (go_simp; done) | (go_simp; with_reducible rfl))
  try simp only [Act.put, List.setIfInBounds_toArray, List.set_cons_zero, List.set_cons_succ]
  refine' wpAnyH_take (i := 6) (oi := _) (v := _) ?_ (by kernel_rfl) (by kernel_rfl) (by kernel_rfl) ?_ (Or.inl ⟨?_, ?_⟩) (by assumption) ?_
  rotate_left 2
  · (simp only [List.getElem?_toArray, List.getElem?_cons_succ, List.getElem?_cons_zero]; rfl)
  · first | exact fun _ _ _ h => h | exact fun _ _ _ h => nomatch h.1
  · rfl
  · (intro W hSW; (try dsimp only at hSW); go_split_ands; first | (go_simp; done) | (go_simp; with_reducible rfl))
  try simp only [Act.put, List.setIfInBounds_toArray, List.set_cons_zero, List.set_cons_succ]
  refine' wpAnyH_take (i := 8) (oi := _) (v := _) ?_ (by kernel_rfl) (by kernel_rfl) (by kernel_rfl) ?_ (Or.inl ⟨?_, ?_⟩) (by assumption) ?_
  rotate_left 2
  · (simp only [List.getElem?_toArray, List.getElem?_cons_succ, List.getElem?_cons_zero]; rfl)
  · first | exact fun _ _ _ h => h | exact fun _ _ _ h => nomatch h.1
  · rfl
  · (intro W hSW; (try dsimp only at hSW); go_split_ands; first | (go_simp; done) | (go_simp; with_reducible rfl))
  try simp only [Act.put, List.setIfInBounds_toArray, List.set_cons_zero, List.set_cons_succ]
  refine wpAnyH_ready (rs := [7]) (by kernel_rfl) (by simp) ?_
  refine' AllReadyH.cons (o := _) ?_ (fun K hK => ?_) AllReadyH.nil
  rotate_left 1
  · (simp only [List.getElem?_toArray, List.getElem?_cons_succ, List.getElem?_cons_zero]; rfl)
  go_simp
  refine Calls.mono (lref_c a3 b3 _ u3 v3) ?_
  rintro e V3' ⟨rfl, hb⟩
  replace rA := rA.on hb
  replace rB := rB.on hb
  replace rC := rC.on hb
  replace rO := rO.on hb
  replace hc := chain hc hb
  go_simp
  refine hK.out _ _ ⟨rA.cell, rB.cell⟩ (fun _ => ?_)
  clear hK K hb
  refine' wpAnyH_take (i := 9) (oi := _) (v := _) ?_ (by kernel_rfl) (by kernel_rfl) (by kernel_rfl) ?_ (Or.inl ⟨?_, ?_⟩) (by assumption) ?_
  rotate_left 2
  · (simp only [List.getElem?_toArray, List.getElem?_cons_succ, List.getElem?_cons_zero]; rfl)
  · first | exact fun _ _ _ h => h | exact fun _ _ _ h => nomatch h.1
  · rfl
  · (intro W hSW; (try dsimp only at hSW); go_split_ands; first | (go_simp; done) | (go_simp; with_reducible rfl))
  try simp only [Act.put, List.setIfInBounds_toArray, List.set_cons_zero, List.set_cons_succ]
  have y0 := rO.cell
  have y1 := rO.free
  have y2 := rO.lt
  refine wpAnyH_ready (rs := [10]) (by kernel_rfl) (by simp) ?_
  refine' AllReadyH.cons (o := _) ?_ (fun K hK => ?_) AllReadyH.nil
  rotate_left 1
  · (simp only [List.getElem?_toArray, List.getElem?_cons_succ, List.getElem?_cons_zero]; rfl)
  go_simp
  clear y0 y1 y2
  replace rA := (rA.other h1 7 (.int .i64 (lrf a3 b3).1)).other h1 8 (.int .u32 (lrf a3 b3).2)
  replace rB := (rB.other h2 7 (.int .i64 (lrf a3 b3).1)).other h2 8 (.int .u32 (lrf a3 b3).2)
  replace rC := (rC.other h3 7 (.int .i64 (lrf a3 b3).1)).other h3 8 (.int .u32 (lrf a3 b3).2)
  replace rO := (rO.set 7 (.int .i64 (lrf a3 b3).1)).set 8 (.int .u32 (lrf a3 b3).2)
  replace hc := (hc.setCell (p := ⟨xO, 7, none⟩) h4 (.int .i64 (lrf a3 b3).1)).setCell (p := ⟨xO, 8, none⟩) h4 (.int .u32 (lrf a3 b3).2)
  simp only [List.setIfInBounds_toArray, List.set_cons_zero, List.set_cons_succ] at rO
  generalize hW : World.setCell _ _ _ = U3 at *
  clear hW
  refine hK.out _ _ ⟨rA.cell, rB.cell⟩ (fun _ => ?_)
  clear hK K
  refine wpAnyH_done (by kernel_rfl) ?_ _
  go_wp2_with fail
  rw [rounds_succ]
  have y0 := rO.cell
  have y2 := rO.lt
  have y3 := rC.cell
  have y4 := rC.free
  have y5 := rC.lt
  go_wp2_with fail
  clear y0 y2 y3 y4 y5
  replace rC := ((((((((((rC.set 0 (.int .i64 4)).set 1 (.int .i64 (lrf a0 b0).1)).set 2 (.int .u32 (lrf a0 b0).2)).set 3 (.int .i64 (lrf a1 b1).1)).set 4 (.int .u32 (lrf a1 b1).2)).set 5 (.int .i64 (lrf a2 b2).1)).set 6 (.int .u32 (lrf a2 b2).2)).set 7 (.int .i64 (lrf a3 b3).1)).set 8 (.int .u32 (lrf a3 b3).2)).set 9 (.bool false))
  replace hc := ((((((((((hc.setCell (p := ⟨xC, 0, none⟩) h5 (.int .i64 4)).setCell (p := ⟨xC, 1, none⟩) h5 (.int .i64 (lrf a0 b0).1)).setCell (p := ⟨xC, 2, none⟩) h5 (.int .u32 (lrf a0 b0).2)).setCell (p := ⟨xC, 3, none⟩) h5 (.int .i64 (lrf a1 b1).1)).setCell (p := ⟨xC, 4, none⟩) h5 (.int .u32 (lrf a1 b1).2)).setCell (p := ⟨xC, 5, none⟩) h5 (.int .i64 (lrf a2 b2).1)).setCell (p := ⟨xC, 6, none⟩) h5 (.int .u32 (lrf a2 b2).2)).setCell (p := ⟨xC, 7, none⟩) h5 (.int .i64 (lrf a3 b3).1)).setCell (p := ⟨xC, 8, none⟩) h5 (.int .u32 (lrf a3 b3).2)).setCell (p := ⟨xC, 9, none⟩) h5 (.bool false))
  simp only [List.setIfInBounds_toArray, List.set_cons_zero, List.set_cons_succ] at rC
  generalize hW : World.setCell _ _ _ = Z at *
  clear hW
  have q0 := rC.cell 0
  have q1 := rC.cell 1
  have q2 := rC.cell 2
  have q3 := rC.cell 3
  have q4 := rC.cell 4
  have q5 := rC.cell 5
  have q6 := rC.cell 6
  have q7 := rC.cell 7
  have q8 := rC.cell 8
  have q9 := rC.cell 9
  simp only [List.getElem?_toArray, List.getElem?_cons_succ, List.getElem?_cons_zero] at q0 q1 q2 q3 q4 q5 q6 q7 q8 q9
  clear rA rB rC rO
  refine bodyPost_ret (v := obR 4 (lrf a0 b0) (lrf a1 b1) (lrf a2 b2) (lrf a3 b3) false) (by simp [results, Tryd.results27, go_sem, q0, q1, q2, q3, q4, q5, q6, q7, q8, q9]) rfl ⟨rfl, hc⟩
theorem made_c (n a0 a1 a2 a3 b0 b1 b2 b3 : Int) (n0 : 0 ≤ n) (n1 : n ≤ 255) (u0 : 0 ≤ a0) (v0 : a0 ≤ 255) (u1 : 0 ≤ a1) (v1 : a1 ≤ 255) (u2 : 0 ≤ a2) (v2 : a2 ≤ 255) (u3 : 0 ≤ a3) (v3 : a3 ≤ 255)
    (p0 : 0 ≤ b0) (q0 : b0 ≤ 4294967295) (p1 : 0 ≤ b1) (q1 : b1 ≤ 4294967295) (p2 : 0 ≤ b2) (q2 : b2 ≤ 4294967295) (p3 : 0 ≤ b3) (q3 : b3 ≤ 4294967295) :
    ∃ (N : Int) (A B C D : Rf) (H : Bool), oOk N A B C D H = true ∧ ∀ w, Ret 27 #[.int .u8 n, .agg #[.int .u8 a0, .int .u8 a1, .int .u8 a2, .int .u8 a3], .agg #[.int .u32 b0, .int .u32 b1, .int .u32 b2, .int .u32 b3]] w (obR N A B C D H) := by
  have f0 := lrf_fit a0 b0 u0 v0 p0 q0
  have f1 := lrf_fit a1 b1 u1 v1 p1 q1
  have f2 := lrf_fit a2 b2 u2 v2 p2 q2
  have f3 := lrf_fit a3 b3 u3 v3 p3 q3
  have ht : Int.tmod n 8 = n % 8 := Int.tmod_eq_emod_of_nonneg n0
  rcases (by omega : n % 8 = 0 ∨ n % 8 = 1 ∨ n % 8 = 2 ∨ n % 8 = 3 ∨ n % 8 = 4 ∨ (4 < n % 8 ∧ n % 8 < 8)) with h | h | h | h | h | h
  · exact ⟨0, (0, 0), (0, 0), (0, 0), (0, 0), false, by decide, fun w => made_0 n a0 a1 a2 a3 b0 b1 b2 b3 w (ht.trans h) u0 v0 u1 v1 u2 v2 u3 v3⟩
  · exact ⟨1, lrf a0 b0, (0, 0), (0, 0), (0, 0), false, oOk_iff.2 ⟨by omega, by simp, fOk_of f0 (by omega), fOk_zero _ _, fOk_zero _ _, fOk_zero _ _⟩, fun w => made_1 n a0 a1 a2 a3 b0 b1 b2 b3 w (ht.trans h) u0 v0 u1 v1 u2 v2 u3 v3⟩
  · exact ⟨2, lrf a0 b0, lrf a1 b1, (0, 0), (0, 0), false, oOk_iff.2 ⟨by omega, by simp, fOk_of f0 (by omega), fOk_of f1 (by omega), fOk_zero _ _, fOk_zero _ _⟩, fun w => made_2 n a0 a1 a2 a3 b0 b1 b2 b3 w (ht.trans h) u0 v0 u1 v1 u2 v2 u3 v3⟩
  · exact ⟨3, lrf a0 b0, lrf a1 b1, lrf a2 b2, (0, 0), false, oOk_iff.2 ⟨by omega, by simp, fOk_of f0 (by omega), fOk_of f1 (by omega), fOk_of f2 (by omega), fOk_zero _ _⟩, fun w => made_3 n a0 a1 a2 a3 b0 b1 b2 b3 w (ht.trans h) u0 v0 u1 v1 u2 v2 u3 v3⟩
  · exact ⟨4, lrf a0 b0, lrf a1 b1, lrf a2 b2, lrf a3 b3, false, oOk_iff.2 ⟨by omega, by simp, fOk_of f0 (by omega), fOk_of f1 (by omega), fOk_of f2 (by omega), fOk_of f3 (by omega)⟩, fun w => made_4 n a0 a1 a2 a3 b0 b1 b2 b3 w (ht.trans h) u0 v0 u1 v1 u2 v2 u3 v3⟩
  · exact ⟨0, (0, 0), (0, 0), (0, 0), (0, 0), decide (n % 8 = 7), oOk_iff.2 ⟨by omega, fun _ => rfl, fOk_zero _ _, fOk_zero _ _, fOk_zero _ _, fOk_zero _ _⟩, fun w => made_hi n _ a0 a1 a2 a3 b0 b1 b2 b3 w ht h.1 h.2⟩
end Go.Proofs.YtpegkcmomkdoeaaDoor
