/- The reference's New, Close, Tried, Due, Over: their contracts. -/
import Derived.Test.YtkjpdciccablpaaGreatDoorHRRes1
namespace Go.Proofs.YtkjpdciccablpaaGreatDoor
open Go.RowKit
set_option linter.unusedVariables false
set_option linter.unusedSimpArgs false

set_option maxHeartbeats 8000000 in
set_option maxRecDepth 20000 in
theorem rclose_e (k i g st wy tr nx why now e : Int) (tag : ByteArray) (w : World) (g0 : 0 ≤ g) (hs : tag.size ≤ 1000000) (he : rErr k i g st wy tr nx tag = e) (hne : e ≠ 0) : Ret 36 #[rV k i g st wy tr nx tag, .int .i64 why, .int .i64 now] w (.tuple #[r0V, .int .i64 e]) := by
  have p0 : (e != 0) = true := by rw [bne_iff_ne]; exact hne
  have c0 := fun w => rrerr_c k i g st wy tr nx tag w g0 hs
  rw [he] at c0
  have C0 := Lib.hid c0
  clear c0
  go_enter Tryz.func36, Tryz.ntmps36
  go_wp2_with fail
  have r1 := (Row.new (W := w) (cs := (rC k i g st wy tr nx tag)) (t := 94)).on (below_alloc _ (.cells (rC 0 0 0 0 0 0 0 ⟨#[]⟩) 94))
  have r2 := Row.new (W := w.alloc (.cells (rC k i g st wy tr nx tag) 94)) (cs := (rC 0 0 0 0 0 0 0 ⟨#[]⟩)) (t := 94)
  rw [World.size_alloc] at r2
  have hc := ((Below.refl w.heap.size w).alloc (Nat.le_refl _) (.cells (rC k i g st wy tr nx tag) 94)).alloc (by simp) (.cells (rC 0 0 0 0 0 0 0 ⟨#[]⟩) 94)
  generalize (w.alloc (.cells (rC k i g st wy tr nx tag) 94)).alloc (.cells (rC 0 0 0 0 0 0 0 ⟨#[]⟩) 94) = W at *
  have h12 : w.heap.size ≠ w.heap.size + 1 := by omega
  have hp : w.heap.size ≤ w.heap.size + 1 := Nat.le_succ _
  generalize w.heap.size + 1 = p2 at *
  obtain ⟨p1, hp1⟩ : ∃ p1, w.heap.size = p1 := ⟨_, rfl⟩
  rw [hp1] at r1 h12
  rw [hp1]
  refine Calls.mono (C0.out _) ?_
  rintro e V0 ⟨rfl, hb⟩
  replace r1 := r1.on hb
  replace r2 := r2.on hb
  replace hc := chain hc hb
  clear hb
  have y2 := r2.cell
  have y2f := r2.free
  have y2l := r2.lt
  have y1 := r1.cell
  have y1l := r1.lt
  go_wp2_with fail
  clear y2 y2f y2l y1 y1l
  replace r2 := ((((((((r2.set 0 (.int .i64 0)).set 1 (.int .i64 0)).set 2 (.int .u32 0)).set 3 (.int .i64 0)).set 4 (.int .i64 0)).set 5 (.int .i64 0)).set 6 (.int .i64 0)).set 7 (.string ⟨#[]⟩))
  replace hc := ((((((((hc.setCell (p := ⟨p2, 0, none⟩) hp (.int .i64 0)).setCell (p := ⟨p2, 1, none⟩) hp (.int .i64 0)).setCell (p := ⟨p2, 2, none⟩) hp (.int .u32 0)).setCell (p := ⟨p2, 3, none⟩) hp (.int .i64 0)).setCell (p := ⟨p2, 4, none⟩) hp (.int .i64 0)).setCell (p := ⟨p2, 5, none⟩) hp (.int .i64 0)).setCell (p := ⟨p2, 6, none⟩) hp (.int .i64 0)).setCell (p := ⟨p2, 7, none⟩) hp (.string ⟨#[]⟩))
  simp only [List.setIfInBounds_toArray, List.set_cons_zero, List.set_cons_succ] at r2
  generalize hW : World.setCell _ _ _ = Z9 at *
  clear hW
  have q0 := r2.cell 0
  have q1 := r2.cell 1
  have q2 := r2.cell 2
  have q3 := r2.cell 3
  have q4 := r2.cell 4
  have q5 := r2.cell 5
  have q6 := r2.cell 6
  have q7 := r2.cell 7
  simp only [List.getElem?_toArray, List.getElem?_cons_succ, List.getElem?_cons_zero] at q0 q1 q2 q3 q4 q5 q6 q7
  clear r2 r1
  refine bodyPost_ret (v := .tuple #[r0V, .int .i64 e]) (by simp [results, Tryz.results36, go_sem, q0, q1, q2, q3, q4, q5, q6, q7]) rfl ⟨rfl, by first | exact hc | (rw [← hp1]; exact hc)⟩

set_option maxHeartbeats 8000000 in
set_option maxRecDepth 20000 in
theorem rclose_w (k i g st wy tr nx why now e : Int) (tag : ByteArray) (w : World) (g0 : 0 ≤ g) (hs : tag.size ≤ 1000000) (he : rErr k i g st wy tr nx tag = 0) (h1 : inB why 1 3 = false) : Ret 36 #[rV k i g st wy tr nx tag, .int .i64 why, .int .i64 now] w (.tuple #[r0V, .int .i64 2]) := by
  have c0 := fun w => rrerr_c k i g st wy tr nx tag w g0 hs
  rw [he] at c0
  have C0 := Lib.hid c0
  clear c0
  have c1 := fun w => rwhy_c why w
  rw [h1] at c1
  have C1 := Lib.hid c1
  clear c1
  go_enter Tryz.func36, Tryz.ntmps36
  go_wp2_with fail
  have r1 := (Row.new (W := w) (cs := (rC k i g st wy tr nx tag)) (t := 94)).on (below_alloc _ (.cells (rC 0 0 0 0 0 0 0 ⟨#[]⟩) 94))
  have r2 := Row.new (W := w.alloc (.cells (rC k i g st wy tr nx tag) 94)) (cs := (rC 0 0 0 0 0 0 0 ⟨#[]⟩)) (t := 94)
  rw [World.size_alloc] at r2
  have hc := ((Below.refl w.heap.size w).alloc (Nat.le_refl _) (.cells (rC k i g st wy tr nx tag) 94)).alloc (by simp) (.cells (rC 0 0 0 0 0 0 0 ⟨#[]⟩) 94)
  generalize (w.alloc (.cells (rC k i g st wy tr nx tag) 94)).alloc (.cells (rC 0 0 0 0 0 0 0 ⟨#[]⟩) 94) = W at *
  have h12 : w.heap.size ≠ w.heap.size + 1 := by omega
  have hp : w.heap.size ≤ w.heap.size + 1 := Nat.le_succ _
  generalize w.heap.size + 1 = p2 at *
  obtain ⟨p1, hp1⟩ : ∃ p1, w.heap.size = p1 := ⟨_, rfl⟩
  rw [hp1] at r1 h12
  rw [hp1]
  refine Calls.mono (C0.out _) ?_
  rintro e V0 ⟨rfl, hb⟩
  replace r1 := r1.on hb
  replace r2 := r2.on hb
  replace hc := chain hc hb
  clear hb
  have y1 := r1.cell
  have y1l := r1.lt
  go_wp2_with fail
  clear y1 y1l
  refine Calls.mono (C1.out _) ?_
  rintro e V1 ⟨rfl, hb⟩
  replace r1 := r1.on hb
  replace r2 := r2.on hb
  replace hc := chain hc hb
  clear hb
  have y2 := r2.cell
  have y2f := r2.free
  have y2l := r2.lt
  have y1 := r1.cell
  have y1l := r1.lt
  go_wp2_with fail
  clear y2 y2f y2l y1 y1l
  replace r2 := ((((((((r2.set 0 (.int .i64 0)).set 1 (.int .i64 0)).set 2 (.int .u32 0)).set 3 (.int .i64 0)).set 4 (.int .i64 0)).set 5 (.int .i64 0)).set 6 (.int .i64 0)).set 7 (.string ⟨#[]⟩))
  replace hc := ((((((((hc.setCell (p := ⟨p2, 0, none⟩) hp (.int .i64 0)).setCell (p := ⟨p2, 1, none⟩) hp (.int .i64 0)).setCell (p := ⟨p2, 2, none⟩) hp (.int .u32 0)).setCell (p := ⟨p2, 3, none⟩) hp (.int .i64 0)).setCell (p := ⟨p2, 4, none⟩) hp (.int .i64 0)).setCell (p := ⟨p2, 5, none⟩) hp (.int .i64 0)).setCell (p := ⟨p2, 6, none⟩) hp (.int .i64 0)).setCell (p := ⟨p2, 7, none⟩) hp (.string ⟨#[]⟩))
  simp only [List.setIfInBounds_toArray, List.set_cons_zero, List.set_cons_succ] at r2
  generalize hW : World.setCell _ _ _ = Z9 at *
  clear hW
  have q0 := r2.cell 0
  have q1 := r2.cell 1
  have q2 := r2.cell 2
  have q3 := r2.cell 3
  have q4 := r2.cell 4
  have q5 := r2.cell 5
  have q6 := r2.cell 6
  have q7 := r2.cell 7
  simp only [List.getElem?_toArray, List.getElem?_cons_succ, List.getElem?_cons_zero] at q0 q1 q2 q3 q4 q5 q6 q7
  clear r2 r1
  refine bodyPost_ret (v := .tuple #[r0V, .int .i64 2]) (by simp [results, Tryz.results36, go_sem, q0, q1, q2, q3, q4, q5, q6, q7]) rfl ⟨rfl, by first | exact hc | (rw [← hp1]; exact hc)⟩

set_option maxHeartbeats 8000000 in
set_option maxRecDepth 20000 in
theorem rclose_t (k i g st wy tr nx why now e : Int) (tag : ByteArray) (w : World) (g0 : 0 ≤ g) (hs : tag.size ≤ 1000000) (he : rErr k i g st wy tr nx tag = 0) (h1 : inB why 1 3 = true) (h2 : isT now = false) : Ret 36 #[rV k i g st wy tr nx tag, .int .i64 why, .int .i64 now] w (.tuple #[r0V, .int .i64 2]) := by
  have c0 := fun w => rrerr_c k i g st wy tr nx tag w g0 hs
  rw [he] at c0
  have C0 := Lib.hid c0
  clear c0
  have c1 := fun w => rwhy_c why w
  rw [h1] at c1
  have C1 := Lib.hid c1
  clear c1
  have c2 := fun w => rtime_c now w
  rw [h2] at c2
  have C2 := Lib.hid c2
  clear c2
  go_enter Tryz.func36, Tryz.ntmps36
  go_wp2_with fail
  have r1 := (Row.new (W := w) (cs := (rC k i g st wy tr nx tag)) (t := 94)).on (below_alloc _ (.cells (rC 0 0 0 0 0 0 0 ⟨#[]⟩) 94))
  have r2 := Row.new (W := w.alloc (.cells (rC k i g st wy tr nx tag) 94)) (cs := (rC 0 0 0 0 0 0 0 ⟨#[]⟩)) (t := 94)
  rw [World.size_alloc] at r2
  have hc := ((Below.refl w.heap.size w).alloc (Nat.le_refl _) (.cells (rC k i g st wy tr nx tag) 94)).alloc (by simp) (.cells (rC 0 0 0 0 0 0 0 ⟨#[]⟩) 94)
  generalize (w.alloc (.cells (rC k i g st wy tr nx tag) 94)).alloc (.cells (rC 0 0 0 0 0 0 0 ⟨#[]⟩) 94) = W at *
  have h12 : w.heap.size ≠ w.heap.size + 1 := by omega
  have hp : w.heap.size ≤ w.heap.size + 1 := Nat.le_succ _
  generalize w.heap.size + 1 = p2 at *
  obtain ⟨p1, hp1⟩ : ∃ p1, w.heap.size = p1 := ⟨_, rfl⟩
  rw [hp1] at r1 h12
  rw [hp1]
  refine Calls.mono (C0.out _) ?_
  rintro e V0 ⟨rfl, hb⟩
  replace r1 := r1.on hb
  replace r2 := r2.on hb
  replace hc := chain hc hb
  clear hb
  have y1 := r1.cell
  have y1l := r1.lt
  go_wp2_with fail
  clear y1 y1l
  refine Calls.mono (C1.out _) ?_
  rintro e V1 ⟨rfl, hb⟩
  replace r1 := r1.on hb
  replace r2 := r2.on hb
  replace hc := chain hc hb
  clear hb
  have y1 := r1.cell
  have y1l := r1.lt
  go_wp2_with fail
  clear y1 y1l
  refine Calls.mono (C2.out _) ?_
  rintro e V2 ⟨rfl, hb⟩
  replace r1 := r1.on hb
  replace r2 := r2.on hb
  replace hc := chain hc hb
  clear hb
  have y2 := r2.cell
  have y2f := r2.free
  have y2l := r2.lt
  have y1 := r1.cell
  have y1l := r1.lt
  go_wp2_with fail
  clear y2 y2f y2l y1 y1l
  replace r2 := ((((((((r2.set 0 (.int .i64 0)).set 1 (.int .i64 0)).set 2 (.int .u32 0)).set 3 (.int .i64 0)).set 4 (.int .i64 0)).set 5 (.int .i64 0)).set 6 (.int .i64 0)).set 7 (.string ⟨#[]⟩))
  replace hc := ((((((((hc.setCell (p := ⟨p2, 0, none⟩) hp (.int .i64 0)).setCell (p := ⟨p2, 1, none⟩) hp (.int .i64 0)).setCell (p := ⟨p2, 2, none⟩) hp (.int .u32 0)).setCell (p := ⟨p2, 3, none⟩) hp (.int .i64 0)).setCell (p := ⟨p2, 4, none⟩) hp (.int .i64 0)).setCell (p := ⟨p2, 5, none⟩) hp (.int .i64 0)).setCell (p := ⟨p2, 6, none⟩) hp (.int .i64 0)).setCell (p := ⟨p2, 7, none⟩) hp (.string ⟨#[]⟩))
  simp only [List.setIfInBounds_toArray, List.set_cons_zero, List.set_cons_succ] at r2
  generalize hW : World.setCell _ _ _ = Z9 at *
  clear hW
  have q0 := r2.cell 0
  have q1 := r2.cell 1
  have q2 := r2.cell 2
  have q3 := r2.cell 3
  have q4 := r2.cell 4
  have q5 := r2.cell 5
  have q6 := r2.cell 6
  have q7 := r2.cell 7
  simp only [List.getElem?_toArray, List.getElem?_cons_succ, List.getElem?_cons_zero] at q0 q1 q2 q3 q4 q5 q6 q7
  clear r2 r1
  refine bodyPost_ret (v := .tuple #[r0V, .int .i64 2]) (by simp [results, Tryz.results36, go_sem, q0, q1, q2, q3, q4, q5, q6, q7]) rfl ⟨rfl, by first | exact hc | (rw [← hp1]; exact hc)⟩

set_option maxHeartbeats 8000000 in
set_option maxRecDepth 20000 in
theorem rclose_s (k i g st wy tr nx why now e : Int) (tag : ByteArray) (w : World) (g0 : 0 ≤ g) (hs : tag.size ≤ 1000000) (he : rErr k i g st wy tr nx tag = 0) (h1 : inB why 1 3 = true) (h2 : isT now = true) (h3 : st ≠ 1) : Ret 36 #[rV k i g st wy tr nx tag, .int .i64 why, .int .i64 now] w (.tuple #[r0V, .int .i64 8]) := by
  have p0 : (st != 1) = true := by rw [bne_iff_ne]; omega
  have c0 := fun w => rrerr_c k i g st wy tr nx tag w g0 hs
  rw [he] at c0
  have C0 := Lib.hid c0
  clear c0
  have c1 := fun w => rwhy_c why w
  rw [h1] at c1
  have C1 := Lib.hid c1
  clear c1
  have c2 := fun w => rtime_c now w
  rw [h2] at c2
  have C2 := Lib.hid c2
  clear c2
  go_enter Tryz.func36, Tryz.ntmps36
  go_wp2_with fail
  have r1 := (Row.new (W := w) (cs := (rC k i g st wy tr nx tag)) (t := 94)).on (below_alloc _ (.cells (rC 0 0 0 0 0 0 0 ⟨#[]⟩) 94))
  have r2 := Row.new (W := w.alloc (.cells (rC k i g st wy tr nx tag) 94)) (cs := (rC 0 0 0 0 0 0 0 ⟨#[]⟩)) (t := 94)
  rw [World.size_alloc] at r2
  have hc := ((Below.refl w.heap.size w).alloc (Nat.le_refl _) (.cells (rC k i g st wy tr nx tag) 94)).alloc (by simp) (.cells (rC 0 0 0 0 0 0 0 ⟨#[]⟩) 94)
  generalize (w.alloc (.cells (rC k i g st wy tr nx tag) 94)).alloc (.cells (rC 0 0 0 0 0 0 0 ⟨#[]⟩) 94) = W at *
  have h12 : w.heap.size ≠ w.heap.size + 1 := by omega
  have hp : w.heap.size ≤ w.heap.size + 1 := Nat.le_succ _
  generalize w.heap.size + 1 = p2 at *
  obtain ⟨p1, hp1⟩ : ∃ p1, w.heap.size = p1 := ⟨_, rfl⟩
  rw [hp1] at r1 h12
  rw [hp1]
  refine Calls.mono (C0.out _) ?_
  rintro e V0 ⟨rfl, hb⟩
  replace r1 := r1.on hb
  replace r2 := r2.on hb
  replace hc := chain hc hb
  clear hb
  have y1 := r1.cell
  have y1l := r1.lt
  go_wp2_with fail
  clear y1 y1l
  refine Calls.mono (C1.out _) ?_
  rintro e V1 ⟨rfl, hb⟩
  replace r1 := r1.on hb
  replace r2 := r2.on hb
  replace hc := chain hc hb
  clear hb
  have y1 := r1.cell
  have y1l := r1.lt
  go_wp2_with fail
  clear y1 y1l
  refine Calls.mono (C2.out _) ?_
  rintro e V2 ⟨rfl, hb⟩
  replace r1 := r1.on hb
  replace r2 := r2.on hb
  replace hc := chain hc hb
  clear hb
  have y2 := r2.cell
  have y2f := r2.free
  have y2l := r2.lt
  have y1 := r1.cell
  have y1l := r1.lt
  go_wp2_with fail
  clear y2 y2f y2l y1 y1l
  replace r2 := ((((((((r2.set 0 (.int .i64 0)).set 1 (.int .i64 0)).set 2 (.int .u32 0)).set 3 (.int .i64 0)).set 4 (.int .i64 0)).set 5 (.int .i64 0)).set 6 (.int .i64 0)).set 7 (.string ⟨#[]⟩))
  replace hc := ((((((((hc.setCell (p := ⟨p2, 0, none⟩) hp (.int .i64 0)).setCell (p := ⟨p2, 1, none⟩) hp (.int .i64 0)).setCell (p := ⟨p2, 2, none⟩) hp (.int .u32 0)).setCell (p := ⟨p2, 3, none⟩) hp (.int .i64 0)).setCell (p := ⟨p2, 4, none⟩) hp (.int .i64 0)).setCell (p := ⟨p2, 5, none⟩) hp (.int .i64 0)).setCell (p := ⟨p2, 6, none⟩) hp (.int .i64 0)).setCell (p := ⟨p2, 7, none⟩) hp (.string ⟨#[]⟩))
  simp only [List.setIfInBounds_toArray, List.set_cons_zero, List.set_cons_succ] at r2
  generalize hW : World.setCell _ _ _ = Z9 at *
  clear hW
  have q0 := r2.cell 0
  have q1 := r2.cell 1
  have q2 := r2.cell 2
  have q3 := r2.cell 3
  have q4 := r2.cell 4
  have q5 := r2.cell 5
  have q6 := r2.cell 6
  have q7 := r2.cell 7
  simp only [List.getElem?_toArray, List.getElem?_cons_succ, List.getElem?_cons_zero] at q0 q1 q2 q3 q4 q5 q6 q7
  clear r2 r1
  refine bodyPost_ret (v := .tuple #[r0V, .int .i64 8]) (by simp [results, Tryz.results36, go_sem, q0, q1, q2, q3, q4, q5, q6, q7]) rfl ⟨rfl, by first | exact hc | (rw [← hp1]; exact hc)⟩

set_option maxHeartbeats 8000000 in
set_option maxRecDepth 20000 in
theorem rclose_ok (k i g st wy tr nx why now e : Int) (tag : ByteArray) (w : World) (g0 : 0 ≤ g) (hs : tag.size ≤ 1000000) (he : rErr k i g st wy tr nx tag = 0) (h1 : inB why 1 3 = true) (h2 : isT now = true) (h3 : st = 1) : Ret 36 #[rV k i g st wy tr nx tag, .int .i64 why, .int .i64 now] w (.tuple #[rV k i g 2 why tr now tag, .int .i64 0]) := by
  have p0 : (st != 1) = false := by rw [bne_eq_false_iff_eq]; omega
  have c0 := fun w => rrerr_c k i g st wy tr nx tag w g0 hs
  rw [he] at c0
  have C0 := Lib.hid c0
  clear c0
  have c1 := fun w => rwhy_c why w
  rw [h1] at c1
  have C1 := Lib.hid c1
  clear c1
  have c2 := fun w => rtime_c now w
  rw [h2] at c2
  have C2 := Lib.hid c2
  clear c2
  clear h3
  go_enter Tryz.func36, Tryz.ntmps36
  go_wp2_with fail
  have r1 := (Row.new (W := w) (cs := (rC k i g st wy tr nx tag)) (t := 94)).on (below_alloc _ (.cells (rC 0 0 0 0 0 0 0 ⟨#[]⟩) 94))
  have r2 := Row.new (W := w.alloc (.cells (rC k i g st wy tr nx tag) 94)) (cs := (rC 0 0 0 0 0 0 0 ⟨#[]⟩)) (t := 94)
  rw [World.size_alloc] at r2
  have hc := ((Below.refl w.heap.size w).alloc (Nat.le_refl _) (.cells (rC k i g st wy tr nx tag) 94)).alloc (by simp) (.cells (rC 0 0 0 0 0 0 0 ⟨#[]⟩) 94)
  generalize (w.alloc (.cells (rC k i g st wy tr nx tag) 94)).alloc (.cells (rC 0 0 0 0 0 0 0 ⟨#[]⟩) 94) = W at *
  have h12 : w.heap.size ≠ w.heap.size + 1 := by omega
  have hp : w.heap.size ≤ w.heap.size + 1 := Nat.le_succ _
  generalize w.heap.size + 1 = p2 at *
  obtain ⟨p1, hp1⟩ : ∃ p1, w.heap.size = p1 := ⟨_, rfl⟩
  rw [hp1] at r1 h12
  rw [hp1]
  refine Calls.mono (C0.out _) ?_
  rintro e V0 ⟨rfl, hb⟩
  replace r1 := r1.on hb
  replace r2 := r2.on hb
  replace hc := chain hc hb
  clear hb
  have y1 := r1.cell
  have y1l := r1.lt
  go_wp2_with fail
  clear y1 y1l
  refine Calls.mono (C1.out _) ?_
  rintro e V1 ⟨rfl, hb⟩
  replace r1 := r1.on hb
  replace r2 := r2.on hb
  replace hc := chain hc hb
  clear hb
  have y1 := r1.cell
  have y1l := r1.lt
  go_wp2_with fail
  clear y1 y1l
  refine Calls.mono (C2.out _) ?_
  rintro e V2 ⟨rfl, hb⟩
  replace r1 := r1.on hb
  replace r2 := r2.on hb
  replace hc := chain hc hb
  clear hb
  have y1 := r1.cell
  have y1f := r1.free
  have y1l := r1.lt
  go_upto_region 11 with fail
  clear y1 y1f y1l
  replace r2 := (((r2.other h12 3 (.int .i64 2)).other h12 4 (.int .i64 why)).other h12 6 (.int .i64 now))
  replace hc := (((hc.setCell (p := ⟨p1, 3, none⟩) (Nat.le_of_eq hp1) (.int .i64 2)).setCell (p := ⟨p1, 4, none⟩) (Nat.le_of_eq hp1) (.int .i64 why)).setCell (p := ⟨p1, 6, none⟩) (Nat.le_of_eq hp1) (.int .i64 now))
  replace r1 := (((r1.set 3 (.int .i64 2)).set 4 (.int .i64 why)).set 6 (.int .i64 now))
  simp only [List.setIfInBounds_toArray, List.set_cons_zero, List.set_cons_succ] at r1
  generalize hW : World.setCell _ _ _ = X at *
  clear hW
  have y2 := r2.cell
  have y2f := r2.free
  have y2l := r2.lt
  have y1 := r1.cell
  have y1l := r1.lt
  go_wp2_with fail
  clear y2 y2f y2l y1 y1l
  replace r2 := ((((((((r2.set 0 (.int .i64 k)).set 1 (.int .i64 i)).set 2 (.int .u32 g)).set 3 (.int .i64 2)).set 4 (.int .i64 why)).set 5 (.int .i64 tr)).set 6 (.int .i64 now)).set 7 (.string tag))
  replace hc := ((((((((hc.setCell (p := ⟨p2, 0, none⟩) hp (.int .i64 k)).setCell (p := ⟨p2, 1, none⟩) hp (.int .i64 i)).setCell (p := ⟨p2, 2, none⟩) hp (.int .u32 g)).setCell (p := ⟨p2, 3, none⟩) hp (.int .i64 2)).setCell (p := ⟨p2, 4, none⟩) hp (.int .i64 why)).setCell (p := ⟨p2, 5, none⟩) hp (.int .i64 tr)).setCell (p := ⟨p2, 6, none⟩) hp (.int .i64 now)).setCell (p := ⟨p2, 7, none⟩) hp (.string tag))
  simp only [List.setIfInBounds_toArray, List.set_cons_zero, List.set_cons_succ] at r2
  generalize hW : World.setCell _ _ _ = Z9 at *
  clear hW
  have q0 := r2.cell 0
  have q1 := r2.cell 1
  have q2 := r2.cell 2
  have q3 := r2.cell 3
  have q4 := r2.cell 4
  have q5 := r2.cell 5
  have q6 := r2.cell 6
  have q7 := r2.cell 7
  simp only [List.getElem?_toArray, List.getElem?_cons_succ, List.getElem?_cons_zero] at q0 q1 q2 q3 q4 q5 q6 q7
  clear r2 r1
  refine bodyPost_ret (v := .tuple #[rV k i g 2 why tr now tag, .int .i64 0]) (by simp [results, Tryz.results36, go_sem, q0, q1, q2, q3, q4, q5, q6, q7]) rfl ⟨rfl, by first | exact hc | (rw [← hp1]; exact hc)⟩

theorem rclose_c (k i g st wy tr nx why now : Int) (tag : ByteArray) (w : World) (g0 : 0 ≤ g) (hs : tag.size ≤ 1000000) : Ret 36 #[rV k i g st wy tr nx tag, .int .i64 why, .int .i64 now] w (closeV k i g st wy tr nx tag why now) := by
  unfold closeV
  by_cases he : rErr k i g st wy tr nx tag = 0
  · cases h1 : inB why 1 3 with
    | false =>
      rw [Bool.false_and, if_neg chkE_false, chkE_not he]
      exact rclose_w k i g st wy tr nx why now 0 tag w g0 hs he h1
    | true =>
      cases h2 : isT now with
      | false =>
        rw [Bool.and_false, if_neg chkE_false, chkE_not he]
        exact rclose_t k i g st wy tr nx why now 0 tag w g0 hs he h1 h2
      | true =>
        rw [Bool.and_true]
        by_cases h3 : st = 1
        · rw [if_pos (chkE_ok he h3)]
          exact rclose_ok k i g st wy tr nx why now 0 tag w g0 hs he h1 h2 h3
        · rw [if_neg (by rw [chkE_st he h3]; decide), chkE_st he h3]
          exact rclose_s k i g st wy tr nx why now 0 tag w g0 hs he h1 h2 h3
  · rw [chkE_bad he, if_neg he]
    exact rclose_e k i g st wy tr nx why now _ tag w g0 hs rfl he

set_option maxHeartbeats 8000000 in
set_option maxRecDepth 20000 in
theorem rtried_e (k i g st wy tr nx answer now wait e : Int) (tag : ByteArray) (w : World) (g0 : 0 ≤ g) (hs : tag.size ≤ 1000000) (he : rErr k i g st wy tr nx tag = e) (hne : e ≠ 0) : Ret 38 #[rV k i g st wy tr nx tag, .int .i64 answer, .int .i64 now, .int .i64 wait] w (.tuple #[r0V, .int .i64 e]) := by
  have p0 : (e != 0) = true := by rw [bne_iff_ne]; exact hne
  have c0 := fun w => rrerr_c k i g st wy tr nx tag w g0 hs
  rw [he] at c0
  have C0 := Lib.hid c0
  clear c0
  go_enter Tryz.func38, Tryz.ntmps38
  go_wp2_with fail
  have r1 := (Row.new (W := w) (cs := (rC k i g st wy tr nx tag)) (t := 94)).on (below_alloc _ (.cells (rC 0 0 0 0 0 0 0 ⟨#[]⟩) 94))
  have r2 := Row.new (W := w.alloc (.cells (rC k i g st wy tr nx tag) 94)) (cs := (rC 0 0 0 0 0 0 0 ⟨#[]⟩)) (t := 94)
  rw [World.size_alloc] at r2
  have hc := ((Below.refl w.heap.size w).alloc (Nat.le_refl _) (.cells (rC k i g st wy tr nx tag) 94)).alloc (by simp) (.cells (rC 0 0 0 0 0 0 0 ⟨#[]⟩) 94)
  generalize (w.alloc (.cells (rC k i g st wy tr nx tag) 94)).alloc (.cells (rC 0 0 0 0 0 0 0 ⟨#[]⟩) 94) = W at *
  have h12 : w.heap.size ≠ w.heap.size + 1 := by omega
  have hp : w.heap.size ≤ w.heap.size + 1 := Nat.le_succ _
  generalize w.heap.size + 1 = p2 at *
  obtain ⟨p1, hp1⟩ : ∃ p1, w.heap.size = p1 := ⟨_, rfl⟩
  rw [hp1] at r1 h12
  rw [hp1]
  refine Calls.mono (C0.out _) ?_
  rintro e V0 ⟨rfl, hb⟩
  replace r1 := r1.on hb
  replace r2 := r2.on hb
  replace hc := chain hc hb
  clear hb
  have y2 := r2.cell
  have y2f := r2.free
  have y2l := r2.lt
  have y1 := r1.cell
  have y1l := r1.lt
  go_wp2_with fail
  clear y2 y2f y2l y1 y1l
  replace r2 := ((((((((r2.set 0 (.int .i64 0)).set 1 (.int .i64 0)).set 2 (.int .u32 0)).set 3 (.int .i64 0)).set 4 (.int .i64 0)).set 5 (.int .i64 0)).set 6 (.int .i64 0)).set 7 (.string ⟨#[]⟩))
  replace hc := ((((((((hc.setCell (p := ⟨p2, 0, none⟩) hp (.int .i64 0)).setCell (p := ⟨p2, 1, none⟩) hp (.int .i64 0)).setCell (p := ⟨p2, 2, none⟩) hp (.int .u32 0)).setCell (p := ⟨p2, 3, none⟩) hp (.int .i64 0)).setCell (p := ⟨p2, 4, none⟩) hp (.int .i64 0)).setCell (p := ⟨p2, 5, none⟩) hp (.int .i64 0)).setCell (p := ⟨p2, 6, none⟩) hp (.int .i64 0)).setCell (p := ⟨p2, 7, none⟩) hp (.string ⟨#[]⟩))
  simp only [List.setIfInBounds_toArray, List.set_cons_zero, List.set_cons_succ] at r2
  generalize hW : World.setCell _ _ _ = Z9 at *
  clear hW
  have q0 := r2.cell 0
  have q1 := r2.cell 1
  have q2 := r2.cell 2
  have q3 := r2.cell 3
  have q4 := r2.cell 4
  have q5 := r2.cell 5
  have q6 := r2.cell 6
  have q7 := r2.cell 7
  simp only [List.getElem?_toArray, List.getElem?_cons_succ, List.getElem?_cons_zero] at q0 q1 q2 q3 q4 q5 q6 q7
  clear r2 r1
  refine bodyPost_ret (v := .tuple #[r0V, .int .i64 e]) (by simp [results, Tryz.results38, go_sem, q0, q1, q2, q3, q4, q5, q6, q7]) rfl ⟨rfl, by first | exact hc | (rw [← hp1]; exact hc)⟩

set_option maxHeartbeats 8000000 in
set_option maxRecDepth 20000 in
theorem rtried_a1 (k i g st wy tr nx answer now wait e : Int) (tag : ByteArray) (w : World) (g0 : 0 ≤ g) (hs : tag.size ≤ 1000000) (he : rErr k i g st wy tr nx tag = 0) (h1 : answer < 1) : Ret 38 #[rV k i g st wy tr nx tag, .int .i64 answer, .int .i64 now, .int .i64 wait] w (.tuple #[r0V, .int .i64 2]) := by
  have p0 : decide (answer < 1) = true := decide_eq_true (by omega)
  have c0 := fun w => rrerr_c k i g st wy tr nx tag w g0 hs
  rw [he] at c0
  have C0 := Lib.hid c0
  clear c0
  go_enter Tryz.func38, Tryz.ntmps38
  go_wp2_with fail
  have r1 := (Row.new (W := w) (cs := (rC k i g st wy tr nx tag)) (t := 94)).on (below_alloc _ (.cells (rC 0 0 0 0 0 0 0 ⟨#[]⟩) 94))
  have r2 := Row.new (W := w.alloc (.cells (rC k i g st wy tr nx tag) 94)) (cs := (rC 0 0 0 0 0 0 0 ⟨#[]⟩)) (t := 94)
  rw [World.size_alloc] at r2
  have hc := ((Below.refl w.heap.size w).alloc (Nat.le_refl _) (.cells (rC k i g st wy tr nx tag) 94)).alloc (by simp) (.cells (rC 0 0 0 0 0 0 0 ⟨#[]⟩) 94)
  generalize (w.alloc (.cells (rC k i g st wy tr nx tag) 94)).alloc (.cells (rC 0 0 0 0 0 0 0 ⟨#[]⟩) 94) = W at *
  have h12 : w.heap.size ≠ w.heap.size + 1 := by omega
  have hp : w.heap.size ≤ w.heap.size + 1 := Nat.le_succ _
  generalize w.heap.size + 1 = p2 at *
  obtain ⟨p1, hp1⟩ : ∃ p1, w.heap.size = p1 := ⟨_, rfl⟩
  rw [hp1] at r1 h12
  rw [hp1]
  refine Calls.mono (C0.out _) ?_
  rintro e V0 ⟨rfl, hb⟩
  replace r1 := r1.on hb
  replace r2 := r2.on hb
  replace hc := chain hc hb
  clear hb
  have y2 := r2.cell
  have y2f := r2.free
  have y2l := r2.lt
  have y1 := r1.cell
  have y1l := r1.lt
  go_wp2_with fail
  clear y2 y2f y2l y1 y1l
  replace r2 := ((((((((r2.set 0 (.int .i64 0)).set 1 (.int .i64 0)).set 2 (.int .u32 0)).set 3 (.int .i64 0)).set 4 (.int .i64 0)).set 5 (.int .i64 0)).set 6 (.int .i64 0)).set 7 (.string ⟨#[]⟩))
  replace hc := ((((((((hc.setCell (p := ⟨p2, 0, none⟩) hp (.int .i64 0)).setCell (p := ⟨p2, 1, none⟩) hp (.int .i64 0)).setCell (p := ⟨p2, 2, none⟩) hp (.int .u32 0)).setCell (p := ⟨p2, 3, none⟩) hp (.int .i64 0)).setCell (p := ⟨p2, 4, none⟩) hp (.int .i64 0)).setCell (p := ⟨p2, 5, none⟩) hp (.int .i64 0)).setCell (p := ⟨p2, 6, none⟩) hp (.int .i64 0)).setCell (p := ⟨p2, 7, none⟩) hp (.string ⟨#[]⟩))
  simp only [List.setIfInBounds_toArray, List.set_cons_zero, List.set_cons_succ] at r2
  generalize hW : World.setCell _ _ _ = Z9 at *
  clear hW
  have q0 := r2.cell 0
  have q1 := r2.cell 1
  have q2 := r2.cell 2
  have q3 := r2.cell 3
  have q4 := r2.cell 4
  have q5 := r2.cell 5
  have q6 := r2.cell 6
  have q7 := r2.cell 7
  simp only [List.getElem?_toArray, List.getElem?_cons_succ, List.getElem?_cons_zero] at q0 q1 q2 q3 q4 q5 q6 q7
  clear r2 r1
  refine bodyPost_ret (v := .tuple #[r0V, .int .i64 2]) (by simp [results, Tryz.results38, go_sem, q0, q1, q2, q3, q4, q5, q6, q7]) rfl ⟨rfl, by first | exact hc | (rw [← hp1]; exact hc)⟩

set_option maxHeartbeats 8000000 in
set_option maxRecDepth 20000 in
theorem rtried_a2 (k i g st wy tr nx answer now wait e : Int) (tag : ByteArray) (w : World) (g0 : 0 ≤ g) (hs : tag.size ≤ 1000000) (he : rErr k i g st wy tr nx tag = 0) (h1 : 3 < answer) : Ret 38 #[rV k i g st wy tr nx tag, .int .i64 answer, .int .i64 now, .int .i64 wait] w (.tuple #[r0V, .int .i64 2]) := by
  have p0 : decide (answer < 1) = false := decide_eq_false (by omega)
  have p1 : decide ((3 : Int) < answer) = true := decide_eq_true (by omega)
  have c0 := fun w => rrerr_c k i g st wy tr nx tag w g0 hs
  rw [he] at c0
  have C0 := Lib.hid c0
  clear c0
  go_enter Tryz.func38, Tryz.ntmps38
  go_wp2_with fail
  have r1 := (Row.new (W := w) (cs := (rC k i g st wy tr nx tag)) (t := 94)).on (below_alloc _ (.cells (rC 0 0 0 0 0 0 0 ⟨#[]⟩) 94))
  have r2 := Row.new (W := w.alloc (.cells (rC k i g st wy tr nx tag) 94)) (cs := (rC 0 0 0 0 0 0 0 ⟨#[]⟩)) (t := 94)
  rw [World.size_alloc] at r2
  have hc := ((Below.refl w.heap.size w).alloc (Nat.le_refl _) (.cells (rC k i g st wy tr nx tag) 94)).alloc (by simp) (.cells (rC 0 0 0 0 0 0 0 ⟨#[]⟩) 94)
  generalize (w.alloc (.cells (rC k i g st wy tr nx tag) 94)).alloc (.cells (rC 0 0 0 0 0 0 0 ⟨#[]⟩) 94) = W at *
  have h12 : w.heap.size ≠ w.heap.size + 1 := by omega
  have hp : w.heap.size ≤ w.heap.size + 1 := Nat.le_succ _
  generalize w.heap.size + 1 = p2 at *
  obtain ⟨p1, hp1⟩ : ∃ p1, w.heap.size = p1 := ⟨_, rfl⟩
  rw [hp1] at r1 h12
  rw [hp1]
  refine Calls.mono (C0.out _) ?_
  rintro e V0 ⟨rfl, hb⟩
  replace r1 := r1.on hb
  replace r2 := r2.on hb
  replace hc := chain hc hb
  clear hb
  have y2 := r2.cell
  have y2f := r2.free
  have y2l := r2.lt
  have y1 := r1.cell
  have y1l := r1.lt
  go_wp2_with fail
  clear y2 y2f y2l y1 y1l
  replace r2 := ((((((((r2.set 0 (.int .i64 0)).set 1 (.int .i64 0)).set 2 (.int .u32 0)).set 3 (.int .i64 0)).set 4 (.int .i64 0)).set 5 (.int .i64 0)).set 6 (.int .i64 0)).set 7 (.string ⟨#[]⟩))
  replace hc := ((((((((hc.setCell (p := ⟨p2, 0, none⟩) hp (.int .i64 0)).setCell (p := ⟨p2, 1, none⟩) hp (.int .i64 0)).setCell (p := ⟨p2, 2, none⟩) hp (.int .u32 0)).setCell (p := ⟨p2, 3, none⟩) hp (.int .i64 0)).setCell (p := ⟨p2, 4, none⟩) hp (.int .i64 0)).setCell (p := ⟨p2, 5, none⟩) hp (.int .i64 0)).setCell (p := ⟨p2, 6, none⟩) hp (.int .i64 0)).setCell (p := ⟨p2, 7, none⟩) hp (.string ⟨#[]⟩))
  simp only [List.setIfInBounds_toArray, List.set_cons_zero, List.set_cons_succ] at r2
  generalize hW : World.setCell _ _ _ = Z9 at *
  clear hW
  have q0 := r2.cell 0
  have q1 := r2.cell 1
  have q2 := r2.cell 2
  have q3 := r2.cell 3
  have q4 := r2.cell 4
  have q5 := r2.cell 5
  have q6 := r2.cell 6
  have q7 := r2.cell 7
  simp only [List.getElem?_toArray, List.getElem?_cons_succ, List.getElem?_cons_zero] at q0 q1 q2 q3 q4 q5 q6 q7
  clear r2 r1
  refine bodyPost_ret (v := .tuple #[r0V, .int .i64 2]) (by simp [results, Tryz.results38, go_sem, q0, q1, q2, q3, q4, q5, q6, q7]) rfl ⟨rfl, by first | exact hc | (rw [← hp1]; exact hc)⟩

set_option maxHeartbeats 8000000 in
set_option maxRecDepth 20000 in
theorem rtried_t (k i g st wy tr nx answer now wait e : Int) (tag : ByteArray) (w : World) (g0 : 0 ≤ g) (hs : tag.size ≤ 1000000) (he : rErr k i g st wy tr nx tag = 0) (h1 : 1 ≤ answer ∧ answer ≤ 3) (h2 : isT now = false) : Ret 38 #[rV k i g st wy tr nx tag, .int .i64 answer, .int .i64 now, .int .i64 wait] w (.tuple #[r0V, .int .i64 2]) := by
  have p0 : decide (answer < 1) = false := decide_eq_false (by omega)
  have p1 : decide ((3 : Int) < answer) = false := decide_eq_false (by omega)
  have c0 := fun w => rrerr_c k i g st wy tr nx tag w g0 hs
  rw [he] at c0
  have C0 := Lib.hid c0
  clear c0
  have c1 := fun w => rtime_c now w
  rw [h2] at c1
  have C1 := Lib.hid c1
  clear c1
  go_enter Tryz.func38, Tryz.ntmps38
  go_wp2_with fail
  have r1 := (Row.new (W := w) (cs := (rC k i g st wy tr nx tag)) (t := 94)).on (below_alloc _ (.cells (rC 0 0 0 0 0 0 0 ⟨#[]⟩) 94))
  have r2 := Row.new (W := w.alloc (.cells (rC k i g st wy tr nx tag) 94)) (cs := (rC 0 0 0 0 0 0 0 ⟨#[]⟩)) (t := 94)
  rw [World.size_alloc] at r2
  have hc := ((Below.refl w.heap.size w).alloc (Nat.le_refl _) (.cells (rC k i g st wy tr nx tag) 94)).alloc (by simp) (.cells (rC 0 0 0 0 0 0 0 ⟨#[]⟩) 94)
  generalize (w.alloc (.cells (rC k i g st wy tr nx tag) 94)).alloc (.cells (rC 0 0 0 0 0 0 0 ⟨#[]⟩) 94) = W at *
  have h12 : w.heap.size ≠ w.heap.size + 1 := by omega
  have hp : w.heap.size ≤ w.heap.size + 1 := Nat.le_succ _
  generalize w.heap.size + 1 = p2 at *
  obtain ⟨p1, hp1⟩ : ∃ p1, w.heap.size = p1 := ⟨_, rfl⟩
  rw [hp1] at r1 h12
  rw [hp1]
  refine Calls.mono (C0.out _) ?_
  rintro e V0 ⟨rfl, hb⟩
  replace r1 := r1.on hb
  replace r2 := r2.on hb
  replace hc := chain hc hb
  clear hb
  have y1 := r1.cell
  have y1l := r1.lt
  go_wp2_with fail
  clear y1 y1l
  refine Calls.mono (C1.out _) ?_
  rintro e V1 ⟨rfl, hb⟩
  replace r1 := r1.on hb
  replace r2 := r2.on hb
  replace hc := chain hc hb
  clear hb
  have y2 := r2.cell
  have y2f := r2.free
  have y2l := r2.lt
  have y1 := r1.cell
  have y1l := r1.lt
  go_wp2_with fail
  clear y2 y2f y2l y1 y1l
  replace r2 := ((((((((r2.set 0 (.int .i64 0)).set 1 (.int .i64 0)).set 2 (.int .u32 0)).set 3 (.int .i64 0)).set 4 (.int .i64 0)).set 5 (.int .i64 0)).set 6 (.int .i64 0)).set 7 (.string ⟨#[]⟩))
  replace hc := ((((((((hc.setCell (p := ⟨p2, 0, none⟩) hp (.int .i64 0)).setCell (p := ⟨p2, 1, none⟩) hp (.int .i64 0)).setCell (p := ⟨p2, 2, none⟩) hp (.int .u32 0)).setCell (p := ⟨p2, 3, none⟩) hp (.int .i64 0)).setCell (p := ⟨p2, 4, none⟩) hp (.int .i64 0)).setCell (p := ⟨p2, 5, none⟩) hp (.int .i64 0)).setCell (p := ⟨p2, 6, none⟩) hp (.int .i64 0)).setCell (p := ⟨p2, 7, none⟩) hp (.string ⟨#[]⟩))
  simp only [List.setIfInBounds_toArray, List.set_cons_zero, List.set_cons_succ] at r2
  generalize hW : World.setCell _ _ _ = Z9 at *
  clear hW
  have q0 := r2.cell 0
  have q1 := r2.cell 1
  have q2 := r2.cell 2
  have q3 := r2.cell 3
  have q4 := r2.cell 4
  have q5 := r2.cell 5
  have q6 := r2.cell 6
  have q7 := r2.cell 7
  simp only [List.getElem?_toArray, List.getElem?_cons_succ, List.getElem?_cons_zero] at q0 q1 q2 q3 q4 q5 q6 q7
  clear r2 r1
  refine bodyPost_ret (v := .tuple #[r0V, .int .i64 2]) (by simp [results, Tryz.results38, go_sem, q0, q1, q2, q3, q4, q5, q6, q7]) rfl ⟨rfl, by first | exact hc | (rw [← hp1]; exact hc)⟩

set_option maxHeartbeats 8000000 in
set_option maxRecDepth 20000 in
theorem rtried_w1 (k i g st wy tr nx answer now wait e : Int) (tag : ByteArray) (w : World) (g0 : 0 ≤ g) (hs : tag.size ≤ 1000000) (he : rErr k i g st wy tr nx tag = 0) (h1 : 1 ≤ answer ∧ answer ≤ 3) (h2 : isT now = true) (h3 : wait < 1) : Ret 38 #[rV k i g st wy tr nx tag, .int .i64 answer, .int .i64 now, .int .i64 wait] w (.tuple #[r0V, .int .i64 2]) := by
  have p0 : decide (answer < 1) = false := decide_eq_false (by omega)
  have p1 : decide ((3 : Int) < answer) = false := decide_eq_false (by omega)
  have p2 : decide (wait < 1) = true := decide_eq_true (by omega)
  have c0 := fun w => rrerr_c k i g st wy tr nx tag w g0 hs
  rw [he] at c0
  have C0 := Lib.hid c0
  clear c0
  have c1 := fun w => rtime_c now w
  rw [h2] at c1
  have C1 := Lib.hid c1
  clear c1
  go_enter Tryz.func38, Tryz.ntmps38
  go_wp2_with fail
  have r1 := (Row.new (W := w) (cs := (rC k i g st wy tr nx tag)) (t := 94)).on (below_alloc _ (.cells (rC 0 0 0 0 0 0 0 ⟨#[]⟩) 94))
  have r2 := Row.new (W := w.alloc (.cells (rC k i g st wy tr nx tag) 94)) (cs := (rC 0 0 0 0 0 0 0 ⟨#[]⟩)) (t := 94)
  rw [World.size_alloc] at r2
  have hc := ((Below.refl w.heap.size w).alloc (Nat.le_refl _) (.cells (rC k i g st wy tr nx tag) 94)).alloc (by simp) (.cells (rC 0 0 0 0 0 0 0 ⟨#[]⟩) 94)
  generalize (w.alloc (.cells (rC k i g st wy tr nx tag) 94)).alloc (.cells (rC 0 0 0 0 0 0 0 ⟨#[]⟩) 94) = W at *
  have h12 : w.heap.size ≠ w.heap.size + 1 := by omega
  have hp : w.heap.size ≤ w.heap.size + 1 := Nat.le_succ _
  generalize w.heap.size + 1 = p2 at *
  obtain ⟨p1, hp1⟩ : ∃ p1, w.heap.size = p1 := ⟨_, rfl⟩
  rw [hp1] at r1 h12
  rw [hp1]
  refine Calls.mono (C0.out _) ?_
  rintro e V0 ⟨rfl, hb⟩
  replace r1 := r1.on hb
  replace r2 := r2.on hb
  replace hc := chain hc hb
  clear hb
  have y1 := r1.cell
  have y1l := r1.lt
  go_wp2_with fail
  clear y1 y1l
  refine Calls.mono (C1.out _) ?_
  rintro e V1 ⟨rfl, hb⟩
  replace r1 := r1.on hb
  replace r2 := r2.on hb
  replace hc := chain hc hb
  clear hb
  have y2 := r2.cell
  have y2f := r2.free
  have y2l := r2.lt
  have y1 := r1.cell
  have y1l := r1.lt
  go_wp2_with fail
  clear y2 y2f y2l y1 y1l
  replace r2 := ((((((((r2.set 0 (.int .i64 0)).set 1 (.int .i64 0)).set 2 (.int .u32 0)).set 3 (.int .i64 0)).set 4 (.int .i64 0)).set 5 (.int .i64 0)).set 6 (.int .i64 0)).set 7 (.string ⟨#[]⟩))
  replace hc := ((((((((hc.setCell (p := ⟨p2, 0, none⟩) hp (.int .i64 0)).setCell (p := ⟨p2, 1, none⟩) hp (.int .i64 0)).setCell (p := ⟨p2, 2, none⟩) hp (.int .u32 0)).setCell (p := ⟨p2, 3, none⟩) hp (.int .i64 0)).setCell (p := ⟨p2, 4, none⟩) hp (.int .i64 0)).setCell (p := ⟨p2, 5, none⟩) hp (.int .i64 0)).setCell (p := ⟨p2, 6, none⟩) hp (.int .i64 0)).setCell (p := ⟨p2, 7, none⟩) hp (.string ⟨#[]⟩))
  simp only [List.setIfInBounds_toArray, List.set_cons_zero, List.set_cons_succ] at r2
  generalize hW : World.setCell _ _ _ = Z9 at *
  clear hW
  have q0 := r2.cell 0
  have q1 := r2.cell 1
  have q2 := r2.cell 2
  have q3 := r2.cell 3
  have q4 := r2.cell 4
  have q5 := r2.cell 5
  have q6 := r2.cell 6
  have q7 := r2.cell 7
  simp only [List.getElem?_toArray, List.getElem?_cons_succ, List.getElem?_cons_zero] at q0 q1 q2 q3 q4 q5 q6 q7
  clear r2 r1
  refine bodyPost_ret (v := .tuple #[r0V, .int .i64 2]) (by simp [results, Tryz.results38, go_sem, q0, q1, q2, q3, q4, q5, q6, q7]) rfl ⟨rfl, by first | exact hc | (rw [← hp1]; exact hc)⟩

set_option maxHeartbeats 8000000 in
set_option maxRecDepth 20000 in
theorem rtried_w2 (k i g st wy tr nx answer now wait e : Int) (tag : ByteArray) (w : World) (g0 : 0 ≤ g) (hs : tag.size ≤ 1000000) (he : rErr k i g st wy tr nx tag = 0) (h1 : 1 ≤ answer ∧ answer ≤ 3) (h2 : isT now = true) (h3 : 1048576 < wait) : Ret 38 #[rV k i g st wy tr nx tag, .int .i64 answer, .int .i64 now, .int .i64 wait] w (.tuple #[r0V, .int .i64 2]) := by
  have p0 : decide (answer < 1) = false := decide_eq_false (by omega)
  have p1 : decide ((3 : Int) < answer) = false := decide_eq_false (by omega)
  have p2 : decide (wait < 1) = false := decide_eq_false (by omega)
  have p3 : decide ((1048576 : Int) < wait) = true := decide_eq_true (by omega)
  have c0 := fun w => rrerr_c k i g st wy tr nx tag w g0 hs
  rw [he] at c0
  have C0 := Lib.hid c0
  clear c0
  have c1 := fun w => rtime_c now w
  rw [h2] at c1
  have C1 := Lib.hid c1
  clear c1
  go_enter Tryz.func38, Tryz.ntmps38
  go_wp2_with fail
  have r1 := (Row.new (W := w) (cs := (rC k i g st wy tr nx tag)) (t := 94)).on (below_alloc _ (.cells (rC 0 0 0 0 0 0 0 ⟨#[]⟩) 94))
  have r2 := Row.new (W := w.alloc (.cells (rC k i g st wy tr nx tag) 94)) (cs := (rC 0 0 0 0 0 0 0 ⟨#[]⟩)) (t := 94)
  rw [World.size_alloc] at r2
  have hc := ((Below.refl w.heap.size w).alloc (Nat.le_refl _) (.cells (rC k i g st wy tr nx tag) 94)).alloc (by simp) (.cells (rC 0 0 0 0 0 0 0 ⟨#[]⟩) 94)
  generalize (w.alloc (.cells (rC k i g st wy tr nx tag) 94)).alloc (.cells (rC 0 0 0 0 0 0 0 ⟨#[]⟩) 94) = W at *
  have h12 : w.heap.size ≠ w.heap.size + 1 := by omega
  have hp : w.heap.size ≤ w.heap.size + 1 := Nat.le_succ _
  generalize w.heap.size + 1 = p2 at *
  obtain ⟨p1, hp1⟩ : ∃ p1, w.heap.size = p1 := ⟨_, rfl⟩
  rw [hp1] at r1 h12
  rw [hp1]
  refine Calls.mono (C0.out _) ?_
  rintro e V0 ⟨rfl, hb⟩
  replace r1 := r1.on hb
  replace r2 := r2.on hb
  replace hc := chain hc hb
  clear hb
  have y1 := r1.cell
  have y1l := r1.lt
  go_wp2_with fail
  clear y1 y1l
  refine Calls.mono (C1.out _) ?_
  rintro e V1 ⟨rfl, hb⟩
  replace r1 := r1.on hb
  replace r2 := r2.on hb
  replace hc := chain hc hb
  clear hb
  have y2 := r2.cell
  have y2f := r2.free
  have y2l := r2.lt
  have y1 := r1.cell
  have y1l := r1.lt
  go_wp2_with fail
  clear y2 y2f y2l y1 y1l
  replace r2 := ((((((((r2.set 0 (.int .i64 0)).set 1 (.int .i64 0)).set 2 (.int .u32 0)).set 3 (.int .i64 0)).set 4 (.int .i64 0)).set 5 (.int .i64 0)).set 6 (.int .i64 0)).set 7 (.string ⟨#[]⟩))
  replace hc := ((((((((hc.setCell (p := ⟨p2, 0, none⟩) hp (.int .i64 0)).setCell (p := ⟨p2, 1, none⟩) hp (.int .i64 0)).setCell (p := ⟨p2, 2, none⟩) hp (.int .u32 0)).setCell (p := ⟨p2, 3, none⟩) hp (.int .i64 0)).setCell (p := ⟨p2, 4, none⟩) hp (.int .i64 0)).setCell (p := ⟨p2, 5, none⟩) hp (.int .i64 0)).setCell (p := ⟨p2, 6, none⟩) hp (.int .i64 0)).setCell (p := ⟨p2, 7, none⟩) hp (.string ⟨#[]⟩))
  simp only [List.setIfInBounds_toArray, List.set_cons_zero, List.set_cons_succ] at r2
  generalize hW : World.setCell _ _ _ = Z9 at *
  clear hW
  have q0 := r2.cell 0
  have q1 := r2.cell 1
  have q2 := r2.cell 2
  have q3 := r2.cell 3
  have q4 := r2.cell 4
  have q5 := r2.cell 5
  have q6 := r2.cell 6
  have q7 := r2.cell 7
  simp only [List.getElem?_toArray, List.getElem?_cons_succ, List.getElem?_cons_zero] at q0 q1 q2 q3 q4 q5 q6 q7
  clear r2 r1
  refine bodyPost_ret (v := .tuple #[r0V, .int .i64 2]) (by simp [results, Tryz.results38, go_sem, q0, q1, q2, q3, q4, q5, q6, q7]) rfl ⟨rfl, by first | exact hc | (rw [← hp1]; exact hc)⟩

set_option maxHeartbeats 8000000 in
set_option maxRecDepth 20000 in
theorem rtried_s (k i g st wy tr nx answer now wait e : Int) (tag : ByteArray) (w : World) (g0 : 0 ≤ g) (hs : tag.size ≤ 1000000) (he : rErr k i g st wy tr nx tag = 0) (h1 : 1 ≤ answer ∧ answer ≤ 3) (h2 : isT now = true) (h3 : 1 ≤ wait ∧ wait ≤ 1048576) (h4 : st ≠ 2) : Ret 38 #[rV k i g st wy tr nx tag, .int .i64 answer, .int .i64 now, .int .i64 wait] w (.tuple #[r0V, .int .i64 8]) := by
  have p0 : decide (answer < 1) = false := decide_eq_false (by omega)
  have p1 : decide ((3 : Int) < answer) = false := decide_eq_false (by omega)
  have p2 : decide (wait < 1) = false := decide_eq_false (by omega)
  have p3 : decide ((1048576 : Int) < wait) = false := decide_eq_false (by omega)
  have p4 : (st != 2) = true := by rw [bne_iff_ne]; omega
  have c0 := fun w => rrerr_c k i g st wy tr nx tag w g0 hs
  rw [he] at c0
  have C0 := Lib.hid c0
  clear c0
  have c1 := fun w => rtime_c now w
  rw [h2] at c1
  have C1 := Lib.hid c1
  clear c1
  go_enter Tryz.func38, Tryz.ntmps38
  go_wp2_with fail
  have r1 := (Row.new (W := w) (cs := (rC k i g st wy tr nx tag)) (t := 94)).on (below_alloc _ (.cells (rC 0 0 0 0 0 0 0 ⟨#[]⟩) 94))
  have r2 := Row.new (W := w.alloc (.cells (rC k i g st wy tr nx tag) 94)) (cs := (rC 0 0 0 0 0 0 0 ⟨#[]⟩)) (t := 94)
  rw [World.size_alloc] at r2
  have hc := ((Below.refl w.heap.size w).alloc (Nat.le_refl _) (.cells (rC k i g st wy tr nx tag) 94)).alloc (by simp) (.cells (rC 0 0 0 0 0 0 0 ⟨#[]⟩) 94)
  generalize (w.alloc (.cells (rC k i g st wy tr nx tag) 94)).alloc (.cells (rC 0 0 0 0 0 0 0 ⟨#[]⟩) 94) = W at *
  have h12 : w.heap.size ≠ w.heap.size + 1 := by omega
  have hp : w.heap.size ≤ w.heap.size + 1 := Nat.le_succ _
  generalize w.heap.size + 1 = p2 at *
  obtain ⟨p1, hp1⟩ : ∃ p1, w.heap.size = p1 := ⟨_, rfl⟩
  rw [hp1] at r1 h12
  rw [hp1]
  refine Calls.mono (C0.out _) ?_
  rintro e V0 ⟨rfl, hb⟩
  replace r1 := r1.on hb
  replace r2 := r2.on hb
  replace hc := chain hc hb
  clear hb
  have y1 := r1.cell
  have y1l := r1.lt
  go_wp2_with fail
  clear y1 y1l
  refine Calls.mono (C1.out _) ?_
  rintro e V1 ⟨rfl, hb⟩
  replace r1 := r1.on hb
  replace r2 := r2.on hb
  replace hc := chain hc hb
  clear hb
  have y2 := r2.cell
  have y2f := r2.free
  have y2l := r2.lt
  have y1 := r1.cell
  have y1l := r1.lt
  go_wp2_with fail
  clear y2 y2f y2l y1 y1l
  replace r2 := ((((((((r2.set 0 (.int .i64 0)).set 1 (.int .i64 0)).set 2 (.int .u32 0)).set 3 (.int .i64 0)).set 4 (.int .i64 0)).set 5 (.int .i64 0)).set 6 (.int .i64 0)).set 7 (.string ⟨#[]⟩))
  replace hc := ((((((((hc.setCell (p := ⟨p2, 0, none⟩) hp (.int .i64 0)).setCell (p := ⟨p2, 1, none⟩) hp (.int .i64 0)).setCell (p := ⟨p2, 2, none⟩) hp (.int .u32 0)).setCell (p := ⟨p2, 3, none⟩) hp (.int .i64 0)).setCell (p := ⟨p2, 4, none⟩) hp (.int .i64 0)).setCell (p := ⟨p2, 5, none⟩) hp (.int .i64 0)).setCell (p := ⟨p2, 6, none⟩) hp (.int .i64 0)).setCell (p := ⟨p2, 7, none⟩) hp (.string ⟨#[]⟩))
  simp only [List.setIfInBounds_toArray, List.set_cons_zero, List.set_cons_succ] at r2
  generalize hW : World.setCell _ _ _ = Z9 at *
  clear hW
  have q0 := r2.cell 0
  have q1 := r2.cell 1
  have q2 := r2.cell 2
  have q3 := r2.cell 3
  have q4 := r2.cell 4
  have q5 := r2.cell 5
  have q6 := r2.cell 6
  have q7 := r2.cell 7
  simp only [List.getElem?_toArray, List.getElem?_cons_succ, List.getElem?_cons_zero] at q0 q1 q2 q3 q4 q5 q6 q7
  clear r2 r1
  refine bodyPost_ret (v := .tuple #[r0V, .int .i64 8]) (by simp [results, Tryz.results38, go_sem, q0, q1, q2, q3, q4, q5, q6, q7]) rfl ⟨rfl, by first | exact hc | (rw [← hp1]; exact hc)⟩

set_option maxHeartbeats 8000000 in
set_option maxRecDepth 20000 in
theorem rtried_2a (k i g st wy tr nx now wait e : Int) (tag : ByteArray) (w : World) (g0 : 0 ≤ g) (hs : tag.size ≤ 1000000) (he : rErr k i g st wy tr nx tag = 0) (h2 : isT now = true) (h3 : 1 ≤ wait ∧ wait ≤ 1048576) (h4 : st = 2) (h5 : 1099511627776 < now + wait) : Ret 38 #[rV k i g st wy tr nx tag, .int .i64 2, .int .i64 now, .int .i64 wait] w (.tuple #[r0V, .int .i64 17]) := by
  have p0 : decide (wait < 1) = false := decide_eq_false (by omega)
  have p1 : decide ((1048576 : Int) < wait) = false := decide_eq_false (by omega)
  have p2 : (st != 2) = false := by rw [bne_eq_false_iff_eq]; omega
  have p3 : IntKind.i64.wrap (now + wait) = now + wait := IntWalk.i64_in _ ⟨by have := isT_iff.1 h2; omega, by have := isT_iff.1 h2; omega⟩
  have p4 : decide ((1099511627776 : Int) < now + wait) = true := decide_eq_true (by omega)
  have c0 := fun w => rrerr_c k i g st wy tr nx tag w g0 hs
  rw [he] at c0
  have C0 := Lib.hid c0
  clear c0
  have c1 := fun w => rtime_c now w
  rw [h2] at c1
  have C1 := Lib.hid c1
  clear c1
  clear h4
  go_enter Tryz.func38, Tryz.ntmps38
  go_wp2_with fail
  have r1 := (Row.new (W := w) (cs := (rC k i g st wy tr nx tag)) (t := 94)).on (below_alloc _ (.cells (rC 0 0 0 0 0 0 0 ⟨#[]⟩) 94))
  have r2 := Row.new (W := w.alloc (.cells (rC k i g st wy tr nx tag) 94)) (cs := (rC 0 0 0 0 0 0 0 ⟨#[]⟩)) (t := 94)
  rw [World.size_alloc] at r2
  have hc := ((Below.refl w.heap.size w).alloc (Nat.le_refl _) (.cells (rC k i g st wy tr nx tag) 94)).alloc (by simp) (.cells (rC 0 0 0 0 0 0 0 ⟨#[]⟩) 94)
  generalize (w.alloc (.cells (rC k i g st wy tr nx tag) 94)).alloc (.cells (rC 0 0 0 0 0 0 0 ⟨#[]⟩) 94) = W at *
  have h12 : w.heap.size ≠ w.heap.size + 1 := by omega
  have hp : w.heap.size ≤ w.heap.size + 1 := Nat.le_succ _
  generalize w.heap.size + 1 = p2 at *
  obtain ⟨p1, hp1⟩ : ∃ p1, w.heap.size = p1 := ⟨_, rfl⟩
  rw [hp1] at r1 h12
  rw [hp1]
  refine Calls.mono (C0.out _) ?_
  rintro e V0 ⟨rfl, hb⟩
  replace r1 := r1.on hb
  replace r2 := r2.on hb
  replace hc := chain hc hb
  clear hb
  have y1 := r1.cell
  have y1l := r1.lt
  go_wp2_with fail
  clear y1 y1l
  refine Calls.mono (C1.out _) ?_
  rintro e V1 ⟨rfl, hb⟩
  replace r1 := r1.on hb
  replace r2 := r2.on hb
  replace hc := chain hc hb
  clear hb
  have y2 := r2.cell
  have y2f := r2.free
  have y2l := r2.lt
  have y1 := r1.cell
  have y1l := r1.lt
  go_wp2_with fail
  clear y2 y2f y2l y1 y1l
  replace r2 := ((((((((r2.set 0 (.int .i64 0)).set 1 (.int .i64 0)).set 2 (.int .u32 0)).set 3 (.int .i64 0)).set 4 (.int .i64 0)).set 5 (.int .i64 0)).set 6 (.int .i64 0)).set 7 (.string ⟨#[]⟩))
  replace hc := ((((((((hc.setCell (p := ⟨p2, 0, none⟩) hp (.int .i64 0)).setCell (p := ⟨p2, 1, none⟩) hp (.int .i64 0)).setCell (p := ⟨p2, 2, none⟩) hp (.int .u32 0)).setCell (p := ⟨p2, 3, none⟩) hp (.int .i64 0)).setCell (p := ⟨p2, 4, none⟩) hp (.int .i64 0)).setCell (p := ⟨p2, 5, none⟩) hp (.int .i64 0)).setCell (p := ⟨p2, 6, none⟩) hp (.int .i64 0)).setCell (p := ⟨p2, 7, none⟩) hp (.string ⟨#[]⟩))
  simp only [List.setIfInBounds_toArray, List.set_cons_zero, List.set_cons_succ] at r2
  generalize hW : World.setCell _ _ _ = Z9 at *
  clear hW
  have q0 := r2.cell 0
  have q1 := r2.cell 1
  have q2 := r2.cell 2
  have q3 := r2.cell 3
  have q4 := r2.cell 4
  have q5 := r2.cell 5
  have q6 := r2.cell 6
  have q7 := r2.cell 7
  simp only [List.getElem?_toArray, List.getElem?_cons_succ, List.getElem?_cons_zero] at q0 q1 q2 q3 q4 q5 q6 q7
  clear r2 r1
  refine bodyPost_ret (v := .tuple #[r0V, .int .i64 17]) (by simp [results, Tryz.results38, go_sem, q0, q1, q2, q3, q4, q5, q6, q7]) rfl ⟨rfl, by first | exact hc | (rw [← hp1]; exact hc)⟩

set_option maxHeartbeats 8000000 in
set_option maxRecDepth 20000 in
theorem rtried_2b (k i g st wy tr nx now wait e : Int) (tag : ByteArray) (w : World) (g0 : 0 ≤ g) (hs : tag.size ≤ 1000000) (he : rErr k i g st wy tr nx tag = 0) (h2 : isT now = true) (h3 : 1 ≤ wait ∧ wait ≤ 1048576) (h4 : st = 2) (h5 : ¬ 1099511627776 < now + wait) (h6 : 10000 ≤ tr) : Ret 38 #[rV k i g st wy tr nx tag, .int .i64 2, .int .i64 now, .int .i64 wait] w (.tuple #[r0V, .int .i64 17]) := by
  have p0 : decide (wait < 1) = false := decide_eq_false (by omega)
  have p1 : decide ((1048576 : Int) < wait) = false := decide_eq_false (by omega)
  have p2 : (st != 2) = false := by rw [bne_eq_false_iff_eq]; omega
  have p3 : IntKind.i64.wrap (now + wait) = now + wait := IntWalk.i64_in _ ⟨by have := isT_iff.1 h2; omega, by have := isT_iff.1 h2; omega⟩
  have p4 : decide ((1099511627776 : Int) < now + wait) = false := decide_eq_false (by omega)
  have p5 : decide ((10000 : Int) ≤ tr) = true := decide_eq_true (by omega)
  have c0 := fun w => rrerr_c k i g st wy tr nx tag w g0 hs
  rw [he] at c0
  have C0 := Lib.hid c0
  clear c0
  have c1 := fun w => rtime_c now w
  rw [h2] at c1
  have C1 := Lib.hid c1
  clear c1
  clear h4
  go_enter Tryz.func38, Tryz.ntmps38
  go_wp2_with fail
  have r1 := (Row.new (W := w) (cs := (rC k i g st wy tr nx tag)) (t := 94)).on (below_alloc _ (.cells (rC 0 0 0 0 0 0 0 ⟨#[]⟩) 94))
  have r2 := Row.new (W := w.alloc (.cells (rC k i g st wy tr nx tag) 94)) (cs := (rC 0 0 0 0 0 0 0 ⟨#[]⟩)) (t := 94)
  rw [World.size_alloc] at r2
  have hc := ((Below.refl w.heap.size w).alloc (Nat.le_refl _) (.cells (rC k i g st wy tr nx tag) 94)).alloc (by simp) (.cells (rC 0 0 0 0 0 0 0 ⟨#[]⟩) 94)
  generalize (w.alloc (.cells (rC k i g st wy tr nx tag) 94)).alloc (.cells (rC 0 0 0 0 0 0 0 ⟨#[]⟩) 94) = W at *
  have h12 : w.heap.size ≠ w.heap.size + 1 := by omega
  have hp : w.heap.size ≤ w.heap.size + 1 := Nat.le_succ _
  generalize w.heap.size + 1 = p2 at *
  obtain ⟨p1, hp1⟩ : ∃ p1, w.heap.size = p1 := ⟨_, rfl⟩
  rw [hp1] at r1 h12
  rw [hp1]
  refine Calls.mono (C0.out _) ?_
  rintro e V0 ⟨rfl, hb⟩
  replace r1 := r1.on hb
  replace r2 := r2.on hb
  replace hc := chain hc hb
  clear hb
  have y1 := r1.cell
  have y1l := r1.lt
  go_wp2_with fail
  clear y1 y1l
  refine Calls.mono (C1.out _) ?_
  rintro e V1 ⟨rfl, hb⟩
  replace r1 := r1.on hb
  replace r2 := r2.on hb
  replace hc := chain hc hb
  clear hb
  have y2 := r2.cell
  have y2f := r2.free
  have y2l := r2.lt
  have y1 := r1.cell
  have y1l := r1.lt
  go_wp2_with fail
  clear y2 y2f y2l y1 y1l
  replace r2 := ((((((((r2.set 0 (.int .i64 0)).set 1 (.int .i64 0)).set 2 (.int .u32 0)).set 3 (.int .i64 0)).set 4 (.int .i64 0)).set 5 (.int .i64 0)).set 6 (.int .i64 0)).set 7 (.string ⟨#[]⟩))
  replace hc := ((((((((hc.setCell (p := ⟨p2, 0, none⟩) hp (.int .i64 0)).setCell (p := ⟨p2, 1, none⟩) hp (.int .i64 0)).setCell (p := ⟨p2, 2, none⟩) hp (.int .u32 0)).setCell (p := ⟨p2, 3, none⟩) hp (.int .i64 0)).setCell (p := ⟨p2, 4, none⟩) hp (.int .i64 0)).setCell (p := ⟨p2, 5, none⟩) hp (.int .i64 0)).setCell (p := ⟨p2, 6, none⟩) hp (.int .i64 0)).setCell (p := ⟨p2, 7, none⟩) hp (.string ⟨#[]⟩))
  simp only [List.setIfInBounds_toArray, List.set_cons_zero, List.set_cons_succ] at r2
  generalize hW : World.setCell _ _ _ = Z9 at *
  clear hW
  have q0 := r2.cell 0
  have q1 := r2.cell 1
  have q2 := r2.cell 2
  have q3 := r2.cell 3
  have q4 := r2.cell 4
  have q5 := r2.cell 5
  have q6 := r2.cell 6
  have q7 := r2.cell 7
  simp only [List.getElem?_toArray, List.getElem?_cons_succ, List.getElem?_cons_zero] at q0 q1 q2 q3 q4 q5 q6 q7
  clear r2 r1
  refine bodyPost_ret (v := .tuple #[r0V, .int .i64 17]) (by simp [results, Tryz.results38, go_sem, q0, q1, q2, q3, q4, q5, q6, q7]) rfl ⟨rfl, by first | exact hc | (rw [← hp1]; exact hc)⟩

set_option maxHeartbeats 8000000 in
set_option maxRecDepth 20000 in
theorem rtried_2c (k i g st wy tr nx now wait e : Int) (tag : ByteArray) (w : World) (g0 : 0 ≤ g) (hs : tag.size ≤ 1000000) (he : rErr k i g st wy tr nx tag = 0) (h2 : isT now = true) (h3 : 1 ≤ wait ∧ wait ≤ 1048576) (h4 : st = 2) (h5 : ¬ 1099511627776 < now + wait) (h6 : ¬ 10000 ≤ tr) (h7 : 0 ≤ tr) : Ret 38 #[rV k i g st wy tr nx tag, .int .i64 2, .int .i64 now, .int .i64 wait] w (.tuple #[rV k i g st wy (tr + 1) (now + wait) tag, .int .i64 0]) := by
  have p0 : decide (wait < 1) = false := decide_eq_false (by omega)
  have p1 : decide ((1048576 : Int) < wait) = false := decide_eq_false (by omega)
  have p2 : (st != 2) = false := by rw [bne_eq_false_iff_eq]; omega
  have p3 : IntKind.i64.wrap (now + wait) = now + wait := IntWalk.i64_in _ ⟨by have := isT_iff.1 h2; omega, by have := isT_iff.1 h2; omega⟩
  have p4 : decide ((1099511627776 : Int) < now + wait) = false := decide_eq_false (by omega)
  have p5 : decide ((10000 : Int) ≤ tr) = false := decide_eq_false (by omega)
  have p6 : IntKind.i64.wrap (tr + 1) = tr + 1 := IntWalk.i64_in _ ⟨by omega, by omega⟩
  have c0 := fun w => rrerr_c k i g st wy tr nx tag w g0 hs
  rw [he] at c0
  have C0 := Lib.hid c0
  clear c0
  have c1 := fun w => rtime_c now w
  rw [h2] at c1
  have C1 := Lib.hid c1
  clear c1
  clear h4
  go_enter Tryz.func38, Tryz.ntmps38
  go_wp2_with fail
  have r1 := (Row.new (W := w) (cs := (rC k i g st wy tr nx tag)) (t := 94)).on (below_alloc _ (.cells (rC 0 0 0 0 0 0 0 ⟨#[]⟩) 94))
  have r2 := Row.new (W := w.alloc (.cells (rC k i g st wy tr nx tag) 94)) (cs := (rC 0 0 0 0 0 0 0 ⟨#[]⟩)) (t := 94)
  rw [World.size_alloc] at r2
  have hc := ((Below.refl w.heap.size w).alloc (Nat.le_refl _) (.cells (rC k i g st wy tr nx tag) 94)).alloc (by simp) (.cells (rC 0 0 0 0 0 0 0 ⟨#[]⟩) 94)
  generalize (w.alloc (.cells (rC k i g st wy tr nx tag) 94)).alloc (.cells (rC 0 0 0 0 0 0 0 ⟨#[]⟩) 94) = W at *
  have h12 : w.heap.size ≠ w.heap.size + 1 := by omega
  have hp : w.heap.size ≤ w.heap.size + 1 := Nat.le_succ _
  generalize w.heap.size + 1 = p2 at *
  obtain ⟨p1, hp1⟩ : ∃ p1, w.heap.size = p1 := ⟨_, rfl⟩
  rw [hp1] at r1 h12
  rw [hp1]
  refine Calls.mono (C0.out _) ?_
  rintro e V0 ⟨rfl, hb⟩
  replace r1 := r1.on hb
  replace r2 := r2.on hb
  replace hc := chain hc hb
  clear hb
  have y1 := r1.cell
  have y1l := r1.lt
  go_wp2_with fail
  clear y1 y1l
  refine Calls.mono (C1.out _) ?_
  rintro e V1 ⟨rfl, hb⟩
  replace r1 := r1.on hb
  replace r2 := r2.on hb
  replace hc := chain hc hb
  clear hb
  have y1 := r1.cell
  have y1f := r1.free
  have y1l := r1.lt
  go_upto_region 13 with fail
  clear y1 y1f y1l
  replace r2 := ((r2.other h12 5 (.int .i64 (tr + 1))).other h12 6 (.int .i64 (now + wait)))
  replace hc := ((hc.setCell (p := ⟨p1, 5, none⟩) (Nat.le_of_eq hp1) (.int .i64 (tr + 1))).setCell (p := ⟨p1, 6, none⟩) (Nat.le_of_eq hp1) (.int .i64 (now + wait)))
  replace r1 := ((r1.set 5 (.int .i64 (tr + 1))).set 6 (.int .i64 (now + wait)))
  simp only [List.setIfInBounds_toArray, List.set_cons_zero, List.set_cons_succ] at r1
  generalize hW : World.setCell _ _ _ = X at *
  clear hW
  have y2 := r2.cell
  have y2f := r2.free
  have y2l := r2.lt
  have y1 := r1.cell
  have y1l := r1.lt
  go_wp2_with fail
  clear y2 y2f y2l y1 y1l
  replace r2 := ((((((((r2.set 0 (.int .i64 k)).set 1 (.int .i64 i)).set 2 (.int .u32 g)).set 3 (.int .i64 st)).set 4 (.int .i64 wy)).set 5 (.int .i64 (tr + 1))).set 6 (.int .i64 (now + wait))).set 7 (.string tag))
  replace hc := ((((((((hc.setCell (p := ⟨p2, 0, none⟩) hp (.int .i64 k)).setCell (p := ⟨p2, 1, none⟩) hp (.int .i64 i)).setCell (p := ⟨p2, 2, none⟩) hp (.int .u32 g)).setCell (p := ⟨p2, 3, none⟩) hp (.int .i64 st)).setCell (p := ⟨p2, 4, none⟩) hp (.int .i64 wy)).setCell (p := ⟨p2, 5, none⟩) hp (.int .i64 (tr + 1))).setCell (p := ⟨p2, 6, none⟩) hp (.int .i64 (now + wait))).setCell (p := ⟨p2, 7, none⟩) hp (.string tag))
  simp only [List.setIfInBounds_toArray, List.set_cons_zero, List.set_cons_succ] at r2
  generalize hW : World.setCell _ _ _ = Z9 at *
  clear hW
  have q0 := r2.cell 0
  have q1 := r2.cell 1
  have q2 := r2.cell 2
  have q3 := r2.cell 3
  have q4 := r2.cell 4
  have q5 := r2.cell 5
  have q6 := r2.cell 6
  have q7 := r2.cell 7
  simp only [List.getElem?_toArray, List.getElem?_cons_succ, List.getElem?_cons_zero] at q0 q1 q2 q3 q4 q5 q6 q7
  clear r2 r1
  refine bodyPost_ret (v := .tuple #[rV k i g st wy (tr + 1) (now + wait) tag, .int .i64 0]) (by simp [results, Tryz.results38, go_sem, q0, q1, q2, q3, q4, q5, q6, q7]) rfl ⟨rfl, by first | exact hc | (rw [← hp1]; exact hc)⟩

set_option maxHeartbeats 8000000 in
set_option maxRecDepth 20000 in
theorem rtried_1 (k i g st wy tr nx now wait e : Int) (tag : ByteArray) (w : World) (g0 : 0 ≤ g) (hs : tag.size ≤ 1000000) (he : rErr k i g st wy tr nx tag = 0) (h2 : isT now = true) (h3 : 1 ≤ wait ∧ wait ≤ 1048576) (h4 : st = 2) : Ret 38 #[rV k i g st wy tr nx tag, .int .i64 1, .int .i64 now, .int .i64 wait] w (.tuple #[rV k i g 3 wy tr 0 tag, .int .i64 0]) := by
  have p0 : decide (wait < 1) = false := decide_eq_false (by omega)
  have p1 : decide ((1048576 : Int) < wait) = false := decide_eq_false (by omega)
  have p2 : (st != 2) = false := by rw [bne_eq_false_iff_eq]; omega
  have c0 := fun w => rrerr_c k i g st wy tr nx tag w g0 hs
  rw [he] at c0
  have C0 := Lib.hid c0
  clear c0
  have c1 := fun w => rtime_c now w
  rw [h2] at c1
  have C1 := Lib.hid c1
  clear c1
  clear h4
  go_enter Tryz.func38, Tryz.ntmps38
  go_wp2_with fail
  have r1 := (Row.new (W := w) (cs := (rC k i g st wy tr nx tag)) (t := 94)).on (below_alloc _ (.cells (rC 0 0 0 0 0 0 0 ⟨#[]⟩) 94))
  have r2 := Row.new (W := w.alloc (.cells (rC k i g st wy tr nx tag) 94)) (cs := (rC 0 0 0 0 0 0 0 ⟨#[]⟩)) (t := 94)
  rw [World.size_alloc] at r2
  have hc := ((Below.refl w.heap.size w).alloc (Nat.le_refl _) (.cells (rC k i g st wy tr nx tag) 94)).alloc (by simp) (.cells (rC 0 0 0 0 0 0 0 ⟨#[]⟩) 94)
  generalize (w.alloc (.cells (rC k i g st wy tr nx tag) 94)).alloc (.cells (rC 0 0 0 0 0 0 0 ⟨#[]⟩) 94) = W at *
  have h12 : w.heap.size ≠ w.heap.size + 1 := by omega
  have hp : w.heap.size ≤ w.heap.size + 1 := Nat.le_succ _
  generalize w.heap.size + 1 = p2 at *
  obtain ⟨p1, hp1⟩ : ∃ p1, w.heap.size = p1 := ⟨_, rfl⟩
  rw [hp1] at r1 h12
  rw [hp1]
  refine Calls.mono (C0.out _) ?_
  rintro e V0 ⟨rfl, hb⟩
  replace r1 := r1.on hb
  replace r2 := r2.on hb
  replace hc := chain hc hb
  clear hb
  have y1 := r1.cell
  have y1l := r1.lt
  go_wp2_with fail
  clear y1 y1l
  refine Calls.mono (C1.out _) ?_
  rintro e V1 ⟨rfl, hb⟩
  replace r1 := r1.on hb
  replace r2 := r2.on hb
  replace hc := chain hc hb
  clear hb
  have y1 := r1.cell
  have y1f := r1.free
  have y1l := r1.lt
  go_upto_region 18 with fail
  clear y1 y1f y1l
  replace r2 := ((r2.other h12 3 (.int .i64 3)).other h12 6 (.int .i64 0))
  replace hc := ((hc.setCell (p := ⟨p1, 3, none⟩) (Nat.le_of_eq hp1) (.int .i64 3)).setCell (p := ⟨p1, 6, none⟩) (Nat.le_of_eq hp1) (.int .i64 0))
  replace r1 := ((r1.set 3 (.int .i64 3)).set 6 (.int .i64 0))
  simp only [List.setIfInBounds_toArray, List.set_cons_zero, List.set_cons_succ] at r1
  generalize hW : World.setCell _ _ _ = X at *
  clear hW
  have y2 := r2.cell
  have y2f := r2.free
  have y2l := r2.lt
  have y1 := r1.cell
  have y1l := r1.lt
  go_wp2_with fail
  clear y2 y2f y2l y1 y1l
  replace r2 := ((((((((r2.set 0 (.int .i64 k)).set 1 (.int .i64 i)).set 2 (.int .u32 g)).set 3 (.int .i64 3)).set 4 (.int .i64 wy)).set 5 (.int .i64 tr)).set 6 (.int .i64 0)).set 7 (.string tag))
  replace hc := ((((((((hc.setCell (p := ⟨p2, 0, none⟩) hp (.int .i64 k)).setCell (p := ⟨p2, 1, none⟩) hp (.int .i64 i)).setCell (p := ⟨p2, 2, none⟩) hp (.int .u32 g)).setCell (p := ⟨p2, 3, none⟩) hp (.int .i64 3)).setCell (p := ⟨p2, 4, none⟩) hp (.int .i64 wy)).setCell (p := ⟨p2, 5, none⟩) hp (.int .i64 tr)).setCell (p := ⟨p2, 6, none⟩) hp (.int .i64 0)).setCell (p := ⟨p2, 7, none⟩) hp (.string tag))
  simp only [List.setIfInBounds_toArray, List.set_cons_zero, List.set_cons_succ] at r2
  generalize hW : World.setCell _ _ _ = Z9 at *
  clear hW
  have q0 := r2.cell 0
  have q1 := r2.cell 1
  have q2 := r2.cell 2
  have q3 := r2.cell 3
  have q4 := r2.cell 4
  have q5 := r2.cell 5
  have q6 := r2.cell 6
  have q7 := r2.cell 7
  simp only [List.getElem?_toArray, List.getElem?_cons_succ, List.getElem?_cons_zero] at q0 q1 q2 q3 q4 q5 q6 q7
  clear r2 r1
  refine bodyPost_ret (v := .tuple #[rV k i g 3 wy tr 0 tag, .int .i64 0]) (by simp [results, Tryz.results38, go_sem, q0, q1, q2, q3, q4, q5, q6, q7]) rfl ⟨rfl, by first | exact hc | (rw [← hp1]; exact hc)⟩

set_option maxHeartbeats 8000000 in
set_option maxRecDepth 20000 in
theorem rtried_3 (k i g st wy tr nx now wait e : Int) (tag : ByteArray) (w : World) (g0 : 0 ≤ g) (hs : tag.size ≤ 1000000) (he : rErr k i g st wy tr nx tag = 0) (h2 : isT now = true) (h3 : 1 ≤ wait ∧ wait ≤ 1048576) (h4 : st = 2) : Ret 38 #[rV k i g st wy tr nx tag, .int .i64 3, .int .i64 now, .int .i64 wait] w (.tuple #[rV k i g 4 wy tr 0 tag, .int .i64 0]) := by
  have p0 : decide (wait < 1) = false := decide_eq_false (by omega)
  have p1 : decide ((1048576 : Int) < wait) = false := decide_eq_false (by omega)
  have p2 : (st != 2) = false := by rw [bne_eq_false_iff_eq]; omega
  have c0 := fun w => rrerr_c k i g st wy tr nx tag w g0 hs
  rw [he] at c0
  have C0 := Lib.hid c0
  clear c0
  have c1 := fun w => rtime_c now w
  rw [h2] at c1
  have C1 := Lib.hid c1
  clear c1
  clear h4
  go_enter Tryz.func38, Tryz.ntmps38
  go_wp2_with fail
  have r1 := (Row.new (W := w) (cs := (rC k i g st wy tr nx tag)) (t := 94)).on (below_alloc _ (.cells (rC 0 0 0 0 0 0 0 ⟨#[]⟩) 94))
  have r2 := Row.new (W := w.alloc (.cells (rC k i g st wy tr nx tag) 94)) (cs := (rC 0 0 0 0 0 0 0 ⟨#[]⟩)) (t := 94)
  rw [World.size_alloc] at r2
  have hc := ((Below.refl w.heap.size w).alloc (Nat.le_refl _) (.cells (rC k i g st wy tr nx tag) 94)).alloc (by simp) (.cells (rC 0 0 0 0 0 0 0 ⟨#[]⟩) 94)
  generalize (w.alloc (.cells (rC k i g st wy tr nx tag) 94)).alloc (.cells (rC 0 0 0 0 0 0 0 ⟨#[]⟩) 94) = W at *
  have h12 : w.heap.size ≠ w.heap.size + 1 := by omega
  have hp : w.heap.size ≤ w.heap.size + 1 := Nat.le_succ _
  generalize w.heap.size + 1 = p2 at *
  obtain ⟨p1, hp1⟩ : ∃ p1, w.heap.size = p1 := ⟨_, rfl⟩
  rw [hp1] at r1 h12
  rw [hp1]
  refine Calls.mono (C0.out _) ?_
  rintro e V0 ⟨rfl, hb⟩
  replace r1 := r1.on hb
  replace r2 := r2.on hb
  replace hc := chain hc hb
  clear hb
  have y1 := r1.cell
  have y1l := r1.lt
  go_wp2_with fail
  clear y1 y1l
  refine Calls.mono (C1.out _) ?_
  rintro e V1 ⟨rfl, hb⟩
  replace r1 := r1.on hb
  replace r2 := r2.on hb
  replace hc := chain hc hb
  clear hb
  have y1 := r1.cell
  have y1f := r1.free
  have y1l := r1.lt
  go_upto_region 18 with fail
  clear y1 y1f y1l
  replace r2 := (((r2.other h12 3 (.int .i64 3)).other h12 3 (.int .i64 4)).other h12 6 (.int .i64 0))
  replace hc := (((hc.setCell (p := ⟨p1, 3, none⟩) (Nat.le_of_eq hp1) (.int .i64 3)).setCell (p := ⟨p1, 3, none⟩) (Nat.le_of_eq hp1) (.int .i64 4)).setCell (p := ⟨p1, 6, none⟩) (Nat.le_of_eq hp1) (.int .i64 0))
  replace r1 := (((r1.set 3 (.int .i64 3)).set 3 (.int .i64 4)).set 6 (.int .i64 0))
  simp only [List.setIfInBounds_toArray, List.set_cons_zero, List.set_cons_succ] at r1
  generalize hW : World.setCell _ _ _ = X at *
  clear hW
  have y2 := r2.cell
  have y2f := r2.free
  have y2l := r2.lt
  have y1 := r1.cell
  have y1l := r1.lt
  go_wp2_with fail
  clear y2 y2f y2l y1 y1l
  replace r2 := ((((((((r2.set 0 (.int .i64 k)).set 1 (.int .i64 i)).set 2 (.int .u32 g)).set 3 (.int .i64 4)).set 4 (.int .i64 wy)).set 5 (.int .i64 tr)).set 6 (.int .i64 0)).set 7 (.string tag))
  replace hc := ((((((((hc.setCell (p := ⟨p2, 0, none⟩) hp (.int .i64 k)).setCell (p := ⟨p2, 1, none⟩) hp (.int .i64 i)).setCell (p := ⟨p2, 2, none⟩) hp (.int .u32 g)).setCell (p := ⟨p2, 3, none⟩) hp (.int .i64 4)).setCell (p := ⟨p2, 4, none⟩) hp (.int .i64 wy)).setCell (p := ⟨p2, 5, none⟩) hp (.int .i64 tr)).setCell (p := ⟨p2, 6, none⟩) hp (.int .i64 0)).setCell (p := ⟨p2, 7, none⟩) hp (.string tag))
  simp only [List.setIfInBounds_toArray, List.set_cons_zero, List.set_cons_succ] at r2
  generalize hW : World.setCell _ _ _ = Z9 at *
  clear hW
  have q0 := r2.cell 0
  have q1 := r2.cell 1
  have q2 := r2.cell 2
  have q3 := r2.cell 3
  have q4 := r2.cell 4
  have q5 := r2.cell 5
  have q6 := r2.cell 6
  have q7 := r2.cell 7
  simp only [List.getElem?_toArray, List.getElem?_cons_succ, List.getElem?_cons_zero] at q0 q1 q2 q3 q4 q5 q6 q7
  clear r2 r1
  refine bodyPost_ret (v := .tuple #[rV k i g 4 wy tr 0 tag, .int .i64 0]) (by simp [results, Tryz.results38, go_sem, q0, q1, q2, q3, q4, q5, q6, q7]) rfl ⟨rfl, by first | exact hc | (rw [← hp1]; exact hc)⟩

theorem rtried_c (k i g st wy tr nx answer now wait : Int) (tag : ByteArray) (w : World) (g0 : 0 ≤ g) (hs : tag.size ≤ 1000000) : Ret 38 #[rV k i g st wy tr nx tag, .int .i64 answer, .int .i64 now, .int .i64 wait] w (triedV k i g st wy tr nx tag answer now wait) := by
  unfold triedV triedA
  by_cases he : rErr k i g st wy tr nx tag = 0
  · by_cases a1 : answer < 1
    · rw [inB_not (by omega), Bool.false_and, if_neg chkE_false, chkE_not he]
      exact rtried_a1 k i g st wy tr nx answer now wait 0 tag w g0 hs he a1
    by_cases a2 : 3 < answer
    · rw [inB_not (by omega), Bool.false_and, if_neg chkE_false, chkE_not he]
      exact rtried_a2 k i g st wy tr nx answer now wait 0 tag w g0 hs he a2
    rw [show inB answer 1 3 = true from inB_iff.2 (by omega), Bool.true_and]
    cases h2 : isT now with
    | false =>
      rw [Bool.false_and, if_neg chkE_false, chkE_not he]
      exact rtried_t k i g st wy tr nx answer now wait 0 tag w g0 hs he (by omega) h2
    | true =>
      rw [Bool.true_and]
      by_cases w1 : wait < 1
      · rw [inB_not (by omega), if_neg chkE_false, chkE_not he]
        exact rtried_w1 k i g st wy tr nx answer now wait 0 tag w g0 hs he (by omega) h2 w1
      by_cases w2 : 1048576 < wait
      · rw [inB_not (by omega), if_neg chkE_false, chkE_not he]
        exact rtried_w2 k i g st wy tr nx answer now wait 0 tag w g0 hs he (by omega) h2 w2
      rw [show inB wait 1 1048576 = true from inB_iff.2 (by omega)]
      by_cases h4 : st = 2
      · rw [if_pos (chkE_ok he h4)]
        have ht : 0 ≤ tr := by
          have := (pOk_iff.1 (rErr_zero he).1).2.2.2 (by omega)
          omega
        rcases (by omega : answer = 1 ∨ answer = 2 ∨ answer = 3) with rfl | rfl | rfl
        · rw [if_pos rfl]
          exact rtried_1 k i g st wy tr nx now wait 0 tag w g0 hs he h2 (by omega) h4
        · rw [if_neg (by decide), if_neg (by decide)]
          by_cases h5 : 1099511627776 < now + wait
          · rw [if_pos (.inl (by omega))]
            exact rtried_2a k i g st wy tr nx now wait 0 tag w g0 hs he h2 (by omega) h4 h5
          · by_cases h6 : 10000 ≤ tr
            · rw [if_pos (.inr h6)]
              exact rtried_2b k i g st wy tr nx now wait 0 tag w g0 hs he h2 (by omega) h4 h5 h6
            · rw [if_neg (by omega)]
              have := rtried_2c k i g st wy tr nx now wait 0 tag w g0 hs he h2 (by omega) h4 h5 h6 ht
              rw [h4] at this ⊢
              exact this
        · rw [if_neg (by decide), if_pos rfl]
          exact rtried_3 k i g st wy tr nx now wait 0 tag w g0 hs he h2 (by omega) h4
      · rw [if_neg (by rw [chkE_st he h4]; decide), chkE_st he h4]
        exact rtried_s k i g st wy tr nx answer now wait 0 tag w g0 hs he (by omega) h2 (by omega) h4
  · rw [chkE_bad he, if_neg he]
    exact rtried_e k i g st wy tr nx answer now wait _ tag w g0 hs rfl he

set_option maxHeartbeats 8000000 in
set_option maxRecDepth 20000 in
theorem rnew_c (k i g : Int) (tag : ByteArray) (w : World) (g0 : 0 ≤ g) (hs : tag.size ≤ 1000000) : Ret 57 #[.agg #[.int .i64 k, .int .i64 i, .int .u32 g], .string tag] w (newV k i g tag) := by
  have c := fun w => rrerr_c k i g 1 0 0 0 tag w g0 hs
  unfold newV
  generalize rErr k i g 1 0 0 0 tag = er at *
  have CC := Lib.hid c
  clear c
  by_cases he : er = 0
  · rw [if_pos he]
    subst he
    go_enter Tryz.func57, Tryz.ntmps57
    go_wp2_with fail
    refine Calls.mono (CC.out _) ?_
    rintro e w1 ⟨rfl, hb⟩
    have r2 := ((Row.new (W := w.alloc (.cells #[.int .i64 k, .int .i64 i, .int .u32 g] 83)) (cs := rC 0 0 0 0 0 0 0 ⟨#[]⟩) (t := 94)).on (below_alloc _ (.cells (rC k i g 1 0 0 0 tag) 94))).on hb
    have r3 := (Row.new (W := (w.alloc (.cells #[.int .i64 k, .int .i64 i, .int .u32 g] 83)).alloc (.cells (rC 0 0 0 0 0 0 0 ⟨#[]⟩) 94)) (cs := rC k i g 1 0 0 0 tag) (t := 94)).on hb
    rw [World.size_alloc] at r2 r3
    rw [World.size_alloc] at r3
    have hc : Below w.heap.size w w1 := under hb
    clear hb
    have y2 := r2.cell
    have y2f := r2.free
    have y2l := r2.lt
    have y3 := r3.cell
    have y3l := r3.lt
    have hp : w.heap.size ≤ w.heap.size + 1 := Nat.le_succ _
    generalize w.heap.size + 1 + 1 = p3 at *
    generalize w.heap.size + 1 = p2 at *
    go_wp2_with fail
    clear y2 y2f y2l y3 y3l
    replace r2 := ((((((((r2.set 0 (.int .i64 k)).set 1 (.int .i64 i)).set 2 (.int .u32 g)).set 3 (.int .i64 1)).set 4 (.int .i64 0)).set 5 (.int .i64 0)).set 6 (.int .i64 0)).set 7 (.string tag))
    replace hc := ((((((((hc.setCell (p := ⟨p2, 0, none⟩) hp (.int .i64 k)).setCell (p := ⟨p2, 1, none⟩) hp (.int .i64 i)).setCell (p := ⟨p2, 2, none⟩) hp (.int .u32 g)).setCell (p := ⟨p2, 3, none⟩) hp (.int .i64 1)).setCell (p := ⟨p2, 4, none⟩) hp (.int .i64 0)).setCell (p := ⟨p2, 5, none⟩) hp (.int .i64 0)).setCell (p := ⟨p2, 6, none⟩) hp (.int .i64 0)).setCell (p := ⟨p2, 7, none⟩) hp (.string tag))
    simp only [List.setIfInBounds_toArray, List.set_cons_zero, List.set_cons_succ] at r2
    generalize hW : World.setCell _ _ _ = Z at *
    clear hW
    have q0 := r2.cell 0
    have q1 := r2.cell 1
    have q2 := r2.cell 2
    have q3 := r2.cell 3
    have q4 := r2.cell 4
    have q5 := r2.cell 5
    have q6 := r2.cell 6
    have q7 := r2.cell 7
    simp only [List.getElem?_toArray, List.getElem?_cons_succ, List.getElem?_cons_zero] at q0 q1 q2 q3 q4 q5 q6 q7
    clear r2 r3
    refine bodyPost_ret (v := .tuple #[rV k i g 1 0 0 0 tag, .int .i64 0]) (by simp [results, Tryz.results57, go_sem, q0, q1, q2, q3, q4, q5, q6, q7]) rfl ⟨rfl, hc⟩
  · rw [if_neg he]
    have q : (er != 0) = true := by rw [bne_iff_ne]; exact he
    go_enter Tryz.func57, Tryz.ntmps57
    go_wp2_with fail
    refine Calls.mono (CC.out _) ?_
    rintro e w1 ⟨rfl, hb⟩
    have r2 := ((Row.new (W := w.alloc (.cells #[.int .i64 k, .int .i64 i, .int .u32 g] 83)) (cs := rC 0 0 0 0 0 0 0 ⟨#[]⟩) (t := 94)).on (below_alloc _ (.cells (rC k i g 1 0 0 0 tag) 94))).on hb
    have r3 := (Row.new (W := (w.alloc (.cells #[.int .i64 k, .int .i64 i, .int .u32 g] 83)).alloc (.cells (rC 0 0 0 0 0 0 0 ⟨#[]⟩) 94)) (cs := rC k i g 1 0 0 0 tag) (t := 94)).on hb
    rw [World.size_alloc] at r2 r3
    rw [World.size_alloc] at r3
    have hc : Below w.heap.size w w1 := under hb
    clear hb
    have y2 := r2.cell
    have y2f := r2.free
    have y2l := r2.lt
    have y3 := r3.cell
    have y3l := r3.lt
    have hp : w.heap.size ≤ w.heap.size + 1 := Nat.le_succ _
    generalize w.heap.size + 1 + 1 = p3 at *
    generalize w.heap.size + 1 = p2 at *
    go_wp2_with fail
    clear y2 y2f y2l y3 y3l
    replace r2 := ((((((((r2.set 0 (.int .i64 0)).set 1 (.int .i64 0)).set 2 (.int .u32 0)).set 3 (.int .i64 0)).set 4 (.int .i64 0)).set 5 (.int .i64 0)).set 6 (.int .i64 0)).set 7 (.string ⟨#[]⟩))
    replace hc := ((((((((hc.setCell (p := ⟨p2, 0, none⟩) hp (.int .i64 0)).setCell (p := ⟨p2, 1, none⟩) hp (.int .i64 0)).setCell (p := ⟨p2, 2, none⟩) hp (.int .u32 0)).setCell (p := ⟨p2, 3, none⟩) hp (.int .i64 0)).setCell (p := ⟨p2, 4, none⟩) hp (.int .i64 0)).setCell (p := ⟨p2, 5, none⟩) hp (.int .i64 0)).setCell (p := ⟨p2, 6, none⟩) hp (.int .i64 0)).setCell (p := ⟨p2, 7, none⟩) hp (.string ⟨#[]⟩))
    simp only [List.setIfInBounds_toArray, List.set_cons_zero, List.set_cons_succ] at r2
    generalize hW : World.setCell _ _ _ = Z at *
    clear hW
    have q0 := r2.cell 0
    have q1 := r2.cell 1
    have q2 := r2.cell 2
    have q3 := r2.cell 3
    have q4 := r2.cell 4
    have q5 := r2.cell 5
    have q6 := r2.cell 6
    have q7 := r2.cell 7
    simp only [List.getElem?_toArray, List.getElem?_cons_succ, List.getElem?_cons_zero] at q0 q1 q2 q3 q4 q5 q6 q7
    clear r2 r3
    refine bodyPost_ret (v := .tuple #[r0V, .int .i64 er]) (by simp [results, Tryz.results57, go_sem, q0, q1, q2, q3, q4, q5, q6, q7]) rfl ⟨rfl, hc⟩

end Go.Proofs.YtkjpdciccablpaaGreatDoor
