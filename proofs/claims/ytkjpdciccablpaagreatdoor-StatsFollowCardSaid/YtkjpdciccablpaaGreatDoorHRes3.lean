/- The program's Close, Tried and Due: their contracts. -/
import Derived.Test.YtkjpdciccablpaaGreatDoorL1a
namespace Go.Proofs.YtkjpdciccablpaaGreatDoor
open Go.RowKit
set_option linter.unusedVariables false
set_option linter.unusedSimpArgs false

set_option maxHeartbeats 8000000 in
set_option maxRecDepth 20000 in
theorem close_t (k i g st wy tr nx why now e : Int) (tag : ByteArray) (w : World) (g0 : 0 ≤ g) (g1 : g ≤ 4294967295) (hs : tag.size ≤ 1000000) (hA : inB why 1 3 = true) (hE : ∀ w, Ret 70 #[rV k i g st wy tr nx tag, .bool (isT now), .int .i64 1] w (.int .i64 e)) :
    Ret 35 #[rV k i g st wy tr nx tag, .int .i64 why, .int .i64 now] w (if e = 0 then .tuple #[rV k i g 2 why tr now tag, .int .i64 0] else .tuple #[r0V, .int .i64 e]) := by
  have HEE := Lib.hid hE
  have cA := fun w => in_c why 1 3 w
  rw [hA] at cA
  have CA := Lib.hid cA
  have CT := Lib.hid (fun w => isTime_c now w)
  clear hE cA
  obtain ⟨V, hV⟩ : ∃ V : Value, V = if e = 0 then .tuple #[rV k i g 2 why tr now tag, .int .i64 0] else .tuple #[r0V, .int .i64 e] := ⟨_, rfl⟩
  rw [← hV]
  have HV := Lib.hid hV
  clear hV
  go_enter Tryz.func35, Tryz.ntmps35
  go_wp2_with fail
  have r1 := (Row.new (W := w) (cs := (rC k i g st wy tr nx tag)) (t := 91)).on (below_alloc _ (.cells (rC 0 0 0 0 0 0 0 ⟨#[]⟩) 91))
  have r2 := Row.new (W := w.alloc (.cells (rC k i g st wy tr nx tag) 91)) (cs := (rC 0 0 0 0 0 0 0 ⟨#[]⟩)) (t := 91)
  rw [World.size_alloc] at r2
  have hc := ((Below.refl w.heap.size w).alloc (Nat.le_refl _) (.cells (rC k i g st wy tr nx tag) 91)).alloc (by simp) (.cells (rC 0 0 0 0 0 0 0 ⟨#[]⟩) 91)
  generalize (w.alloc (.cells (rC k i g st wy tr nx tag) 91)).alloc (.cells (rC 0 0 0 0 0 0 0 ⟨#[]⟩) 91) = W at *
  have h12 : w.heap.size ≠ w.heap.size + 1 := by omega
  have h21 : w.heap.size + 1 ≠ w.heap.size := by omega
  have hp0 : w.heap.size ≤ w.heap.size := Nat.le_refl _
  have hp : w.heap.size ≤ w.heap.size + 1 := Nat.le_succ _
  generalize w.heap.size + 1 = p2 at *
  obtain ⟨p1, hp1⟩ : ∃ p1, w.heap.size = p1 := ⟨_, rfl⟩
  rw [hp1] at r1 h12 h21 hp0
  rw [hp1]
  refine wp_region_held_drew (S := fun W' => (∀ j, W'.cell? ⟨p1, j, none⟩ = (rC k i g st wy tr nx tag)[j]?)) (by kernel_rfl) r1.cell (fun hHeld => ?_)
  replace r1 := r1.drew
  replace r2 := r2.drew
  replace hc := hc.drew
  generalize W.drew = V0 at *
  refine' wpAnyH_take (i := 0) (oi := _) (v := _) ?_ (by kernel_rfl) (by kernel_rfl) (by kernel_rfl) ?_ (Or.inl ⟨?_, ?_⟩) (by assumption) ?_
  rotate_left 2
  · (simp only [List.getElem?_toArray, List.getElem?_cons_succ, List.getElem?_cons_zero]; rfl)
  · first | exact fun _ _ _ h => h | exact fun _ _ _ h => nomatch h.1
  · rfl
  · (intro W hSW; (try dsimp only at hSW); go_split_ands; first | (go_simp; done) | (go_simp; with_reducible rfl))
  try simp only [Act.put, List.setIfInBounds_toArray, List.set_cons_zero, List.set_cons_succ]
  refine' wpAnyH_take (i := 1) (oi := _) (v := _) ?_ (by kernel_rfl) (by kernel_rfl) (by kernel_rfl) ?_ (Or.inl ⟨?_, ?_⟩) (by assumption) ?_
  rotate_left 2
  · (simp only [List.getElem?_toArray, List.getElem?_cons_succ, List.getElem?_cons_zero]; rfl)
  · first | exact fun _ _ _ h => h | exact fun _ _ _ h => nomatch h.1
  · rfl
  · (intro W hSW; (try dsimp only at hSW); go_split_ands; first | (go_simp; done) | (go_simp; with_reducible rfl))
  try simp only [Act.put, List.setIfInBounds_toArray, List.set_cons_zero, List.set_cons_succ]
  refine wpAnyH_ready (rs := [2]) (by kernel_rfl) (by simp) ?_
  refine' AllReadyH.cons (o := _) ?_ (fun K hK => ?_) AllReadyH.nil
  rotate_left 1
  · (simp only [List.getElem?_toArray, List.getElem?_cons_succ, List.getElem?_cons_zero]; rfl)
  go_simp
  refine Calls.mono (CA.out _) ?_
  rintro e V1 ⟨rfl, hb⟩
  replace r1 := r1.on hb
  replace r2 := r2.on hb
  replace hc := chain hc hb
  go_simp
  refine hK.out _ _ r1.cell (fun _ => ?_)
  clear hK K hb
  refine' wpAnyH_take (i := 3) (oi := _) (v := _) ?_ (by kernel_rfl) (by kernel_rfl) (by kernel_rfl) ?_ (Or.inl ⟨?_, ?_⟩) (by assumption) ?_
  rotate_left 2
  · (simp only [List.getElem?_toArray, List.getElem?_cons_succ, List.getElem?_cons_zero]; rfl)
  · first | exact fun _ _ _ h => h | exact fun _ _ _ h => nomatch h.1
  · rfl
  · (intro W hSW; (try dsimp only at hSW); go_split_ands; first | (go_simp; done) | (go_simp; with_reducible rfl))
  try simp only [Act.put, List.setIfInBounds_toArray, List.set_cons_zero, List.set_cons_succ]
  refine' wpAnyH_take (i := 4) (oi := _) (v := _) ?_ (by kernel_rfl) (by kernel_rfl) (by kernel_rfl) ?_ (Or.inl ⟨?_, ?_⟩) (by assumption) ?_
  rotate_left 2
  · (simp only [List.getElem?_toArray, List.getElem?_cons_succ, List.getElem?_cons_zero]; rfl)
  · first | exact fun _ _ _ h => h | exact fun _ _ _ h => nomatch h.1
  · rfl
  · (intro W hSW; (try dsimp only at hSW); go_split_ands; first | (go_simp; done) | (go_simp; with_reducible rfl))
  try simp only [Act.put, List.setIfInBounds_toArray, List.set_cons_zero, List.set_cons_succ]
  refine wpAnyH_ready (rs := [5]) (by kernel_rfl) (by simp) ?_
  refine' AllReadyH.cons (o := _) ?_ (fun K hK => ?_) AllReadyH.nil
  rotate_left 1
  · (simp only [List.getElem?_toArray, List.getElem?_cons_succ, List.getElem?_cons_zero]; rfl)
  go_simp
  refine Calls.mono (CT.out _) ?_
  rintro e V2 ⟨rfl, hb⟩
  replace r1 := r1.on hb
  replace r2 := r2.on hb
  replace hc := chain hc hb
  go_simp
  refine hK.out _ _ r1.cell (fun _ => ?_)
  clear hK K hb
  refine' wpAnyH_take (i := 6) (oi := _) (v := _) ?_ (by kernel_rfl) (by kernel_rfl) (by kernel_rfl) ?_ (Or.inl ⟨?_, ?_⟩) (by assumption) ?_
  rotate_left 2
  · (simp only [List.getElem?_toArray, List.getElem?_cons_succ, List.getElem?_cons_zero]; rfl)
  · first | exact fun _ _ _ h => h | exact fun _ _ _ h => nomatch h.1
  · rfl
  · (intro W hSW; (try dsimp only at hSW); go_split_ands; first | (go_simp; done) | (go_simp; with_reducible rfl))
  try simp only [Act.put, List.setIfInBounds_toArray, List.set_cons_zero, List.set_cons_succ]
  refine wpAnyH_ready (rs := [7]) (by kernel_rfl) (by simp) ?_
  refine' AllReadyH.cons (o := _) ?_ (fun K hK => ?_) AllReadyH.nil
  rotate_left 1
  · (simp only [List.getElem?_toArray, List.getElem?_cons_succ, List.getElem?_cons_zero]; rfl)
  go_simp
  refine Calls.mono (HEE.out _) ?_
  rintro e V3 ⟨rfl, hb⟩
  replace r1 := r1.on hb
  replace r2 := r2.on hb
  replace hc := chain hc hb
  go_simp
  refine hK.out _ _ r1.cell (fun _ => ?_)
  clear hK K hb
  refine' wpAnyH_take (i := 8) (oi := _) (v := _) ?_ (by kernel_rfl) (by kernel_rfl) (by kernel_rfl) ?_ (Or.inl ⟨?_, ?_⟩) (by assumption) ?_
  rotate_left 2
  · (simp only [List.getElem?_toArray, List.getElem?_cons_succ, List.getElem?_cons_zero]; rfl)
  · first | exact fun _ _ _ h => h | exact fun _ _ _ h => nomatch h.1
  · rfl
  · (intro W hSW; (try dsimp only at hSW); go_split_ands; first | (go_simp; done) | (go_simp; with_reducible rfl))
  try simp only [Act.put, List.setIfInBounds_toArray, List.set_cons_zero, List.set_cons_succ]
  refine wpAnyH_done (by kernel_rfl) ?_ _
  by_cases he : e = 0
  · subst he
    have hv : V = .tuple #[rV k i g 2 why tr now tag, .int .i64 0] := by rw [HV.out, if_pos rfl]
    subst hv
    have y1 := r1.cell
    have y1f := r1.free
    have y1l := r1.lt
    go_upto_region 5 with fail
    clear y1 y1f y1l
    replace r2 := (((r2.other h12 3 (.int .i64 2)).other h12 4 (.int .i64 why)).other h12 6 (.int .i64 now))
    replace hc := (((hc.setCell (p := ⟨p1, 3, none⟩) (Nat.le_of_eq hp1) (.int .i64 2)).setCell (p := ⟨p1, 4, none⟩) (Nat.le_of_eq hp1) (.int .i64 why)).setCell (p := ⟨p1, 6, none⟩) (Nat.le_of_eq hp1) (.int .i64 now))
    replace r1 := (((r1.set 3 (.int .i64 2)).set 4 (.int .i64 why)).set 6 (.int .i64 now))
    simp only [List.setIfInBounds_toArray, List.set_cons_zero, List.set_cons_succ] at r1
    generalize hW : World.setCell _ _ _ = X at *
    clear hW
    have y2 := r2.cell
    have y2f := r2.free
    have y2l := r2.lt
    have y1 := r1.cell
    have y1l := r1.lt
    go_wp2_with fail
    clear y2 y2f y2l y1 y1l
    replace r2 := ((((((((r2.set 0 (.int .i64 k)).set 1 (.int .i64 i)).set 2 (.int .u32 g)).set 3 (.int .i64 2)).set 4 (.int .i64 why)).set 5 (.int .i64 tr)).set 6 (.int .i64 now)).set 7 (.string tag))
    replace hc := ((((((((hc.setCell (p := ⟨p2, 0, none⟩) hp (.int .i64 k)).setCell (p := ⟨p2, 1, none⟩) hp (.int .i64 i)).setCell (p := ⟨p2, 2, none⟩) hp (.int .u32 g)).setCell (p := ⟨p2, 3, none⟩) hp (.int .i64 2)).setCell (p := ⟨p2, 4, none⟩) hp (.int .i64 why)).setCell (p := ⟨p2, 5, none⟩) hp (.int .i64 tr)).setCell (p := ⟨p2, 6, none⟩) hp (.int .i64 now)).setCell (p := ⟨p2, 7, none⟩) hp (.string tag))
    simp only [List.setIfInBounds_toArray, List.set_cons_zero, List.set_cons_succ] at r2
    generalize hW : World.setCell _ _ _ = Z9 at *
    clear hW
    have q0 := r2.cell 0
    have q1 := r2.cell 1
    have q2 := r2.cell 2
    have q3 := r2.cell 3
    have q4 := r2.cell 4
    have q5 := r2.cell 5
    have q6 := r2.cell 6
    have q7 := r2.cell 7
    simp only [List.getElem?_toArray, List.getElem?_cons_succ, List.getElem?_cons_zero] at q0 q1 q2 q3 q4 q5 q6 q7
    clear r2 r1
    refine bodyPost_ret (v := .tuple #[rV k i g 2 why tr now tag, .int .i64 0]) (by simp [results, Tryz.results35, go_sem, q0, q1, q2, q3, q4, q5, q6, q7]) rfl ⟨rfl, by first | exact hc | (rw [← hp1]; exact hc)⟩
  · have q : (e != 0) = true := by rw [bne_iff_ne]; exact he
    have hv : V = .tuple #[r0V, .int .i64 e] := by rw [HV.out, if_neg he]
    subst hv
    have y2 := r2.cell
    have y2f := r2.free
    have y2l := r2.lt
    have y1 := r1.cell
    have y1l := r1.lt
    go_wp2_with fail
    clear y2 y2f y2l y1 y1l
    replace r2 := ((((((((r2.set 0 (.int .i64 0)).set 1 (.int .i64 0)).set 2 (.int .u32 0)).set 3 (.int .i64 0)).set 4 (.int .i64 0)).set 5 (.int .i64 0)).set 6 (.int .i64 0)).set 7 (.string ⟨#[]⟩))
    replace hc := ((((((((hc.setCell (p := ⟨p2, 0, none⟩) hp (.int .i64 0)).setCell (p := ⟨p2, 1, none⟩) hp (.int .i64 0)).setCell (p := ⟨p2, 2, none⟩) hp (.int .u32 0)).setCell (p := ⟨p2, 3, none⟩) hp (.int .i64 0)).setCell (p := ⟨p2, 4, none⟩) hp (.int .i64 0)).setCell (p := ⟨p2, 5, none⟩) hp (.int .i64 0)).setCell (p := ⟨p2, 6, none⟩) hp (.int .i64 0)).setCell (p := ⟨p2, 7, none⟩) hp (.string ⟨#[]⟩))
    simp only [List.setIfInBounds_toArray, List.set_cons_zero, List.set_cons_succ] at r2
    generalize hW : World.setCell _ _ _ = Z9 at *
    clear hW
    have q0 := r2.cell 0
    have q1 := r2.cell 1
    have q2 := r2.cell 2
    have q3 := r2.cell 3
    have q4 := r2.cell 4
    have q5 := r2.cell 5
    have q6 := r2.cell 6
    have q7 := r2.cell 7
    simp only [List.getElem?_toArray, List.getElem?_cons_succ, List.getElem?_cons_zero] at q0 q1 q2 q3 q4 q5 q6 q7
    clear r2 r1
    refine bodyPost_ret (v := .tuple #[r0V, .int .i64 e]) (by simp [results, Tryz.results35, go_sem, q0, q1, q2, q3, q4, q5, q6, q7]) rfl ⟨rfl, by first | exact hc | (rw [← hp1]; exact hc)⟩

set_option maxHeartbeats 8000000 in
set_option maxRecDepth 20000 in
theorem close_f (k i g st wy tr nx why now e : Int) (tag : ByteArray) (w : World) (g0 : 0 ≤ g) (g1 : g ≤ 4294967295) (hs : tag.size ≤ 1000000) (hA : inB why 1 3 = false) (hE : ∀ w, Ret 70 #[rV k i g st wy tr nx tag, .bool false, .int .i64 1] w (.int .i64 e)) :
    Ret 35 #[rV k i g st wy tr nx tag, .int .i64 why, .int .i64 now] w (if e = 0 then .tuple #[rV k i g 2 why tr now tag, .int .i64 0] else .tuple #[r0V, .int .i64 e]) := by
  have HEE := Lib.hid hE
  have cA := fun w => in_c why 1 3 w
  rw [hA] at cA
  have CA := Lib.hid cA
  have CT := Lib.hid (fun w => isTime_c now w)
  clear hE cA
  obtain ⟨V, hV⟩ : ∃ V : Value, V = if e = 0 then .tuple #[rV k i g 2 why tr now tag, .int .i64 0] else .tuple #[r0V, .int .i64 e] := ⟨_, rfl⟩
  rw [← hV]
  have HV := Lib.hid hV
  clear hV
  go_enter Tryz.func35, Tryz.ntmps35
  go_wp2_with fail
  have r1 := (Row.new (W := w) (cs := (rC k i g st wy tr nx tag)) (t := 91)).on (below_alloc _ (.cells (rC 0 0 0 0 0 0 0 ⟨#[]⟩) 91))
  have r2 := Row.new (W := w.alloc (.cells (rC k i g st wy tr nx tag) 91)) (cs := (rC 0 0 0 0 0 0 0 ⟨#[]⟩)) (t := 91)
  rw [World.size_alloc] at r2
  have hc := ((Below.refl w.heap.size w).alloc (Nat.le_refl _) (.cells (rC k i g st wy tr nx tag) 91)).alloc (by simp) (.cells (rC 0 0 0 0 0 0 0 ⟨#[]⟩) 91)
  generalize (w.alloc (.cells (rC k i g st wy tr nx tag) 91)).alloc (.cells (rC 0 0 0 0 0 0 0 ⟨#[]⟩) 91) = W at *
  have h12 : w.heap.size ≠ w.heap.size + 1 := by omega
  have h21 : w.heap.size + 1 ≠ w.heap.size := by omega
  have hp0 : w.heap.size ≤ w.heap.size := Nat.le_refl _
  have hp : w.heap.size ≤ w.heap.size + 1 := Nat.le_succ _
  generalize w.heap.size + 1 = p2 at *
  obtain ⟨p1, hp1⟩ : ∃ p1, w.heap.size = p1 := ⟨_, rfl⟩
  rw [hp1] at r1 h12 h21 hp0
  rw [hp1]
  refine wp_region_held_drew (S := fun W' => (∀ j, W'.cell? ⟨p1, j, none⟩ = (rC k i g st wy tr nx tag)[j]?)) (by kernel_rfl) r1.cell (fun hHeld => ?_)
  replace r1 := r1.drew
  replace r2 := r2.drew
  replace hc := hc.drew
  generalize W.drew = V0 at *
  refine' wpAnyH_take (i := 0) (oi := _) (v := _) ?_ (by kernel_rfl) (by kernel_rfl) (by kernel_rfl) ?_ (Or.inl ⟨?_, ?_⟩) (by assumption) ?_
  rotate_left 2
  · (simp only [List.getElem?_toArray, List.getElem?_cons_succ, List.getElem?_cons_zero]; rfl)
  · first | exact fun _ _ _ h => h | exact fun _ _ _ h => nomatch h.1
  · rfl
  · (intro W hSW; (try dsimp only at hSW); go_split_ands; first | (go_simp; done) | (go_simp; with_reducible rfl))
  try simp only [Act.put, List.setIfInBounds_toArray, List.set_cons_zero, List.set_cons_succ]
  refine' wpAnyH_take (i := 1) (oi := _) (v := _) ?_ (by kernel_rfl) (by kernel_rfl) (by kernel_rfl) ?_ (Or.inl ⟨?_, ?_⟩) (by assumption) ?_
  rotate_left 2
  · (simp only [List.getElem?_toArray, List.getElem?_cons_succ, List.getElem?_cons_zero]; rfl)
  · first | exact fun _ _ _ h => h | exact fun _ _ _ h => nomatch h.1
  · rfl
  · (intro W hSW; (try dsimp only at hSW); go_split_ands; first | (go_simp; done) | (go_simp; with_reducible rfl))
  try simp only [Act.put, List.setIfInBounds_toArray, List.set_cons_zero, List.set_cons_succ]
  refine wpAnyH_ready (rs := [2]) (by kernel_rfl) (by simp) ?_
  refine' AllReadyH.cons (o := _) ?_ (fun K hK => ?_) AllReadyH.nil
  rotate_left 1
  · (simp only [List.getElem?_toArray, List.getElem?_cons_succ, List.getElem?_cons_zero]; rfl)
  go_simp
  refine Calls.mono (CA.out _) ?_
  rintro e V1 ⟨rfl, hb⟩
  replace r1 := r1.on hb
  replace r2 := r2.on hb
  replace hc := chain hc hb
  go_simp
  refine hK.out _ _ r1.cell (fun _ => ?_)
  clear hK K hb
  refine' wpAnyH_take (i := 3) (oi := _) (v := _) ?_ (by kernel_rfl) (by kernel_rfl) (by kernel_rfl) ?_ (Or.inl ⟨?_, ?_⟩) (by assumption) ?_
  rotate_left 2
  · (simp only [List.getElem?_toArray, List.getElem?_cons_succ, List.getElem?_cons_zero]; rfl)
  · first | exact fun _ _ _ h => h | exact fun _ _ _ h => nomatch h.1
  · rfl
  · (intro W hSW; (try dsimp only at hSW); go_split_ands; first | (go_simp; done) | (go_simp; with_reducible rfl))
  try simp only [Act.put, List.setIfInBounds_toArray, List.set_cons_zero, List.set_cons_succ]
  refine' wpAnyH_take (i := 4) (oi := _) (v := _) ?_ (by kernel_rfl) (by kernel_rfl) (by kernel_rfl) ?_ (Or.inr ⟨?_, rfl⟩) (by assumption) ?_
  rotate_left 1
  · (simp only [List.getElem?_toArray, List.getElem?_cons_succ, List.getElem?_cons_zero]; rfl)
  · first | exact fun _ _ _ h => h | exact fun _ _ _ h => nomatch h.1
  · rfl
  try simp only [Act.put, List.setIfInBounds_toArray, List.set_cons_zero, List.set_cons_succ]
  refine' wpAnyH_take (i := 5) (oi := _) (v := _) ?_ (by kernel_rfl) (by kernel_rfl) (by kernel_rfl) ?_ (Or.inr ⟨?_, rfl⟩) (by assumption) ?_
  rotate_left 1
  · (simp only [List.getElem?_toArray, List.getElem?_cons_succ, List.getElem?_cons_zero]; rfl)
  · first | exact fun _ _ _ h => h | exact fun _ _ _ h => nomatch h.1
  · rfl
  try simp only [Act.put, List.setIfInBounds_toArray, List.set_cons_zero, List.set_cons_succ]
  refine' wpAnyH_take (i := 6) (oi := _) (v := _) ?_ (by kernel_rfl) (by kernel_rfl) (by kernel_rfl) ?_ (Or.inl ⟨?_, ?_⟩) (by assumption) ?_
  rotate_left 2
  · (simp only [List.getElem?_toArray, List.getElem?_cons_succ, List.getElem?_cons_zero]; rfl)
  · first | exact fun _ _ _ h => h | exact fun _ _ _ h => nomatch h.1
  · rfl
  · (intro W hSW; (try dsimp only at hSW); go_split_ands; first | (go_simp; done) | (go_simp; with_reducible rfl))
  try simp only [Act.put, List.setIfInBounds_toArray, List.set_cons_zero, List.set_cons_succ]
  refine wpAnyH_ready (rs := [7]) (by kernel_rfl) (by simp) ?_
  refine' AllReadyH.cons (o := _) ?_ (fun K hK => ?_) AllReadyH.nil
  rotate_left 1
  · (simp only [List.getElem?_toArray, List.getElem?_cons_succ, List.getElem?_cons_zero]; rfl)
  go_simp
  refine Calls.mono (HEE.out _) ?_
  rintro e V3 ⟨rfl, hb⟩
  replace r1 := r1.on hb
  replace r2 := r2.on hb
  replace hc := chain hc hb
  go_simp
  refine hK.out _ _ r1.cell (fun _ => ?_)
  clear hK K hb
  refine' wpAnyH_take (i := 8) (oi := _) (v := _) ?_ (by kernel_rfl) (by kernel_rfl) (by kernel_rfl) ?_ (Or.inl ⟨?_, ?_⟩) (by assumption) ?_
  rotate_left 2
  · (simp only [List.getElem?_toArray, List.getElem?_cons_succ, List.getElem?_cons_zero]; rfl)
  · first | exact fun _ _ _ h => h | exact fun _ _ _ h => nomatch h.1
  · rfl
  · (intro W hSW; (try dsimp only at hSW); go_split_ands; first | (go_simp; done) | (go_simp; with_reducible rfl))
  try simp only [Act.put, List.setIfInBounds_toArray, List.set_cons_zero, List.set_cons_succ]
  refine wpAnyH_done (by kernel_rfl) ?_ _
  by_cases he : e = 0
  · subst he
    have hv : V = .tuple #[rV k i g 2 why tr now tag, .int .i64 0] := by rw [HV.out, if_pos rfl]
    subst hv
    have y1 := r1.cell
    have y1f := r1.free
    have y1l := r1.lt
    go_upto_region 5 with fail
    clear y1 y1f y1l
    replace r2 := (((r2.other h12 3 (.int .i64 2)).other h12 4 (.int .i64 why)).other h12 6 (.int .i64 now))
    replace hc := (((hc.setCell (p := ⟨p1, 3, none⟩) (Nat.le_of_eq hp1) (.int .i64 2)).setCell (p := ⟨p1, 4, none⟩) (Nat.le_of_eq hp1) (.int .i64 why)).setCell (p := ⟨p1, 6, none⟩) (Nat.le_of_eq hp1) (.int .i64 now))
    replace r1 := (((r1.set 3 (.int .i64 2)).set 4 (.int .i64 why)).set 6 (.int .i64 now))
    simp only [List.setIfInBounds_toArray, List.set_cons_zero, List.set_cons_succ] at r1
    generalize hW : World.setCell _ _ _ = X at *
    clear hW
    have y2 := r2.cell
    have y2f := r2.free
    have y2l := r2.lt
    have y1 := r1.cell
    have y1l := r1.lt
    go_wp2_with fail
    clear y2 y2f y2l y1 y1l
    replace r2 := ((((((((r2.set 0 (.int .i64 k)).set 1 (.int .i64 i)).set 2 (.int .u32 g)).set 3 (.int .i64 2)).set 4 (.int .i64 why)).set 5 (.int .i64 tr)).set 6 (.int .i64 now)).set 7 (.string tag))
    replace hc := ((((((((hc.setCell (p := ⟨p2, 0, none⟩) hp (.int .i64 k)).setCell (p := ⟨p2, 1, none⟩) hp (.int .i64 i)).setCell (p := ⟨p2, 2, none⟩) hp (.int .u32 g)).setCell (p := ⟨p2, 3, none⟩) hp (.int .i64 2)).setCell (p := ⟨p2, 4, none⟩) hp (.int .i64 why)).setCell (p := ⟨p2, 5, none⟩) hp (.int .i64 tr)).setCell (p := ⟨p2, 6, none⟩) hp (.int .i64 now)).setCell (p := ⟨p2, 7, none⟩) hp (.string tag))
    simp only [List.setIfInBounds_toArray, List.set_cons_zero, List.set_cons_succ] at r2
    generalize hW : World.setCell _ _ _ = Z9 at *
    clear hW
    have q0 := r2.cell 0
    have q1 := r2.cell 1
    have q2 := r2.cell 2
    have q3 := r2.cell 3
    have q4 := r2.cell 4
    have q5 := r2.cell 5
    have q6 := r2.cell 6
    have q7 := r2.cell 7
    simp only [List.getElem?_toArray, List.getElem?_cons_succ, List.getElem?_cons_zero] at q0 q1 q2 q3 q4 q5 q6 q7
    clear r2 r1
    refine bodyPost_ret (v := .tuple #[rV k i g 2 why tr now tag, .int .i64 0]) (by simp [results, Tryz.results35, go_sem, q0, q1, q2, q3, q4, q5, q6, q7]) rfl ⟨rfl, by first | exact hc | (rw [← hp1]; exact hc)⟩
  · have q : (e != 0) = true := by rw [bne_iff_ne]; exact he
    have hv : V = .tuple #[r0V, .int .i64 e] := by rw [HV.out, if_neg he]
    subst hv
    have y2 := r2.cell
    have y2f := r2.free
    have y2l := r2.lt
    have y1 := r1.cell
    have y1l := r1.lt
    go_wp2_with fail
    clear y2 y2f y2l y1 y1l
    replace r2 := ((((((((r2.set 0 (.int .i64 0)).set 1 (.int .i64 0)).set 2 (.int .u32 0)).set 3 (.int .i64 0)).set 4 (.int .i64 0)).set 5 (.int .i64 0)).set 6 (.int .i64 0)).set 7 (.string ⟨#[]⟩))
    replace hc := ((((((((hc.setCell (p := ⟨p2, 0, none⟩) hp (.int .i64 0)).setCell (p := ⟨p2, 1, none⟩) hp (.int .i64 0)).setCell (p := ⟨p2, 2, none⟩) hp (.int .u32 0)).setCell (p := ⟨p2, 3, none⟩) hp (.int .i64 0)).setCell (p := ⟨p2, 4, none⟩) hp (.int .i64 0)).setCell (p := ⟨p2, 5, none⟩) hp (.int .i64 0)).setCell (p := ⟨p2, 6, none⟩) hp (.int .i64 0)).setCell (p := ⟨p2, 7, none⟩) hp (.string ⟨#[]⟩))
    simp only [List.setIfInBounds_toArray, List.set_cons_zero, List.set_cons_succ] at r2
    generalize hW : World.setCell _ _ _ = Z9 at *
    clear hW
    have q0 := r2.cell 0
    have q1 := r2.cell 1
    have q2 := r2.cell 2
    have q3 := r2.cell 3
    have q4 := r2.cell 4
    have q5 := r2.cell 5
    have q6 := r2.cell 6
    have q7 := r2.cell 7
    simp only [List.getElem?_toArray, List.getElem?_cons_succ, List.getElem?_cons_zero] at q0 q1 q2 q3 q4 q5 q6 q7
    clear r2 r1
    refine bodyPost_ret (v := .tuple #[r0V, .int .i64 e]) (by simp [results, Tryz.results35, go_sem, q0, q1, q2, q3, q4, q5, q6, q7]) rfl ⟨rfl, by first | exact hc | (rw [← hp1]; exact hc)⟩

theorem close_c (k i g st wy tr nx why now : Int) (tag : ByteArray) (w : World) (g0 : 0 ≤ g) (g1 : g ≤ 4294967295) (hs : tag.size ≤ 1000000) : Ret 35 #[rV k i g st wy tr nx tag, .int .i64 why, .int .i64 now] w (closeV k i g st wy tr nx tag why now) := by
  unfold closeV
  cases hA : inB why 1 3 with
  | true => exact close_t k i g st wy tr nx why now _ tag w g0 g1 hs hA (fun w => chk_c k i g st wy tr nx tag (isT now) 1 w g0 g1 hs)
  | false => exact close_f k i g st wy tr nx why now _ tag w g0 g1 hs hA (fun w => chk_c k i g st wy tr nx tag false 1 w g0 g1 hs)
set_option maxHeartbeats 8000000 in
set_option maxRecDepth 20000 in
theorem tried_ef (k i g st wy tr nx answer now wait e : Int) (tag : ByteArray) (w : World) (g0 : 0 ≤ g) (g1 : g ≤ 4294967295) (hs : tag.size ≤ 1000000) (he : e ≠ 0) (hA : inB answer 1 3 = false) (hE : ∀ w, Ret 70 #[rV k i g st wy tr nx tag, .bool false, .int .i64 2] w (.int .i64 e)) :
    Ret 37 #[rV k i g st wy tr nx tag, .int .i64 answer, .int .i64 now, .int .i64 wait] w (.tuple #[r0V, .int .i64 e]) := by
  have HEE := Lib.hid hE
  have cA := fun w => in_c answer 1 3 w
  rw [hA] at cA
  have CA := Lib.hid cA
  clear hE cA
  go_enter Tryz.func37, Tryz.ntmps37
  go_wp2_with fail
  have r1 := (Row.new (W := w) (cs := (rC k i g st wy tr nx tag)) (t := 91)).on (below_alloc _ (.cells (rC 0 0 0 0 0 0 0 ⟨#[]⟩) 91))
  have r2 := Row.new (W := w.alloc (.cells (rC k i g st wy tr nx tag) 91)) (cs := (rC 0 0 0 0 0 0 0 ⟨#[]⟩)) (t := 91)
  rw [World.size_alloc] at r2
  have hc := ((Below.refl w.heap.size w).alloc (Nat.le_refl _) (.cells (rC k i g st wy tr nx tag) 91)).alloc (by simp) (.cells (rC 0 0 0 0 0 0 0 ⟨#[]⟩) 91)
  generalize (w.alloc (.cells (rC k i g st wy tr nx tag) 91)).alloc (.cells (rC 0 0 0 0 0 0 0 ⟨#[]⟩) 91) = W at *
  have h12 : w.heap.size ≠ w.heap.size + 1 := by omega
  have h21 : w.heap.size + 1 ≠ w.heap.size := by omega
  have hp0 : w.heap.size ≤ w.heap.size := Nat.le_refl _
  have hp : w.heap.size ≤ w.heap.size + 1 := Nat.le_succ _
  generalize w.heap.size + 1 = p2 at *
  obtain ⟨p1, hp1⟩ : ∃ p1, w.heap.size = p1 := ⟨_, rfl⟩
  rw [hp1] at r1 h12 h21 hp0
  rw [hp1]
  refine wp_region_held_drew (S := fun W' => (∀ j, W'.cell? ⟨p1, j, none⟩ = (rC k i g st wy tr nx tag)[j]?)) (by kernel_rfl) r1.cell (fun hHeld => ?_)
  replace r1 := r1.drew
  replace r2 := r2.drew
  replace hc := hc.drew
  generalize W.drew = V0 at *
  refine' wpAnyH_take (i := 0) (oi := _) (v := _) ?_ (by kernel_rfl) (by kernel_rfl) (by kernel_rfl) ?_ (Or.inl ⟨?_, ?_⟩) (by assumption) ?_
  rotate_left 2
  · (simp only [List.getElem?_toArray, List.getElem?_cons_succ, List.getElem?_cons_zero]; rfl)
  · first | exact fun _ _ _ h => h | exact fun _ _ _ h => nomatch h.1
  · rfl
  · (intro W hSW; (try dsimp only at hSW); go_split_ands; first | (go_simp; done) | (go_simp; with_reducible rfl))
  try simp only [Act.put, List.setIfInBounds_toArray, List.set_cons_zero, List.set_cons_succ]
  refine' wpAnyH_take (i := 1) (oi := _) (v := _) ?_ (by kernel_rfl) (by kernel_rfl) (by kernel_rfl) ?_ (Or.inl ⟨?_, ?_⟩) (by assumption) ?_
  rotate_left 2
  · (simp only [List.getElem?_toArray, List.getElem?_cons_succ, List.getElem?_cons_zero]; rfl)
  · first | exact fun _ _ _ h => h | exact fun _ _ _ h => nomatch h.1
  · rfl
  · (intro W hSW; (try dsimp only at hSW); go_split_ands; first | (go_simp; done) | (go_simp; with_reducible rfl))
  try simp only [Act.put, List.setIfInBounds_toArray, List.set_cons_zero, List.set_cons_succ]
  refine wpAnyH_ready (rs := [2]) (by kernel_rfl) (by simp) ?_
  refine' AllReadyH.cons (o := _) ?_ (fun K hK => ?_) AllReadyH.nil
  rotate_left 1
  · (simp only [List.getElem?_toArray, List.getElem?_cons_succ, List.getElem?_cons_zero]; rfl)
  go_simp
  refine Calls.mono (CA.out _) ?_
  rintro e V1 ⟨rfl, hb⟩
  replace r1 := r1.on hb
  replace r2 := r2.on hb
  replace hc := chain hc hb
  go_simp
  refine hK.out _ _ r1.cell (fun _ => ?_)
  clear hK K hb
  refine' wpAnyH_take (i := 3) (oi := _) (v := _) ?_ (by kernel_rfl) (by kernel_rfl) (by kernel_rfl) ?_ (Or.inl ⟨?_, ?_⟩) (by assumption) ?_
  rotate_left 2
  · (simp only [List.getElem?_toArray, List.getElem?_cons_succ, List.getElem?_cons_zero]; rfl)
  · first | exact fun _ _ _ h => h | exact fun _ _ _ h => nomatch h.1
  · rfl
  · (intro W hSW; (try dsimp only at hSW); go_split_ands; first | (go_simp; done) | (go_simp; with_reducible rfl))
  try simp only [Act.put, List.setIfInBounds_toArray, List.set_cons_zero, List.set_cons_succ]
  refine' wpAnyH_take (i := 4) (oi := _) (v := _) ?_ (by kernel_rfl) (by kernel_rfl) (by kernel_rfl) ?_ (Or.inr ⟨?_, rfl⟩) (by assumption) ?_
  rotate_left 1
  · (simp only [List.getElem?_toArray, List.getElem?_cons_succ, List.getElem?_cons_zero]; rfl)
  · first | exact fun _ _ _ h => h | exact fun _ _ _ h => nomatch h.1
  · rfl
  try simp only [Act.put, List.setIfInBounds_toArray, List.set_cons_zero, List.set_cons_succ]
  refine' wpAnyH_take (i := 5) (oi := _) (v := _) ?_ (by kernel_rfl) (by kernel_rfl) (by kernel_rfl) ?_ (Or.inr ⟨?_, rfl⟩) (by assumption) ?_
  rotate_left 1
  · (simp only [List.getElem?_toArray, List.getElem?_cons_succ, List.getElem?_cons_zero]; rfl)
  · first | exact fun _ _ _ h => h | exact fun _ _ _ h => nomatch h.1
  · rfl
  try simp only [Act.put, List.setIfInBounds_toArray, List.set_cons_zero, List.set_cons_succ]
  refine' wpAnyH_take (i := 6) (oi := _) (v := _) ?_ (by kernel_rfl) (by kernel_rfl) (by kernel_rfl) ?_ (Or.inl ⟨?_, ?_⟩) (by assumption) ?_
  rotate_left 2
  · (simp only [List.getElem?_toArray, List.getElem?_cons_succ, List.getElem?_cons_zero]; rfl)
  · first | exact fun _ _ _ h => h | exact fun _ _ _ h => nomatch h.1
  · rfl
  · (intro W hSW; (try dsimp only at hSW); go_split_ands; first | (go_simp; done) | (go_simp; with_reducible rfl))
  try simp only [Act.put, List.setIfInBounds_toArray, List.set_cons_zero, List.set_cons_succ]
  refine' wpAnyH_take (i := 7) (oi := _) (v := _) ?_ (by kernel_rfl) (by kernel_rfl) (by kernel_rfl) ?_ (Or.inl ⟨?_, ?_⟩) (by assumption) ?_
  rotate_left 2
  · (simp only [List.getElem?_toArray, List.getElem?_cons_succ, List.getElem?_cons_zero]; rfl)
  · first | exact fun _ _ _ h => h | exact fun _ _ _ h => nomatch h.1
  · rfl
  · (intro W hSW; (try dsimp only at hSW); go_split_ands; first | (go_simp; done) | (go_simp; with_reducible rfl))
  try simp only [Act.put, List.setIfInBounds_toArray, List.set_cons_zero, List.set_cons_succ]
  refine' wpAnyH_take (i := 8) (oi := _) (v := _) ?_ (by kernel_rfl) (by kernel_rfl) (by kernel_rfl) ?_ (Or.inr ⟨?_, rfl⟩) (by assumption) ?_
  rotate_left 1
  · (simp only [List.getElem?_toArray, List.getElem?_cons_succ, List.getElem?_cons_zero]; rfl)
  · first | exact fun _ _ _ h => h | exact fun _ _ _ h => nomatch h.1
  · rfl
  try simp only [Act.put, List.setIfInBounds_toArray, List.set_cons_zero, List.set_cons_succ]
  refine' wpAnyH_take (i := 9) (oi := _) (v := _) ?_ (by kernel_rfl) (by kernel_rfl) (by kernel_rfl) ?_ (Or.inr ⟨?_, rfl⟩) (by assumption) ?_
  rotate_left 1
  · (simp only [List.getElem?_toArray, List.getElem?_cons_succ, List.getElem?_cons_zero]; rfl)
  · first | exact fun _ _ _ h => h | exact fun _ _ _ h => nomatch h.1
  · rfl
  try simp only [Act.put, List.setIfInBounds_toArray, List.set_cons_zero, List.set_cons_succ]
  refine' wpAnyH_take (i := 10) (oi := _) (v := _) ?_ (by kernel_rfl) (by kernel_rfl) (by kernel_rfl) ?_ (Or.inl ⟨?_, ?_⟩) (by assumption) ?_
  rotate_left 2
  · (simp only [List.getElem?_toArray, List.getElem?_cons_succ, List.getElem?_cons_zero]; rfl)
  · first | exact fun _ _ _ h => h | exact fun _ _ _ h => nomatch h.1
  · rfl
  · (intro W hSW; (try dsimp only at hSW); go_split_ands; first | (go_simp; done) | (go_simp; with_reducible rfl))
  try simp only [Act.put, List.setIfInBounds_toArray, List.set_cons_zero, List.set_cons_succ]
  refine wpAnyH_ready (rs := [11]) (by kernel_rfl) (by simp) ?_
  refine' AllReadyH.cons (o := _) ?_ (fun K hK => ?_) AllReadyH.nil
  rotate_left 1
  · (simp only [List.getElem?_toArray, List.getElem?_cons_succ, List.getElem?_cons_zero]; rfl)
  go_simp
  refine Calls.mono (HEE.out _) ?_
  rintro e V4 ⟨rfl, hb⟩
  replace r1 := r1.on hb
  replace r2 := r2.on hb
  replace hc := chain hc hb
  go_simp
  refine hK.out _ _ r1.cell (fun _ => ?_)
  clear hK K hb
  refine' wpAnyH_take (i := 12) (oi := _) (v := _) ?_ (by kernel_rfl) (by kernel_rfl) (by kernel_rfl) ?_ (Or.inl ⟨?_, ?_⟩) (by assumption) ?_
  rotate_left 2
  · (simp only [List.getElem?_toArray, List.getElem?_cons_succ, List.getElem?_cons_zero]; rfl)
  · first | exact fun _ _ _ h => h | exact fun _ _ _ h => nomatch h.1
  · rfl
  · (intro W hSW; (try dsimp only at hSW); go_split_ands; first | (go_simp; done) | (go_simp; with_reducible rfl))
  try simp only [Act.put, List.setIfInBounds_toArray, List.set_cons_zero, List.set_cons_succ]
  refine wpAnyH_done (by kernel_rfl) ?_ _
  have q : (e != 0) = true := by rw [bne_iff_ne]; exact he
  have y2 := r2.cell
  have y2f := r2.free
  have y2l := r2.lt
  have y1 := r1.cell
  have y1l := r1.lt
  go_wp2_with fail
  clear y2 y2f y2l y1 y1l
  replace r2 := ((((((((r2.set 0 (.int .i64 0)).set 1 (.int .i64 0)).set 2 (.int .u32 0)).set 3 (.int .i64 0)).set 4 (.int .i64 0)).set 5 (.int .i64 0)).set 6 (.int .i64 0)).set 7 (.string ⟨#[]⟩))
  replace hc := ((((((((hc.setCell (p := ⟨p2, 0, none⟩) hp (.int .i64 0)).setCell (p := ⟨p2, 1, none⟩) hp (.int .i64 0)).setCell (p := ⟨p2, 2, none⟩) hp (.int .u32 0)).setCell (p := ⟨p2, 3, none⟩) hp (.int .i64 0)).setCell (p := ⟨p2, 4, none⟩) hp (.int .i64 0)).setCell (p := ⟨p2, 5, none⟩) hp (.int .i64 0)).setCell (p := ⟨p2, 6, none⟩) hp (.int .i64 0)).setCell (p := ⟨p2, 7, none⟩) hp (.string ⟨#[]⟩))
  simp only [List.setIfInBounds_toArray, List.set_cons_zero, List.set_cons_succ] at r2
  generalize hW : World.setCell _ _ _ = Z9 at *
  clear hW
  have q0 := r2.cell 0
  have q1 := r2.cell 1
  have q2 := r2.cell 2
  have q3 := r2.cell 3
  have q4 := r2.cell 4
  have q5 := r2.cell 5
  have q6 := r2.cell 6
  have q7 := r2.cell 7
  simp only [List.getElem?_toArray, List.getElem?_cons_succ, List.getElem?_cons_zero] at q0 q1 q2 q3 q4 q5 q6 q7
  clear r2 r1
  refine bodyPost_ret (v := .tuple #[r0V, .int .i64 e]) (by simp [results, Tryz.results37, go_sem, q0, q1, q2, q3, q4, q5, q6, q7]) rfl ⟨rfl, by first | exact hc | (rw [← hp1]; exact hc)⟩

set_option maxHeartbeats 8000000 in
set_option maxRecDepth 20000 in
theorem tried_etf (k i g st wy tr nx answer now wait e : Int) (tag : ByteArray) (w : World) (g0 : 0 ≤ g) (g1 : g ≤ 4294967295) (hs : tag.size ≤ 1000000) (he : e ≠ 0) (hA : inB answer 1 3 = true) (hT : isT now = false) (hE : ∀ w, Ret 70 #[rV k i g st wy tr nx tag, .bool false, .int .i64 2] w (.int .i64 e)) :
    Ret 37 #[rV k i g st wy tr nx tag, .int .i64 answer, .int .i64 now, .int .i64 wait] w (.tuple #[r0V, .int .i64 e]) := by
  have HEE := Lib.hid hE
  have cA := fun w => in_c answer 1 3 w
  rw [hA] at cA
  have CA := Lib.hid cA
  clear hE cA
  have cT := fun w => isTime_c now w
  rw [hT] at cT
  have CT := Lib.hid cT
  clear cT
  go_enter Tryz.func37, Tryz.ntmps37
  go_wp2_with fail
  have r1 := (Row.new (W := w) (cs := (rC k i g st wy tr nx tag)) (t := 91)).on (below_alloc _ (.cells (rC 0 0 0 0 0 0 0 ⟨#[]⟩) 91))
  have r2 := Row.new (W := w.alloc (.cells (rC k i g st wy tr nx tag) 91)) (cs := (rC 0 0 0 0 0 0 0 ⟨#[]⟩)) (t := 91)
  rw [World.size_alloc] at r2
  have hc := ((Below.refl w.heap.size w).alloc (Nat.le_refl _) (.cells (rC k i g st wy tr nx tag) 91)).alloc (by simp) (.cells (rC 0 0 0 0 0 0 0 ⟨#[]⟩) 91)
  generalize (w.alloc (.cells (rC k i g st wy tr nx tag) 91)).alloc (.cells (rC 0 0 0 0 0 0 0 ⟨#[]⟩) 91) = W at *
  have h12 : w.heap.size ≠ w.heap.size + 1 := by omega
  have h21 : w.heap.size + 1 ≠ w.heap.size := by omega
  have hp0 : w.heap.size ≤ w.heap.size := Nat.le_refl _
  have hp : w.heap.size ≤ w.heap.size + 1 := Nat.le_succ _
  generalize w.heap.size + 1 = p2 at *
  obtain ⟨p1, hp1⟩ : ∃ p1, w.heap.size = p1 := ⟨_, rfl⟩
  rw [hp1] at r1 h12 h21 hp0
  rw [hp1]
  refine wp_region_held_drew (S := fun W' => (∀ j, W'.cell? ⟨p1, j, none⟩ = (rC k i g st wy tr nx tag)[j]?)) (by kernel_rfl) r1.cell (fun hHeld => ?_)
  replace r1 := r1.drew
  replace r2 := r2.drew
  replace hc := hc.drew
  generalize W.drew = V0 at *
  refine' wpAnyH_take (i := 0) (oi := _) (v := _) ?_ (by kernel_rfl) (by kernel_rfl) (by kernel_rfl) ?_ (Or.inl ⟨?_, ?_⟩) (by assumption) ?_
  rotate_left 2
  · (simp only [List.getElem?_toArray, List.getElem?_cons_succ, List.getElem?_cons_zero]; rfl)
  · first | exact fun _ _ _ h => h | exact fun _ _ _ h => nomatch h.1
  · rfl
  · (intro W hSW; (try dsimp only at hSW); go_split_ands; first | (go_simp; done) | (go_simp; with_reducible rfl))
  try simp only [Act.put, List.setIfInBounds_toArray, List.set_cons_zero, List.set_cons_succ]
  refine' wpAnyH_take (i := 1) (oi := _) (v := _) ?_ (by kernel_rfl) (by kernel_rfl) (by kernel_rfl) ?_ (Or.inl ⟨?_, ?_⟩) (by assumption) ?_
  rotate_left 2
  · (simp only [List.getElem?_toArray, List.getElem?_cons_succ, List.getElem?_cons_zero]; rfl)
  · first | exact fun _ _ _ h => h | exact fun _ _ _ h => nomatch h.1
  · rfl
  · (intro W hSW; (try dsimp only at hSW); go_split_ands; first | (go_simp; done) | (go_simp; with_reducible rfl))
  try simp only [Act.put, List.setIfInBounds_toArray, List.set_cons_zero, List.set_cons_succ]
  refine wpAnyH_ready (rs := [2]) (by kernel_rfl) (by simp) ?_
  refine' AllReadyH.cons (o := _) ?_ (fun K hK => ?_) AllReadyH.nil
  rotate_left 1
  · (simp only [List.getElem?_toArray, List.getElem?_cons_succ, List.getElem?_cons_zero]; rfl)
  go_simp
  refine Calls.mono (CA.out _) ?_
  rintro e V1 ⟨rfl, hb⟩
  replace r1 := r1.on hb
  replace r2 := r2.on hb
  replace hc := chain hc hb
  go_simp
  refine hK.out _ _ r1.cell (fun _ => ?_)
  clear hK K hb
  refine' wpAnyH_take (i := 3) (oi := _) (v := _) ?_ (by kernel_rfl) (by kernel_rfl) (by kernel_rfl) ?_ (Or.inl ⟨?_, ?_⟩) (by assumption) ?_
  rotate_left 2
  · (simp only [List.getElem?_toArray, List.getElem?_cons_succ, List.getElem?_cons_zero]; rfl)
  · first | exact fun _ _ _ h => h | exact fun _ _ _ h => nomatch h.1
  · rfl
  · (intro W hSW; (try dsimp only at hSW); go_split_ands; first | (go_simp; done) | (go_simp; with_reducible rfl))
  try simp only [Act.put, List.setIfInBounds_toArray, List.set_cons_zero, List.set_cons_succ]
  refine' wpAnyH_take (i := 4) (oi := _) (v := _) ?_ (by kernel_rfl) (by kernel_rfl) (by kernel_rfl) ?_ (Or.inl ⟨?_, ?_⟩) (by assumption) ?_
  rotate_left 2
  · (simp only [List.getElem?_toArray, List.getElem?_cons_succ, List.getElem?_cons_zero]; rfl)
  · first | exact fun _ _ _ h => h | exact fun _ _ _ h => nomatch h.1
  · rfl
  · (intro W hSW; (try dsimp only at hSW); go_split_ands; first | (go_simp; done) | (go_simp; with_reducible rfl))
  try simp only [Act.put, List.setIfInBounds_toArray, List.set_cons_zero, List.set_cons_succ]
  refine wpAnyH_ready (rs := [5]) (by kernel_rfl) (by simp) ?_
  refine' AllReadyH.cons (o := _) ?_ (fun K hK => ?_) AllReadyH.nil
  rotate_left 1
  · (simp only [List.getElem?_toArray, List.getElem?_cons_succ, List.getElem?_cons_zero]; rfl)
  go_simp
  refine Calls.mono (CT.out _) ?_
  rintro e V2 ⟨rfl, hb⟩
  replace r1 := r1.on hb
  replace r2 := r2.on hb
  replace hc := chain hc hb
  go_simp
  refine hK.out _ _ r1.cell (fun _ => ?_)
  clear hK K hb
  refine' wpAnyH_take (i := 6) (oi := _) (v := _) ?_ (by kernel_rfl) (by kernel_rfl) (by kernel_rfl) ?_ (Or.inl ⟨?_, ?_⟩) (by assumption) ?_
  rotate_left 2
  · (simp only [List.getElem?_toArray, List.getElem?_cons_succ, List.getElem?_cons_zero]; rfl)
  · first | exact fun _ _ _ h => h | exact fun _ _ _ h => nomatch h.1
  · rfl
  · (intro W hSW; (try dsimp only at hSW); go_split_ands; first | (go_simp; done) | (go_simp; with_reducible rfl))
  try simp only [Act.put, List.setIfInBounds_toArray, List.set_cons_zero, List.set_cons_succ]
  refine' wpAnyH_take (i := 7) (oi := _) (v := _) ?_ (by kernel_rfl) (by kernel_rfl) (by kernel_rfl) ?_ (Or.inl ⟨?_, ?_⟩) (by assumption) ?_
  rotate_left 2
  · (simp only [List.getElem?_toArray, List.getElem?_cons_succ, List.getElem?_cons_zero]; rfl)
  · first | exact fun _ _ _ h => h | exact fun _ _ _ h => nomatch h.1
  · rfl
  · (intro W hSW; (try dsimp only at hSW); go_split_ands; first | (go_simp; done) | (go_simp; with_reducible rfl))
  try simp only [Act.put, List.setIfInBounds_toArray, List.set_cons_zero, List.set_cons_succ]
  refine' wpAnyH_take (i := 8) (oi := _) (v := _) ?_ (by kernel_rfl) (by kernel_rfl) (by kernel_rfl) ?_ (Or.inr ⟨?_, rfl⟩) (by assumption) ?_
  rotate_left 1
  · (simp only [List.getElem?_toArray, List.getElem?_cons_succ, List.getElem?_cons_zero]; rfl)
  · first | exact fun _ _ _ h => h | exact fun _ _ _ h => nomatch h.1
  · rfl
  try simp only [Act.put, List.setIfInBounds_toArray, List.set_cons_zero, List.set_cons_succ]
  refine' wpAnyH_take (i := 9) (oi := _) (v := _) ?_ (by kernel_rfl) (by kernel_rfl) (by kernel_rfl) ?_ (Or.inr ⟨?_, rfl⟩) (by assumption) ?_
  rotate_left 1
  · (simp only [List.getElem?_toArray, List.getElem?_cons_succ, List.getElem?_cons_zero]; rfl)
  · first | exact fun _ _ _ h => h | exact fun _ _ _ h => nomatch h.1
  · rfl
  try simp only [Act.put, List.setIfInBounds_toArray, List.set_cons_zero, List.set_cons_succ]
  refine' wpAnyH_take (i := 10) (oi := _) (v := _) ?_ (by kernel_rfl) (by kernel_rfl) (by kernel_rfl) ?_ (Or.inl ⟨?_, ?_⟩) (by assumption) ?_
  rotate_left 2
  · (simp only [List.getElem?_toArray, List.getElem?_cons_succ, List.getElem?_cons_zero]; rfl)
  · first | exact fun _ _ _ h => h | exact fun _ _ _ h => nomatch h.1
  · rfl
  · (intro W hSW; (try dsimp only at hSW); go_split_ands; first | (go_simp; done) | (go_simp; with_reducible rfl))
  try simp only [Act.put, List.setIfInBounds_toArray, List.set_cons_zero, List.set_cons_succ]
  refine wpAnyH_ready (rs := [11]) (by kernel_rfl) (by simp) ?_
  refine' AllReadyH.cons (o := _) ?_ (fun K hK => ?_) AllReadyH.nil
  rotate_left 1
  · (simp only [List.getElem?_toArray, List.getElem?_cons_succ, List.getElem?_cons_zero]; rfl)
  go_simp
  refine Calls.mono (HEE.out _) ?_
  rintro e V4 ⟨rfl, hb⟩
  replace r1 := r1.on hb
  replace r2 := r2.on hb
  replace hc := chain hc hb
  go_simp
  refine hK.out _ _ r1.cell (fun _ => ?_)
  clear hK K hb
  refine' wpAnyH_take (i := 12) (oi := _) (v := _) ?_ (by kernel_rfl) (by kernel_rfl) (by kernel_rfl) ?_ (Or.inl ⟨?_, ?_⟩) (by assumption) ?_
  rotate_left 2
  · (simp only [List.getElem?_toArray, List.getElem?_cons_succ, List.getElem?_cons_zero]; rfl)
  · first | exact fun _ _ _ h => h | exact fun _ _ _ h => nomatch h.1
  · rfl
  · (intro W hSW; (try dsimp only at hSW); go_split_ands; first | (go_simp; done) | (go_simp; with_reducible rfl))
  try simp only [Act.put, List.setIfInBounds_toArray, List.set_cons_zero, List.set_cons_succ]
  refine wpAnyH_done (by kernel_rfl) ?_ _
  have q : (e != 0) = true := by rw [bne_iff_ne]; exact he
  have y2 := r2.cell
  have y2f := r2.free
  have y2l := r2.lt
  have y1 := r1.cell
  have y1l := r1.lt
  go_wp2_with fail
  clear y2 y2f y2l y1 y1l
  replace r2 := ((((((((r2.set 0 (.int .i64 0)).set 1 (.int .i64 0)).set 2 (.int .u32 0)).set 3 (.int .i64 0)).set 4 (.int .i64 0)).set 5 (.int .i64 0)).set 6 (.int .i64 0)).set 7 (.string ⟨#[]⟩))
  replace hc := ((((((((hc.setCell (p := ⟨p2, 0, none⟩) hp (.int .i64 0)).setCell (p := ⟨p2, 1, none⟩) hp (.int .i64 0)).setCell (p := ⟨p2, 2, none⟩) hp (.int .u32 0)).setCell (p := ⟨p2, 3, none⟩) hp (.int .i64 0)).setCell (p := ⟨p2, 4, none⟩) hp (.int .i64 0)).setCell (p := ⟨p2, 5, none⟩) hp (.int .i64 0)).setCell (p := ⟨p2, 6, none⟩) hp (.int .i64 0)).setCell (p := ⟨p2, 7, none⟩) hp (.string ⟨#[]⟩))
  simp only [List.setIfInBounds_toArray, List.set_cons_zero, List.set_cons_succ] at r2
  generalize hW : World.setCell _ _ _ = Z9 at *
  clear hW
  have q0 := r2.cell 0
  have q1 := r2.cell 1
  have q2 := r2.cell 2
  have q3 := r2.cell 3
  have q4 := r2.cell 4
  have q5 := r2.cell 5
  have q6 := r2.cell 6
  have q7 := r2.cell 7
  simp only [List.getElem?_toArray, List.getElem?_cons_succ, List.getElem?_cons_zero] at q0 q1 q2 q3 q4 q5 q6 q7
  clear r2 r1
  refine bodyPost_ret (v := .tuple #[r0V, .int .i64 e]) (by simp [results, Tryz.results37, go_sem, q0, q1, q2, q3, q4, q5, q6, q7]) rfl ⟨rfl, by first | exact hc | (rw [← hp1]; exact hc)⟩

set_option maxHeartbeats 8000000 in
set_option maxRecDepth 20000 in
theorem tried_ett (k i g st wy tr nx answer now wait e : Int) (tag : ByteArray) (w : World) (g0 : 0 ≤ g) (g1 : g ≤ 4294967295) (hs : tag.size ≤ 1000000) (he : e ≠ 0) (bW : Bool) (hA : inB answer 1 3 = true) (hT : isT now = true) (hW0 : inB wait 1 1048576 = bW) (hE : ∀ w, Ret 70 #[rV k i g st wy tr nx tag, .bool bW, .int .i64 2] w (.int .i64 e)) :
    Ret 37 #[rV k i g st wy tr nx tag, .int .i64 answer, .int .i64 now, .int .i64 wait] w (.tuple #[r0V, .int .i64 e]) := by
  have HEE := Lib.hid hE
  have cA := fun w => in_c answer 1 3 w
  rw [hA] at cA
  have CA := Lib.hid cA
  clear hE cA
  have cT := fun w => isTime_c now w
  rw [hT] at cT
  have CT := Lib.hid cT
  clear cT
  have cW := fun w => in_c wait 1 1048576 w
  rw [hW0] at cW
  have CW := Lib.hid cW
  clear cW
  go_enter Tryz.func37, Tryz.ntmps37
  go_wp2_with fail
  have r1 := (Row.new (W := w) (cs := (rC k i g st wy tr nx tag)) (t := 91)).on (below_alloc _ (.cells (rC 0 0 0 0 0 0 0 ⟨#[]⟩) 91))
  have r2 := Row.new (W := w.alloc (.cells (rC k i g st wy tr nx tag) 91)) (cs := (rC 0 0 0 0 0 0 0 ⟨#[]⟩)) (t := 91)
  rw [World.size_alloc] at r2
  have hc := ((Below.refl w.heap.size w).alloc (Nat.le_refl _) (.cells (rC k i g st wy tr nx tag) 91)).alloc (by simp) (.cells (rC 0 0 0 0 0 0 0 ⟨#[]⟩) 91)
  generalize (w.alloc (.cells (rC k i g st wy tr nx tag) 91)).alloc (.cells (rC 0 0 0 0 0 0 0 ⟨#[]⟩) 91) = W at *
  have h12 : w.heap.size ≠ w.heap.size + 1 := by omega
  have h21 : w.heap.size + 1 ≠ w.heap.size := by omega
  have hp0 : w.heap.size ≤ w.heap.size := Nat.le_refl _
  have hp : w.heap.size ≤ w.heap.size + 1 := Nat.le_succ _
  generalize w.heap.size + 1 = p2 at *
  obtain ⟨p1, hp1⟩ : ∃ p1, w.heap.size = p1 := ⟨_, rfl⟩
  rw [hp1] at r1 h12 h21 hp0
  rw [hp1]
  refine wp_region_held_drew (S := fun W' => (∀ j, W'.cell? ⟨p1, j, none⟩ = (rC k i g st wy tr nx tag)[j]?)) (by kernel_rfl) r1.cell (fun hHeld => ?_)
  replace r1 := r1.drew
  replace r2 := r2.drew
  replace hc := hc.drew
  generalize W.drew = V0 at *
  refine' wpAnyH_take (i := 0) (oi := _) (v := _) ?_ (by kernel_rfl) (by kernel_rfl) (by kernel_rfl) ?_ (Or.inl ⟨?_, ?_⟩) (by assumption) ?_
  rotate_left 2
  · (simp only [List.getElem?_toArray, List.getElem?_cons_succ, List.getElem?_cons_zero]; rfl)
  · first | exact fun _ _ _ h => h | exact fun _ _ _ h => nomatch h.1
  · rfl
  · (intro W hSW; (try dsimp only at hSW); go_split_ands; first | (go_simp; done) | (go_simp; with_reducible rfl))
  try simp only [Act.put, List.setIfInBounds_toArray, List.set_cons_zero, List.set_cons_succ]
  refine' wpAnyH_take (i := 1) (oi := _) (v := _) ?_ (by kernel_rfl) (by kernel_rfl) (by kernel_rfl) ?_ (Or.inl ⟨?_, ?_⟩) (by assumption) ?_
  rotate_left 2
  · (simp only [List.getElem?_toArray, List.getElem?_cons_succ, List.getElem?_cons_zero]; rfl)
  · first | exact fun _ _ _ h => h | exact fun _ _ _ h => nomatch h.1
  · rfl
  · (intro W hSW; (try dsimp only at hSW); go_split_ands; first | (go_simp; done) | (go_simp; with_reducible rfl))
  try simp only [Act.put, List.setIfInBounds_toArray, List.set_cons_zero, List.set_cons_succ]
  refine wpAnyH_ready (rs := [2]) (by kernel_rfl) (by simp) ?_
  refine' AllReadyH.cons (o := _) ?_ (fun K hK => ?_) AllReadyH.nil
  rotate_left 1
  · (simp only [List.getElem?_toArray, List.getElem?_cons_succ, List.getElem?_cons_zero]; rfl)
  go_simp
  refine Calls.mono (CA.out _) ?_
  rintro e V1 ⟨rfl, hb⟩
  replace r1 := r1.on hb
  replace r2 := r2.on hb
  replace hc := chain hc hb
  go_simp
  refine hK.out _ _ r1.cell (fun _ => ?_)
  clear hK K hb
  refine' wpAnyH_take (i := 3) (oi := _) (v := _) ?_ (by kernel_rfl) (by kernel_rfl) (by kernel_rfl) ?_ (Or.inl ⟨?_, ?_⟩) (by assumption) ?_
  rotate_left 2
  · (simp only [List.getElem?_toArray, List.getElem?_cons_succ, List.getElem?_cons_zero]; rfl)
  · first | exact fun _ _ _ h => h | exact fun _ _ _ h => nomatch h.1
  · rfl
  · (intro W hSW; (try dsimp only at hSW); go_split_ands; first | (go_simp; done) | (go_simp; with_reducible rfl))
  try simp only [Act.put, List.setIfInBounds_toArray, List.set_cons_zero, List.set_cons_succ]
  refine' wpAnyH_take (i := 4) (oi := _) (v := _) ?_ (by kernel_rfl) (by kernel_rfl) (by kernel_rfl) ?_ (Or.inl ⟨?_, ?_⟩) (by assumption) ?_
  rotate_left 2
  · (simp only [List.getElem?_toArray, List.getElem?_cons_succ, List.getElem?_cons_zero]; rfl)
  · first | exact fun _ _ _ h => h | exact fun _ _ _ h => nomatch h.1
  · rfl
  · (intro W hSW; (try dsimp only at hSW); go_split_ands; first | (go_simp; done) | (go_simp; with_reducible rfl))
  try simp only [Act.put, List.setIfInBounds_toArray, List.set_cons_zero, List.set_cons_succ]
  refine wpAnyH_ready (rs := [5]) (by kernel_rfl) (by simp) ?_
  refine' AllReadyH.cons (o := _) ?_ (fun K hK => ?_) AllReadyH.nil
  rotate_left 1
  · (simp only [List.getElem?_toArray, List.getElem?_cons_succ, List.getElem?_cons_zero]; rfl)
  go_simp
  refine Calls.mono (CT.out _) ?_
  rintro e V2 ⟨rfl, hb⟩
  replace r1 := r1.on hb
  replace r2 := r2.on hb
  replace hc := chain hc hb
  go_simp
  refine hK.out _ _ r1.cell (fun _ => ?_)
  clear hK K hb
  refine' wpAnyH_take (i := 6) (oi := _) (v := _) ?_ (by kernel_rfl) (by kernel_rfl) (by kernel_rfl) ?_ (Or.inl ⟨?_, ?_⟩) (by assumption) ?_
  rotate_left 2
  · (simp only [List.getElem?_toArray, List.getElem?_cons_succ, List.getElem?_cons_zero]; rfl)
  · first | exact fun _ _ _ h => h | exact fun _ _ _ h => nomatch h.1
  · rfl
  · (intro W hSW; (try dsimp only at hSW); go_split_ands; first | (go_simp; done) | (go_simp; with_reducible rfl))
  try simp only [Act.put, List.setIfInBounds_toArray, List.set_cons_zero, List.set_cons_succ]
  refine' wpAnyH_take (i := 7) (oi := _) (v := _) ?_ (by kernel_rfl) (by kernel_rfl) (by kernel_rfl) ?_ (Or.inl ⟨?_, ?_⟩) (by assumption) ?_
  rotate_left 2
  · (simp only [List.getElem?_toArray, List.getElem?_cons_succ, List.getElem?_cons_zero]; rfl)
  · first | exact fun _ _ _ h => h | exact fun _ _ _ h => nomatch h.1
  · rfl
  · (intro W hSW; (try dsimp only at hSW); go_split_ands; first | (go_simp; done) | (go_simp; with_reducible rfl))
  try simp only [Act.put, List.setIfInBounds_toArray, List.set_cons_zero, List.set_cons_succ]
  refine' wpAnyH_take (i := 8) (oi := _) (v := _) ?_ (by kernel_rfl) (by kernel_rfl) (by kernel_rfl) ?_ (Or.inl ⟨?_, ?_⟩) (by assumption) ?_
  rotate_left 2
  · (simp only [List.getElem?_toArray, List.getElem?_cons_succ, List.getElem?_cons_zero]; rfl)
  · first | exact fun _ _ _ h => h | exact fun _ _ _ h => nomatch h.1
  · rfl
  · (intro W hSW; (try dsimp only at hSW); go_split_ands; first | (go_simp; done) | (go_simp; with_reducible rfl))
  try simp only [Act.put, List.setIfInBounds_toArray, List.set_cons_zero, List.set_cons_succ]
  refine wpAnyH_ready (rs := [9]) (by kernel_rfl) (by simp) ?_
  refine' AllReadyH.cons (o := _) ?_ (fun K hK => ?_) AllReadyH.nil
  rotate_left 1
  · (simp only [List.getElem?_toArray, List.getElem?_cons_succ, List.getElem?_cons_zero]; rfl)
  go_simp
  refine Calls.mono (CW.out _) ?_
  rintro e V3 ⟨rfl, hb⟩
  replace r1 := r1.on hb
  replace r2 := r2.on hb
  replace hc := chain hc hb
  go_simp
  refine hK.out _ _ r1.cell (fun _ => ?_)
  clear hK K hb
  refine' wpAnyH_take (i := 10) (oi := _) (v := _) ?_ (by kernel_rfl) (by kernel_rfl) (by kernel_rfl) ?_ (Or.inl ⟨?_, ?_⟩) (by assumption) ?_
  rotate_left 2
  · (simp only [List.getElem?_toArray, List.getElem?_cons_succ, List.getElem?_cons_zero]; rfl)
  · first | exact fun _ _ _ h => h | exact fun _ _ _ h => nomatch h.1
  · rfl
  · (intro W hSW; (try dsimp only at hSW); go_split_ands; first | (go_simp; done) | (go_simp; with_reducible rfl))
  try simp only [Act.put, List.setIfInBounds_toArray, List.set_cons_zero, List.set_cons_succ]
  refine wpAnyH_ready (rs := [11]) (by kernel_rfl) (by simp) ?_
  refine' AllReadyH.cons (o := _) ?_ (fun K hK => ?_) AllReadyH.nil
  rotate_left 1
  · (simp only [List.getElem?_toArray, List.getElem?_cons_succ, List.getElem?_cons_zero]; rfl)
  go_simp
  refine Calls.mono (HEE.out _) ?_
  rintro e V4 ⟨rfl, hb⟩
  replace r1 := r1.on hb
  replace r2 := r2.on hb
  replace hc := chain hc hb
  go_simp
  refine hK.out _ _ r1.cell (fun _ => ?_)
  clear hK K hb
  refine' wpAnyH_take (i := 12) (oi := _) (v := _) ?_ (by kernel_rfl) (by kernel_rfl) (by kernel_rfl) ?_ (Or.inl ⟨?_, ?_⟩) (by assumption) ?_
  rotate_left 2
  · (simp only [List.getElem?_toArray, List.getElem?_cons_succ, List.getElem?_cons_zero]; rfl)
  · first | exact fun _ _ _ h => h | exact fun _ _ _ h => nomatch h.1
  · rfl
  · (intro W hSW; (try dsimp only at hSW); go_split_ands; first | (go_simp; done) | (go_simp; with_reducible rfl))
  try simp only [Act.put, List.setIfInBounds_toArray, List.set_cons_zero, List.set_cons_succ]
  refine wpAnyH_done (by kernel_rfl) ?_ _
  have q : (e != 0) = true := by rw [bne_iff_ne]; exact he
  have y2 := r2.cell
  have y2f := r2.free
  have y2l := r2.lt
  have y1 := r1.cell
  have y1l := r1.lt
  go_wp2_with fail
  clear y2 y2f y2l y1 y1l
  replace r2 := ((((((((r2.set 0 (.int .i64 0)).set 1 (.int .i64 0)).set 2 (.int .u32 0)).set 3 (.int .i64 0)).set 4 (.int .i64 0)).set 5 (.int .i64 0)).set 6 (.int .i64 0)).set 7 (.string ⟨#[]⟩))
  replace hc := ((((((((hc.setCell (p := ⟨p2, 0, none⟩) hp (.int .i64 0)).setCell (p := ⟨p2, 1, none⟩) hp (.int .i64 0)).setCell (p := ⟨p2, 2, none⟩) hp (.int .u32 0)).setCell (p := ⟨p2, 3, none⟩) hp (.int .i64 0)).setCell (p := ⟨p2, 4, none⟩) hp (.int .i64 0)).setCell (p := ⟨p2, 5, none⟩) hp (.int .i64 0)).setCell (p := ⟨p2, 6, none⟩) hp (.int .i64 0)).setCell (p := ⟨p2, 7, none⟩) hp (.string ⟨#[]⟩))
  simp only [List.setIfInBounds_toArray, List.set_cons_zero, List.set_cons_succ] at r2
  generalize hW : World.setCell _ _ _ = Z9 at *
  clear hW
  have q0 := r2.cell 0
  have q1 := r2.cell 1
  have q2 := r2.cell 2
  have q3 := r2.cell 3
  have q4 := r2.cell 4
  have q5 := r2.cell 5
  have q6 := r2.cell 6
  have q7 := r2.cell 7
  simp only [List.getElem?_toArray, List.getElem?_cons_succ, List.getElem?_cons_zero] at q0 q1 q2 q3 q4 q5 q6 q7
  clear r2 r1
  refine bodyPost_ret (v := .tuple #[r0V, .int .i64 e]) (by simp [results, Tryz.results37, go_sem, q0, q1, q2, q3, q4, q5, q6, q7]) rfl ⟨rfl, by first | exact hc | (rw [← hp1]; exact hc)⟩

set_option maxHeartbeats 8000000 in
set_option maxRecDepth 20000 in
theorem tried_1 (k i g st wy tr nx now wait : Int) (tag : ByteArray) (w : World) (g0 : 0 ≤ g) (g1 : g ≤ 4294967295) (hs : tag.size ≤ 1000000) (hT : isT now = true) (hW0 : inB wait 1 1048576 = true) (hE : ∀ w, Ret 70 #[rV k i g st wy tr nx tag, .bool true, .int .i64 2] w (.int .i64 0)) :
    Ret 37 #[rV k i g st wy tr nx tag, .int .i64 1, .int .i64 now, .int .i64 wait] w (.tuple #[rV k i g 3 wy tr 0 tag, .int .i64 0]) := by
  have HEE := Lib.hid hE
  have cA := fun w => in_c 1 1 3 w
  rw [show inB 1 1 3 = true by decide] at cA
  have CA := Lib.hid cA
  clear hE cA
  have cT := fun w => isTime_c now w
  rw [hT] at cT
  have CT := Lib.hid cT
  clear cT
  have cW := fun w => in_c wait 1 1048576 w
  rw [hW0] at cW
  have CW := Lib.hid cW
  clear cW
  go_enter Tryz.func37, Tryz.ntmps37
  go_wp2_with fail
  have r1 := (Row.new (W := w) (cs := (rC k i g st wy tr nx tag)) (t := 91)).on (below_alloc _ (.cells (rC 0 0 0 0 0 0 0 ⟨#[]⟩) 91))
  have r2 := Row.new (W := w.alloc (.cells (rC k i g st wy tr nx tag) 91)) (cs := (rC 0 0 0 0 0 0 0 ⟨#[]⟩)) (t := 91)
  rw [World.size_alloc] at r2
  have hc := ((Below.refl w.heap.size w).alloc (Nat.le_refl _) (.cells (rC k i g st wy tr nx tag) 91)).alloc (by simp) (.cells (rC 0 0 0 0 0 0 0 ⟨#[]⟩) 91)
  generalize (w.alloc (.cells (rC k i g st wy tr nx tag) 91)).alloc (.cells (rC 0 0 0 0 0 0 0 ⟨#[]⟩) 91) = W at *
  have h12 : w.heap.size ≠ w.heap.size + 1 := by omega
  have h21 : w.heap.size + 1 ≠ w.heap.size := by omega
  have hp0 : w.heap.size ≤ w.heap.size := Nat.le_refl _
  have hp : w.heap.size ≤ w.heap.size + 1 := Nat.le_succ _
  generalize w.heap.size + 1 = p2 at *
  obtain ⟨p1, hp1⟩ : ∃ p1, w.heap.size = p1 := ⟨_, rfl⟩
  rw [hp1] at r1 h12 h21 hp0
  rw [hp1]
  refine wp_region_held_drew (S := fun W' => (∀ j, W'.cell? ⟨p1, j, none⟩ = (rC k i g st wy tr nx tag)[j]?)) (by kernel_rfl) r1.cell (fun hHeld => ?_)
  replace r1 := r1.drew
  replace r2 := r2.drew
  replace hc := hc.drew
  generalize W.drew = V0 at *
  refine' wpAnyH_take (i := 0) (oi := _) (v := _) ?_ (by kernel_rfl) (by kernel_rfl) (by kernel_rfl) ?_ (Or.inl ⟨?_, ?_⟩) (by assumption) ?_
  rotate_left 2
  · (simp only [List.getElem?_toArray, List.getElem?_cons_succ, List.getElem?_cons_zero]; rfl)
  · first | exact fun _ _ _ h => h | exact fun _ _ _ h => nomatch h.1
  · rfl
  · (intro W hSW; (try dsimp only at hSW); go_split_ands; first | (go_simp; done) | (go_simp; with_reducible rfl))
  try simp only [Act.put, List.setIfInBounds_toArray, List.set_cons_zero, List.set_cons_succ]
  refine' wpAnyH_take (i := 1) (oi := _) (v := _) ?_ (by kernel_rfl) (by kernel_rfl) (by kernel_rfl) ?_ (Or.inl ⟨?_, ?_⟩) (by assumption) ?_
  rotate_left 2
  · (simp only [List.getElem?_toArray, List.getElem?_cons_succ, List.getElem?_cons_zero]; rfl)
  · first | exact fun _ _ _ h => h | exact fun _ _ _ h => nomatch h.1
  · rfl
  · (intro W hSW; (try dsimp only at hSW); go_split_ands; first | (go_simp; done) | (go_simp; with_reducible rfl))
  try simp only [Act.put, List.setIfInBounds_toArray, List.set_cons_zero, List.set_cons_succ]
  refine wpAnyH_ready (rs := [2]) (by kernel_rfl) (by simp) ?_
  refine' AllReadyH.cons (o := _) ?_ (fun K hK => ?_) AllReadyH.nil
  rotate_left 1
  · (simp only [List.getElem?_toArray, List.getElem?_cons_succ, List.getElem?_cons_zero]; rfl)
  go_simp
  refine Calls.mono (CA.out _) ?_
  rintro e V1 ⟨rfl, hb⟩
  replace r1 := r1.on hb
  replace r2 := r2.on hb
  replace hc := chain hc hb
  go_simp
  refine hK.out _ _ r1.cell (fun _ => ?_)
  clear hK K hb
  refine' wpAnyH_take (i := 3) (oi := _) (v := _) ?_ (by kernel_rfl) (by kernel_rfl) (by kernel_rfl) ?_ (Or.inl ⟨?_, ?_⟩) (by assumption) ?_
  rotate_left 2
  · (simp only [List.getElem?_toArray, List.getElem?_cons_succ, List.getElem?_cons_zero]; rfl)
  · first | exact fun _ _ _ h => h | exact fun _ _ _ h => nomatch h.1
  · rfl
  · (intro W hSW; (try dsimp only at hSW); go_split_ands; first | (go_simp; done) | (go_simp; with_reducible rfl))
  try simp only [Act.put, List.setIfInBounds_toArray, List.set_cons_zero, List.set_cons_succ]
  refine' wpAnyH_take (i := 4) (oi := _) (v := _) ?_ (by kernel_rfl) (by kernel_rfl) (by kernel_rfl) ?_ (Or.inl ⟨?_, ?_⟩) (by assumption) ?_
  rotate_left 2
  · (simp only [List.getElem?_toArray, List.getElem?_cons_succ, List.getElem?_cons_zero]; rfl)
  · first | exact fun _ _ _ h => h | exact fun _ _ _ h => nomatch h.1
  · rfl
  · (intro W hSW; (try dsimp only at hSW); go_split_ands; first | (go_simp; done) | (go_simp; with_reducible rfl))
  try simp only [Act.put, List.setIfInBounds_toArray, List.set_cons_zero, List.set_cons_succ]
  refine wpAnyH_ready (rs := [5]) (by kernel_rfl) (by simp) ?_
  refine' AllReadyH.cons (o := _) ?_ (fun K hK => ?_) AllReadyH.nil
  rotate_left 1
  · (simp only [List.getElem?_toArray, List.getElem?_cons_succ, List.getElem?_cons_zero]; rfl)
  go_simp
  refine Calls.mono (CT.out _) ?_
  rintro e V2 ⟨rfl, hb⟩
  replace r1 := r1.on hb
  replace r2 := r2.on hb
  replace hc := chain hc hb
  go_simp
  refine hK.out _ _ r1.cell (fun _ => ?_)
  clear hK K hb
  refine' wpAnyH_take (i := 6) (oi := _) (v := _) ?_ (by kernel_rfl) (by kernel_rfl) (by kernel_rfl) ?_ (Or.inl ⟨?_, ?_⟩) (by assumption) ?_
  rotate_left 2
  · (simp only [List.getElem?_toArray, List.getElem?_cons_succ, List.getElem?_cons_zero]; rfl)
  · first | exact fun _ _ _ h => h | exact fun _ _ _ h => nomatch h.1
  · rfl
  · (intro W hSW; (try dsimp only at hSW); go_split_ands; first | (go_simp; done) | (go_simp; with_reducible rfl))
  try simp only [Act.put, List.setIfInBounds_toArray, List.set_cons_zero, List.set_cons_succ]
  refine' wpAnyH_take (i := 7) (oi := _) (v := _) ?_ (by kernel_rfl) (by kernel_rfl) (by kernel_rfl) ?_ (Or.inl ⟨?_, ?_⟩) (by assumption) ?_
  rotate_left 2
  · (simp only [List.getElem?_toArray, List.getElem?_cons_succ, List.getElem?_cons_zero]; rfl)
  · first | exact fun _ _ _ h => h | exact fun _ _ _ h => nomatch h.1
  · rfl
  · (intro W hSW; (try dsimp only at hSW); go_split_ands; first | (go_simp; done) | (go_simp; with_reducible rfl))
  try simp only [Act.put, List.setIfInBounds_toArray, List.set_cons_zero, List.set_cons_succ]
  refine' wpAnyH_take (i := 8) (oi := _) (v := _) ?_ (by kernel_rfl) (by kernel_rfl) (by kernel_rfl) ?_ (Or.inl ⟨?_, ?_⟩) (by assumption) ?_
  rotate_left 2
  · (simp only [List.getElem?_toArray, List.getElem?_cons_succ, List.getElem?_cons_zero]; rfl)
  · first | exact fun _ _ _ h => h | exact fun _ _ _ h => nomatch h.1
  · rfl
  · (intro W hSW; (try dsimp only at hSW); go_split_ands; first | (go_simp; done) | (go_simp; with_reducible rfl))
  try simp only [Act.put, List.setIfInBounds_toArray, List.set_cons_zero, List.set_cons_succ]
  refine wpAnyH_ready (rs := [9]) (by kernel_rfl) (by simp) ?_
  refine' AllReadyH.cons (o := _) ?_ (fun K hK => ?_) AllReadyH.nil
  rotate_left 1
  · (simp only [List.getElem?_toArray, List.getElem?_cons_succ, List.getElem?_cons_zero]; rfl)
  go_simp
  refine Calls.mono (CW.out _) ?_
  rintro e V3 ⟨rfl, hb⟩
  replace r1 := r1.on hb
  replace r2 := r2.on hb
  replace hc := chain hc hb
  go_simp
  refine hK.out _ _ r1.cell (fun _ => ?_)
  clear hK K hb
  refine' wpAnyH_take (i := 10) (oi := _) (v := _) ?_ (by kernel_rfl) (by kernel_rfl) (by kernel_rfl) ?_ (Or.inl ⟨?_, ?_⟩) (by assumption) ?_
  rotate_left 2
  · (simp only [List.getElem?_toArray, List.getElem?_cons_succ, List.getElem?_cons_zero]; rfl)
  · first | exact fun _ _ _ h => h | exact fun _ _ _ h => nomatch h.1
  · rfl
  · (intro W hSW; (try dsimp only at hSW); go_split_ands; first | (go_simp; done) | (go_simp; with_reducible rfl))
  try simp only [Act.put, List.setIfInBounds_toArray, List.set_cons_zero, List.set_cons_succ]
  refine wpAnyH_ready (rs := [11]) (by kernel_rfl) (by simp) ?_
  refine' AllReadyH.cons (o := _) ?_ (fun K hK => ?_) AllReadyH.nil
  rotate_left 1
  · (simp only [List.getElem?_toArray, List.getElem?_cons_succ, List.getElem?_cons_zero]; rfl)
  go_simp
  refine Calls.mono (HEE.out _) ?_
  rintro e V4 ⟨rfl, hb⟩
  replace r1 := r1.on hb
  replace r2 := r2.on hb
  replace hc := chain hc hb
  go_simp
  refine hK.out _ _ r1.cell (fun _ => ?_)
  clear hK K hb
  refine' wpAnyH_take (i := 12) (oi := _) (v := _) ?_ (by kernel_rfl) (by kernel_rfl) (by kernel_rfl) ?_ (Or.inl ⟨?_, ?_⟩) (by assumption) ?_
  rotate_left 2
  · (simp only [List.getElem?_toArray, List.getElem?_cons_succ, List.getElem?_cons_zero]; rfl)
  · first | exact fun _ _ _ h => h | exact fun _ _ _ h => nomatch h.1
  · rfl
  · (intro W hSW; (try dsimp only at hSW); go_split_ands; first | (go_simp; done) | (go_simp; with_reducible rfl))
  try simp only [Act.put, List.setIfInBounds_toArray, List.set_cons_zero, List.set_cons_succ]
  refine wpAnyH_done (by kernel_rfl) ?_ _
  have y1 := r1.cell
  have y1f := r1.free
  have y1l := r1.lt
  go_upto_region 12 with fail
  clear y1 y1f y1l
  replace r2 := ((r2.other h12 3 (.int .i64 3)).other h12 6 (.int .i64 0))
  replace hc := ((hc.setCell (p := ⟨p1, 3, none⟩) (Nat.le_of_eq hp1) (.int .i64 3)).setCell (p := ⟨p1, 6, none⟩) (Nat.le_of_eq hp1) (.int .i64 0))
  replace r1 := ((r1.set 3 (.int .i64 3)).set 6 (.int .i64 0))
  simp only [List.setIfInBounds_toArray, List.set_cons_zero, List.set_cons_succ] at r1
  generalize hW : World.setCell _ _ _ = X at *
  clear hW
  have y2 := r2.cell
  have y2f := r2.free
  have y2l := r2.lt
  have y1 := r1.cell
  have y1l := r1.lt
  go_wp2_with fail
  clear y2 y2f y2l y1 y1l
  replace r2 := ((((((((r2.set 0 (.int .i64 k)).set 1 (.int .i64 i)).set 2 (.int .u32 g)).set 3 (.int .i64 3)).set 4 (.int .i64 wy)).set 5 (.int .i64 tr)).set 6 (.int .i64 0)).set 7 (.string tag))
  replace hc := ((((((((hc.setCell (p := ⟨p2, 0, none⟩) hp (.int .i64 k)).setCell (p := ⟨p2, 1, none⟩) hp (.int .i64 i)).setCell (p := ⟨p2, 2, none⟩) hp (.int .u32 g)).setCell (p := ⟨p2, 3, none⟩) hp (.int .i64 3)).setCell (p := ⟨p2, 4, none⟩) hp (.int .i64 wy)).setCell (p := ⟨p2, 5, none⟩) hp (.int .i64 tr)).setCell (p := ⟨p2, 6, none⟩) hp (.int .i64 0)).setCell (p := ⟨p2, 7, none⟩) hp (.string tag))
  simp only [List.setIfInBounds_toArray, List.set_cons_zero, List.set_cons_succ] at r2
  generalize hW : World.setCell _ _ _ = Z9 at *
  clear hW
  have q0 := r2.cell 0
  have q1 := r2.cell 1
  have q2 := r2.cell 2
  have q3 := r2.cell 3
  have q4 := r2.cell 4
  have q5 := r2.cell 5
  have q6 := r2.cell 6
  have q7 := r2.cell 7
  simp only [List.getElem?_toArray, List.getElem?_cons_succ, List.getElem?_cons_zero] at q0 q1 q2 q3 q4 q5 q6 q7
  clear r2 r1
  refine bodyPost_ret (v := .tuple #[rV k i g 3 wy tr 0 tag, .int .i64 0]) (by simp [results, Tryz.results37, go_sem, q0, q1, q2, q3, q4, q5, q6, q7]) rfl ⟨rfl, by first | exact hc | (rw [← hp1]; exact hc)⟩

set_option maxHeartbeats 8000000 in
set_option maxRecDepth 20000 in
theorem tried_3 (k i g st wy tr nx now wait : Int) (tag : ByteArray) (w : World) (g0 : 0 ≤ g) (g1 : g ≤ 4294967295) (hs : tag.size ≤ 1000000) (hT : isT now = true) (hW0 : inB wait 1 1048576 = true) (hE : ∀ w, Ret 70 #[rV k i g st wy tr nx tag, .bool true, .int .i64 2] w (.int .i64 0)) :
    Ret 37 #[rV k i g st wy tr nx tag, .int .i64 3, .int .i64 now, .int .i64 wait] w (.tuple #[rV k i g 4 wy tr 0 tag, .int .i64 0]) := by
  have HEE := Lib.hid hE
  have cA := fun w => in_c 3 1 3 w
  rw [show inB 3 1 3 = true by decide] at cA
  have CA := Lib.hid cA
  clear hE cA
  have cT := fun w => isTime_c now w
  rw [hT] at cT
  have CT := Lib.hid cT
  clear cT
  have cW := fun w => in_c wait 1 1048576 w
  rw [hW0] at cW
  have CW := Lib.hid cW
  clear cW
  go_enter Tryz.func37, Tryz.ntmps37
  go_wp2_with fail
  have r1 := (Row.new (W := w) (cs := (rC k i g st wy tr nx tag)) (t := 91)).on (below_alloc _ (.cells (rC 0 0 0 0 0 0 0 ⟨#[]⟩) 91))
  have r2 := Row.new (W := w.alloc (.cells (rC k i g st wy tr nx tag) 91)) (cs := (rC 0 0 0 0 0 0 0 ⟨#[]⟩)) (t := 91)
  rw [World.size_alloc] at r2
  have hc := ((Below.refl w.heap.size w).alloc (Nat.le_refl _) (.cells (rC k i g st wy tr nx tag) 91)).alloc (by simp) (.cells (rC 0 0 0 0 0 0 0 ⟨#[]⟩) 91)
  generalize (w.alloc (.cells (rC k i g st wy tr nx tag) 91)).alloc (.cells (rC 0 0 0 0 0 0 0 ⟨#[]⟩) 91) = W at *
  have h12 : w.heap.size ≠ w.heap.size + 1 := by omega
  have h21 : w.heap.size + 1 ≠ w.heap.size := by omega
  have hp0 : w.heap.size ≤ w.heap.size := Nat.le_refl _
  have hp : w.heap.size ≤ w.heap.size + 1 := Nat.le_succ _
  generalize w.heap.size + 1 = p2 at *
  obtain ⟨p1, hp1⟩ : ∃ p1, w.heap.size = p1 := ⟨_, rfl⟩
  rw [hp1] at r1 h12 h21 hp0
  rw [hp1]
  refine wp_region_held_drew (S := fun W' => (∀ j, W'.cell? ⟨p1, j, none⟩ = (rC k i g st wy tr nx tag)[j]?)) (by kernel_rfl) r1.cell (fun hHeld => ?_)
  replace r1 := r1.drew
  replace r2 := r2.drew
  replace hc := hc.drew
  generalize W.drew = V0 at *
  refine' wpAnyH_take (i := 0) (oi := _) (v := _) ?_ (by kernel_rfl) (by kernel_rfl) (by kernel_rfl) ?_ (Or.inl ⟨?_, ?_⟩) (by assumption) ?_
  rotate_left 2
  · (simp only [List.getElem?_toArray, List.getElem?_cons_succ, List.getElem?_cons_zero]; rfl)
  · first | exact fun _ _ _ h => h | exact fun _ _ _ h => nomatch h.1
  · rfl
  · (intro W hSW; (try dsimp only at hSW); go_split_ands; first | (go_simp; done) | (go_simp; with_reducible rfl))
  try simp only [Act.put, List.setIfInBounds_toArray, List.set_cons_zero, List.set_cons_succ]
  refine' wpAnyH_take (i := 1) (oi := _) (v := _) ?_ (by kernel_rfl) (by kernel_rfl) (by kernel_rfl) ?_ (Or.inl ⟨?_, ?_⟩) (by assumption) ?_
  rotate_left 2
  · (simp only [List.getElem?_toArray, List.getElem?_cons_succ, List.getElem?_cons_zero]; rfl)
  · first | exact fun _ _ _ h => h | exact fun _ _ _ h => nomatch h.1
  · rfl
  · (intro W hSW; (try dsimp only at hSW); go_split_ands; first | (go_simp; done) | (go_simp; with_reducible rfl))
  try simp only [Act.put, List.setIfInBounds_toArray, List.set_cons_zero, List.set_cons_succ]
  refine wpAnyH_ready (rs := [2]) (by kernel_rfl) (by simp) ?_
  refine' AllReadyH.cons (o := _) ?_ (fun K hK => ?_) AllReadyH.nil
  rotate_left 1
  · (simp only [List.getElem?_toArray, List.getElem?_cons_succ, List.getElem?_cons_zero]; rfl)
  go_simp
  refine Calls.mono (CA.out _) ?_
  rintro e V1 ⟨rfl, hb⟩
  replace r1 := r1.on hb
  replace r2 := r2.on hb
  replace hc := chain hc hb
  go_simp
  refine hK.out _ _ r1.cell (fun _ => ?_)
  clear hK K hb
  refine' wpAnyH_take (i := 3) (oi := _) (v := _) ?_ (by kernel_rfl) (by kernel_rfl) (by kernel_rfl) ?_ (Or.inl ⟨?_, ?_⟩) (by assumption) ?_
  rotate_left 2
  · (simp only [List.getElem?_toArray, List.getElem?_cons_succ, List.getElem?_cons_zero]; rfl)
  · first | exact fun _ _ _ h => h | exact fun _ _ _ h => nomatch h.1
  · rfl
  · (intro W hSW; (try dsimp only at hSW); go_split_ands; first | (go_simp; done) | (go_simp; with_reducible rfl))
  try simp only [Act.put, List.setIfInBounds_toArray, List.set_cons_zero, List.set_cons_succ]
  refine' wpAnyH_take (i := 4) (oi := _) (v := _) ?_ (by kernel_rfl) (by kernel_rfl) (by kernel_rfl) ?_ (Or.inl ⟨?_, ?_⟩) (by assumption) ?_
  rotate_left 2
  · (simp only [List.getElem?_toArray, List.getElem?_cons_succ, List.getElem?_cons_zero]; rfl)
  · first | exact fun _ _ _ h => h | exact fun _ _ _ h => nomatch h.1
  · rfl
  · (intro W hSW; (try dsimp only at hSW); go_split_ands; first | (go_simp; done) | (go_simp; with_reducible rfl))
  try simp only [Act.put, List.setIfInBounds_toArray, List.set_cons_zero, List.set_cons_succ]
  refine wpAnyH_ready (rs := [5]) (by kernel_rfl) (by simp) ?_
  refine' AllReadyH.cons (o := _) ?_ (fun K hK => ?_) AllReadyH.nil
  rotate_left 1
  · (simp only [List.getElem?_toArray, List.getElem?_cons_succ, List.getElem?_cons_zero]; rfl)
  go_simp
  refine Calls.mono (CT.out _) ?_
  rintro e V2 ⟨rfl, hb⟩
  replace r1 := r1.on hb
  replace r2 := r2.on hb
  replace hc := chain hc hb
  go_simp
  refine hK.out _ _ r1.cell (fun _ => ?_)
  clear hK K hb
  refine' wpAnyH_take (i := 6) (oi := _) (v := _) ?_ (by kernel_rfl) (by kernel_rfl) (by kernel_rfl) ?_ (Or.inl ⟨?_, ?_⟩) (by assumption) ?_
  rotate_left 2
  · (simp only [List.getElem?_toArray, List.getElem?_cons_succ, List.getElem?_cons_zero]; rfl)
  · first | exact fun _ _ _ h => h | exact fun _ _ _ h => nomatch h.1
  · rfl
  · (intro W hSW; (try dsimp only at hSW); go_split_ands; first | (go_simp; done) | (go_simp; with_reducible rfl))
  try simp only [Act.put, List.setIfInBounds_toArray, List.set_cons_zero, List.set_cons_succ]
  refine' wpAnyH_take (i := 7) (oi := _) (v := _) ?_ (by kernel_rfl) (by kernel_rfl) (by kernel_rfl) ?_ (Or.inl ⟨?_, ?_⟩) (by assumption) ?_
  rotate_left 2
  · (simp only [List.getElem?_toArray, List.getElem?_cons_succ, List.getElem?_cons_zero]; rfl)
  · first | exact fun _ _ _ h => h | exact fun _ _ _ h => nomatch h.1
  · rfl
  · (intro W hSW; (try dsimp only at hSW); go_split_ands; first | (go_simp; done) | (go_simp; with_reducible rfl))
  try simp only [Act.put, List.setIfInBounds_toArray, List.set_cons_zero, List.set_cons_succ]
  refine' wpAnyH_take (i := 8) (oi := _) (v := _) ?_ (by kernel_rfl) (by kernel_rfl) (by kernel_rfl) ?_ (Or.inl ⟨?_, ?_⟩) (by assumption) ?_
  rotate_left 2
  · (simp only [List.getElem?_toArray, List.getElem?_cons_succ, List.getElem?_cons_zero]; rfl)
  · first | exact fun _ _ _ h => h | exact fun _ _ _ h => nomatch h.1
  · rfl
  · (intro W hSW; (try dsimp only at hSW); go_split_ands; first | (go_simp; done) | (go_simp; with_reducible rfl))
  try simp only [Act.put, List.setIfInBounds_toArray, List.set_cons_zero, List.set_cons_succ]
  refine wpAnyH_ready (rs := [9]) (by kernel_rfl) (by simp) ?_
  refine' AllReadyH.cons (o := _) ?_ (fun K hK => ?_) AllReadyH.nil
  rotate_left 1
  · (simp only [List.getElem?_toArray, List.getElem?_cons_succ, List.getElem?_cons_zero]; rfl)
  go_simp
  refine Calls.mono (CW.out _) ?_
  rintro e V3 ⟨rfl, hb⟩
  replace r1 := r1.on hb
  replace r2 := r2.on hb
  replace hc := chain hc hb
  go_simp
  refine hK.out _ _ r1.cell (fun _ => ?_)
  clear hK K hb
  refine' wpAnyH_take (i := 10) (oi := _) (v := _) ?_ (by kernel_rfl) (by kernel_rfl) (by kernel_rfl) ?_ (Or.inl ⟨?_, ?_⟩) (by assumption) ?_
  rotate_left 2
  · (simp only [List.getElem?_toArray, List.getElem?_cons_succ, List.getElem?_cons_zero]; rfl)
  · first | exact fun _ _ _ h => h | exact fun _ _ _ h => nomatch h.1
  · rfl
  · (intro W hSW; (try dsimp only at hSW); go_split_ands; first | (go_simp; done) | (go_simp; with_reducible rfl))
  try simp only [Act.put, List.setIfInBounds_toArray, List.set_cons_zero, List.set_cons_succ]
  refine wpAnyH_ready (rs := [11]) (by kernel_rfl) (by simp) ?_
  refine' AllReadyH.cons (o := _) ?_ (fun K hK => ?_) AllReadyH.nil
  rotate_left 1
  · (simp only [List.getElem?_toArray, List.getElem?_cons_succ, List.getElem?_cons_zero]; rfl)
  go_simp
  refine Calls.mono (HEE.out _) ?_
  rintro e V4 ⟨rfl, hb⟩
  replace r1 := r1.on hb
  replace r2 := r2.on hb
  replace hc := chain hc hb
  go_simp
  refine hK.out _ _ r1.cell (fun _ => ?_)
  clear hK K hb
  refine' wpAnyH_take (i := 12) (oi := _) (v := _) ?_ (by kernel_rfl) (by kernel_rfl) (by kernel_rfl) ?_ (Or.inl ⟨?_, ?_⟩) (by assumption) ?_
  rotate_left 2
  · (simp only [List.getElem?_toArray, List.getElem?_cons_succ, List.getElem?_cons_zero]; rfl)
  · first | exact fun _ _ _ h => h | exact fun _ _ _ h => nomatch h.1
  · rfl
  · (intro W hSW; (try dsimp only at hSW); go_split_ands; first | (go_simp; done) | (go_simp; with_reducible rfl))
  try simp only [Act.put, List.setIfInBounds_toArray, List.set_cons_zero, List.set_cons_succ]
  refine wpAnyH_done (by kernel_rfl) ?_ _
  have y1 := r1.cell
  have y1f := r1.free
  have y1l := r1.lt
  go_upto_region 12 with fail
  clear y1 y1f y1l
  replace r2 := ((r2.other h12 3 (.int .i64 4)).other h12 6 (.int .i64 0))
  replace hc := ((hc.setCell (p := ⟨p1, 3, none⟩) (Nat.le_of_eq hp1) (.int .i64 4)).setCell (p := ⟨p1, 6, none⟩) (Nat.le_of_eq hp1) (.int .i64 0))
  replace r1 := ((r1.set 3 (.int .i64 4)).set 6 (.int .i64 0))
  simp only [List.setIfInBounds_toArray, List.set_cons_zero, List.set_cons_succ] at r1
  generalize hW : World.setCell _ _ _ = X at *
  clear hW
  have y2 := r2.cell
  have y2f := r2.free
  have y2l := r2.lt
  have y1 := r1.cell
  have y1l := r1.lt
  go_wp2_with fail
  clear y2 y2f y2l y1 y1l
  replace r2 := ((((((((r2.set 0 (.int .i64 k)).set 1 (.int .i64 i)).set 2 (.int .u32 g)).set 3 (.int .i64 4)).set 4 (.int .i64 wy)).set 5 (.int .i64 tr)).set 6 (.int .i64 0)).set 7 (.string tag))
  replace hc := ((((((((hc.setCell (p := ⟨p2, 0, none⟩) hp (.int .i64 k)).setCell (p := ⟨p2, 1, none⟩) hp (.int .i64 i)).setCell (p := ⟨p2, 2, none⟩) hp (.int .u32 g)).setCell (p := ⟨p2, 3, none⟩) hp (.int .i64 4)).setCell (p := ⟨p2, 4, none⟩) hp (.int .i64 wy)).setCell (p := ⟨p2, 5, none⟩) hp (.int .i64 tr)).setCell (p := ⟨p2, 6, none⟩) hp (.int .i64 0)).setCell (p := ⟨p2, 7, none⟩) hp (.string tag))
  simp only [List.setIfInBounds_toArray, List.set_cons_zero, List.set_cons_succ] at r2
  generalize hW : World.setCell _ _ _ = Z9 at *
  clear hW
  have q0 := r2.cell 0
  have q1 := r2.cell 1
  have q2 := r2.cell 2
  have q3 := r2.cell 3
  have q4 := r2.cell 4
  have q5 := r2.cell 5
  have q6 := r2.cell 6
  have q7 := r2.cell 7
  simp only [List.getElem?_toArray, List.getElem?_cons_succ, List.getElem?_cons_zero] at q0 q1 q2 q3 q4 q5 q6 q7
  clear r2 r1
  refine bodyPost_ret (v := .tuple #[rV k i g 4 wy tr 0 tag, .int .i64 0]) (by simp [results, Tryz.results37, go_sem, q0, q1, q2, q3, q4, q5, q6, q7]) rfl ⟨rfl, by first | exact hc | (rw [← hp1]; exact hc)⟩

set_option maxHeartbeats 8000000 in
set_option maxRecDepth 20000 in
theorem tried_2a (k i g st wy tr nx now wait : Int) (tag : ByteArray) (w : World) (g0 : 0 ≤ g) (g1 : g ≤ 4294967295) (hs : tag.size ≤ 1000000) (hx : 1099511627776 - wait < now) (hT : isT now = true) (hW0 : inB wait 1 1048576 = true) (hE : ∀ w, Ret 70 #[rV k i g st wy tr nx tag, .bool true, .int .i64 2] w (.int .i64 0)) :
    Ret 37 #[rV k i g st wy tr nx tag, .int .i64 2, .int .i64 now, .int .i64 wait] w (.tuple #[r0V, .int .i64 17]) := by
  have HEE := Lib.hid hE
  have cA := fun w => in_c 2 1 3 w
  rw [show inB 2 1 3 = true by decide] at cA
  have CA := Lib.hid cA
  clear hE cA
  have bT := isT_iff.1 hT
  have bW := inB_iff.1 hW0
  have w1 : IntKind.i64.wrap (1099511627776 - wait) = 1099511627776 - wait := IntWalk.i64_in _ ⟨by omega, by omega⟩
  have p1 : decide (1099511627776 - wait < now) = true := decide_eq_true hx
  have cT := fun w => isTime_c now w
  rw [hT] at cT
  have CT := Lib.hid cT
  clear cT
  have cW := fun w => in_c wait 1 1048576 w
  rw [hW0] at cW
  have CW := Lib.hid cW
  clear cW
  go_enter Tryz.func37, Tryz.ntmps37
  go_wp2_with fail
  have r1 := (Row.new (W := w) (cs := (rC k i g st wy tr nx tag)) (t := 91)).on (below_alloc _ (.cells (rC 0 0 0 0 0 0 0 ⟨#[]⟩) 91))
  have r2 := Row.new (W := w.alloc (.cells (rC k i g st wy tr nx tag) 91)) (cs := (rC 0 0 0 0 0 0 0 ⟨#[]⟩)) (t := 91)
  rw [World.size_alloc] at r2
  have hc := ((Below.refl w.heap.size w).alloc (Nat.le_refl _) (.cells (rC k i g st wy tr nx tag) 91)).alloc (by simp) (.cells (rC 0 0 0 0 0 0 0 ⟨#[]⟩) 91)
  generalize (w.alloc (.cells (rC k i g st wy tr nx tag) 91)).alloc (.cells (rC 0 0 0 0 0 0 0 ⟨#[]⟩) 91) = W at *
  have h12 : w.heap.size ≠ w.heap.size + 1 := by omega
  have h21 : w.heap.size + 1 ≠ w.heap.size := by omega
  have hp0 : w.heap.size ≤ w.heap.size := Nat.le_refl _
  have hp : w.heap.size ≤ w.heap.size + 1 := Nat.le_succ _
  generalize w.heap.size + 1 = p2 at *
  obtain ⟨p1, hp1⟩ : ∃ p1, w.heap.size = p1 := ⟨_, rfl⟩
  rw [hp1] at r1 h12 h21 hp0
  rw [hp1]
  refine wp_region_held_drew (S := fun W' => (∀ j, W'.cell? ⟨p1, j, none⟩ = (rC k i g st wy tr nx tag)[j]?)) (by kernel_rfl) r1.cell (fun hHeld => ?_)
  replace r1 := r1.drew
  replace r2 := r2.drew
  replace hc := hc.drew
  generalize W.drew = V0 at *
  refine' wpAnyH_take (i := 0) (oi := _) (v := _) ?_ (by kernel_rfl) (by kernel_rfl) (by kernel_rfl) ?_ (Or.inl ⟨?_, ?_⟩) (by assumption) ?_
  rotate_left 2
  · (simp only [List.getElem?_toArray, List.getElem?_cons_succ, List.getElem?_cons_zero]; rfl)
  · first | exact fun _ _ _ h => h | exact fun _ _ _ h => nomatch h.1
  · rfl
  · (intro W hSW; (try dsimp only at hSW); go_split_ands; first | (go_simp; done) | (go_simp; with_reducible rfl))
  try simp only [Act.put, List.setIfInBounds_toArray, List.set_cons_zero, List.set_cons_succ]
  refine' wpAnyH_take (i := 1) (oi := _) (v := _) ?_ (by kernel_rfl) (by kernel_rfl) (by kernel_rfl) ?_ (Or.inl ⟨?_, ?_⟩) (by assumption) ?_
  rotate_left 2
  · (simp only [List.getElem?_toArray, List.getElem?_cons_succ, List.getElem?_cons_zero]; rfl)
  · first | exact fun _ _ _ h => h | exact fun _ _ _ h => nomatch h.1
  · rfl
  · (intro W hSW; (try dsimp only at hSW); go_split_ands; first | (go_simp; done) | (go_simp; with_reducible rfl))
  try simp only [Act.put, List.setIfInBounds_toArray, List.set_cons_zero, List.set_cons_succ]
  refine wpAnyH_ready (rs := [2]) (by kernel_rfl) (by simp) ?_
  refine' AllReadyH.cons (o := _) ?_ (fun K hK => ?_) AllReadyH.nil
  rotate_left 1
  · (simp only [List.getElem?_toArray, List.getElem?_cons_succ, List.getElem?_cons_zero]; rfl)
  go_simp
  refine Calls.mono (CA.out _) ?_
  rintro e V1 ⟨rfl, hb⟩
  replace r1 := r1.on hb
  replace r2 := r2.on hb
  replace hc := chain hc hb
  go_simp
  refine hK.out _ _ r1.cell (fun _ => ?_)
  clear hK K hb
  refine' wpAnyH_take (i := 3) (oi := _) (v := _) ?_ (by kernel_rfl) (by kernel_rfl) (by kernel_rfl) ?_ (Or.inl ⟨?_, ?_⟩) (by assumption) ?_
  rotate_left 2
  · (simp only [List.getElem?_toArray, List.getElem?_cons_succ, List.getElem?_cons_zero]; rfl)
  · first | exact fun _ _ _ h => h | exact fun _ _ _ h => nomatch h.1
  · rfl
  · (intro W hSW; (try dsimp only at hSW); go_split_ands; first | (go_simp; done) | (go_simp; with_reducible rfl))
  try simp only [Act.put, List.setIfInBounds_toArray, List.set_cons_zero, List.set_cons_succ]
  refine' wpAnyH_take (i := 4) (oi := _) (v := _) ?_ (by kernel_rfl) (by kernel_rfl) (by kernel_rfl) ?_ (Or.inl ⟨?_, ?_⟩) (by assumption) ?_
  rotate_left 2
  · (simp only [List.getElem?_toArray, List.getElem?_cons_succ, List.getElem?_cons_zero]; rfl)
  · first | exact fun _ _ _ h => h | exact fun _ _ _ h => nomatch h.1
  · rfl
  · (intro W hSW; (try dsimp only at hSW); go_split_ands; first | (go_simp; done) | (go_simp; with_reducible rfl))
  try simp only [Act.put, List.setIfInBounds_toArray, List.set_cons_zero, List.set_cons_succ]
  refine wpAnyH_ready (rs := [5]) (by kernel_rfl) (by simp) ?_
  refine' AllReadyH.cons (o := _) ?_ (fun K hK => ?_) AllReadyH.nil
  rotate_left 1
  · (simp only [List.getElem?_toArray, List.getElem?_cons_succ, List.getElem?_cons_zero]; rfl)
  go_simp
  refine Calls.mono (CT.out _) ?_
  rintro e V2 ⟨rfl, hb⟩
  replace r1 := r1.on hb
  replace r2 := r2.on hb
  replace hc := chain hc hb
  go_simp
  refine hK.out _ _ r1.cell (fun _ => ?_)
  clear hK K hb
  refine' wpAnyH_take (i := 6) (oi := _) (v := _) ?_ (by kernel_rfl) (by kernel_rfl) (by kernel_rfl) ?_ (Or.inl ⟨?_, ?_⟩) (by assumption) ?_
  rotate_left 2
  · (simp only [List.getElem?_toArray, List.getElem?_cons_succ, List.getElem?_cons_zero]; rfl)
  · first | exact fun _ _ _ h => h | exact fun _ _ _ h => nomatch h.1
  · rfl
  · (intro W hSW; (try dsimp only at hSW); go_split_ands; first | (go_simp; done) | (go_simp; with_reducible rfl))
  try simp only [Act.put, List.setIfInBounds_toArray, List.set_cons_zero, List.set_cons_succ]
  refine' wpAnyH_take (i := 7) (oi := _) (v := _) ?_ (by kernel_rfl) (by kernel_rfl) (by kernel_rfl) ?_ (Or.inl ⟨?_, ?_⟩) (by assumption) ?_
  rotate_left 2
  · (simp only [List.getElem?_toArray, List.getElem?_cons_succ, List.getElem?_cons_zero]; rfl)
  · first | exact fun _ _ _ h => h | exact fun _ _ _ h => nomatch h.1
  · rfl
  · (intro W hSW; (try dsimp only at hSW); go_split_ands; first | (go_simp; done) | (go_simp; with_reducible rfl))
  try simp only [Act.put, List.setIfInBounds_toArray, List.set_cons_zero, List.set_cons_succ]
  refine' wpAnyH_take (i := 8) (oi := _) (v := _) ?_ (by kernel_rfl) (by kernel_rfl) (by kernel_rfl) ?_ (Or.inl ⟨?_, ?_⟩) (by assumption) ?_
  rotate_left 2
  · (simp only [List.getElem?_toArray, List.getElem?_cons_succ, List.getElem?_cons_zero]; rfl)
  · first | exact fun _ _ _ h => h | exact fun _ _ _ h => nomatch h.1
  · rfl
  · (intro W hSW; (try dsimp only at hSW); go_split_ands; first | (go_simp; done) | (go_simp; with_reducible rfl))
  try simp only [Act.put, List.setIfInBounds_toArray, List.set_cons_zero, List.set_cons_succ]
  refine wpAnyH_ready (rs := [9]) (by kernel_rfl) (by simp) ?_
  refine' AllReadyH.cons (o := _) ?_ (fun K hK => ?_) AllReadyH.nil
  rotate_left 1
  · (simp only [List.getElem?_toArray, List.getElem?_cons_succ, List.getElem?_cons_zero]; rfl)
  go_simp
  refine Calls.mono (CW.out _) ?_
  rintro e V3 ⟨rfl, hb⟩
  replace r1 := r1.on hb
  replace r2 := r2.on hb
  replace hc := chain hc hb
  go_simp
  refine hK.out _ _ r1.cell (fun _ => ?_)
  clear hK K hb
  refine' wpAnyH_take (i := 10) (oi := _) (v := _) ?_ (by kernel_rfl) (by kernel_rfl) (by kernel_rfl) ?_ (Or.inl ⟨?_, ?_⟩) (by assumption) ?_
  rotate_left 2
  · (simp only [List.getElem?_toArray, List.getElem?_cons_succ, List.getElem?_cons_zero]; rfl)
  · first | exact fun _ _ _ h => h | exact fun _ _ _ h => nomatch h.1
  · rfl
  · (intro W hSW; (try dsimp only at hSW); go_split_ands; first | (go_simp; done) | (go_simp; with_reducible rfl))
  try simp only [Act.put, List.setIfInBounds_toArray, List.set_cons_zero, List.set_cons_succ]
  refine wpAnyH_ready (rs := [11]) (by kernel_rfl) (by simp) ?_
  refine' AllReadyH.cons (o := _) ?_ (fun K hK => ?_) AllReadyH.nil
  rotate_left 1
  · (simp only [List.getElem?_toArray, List.getElem?_cons_succ, List.getElem?_cons_zero]; rfl)
  go_simp
  refine Calls.mono (HEE.out _) ?_
  rintro e V4 ⟨rfl, hb⟩
  replace r1 := r1.on hb
  replace r2 := r2.on hb
  replace hc := chain hc hb
  go_simp
  refine hK.out _ _ r1.cell (fun _ => ?_)
  clear hK K hb
  refine' wpAnyH_take (i := 12) (oi := _) (v := _) ?_ (by kernel_rfl) (by kernel_rfl) (by kernel_rfl) ?_ (Or.inl ⟨?_, ?_⟩) (by assumption) ?_
  rotate_left 2
  · (simp only [List.getElem?_toArray, List.getElem?_cons_succ, List.getElem?_cons_zero]; rfl)
  · first | exact fun _ _ _ h => h | exact fun _ _ _ h => nomatch h.1
  · rfl
  · (intro W hSW; (try dsimp only at hSW); go_split_ands; first | (go_simp; done) | (go_simp; with_reducible rfl))
  try simp only [Act.put, List.setIfInBounds_toArray, List.set_cons_zero, List.set_cons_succ]
  refine wpAnyH_done (by kernel_rfl) ?_ _
  have y2 := r2.cell
  have y2f := r2.free
  have y2l := r2.lt
  have y1 := r1.cell
  have y1l := r1.lt
  go_wp2_with fail
  clear y2 y2f y2l y1 y1l
  replace r2 := ((((((((r2.set 0 (.int .i64 0)).set 1 (.int .i64 0)).set 2 (.int .u32 0)).set 3 (.int .i64 0)).set 4 (.int .i64 0)).set 5 (.int .i64 0)).set 6 (.int .i64 0)).set 7 (.string ⟨#[]⟩))
  replace hc := ((((((((hc.setCell (p := ⟨p2, 0, none⟩) hp (.int .i64 0)).setCell (p := ⟨p2, 1, none⟩) hp (.int .i64 0)).setCell (p := ⟨p2, 2, none⟩) hp (.int .u32 0)).setCell (p := ⟨p2, 3, none⟩) hp (.int .i64 0)).setCell (p := ⟨p2, 4, none⟩) hp (.int .i64 0)).setCell (p := ⟨p2, 5, none⟩) hp (.int .i64 0)).setCell (p := ⟨p2, 6, none⟩) hp (.int .i64 0)).setCell (p := ⟨p2, 7, none⟩) hp (.string ⟨#[]⟩))
  simp only [List.setIfInBounds_toArray, List.set_cons_zero, List.set_cons_succ] at r2
  generalize hW : World.setCell _ _ _ = Z9 at *
  clear hW
  have q0 := r2.cell 0
  have q1 := r2.cell 1
  have q2 := r2.cell 2
  have q3 := r2.cell 3
  have q4 := r2.cell 4
  have q5 := r2.cell 5
  have q6 := r2.cell 6
  have q7 := r2.cell 7
  simp only [List.getElem?_toArray, List.getElem?_cons_succ, List.getElem?_cons_zero] at q0 q1 q2 q3 q4 q5 q6 q7
  clear r2 r1
  refine bodyPost_ret (v := .tuple #[r0V, .int .i64 17]) (by simp [results, Tryz.results37, go_sem, q0, q1, q2, q3, q4, q5, q6, q7]) rfl ⟨rfl, by first | exact hc | (rw [← hp1]; exact hc)⟩

set_option maxHeartbeats 8000000 in
set_option maxRecDepth 20000 in
theorem tried_2b (k i g st wy tr nx now wait : Int) (tag : ByteArray) (w : World) (g0 : 0 ≤ g) (g1 : g ≤ 4294967295) (hs : tag.size ≤ 1000000) (hx : ¬ 1099511627776 - wait < now) (hy : 10000 ≤ tr) (hT : isT now = true) (hW0 : inB wait 1 1048576 = true) (hE : ∀ w, Ret 70 #[rV k i g st wy tr nx tag, .bool true, .int .i64 2] w (.int .i64 0)) :
    Ret 37 #[rV k i g st wy tr nx tag, .int .i64 2, .int .i64 now, .int .i64 wait] w (.tuple #[r0V, .int .i64 17]) := by
  have HEE := Lib.hid hE
  have cA := fun w => in_c 2 1 3 w
  rw [show inB 2 1 3 = true by decide] at cA
  have CA := Lib.hid cA
  clear hE cA
  have bT := isT_iff.1 hT
  have bW := inB_iff.1 hW0
  have w1 : IntKind.i64.wrap (1099511627776 - wait) = 1099511627776 - wait := IntWalk.i64_in _ ⟨by omega, by omega⟩
  have p1 : decide (1099511627776 - wait < now) = false := decide_eq_false hx
  have p2 : decide ((10000 : Int) ≤ tr) = true := decide_eq_true hy
  have cT := fun w => isTime_c now w
  rw [hT] at cT
  have CT := Lib.hid cT
  clear cT
  have cW := fun w => in_c wait 1 1048576 w
  rw [hW0] at cW
  have CW := Lib.hid cW
  clear cW
  go_enter Tryz.func37, Tryz.ntmps37
  go_wp2_with fail
  have r1 := (Row.new (W := w) (cs := (rC k i g st wy tr nx tag)) (t := 91)).on (below_alloc _ (.cells (rC 0 0 0 0 0 0 0 ⟨#[]⟩) 91))
  have r2 := Row.new (W := w.alloc (.cells (rC k i g st wy tr nx tag) 91)) (cs := (rC 0 0 0 0 0 0 0 ⟨#[]⟩)) (t := 91)
  rw [World.size_alloc] at r2
  have hc := ((Below.refl w.heap.size w).alloc (Nat.le_refl _) (.cells (rC k i g st wy tr nx tag) 91)).alloc (by simp) (.cells (rC 0 0 0 0 0 0 0 ⟨#[]⟩) 91)
  generalize (w.alloc (.cells (rC k i g st wy tr nx tag) 91)).alloc (.cells (rC 0 0 0 0 0 0 0 ⟨#[]⟩) 91) = W at *
  have h12 : w.heap.size ≠ w.heap.size + 1 := by omega
  have h21 : w.heap.size + 1 ≠ w.heap.size := by omega
  have hp0 : w.heap.size ≤ w.heap.size := Nat.le_refl _
  have hp : w.heap.size ≤ w.heap.size + 1 := Nat.le_succ _
  generalize w.heap.size + 1 = p2 at *
  obtain ⟨p1, hp1⟩ : ∃ p1, w.heap.size = p1 := ⟨_, rfl⟩
  rw [hp1] at r1 h12 h21 hp0
  rw [hp1]
  refine wp_region_held_drew (S := fun W' => (∀ j, W'.cell? ⟨p1, j, none⟩ = (rC k i g st wy tr nx tag)[j]?)) (by kernel_rfl) r1.cell (fun hHeld => ?_)
  replace r1 := r1.drew
  replace r2 := r2.drew
  replace hc := hc.drew
  generalize W.drew = V0 at *
  refine' wpAnyH_take (i := 0) (oi := _) (v := _) ?_ (by kernel_rfl) (by kernel_rfl) (by kernel_rfl) ?_ (Or.inl ⟨?_, ?_⟩) (by assumption) ?_
  rotate_left 2
  · (simp only [List.getElem?_toArray, List.getElem?_cons_succ, List.getElem?_cons_zero]; rfl)
  · first | exact fun _ _ _ h => h | exact fun _ _ _ h => nomatch h.1
  · rfl
  · (intro W hSW; (try dsimp only at hSW); go_split_ands; first | (go_simp; done) | (go_simp; with_reducible rfl))
  try simp only [Act.put, List.setIfInBounds_toArray, List.set_cons_zero, List.set_cons_succ]
  refine' wpAnyH_take (i := 1) (oi := _) (v := _) ?_ (by kernel_rfl) (by kernel_rfl) (by kernel_rfl) ?_ (Or.inl ⟨?_, ?_⟩) (by assumption) ?_
  rotate_left 2
  · (simp only [List.getElem?_toArray, List.getElem?_cons_succ, List.getElem?_cons_zero]; rfl)
  · first | exact fun _ _ _ h => h | exact fun _ _ _ h => nomatch h.1
  · rfl
  · (intro W hSW; (try dsimp only at hSW); go_split_ands; first | (go_simp; done) | (go_simp; with_reducible rfl))
  try simp only [Act.put, List.setIfInBounds_toArray, List.set_cons_zero, List.set_cons_succ]
  refine wpAnyH_ready (rs := [2]) (by kernel_rfl) (by simp) ?_
  refine' AllReadyH.cons (o := _) ?_ (fun K hK => ?_) AllReadyH.nil
  rotate_left 1
  · (simp only [List.getElem?_toArray, List.getElem?_cons_succ, List.getElem?_cons_zero]; rfl)
  go_simp
  refine Calls.mono (CA.out _) ?_
  rintro e V1 ⟨rfl, hb⟩
  replace r1 := r1.on hb
  replace r2 := r2.on hb
  replace hc := chain hc hb
  go_simp
  refine hK.out _ _ r1.cell (fun _ => ?_)
  clear hK K hb
  refine' wpAnyH_take (i := 3) (oi := _) (v := _) ?_ (by kernel_rfl) (by kernel_rfl) (by kernel_rfl) ?_ (Or.inl ⟨?_, ?_⟩) (by assumption) ?_
  rotate_left 2
  · (simp only [List.getElem?_toArray, List.getElem?_cons_succ, List.getElem?_cons_zero]; rfl)
  · first | exact fun _ _ _ h => h | exact fun _ _ _ h => nomatch h.1
  · rfl
  · (intro W hSW; (try dsimp only at hSW); go_split_ands; first | (go_simp; done) | (go_simp; with_reducible rfl))
  try simp only [Act.put, List.setIfInBounds_toArray, List.set_cons_zero, List.set_cons_succ]
  refine' wpAnyH_take (i := 4) (oi := _) (v := _) ?_ (by kernel_rfl) (by kernel_rfl) (by kernel_rfl) ?_ (Or.inl ⟨?_, ?_⟩) (by assumption) ?_
  rotate_left 2
  · (simp only [List.getElem?_toArray, List.getElem?_cons_succ, List.getElem?_cons_zero]; rfl)
  · first | exact fun _ _ _ h => h | exact fun _ _ _ h => nomatch h.1
  · rfl
  · (intro W hSW; (try dsimp only at hSW); go_split_ands; first | (go_simp; done) | (go_simp; with_reducible rfl))
  try simp only [Act.put, List.setIfInBounds_toArray, List.set_cons_zero, List.set_cons_succ]
  refine wpAnyH_ready (rs := [5]) (by kernel_rfl) (by simp) ?_
  refine' AllReadyH.cons (o := _) ?_ (fun K hK => ?_) AllReadyH.nil
  rotate_left 1
  · (simp only [List.getElem?_toArray, List.getElem?_cons_succ, List.getElem?_cons_zero]; rfl)
  go_simp
  refine Calls.mono (CT.out _) ?_
  rintro e V2 ⟨rfl, hb⟩
  replace r1 := r1.on hb
  replace r2 := r2.on hb
  replace hc := chain hc hb
  go_simp
  refine hK.out _ _ r1.cell (fun _ => ?_)
  clear hK K hb
  refine' wpAnyH_take (i := 6) (oi := _) (v := _) ?_ (by kernel_rfl) (by kernel_rfl) (by kernel_rfl) ?_ (Or.inl ⟨?_, ?_⟩) (by assumption) ?_
  rotate_left 2
  · (simp only [List.getElem?_toArray, List.getElem?_cons_succ, List.getElem?_cons_zero]; rfl)
  · first | exact fun _ _ _ h => h | exact fun _ _ _ h => nomatch h.1
  · rfl
  · (intro W hSW; (try dsimp only at hSW); go_split_ands; first | (go_simp; done) | (go_simp; with_reducible rfl))
  try simp only [Act.put, List.setIfInBounds_toArray, List.set_cons_zero, List.set_cons_succ]
  refine' wpAnyH_take (i := 7) (oi := _) (v := _) ?_ (by kernel_rfl) (by kernel_rfl) (by kernel_rfl) ?_ (Or.inl ⟨?_, ?_⟩) (by assumption) ?_
  rotate_left 2
  · (simp only [List.getElem?_toArray, List.getElem?_cons_succ, List.getElem?_cons_zero]; rfl)
  · first | exact fun _ _ _ h => h | exact fun _ _ _ h => nomatch h.1
  · rfl
  · (intro W hSW; (try dsimp only at hSW); go_split_ands; first | (go_simp; done) | (go_simp; with_reducible rfl))
  try simp only [Act.put, List.setIfInBounds_toArray, List.set_cons_zero, List.set_cons_succ]
  refine' wpAnyH_take (i := 8) (oi := _) (v := _) ?_ (by kernel_rfl) (by kernel_rfl) (by kernel_rfl) ?_ (Or.inl ⟨?_, ?_⟩) (by assumption) ?_
  rotate_left 2
  · (simp only [List.getElem?_toArray, List.getElem?_cons_succ, List.getElem?_cons_zero]; rfl)
  · first | exact fun _ _ _ h => h | exact fun _ _ _ h => nomatch h.1
  · rfl
  · (intro W hSW; (try dsimp only at hSW); go_split_ands; first | (go_simp; done) | (go_simp; with_reducible rfl))
  try simp only [Act.put, List.setIfInBounds_toArray, List.set_cons_zero, List.set_cons_succ]
  refine wpAnyH_ready (rs := [9]) (by kernel_rfl) (by simp) ?_
  refine' AllReadyH.cons (o := _) ?_ (fun K hK => ?_) AllReadyH.nil
  rotate_left 1
  · (simp only [List.getElem?_toArray, List.getElem?_cons_succ, List.getElem?_cons_zero]; rfl)
  go_simp
  refine Calls.mono (CW.out _) ?_
  rintro e V3 ⟨rfl, hb⟩
  replace r1 := r1.on hb
  replace r2 := r2.on hb
  replace hc := chain hc hb
  go_simp
  refine hK.out _ _ r1.cell (fun _ => ?_)
  clear hK K hb
  refine' wpAnyH_take (i := 10) (oi := _) (v := _) ?_ (by kernel_rfl) (by kernel_rfl) (by kernel_rfl) ?_ (Or.inl ⟨?_, ?_⟩) (by assumption) ?_
  rotate_left 2
  · (simp only [List.getElem?_toArray, List.getElem?_cons_succ, List.getElem?_cons_zero]; rfl)
  · first | exact fun _ _ _ h => h | exact fun _ _ _ h => nomatch h.1
  · rfl
  · (intro W hSW; (try dsimp only at hSW); go_split_ands; first | (go_simp; done) | (go_simp; with_reducible rfl))
  try simp only [Act.put, List.setIfInBounds_toArray, List.set_cons_zero, List.set_cons_succ]
  refine wpAnyH_ready (rs := [11]) (by kernel_rfl) (by simp) ?_
  refine' AllReadyH.cons (o := _) ?_ (fun K hK => ?_) AllReadyH.nil
  rotate_left 1
  · (simp only [List.getElem?_toArray, List.getElem?_cons_succ, List.getElem?_cons_zero]; rfl)
  go_simp
  refine Calls.mono (HEE.out _) ?_
  rintro e V4 ⟨rfl, hb⟩
  replace r1 := r1.on hb
  replace r2 := r2.on hb
  replace hc := chain hc hb
  go_simp
  refine hK.out _ _ r1.cell (fun _ => ?_)
  clear hK K hb
  refine' wpAnyH_take (i := 12) (oi := _) (v := _) ?_ (by kernel_rfl) (by kernel_rfl) (by kernel_rfl) ?_ (Or.inl ⟨?_, ?_⟩) (by assumption) ?_
  rotate_left 2
  · (simp only [List.getElem?_toArray, List.getElem?_cons_succ, List.getElem?_cons_zero]; rfl)
  · first | exact fun _ _ _ h => h | exact fun _ _ _ h => nomatch h.1
  · rfl
  · (intro W hSW; (try dsimp only at hSW); go_split_ands; first | (go_simp; done) | (go_simp; with_reducible rfl))
  try simp only [Act.put, List.setIfInBounds_toArray, List.set_cons_zero, List.set_cons_succ]
  refine wpAnyH_done (by kernel_rfl) ?_ _
  have y2 := r2.cell
  have y2f := r2.free
  have y2l := r2.lt
  have y1 := r1.cell
  have y1l := r1.lt
  go_wp2_with fail
  clear y2 y2f y2l y1 y1l
  replace r2 := ((((((((r2.set 0 (.int .i64 0)).set 1 (.int .i64 0)).set 2 (.int .u32 0)).set 3 (.int .i64 0)).set 4 (.int .i64 0)).set 5 (.int .i64 0)).set 6 (.int .i64 0)).set 7 (.string ⟨#[]⟩))
  replace hc := ((((((((hc.setCell (p := ⟨p2, 0, none⟩) hp (.int .i64 0)).setCell (p := ⟨p2, 1, none⟩) hp (.int .i64 0)).setCell (p := ⟨p2, 2, none⟩) hp (.int .u32 0)).setCell (p := ⟨p2, 3, none⟩) hp (.int .i64 0)).setCell (p := ⟨p2, 4, none⟩) hp (.int .i64 0)).setCell (p := ⟨p2, 5, none⟩) hp (.int .i64 0)).setCell (p := ⟨p2, 6, none⟩) hp (.int .i64 0)).setCell (p := ⟨p2, 7, none⟩) hp (.string ⟨#[]⟩))
  simp only [List.setIfInBounds_toArray, List.set_cons_zero, List.set_cons_succ] at r2
  generalize hW : World.setCell _ _ _ = Z9 at *
  clear hW
  have q0 := r2.cell 0
  have q1 := r2.cell 1
  have q2 := r2.cell 2
  have q3 := r2.cell 3
  have q4 := r2.cell 4
  have q5 := r2.cell 5
  have q6 := r2.cell 6
  have q7 := r2.cell 7
  simp only [List.getElem?_toArray, List.getElem?_cons_succ, List.getElem?_cons_zero] at q0 q1 q2 q3 q4 q5 q6 q7
  clear r2 r1
  refine bodyPost_ret (v := .tuple #[r0V, .int .i64 17]) (by simp [results, Tryz.results37, go_sem, q0, q1, q2, q3, q4, q5, q6, q7]) rfl ⟨rfl, by first | exact hc | (rw [← hp1]; exact hc)⟩

set_option maxHeartbeats 8000000 in
set_option maxRecDepth 20000 in
theorem tried_2c (k i g st wy tr nx now wait : Int) (tag : ByteArray) (w : World) (g0 : 0 ≤ g) (g1 : g ≤ 4294967295) (hs : tag.size ≤ 1000000) (hx : ¬ 1099511627776 - wait < now) (hy : ¬ 10000 ≤ tr) (hz : 0 ≤ tr) (hT : isT now = true) (hW0 : inB wait 1 1048576 = true) (hE : ∀ w, Ret 70 #[rV k i g st wy tr nx tag, .bool true, .int .i64 2] w (.int .i64 0)) :
    Ret 37 #[rV k i g st wy tr nx tag, .int .i64 2, .int .i64 now, .int .i64 wait] w (.tuple #[rV k i g st wy (tr + 1) (now + wait) tag, .int .i64 0]) := by
  have HEE := Lib.hid hE
  have cA := fun w => in_c 2 1 3 w
  rw [show inB 2 1 3 = true by decide] at cA
  have CA := Lib.hid cA
  clear hE cA
  have bT := isT_iff.1 hT
  have bW := inB_iff.1 hW0
  have w1 : IntKind.i64.wrap (1099511627776 - wait) = 1099511627776 - wait := IntWalk.i64_in _ ⟨by omega, by omega⟩
  have p1 : decide (1099511627776 - wait < now) = false := decide_eq_false hx
  have p2 : decide ((10000 : Int) ≤ tr) = false := decide_eq_false hy
  have w2 : IntKind.i64.wrap (tr + 1) = tr + 1 := IntWalk.i64_in _ ⟨by omega, by omega⟩
  have w3 : IntKind.i64.wrap (now + wait) = now + wait := IntWalk.i64_in _ ⟨by omega, by omega⟩
  have cT := fun w => isTime_c now w
  rw [hT] at cT
  have CT := Lib.hid cT
  clear cT
  have cW := fun w => in_c wait 1 1048576 w
  rw [hW0] at cW
  have CW := Lib.hid cW
  clear cW
  go_enter Tryz.func37, Tryz.ntmps37
  go_wp2_with fail
  have r1 := (Row.new (W := w) (cs := (rC k i g st wy tr nx tag)) (t := 91)).on (below_alloc _ (.cells (rC 0 0 0 0 0 0 0 ⟨#[]⟩) 91))
  have r2 := Row.new (W := w.alloc (.cells (rC k i g st wy tr nx tag) 91)) (cs := (rC 0 0 0 0 0 0 0 ⟨#[]⟩)) (t := 91)
  rw [World.size_alloc] at r2
  have hc := ((Below.refl w.heap.size w).alloc (Nat.le_refl _) (.cells (rC k i g st wy tr nx tag) 91)).alloc (by simp) (.cells (rC 0 0 0 0 0 0 0 ⟨#[]⟩) 91)
  generalize (w.alloc (.cells (rC k i g st wy tr nx tag) 91)).alloc (.cells (rC 0 0 0 0 0 0 0 ⟨#[]⟩) 91) = W at *
  have h12 : w.heap.size ≠ w.heap.size + 1 := by omega
  have h21 : w.heap.size + 1 ≠ w.heap.size := by omega
  have hp0 : w.heap.size ≤ w.heap.size := Nat.le_refl _
  have hp : w.heap.size ≤ w.heap.size + 1 := Nat.le_succ _
  generalize w.heap.size + 1 = p2 at *
  obtain ⟨p1, hp1⟩ : ∃ p1, w.heap.size = p1 := ⟨_, rfl⟩
  rw [hp1] at r1 h12 h21 hp0
  rw [hp1]
  refine wp_region_held_drew (S := fun W' => (∀ j, W'.cell? ⟨p1, j, none⟩ = (rC k i g st wy tr nx tag)[j]?)) (by kernel_rfl) r1.cell (fun hHeld => ?_)
  replace r1 := r1.drew
  replace r2 := r2.drew
  replace hc := hc.drew
  generalize W.drew = V0 at *
  refine' wpAnyH_take (i := 0) (oi := _) (v := _) ?_ (by kernel_rfl) (by kernel_rfl) (by kernel_rfl) ?_ (Or.inl ⟨?_, ?_⟩) (by assumption) ?_
  rotate_left 2
  · (simp only [List.getElem?_toArray, List.getElem?_cons_succ, List.getElem?_cons_zero]; rfl)
  · first | exact fun _ _ _ h => h | exact fun _ _ _ h => nomatch h.1
  · rfl
  · (intro W hSW; (try dsimp only at hSW); go_split_ands; first | (go_simp; done) | (go_simp; with_reducible rfl))
  try simp only [Act.put, List.setIfInBounds_toArray, List.set_cons_zero, List.set_cons_succ]
  refine' wpAnyH_take (i := 1) (oi := _) (v := _) ?_ (by kernel_rfl) (by kernel_rfl) (by kernel_rfl) ?_ (Or.inl ⟨?_, ?_⟩) (by assumption) ?_
  rotate_left 2
  · (simp only [List.getElem?_toArray, List.getElem?_cons_succ, List.getElem?_cons_zero]; rfl)
  · first | exact fun _ _ _ h => h | exact fun _ _ _ h => nomatch h.1
  · rfl
  · (intro W hSW; (try dsimp only at hSW); go_split_ands; first | (go_simp; done) | (go_simp; with_reducible rfl))
  try simp only [Act.put, List.setIfInBounds_toArray, List.set_cons_zero, List.set_cons_succ]
  refine wpAnyH_ready (rs := [2]) (by kernel_rfl) (by simp) ?_
  refine' AllReadyH.cons (o := _) ?_ (fun K hK => ?_) AllReadyH.nil
  rotate_left 1
  · (simp only [List.getElem?_toArray, List.getElem?_cons_succ, List.getElem?_cons_zero]; rfl)
  go_simp
  refine Calls.mono (CA.out _) ?_
  rintro e V1 ⟨rfl, hb⟩
  replace r1 := r1.on hb
  replace r2 := r2.on hb
  replace hc := chain hc hb
  go_simp
  refine hK.out _ _ r1.cell (fun _ => ?_)
  clear hK K hb
  refine' wpAnyH_take (i := 3) (oi := _) (v := _) ?_ (by kernel_rfl) (by kernel_rfl) (by kernel_rfl) ?_ (Or.inl ⟨?_, ?_⟩) (by assumption) ?_
  rotate_left 2
  · (simp only [List.getElem?_toArray, List.getElem?_cons_succ, List.getElem?_cons_zero]; rfl)
  · first | exact fun _ _ _ h => h | exact fun _ _ _ h => nomatch h.1
  · rfl
  · (intro W hSW; (try dsimp only at hSW); go_split_ands; first | (go_simp; done) | (go_simp; with_reducible rfl))
  try simp only [Act.put, List.setIfInBounds_toArray, List.set_cons_zero, List.set_cons_succ]
  refine' wpAnyH_take (i := 4) (oi := _) (v := _) ?_ (by kernel_rfl) (by kernel_rfl) (by kernel_rfl) ?_ (Or.inl ⟨?_, ?_⟩) (by assumption) ?_
  rotate_left 2
  · (simp only [List.getElem?_toArray, List.getElem?_cons_succ, List.getElem?_cons_zero]; rfl)
  · first | exact fun _ _ _ h => h | exact fun _ _ _ h => nomatch h.1
  · rfl
  · (intro W hSW; (try dsimp only at hSW); go_split_ands; first | (go_simp; done) | (go_simp; with_reducible rfl))
  try simp only [Act.put, List.setIfInBounds_toArray, List.set_cons_zero, List.set_cons_succ]
  refine wpAnyH_ready (rs := [5]) (by kernel_rfl) (by simp) ?_
  refine' AllReadyH.cons (o := _) ?_ (fun K hK => ?_) AllReadyH.nil
  rotate_left 1
  · (simp only [List.getElem?_toArray, List.getElem?_cons_succ, List.getElem?_cons_zero]; rfl)
  go_simp
  refine Calls.mono (CT.out _) ?_
  rintro e V2 ⟨rfl, hb⟩
  replace r1 := r1.on hb
  replace r2 := r2.on hb
  replace hc := chain hc hb
  go_simp
  refine hK.out _ _ r1.cell (fun _ => ?_)
  clear hK K hb
  refine' wpAnyH_take (i := 6) (oi := _) (v := _) ?_ (by kernel_rfl) (by kernel_rfl) (by kernel_rfl) ?_ (Or.inl ⟨?_, ?_⟩) (by assumption) ?_
  rotate_left 2
  · (simp only [List.getElem?_toArray, List.getElem?_cons_succ, List.getElem?_cons_zero]; rfl)
  · first | exact fun _ _ _ h => h | exact fun _ _ _ h => nomatch h.1
  · rfl
  · (intro W hSW; (try dsimp only at hSW); go_split_ands; first | (go_simp; done) | (go_simp; with_reducible rfl))
  try simp only [Act.put, List.setIfInBounds_toArray, List.set_cons_zero, List.set_cons_succ]
  refine' wpAnyH_take (i := 7) (oi := _) (v := _) ?_ (by kernel_rfl) (by kernel_rfl) (by kernel_rfl) ?_ (Or.inl ⟨?_, ?_⟩) (by assumption) ?_
  rotate_left 2
  · (simp only [List.getElem?_toArray, List.getElem?_cons_succ, List.getElem?_cons_zero]; rfl)
  · first | exact fun _ _ _ h => h | exact fun _ _ _ h => nomatch h.1
  · rfl
  · (intro W hSW; (try dsimp only at hSW); go_split_ands; first | (go_simp; done) | (go_simp; with_reducible rfl))
  try simp only [Act.put, List.setIfInBounds_toArray, List.set_cons_zero, List.set_cons_succ]
  refine' wpAnyH_take (i := 8) (oi := _) (v := _) ?_ (by kernel_rfl) (by kernel_rfl) (by kernel_rfl) ?_ (Or.inl ⟨?_, ?_⟩) (by assumption) ?_
  rotate_left 2
  · (simp only [List.getElem?_toArray, List.getElem?_cons_succ, List.getElem?_cons_zero]; rfl)
  · first | exact fun _ _ _ h => h | exact fun _ _ _ h => nomatch h.1
  · rfl
  · (intro W hSW; (try dsimp only at hSW); go_split_ands; first | (go_simp; done) | (go_simp; with_reducible rfl))
  try simp only [Act.put, List.setIfInBounds_toArray, List.set_cons_zero, List.set_cons_succ]
  refine wpAnyH_ready (rs := [9]) (by kernel_rfl) (by simp) ?_
  refine' AllReadyH.cons (o := _) ?_ (fun K hK => ?_) AllReadyH.nil
  rotate_left 1
  · (simp only [List.getElem?_toArray, List.getElem?_cons_succ, List.getElem?_cons_zero]; rfl)
  go_simp
  refine Calls.mono (CW.out _) ?_
  rintro e V3 ⟨rfl, hb⟩
  replace r1 := r1.on hb
  replace r2 := r2.on hb
  replace hc := chain hc hb
  go_simp
  refine hK.out _ _ r1.cell (fun _ => ?_)
  clear hK K hb
  refine' wpAnyH_take (i := 10) (oi := _) (v := _) ?_ (by kernel_rfl) (by kernel_rfl) (by kernel_rfl) ?_ (Or.inl ⟨?_, ?_⟩) (by assumption) ?_
  rotate_left 2
  · (simp only [List.getElem?_toArray, List.getElem?_cons_succ, List.getElem?_cons_zero]; rfl)
  · first | exact fun _ _ _ h => h | exact fun _ _ _ h => nomatch h.1
  · rfl
  · (intro W hSW; (try dsimp only at hSW); go_split_ands; first | (go_simp; done) | (go_simp; with_reducible rfl))
  try simp only [Act.put, List.setIfInBounds_toArray, List.set_cons_zero, List.set_cons_succ]
  refine wpAnyH_ready (rs := [11]) (by kernel_rfl) (by simp) ?_
  refine' AllReadyH.cons (o := _) ?_ (fun K hK => ?_) AllReadyH.nil
  rotate_left 1
  · (simp only [List.getElem?_toArray, List.getElem?_cons_succ, List.getElem?_cons_zero]; rfl)
  go_simp
  refine Calls.mono (HEE.out _) ?_
  rintro e V4 ⟨rfl, hb⟩
  replace r1 := r1.on hb
  replace r2 := r2.on hb
  replace hc := chain hc hb
  go_simp
  refine hK.out _ _ r1.cell (fun _ => ?_)
  clear hK K hb
  refine' wpAnyH_take (i := 12) (oi := _) (v := _) ?_ (by kernel_rfl) (by kernel_rfl) (by kernel_rfl) ?_ (Or.inl ⟨?_, ?_⟩) (by assumption) ?_
  rotate_left 2
  · (simp only [List.getElem?_toArray, List.getElem?_cons_succ, List.getElem?_cons_zero]; rfl)
  · first | exact fun _ _ _ h => h | exact fun _ _ _ h => nomatch h.1
  · rfl
  · (intro W hSW; (try dsimp only at hSW); go_split_ands; first | (go_simp; done) | (go_simp; with_reducible rfl))
  try simp only [Act.put, List.setIfInBounds_toArray, List.set_cons_zero, List.set_cons_succ]
  refine wpAnyH_done (by kernel_rfl) ?_ _
  have y1 := r1.cell
  have y1f := r1.free
  have y1l := r1.lt
  go_upto_region 12 with fail
  clear y1 y1f y1l
  replace r2 := ((r2.other h12 5 (.int .i64 (tr + 1))).other h12 6 (.int .i64 (now + wait)))
  replace hc := ((hc.setCell (p := ⟨p1, 5, none⟩) (Nat.le_of_eq hp1) (.int .i64 (tr + 1))).setCell (p := ⟨p1, 6, none⟩) (Nat.le_of_eq hp1) (.int .i64 (now + wait)))
  replace r1 := ((r1.set 5 (.int .i64 (tr + 1))).set 6 (.int .i64 (now + wait)))
  simp only [List.setIfInBounds_toArray, List.set_cons_zero, List.set_cons_succ] at r1
  generalize hW : World.setCell _ _ _ = X at *
  clear hW
  have y2 := r2.cell
  have y2f := r2.free
  have y2l := r2.lt
  have y1 := r1.cell
  have y1l := r1.lt
  go_wp2_with fail
  clear y2 y2f y2l y1 y1l
  replace r2 := ((((((((r2.set 0 (.int .i64 k)).set 1 (.int .i64 i)).set 2 (.int .u32 g)).set 3 (.int .i64 st)).set 4 (.int .i64 wy)).set 5 (.int .i64 (tr + 1))).set 6 (.int .i64 (now + wait))).set 7 (.string tag))
  replace hc := ((((((((hc.setCell (p := ⟨p2, 0, none⟩) hp (.int .i64 k)).setCell (p := ⟨p2, 1, none⟩) hp (.int .i64 i)).setCell (p := ⟨p2, 2, none⟩) hp (.int .u32 g)).setCell (p := ⟨p2, 3, none⟩) hp (.int .i64 st)).setCell (p := ⟨p2, 4, none⟩) hp (.int .i64 wy)).setCell (p := ⟨p2, 5, none⟩) hp (.int .i64 (tr + 1))).setCell (p := ⟨p2, 6, none⟩) hp (.int .i64 (now + wait))).setCell (p := ⟨p2, 7, none⟩) hp (.string tag))
  simp only [List.setIfInBounds_toArray, List.set_cons_zero, List.set_cons_succ] at r2
  generalize hW : World.setCell _ _ _ = Z9 at *
  clear hW
  have q0 := r2.cell 0
  have q1 := r2.cell 1
  have q2 := r2.cell 2
  have q3 := r2.cell 3
  have q4 := r2.cell 4
  have q5 := r2.cell 5
  have q6 := r2.cell 6
  have q7 := r2.cell 7
  simp only [List.getElem?_toArray, List.getElem?_cons_succ, List.getElem?_cons_zero] at q0 q1 q2 q3 q4 q5 q6 q7
  clear r2 r1
  refine bodyPost_ret (v := .tuple #[rV k i g st wy (tr + 1) (now + wait) tag, .int .i64 0]) (by simp [results, Tryz.results37, go_sem, q0, q1, q2, q3, q4, q5, q6, q7]) rfl ⟨rfl, by first | exact hc | (rw [← hp1]; exact hc)⟩

theorem chkE_zero {k i g st wy tr nx : Int} {tag : ByteArray} {al : Bool} {want : Int} (h : chkE k i g st wy tr nx tag al want = 0) : rErr k i g st wy tr nx tag = 0 ∧ al = true ∧ st = want := by
  by_cases he : rErr k i g st wy tr nx tag = 0
  · cases al with
    | false => rw [chkE_not he] at h; exact absurd h (by decide)
    | true =>
      by_cases hw : st = want
      · exact ⟨he, rfl, hw⟩
      · rw [chkE_st he hw] at h; exact absurd h (by decide)
  · rw [chkE_bad he] at h
    exact absurd h he
theorem chkE_false {k i g st wy tr nx : Int} {tag : ByteArray} {want : Int} : chkE k i g st wy tr nx tag false want ≠ 0 := fun h => by cases (chkE_zero h).2.1
theorem rErr_zero {k i g st wy tr nx : Int} {tag : ByteArray} (h : rErr k i g st wy tr nx tag = 0) : pOk k i g st wy tr nx = true ∧ tagOk tag.data.toList = true := by
  unfold rErr at h
  cases hp : pOk k i g st wy tr nx with
  | false => rw [hp] at h; simp at h
  | true =>
    rw [hp] at h
    refine ⟨rfl, ?_⟩
    simp only [if_true] at h
    unfold tagErr at h
    split at h
    · assumption
    · exact absurd h (by decide)
theorem tried_c (k i g st wy tr nx answer now wait : Int) (tag : ByteArray) (w : World) (g0 : 0 ≤ g) (g1 : g ≤ 4294967295) (hs : tag.size ≤ 1000000) : Ret 37 #[rV k i g st wy tr nx tag, .int .i64 answer, .int .i64 now, .int .i64 wait] w (triedV k i g st wy tr nx tag answer now wait) := by
  unfold triedV triedA
  cases hA : inB answer 1 3 with
  | false =>
    simp only [Bool.false_and]
    rw [if_neg chkE_false]
    exact tried_ef k i g st wy tr nx answer now wait _ tag w g0 g1 hs chkE_false hA (fun w => chk_c k i g st wy tr nx tag false 2 w g0 g1 hs)
  | true =>
    simp only [Bool.true_and]
    cases hT : isT now with
    | false =>
      simp only [Bool.false_and]
      rw [if_neg chkE_false]
      exact tried_etf k i g st wy tr nx answer now wait _ tag w g0 g1 hs chkE_false hA hT (fun w => chk_c k i g st wy tr nx tag false 2 w g0 g1 hs)
    | true =>
      simp only [Bool.true_and]
      have hc := fun w => chk_c k i g st wy tr nx tag (inB wait 1 1048576) 2 w g0 g1 hs
      by_cases he : chkE k i g st wy tr nx tag (inB wait 1 1048576) 2 = 0
      · obtain ⟨h1, h2, h3⟩ := chkE_zero he
        rw [he] at hc
        rw [h2] at hc
        rw [if_pos he]
        subst h3
        have hp := (rErr_zero h1).1
        rw [pOk_2 (pOk_out hp).1] at hp
        simp only [Bool.and_eq_true] at hp
        have ht := inB_iff.1 hp.2.1
        have ha := inB_iff.1 hA
        rcases (by omega : answer = 1 ∨ answer = 2 ∨ answer = 3) with rfl | rfl | rfl
        · rw [if_pos rfl]
          exact tried_1 k i g 2 wy tr nx now wait tag w g0 g1 hs hT h2 hc
        · rw [if_neg (by decide), if_neg (by decide)]
          by_cases hx : 1099511627776 - wait < now
          · rw [if_pos (.inl hx)]
            exact tried_2a k i g 2 wy tr nx now wait tag w g0 g1 hs hx hT h2 hc
          · by_cases hy : 10000 ≤ tr
            · rw [if_pos (.inr hy)]
              exact tried_2b k i g 2 wy tr nx now wait tag w g0 g1 hs hx hy hT h2 hc
            · rw [if_neg (by omega)]
              exact tried_2c k i g 2 wy tr nx now wait tag w g0 g1 hs hx hy ht.1 hT h2 hc
        · rw [if_neg (by decide), if_pos rfl]
          exact tried_3 k i g 2 wy tr nx now wait tag w g0 g1 hs hT h2 hc
      · rw [if_neg he]
        exact tried_ett k i g st wy tr nx answer now wait _ tag w g0 g1 hs he _ hA hT rfl hc

end Go.Proofs.YtkjpdciccablpaaGreatDoor
