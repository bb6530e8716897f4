/- The walks of DescrSorted, DescrNames, DescrWrong. -/
import Derived.Test.YtjonbmocamjhaaaDoorWorks05
namespace Go.Proofs.YtjonbmocamjhaaaDoor
open Go.RowKit
open Go.Lib (decDigits)
set_option linter.unusedVariables false
set_option linter.unusedSimpArgs false

theorem d_eql (k s g k' s' g' : Int) (b : Bool) (h : (k = k' ∧ s = s' ∧ g = g') ↔ b = true) : ∀ W, (binOp .eql 24 (.agg #[.int .i64 k, .int .i64 s, .int .u32 g]) (.agg #[.int .i64 k', .int .i64 s', .int .u32 g'])).run Tryd.prog W = .ok (.bool b) W := by
  intro W
  go_simp
  by_cases hk : k = k' <;> by_cases hs : s = s' <;> by_cases hg : g = g' <;> cases b <;> simp_all
theorem o_eql (k s g k' s' g' : Int) (b : Bool) (h : (k = k' ∧ s = s' ∧ g = g') ↔ b = true) : ∀ W, (binOp .eql 39 (.agg #[.int .i64 k, .int .i64 s, .int .u32 g]) (.agg #[.int .i64 k', .int .i64 s', .int .u32 g'])).run Tryd.prog W = .ok (.bool b) W := by
  intro W
  go_simp
  by_cases hk : k = k' <;> by_cases hs : s = s' <;> by_cases hg : g = g' <;> cases b <;> simp_all
theorem dOrd_spec (k s g k' s' g' : Int) :
    (dOrd k s g k' s' g' = -1 ∧ (k < k' ∨ (k = k' ∧ (s < s' ∨ (s = s' ∧ g < g'))))) ∨ (dOrd k s g k' s' g' = 1 ∧ (k' < k ∨ (k = k' ∧ (s' < s ∨ (s = s' ∧ g' < g))))) ∨ (dOrd k s g k' s' g' = 0 ∧ k = k' ∧ s = s' ∧ g = g') := by
  have h7 : k < k' ∨ k' < k ∨ (k = k' ∧ (s < s' ∨ s' < s ∨ (s = s' ∧ (g < g' ∨ g' < g ∨ g = g')))) := by omega
  rcases h7 with h | h | ⟨rfl, h | h | ⟨rfl, h | h | rfl⟩⟩
  · exact .inl ⟨dOrd_k h, by omega⟩
  · exact .inr (.inl ⟨dOrd_k' h, by omega⟩)
  · exact .inl ⟨dOrd_s h, by omega⟩
  · exact .inr (.inl ⟨dOrd_s' h, by omega⟩)
  · exact .inl ⟨dOrd_g h, by omega⟩
  · exact .inr (.inl ⟨dOrd_g' h, by omega⟩)
  · exact .inr (.inr ⟨dOrd_eq, rfl, rfl, rfl⟩)
theorem dOrd_neg (k s g k' s' g' : Int) : dOrd k' s' g' k s g = -dOrd k s g k' s' g' := by
  rcases dOrd_spec k s g k' s' g' with ⟨h, e⟩ | ⟨h, e⟩ | ⟨h, e⟩ <;> rcases dOrd_spec k' s' g' k s g with ⟨h', e'⟩ | ⟨h', e'⟩ | ⟨h', e'⟩ <;> rw [h, h'] <;> omega
theorem dOrd_zero (k s g k' s' g' : Int) : (k = k' ∧ s = s' ∧ g = g') ↔ (dOrd k s g k' s' g' == 0) = true := by
  rw [beq_iff_eq]
  rcases dOrd_spec k s g k' s' g' with ⟨h, e⟩ | ⟨h, e⟩ | ⟨h, e⟩ <;> rw [h] <;> omega
/-- What the three comparisons may be. -/
theorem dOrd_three (k s g k' s' g' k'' s'' g'' : Int) : let x := dOrd k s g k' s' g'; let y := dOrd k' s' g' k'' s'' g''; let z := dOrd k s g k'' s'' g''
    (x = 1 ∨ (x = 0 ∧ y = 1) ∨ (x = 0 ∧ y = 0 ∧ z = 0) ∨ (x = 0 ∧ y = -1 ∧ z = -1) ∨ (x = -1 ∧ y = 1) ∨ (x = -1 ∧ y = 0 ∧ z = -1) ∨ (x = -1 ∧ y = -1 ∧ z = -1)) := by
  intro x y z
  have hx := dOrd_spec k s g k' s' g'
  have hy := dOrd_spec k' s' g' k'' s'' g''
  have hz := dOrd_spec k s g k'' s'' g''
  rcases hx with ⟨h, e⟩ | ⟨h, e⟩ | ⟨h, e⟩ <;> rcases hy with ⟨h2, e2⟩ | ⟨h2, e2⟩ | ⟨h2, e2⟩ <;> rcases hz with ⟨h3, e3⟩ | ⟨h3, e3⟩ | ⟨h3, e3⟩ <;> omega
theorem cell_third (w : World) (A B : Obj) (cs : Array Value) (t : TypeId) (j : Nat) : (((w.alloc A).alloc B).alloc (.cells cs t)).cell? ⟨w.heap.size + 1 + 1, j, none⟩ = cs[j]? := by
  have h := World.cell?_alloc_new ((w.alloc A).alloc B) cs t j
  simpa using h
set_option maxHeartbeats 8000000 in
set_option maxRecDepth 20000 in
theorem sorted_core (k s g k' s' g' k'' s'' g'' x y z : Int) (w : World) (hE : EnvP w) (hx : dOrd k s g k' s' g' = x) (hy : dOrd k' s' g' k'' s'' g'' = y) (hz : dOrd k s g k'' s'' g'' = z)
    (h7 : x = 1 ∨ (x = 0 ∧ y = 1) ∨ (x = 0 ∧ y = 0 ∧ z = 0) ∨ (x = 0 ∧ y = -1 ∧ z = -1) ∨ (x = -1 ∧ y = 1) ∨ (x = -1 ∧ y = 0 ∧ z = -1) ∨ (x = -1 ∧ y = -1 ∧ z = -1)) :
    Ret 8 #[dV k s g, dV k' s' g', dV k'' s'' g''] w (.bool true) := by
  have c1 := fun w => order_c k s g k' s' g' w
  have c2 := fun w => order_c k' s' g' k'' s'' g'' w
  have c3 := fun w => order_c k s g k'' s'' g'' w
  have c4 := fun w => order_c k' s' g' k s g w
  have hq := d_eql k s g k' s' g' _ (dOrd_zero k s g k' s' g')
  rw [dOrd_neg, hx] at c4
  rw [hx] at c1 hq
  rw [hy] at c2
  rw [hz] at c3
  have C1 := Lib.hid c1
  have C2 := Lib.hid c2
  have C3 := Lib.hid c3
  have C4 := Lib.hid c4
  clear c1 c2 c3 c4 hx hy hz
  rcases h7 with rfl | ⟨rfl, rfl⟩ | ⟨rfl, rfl, rfl⟩ | ⟨rfl, rfl, rfl⟩ | ⟨rfl, rfl⟩ | ⟨rfl, rfl, rfl⟩ | ⟨rfl, rfl, rfl⟩
  all_goals
    go_enter Tryd.func8, Tryd.ntmps8
    go_wp2_with fail
    have hE1 : EnvP ((((w.alloc (.cells #[.int .i64 k, .int .i64 s, .int .u32 g] 24)).alloc (.cells #[.int .i64 k', .int .i64 s', .int .u32 g'] 24)).alloc (.cells #[.int .i64 k'', .int .i64 s'', .int .u32 g''] 24)).drew) := hE.on (by go_grown)
    have hB1 : Below w.heap.size w ((((w.alloc (.cells #[.int .i64 k, .int .i64 s, .int .u32 g] 24)).alloc (.cells #[.int .i64 k', .int .i64 s', .int .u32 g'] 24)).alloc (.cells #[.int .i64 k'', .int .i64 s'', .int .u32 g''] 24)).drew) := by go_grown
    refine wp_region_held_drew (S := fun W' => W'.cell? ⟨w.heap.size, 0, none⟩ = some (.int .i64 k) ∧ W'.cell? ⟨w.heap.size, 1, none⟩ = some (.int .i64 s) ∧ W'.cell? ⟨w.heap.size, 2, none⟩ = some (.int .u32 g) ∧ W'.cell? ⟨w.heap.size + 1, 0, none⟩ = some (.int .i64 k') ∧ W'.cell? ⟨w.heap.size + 1, 1, none⟩ = some (.int .i64 s') ∧ W'.cell? ⟨w.heap.size + 1, 2, none⟩ = some (.int .u32 g') ∧ W'.cell? ⟨w.heap.size + 1 + 1, 0, none⟩ = some (.int .i64 k'') ∧ W'.cell? ⟨w.heap.size + 1 + 1, 1, none⟩ = some (.int .i64 s'') ∧ W'.cell? ⟨w.heap.size + 1 + 1, 2, none⟩ = some (.int .u32 g'')) (by kernel_rfl) ?_ (fun hHeld => ?_)
    · (refine ⟨?_, ?_, ?_, ?_, ?_, ?_, ?_, ?_, ?_⟩ <;> first | (go_simp; done) | (simp [cell_third]; done))
    refine' wpAnyH_take (i := 0) (oi := _) (v := _) ?_ (by kernel_rfl) (by kernel_rfl) (by kernel_rfl) ?_ (Or.inl ⟨?_, ?_⟩) (by assumption) ?_
    rotate_left 2
    · (simp only [List.getElem?_toArray, List.getElem?_cons_succ, List.getElem?_cons_zero]; rfl)
    · exact fun _ _ _ h => h
    · rfl
    · (intro W hSW; (try dsimp only at hSW); go_split_ands; first | (go_simp; done) | (go_simp; with_reducible rfl))
    try simp only [Act.put, List.setIfInBounds_toArray, List.set_cons_zero, List.set_cons_succ]
    refine' wpAnyH_take (i := 1) (oi := _) (v := _) ?_ (by kernel_rfl) (by kernel_rfl) (by kernel_rfl) ?_ (Or.inl ⟨?_, ?_⟩) (by assumption) ?_
    rotate_left 2
    · (simp only [List.getElem?_toArray, List.getElem?_cons_succ, List.getElem?_cons_zero]; rfl)
    · exact fun _ _ _ h => h
    · rfl
    · (intro W hSW; (try dsimp only at hSW); go_split_ands; first | (go_simp; done) | (go_simp; with_reducible rfl))
    try simp only [Act.put, List.setIfInBounds_toArray, List.set_cons_zero, List.set_cons_succ]
    refine' wpAnyH_take (i := 3) (oi := _) (v := _) ?_ (by kernel_rfl) (by kernel_rfl) (by kernel_rfl) ?_ (Or.inl ⟨?_, ?_⟩) (by assumption) ?_
    rotate_left 2
    · (simp only [List.getElem?_toArray, List.getElem?_cons_succ, List.getElem?_cons_zero]; rfl)
    · exact fun _ _ _ h => h
    · rfl
    · (intro W hSW; (try dsimp only at hSW); go_split_ands; first | (go_simp; done) | (go_simp; with_reducible rfl))
    try simp only [Act.put, List.setIfInBounds_toArray, List.set_cons_zero, List.set_cons_succ]
    refine' wpAnyH_take (i := 4) (oi := _) (v := _) ?_ (by kernel_rfl) (by kernel_rfl) (by kernel_rfl) ?_ (Or.inl ⟨?_, ?_⟩) (by assumption) ?_
    rotate_left 2
    · (simp only [List.getElem?_toArray, List.getElem?_cons_succ, List.getElem?_cons_zero]; rfl)
    · exact fun _ _ _ h => h
    · rfl
    · (intro W hSW; (try dsimp only at hSW); go_split_ands; first | (go_simp; done) | (go_simp; with_reducible rfl))
    try simp only [Act.put, List.setIfInBounds_toArray, List.set_cons_zero, List.set_cons_succ]
    refine' wpAnyH_take (i := 6) (oi := _) (v := _) ?_ (by kernel_rfl) (by kernel_rfl) (by kernel_rfl) ?_ (Or.inl ⟨?_, ?_⟩) (by assumption) ?_
    rotate_left 2
    · (simp only [List.getElem?_toArray, List.getElem?_cons_succ, List.getElem?_cons_zero]; rfl)
    · exact fun _ _ _ h => h
    · rfl
    · (intro W hSW; (try dsimp only at hSW); go_split_ands; first | (go_simp; done) | (go_simp; with_reducible rfl))
    try simp only [Act.put, List.setIfInBounds_toArray, List.set_cons_zero, List.set_cons_succ]
    refine' wpAnyH_take (i := 7) (oi := _) (v := _) ?_ (by kernel_rfl) (by kernel_rfl) (by kernel_rfl) ?_ (Or.inl ⟨?_, ?_⟩) (by assumption) ?_
    rotate_left 2
    · (simp only [List.getElem?_toArray, List.getElem?_cons_succ, List.getElem?_cons_zero]; rfl)
    · exact fun _ _ _ h => h
    · rfl
    · (intro W hSW; (try dsimp only at hSW); go_split_ands; first | (go_simp; done) | (go_simp; with_reducible rfl))
    try simp only [Act.put, List.setIfInBounds_toArray, List.set_cons_zero, List.set_cons_succ]
    refine wpAnyH_ready (rs := [2]) (by kernel_rfl) (by simp) ?_
    refine' AllReadyH.cons (o := _) ?_ (fun K hK => ?_) AllReadyH.nil
    rotate_left 1
    · (simp only [List.getElem?_toArray, List.getElem?_cons_succ, List.getElem?_cons_zero]; rfl)
    go_simp
    refine (C1.out _).mono ?_
    rintro e w1 ⟨rfl, hb1⟩
    have hE2 := hE1.on hb1
    have hB2 := chain hB1 hb1
    have z1 : w.heap.size + 1 + 1 < w1.heap.size := by have := hb1.size; simp at this; omega
    go_simp
    refine hK.out _ _ ?_ (fun hHeld => ?_)
    · (go_split_ands; refine ⟨?_, ?_, ?_, ?_, ?_, ?_, ?_, ?_, ?_⟩ <;> exact keep_cell hb1 (by first | (simp; done) | (simp; omega)) (by assumption))
    clear hK K hE1 hB1 hb1
    refine wpAnyH_ready (rs := [5]) (by kernel_rfl) (by simp) ?_
    refine' AllReadyH.cons (o := _) ?_ (fun K hK => ?_) AllReadyH.nil
    rotate_left 1
    · (simp only [List.getElem?_toArray, List.getElem?_cons_succ, List.getElem?_cons_zero]; rfl)
    go_simp
    refine (C2.out _).mono ?_
    rintro e w2 ⟨rfl, hb2⟩
    have hE3 := hE2.on hb2
    have hB3 := chain hB2 hb2
    have z2 : w.heap.size + 1 + 1 < w2.heap.size := keep_lt hb2 z1
    go_simp
    refine hK.out _ _ ?_ (fun hHeld => ?_)
    · (go_split_ands; refine ⟨?_, ?_, ?_, ?_, ?_, ?_, ?_, ?_, ?_⟩ <;> exact keep_cell hb2 (by omega) (by assumption))
    clear hK K hE2 hB2 hb2 z1
    refine wpAnyH_ready (rs := [8]) (by kernel_rfl) (by simp) ?_
    refine' AllReadyH.cons (o := _) ?_ (fun K hK => ?_) AllReadyH.nil
    rotate_left 1
    · (simp only [List.getElem?_toArray, List.getElem?_cons_succ, List.getElem?_cons_zero]; rfl)
    go_simp
    refine (C3.out _).mono ?_
    rintro e w3 ⟨rfl, hb3⟩
    have hE4 := hE3.on hb3
    have hB4 := chain hB3 hb3
    have z3 : w.heap.size + 1 + 1 < w3.heap.size := keep_lt hb3 z2
    go_simp
    refine hK.out _ _ ?_ (fun hHeld => ?_)
    · (go_split_ands; refine ⟨?_, ?_, ?_, ?_, ?_, ?_, ?_, ?_, ?_⟩ <;> exact keep_cell hb3 (by omega) (by assumption))
    clear hK K hE3 hB3 hb3 z2
    refine' wpAnyH_take (i := 9) (oi := _) (v := _) ?_ (by kernel_rfl) (by kernel_rfl) (by kernel_rfl) ?_ (Or.inl ⟨?_, ?_⟩) (by assumption) ?_
    rotate_left 2
    · (simp only [List.getElem?_toArray, List.getElem?_cons_succ, List.getElem?_cons_zero]; rfl)
    · exact fun _ _ _ h => h
    · rfl
    · (intro W hSW; (try dsimp only at hSW); go_split_ands; first | (go_simp; done) | (go_simp; with_reducible rfl))
    try simp only [Act.put, List.setIfInBounds_toArray, List.set_cons_zero, List.set_cons_succ]
    refine' wpAnyH_take (i := 10) (oi := _) (v := _) ?_ (by kernel_rfl) (by kernel_rfl) (by kernel_rfl) ?_ (Or.inl ⟨?_, ?_⟩) (by assumption) ?_
    rotate_left 2
    · (simp only [List.getElem?_toArray, List.getElem?_cons_succ, List.getElem?_cons_zero]; rfl)
    · exact fun _ _ _ h => h
    · rfl
    · (intro W hSW; (try dsimp only at hSW); go_split_ands; first | (go_simp; done) | (go_simp; with_reducible rfl))
    try simp only [Act.put, List.setIfInBounds_toArray, List.set_cons_zero, List.set_cons_succ]
    refine' wpAnyH_take (i := 11) (oi := _) (v := _) ?_ (by kernel_rfl) (by kernel_rfl) (by kernel_rfl) ?_ (Or.inl ⟨?_, ?_⟩) (by assumption) ?_
    rotate_left 2
    · (simp only [List.getElem?_toArray, List.getElem?_cons_succ, List.getElem?_cons_zero]; rfl)
    · exact fun _ _ _ h => h
    · rfl
    · (intro W hSW; (try dsimp only at hSW); go_split_ands; first | (go_simp; done) | (go_simp; with_reducible rfl))
    try simp only [Act.put, List.setIfInBounds_toArray, List.set_cons_zero, List.set_cons_succ]
    go_split_ands
    refine wpAnyH_done (by kernel_rfl) ?_ _
    go_wp2_with fail
    refine (C4.out _).mono ?_
    rintro e w4 ⟨rfl, hb4⟩
    have hE5 := hE4.on hb4
    have hB5 := chain hB4 hb4
    obtain ⟨k4, f4⟩ := bcell hb4
    have z4 : w.heap.size < w3.heap.size := by omega
    have z5 : w.heap.size + 1 < w3.heap.size := by omega
    clear hE4 hB4 hb4
    go_wp2_with fail
    refine (works _ hE5).mono ?_
    rintro e w5 ⟨rfl, hb5⟩
    go_wp2_with fail
    go_returns
    exact ⟨rfl, chain hB5 hb5⟩
theorem sorted_walk (k s g k' s' g' k'' s'' g'' : Int) (w : World) (hE : EnvP w) : Ret 8 #[dV k s g, dV k' s' g', dV k'' s'' g''] w (.bool true) :=
  sorted_core k s g k' s' g' k'' s'' g'' _ _ _ w hE rfl rfl rfl (dOrd_three k s g k' s' g' k'' s'' g'')
end Go.Proofs.YtjonbmocamjhaaaDoor
