/- The references of chapter 05: Check, CheckOuter, letter, Text, OuterText, Pack, Unpack. -/
import Derived.Test.YtjonbmocamjhaaaDoorDescr7
import Derived.Test.YtjonbmocamjhaaaDoorRefGens
namespace Go.Proofs.YtjonbmocamjhaaaDoor
open Go.RowKit
open Go.Lib (decDigits)

theorem letter_c (k : Int) (w : World) (h1 : 1 ≤ k) (h2 : k ≤ 3) : Calls Tryd.prog 37 #[.int .i64 k] w fun e w' => e = .returned (.string ⟨#[letterB k]⟩) ∧ w' = w := by
  rcases (by omega : k = 1 ∨ k = 2 ∨ k = 3) with rfl | rfl | rfl
  all_goals
    go_enter Tryd.func37, Tryd.ntmps37
    go_wp2
    go_returns
    exact ⟨rfl, rfl⟩
set_option maxHeartbeats 4000000 in
theorem rd_check (k s g : Int) (w : World) (g0 : 0 ≤ g) : Ret 18 #[dV k s g] w (.int .i64 (dErr 256 k s g)) := by
  cases h : dOk 256 k s g with
  | true =>
    rw [dErr_ok h]
    rw [dOk_iff] at h
    obtain ⟨k1, k3, s0, s1, hg⟩ := h
    have e1 : (g == 0) = false := beq_eq_false_iff_ne.2 hg
    clear hg
    go_enter Tryd.func18, Tryd.ntmps18
    go_wp2
    go_returns
    exact ⟨rfl, by go_grown⟩
  | false =>
    rw [dErr_bad h]
    have h' := dOk_not h
    have h2 : k < 1 ∨ (1 ≤ k ∧ (3 < k ∨ (k ≤ 3 ∧ (s < 0 ∨ (0 ≤ s ∧ (256 ≤ s ∨ (s < 256 ∧ g = 0))))))) := by omega
    clear h h' g0
    rcases h2 with h | ⟨h1, h | ⟨h2, h | ⟨h3, h | ⟨h4, rfl⟩⟩⟩⟩
    all_goals
      go_enter Tryd.func18, Tryd.ntmps18
      go_wp2
      go_returns
      exact ⟨rfl, by go_grown⟩
set_option linter.unusedSimpArgs false in
set_option maxHeartbeats 4000000 in
set_option maxRecDepth 20000 in
theorem rd_text_ok (k s g : Int) (w : World) (h : dOk 256 k s g = true) (g0 : 0 ≤ g) (g1 : g ≤ 4294967295) : Ret 21 #[dV k s g] w (.tuple #[.string (dText 46 k s g), .int .i64 0]) := by
  have hk := fun w => rd_check k s g w g0
  rw [dErr_ok h] at hk
  rw [dOk_iff] at h
  obtain ⟨k1, k3, s0, s1, _⟩ := h
  have hl := fun w => letter_c k w k1 k3
  have hz1 := digits_size_le s.toNat (by omega)
  have hz2 := digits_size_le g.toNat (by omega)
  have hca := cat_text 46 k s g
  obtain ⟨t1, h1⟩ : ∃ t1, ByteArray.mk #[letterB k] ++ digits s.toNat = t1 := ⟨_, rfl⟩
  obtain ⟨t2, h2⟩ : ∃ t2, t1 ++ ⟨#[46]⟩ = t2 := ⟨_, rfl⟩
  rw [h1, h2] at hca
  have e1 : t1.size ≤ 21 := by rw [← h1, ByteArray.size_append]; simp only [show (ByteArray.mk #[letterB k]).size = 1 from rfl]; omega
  have e2 : t2.size ≤ 22 := by rw [← h2, ByteArray.size_append]; simp only [show (ByteArray.mk #[46]).size = 1 from rfl]; omega
  have r1 := add_run h1 (by simp only [show (ByteArray.mk #[letterB k]).size = 1 from rfl]; omega)
  have r2 := add_run h2 (by simp only [show (ByteArray.mk #[46]).size = 1 from rfl]; omega)
  have r3 := add_run hca (by omega)
  have c1 : IntKind.u64.wrap s = s := by rw [IntKind.wrap_u64]; omega
  have c2 : IntKind.u64.wrap g = g := by rw [IntKind.wrap_u64]; omega
  have HK := Lib.hid hk
  have HL := Lib.hid hl
  generalize dText 46 k s g = T at *
  clear e1 e2 hz1 hz2 h1 h2 hca hk hl
  go_enter Tryd.func21, Tryd.ntmps21
  go_wp2_with fail
  refine (HK.out _).mono ?_
  rintro e w1 ⟨rfl, hb1⟩
  obtain ⟨q1, f1⟩ := bcell hb1
  have b1 := under (w := w) hb1
  have z1 : w.heap.size < w1.heap.size := by have := hb1.size; simp at this; omega
  have p0 : w1.cell? ⟨w.heap.size, 0, none⟩ = some (.int .i64 k) := by rw [q1 _ _ (by simp)]; simp
  have p1 : w1.cell? ⟨w.heap.size, 1, none⟩ = some (.int .i64 s) := by rw [q1 _ _ (by simp)]; simp
  have p2 : w1.cell? ⟨w.heap.size, 2, none⟩ = some (.int .u32 g) := by rw [q1 _ _ (by simp)]; simp
  clear q1 f1 hb1
  go_wp2_with fail
  refine wp_region_held_drew (S := fun W' => W'.cell? ⟨w.heap.size, 0, none⟩ = some (.int .i64 k) ∧ W'.cell? ⟨w.heap.size, 1, none⟩ = some (.int .i64 s) ∧ W'.cell? ⟨w.heap.size, 2, none⟩ = some (.int .u32 g)) (by kernel_rfl) ?_ (fun hHeld => ?_)
  · go_keep
  refine' wpAnyH_take (i := 0) (oi := _) (v := _) ?_ (by kernel_rfl) (by kernel_rfl) (by kernel_rfl) ?_ (Or.inl ⟨?_, ?_⟩) (by assumption) ?_
  rotate_left 2
  · (simp only [List.getElem?_toArray, List.getElem?_cons_succ, List.getElem?_cons_zero]; rfl)
  · exact fun _ _ _ h => h
  · rfl
  · (intro W hSW; (try dsimp only at hSW); go_split_ands; first | (go_simp; done) | (go_simp; with_reducible rfl))
  try simp only [Act.put, List.setIfInBounds_toArray, List.set_cons_zero, List.set_cons_succ]
  refine' wpAnyH_take (i := 1) (oi := _) (v := _) ?_ (by kernel_rfl) (by kernel_rfl) (by kernel_rfl) ?_ (Or.inl ⟨?_, ?_⟩) (by assumption) ?_
  rotate_left 2
  · (simp only [List.getElem?_toArray, List.getElem?_cons_succ, List.getElem?_cons_zero]; rfl)
  · exact fun _ _ _ h => h
  · rfl
  · (intro W hSW; (try dsimp only at hSW); go_split_ands; first | (go_simp; done) | (go_simp; with_reducible rfl))
  try simp only [Act.put, List.setIfInBounds_toArray, List.set_cons_zero, List.set_cons_succ]
  refine' wpAnyH_take (i := 3) (oi := _) (v := _) ?_ (by kernel_rfl) (by kernel_rfl) (by kernel_rfl) ?_ (Or.inl ⟨?_, ?_⟩) (by assumption) ?_
  rotate_left 2
  · (simp only [List.getElem?_toArray, List.getElem?_cons_succ, List.getElem?_cons_zero]; rfl)
  · exact fun _ _ _ h => h
  · rfl
  · (intro W hSW; (try dsimp only at hSW); go_split_ands; first | (go_simp; done) | (go_simp; with_reducible rfl))
  try simp only [Act.put, List.setIfInBounds_toArray, List.set_cons_zero, List.set_cons_succ]
  refine' wpAnyH_take (i := 4) (oi := _) (v := _) ?_ (by kernel_rfl) (by kernel_rfl) (by kernel_rfl) ?_ (Or.inl ⟨?_, ?_⟩) (by assumption) ?_
  rotate_left 2
  · (simp only [List.getElem?_toArray, List.getElem?_cons_succ, List.getElem?_cons_zero]; rfl)
  · exact fun _ _ _ h => h
  · rfl
  · (intro W hSW; (try dsimp only at hSW); go_split_ands; first | (go_simp; done) | (go_simp; with_reducible rfl))
  try simp only [Act.put, List.setIfInBounds_toArray, List.set_cons_zero, List.set_cons_succ]
  refine' wpAnyH_take (i := 5) (oi := _) (v := _) ?_ (by kernel_rfl) (by kernel_rfl) (by kernel_rfl) ?_ (Or.inl ⟨?_, ?_⟩) (by assumption) ?_
  rotate_left 2
  · (simp only [List.getElem?_toArray, List.getElem?_cons_succ, List.getElem?_cons_zero]; rfl)
  · exact fun _ _ _ h => h
  · rfl
  · (intro W hSW; (try dsimp only at hSW); go_split_ands; first | (go_simp; done) | (go_simp; with_reducible rfl))
  try simp only [Act.put, List.setIfInBounds_toArray, List.set_cons_zero, List.set_cons_succ]
  refine' wpAnyH_take (i := 9) (oi := _) (v := _) ?_ (by kernel_rfl) (by kernel_rfl) (by kernel_rfl) ?_ (Or.inl ⟨?_, ?_⟩) (by assumption) ?_
  rotate_left 2
  · (simp only [List.getElem?_toArray, List.getElem?_cons_succ, List.getElem?_cons_zero]; rfl)
  · exact fun _ _ _ h => h
  · rfl
  · (intro W hSW; (try dsimp only at hSW); go_split_ands; first | (go_simp; done) | (go_simp; with_reducible rfl))
  try simp only [Act.put, List.setIfInBounds_toArray, List.set_cons_zero, List.set_cons_succ]
  refine' wpAnyH_take (i := 10) (oi := _) (v := _) ?_ (by kernel_rfl) (by kernel_rfl) (by kernel_rfl) ?_ (Or.inl ⟨?_, ?_⟩) (by assumption) ?_
  rotate_left 2
  · (simp only [List.getElem?_toArray, List.getElem?_cons_succ, List.getElem?_cons_zero]; rfl)
  · exact fun _ _ _ h => h
  · rfl
  · (intro W hSW; (try dsimp only at hSW); go_split_ands; first | (go_simp; done) | (go_simp; with_reducible rfl))
  try simp only [Act.put, List.setIfInBounds_toArray, List.set_cons_zero, List.set_cons_succ]
  refine' wpAnyH_take (i := 11) (oi := _) (v := _) ?_ (by kernel_rfl) (by kernel_rfl) (by kernel_rfl) ?_ (Or.inl ⟨?_, ?_⟩) (by assumption) ?_
  rotate_left 2
  · (simp only [List.getElem?_toArray, List.getElem?_cons_succ, List.getElem?_cons_zero]; rfl)
  · exact fun _ _ _ h => h
  · rfl
  · (intro W hSW; (try dsimp only at hSW); go_split_ands; first | (go_simp; done) | (go_simp; with_reducible rfl))
  try simp only [Act.put, List.setIfInBounds_toArray, List.set_cons_zero, List.set_cons_succ]
  refine wpAnyH_ready (rs := [2]) (by kernel_rfl) (by simp) ?_
  refine' AllReadyH.cons (o := _) ?_ (fun K hK => ?_) AllReadyH.nil
  rotate_left 1
  · (simp only [List.getElem?_toArray, List.getElem?_cons_succ, List.getElem?_cons_zero]; rfl)
  go_simp
  refine (HL.out _).mono ?_
  rintro e w2 ⟨rfl, rfl⟩
  go_simp
  refine hK.out _ _ hHeld (fun hHeld => ?_)
  clear hK K
  refine wpAnyH_ready (rs := [6]) (by kernel_rfl) (by simp) ?_
  refine' AllReadyH.cons (o := _) ?_ (fun K hK => ?_) AllReadyH.nil
  rotate_left 1
  · (simp only [List.getElem?_toArray, List.getElem?_cons_succ, List.getElem?_cons_zero]; rfl)
  go_simp
  refine (ref_Digits _ _ (by omega) (by omega)).mono ?_
  rintro e w2 ⟨rfl, hb2⟩
  have b2 := b1.trans ((off_drew hb2).mono b1.size)
  have z2 : w.heap.size < w2.heap.size := Nat.lt_of_lt_of_le z1 hb2.size
  go_simp
  refine hK.out _ _ ?_ (fun hHeld => ?_)
  · (go_split_ands; refine ⟨?_, ?_, ?_⟩ <;> exact keep_cell hb2 z1 (by assumption))
  clear hK K
  refine' wpAnyH_take (i := 7) (oi := _) (v := _) ?_ (by kernel_rfl) (by kernel_rfl) (by kernel_rfl) ?_ (Or.inl ⟨?_, ?_⟩) (by assumption) ?_
  rotate_left 2
  · (simp only [List.getElem?_toArray, List.getElem?_cons_succ, List.getElem?_cons_zero]; rfl)
  · exact fun _ _ _ h => h
  · rfl
  · (intro W hSW; (try dsimp only at hSW); go_split_ands; first | (go_simp; done) | (go_simp; with_reducible rfl))
  try simp only [Act.put, List.setIfInBounds_toArray, List.set_cons_zero, List.set_cons_succ]
  refine' wpAnyH_take (i := 8) (oi := _) (v := _) ?_ (by kernel_rfl) (by kernel_rfl) (by kernel_rfl) ?_ (Or.inl ⟨?_, ?_⟩) (by assumption) ?_
  rotate_left 2
  · (simp only [List.getElem?_toArray, List.getElem?_cons_succ, List.getElem?_cons_zero]; rfl)
  · exact fun _ _ _ h => h
  · rfl
  · (intro W hSW; (try dsimp only at hSW); go_split_ands; first | (go_simp; done) | (go_simp; with_reducible rfl))
  try simp only [Act.put, List.setIfInBounds_toArray, List.set_cons_zero, List.set_cons_succ]
  refine wpAnyH_ready (rs := [12]) (by kernel_rfl) (by simp) ?_
  refine' AllReadyH.cons (o := _) ?_ (fun K hK => ?_) AllReadyH.nil
  rotate_left 1
  · (simp only [List.getElem?_toArray, List.getElem?_cons_succ, List.getElem?_cons_zero]; rfl)
  go_simp
  refine (ref_Digits _ _ (by omega) (by omega)).mono ?_
  rintro e w3 ⟨rfl, hb3⟩
  go_simp
  refine hK.out _ _ ?_ (fun hHeld => ?_)
  · (go_split_ands; refine ⟨?_, ?_, ?_⟩ <;> exact keep_cell hb3 z2 (by assumption))
  clear hK K
  refine' wpAnyH_take (i := 13) (oi := _) (v := _) ?_ (by kernel_rfl) (by kernel_rfl) (by kernel_rfl) ?_ (Or.inl ⟨?_, ?_⟩) (by assumption) ?_
  rotate_left 2
  · (simp only [List.getElem?_toArray, List.getElem?_cons_succ, List.getElem?_cons_zero]; rfl)
  · exact fun _ _ _ h => h
  · rfl
  · (intro W hSW; (try dsimp only at hSW); go_split_ands; first | (go_simp; done) | (go_simp; with_reducible rfl))
  try simp only [Act.put, List.setIfInBounds_toArray, List.set_cons_zero, List.set_cons_succ]
  refine' wpAnyH_take (i := 14) (oi := _) (v := _) ?_ (by kernel_rfl) (by kernel_rfl) (by kernel_rfl) ?_ (Or.inl ⟨?_, ?_⟩) (by assumption) ?_
  rotate_left 2
  · (simp only [List.getElem?_toArray, List.getElem?_cons_succ, List.getElem?_cons_zero]; rfl)
  · exact fun _ _ _ h => h
  · rfl
  · (intro W hSW; (try dsimp only at hSW); go_split_ands; first | (go_simp; done) | (go_simp; with_reducible rfl))
  try simp only [Act.put, List.setIfInBounds_toArray, List.set_cons_zero, List.set_cons_succ]
  refine' wpAnyH_take (i := 15) (oi := _) (v := _) ?_ (by kernel_rfl) (by kernel_rfl) (by kernel_rfl) ?_ (Or.inl ⟨?_, ?_⟩) (by assumption) ?_
  rotate_left 2
  · (simp only [List.getElem?_toArray, List.getElem?_cons_succ, List.getElem?_cons_zero]; rfl)
  · exact fun _ _ _ h => h
  · rfl
  · (intro W hSW; (try dsimp only at hSW); go_split_ands; first | (go_simp; done) | (go_simp; with_reducible rfl))
  try simp only [Act.put, List.setIfInBounds_toArray, List.set_cons_zero, List.set_cons_succ]
  refine wpAnyH_done (by kernel_rfl) ?_ _
  go_wp2_with fail
  go_returns
  exact ⟨rfl, chain b2 hb3⟩
theorem rd_text_bad (k s g : Int) (w : World) (h : dOk 256 k s g = false) (g0 : 0 ≤ g) : Ret 21 #[dV k s g] w (.tuple #[.string ⟨#[]⟩, .int .i64 2]) := by
  have hk := fun w => rd_check k s g w g0
  rw [dErr_bad h] at hk
  have HK := Lib.hid hk
  clear hk h
  go_enter Tryd.func21, Tryd.ntmps21
  go_wp2_with fail
  refine (HK.out _).mono ?_
  rintro e w1 ⟨rfl, hb1⟩
  go_wp2_with fail
  go_returns
  exact ⟨rfl, under hb1⟩
set_option maxHeartbeats 4000000 in
theorem ro_check (k s g : Int) (w : World) (g0 : 0 ≤ g) : Ret 29 #[dV k s g] w (.int .i64 (dErr 64 k s g)) := by
  cases h : dOk 64 k s g with
  | true =>
    rw [dErr_ok h]
    rw [dOk_iff] at h
    obtain ⟨k1, k3, s0, s1, hg⟩ := h
    have e1 : (g == 0) = false := beq_eq_false_iff_ne.2 hg
    clear hg
    go_enter Tryd.func29, Tryd.ntmps29
    go_wp2
    go_returns
    exact ⟨rfl, by go_grown⟩
  | false =>
    rw [dErr_bad h]
    have h' := dOk_not h
    have h2 : k < 1 ∨ (1 ≤ k ∧ (3 < k ∨ (k ≤ 3 ∧ (s < 0 ∨ (0 ≤ s ∧ (64 ≤ s ∨ (s < 64 ∧ g = 0))))))) := by omega
    clear h h' g0
    rcases h2 with h | ⟨h1, h | ⟨h2, h | ⟨h3, h | ⟨h4, rfl⟩⟩⟩⟩
    all_goals
      go_enter Tryd.func29, Tryd.ntmps29
      go_wp2
      go_returns
      exact ⟨rfl, by go_grown⟩
set_option linter.unusedSimpArgs false in
set_option maxHeartbeats 4000000 in
set_option maxRecDepth 20000 in
theorem ro_text_ok (k s g : Int) (w : World) (h : dOk 64 k s g = true) (g0 : 0 ≤ g) (g1 : g ≤ 4294967295) : Ret 25 #[dV k s g] w (.tuple #[.string (dText 58 k s g), .int .i64 0]) := by
  have hk := fun w => ro_check k s g w g0
  rw [dErr_ok h] at hk
  rw [dOk_iff] at h
  obtain ⟨k1, k3, s0, s1, _⟩ := h
  have hl := fun w => letter_c k w k1 k3
  have hz1 := digits_size_le s.toNat (by omega)
  have hz2 := digits_size_le g.toNat (by omega)
  have hca := cat_text 58 k s g
  obtain ⟨t1, h1⟩ : ∃ t1, ByteArray.mk #[letterB k] ++ digits s.toNat = t1 := ⟨_, rfl⟩
  obtain ⟨t2, h2⟩ : ∃ t2, t1 ++ ⟨#[58]⟩ = t2 := ⟨_, rfl⟩
  rw [h1, h2] at hca
  have e1 : t1.size ≤ 21 := by rw [← h1, ByteArray.size_append]; simp only [show (ByteArray.mk #[letterB k]).size = 1 from rfl]; omega
  have e2 : t2.size ≤ 22 := by rw [← h2, ByteArray.size_append]; simp only [show (ByteArray.mk #[58]).size = 1 from rfl]; omega
  have r1 := add_run h1 (by simp only [show (ByteArray.mk #[letterB k]).size = 1 from rfl]; omega)
  have r2 := add_run h2 (by simp only [show (ByteArray.mk #[58]).size = 1 from rfl]; omega)
  have r3 := add_run hca (by omega)
  have c1 : IntKind.u64.wrap s = s := by rw [IntKind.wrap_u64]; omega
  have c2 : IntKind.u64.wrap g = g := by rw [IntKind.wrap_u64]; omega
  have HK := Lib.hid hk
  have HL := Lib.hid hl
  generalize dText 58 k s g = T at *
  clear e1 e2 hz1 hz2 h1 h2 hca hk hl
  go_enter Tryd.func25, Tryd.ntmps25
  go_wp2_with fail
  refine (HK.out _).mono ?_
  rintro e w1 ⟨rfl, hb1⟩
  obtain ⟨q1, f1⟩ := bcell hb1
  have b1 := under (w := w) hb1
  have z1 : w.heap.size < w1.heap.size := by have := hb1.size; simp at this; omega
  have p0 : w1.cell? ⟨w.heap.size, 0, none⟩ = some (.int .i64 k) := by rw [q1 _ _ (by simp)]; simp
  have p1 : w1.cell? ⟨w.heap.size, 1, none⟩ = some (.int .i64 s) := by rw [q1 _ _ (by simp)]; simp
  have p2 : w1.cell? ⟨w.heap.size, 2, none⟩ = some (.int .u32 g) := by rw [q1 _ _ (by simp)]; simp
  clear q1 f1 hb1
  go_wp2_with fail
  refine wp_region_held_drew (S := fun W' => W'.cell? ⟨w.heap.size, 0, none⟩ = some (.int .i64 k) ∧ W'.cell? ⟨w.heap.size, 1, none⟩ = some (.int .i64 s) ∧ W'.cell? ⟨w.heap.size, 2, none⟩ = some (.int .u32 g)) (by kernel_rfl) ?_ (fun hHeld => ?_)
  · go_keep
  refine' wpAnyH_take (i := 0) (oi := _) (v := _) ?_ (by kernel_rfl) (by kernel_rfl) (by kernel_rfl) ?_ (Or.inl ⟨?_, ?_⟩) (by assumption) ?_
  rotate_left 2
  · (simp only [List.getElem?_toArray, List.getElem?_cons_succ, List.getElem?_cons_zero]; rfl)
  · exact fun _ _ _ h => h
  · rfl
  · (intro W hSW; (try dsimp only at hSW); go_split_ands; first | (go_simp; done) | (go_simp; with_reducible rfl))
  try simp only [Act.put, List.setIfInBounds_toArray, List.set_cons_zero, List.set_cons_succ]
  refine' wpAnyH_take (i := 1) (oi := _) (v := _) ?_ (by kernel_rfl) (by kernel_rfl) (by kernel_rfl) ?_ (Or.inl ⟨?_, ?_⟩) (by assumption) ?_
  rotate_left 2
  · (simp only [List.getElem?_toArray, List.getElem?_cons_succ, List.getElem?_cons_zero]; rfl)
  · exact fun _ _ _ h => h
  · rfl
  · (intro W hSW; (try dsimp only at hSW); go_split_ands; first | (go_simp; done) | (go_simp; with_reducible rfl))
  try simp only [Act.put, List.setIfInBounds_toArray, List.set_cons_zero, List.set_cons_succ]
  refine' wpAnyH_take (i := 3) (oi := _) (v := _) ?_ (by kernel_rfl) (by kernel_rfl) (by kernel_rfl) ?_ (Or.inl ⟨?_, ?_⟩) (by assumption) ?_
  rotate_left 2
  · (simp only [List.getElem?_toArray, List.getElem?_cons_succ, List.getElem?_cons_zero]; rfl)
  · exact fun _ _ _ h => h
  · rfl
  · (intro W hSW; (try dsimp only at hSW); go_split_ands; first | (go_simp; done) | (go_simp; with_reducible rfl))
  try simp only [Act.put, List.setIfInBounds_toArray, List.set_cons_zero, List.set_cons_succ]
  refine' wpAnyH_take (i := 4) (oi := _) (v := _) ?_ (by kernel_rfl) (by kernel_rfl) (by kernel_rfl) ?_ (Or.inl ⟨?_, ?_⟩) (by assumption) ?_
  rotate_left 2
  · (simp only [List.getElem?_toArray, List.getElem?_cons_succ, List.getElem?_cons_zero]; rfl)
  · exact fun _ _ _ h => h
  · rfl
  · (intro W hSW; (try dsimp only at hSW); go_split_ands; first | (go_simp; done) | (go_simp; with_reducible rfl))
  try simp only [Act.put, List.setIfInBounds_toArray, List.set_cons_zero, List.set_cons_succ]
  refine' wpAnyH_take (i := 5) (oi := _) (v := _) ?_ (by kernel_rfl) (by kernel_rfl) (by kernel_rfl) ?_ (Or.inl ⟨?_, ?_⟩) (by assumption) ?_
  rotate_left 2
  · (simp only [List.getElem?_toArray, List.getElem?_cons_succ, List.getElem?_cons_zero]; rfl)
  · exact fun _ _ _ h => h
  · rfl
  · (intro W hSW; (try dsimp only at hSW); go_split_ands; first | (go_simp; done) | (go_simp; with_reducible rfl))
  try simp only [Act.put, List.setIfInBounds_toArray, List.set_cons_zero, List.set_cons_succ]
  refine' wpAnyH_take (i := 9) (oi := _) (v := _) ?_ (by kernel_rfl) (by kernel_rfl) (by kernel_rfl) ?_ (Or.inl ⟨?_, ?_⟩) (by assumption) ?_
  rotate_left 2
  · (simp only [List.getElem?_toArray, List.getElem?_cons_succ, List.getElem?_cons_zero]; rfl)
  · exact fun _ _ _ h => h
  · rfl
  · (intro W hSW; (try dsimp only at hSW); go_split_ands; first | (go_simp; done) | (go_simp; with_reducible rfl))
  try simp only [Act.put, List.setIfInBounds_toArray, List.set_cons_zero, List.set_cons_succ]
  refine' wpAnyH_take (i := 10) (oi := _) (v := _) ?_ (by kernel_rfl) (by kernel_rfl) (by kernel_rfl) ?_ (Or.inl ⟨?_, ?_⟩) (by assumption) ?_
  rotate_left 2
  · (simp only [List.getElem?_toArray, List.getElem?_cons_succ, List.getElem?_cons_zero]; rfl)
  · exact fun _ _ _ h => h
  · rfl
  · (intro W hSW; (try dsimp only at hSW); go_split_ands; first | (go_simp; done) | (go_simp; with_reducible rfl))
  try simp only [Act.put, List.setIfInBounds_toArray, List.set_cons_zero, List.set_cons_succ]
  refine' wpAnyH_take (i := 11) (oi := _) (v := _) ?_ (by kernel_rfl) (by kernel_rfl) (by kernel_rfl) ?_ (Or.inl ⟨?_, ?_⟩) (by assumption) ?_
  rotate_left 2
  · (simp only [List.getElem?_toArray, List.getElem?_cons_succ, List.getElem?_cons_zero]; rfl)
  · exact fun _ _ _ h => h
  · rfl
  · (intro W hSW; (try dsimp only at hSW); go_split_ands; first | (go_simp; done) | (go_simp; with_reducible rfl))
  try simp only [Act.put, List.setIfInBounds_toArray, List.set_cons_zero, List.set_cons_succ]
  refine wpAnyH_ready (rs := [2]) (by kernel_rfl) (by simp) ?_
  refine' AllReadyH.cons (o := _) ?_ (fun K hK => ?_) AllReadyH.nil
  rotate_left 1
  · (simp only [List.getElem?_toArray, List.getElem?_cons_succ, List.getElem?_cons_zero]; rfl)
  go_simp
  refine (HL.out _).mono ?_
  rintro e w2 ⟨rfl, rfl⟩
  go_simp
  refine hK.out _ _ hHeld (fun hHeld => ?_)
  clear hK K
  refine wpAnyH_ready (rs := [6]) (by kernel_rfl) (by simp) ?_
  refine' AllReadyH.cons (o := _) ?_ (fun K hK => ?_) AllReadyH.nil
  rotate_left 1
  · (simp only [List.getElem?_toArray, List.getElem?_cons_succ, List.getElem?_cons_zero]; rfl)
  go_simp
  refine (ref_Digits _ _ (by omega) (by omega)).mono ?_
  rintro e w2 ⟨rfl, hb2⟩
  have b2 := b1.trans ((off_drew hb2).mono b1.size)
  have z2 : w.heap.size < w2.heap.size := Nat.lt_of_lt_of_le z1 hb2.size
  go_simp
  refine hK.out _ _ ?_ (fun hHeld => ?_)
  · (go_split_ands; refine ⟨?_, ?_, ?_⟩ <;> exact keep_cell hb2 z1 (by assumption))
  clear hK K
  refine' wpAnyH_take (i := 7) (oi := _) (v := _) ?_ (by kernel_rfl) (by kernel_rfl) (by kernel_rfl) ?_ (Or.inl ⟨?_, ?_⟩) (by assumption) ?_
  rotate_left 2
  · (simp only [List.getElem?_toArray, List.getElem?_cons_succ, List.getElem?_cons_zero]; rfl)
  · exact fun _ _ _ h => h
  · rfl
  · (intro W hSW; (try dsimp only at hSW); go_split_ands; first | (go_simp; done) | (go_simp; with_reducible rfl))
  try simp only [Act.put, List.setIfInBounds_toArray, List.set_cons_zero, List.set_cons_succ]
  refine' wpAnyH_take (i := 8) (oi := _) (v := _) ?_ (by kernel_rfl) (by kernel_rfl) (by kernel_rfl) ?_ (Or.inl ⟨?_, ?_⟩) (by assumption) ?_
  rotate_left 2
  · (simp only [List.getElem?_toArray, List.getElem?_cons_succ, List.getElem?_cons_zero]; rfl)
  · exact fun _ _ _ h => h
  · rfl
  · (intro W hSW; (try dsimp only at hSW); go_split_ands; first | (go_simp; done) | (go_simp; with_reducible rfl))
  try simp only [Act.put, List.setIfInBounds_toArray, List.set_cons_zero, List.set_cons_succ]
  refine wpAnyH_ready (rs := [12]) (by kernel_rfl) (by simp) ?_
  refine' AllReadyH.cons (o := _) ?_ (fun K hK => ?_) AllReadyH.nil
  rotate_left 1
  · (simp only [List.getElem?_toArray, List.getElem?_cons_succ, List.getElem?_cons_zero]; rfl)
  go_simp
  refine (ref_Digits _ _ (by omega) (by omega)).mono ?_
  rintro e w3 ⟨rfl, hb3⟩
  go_simp
  refine hK.out _ _ ?_ (fun hHeld => ?_)
  · (go_split_ands; refine ⟨?_, ?_, ?_⟩ <;> exact keep_cell hb3 z2 (by assumption))
  clear hK K
  refine' wpAnyH_take (i := 13) (oi := _) (v := _) ?_ (by kernel_rfl) (by kernel_rfl) (by kernel_rfl) ?_ (Or.inl ⟨?_, ?_⟩) (by assumption) ?_
  rotate_left 2
  · (simp only [List.getElem?_toArray, List.getElem?_cons_succ, List.getElem?_cons_zero]; rfl)
  · exact fun _ _ _ h => h
  · rfl
  · (intro W hSW; (try dsimp only at hSW); go_split_ands; first | (go_simp; done) | (go_simp; with_reducible rfl))
  try simp only [Act.put, List.setIfInBounds_toArray, List.set_cons_zero, List.set_cons_succ]
  refine' wpAnyH_take (i := 14) (oi := _) (v := _) ?_ (by kernel_rfl) (by kernel_rfl) (by kernel_rfl) ?_ (Or.inl ⟨?_, ?_⟩) (by assumption) ?_
  rotate_left 2
  · (simp only [List.getElem?_toArray, List.getElem?_cons_succ, List.getElem?_cons_zero]; rfl)
  · exact fun _ _ _ h => h
  · rfl
  · (intro W hSW; (try dsimp only at hSW); go_split_ands; first | (go_simp; done) | (go_simp; with_reducible rfl))
  try simp only [Act.put, List.setIfInBounds_toArray, List.set_cons_zero, List.set_cons_succ]
  refine' wpAnyH_take (i := 15) (oi := _) (v := _) ?_ (by kernel_rfl) (by kernel_rfl) (by kernel_rfl) ?_ (Or.inl ⟨?_, ?_⟩) (by assumption) ?_
  rotate_left 2
  · (simp only [List.getElem?_toArray, List.getElem?_cons_succ, List.getElem?_cons_zero]; rfl)
  · exact fun _ _ _ h => h
  · rfl
  · (intro W hSW; (try dsimp only at hSW); go_split_ands; first | (go_simp; done) | (go_simp; with_reducible rfl))
  try simp only [Act.put, List.setIfInBounds_toArray, List.set_cons_zero, List.set_cons_succ]
  refine wpAnyH_done (by kernel_rfl) ?_ _
  go_wp2_with fail
  go_returns
  exact ⟨rfl, chain b2 hb3⟩
theorem ro_text_bad (k s g : Int) (w : World) (h : dOk 64 k s g = false) (g0 : 0 ≤ g) : Ret 25 #[dV k s g] w (.tuple #[.string ⟨#[]⟩, .int .i64 2]) := by
  have hk := fun w => ro_check k s g w g0
  rw [dErr_bad h] at hk
  have HK := Lib.hid hk
  clear hk h
  go_enter Tryd.func25, Tryd.ntmps25
  go_wp2_with fail
  refine (HK.out _).mono ?_
  rintro e w1 ⟨rfl, hb1⟩
  go_wp2_with fail
  go_returns
  exact ⟨rfl, under hb1⟩
set_option maxHeartbeats 2000000 in
theorem rpack_ok (k s g : Int) (w : World) (h : dOk 256 k s g = true) (g0 : 0 ≤ g) (g1 : g ≤ 4294967295) : Ret 14 #[dV k s g] w (.tuple #[.int .u64 (dNum k s g), .int .i64 0]) := by
  have hk := fun w => rd_check k s g w g0
  rw [dErr_ok h] at hk
  rw [dOk_iff] at h
  obtain ⟨k1, k3, s0, s1, _⟩ := h
  have HK := Lib.hid hk
  clear hk
  go_enter Tryd.func14, Tryd.ntmps14
  go_wp2_with fail
  refine (HK.out _).mono ?_
  rintro e w1 ⟨rfl, hb1⟩
  obtain ⟨q1, f1⟩ := bcell hb1
  go_wp2_with fail
  go_returns
  exact ⟨rfl, under hb1⟩
theorem rpack_bad (k s g : Int) (w : World) (h : dOk 256 k s g = false) (g0 : 0 ≤ g) : Ret 14 #[dV k s g] w (.tuple #[.int .u64 0, .int .i64 2]) := by
  have hk := fun w => rd_check k s g w g0
  rw [dErr_bad h] at hk
  have HK := Lib.hid hk
  clear hk h
  go_enter Tryd.func14, Tryd.ntmps14
  go_wp2_with fail
  refine (HK.out _).mono ?_
  rintro e w1 ⟨rfl, hb1⟩
  go_wp2_with fail
  go_returns
  exact ⟨rfl, under hb1⟩
end Go.Proofs.YtjonbmocamjhaaaDoor
