/- Contracts of package descr: text. -/
import Derived.Test.YtgckfiadnmjonaaGreatDoorL0a
import Derived.Deep.RegionHeld3
import Derived.Laws.BitsAllLaws
import Derived.Lib.OthersKept
import Derived.Lib.FrozenHead2
import Derived.Shelf.Strings.BuilderK
import Derived.Lib.Walk
import Derived.Lib.ItoaMem
import Derived.Shelf.Strconv.ErrVarParseInt
import Derived.Deep.RegionWith
namespace Go.Proofs.YtgckfiadnmjonaaGreatDoor
open Go.RowKit
open Go.Lib (decDigits)

theorem itoa_ret (n : Int) (w : World) (hE : Env w) (h0 : 0 ≤ n) (h1 : n ≤ 9223372036854775807) :
    Ret 40 #[.int .i64 n] w (.string (digits n.toNat)) := by
  have h := strconv_Itoa n w hE (by omega) h1
  have e : Lib.itoa n = decDigits n.toNat := by unfold Lib.itoa; rw [if_neg (by omega)]
  rw [e] at h
  exact h
theorem cat_text (c : UInt8) (k s g : Int) : (ByteArray.mk #[letterB k]) ++ digits s.toNat ++ ⟨#[c]⟩ ++ digits g.toNat = dText c k s g := by
  apply str_ext
  simp [dText_list, dTextL, digits]
set_option linter.unusedSimpArgs false in
set_option maxHeartbeats 4000000 in
set_option maxRecDepth 20000 in
theorem nm_text_at (c l : UInt8) (k s g : Int) (j : Nat) (w : World) (hE : Env w) (hk : (k = 1 ∧ l = 102 ∧ j = 1) ∨ (k = 2 ∧ l = 98 ∧ j = 2) ∨ (k = 3 ∧ l = 108 ∧ j = 3)) (s0 : 0 ≤ s) (s1 : s < 10000000000) (g0 : 0 ≤ g) (g1 : g ≤ 4294967295) (t1 t2 t3 : ByteArray)
    (h1 : ByteArray.mk #[l] ++ digits s.toNat = t1) (h2 : t1 ++ ⟨#[c]⟩ = t2) (h3 : t2 ++ digits g.toNat = t3) :
    Ret 59 #[nmV k s g, .string ⟨#[c]⟩] w (.string t3) := by
  have hz1 := digits_size_le s.toNat (by omega)
  have hz2 := digits_size_le g.toNat (by omega)
  have e1 : t1.size ≤ 21 := by rw [← h1, ByteArray.size_append]; simp only [show (ByteArray.mk #[l]).size = 1 from rfl]; omega
  have e2 : t2.size ≤ 22 := by rw [← h2, ByteArray.size_append]; simp only [show (ByteArray.mk #[c]).size = 1 from rfl]; omega
  have r1 := add_run h1 (by simp only [show (ByteArray.mk #[l]).size = 1 from rfl]; omega)
  have r2 := add_run h2 (by simp only [show (ByteArray.mk #[c]).size = 1 from rfl]; omega)
  have r3 := add_run h3 (by omega)
  clear e1 e2 hz1 hz2 h1 h2 h3
  rcases hk with ⟨rfl, rfl, rfl⟩ | ⟨rfl, rfl, rfl⟩ | ⟨rfl, rfl, rfl⟩
  · go_enter Tryz.func59, Tryz.ntmps59
    go_wp2_with fail
    refine wp_region_held_drew (S := fun W' => W'.cell? ⟨w.heap.size, 0, none⟩ = some (.int .i64 1) ∧ W'.cell? ⟨w.heap.size, 1, none⟩ = some (.int .i64 s) ∧ W'.cell? ⟨w.heap.size, 2, none⟩ = some (.int .i64 g)) (by kernel_rfl) ?_ (fun hHeld => ?_)
    · go_keep
    refine' wpAnyH_take (i := 1) (oi := _) (v := _) ?_ (by kernel_rfl) (by kernel_rfl) (by kernel_rfl) ?_ (Or.inl ⟨?_, ?_⟩) (by assumption) ?_
    rotate_left 2
    · (simp only [List.getElem?_toArray, List.getElem?_cons_succ, List.getElem?_cons_zero]; rfl)
    · first | exact fun _ _ _ h => h | exact fun _ _ _ h => nomatch h.1
    · rfl
    · (intro W hSW; (try dsimp only at hSW); go_split_ands; first | (go_simp; done) | (go_simp; with_reducible rfl))
    try simp only [Act.put, List.setIfInBounds_toArray, List.set_cons_zero, List.set_cons_succ]
    refine' wpAnyH_take (i := 2) (oi := _) (v := _) ?_ (by kernel_rfl) (by kernel_rfl) (by kernel_rfl) ?_ (Or.inl ⟨?_, ?_⟩) (by assumption) ?_
    rotate_left 2
    · (simp only [List.getElem?_toArray, List.getElem?_cons_succ, List.getElem?_cons_zero]; rfl)
    · first | exact fun _ _ _ h => h | exact fun _ _ _ h => nomatch h.1
    · rfl
    · (intro W hSW; (try dsimp only at hSW); go_split_ands; first | (go_simp; done) | (go_simp; with_reducible rfl))
    try simp only [Act.put, List.setIfInBounds_toArray, List.set_cons_zero, List.set_cons_succ]
    refine' wpAnyH_take (i := 5) (oi := _) (v := _) ?_ (by kernel_rfl) (by kernel_rfl) (by kernel_rfl) ?_ (Or.inl ⟨?_, ?_⟩) (by assumption) ?_
    rotate_left 2
    · (simp only [List.getElem?_toArray, List.getElem?_cons_succ, List.getElem?_cons_zero]; rfl)
    · first | exact fun _ _ _ h => h | exact fun _ _ _ h => nomatch h.1
    · rfl
    · (intro W hSW; (try dsimp only at hSW); go_split_ands; first | (go_simp; done) | (go_simp; with_reducible rfl))
    try simp only [Act.put, List.setIfInBounds_toArray, List.set_cons_zero, List.set_cons_succ]
    refine' wpAnyH_take (i := 6) (oi := _) (v := _) ?_ (by kernel_rfl) (by kernel_rfl) (by kernel_rfl) ?_ (Or.inl ⟨?_, ?_⟩) (by assumption) ?_
    rotate_left 2
    · (simp only [List.getElem?_toArray, List.getElem?_cons_succ, List.getElem?_cons_zero]; rfl)
    · first | exact fun _ _ _ h => h | exact fun _ _ _ h => nomatch h.1
    · rfl
    · (intro W hSW; (try dsimp only at hSW); go_split_ands; first | (go_simp; done) | (go_simp; with_reducible rfl))
    try simp only [Act.put, List.setIfInBounds_toArray, List.set_cons_zero, List.set_cons_succ]
    refine' wpAnyH_take (i := 9) (oi := _) (v := _) ?_ (by kernel_rfl) (by kernel_rfl) (by kernel_rfl) ?_ (Or.inl ⟨?_, ?_⟩) (by assumption) ?_
    rotate_left 2
    · (simp only [List.getElem?_toArray, List.getElem?_cons_succ, List.getElem?_cons_zero]; rfl)
    · first | exact fun _ _ _ h => h | exact fun _ _ _ h => nomatch h.1
    · rfl
    · (intro W hSW; (try dsimp only at hSW); go_split_ands; first | (go_simp; done) | (go_simp; with_reducible rfl))
    try simp only [Act.put, List.setIfInBounds_toArray, List.set_cons_zero, List.set_cons_succ]
    refine' wpAnyH_take (i := 11) (oi := _) (v := _) ?_ (by kernel_rfl) (by kernel_rfl) (by kernel_rfl) ?_ (Or.inl ⟨?_, ?_⟩) (by assumption) ?_
    rotate_left 2
    · (simp only [List.getElem?_toArray, List.getElem?_cons_succ, List.getElem?_cons_zero]; rfl)
    · first | exact fun _ _ _ h => h | exact fun _ _ _ h => nomatch h.1
    · rfl
    · (intro W hSW; (try dsimp only at hSW); go_split_ands; first | (go_simp; done) | (go_simp; with_reducible rfl))
    try simp only [Act.put, List.setIfInBounds_toArray, List.set_cons_zero, List.set_cons_succ]
    refine' wpAnyH_take (i := 12) (oi := _) (v := _) ?_ (by kernel_rfl) (by kernel_rfl) (by kernel_rfl) ?_ (Or.inl ⟨?_, ?_⟩) (by assumption) ?_
    rotate_left 2
    · (simp only [List.getElem?_toArray, List.getElem?_cons_succ, List.getElem?_cons_zero]; rfl)
    · first | exact fun _ _ _ h => h | exact fun _ _ _ h => nomatch h.1
    · rfl
    · (intro W hSW; (try dsimp only at hSW); go_split_ands; first | (go_simp; done) | (go_simp; with_reducible rfl))
    try simp only [Act.put, List.setIfInBounds_toArray, List.set_cons_zero, List.set_cons_succ]
    refine wpAnyH_ready (rs := [0]) (by kernel_rfl) (by simp) ?_
    refine' AllReadyH.cons (o := _) ?_ (fun K hK => ?_) AllReadyH.nil
    rotate_left 1
    · (simp only [List.getElem?_toArray, List.getElem?_cons_succ, List.getElem?_cons_zero]; rfl)
    go_simp
    refine (letters_c _).mono ?_
    rintro e w1 ⟨rfl, rfl⟩
    go_simp
    refine hK.out _ _ ?_ (fun hHeld => ?_)
    · go_keep
    clear hHeld
    refine wpAnyH_more (S' := fun W' => W'.cell? ⟨w.heap.size, 0, none⟩ = some (.int .i64 1) ∧ W'.cell? ⟨w.heap.size, 1, none⟩ = some (.int .i64 s) ∧ W'.cell? ⟨w.heap.size, 2, none⟩ = some (.int .i64 g) ∧ W'.cell? ⟨w.heap.size + 1, 1, none⟩ = some (.string ⟨#[102]⟩)) (fun _ h => ⟨h.1, h.2.1, h.2.2.1⟩) ?_ (fun hHeld => ?_)
    · go_keep
    refine' wpAnyH_take (i := 3) (oi := _) (v := _) ?_ (by kernel_rfl) (by kernel_rfl) (by kernel_rfl) ?_ (Or.inl ⟨?_, ?_⟩) (by assumption) ?_
    rotate_left 2
    · (simp only [List.getElem?_toArray, List.getElem?_cons_succ, List.getElem?_cons_zero]; rfl)
    · first | exact fun _ _ _ h => h | exact fun _ _ _ h => nomatch h.1
    · rfl
    · (intro W hSW; (try dsimp only at hSW); go_split_ands; first | (go_simp; done) | (go_simp; with_reducible rfl))
    try simp only [Act.put, List.setIfInBounds_toArray, List.set_cons_zero, List.set_cons_succ]
    refine' wpAnyH_take (i := 4) (oi := _) (v := _) ?_ (by kernel_rfl) (by kernel_rfl) (by kernel_rfl) ?_ (Or.inl ⟨?_, ?_⟩) (by assumption) ?_
    rotate_left 2
    · (simp only [List.getElem?_toArray, List.getElem?_cons_succ, List.getElem?_cons_zero]; rfl)
    · first | exact fun _ _ _ h => h | exact fun _ _ _ h => nomatch h.1
    · rfl
    · (intro W hSW; (try dsimp only at hSW); go_split_ands; first | (go_simp; done) | (go_simp; with_reducible rfl))
    try simp only [Act.put, List.setIfInBounds_toArray, List.set_cons_zero, List.set_cons_succ]
    refine wpAnyH_ready (rs := [7]) (by kernel_rfl) (by simp) ?_
    refine' AllReadyH.cons (o := _) ?_ (fun K hK => ?_) AllReadyH.nil
    rotate_left 1
    · (simp only [List.getElem?_toArray, List.getElem?_cons_succ, List.getElem?_cons_zero]; rfl)
    go_simp
    refine (itoa_ret s _ ?_ ?_ ?_).mono ?_
    · exact hE.on (by go_grown)
    · omega
    · omega
    rintro e w1 ⟨rfl, hb1⟩
    have hB1 := under (w := w) hb1
    go_simp
    refine hK.out _ _ ?_ (fun hHeld => ?_)
    · (go_split_ands; refine ⟨?_, ?_, ?_, ?_⟩ <;> exact keep_cell hb1 (by first | (simp; done) | (simp; omega)) (by assumption))
    clear hK K
    refine' wpAnyH_take (i := 8) (oi := _) (v := _) ?_ (by kernel_rfl) (by kernel_rfl) (by kernel_rfl) ?_ (Or.inl ⟨?_, ?_⟩) (by assumption) ?_
    rotate_left 2
    · (simp only [List.getElem?_toArray, List.getElem?_cons_succ, List.getElem?_cons_zero]; rfl)
    · first | exact fun _ _ _ h => h | exact fun _ _ _ h => nomatch h.1
    · rfl
    · (intro W hSW; (try dsimp only at hSW); go_split_ands; first | (go_simp; done) | (go_simp; with_reducible rfl))
    try simp only [Act.put, List.setIfInBounds_toArray, List.set_cons_zero, List.set_cons_succ]
    refine' wpAnyH_take (i := 10) (oi := _) (v := _) ?_ (by kernel_rfl) (by kernel_rfl) (by kernel_rfl) ?_ (Or.inl ⟨?_, ?_⟩) (by assumption) ?_
    rotate_left 2
    · (simp only [List.getElem?_toArray, List.getElem?_cons_succ, List.getElem?_cons_zero]; rfl)
    · first | exact fun _ _ _ h => h | exact fun _ _ _ h => nomatch h.1
    · rfl
    · (intro W hSW; (try dsimp only at hSW); go_split_ands; first | (go_simp; done) | (go_simp; with_reducible rfl))
    try simp only [Act.put, List.setIfInBounds_toArray, List.set_cons_zero, List.set_cons_succ]
    refine wpAnyH_ready (rs := [13]) (by kernel_rfl) (by simp) ?_
    refine' AllReadyH.cons (o := _) ?_ (fun K hK => ?_) AllReadyH.nil
    rotate_left 1
    · (simp only [List.getElem?_toArray, List.getElem?_cons_succ, List.getElem?_cons_zero]; rfl)
    go_simp
    refine (itoa_ret g _ ?_ ?_ ?_).mono ?_
    · exact hE.on hB1
    · omega
    · omega
    rintro e w2 ⟨rfl, hb2⟩
    go_simp
    refine hK.out _ _ ?_ (fun hHeld => ?_)
    · (go_split_ands; refine ⟨?_, ?_, ?_, ?_⟩ <;> exact keep_cell hb2 (by have := hb1.size; simp at this; omega) (by assumption))
    clear hK K
    refine' wpAnyH_take (i := 14) (oi := _) (v := _) ?_ (by kernel_rfl) (by kernel_rfl) (by kernel_rfl) ?_ (Or.inl ⟨?_, ?_⟩) (by assumption) ?_
    rotate_left 2
    · (simp only [List.getElem?_toArray, List.getElem?_cons_succ, List.getElem?_cons_zero]; rfl)
    · first | exact fun _ _ _ h => h | exact fun _ _ _ h => nomatch h.1
    · rfl
    · (intro W hSW; (try dsimp only at hSW); go_split_ands; first | (go_simp; done) | (go_simp; with_reducible rfl))
    try simp only [Act.put, List.setIfInBounds_toArray, List.set_cons_zero, List.set_cons_succ]
    refine' wpAnyH_take (i := 15) (oi := _) (v := _) ?_ (by kernel_rfl) (by kernel_rfl) (by kernel_rfl) ?_ (Or.inl ⟨?_, ?_⟩) (by assumption) ?_
    rotate_left 2
    · (simp only [List.getElem?_toArray, List.getElem?_cons_succ, List.getElem?_cons_zero]; rfl)
    · first | exact fun _ _ _ h => h | exact fun _ _ _ h => nomatch h.1
    · rfl
    · (intro W hSW; (try dsimp only at hSW); go_split_ands; first | (go_simp; done) | (go_simp; with_reducible rfl))
    try simp only [Act.put, List.setIfInBounds_toArray, List.set_cons_zero, List.set_cons_succ]
    refine wpAnyH_done (by kernel_rfl) ?_ _
    go_wp2_with fail
    go_returns
    exact ⟨rfl, chain hB1 hb2⟩
  · go_enter Tryz.func59, Tryz.ntmps59
    go_wp2_with fail
    refine wp_region_held_drew (S := fun W' => W'.cell? ⟨w.heap.size, 0, none⟩ = some (.int .i64 2) ∧ W'.cell? ⟨w.heap.size, 1, none⟩ = some (.int .i64 s) ∧ W'.cell? ⟨w.heap.size, 2, none⟩ = some (.int .i64 g)) (by kernel_rfl) ?_ (fun hHeld => ?_)
    · go_keep
    refine' wpAnyH_take (i := 1) (oi := _) (v := _) ?_ (by kernel_rfl) (by kernel_rfl) (by kernel_rfl) ?_ (Or.inl ⟨?_, ?_⟩) (by assumption) ?_
    rotate_left 2
    · (simp only [List.getElem?_toArray, List.getElem?_cons_succ, List.getElem?_cons_zero]; rfl)
    · first | exact fun _ _ _ h => h | exact fun _ _ _ h => nomatch h.1
    · rfl
    · (intro W hSW; (try dsimp only at hSW); go_split_ands; first | (go_simp; done) | (go_simp; with_reducible rfl))
    try simp only [Act.put, List.setIfInBounds_toArray, List.set_cons_zero, List.set_cons_succ]
    refine' wpAnyH_take (i := 2) (oi := _) (v := _) ?_ (by kernel_rfl) (by kernel_rfl) (by kernel_rfl) ?_ (Or.inl ⟨?_, ?_⟩) (by assumption) ?_
    rotate_left 2
    · (simp only [List.getElem?_toArray, List.getElem?_cons_succ, List.getElem?_cons_zero]; rfl)
    · first | exact fun _ _ _ h => h | exact fun _ _ _ h => nomatch h.1
    · rfl
    · (intro W hSW; (try dsimp only at hSW); go_split_ands; first | (go_simp; done) | (go_simp; with_reducible rfl))
    try simp only [Act.put, List.setIfInBounds_toArray, List.set_cons_zero, List.set_cons_succ]
    refine' wpAnyH_take (i := 5) (oi := _) (v := _) ?_ (by kernel_rfl) (by kernel_rfl) (by kernel_rfl) ?_ (Or.inl ⟨?_, ?_⟩) (by assumption) ?_
    rotate_left 2
    · (simp only [List.getElem?_toArray, List.getElem?_cons_succ, List.getElem?_cons_zero]; rfl)
    · first | exact fun _ _ _ h => h | exact fun _ _ _ h => nomatch h.1
    · rfl
    · (intro W hSW; (try dsimp only at hSW); go_split_ands; first | (go_simp; done) | (go_simp; with_reducible rfl))
    try simp only [Act.put, List.setIfInBounds_toArray, List.set_cons_zero, List.set_cons_succ]
    refine' wpAnyH_take (i := 6) (oi := _) (v := _) ?_ (by kernel_rfl) (by kernel_rfl) (by kernel_rfl) ?_ (Or.inl ⟨?_, ?_⟩) (by assumption) ?_
    rotate_left 2
    · (simp only [List.getElem?_toArray, List.getElem?_cons_succ, List.getElem?_cons_zero]; rfl)
    · first | exact fun _ _ _ h => h | exact fun _ _ _ h => nomatch h.1
    · rfl
    · (intro W hSW; (try dsimp only at hSW); go_split_ands; first | (go_simp; done) | (go_simp; with_reducible rfl))
    try simp only [Act.put, List.setIfInBounds_toArray, List.set_cons_zero, List.set_cons_succ]
    refine' wpAnyH_take (i := 9) (oi := _) (v := _) ?_ (by kernel_rfl) (by kernel_rfl) (by kernel_rfl) ?_ (Or.inl ⟨?_, ?_⟩) (by assumption) ?_
    rotate_left 2
    · (simp only [List.getElem?_toArray, List.getElem?_cons_succ, List.getElem?_cons_zero]; rfl)
    · first | exact fun _ _ _ h => h | exact fun _ _ _ h => nomatch h.1
    · rfl
    · (intro W hSW; (try dsimp only at hSW); go_split_ands; first | (go_simp; done) | (go_simp; with_reducible rfl))
    try simp only [Act.put, List.setIfInBounds_toArray, List.set_cons_zero, List.set_cons_succ]
    refine' wpAnyH_take (i := 11) (oi := _) (v := _) ?_ (by kernel_rfl) (by kernel_rfl) (by kernel_rfl) ?_ (Or.inl ⟨?_, ?_⟩) (by assumption) ?_
    rotate_left 2
    · (simp only [List.getElem?_toArray, List.getElem?_cons_succ, List.getElem?_cons_zero]; rfl)
    · first | exact fun _ _ _ h => h | exact fun _ _ _ h => nomatch h.1
    · rfl
    · (intro W hSW; (try dsimp only at hSW); go_split_ands; first | (go_simp; done) | (go_simp; with_reducible rfl))
    try simp only [Act.put, List.setIfInBounds_toArray, List.set_cons_zero, List.set_cons_succ]
    refine' wpAnyH_take (i := 12) (oi := _) (v := _) ?_ (by kernel_rfl) (by kernel_rfl) (by kernel_rfl) ?_ (Or.inl ⟨?_, ?_⟩) (by assumption) ?_
    rotate_left 2
    · (simp only [List.getElem?_toArray, List.getElem?_cons_succ, List.getElem?_cons_zero]; rfl)
    · first | exact fun _ _ _ h => h | exact fun _ _ _ h => nomatch h.1
    · rfl
    · (intro W hSW; (try dsimp only at hSW); go_split_ands; first | (go_simp; done) | (go_simp; with_reducible rfl))
    try simp only [Act.put, List.setIfInBounds_toArray, List.set_cons_zero, List.set_cons_succ]
    refine wpAnyH_ready (rs := [0]) (by kernel_rfl) (by simp) ?_
    refine' AllReadyH.cons (o := _) ?_ (fun K hK => ?_) AllReadyH.nil
    rotate_left 1
    · (simp only [List.getElem?_toArray, List.getElem?_cons_succ, List.getElem?_cons_zero]; rfl)
    go_simp
    refine (letters_c _).mono ?_
    rintro e w1 ⟨rfl, rfl⟩
    go_simp
    refine hK.out _ _ ?_ (fun hHeld => ?_)
    · go_keep
    clear hHeld
    refine wpAnyH_more (S' := fun W' => W'.cell? ⟨w.heap.size, 0, none⟩ = some (.int .i64 2) ∧ W'.cell? ⟨w.heap.size, 1, none⟩ = some (.int .i64 s) ∧ W'.cell? ⟨w.heap.size, 2, none⟩ = some (.int .i64 g) ∧ W'.cell? ⟨w.heap.size + 1, 2, none⟩ = some (.string ⟨#[98]⟩)) (fun _ h => ⟨h.1, h.2.1, h.2.2.1⟩) ?_ (fun hHeld => ?_)
    · go_keep
    refine' wpAnyH_take (i := 3) (oi := _) (v := _) ?_ (by kernel_rfl) (by kernel_rfl) (by kernel_rfl) ?_ (Or.inl ⟨?_, ?_⟩) (by assumption) ?_
    rotate_left 2
    · (simp only [List.getElem?_toArray, List.getElem?_cons_succ, List.getElem?_cons_zero]; rfl)
    · first | exact fun _ _ _ h => h | exact fun _ _ _ h => nomatch h.1
    · rfl
    · (intro W hSW; (try dsimp only at hSW); go_split_ands; first | (go_simp; done) | (go_simp; with_reducible rfl))
    try simp only [Act.put, List.setIfInBounds_toArray, List.set_cons_zero, List.set_cons_succ]
    refine' wpAnyH_take (i := 4) (oi := _) (v := _) ?_ (by kernel_rfl) (by kernel_rfl) (by kernel_rfl) ?_ (Or.inl ⟨?_, ?_⟩) (by assumption) ?_
    rotate_left 2
    · (simp only [List.getElem?_toArray, List.getElem?_cons_succ, List.getElem?_cons_zero]; rfl)
    · first | exact fun _ _ _ h => h | exact fun _ _ _ h => nomatch h.1
    · rfl
    · (intro W hSW; (try dsimp only at hSW); go_split_ands; first | (go_simp; done) | (go_simp; with_reducible rfl))
    try simp only [Act.put, List.setIfInBounds_toArray, List.set_cons_zero, List.set_cons_succ]
    refine wpAnyH_ready (rs := [7]) (by kernel_rfl) (by simp) ?_
    refine' AllReadyH.cons (o := _) ?_ (fun K hK => ?_) AllReadyH.nil
    rotate_left 1
    · (simp only [List.getElem?_toArray, List.getElem?_cons_succ, List.getElem?_cons_zero]; rfl)
    go_simp
    refine (itoa_ret s _ ?_ ?_ ?_).mono ?_
    · exact hE.on (by go_grown)
    · omega
    · omega
    rintro e w1 ⟨rfl, hb1⟩
    have hB1 := under (w := w) hb1
    go_simp
    refine hK.out _ _ ?_ (fun hHeld => ?_)
    · (go_split_ands; refine ⟨?_, ?_, ?_, ?_⟩ <;> exact keep_cell hb1 (by first | (simp; done) | (simp; omega)) (by assumption))
    clear hK K
    refine' wpAnyH_take (i := 8) (oi := _) (v := _) ?_ (by kernel_rfl) (by kernel_rfl) (by kernel_rfl) ?_ (Or.inl ⟨?_, ?_⟩) (by assumption) ?_
    rotate_left 2
    · (simp only [List.getElem?_toArray, List.getElem?_cons_succ, List.getElem?_cons_zero]; rfl)
    · first | exact fun _ _ _ h => h | exact fun _ _ _ h => nomatch h.1
    · rfl
    · (intro W hSW; (try dsimp only at hSW); go_split_ands; first | (go_simp; done) | (go_simp; with_reducible rfl))
    try simp only [Act.put, List.setIfInBounds_toArray, List.set_cons_zero, List.set_cons_succ]
    refine' wpAnyH_take (i := 10) (oi := _) (v := _) ?_ (by kernel_rfl) (by kernel_rfl) (by kernel_rfl) ?_ (Or.inl ⟨?_, ?_⟩) (by assumption) ?_
    rotate_left 2
    · (simp only [List.getElem?_toArray, List.getElem?_cons_succ, List.getElem?_cons_zero]; rfl)
    · first | exact fun _ _ _ h => h | exact fun _ _ _ h => nomatch h.1
    · rfl
    · (intro W hSW; (try dsimp only at hSW); go_split_ands; first | (go_simp; done) | (go_simp; with_reducible rfl))
    try simp only [Act.put, List.setIfInBounds_toArray, List.set_cons_zero, List.set_cons_succ]
    refine wpAnyH_ready (rs := [13]) (by kernel_rfl) (by simp) ?_
    refine' AllReadyH.cons (o := _) ?_ (fun K hK => ?_) AllReadyH.nil
    rotate_left 1
    · (simp only [List.getElem?_toArray, List.getElem?_cons_succ, List.getElem?_cons_zero]; rfl)
    go_simp
    refine (itoa_ret g _ ?_ ?_ ?_).mono ?_
    · exact hE.on hB1
    · omega
    · omega
    rintro e w2 ⟨rfl, hb2⟩
    go_simp
    refine hK.out _ _ ?_ (fun hHeld => ?_)
    · (go_split_ands; refine ⟨?_, ?_, ?_, ?_⟩ <;> exact keep_cell hb2 (by have := hb1.size; simp at this; omega) (by assumption))
    clear hK K
    refine' wpAnyH_take (i := 14) (oi := _) (v := _) ?_ (by kernel_rfl) (by kernel_rfl) (by kernel_rfl) ?_ (Or.inl ⟨?_, ?_⟩) (by assumption) ?_
    rotate_left 2
    · (simp only [List.getElem?_toArray, List.getElem?_cons_succ, List.getElem?_cons_zero]; rfl)
    · first | exact fun _ _ _ h => h | exact fun _ _ _ h => nomatch h.1
    · rfl
    · (intro W hSW; (try dsimp only at hSW); go_split_ands; first | (go_simp; done) | (go_simp; with_reducible rfl))
    try simp only [Act.put, List.setIfInBounds_toArray, List.set_cons_zero, List.set_cons_succ]
    refine' wpAnyH_take (i := 15) (oi := _) (v := _) ?_ (by kernel_rfl) (by kernel_rfl) (by kernel_rfl) ?_ (Or.inl ⟨?_, ?_⟩) (by assumption) ?_
    rotate_left 2
    · (simp only [List.getElem?_toArray, List.getElem?_cons_succ, List.getElem?_cons_zero]; rfl)
    · first | exact fun _ _ _ h => h | exact fun _ _ _ h => nomatch h.1
    · rfl
    · (intro W hSW; (try dsimp only at hSW); go_split_ands; first | (go_simp; done) | (go_simp; with_reducible rfl))
    try simp only [Act.put, List.setIfInBounds_toArray, List.set_cons_zero, List.set_cons_succ]
    refine wpAnyH_done (by kernel_rfl) ?_ _
    go_wp2_with fail
    go_returns
    exact ⟨rfl, chain hB1 hb2⟩
  · go_enter Tryz.func59, Tryz.ntmps59
    go_wp2_with fail
    refine wp_region_held_drew (S := fun W' => W'.cell? ⟨w.heap.size, 0, none⟩ = some (.int .i64 3) ∧ W'.cell? ⟨w.heap.size, 1, none⟩ = some (.int .i64 s) ∧ W'.cell? ⟨w.heap.size, 2, none⟩ = some (.int .i64 g)) (by kernel_rfl) ?_ (fun hHeld => ?_)
    · go_keep
    refine' wpAnyH_take (i := 1) (oi := _) (v := _) ?_ (by kernel_rfl) (by kernel_rfl) (by kernel_rfl) ?_ (Or.inl ⟨?_, ?_⟩) (by assumption) ?_
    rotate_left 2
    · (simp only [List.getElem?_toArray, List.getElem?_cons_succ, List.getElem?_cons_zero]; rfl)
    · first | exact fun _ _ _ h => h | exact fun _ _ _ h => nomatch h.1
    · rfl
    · (intro W hSW; (try dsimp only at hSW); go_split_ands; first | (go_simp; done) | (go_simp; with_reducible rfl))
    try simp only [Act.put, List.setIfInBounds_toArray, List.set_cons_zero, List.set_cons_succ]
    refine' wpAnyH_take (i := 2) (oi := _) (v := _) ?_ (by kernel_rfl) (by kernel_rfl) (by kernel_rfl) ?_ (Or.inl ⟨?_, ?_⟩) (by assumption) ?_
    rotate_left 2
    · (simp only [List.getElem?_toArray, List.getElem?_cons_succ, List.getElem?_cons_zero]; rfl)
    · first | exact fun _ _ _ h => h | exact fun _ _ _ h => nomatch h.1
    · rfl
    · (intro W hSW; (try dsimp only at hSW); go_split_ands; first | (go_simp; done) | (go_simp; with_reducible rfl))
    try simp only [Act.put, List.setIfInBounds_toArray, List.set_cons_zero, List.set_cons_succ]
    refine' wpAnyH_take (i := 5) (oi := _) (v := _) ?_ (by kernel_rfl) (by kernel_rfl) (by kernel_rfl) ?_ (Or.inl ⟨?_, ?_⟩) (by assumption) ?_
    rotate_left 2
    · (simp only [List.getElem?_toArray, List.getElem?_cons_succ, List.getElem?_cons_zero]; rfl)
    · first | exact fun _ _ _ h => h | exact fun _ _ _ h => nomatch h.1
    · rfl
    · (intro W hSW; (try dsimp only at hSW); go_split_ands; first | (go_simp; done) | (go_simp; with_reducible rfl))
    try simp only [Act.put, List.setIfInBounds_toArray, List.set_cons_zero, List.set_cons_succ]
    refine' wpAnyH_take (i := 6) (oi := _) (v := _) ?_ (by kernel_rfl) (by kernel_rfl) (by kernel_rfl) ?_ (Or.inl ⟨?_, ?_⟩) (by assumption) ?_
    rotate_left 2
    · (simp only [List.getElem?_toArray, List.getElem?_cons_succ, List.getElem?_cons_zero]; rfl)
    · first | exact fun _ _ _ h => h | exact fun _ _ _ h => nomatch h.1
    · rfl
    · (intro W hSW; (try dsimp only at hSW); go_split_ands; first | (go_simp; done) | (go_simp; with_reducible rfl))
    try simp only [Act.put, List.setIfInBounds_toArray, List.set_cons_zero, List.set_cons_succ]
    refine' wpAnyH_take (i := 9) (oi := _) (v := _) ?_ (by kernel_rfl) (by kernel_rfl) (by kernel_rfl) ?_ (Or.inl ⟨?_, ?_⟩) (by assumption) ?_
    rotate_left 2
    · (simp only [List.getElem?_toArray, List.getElem?_cons_succ, List.getElem?_cons_zero]; rfl)
    · first | exact fun _ _ _ h => h | exact fun _ _ _ h => nomatch h.1
    · rfl
    · (intro W hSW; (try dsimp only at hSW); go_split_ands; first | (go_simp; done) | (go_simp; with_reducible rfl))
    try simp only [Act.put, List.setIfInBounds_toArray, List.set_cons_zero, List.set_cons_succ]
    refine' wpAnyH_take (i := 11) (oi := _) (v := _) ?_ (by kernel_rfl) (by kernel_rfl) (by kernel_rfl) ?_ (Or.inl ⟨?_, ?_⟩) (by assumption) ?_
    rotate_left 2
    · (simp only [List.getElem?_toArray, List.getElem?_cons_succ, List.getElem?_cons_zero]; rfl)
    · first | exact fun _ _ _ h => h | exact fun _ _ _ h => nomatch h.1
    · rfl
    · (intro W hSW; (try dsimp only at hSW); go_split_ands; first | (go_simp; done) | (go_simp; with_reducible rfl))
    try simp only [Act.put, List.setIfInBounds_toArray, List.set_cons_zero, List.set_cons_succ]
    refine' wpAnyH_take (i := 12) (oi := _) (v := _) ?_ (by kernel_rfl) (by kernel_rfl) (by kernel_rfl) ?_ (Or.inl ⟨?_, ?_⟩) (by assumption) ?_
    rotate_left 2
    · (simp only [List.getElem?_toArray, List.getElem?_cons_succ, List.getElem?_cons_zero]; rfl)
    · first | exact fun _ _ _ h => h | exact fun _ _ _ h => nomatch h.1
    · rfl
    · (intro W hSW; (try dsimp only at hSW); go_split_ands; first | (go_simp; done) | (go_simp; with_reducible rfl))
    try simp only [Act.put, List.setIfInBounds_toArray, List.set_cons_zero, List.set_cons_succ]
    refine wpAnyH_ready (rs := [0]) (by kernel_rfl) (by simp) ?_
    refine' AllReadyH.cons (o := _) ?_ (fun K hK => ?_) AllReadyH.nil
    rotate_left 1
    · (simp only [List.getElem?_toArray, List.getElem?_cons_succ, List.getElem?_cons_zero]; rfl)
    go_simp
    refine (letters_c _).mono ?_
    rintro e w1 ⟨rfl, rfl⟩
    go_simp
    refine hK.out _ _ ?_ (fun hHeld => ?_)
    · go_keep
    clear hHeld
    refine wpAnyH_more (S' := fun W' => W'.cell? ⟨w.heap.size, 0, none⟩ = some (.int .i64 3) ∧ W'.cell? ⟨w.heap.size, 1, none⟩ = some (.int .i64 s) ∧ W'.cell? ⟨w.heap.size, 2, none⟩ = some (.int .i64 g) ∧ W'.cell? ⟨w.heap.size + 1, 3, none⟩ = some (.string ⟨#[108]⟩)) (fun _ h => ⟨h.1, h.2.1, h.2.2.1⟩) ?_ (fun hHeld => ?_)
    · go_keep
    refine' wpAnyH_take (i := 3) (oi := _) (v := _) ?_ (by kernel_rfl) (by kernel_rfl) (by kernel_rfl) ?_ (Or.inl ⟨?_, ?_⟩) (by assumption) ?_
    rotate_left 2
    · (simp only [List.getElem?_toArray, List.getElem?_cons_succ, List.getElem?_cons_zero]; rfl)
    · first | exact fun _ _ _ h => h | exact fun _ _ _ h => nomatch h.1
    · rfl
    · (intro W hSW; (try dsimp only at hSW); go_split_ands; first | (go_simp; done) | (go_simp; with_reducible rfl))
    try simp only [Act.put, List.setIfInBounds_toArray, List.set_cons_zero, List.set_cons_succ]
    refine' wpAnyH_take (i := 4) (oi := _) (v := _) ?_ (by kernel_rfl) (by kernel_rfl) (by kernel_rfl) ?_ (Or.inl ⟨?_, ?_⟩) (by assumption) ?_
    rotate_left 2
    · (simp only [List.getElem?_toArray, List.getElem?_cons_succ, List.getElem?_cons_zero]; rfl)
    · first | exact fun _ _ _ h => h | exact fun _ _ _ h => nomatch h.1
    · rfl
    · (intro W hSW; (try dsimp only at hSW); go_split_ands; first | (go_simp; done) | (go_simp; with_reducible rfl))
    try simp only [Act.put, List.setIfInBounds_toArray, List.set_cons_zero, List.set_cons_succ]
    refine wpAnyH_ready (rs := [7]) (by kernel_rfl) (by simp) ?_
    refine' AllReadyH.cons (o := _) ?_ (fun K hK => ?_) AllReadyH.nil
    rotate_left 1
    · (simp only [List.getElem?_toArray, List.getElem?_cons_succ, List.getElem?_cons_zero]; rfl)
    go_simp
    refine (itoa_ret s _ ?_ ?_ ?_).mono ?_
    · exact hE.on (by go_grown)
    · omega
    · omega
    rintro e w1 ⟨rfl, hb1⟩
    have hB1 := under (w := w) hb1
    go_simp
    refine hK.out _ _ ?_ (fun hHeld => ?_)
    · (go_split_ands; refine ⟨?_, ?_, ?_, ?_⟩ <;> exact keep_cell hb1 (by first | (simp; done) | (simp; omega)) (by assumption))
    clear hK K
    refine' wpAnyH_take (i := 8) (oi := _) (v := _) ?_ (by kernel_rfl) (by kernel_rfl) (by kernel_rfl) ?_ (Or.inl ⟨?_, ?_⟩) (by assumption) ?_
    rotate_left 2
    · (simp only [List.getElem?_toArray, List.getElem?_cons_succ, List.getElem?_cons_zero]; rfl)
    · first | exact fun _ _ _ h => h | exact fun _ _ _ h => nomatch h.1
    · rfl
    · (intro W hSW; (try dsimp only at hSW); go_split_ands; first | (go_simp; done) | (go_simp; with_reducible rfl))
    try simp only [Act.put, List.setIfInBounds_toArray, List.set_cons_zero, List.set_cons_succ]
    refine' wpAnyH_take (i := 10) (oi := _) (v := _) ?_ (by kernel_rfl) (by kernel_rfl) (by kernel_rfl) ?_ (Or.inl ⟨?_, ?_⟩) (by assumption) ?_
    rotate_left 2
    · (simp only [List.getElem?_toArray, List.getElem?_cons_succ, List.getElem?_cons_zero]; rfl)
    · first | exact fun _ _ _ h => h | exact fun _ _ _ h => nomatch h.1
    · rfl
    · (intro W hSW; (try dsimp only at hSW); go_split_ands; first | (go_simp; done) | (go_simp; with_reducible rfl))
    try simp only [Act.put, List.setIfInBounds_toArray, List.set_cons_zero, List.set_cons_succ]
    refine wpAnyH_ready (rs := [13]) (by kernel_rfl) (by simp) ?_
    refine' AllReadyH.cons (o := _) ?_ (fun K hK => ?_) AllReadyH.nil
    rotate_left 1
    · (simp only [List.getElem?_toArray, List.getElem?_cons_succ, List.getElem?_cons_zero]; rfl)
    go_simp
    refine (itoa_ret g _ ?_ ?_ ?_).mono ?_
    · exact hE.on hB1
    · omega
    · omega
    rintro e w2 ⟨rfl, hb2⟩
    go_simp
    refine hK.out _ _ ?_ (fun hHeld => ?_)
    · (go_split_ands; refine ⟨?_, ?_, ?_, ?_⟩ <;> exact keep_cell hb2 (by have := hb1.size; simp at this; omega) (by assumption))
    clear hK K
    refine' wpAnyH_take (i := 14) (oi := _) (v := _) ?_ (by kernel_rfl) (by kernel_rfl) (by kernel_rfl) ?_ (Or.inl ⟨?_, ?_⟩) (by assumption) ?_
    rotate_left 2
    · (simp only [List.getElem?_toArray, List.getElem?_cons_succ, List.getElem?_cons_zero]; rfl)
    · first | exact fun _ _ _ h => h | exact fun _ _ _ h => nomatch h.1
    · rfl
    · (intro W hSW; (try dsimp only at hSW); go_split_ands; first | (go_simp; done) | (go_simp; with_reducible rfl))
    try simp only [Act.put, List.setIfInBounds_toArray, List.set_cons_zero, List.set_cons_succ]
    refine' wpAnyH_take (i := 15) (oi := _) (v := _) ?_ (by kernel_rfl) (by kernel_rfl) (by kernel_rfl) ?_ (Or.inl ⟨?_, ?_⟩) (by assumption) ?_
    rotate_left 2
    · (simp only [List.getElem?_toArray, List.getElem?_cons_succ, List.getElem?_cons_zero]; rfl)
    · first | exact fun _ _ _ h => h | exact fun _ _ _ h => nomatch h.1
    · rfl
    · (intro W hSW; (try dsimp only at hSW); go_split_ands; first | (go_simp; done) | (go_simp; with_reducible rfl))
    try simp only [Act.put, List.setIfInBounds_toArray, List.set_cons_zero, List.set_cons_succ]
    refine wpAnyH_done (by kernel_rfl) ?_ _
    go_wp2_with fail
    go_returns
    exact ⟨rfl, chain hB1 hb2⟩
theorem nm_text (c : UInt8) (k s g : Int) (w : World) (hE : Env w) (k1 : 1 ≤ k) (k3 : k ≤ 3) (s0 : 0 ≤ s) (s1 : s < 10000000000) (g0 : 0 ≤ g) (g1 : g ≤ 4294967295) :
    Ret 59 #[nmV k s g, .string ⟨#[c]⟩] w (.string (dText c k s g)) := by
  rw [← cat_text]
  refine nm_text_at c (letterB k) k s g k.toNat w hE ?_ s0 s1 g0 g1 _ _ _ rfl rfl rfl
  rcases (by omega : k = 1 ∨ k = 2 ∨ k = 3) with rfl | rfl | rfl
  · exact .inl ⟨rfl, rfl, rfl⟩
  · exact .inr (.inl ⟨rfl, rfl, rfl⟩)
  · exact .inr (.inr ⟨rfl, rfl, rfl⟩)
end Go.Proofs.YtgckfiadnmjonaaGreatDoor

/- Contracts of package descr: Check, Pack, Unpack, Text, CheckOuter, OuterText. -/
namespace Go.Proofs.YtgckfiadnmjonaaGreatDoor
open Go.RowKit
open Go.Lib (decDigits)

theorem o_check (k s g : Int) (w : World) (g0 : 0 ≤ g) (g1 : g ≤ 4294967295) : Ret 53 #[dV k s g] w (.int .i64 (dErr 64 k s g)) := by
  have hk := fun w => nm_check 64 k s g w g0 g1
  generalize dErr 64 k s g = v at hk
  have HK := Lib.hid hk
  clear hk
  go_enter Tryz.func53, Tryz.ntmps53
  go_wp2_with (first | (go_at_call 75; refine (HK.out _).mono ?_; rintro e w1 ⟨rfl, hb1⟩) | go_in)
  go_returns
  exact ⟨rfl, under hb1⟩
set_option maxHeartbeats 2000000 in
theorem o_text_ok (k s g : Int) (w : World) (hE : Env w) (h : dOk 64 k s g = true) (g0 : 0 ≤ g) (g1 : g ≤ 4294967295) : Ret 36 #[dV k s g] w (.tuple #[.string (dText 58 k s g), .int .i64 0]) := by
  have hk := fun w => o_check k s g w g0 g1
  rw [dErr_ok h] at hk
  rw [dOk_iff] at h
  have ht := fun w hE => nm_text 58 k s g w hE h.1 h.2.1 h.2.2.1 (by omega) g0 g1
  generalize dText 58 k s g = v at ht
  have HK := Lib.hid hk
  have HT := Lib.hid ht
  clear hk h ht
  go_enter Tryz.func36, Tryz.ntmps36
  go_wp2_with fail
  refine (HK.out _).mono ?_
  rintro e w1 ⟨rfl, hb1⟩
  obtain ⟨k1, f1⟩ := bcell hb1
  go_wp2_with (first | (go_at_call 59; refine (HT.out _ ?_).mono ?_; exact (hE.on (under hb1)).on (by go_grown); rintro e w2 ⟨rfl, hb2⟩) | go_in)
  go_returns
  exact ⟨rfl, chain (under hb1) (under hb2)⟩
theorem o_text_bad (k s g : Int) (w : World) (h : dOk 64 k s g = false) (g0 : 0 ≤ g) (g1 : g ≤ 4294967295) : Ret 36 #[dV k s g] w (.tuple #[.string ⟨#[]⟩, .int .i64 2]) := by
  have hk := fun w => o_check k s g w g0 g1
  rw [dErr_bad h] at hk
  have HK := Lib.hid hk
  clear hk h
  go_enter Tryz.func36, Tryz.ntmps36
  go_wp2_with fail
  refine (HK.out _).mono ?_
  rintro e w1 ⟨rfl, hb1⟩
  go_wp2_with fail
  go_returns
  exact ⟨rfl, under hb1⟩
end Go.Proofs.YtgckfiadnmjonaaGreatDoor

/- The texts of resources, as bytes. -/
namespace Go.Proofs.YtgckfiadnmjonaaGreatDoor
set_option linter.unusedVariables false
open Go.Lib (decDigits)
def stL (st : Int) : List UInt8 := if st = 1 then [108, 105, 118, 101] else if st = 2 then [99, 108, 111, 115, 105, 110, 103] else if st = 3 then [114, 101, 108, 101, 97, 115, 101, 100] else [113, 117, 97, 114, 97, 110, 116, 105, 110, 101]
def whL (wy : Int) : List UInt8 := if wy = 1 then [99, 108, 111, 115, 101] else if wy = 2 then [101, 120, 112, 105, 114, 121] else [99, 111, 108, 108, 101, 99, 116]
/-- The words of a text. -/
def rsWords (k i g st wy tr nx : Int) (tag : List UInt8) : List (List UInt8) :=
  [dTextL 58 k i g, stL st] ++ (if st = 1 then [] else [whL wy, decDigits tr.toNat]) ++ (if st = 2 then [decDigits nx.toNat] else []) ++ [quoteL tag]
def rsL (k i g st wy tr nx : Int) (tag : List UInt8) : List UInt8 := Lib.join (rsWords k i g st wy tr nx tag) [32]
def rsText (k i g st wy tr nx : Int) (tag : ByteArray) : ByteArray := ⟨(rsL k i g st wy tr nx tag.data.toList).toArray⟩
def textV (k i g st wy tr nx : Int) (tag : ByteArray) : Value :=
  if rErr k i g st wy tr nx tag = 0 then .tuple #[.string (rsText k i g st wy tr nx tag), .int .i64 0] else .tuple #[.string ⟨#[]⟩, .int .i64 (rErr k i g st wy tr nx tag)]
end Go.Proofs.YtgckfiadnmjonaaGreatDoor

/- strings.Builder's writers at this program (its copyCheck has a branch that the loader leaves out: the library's contracts do not lay here): their contracts. -/
namespace Go.Proofs.YtgckfiadnmjonaaGreatDoor
open Go.RowKit
set_option linter.unusedVariables false
set_option linter.unusedSimpArgs false

abbrev bldT : TypeId := 110
abbrev BF (B b : Nat) (l : List UInt8) (w : World) : Prop := Lib.IsBuilderF 110 5 B b (Lib.byteCells l) w
theorem b_size : (Tryz.prog.info? 110).map (·.size) = some 2 := by kernel_rfl
theorem b_byte : (Tryz.prog.info? 5).map (fun i => (i.zero, i.size, i.bytes)) = some (some (.int .u8 0), 1, 1) := by kernel_rfl
set_option maxHeartbeats 1000000 in
set_option maxRecDepth 100000 in
theorem copy_used (b : Nat) (w : World) (h0 : w.cell? ⟨b, 0, none⟩ = some (.pointer (some ⟨b, 0, none⟩))) :
    Calls Tryz.prog 79 #[.pointer (some ⟨b, 0, none⟩)] w fun e w' => e = .returned (.tuple #[]) ∧ w' = w := by
  obtain ⟨j, hj, _⟩ := Option.map_eq_some_iff.1 b_size
  go_enter Tryz.func79, Tryz.ntmps79
  go_wp2
  rw [Lib.run_neq_ptr_same w _ Tryz.underlying107 hj]
  go_wp2
  go_end0
  exact ⟨rfl, rfl⟩
set_option maxHeartbeats 1000000 in
set_option maxRecDepth 100000 in
theorem copy_fresh (b : Nat) (w : World) (h0 : w.cell? ⟨b, 0, none⟩ = some (.pointer none)) (hsh : w.shape? b = some (110, 2)) (hfz : w.frozen? ⟨b, 0, none⟩ = false) :
    Calls Tryz.prog 79 #[.pointer (some ⟨b, 0, none⟩)] w fun e w' => e = .returned (.tuple #[]) ∧ w' = w.setCell ⟨b, 0, none⟩ (.pointer (some ⟨b, 0, none⟩)) := by
  obtain ⟨j, hj, hjs⟩ := Option.map_eq_some_iff.1 b_size
  go_enter Tryz.func79, Tryz.ntmps79
  go_wp2
  rw [Lib.run_to_unsafe w ⟨b, 0, none⟩ Tryz.underlying107 Tryz.underlying146 hj (by rw [hjs]; decide) hsh (Nat.zero_lt_succ 1)]
  simp only [Result.andThen]
  rw [Oper.upon_value]
  go_wp2
  rw [run_callFunc_extern Tryz.func93 (by kernel_rfl) (by kernel_rfl) (by kernel_rfl) (e := Extern.AbiNoEscape.same) (by kernel_rfl)]
  rw [Lib.run_noEscape]
  simp only [Result.andThen]
  rw [Oper.upon_value]
  go_wp2
  rw [Lib.run_from_unsafe w ⟨b, 0, none⟩ Tryz.underlying146 Tryz.underlying107 hj hsh (by kernel_rfl)]
  simp only [Result.andThen]
  rw [Oper.upon_value]
  go_wp2
  go_end0
  exact ⟨rfl, rfl⟩
theorem copy_c (B b : Nat) (bs : List Value) (w : World) (h : Lib.IsBuilderF 110 5 B b bs w) :
    Calls Tryz.prog 79 #[.pointer (some ⟨b, 0, none⟩)] w fun e w' => e = .returned (.tuple #[]) ∧ (Lib.BuilderAtF 110 5 B b (.pointer (some ⟨b, 0, none⟩)) bs w' ∧ Below B w w' ∧ Lib.OthersKept 5 (some b) w w') := by
  rcases h with h | h
  · refine (copy_fresh b w h.cell0 h.shape h.frozen0).mono ?_
    rintro e w' ⟨rfl, rfl⟩
    exact ⟨rfl, h.used _, (Below.refl B w).setCell (p := ⟨b, 0, none⟩) h.1 _, (Lib.OthersKept.refl _ _ w).setCell ⟨b, 0, none⟩ rfl _⟩
  · refine (copy_used b w h.cell0).mono ?_
    rintro e w' ⟨rfl, rfl⟩
    exact ⟨rfl, h, Below.refl B _, Lib.OthersKept.refl _ _ _⟩
set_option maxHeartbeats 2000000 in
set_option maxRecDepth 100000 in
theorem wbyte_c (B b : Nat) (l : List UInt8) (c : UInt8) (w : World) (h : BF B b l w) (hlen : l.length + 1 ≤ 1000000000) (hBw : B ≤ w.heap.size) :
    Calls Tryz.prog 60 #[.pointer (some ⟨b, 0, none⟩), .int .u8 (c.toNat : Int)] w fun e w' => e = .returned .nilIface ∧ (BF B b (l ++ [c]) w' ∧ Below B w w' ∧ Lib.OthersKept 5 (some b) w w') := by
  obtain ⟨i0, hi, hz0, hz1, hz2⟩ := info_parts b_byte
  have hll : (Lib.byteCells l).length = l.length := Lib.byteCells_length l
  go_enter Tryz.func60, Tryz.ntmps60
  go_wp2_with (go_at_call 79; refine (copy_c B b _ _ h).mono ?_)
  rintro e w1 ⟨rfl, h1, hb1, hk1⟩
  obtain ⟨hB, v, hbk, hown, hne⟩ := h1
  rw [hll] at hown
  have c0 : w1.cell? ⟨b, 0, none⟩ = some (.pointer (some ⟨b, 0, none⟩)) := by rw [Lib.cell_of_heap hbk]; rfl
  have c1 : w1.cell? ⟨b, 1, none⟩ = some v := by rw [Lib.cell_of_heap hbk]; rfl
  have hlt : b < w1.heap.size := (Array.getElem?_eq_some_iff.1 hbk).1
  have hs1 := hb1.size
  go_wp2_with (at_builtin; refine wpList_append_ownF _ rfl _ _ 108 rfl B 5 i0 (.int .u8 0) 1 1 Tryz.underlying108 hi hz0 hz1 hz2 rfl (by decide) _ _ _ rfl (hown.alloc _) ⟨w1.heap.size, 0, none⟩ 1 1 [.int .u8 (c.toNat : Int)] rfl rfl (by intro j u hj; match j, hj with | 0, hj => (simp at hj; subst hj; simp [Addr.add])) (by intro u hu; simp at hu; subst hu; rfl) (by unfold maxLen; omega) (by omega) (by simp; omega) ?_)
  intro v' w2 hown' hgrow hnil
  have hb2 : w2.heap[b]? = some (.cells #[.pointer (some ⟨b, 0, none⟩), v] 110 (0, 0)) := by
    rw [hgrow.block b (by simp; omega) (fun e => hne e.symm), Lib.alloc_old w1 _ b hlt]
    exact hbk
  have d0 : w2.cell? ⟨b, 0, none⟩ = some (.pointer (some ⟨b, 0, none⟩)) := by rw [Lib.cell_of_heap hb2]; rfl
  have d1 : w2.cell? ⟨b, 1, none⟩ = some v := by rw [Lib.cell_of_heap hb2]; rfl
  have f1 : w2.frozen? ⟨b, 1, none⟩ = false := Lib.frozen_of_heap hb2 1
  obtain ⟨g, cap, rfl⟩ : ∃ g cap, v' = .slice (some ⟨g, 0, none⟩) (l.length + 1) cap := by
    rcases hown'.2 with ⟨_, h0⟩ | ⟨g, cap, cur, fz, hv, _⟩
    · omega
    · exact ⟨g, cap, hv⟩
  go_wp2
  go_ret
  refine ⟨rfl, .inr ?_, ?_, ((hk1.alloc _).grown hgrow (Lib.ownsRowF_kind (hown.alloc _))).setCell ⟨b, 1, none⟩ rfl _⟩
  · rw [Lib.byteCells_append]
    exact Lib.BuilderAtF.put (T := 110) (e := 5) hB hb2 (bs' := Lib.byteCells l ++ Lib.byteCells [c]) (by rw [List.length_append, hll]; exact hown') (by decide)
  · exact ((hb1.alloc (by omega) _).grown hgrow (by simp; omega) (fun k hk => (hown.lt k hk).1)).setCell (p := ⟨b, 1, none⟩) hB _
set_option maxHeartbeats 2000000 in
set_option maxRecDepth 100000 in
theorem wrune_c (B b : Nat) (l : List UInt8) (r : Nat) (hr : r ≤ 2147483647) (w : World) (h : BF B b l w) (hlen : l.length + 4 ≤ 1000000000) (hBw : B ≤ w.heap.size) :
    Calls Tryz.prog 61 #[.pointer (some ⟨b, 0, none⟩), .int .i32 r] w fun e w' => e = .returned (.tuple #[.int .i64 (Lib.encodeRune (r : Int)).length, .nilIface]) ∧ (BF B b (l ++ Lib.encodeRune (r : Int)) w' ∧ Below B w w' ∧ Lib.OthersKept 5 (some b) w w') := by
  have hll : (Lib.byteCells l).length = l.length := Lib.byteCells_length l
  have hr4 := Lib.runeCells_le (r : Int)
  have hrl : (Lib.runeCells (r : Int)).length = (Lib.encodeRune (r : Int)).length := Lib.runeCells_length _
  rw [hrl] at hr4
  go_enter Tryz.func61, Tryz.ntmps61
  go_wp2_with (go_at_call 79; refine (copy_c B b _ _ h).mono ?_)
  rintro e w1 ⟨rfl, h1, hb1, hk1⟩
  obtain ⟨hB, v, hbk, hown, hne⟩ := h1
  rw [hll] at hown
  obtain ⟨ao, cap, rfl⟩ : ∃ ao cap, v = .slice ao l.length cap := by
    rcases hown.2 with ⟨hv, h0⟩ | ⟨g, cap, cur, fz, hv, _⟩
    · exact ⟨none, 0, by rw [hv, h0]⟩
    · exact ⟨_, _, hv⟩
  have c0 : w1.cell? ⟨b, 0, none⟩ = some (.pointer (some ⟨b, 0, none⟩)) := by rw [Lib.cell_of_heap hbk]; rfl
  have c1 : w1.cell? ⟨b, 1, none⟩ = some (.slice ao l.length cap) := by rw [Lib.cell_of_heap hbk]; rfl
  have hlt : b < w1.heap.size := (Array.getElem?_eq_some_iff.1 hbk).1
  have hs1 := hb1.size
  go_wp2_with (go_at_call 80; refine (Tryz.utf8_AppendRune_row B _ l.length (Lib.byteCells l) r (by omega) (by omega) _ hown (by omega) (by omega)).mono ?_)
  rintro e w2 ⟨v', rfl, hown', o, hgrow⟩
  have hb2 : w2.heap[b]? = some (.cells #[.pointer (some ⟨b, 0, none⟩), .slice ao l.length cap] 110 (0, 0)) := by
    rw [hgrow.block b (by simp; omega) (fun e => hne e.symm), Lib.alloc_old w1 _ b hlt]
    exact hbk
  have d0 : w2.cell? ⟨b, 0, none⟩ = some (.pointer (some ⟨b, 0, none⟩)) := by rw [Lib.cell_of_heap hb2]; rfl
  have d1 : w2.cell? ⟨b, 1, none⟩ = some (.slice ao l.length cap) := by rw [Lib.cell_of_heap hb2]; rfl
  have f1 : w2.frozen? ⟨b, 1, none⟩ = false := Lib.frozen_of_heap hb2 1
  rw [hrl] at hown'
  obtain ⟨ao', cap', rfl⟩ : ∃ ao' cap', v' = .slice ao' (l.length + (Lib.encodeRune (r : Int)).length) cap' := by
    rcases hown'.2 with ⟨hv, h0⟩ | ⟨g, cap, cur, fz, hv, _⟩
    · exact ⟨none, 0, by rw [hv, h0]⟩
    · exact ⟨_, _, hv⟩
  go_wp2_with fail
  rw [show ((l.length : Int) + ((Lib.encodeRune (r : Int)).length : Int) - (l.length : Int)) = ((Lib.encodeRune (r : Int)).length : Int) by omega]
  go_returns
  refine ⟨rfl, .inr ?_, ?_, ((hk1.alloc _).grown hgrow (Lib.ownsRowF_kind (hown.alloc _))).setCell ⟨b, 1, none⟩ rfl _⟩
  · rw [Lib.byteCells_append, Lib.byteCells_encodeRune]
    exact Lib.BuilderAtF.put (T := 110) (e := 5) hB hb2 (bs' := Lib.byteCells l ++ Lib.runeCells r) (by rw [List.length_append, hll, hrl]; exact hown') (by decide)
  · exact ((hb1.alloc (by omega) _).grown hgrow (by simp; omega) (fun k hk => (hown.lt k hk).1)).setCell (p := ⟨b, 1, none⟩) hB _
theorem bstr_c (B b : Nat) (l : List UInt8) (w : World) (h : BF B b l w) (hBw : B ≤ w.heap.size) :
    Calls Tryz.prog 62 #[.pointer (some ⟨b, 0, none⟩)] w fun e w' => e = .returned (.string ⟨l.toArray⟩) ∧ BF B b l w' ∧ Below B w w' :=
  (Tryz.Builder_String_any_f B b l w h hBw).mono (fun e w' h => h)
/-- A builder stays one over a call that leaves the old blocks as they were. -/
theorem BF_on {B b : Nat} {l : List UInt8} {w w' : World} (h : BF B b l w) (hb : Below w.heap.size w w') : BF B b l w' := by
  have key : ∀ p, Lib.BuilderAtF 110 5 B b p (Lib.byteCells l) w → Lib.BuilderAtF 110 5 B b p (Lib.byteCells l) w' := by
    intro p h
    obtain ⟨hB, v, hbk, hown, hne⟩ := h
    refine ⟨hB, v, (hb.block b (Array.getElem?_eq_some_iff.1 hbk).1).trans hbk, ⟨hown.1, ?_⟩, hne⟩
    rcases hown.2 with h0 | ⟨g, cap, cur, fz, h1, h2, h3, h4⟩
    · exact .inl h0
    · exact .inr ⟨g, cap, cur, fz, h1, h2, (hb.block g (Array.getElem?_eq_some_iff.1 h3).1).trans h3, h4⟩
  exact h.imp (key _) (key _)
end Go.Proofs.YtgckfiadnmjonaaGreatDoor

/- tags.Quote and tags.Unquote: their contracts. -/
namespace Go.Proofs.YtgckfiadnmjonaaGreatDoor
open Go.RowKit
set_option linter.unusedVariables false
set_option linter.unusedSimpArgs false

theorem enc_high (r : Nat) (h : 128 ≤ r) (h2 : r ≤ 1114111) : ∀ b ∈ Lib.encodeRune (r : Int), b ≠ 34 ∧ b ≠ 92 := by
  intro b hb
  have key : ∀ z : Int, 128 ≤ z → z ≤ 255 → ∀ b : UInt8, b = z.toNat.toUInt8 → b ≠ 34 ∧ b ≠ 92 := by
    intro z h0 h1 b hb
    have h3 : b.toNat = z.toNat := by rw [hb]; simp [Nat.toUInt8]; omega
    constructor <;> intro e <;> rw [e] at h3 <;> simp at h3 <;> omega
  unfold Lib.encodeRune at hb
  obtain ⟨z, hz, rfl⟩ := List.mem_map.1 hb
  refine key z ?_ ?_ _ rfl
  · unfold Lib.encodeRuneZ at hz
    split at hz
    · omega
    · split at hz
      · simp at hz; omega
      · split at hz
        · simp at hz; omega
        · split at hz <;> simp at hz <;> omega
  · unfold Lib.encodeRuneZ at hz
    split at hz
    · omega
    · split at hz
      · simp at hz; omega
      · split at hz
        · simp at hz; omega
        · split at hz <;> simp at hz <;> omega
theorem escL_same (l : List UInt8) (h : ∀ b ∈ l, b ≠ 34 ∧ b ≠ 92) : escL l = l := by
  induction l with
  | nil => rfl
  | cons b t ih =>
    obtain ⟨h1, h2⟩ := h b (by simp)
    show escB b ++ escL t = _
    rw [ih (fun x hx => h x (by simp [hx]))]
    unfold escB
    rw [if_neg (by rintro (e | e); exact h1 e; exact h2 e)]
    rfl
theorem escL_append (a b : List UInt8) : escL (a ++ b) = escL a ++ escL b := by simp [escL]
theorem rune_le {l : List UInt8} {r n : Nat} (h : rnL l = some (r, n)) : r ≤ 1114111 := by
  obtain ⟨h1, -⟩ := rnL_some h
  rw [Lib.decodeL_N] at h1
  rcases Lib.decodeN_shape l.length (l.getD 0 0).toNat (l.getD 1 0).toNat (l.getD 2 0).toNat (l.getD 3 0).toNat with ⟨c, e⟩ | ⟨c1, c2, c3, cv, e⟩ | ⟨c1, c2, c3, c4, cv, cs, e⟩ | ⟨c1, c2, c3, c4, c5, cv, cw, e⟩ | e
  all_goals
    rw [h1] at e
    injection e with e1 e2
  · omega
  · have := (l.getD 0 0).toNat_lt; omega
  · have := (l.getD 0 0).toNat_lt; omega
  · omega
  · omega
/-- A rune's bytes, escaped. -/
theorem esc_rune {l : List UInt8} (hne : l ≠ []) {r n : Nat} (h : rnL l = some (r, n)) : escL (l.take n) = if r = 34 ∨ r = 92 then 92 :: Lib.encodeRune (r : Int) else Lib.encodeRune (r : Int) := by
  have hle := rune_le h
  rw [← rnL_bytes hne h]
  by_cases h1 : r = 34 ∨ r = 92
  · rw [if_pos h1]
    rcases h1 with rfl | rfl <;> decide
  · rw [if_neg h1]
    apply escL_same
    by_cases h2 : r < 128
    · intro b hb
      unfold Lib.encodeRune at hb
      rw [Lib.encodeRuneZ_one (by omega) (by omega)] at hb
      simp at hb
      have h3 : b.toNat = r := by rw [hb]; simp [Nat.toUInt8]; omega
      constructor <;> intro e <;> rw [e] at h3 <;> simp at h3 <;> omega
    · exact enc_high r (by omega) hle
theorem take_step {s : ByteArray} {pos r n : Nat} (hp : pos < s.size) (h : rnAt s pos = some (r, n)) : escL (s.data.toList.take (pos + n)) = escL (s.data.toList.take pos) ++ (if r = 34 ∨ r = 92 then 92 :: Lib.encodeRune (r : Int) else Lib.encodeRune (r : Int)) := by
  rw [List.take_add, escL_append, esc_rune (drop_ne hp) h]
def quoteV (l : List UInt8) : Value := if tagOk l then .tuple #[.string ⟨(quoteL l).toArray⟩, .int .i64 0] else .tuple #[.string ⟨#[]⟩, .int .i64 16]
set_option maxHeartbeats 4000000 in
set_option maxRecDepth 100000 in
theorem tquote_c (s : ByteArray) (w : World) (hs : s.size ≤ 1000000) : Ret 37 #[.string s] w (quoteV s.data.toList) := by
  have c := fun w => tcheck_c s w hs
  unfold tagErr at c
  unfold quoteV
  by_cases hok : tagOk s.data.toList = true
  · rw [if_pos hok] at c ⊢
    have C := Lib.hid c
    clear c
    obtain ⟨rs, hrs⟩ : ∃ rs, runesL s.data.toList = some rs := by
      unfold tagOk at hok
      cases h : runesL s.data.toList with
      | none => rw [h] at hok; cases hok
      | some rs => exact ⟨rs, rfl⟩
    clear hok
    go_enter Tryz.func37, Tryz.ntmps37
    go_wp2_with fail
    refine Calls.mono (C.out _) ?_
    rintro e w1 ⟨rfl, hb⟩
    go_wp2_with fail
    have hI : BF w1.heap.size w1.heap.size [] (w1.alloc (.cells #[.pointer none, .slice none 0 0] 110)) := Lib.IsBuilderF.of (Lib.fresh_isBuilder _ _ w1)
    have hc := hb.alloc hb.size (.cells #[.pointer none, .slice none 0 0] 110)
    refine Calls.mono (wbyte_c w1.heap.size w1.heap.size [] 34 _ hI (by simp) (by simp)) ?_
    rintro e w2 ⟨rfl, hI2, hb2, -⟩
    have hc2 : Below w.heap.size w w2 := hc.trans (hb2.mono hb.size)
    have hw1 : w1.heap.size < w2.heap.size := by have := hb2.size; simp at this; omega
    have hw0 : w.heap.size ≤ w1.heap.size := hb.size
    clear hI hc hb hb2
    generalize w1.heap.size = b at *
    go_wp2_with fail
    go_loopw [] (fun wr => ∃ (pos : Nat), BF b b (34 :: escL (s.data.toList.take pos)) wr ∧ wr.heap[w2.heap.size]? = some (.stringIter s pos) ∧ Below w.heap.size w wr ∧ (∃ xs, runesL (s.data.toList.drop pos) = some xs) ∧ pos ≤ s.size) (fun wr => s.size - wr.iterPos w2.heap.size)
    case atStart =>
      refine ⟨0, hI2.alloc _, World.iter_heap w2 s 0, hc2.alloc hc2.size _, ⟨rs, by rw [List.drop_zero]; exact hrs⟩, by omega⟩
    case round =>
      clear hI2 hc2 hrs
      obtain ⟨pos, hI, hit, hB, ⟨xs, hxs⟩, hps⟩ := hrel
      have hsz : w2.heap.size < wr.heap.size := (Array.getElem?_eq_some_iff.1 hit).1
      by_cases hp : pos < s.size
      · have hnx : ∀ ty, (Instr.next (.pointer (some ⟨w2.heap.size, 0, none⟩)) true ty).run Tryz.prog wr = _ := fun ty => Lib.run_next_any_at wr w2.heap.size s pos ty hit hp
        cases hr : rnAt s pos with
        | none => rw [runes_at_none hp hr] at hxs; cases hxs
        | some p =>
          obtain ⟨r, n⟩ := p
          rw [(rnAt_decode hr).1] at hnx
          have hwd := rnAt_width hp hr
          have hrl := rnAt_le hr
          have hns := runes_at hp hr
          rw [hxs] at hns
          have hit2 := Lib.iterAt_heap wr w2.heap.size s pos (pos + n) hit
          have hI2 := hI.iterAt hit (pos + n)
          have hB2 := Lib.below_iterAt hB (k := w2.heap.size) (by omega) s (pos + n)
          have hsz2 : b ≤ (wr.iterAt w2.heap.size s (pos + n)).heap.size := by rw [Lib.iterAt_size]; omega
          have hts := take_step hp hr
          have hel : (escL (s.data.toList.take pos)).length ≤ 2000000 := by
            have h1 := (escL_len (s.data.toList.take pos)).2
            have h2 := List.length_take_le' pos s.data.toList
            rw [len_bytes] at h2
            omega
          have hel2 : ∀ y : List UInt8, (34 :: (escL (s.data.toList.take pos)) : List UInt8).length ≤ 2000001 := fun _ => by simp; omega
          have hxs2 : ∃ ys, runesL (s.data.toList.drop (pos + n)) = some ys := by
            cases hy : runesL (s.data.toList.drop (pos + n)) with
            | none => rw [hy] at hns; cases hns
            | some ys => exact ⟨ys, rfl⟩
          by_cases hq : r = 34 ∨ r = 92
          · rw [if_pos hq] at hts
            rcases hq with rfl | rfl
            · go_wp2_with fail
              refine Calls.mono (wbyte_c b b _ 92 _ hI2 (by simp; omega) hsz2) ?_
              rintro e u1 ⟨rfl, hI3, hb3, hk3⟩
              have hit3 := hk3.iter hit2 (by omega)
              have hsz3 := hb3.size
              go_wp2_with fail
              refine Calls.mono (wrune_c b b _ 34 (by omega) _ hI3 (by simp; omega) (by omega)) ?_
              rintro e u2 ⟨rfl, hI4, hb4, hk4⟩
              go_wp2_with fail
              refine ⟨⟨pos + n, ?_, hk4.iter hit3 (by omega), (hB2.trans (hb3.mono hw0)).trans (hb4.mono hw0), hxs2, by omega⟩, ?_⟩
              · rw [hts]
                simpa using hI4
              · simp only [World.iterPos, hk4.iter hit3 (by omega), hit]
                omega
            · go_wp2_with fail
              refine Calls.mono (wbyte_c b b _ 92 _ hI2 (by simp; omega) hsz2) ?_
              rintro e u1 ⟨rfl, hI3, hb3, hk3⟩
              have hit3 := hk3.iter hit2 (by omega)
              have hsz3 := hb3.size
              go_wp2_with fail
              refine Calls.mono (wrune_c b b _ 92 (by omega) _ hI3 (by simp; omega) (by omega)) ?_
              rintro e u2 ⟨rfl, hI4, hb4, hk4⟩
              go_wp2_with fail
              refine ⟨⟨pos + n, ?_, hk4.iter hit3 (by omega), (hB2.trans (hb3.mono hw0)).trans (hb4.mono hw0), hxs2, by omega⟩, ?_⟩
              · rw [hts]
                simpa using hI4
              · simp only [World.iterPos, hk4.iter hit3 (by omega), hit]
                omega
          · rw [if_neg hq] at hts
            have q1 : ((r : Int) == 34) = false := by rw [beq_eq_false_iff_ne]; omega
            have q2 : ((r : Int) == 92) = false := by rw [beq_eq_false_iff_ne]; omega
            go_wp2_with fail
            refine Calls.mono (wrune_c b b _ r (by omega) _ hI2 (by simp; omega) hsz2) ?_
            rintro e u2 ⟨rfl, hI4, hb4, hk4⟩
            go_wp2_with fail
            refine ⟨⟨pos + n, ?_, hk4.iter hit2 (by omega), hB2.trans (hb4.mono hw0), hxs2, by omega⟩, ?_⟩
            · rw [hts]
              simpa using hI4
            · simp only [World.iterPos, hk4.iter hit2 (by omega), hit]
              omega
      · have hnx : ∀ ty, (Instr.next (.pointer (some ⟨w2.heap.size, 0, none⟩)) true ty).run Tryz.prog wr = _ := fun ty => Lib.run_next_end_at wr w2.heap.size s pos ty hit hp
        have hte : s.data.toList.take pos = s.data.toList := List.take_of_length_le (by rw [len_bytes]; omega)
        rw [hte] at hI
        have hel : (escL s.data.toList).length ≤ 2000000 := by
          have h1 := (escL_len s.data.toList).2
          rw [len_bytes] at h1
          omega
        go_wp2_with fail
        refine Calls.mono (wbyte_c b b _ 34 _ hI (by simp; omega) (by omega)) ?_
        rintro e u1 ⟨rfl, hI3, hb3, hk3⟩
        have hsz3 := hb3.size
        go_wp2_with fail
        refine Calls.mono (bstr_c b b _ _ hI3 (by omega)) ?_
        rintro e u2 ⟨rfl, -, hb4⟩
        go_wp2_with fail
        go_returns
        exact ⟨by simp [quoteL], (hB.trans (hb3.mono hw0)).trans (hb4.mono hw0)⟩
  · rw [if_neg hok] at c ⊢
    have C := Lib.hid c
    clear c
    go_enter Tryz.func37, Tryz.ntmps37
    go_wp2_with fail
    refine Calls.mono (C.out _) ?_
    rintro e w1 ⟨rfl, hb⟩
    go_wp2_with fail
    go_returns
    exact ⟨rfl, hb⟩
end Go.Proofs.YtgckfiadnmjonaaGreatDoor

/- tags.Unquote: its contract. -/
namespace Go.Proofs.YtgckfiadnmjonaaGreatDoor
open Go.RowKit
set_option linter.unusedVariables false
set_option linter.unusedSimpArgs false

def unqV (l : List UInt8) : Value := .tuple #[.string ⟨(unqL l).1.toArray⟩, .int .i64 ((unqL l).2.1 : Nat), .int .i64 (unqL l).2.2]
abbrev unqBad (e : Int) : Value := .tuple #[.string ⟨#[]⟩, .int .i64 0, .int .i64 e]
theorem unqV_head {l : List UInt8} (h : Lib.hasPrefix l [34] = false) : unqV l = unqBad 9 := by
  unfold unqV
  rw [show unqL l = ([], 0, 9) by
    cases l with
    | nil => rfl
    | cons c t =>
      by_cases hc : c = 34
      · subst hc
        simp [Lib.hasPrefix] at h
      · unfold unqL
        split
        · rename_i e
          injection e with e1 e2
          exact absurd e1 hc
        · rfl]
  rfl
theorem unqV_none {t : List UInt8} (h : scanL t = none) : unqV (34 :: t) = unqBad 9 := by
  unfold unqV
  rw [show unqL (34 :: t) = ([], 0, 9) by unfold unqL; simp only [h]]
  rfl
theorem unqV_some {t x : List UInt8} {n : Nat} (h : scanL t = some (x, n)) : unqV (34 :: t) = if tagOk x then .tuple #[.string ⟨x.toArray⟩, .int .i64 (n + 1 : Nat), .int .i64 0] else unqBad 16 := by
  unfold unqV
  by_cases hx : tagOk x = true
  · rw [show unqL (34 :: t) = (x, n + 1, 0) by unfold unqL; simp only [h]; rw [if_pos hx], if_pos hx]
  · rw [show unqL (34 :: t) = ([], 0, 16) by unfold unqL; simp only [h]; rw [if_neg hx], if_neg hx]
    rfl
theorem drop_cons (s : ByteArray) (i : Nat) (h : i < s.size) : s.data.toList.drop i = s[i] :: s.data.toList.drop (i + 1) := by
  have h' : i < s.data.toList.length := by rw [len_bytes]; exact h
  rw [List.drop_eq_getElem_cons h']
  rfl
/-- What is behind the place i, with the backslash ahead where one is open. -/
def pend (s : ByteArray) (i : Nat) (esc : Bool) : List UInt8 := if esc then 92 :: s.data.toList.drop i else s.data.toList.drop i
/-- The scan so far: acc is read, off bytes are taken. -/
def Sc (t : List UInt8) (acc : List UInt8) (off : Nat) (rest : List UInt8) : Prop := scanL t = (scanL rest).map fun x => (acc ++ x.1, off + x.2)
theorem byt_is {a c : UInt8} (h : a = c) (m : Int) (hm : (c.toNat : Int) = m) : ((a.toNat : Int) != m) = false ∧ ((a.toNat : Int) == m) = true := by
  subst h
  rw [hm]
  simp
theorem byt_not {a c : UInt8} (h : a ≠ c) (m : Int) (hm : (c.toNat : Int) = m) : ((a.toNat : Int) != m) = true ∧ ((a.toNat : Int) == m) = false := by
  have : ¬ (a.toNat : Int) = m := fun e => h (UInt8.toNat_inj.1 (by omega))
  exact ⟨by rw [bne_iff_ne]; exact this, by rw [beq_eq_false_iff_ne]; exact this⟩
set_option maxHeartbeats 8000000 in
set_option maxRecDepth 100000 in
theorem tunq_c (s : ByteArray) (w : World) (hs : s.size ≤ 1000000) : Ret 73 #[.string s] w (unqV s.data.toList) := by
  have hpf := Tryz.strings_HasPrefix s ⟨#[34]⟩
  rw [show (⟨#[34]⟩ : ByteArray).data.toList = [34] from rfl] at hpf
  cases hq : Lib.hasPrefix s.data.toList [34] with
  | false =>
    rw [hq] at hpf
    have HPF := Lib.hid hpf
    clear hpf
    rw [unqV_head hq]
    go_enter Tryz.func73, Tryz.ntmps73
    go_wp2_with (go_at_call 76; refine (HPF.out _).mono ?_; rintro e w' ⟨rfl, rfl⟩)
    go_returns
    exact ⟨rfl, Below.refl _ _⟩
  | true =>
    rw [hq] at hpf
    have HPF := Lib.hid hpf
    clear hpf
    obtain ⟨t, ht⟩ : ∃ t, s.data.toList = 34 :: t := by
      unfold Lib.hasPrefix at hq
      rw [List.isPrefixOf_iff_prefix] at hq
      obtain ⟨t, ht⟩ := hq
      exact ⟨t, ht.symm⟩
    have hsz : s.size = t.length + 1 := by rw [← len_bytes, ht]; simp
    have hd1 : s.data.toList.drop 1 = t := by rw [ht]; rfl
    rw [ht]
    go_enter Tryz.func73, Tryz.ntmps73
    go_wp2_with (go_at_call 76; refine (HPF.out _).mono ?_; rintro e w' ⟨rfl, rfl⟩)
    have hI : BF w'.heap.size w'.heap.size [] (w'.alloc (.cells #[.pointer none, .slice none 0 0] 110)) := Lib.IsBuilderF.of (Lib.fresh_isBuilder _ _ w')
    have hc := (Below.refl w'.heap.size w').alloc (Nat.le_refl _) (.cells #[.pointer none, .slice none 0 0] 110)
    clear HPF hq
    go_loopw [6, 7] (fun ev iv wr => ∃ (i : Nat) (esc : Bool) (acc : List UInt8), ev = .bool esc ∧ iv = .int .i64 i ∧ 1 ≤ i ∧ (esc = true → 2 ≤ i) ∧ i ≤ s.size ∧ acc.length ≤ i ∧ BF w'.heap.size w'.heap.size acc wr ∧ Below w'.heap.size w' wr ∧ Sc t acc (i - 1 - (if esc then 1 else 0)) (pend s i esc)) (fun _ iv _ => s.size - (intOf iv).toNat)
    case atStart =>
      refine ⟨1, false, [], rfl, rfl, by omega, by simp, by omega, by simp, hI, hc, ?_⟩
      unfold Sc pend
      simp [hd1]
    case round =>
      clear hI hc
      obtain ⟨i, esc, acc, rfl, rfl, h1, h2, hi, hal, hI, hB, hS⟩ := hrel
      by_cases hlt : i < s.size
      · have hlt2 : (i : Int) < (s.size : Int) := by omega
        have hdc := drop_cons s i hlt
        cases esc with
        | true =>
          have hS2 : Sc t acc (i - 2) (92 :: s[i] :: s.data.toList.drop (i + 1)) := by
            rw [← hdc]
            have := hS
            unfold pend at this
            simp only [if_true] at this
            rw [show i - 1 - 1 = i - 2 by omega] at this
            exact this
          unfold Sc at hS2
          rw [scanL_slash] at hS2
          have h2i := h2 rfl
          by_cases hq : s[i] = 34 ∨ s[i] = 92
          · rw [if_pos hq, Option.map_map] at hS2
            have hS3 : Sc t (acc ++ [s[i]]) (i + 1 - 1 - (if false = true then 1 else 0)) (pend s (i + 1) false) := by
              unfold Sc pend
              rw [hS2]
              simp only [Bool.false_eq_true, if_false]
              congr 1
              funext x
              refine Prod.ext ?_ ?_
              · simp
              · simp; omega
            have HI := Lib.hid hI
            clear hS hS2 hI hdc ht hd1
            have HB := Lib.hid hB
            clear hB
            rcases hq with hq | hq
            · obtain ⟨k1, k2⟩ := byt_is hq 34 rfl
              rw [hq] at hS3
              have HS := Lib.hid hS3
              clear hS3
              go_wp2_with fail
              refine Calls.mono (wbyte_c _ _ acc 34 _ HI.out (by omega) HB.out.size) ?_
              rintro e u1 ⟨rfl, hI3, hb3, -⟩
              go_wp2_with fail
              exact ⟨⟨i + 1, false, acc ++ [34], rfl, by go_num, by omega, by simp, by omega, by simp; omega, hI3, HB.out.trans hb3, HS.out⟩, by simp [intOf]; omega⟩
            · obtain ⟨k1, k2⟩ := byt_is hq 92 rfl
              obtain ⟨k3, k4⟩ := byt_not (a := s[i]) (c := 34) (by rw [hq]; decide) 34 rfl
              rw [hq] at hS3
              have HS := Lib.hid hS3
              clear hS3
              go_wp2_with fail
              refine Calls.mono (wbyte_c _ _ acc 92 _ HI.out (by omega) HB.out.size) ?_
              rintro e u1 ⟨rfl, hI3, hb3, -⟩
              go_wp2_with fail
              exact ⟨⟨i + 1, false, acc ++ [92], rfl, by go_num, by omega, by simp, by omega, by simp; omega, hI3, HB.out.trans hb3, HS.out⟩, by simp [intOf]; omega⟩
          · rw [if_neg hq] at hS2
            have HV := Lib.hid (unqV_none hS2)
            have HB := Lib.hid hB
            clear hB hS hS2 hI hdc ht hd1
            obtain ⟨k1, k2⟩ := byt_not (a := s[i]) (c := 34) (fun e => hq (.inl e)) 34 rfl
            obtain ⟨k3, k4⟩ := byt_not (a := s[i]) (c := 92) (fun e => hq (.inr e)) 92 rfl
            go_wp2_with fail
            rw [HV.out]
            go_returns
            exact ⟨rfl, HB.out⟩
        | false =>
          have hS2 : Sc t acc (i - 1) (s[i] :: s.data.toList.drop (i + 1)) := by
            rw [← hdc]
            exact hS
          unfold Sc at hS2
          have HB := Lib.hid hB
          have HI := Lib.hid hI
          clear hB hI hS hdc ht hd1
          by_cases hq : s[i] = 34
          · rw [hq, scanL_quote] at hS2
            simp only [Option.map_some, List.append_nil] at hS2
            rw [show i - 1 + 1 = i by omega] at hS2
            have hv := unqV_some hS2
            have c := fun w => tcheck_c ⟨acc.toArray⟩ w (by rw [← len_bytes]; simp; omega)
            unfold tagErr at c
            rw [show (⟨acc.toArray⟩ : ByteArray).data.toList = acc by simp] at c
            obtain ⟨k1, k2⟩ := byt_is hq 34 rfl
            obtain ⟨k3, k4⟩ := byt_not (a := s[i]) (c := 92) (by rw [hq]; decide) 92 rfl
            cases hok : tagOk acc with
            | true =>
              rw [hok] at c hv
              simp only [if_true] at c hv
              have HV := Lib.hid hv
              have C := Lib.hid c
              clear hv c hS2 hok
              go_wp2_with fail
              refine Calls.mono (bstr_c _ _ acc _ HI.out HB.out.size) ?_
              rintro e u1 ⟨rfl, hI3, hb3⟩
              go_wp2_with fail
              refine Calls.mono (C.out _) ?_
              rintro e u2 ⟨rfl, hb4⟩
              go_wp2_with fail
              refine Calls.mono (bstr_c _ _ acc _ (BF_on hI3 hb4) (by have := HB.out.size; have := hb3.size; have := hb4.size; omega)) ?_
              rintro e u3 ⟨rfl, -, hb5⟩
              go_wp2_with fail
              rw [HV.out]
              go_returns
              exact ⟨rfl, ((HB.out.trans hb3).trans (hb4.mono (HB.out.trans hb3).size)).trans hb5⟩
            | false =>
              rw [hok] at c hv
              simp only [Bool.false_eq_true, if_false] at c hv
              have HV := Lib.hid hv
              have C := Lib.hid c
              clear hv c hS2 hok
              go_wp2_with fail
              refine Calls.mono (bstr_c _ _ acc _ HI.out HB.out.size) ?_
              rintro e u1 ⟨rfl, hI3, hb3⟩
              go_wp2_with fail
              refine Calls.mono (C.out _) ?_
              rintro e u2 ⟨rfl, hb4⟩
              go_wp2_with fail
              rw [HV.out]
              go_returns
              exact ⟨rfl, (HB.out.trans hb3).trans (hb4.mono (HB.out.trans hb3).size)⟩
          · obtain ⟨k1, k2⟩ := byt_not hq 34 rfl
            by_cases hq2 : s[i] = 92
            · obtain ⟨k3, k4⟩ := byt_is hq2 92 rfl
              have hS3 : Sc t acc (i + 1 - 1 - (if true = true then 1 else 0)) (pend s (i + 1) true) := by
                unfold Sc pend
                rw [hS2, hq2]
                simp only [if_true]
                rw [show i + 1 - 1 - 1 = i - 1 by omega]
              have HS := Lib.hid hS3
              clear hS2 hS3
              go_wp2_with fail
              exact ⟨⟨i + 1, true, acc, rfl, by go_num, by omega, fun _ => by omega, by omega, by omega, HI.out, HB.out, HS.out⟩, by simp [intOf]; omega⟩
            · obtain ⟨k3, k4⟩ := byt_not hq2 92 rfl
              have hS3 : Sc t (acc ++ [s[i]]) (i + 1 - 1 - (if false = true then 1 else 0)) (pend s (i + 1) false) := by
                unfold Sc pend
                rw [hS2, scanL_cons _ _ hq hq2, Option.map_map]
                simp only [Bool.false_eq_true, if_false]
                congr 1
                funext x
                refine Prod.ext ?_ ?_
                · simp
                · simp; omega
              have HS := Lib.hid hS3
              clear hS2 hS3
              go_wp2_with fail
              refine Calls.mono (wbyte_c _ _ acc s[i] _ HI.out (by omega) HB.out.size) ?_
              rintro e u1 ⟨rfl, hI3, hb3, -⟩
              go_wp2_with fail
              exact ⟨⟨i + 1, false, acc ++ [s[i]], rfl, by go_num, by omega, by simp, by omega, by simp; omega, hI3, HB.out.trans hb3, HS.out⟩, by simp [intOf]; omega⟩
      · obtain rfl : i = s.size := by omega
        have hlt2 : ¬ (s.size : Int) < (s.size : Int) := by omega
        have hdn : s.data.toList.drop s.size = [] := List.drop_of_length_le (by rw [len_bytes]; exact Nat.le_refl _)
        have hv : unqV (34 :: t) = unqBad 9 := by
          apply unqV_none
          unfold Sc pend at hS
          rw [hdn] at hS
          rw [hS]
          cases esc <;> simp [scanL]
        have HV := Lib.hid hv
        clear hv hS
        go_wp2_with fail
        rw [HV.out]
        go_returns
        exact ⟨rfl, hB⟩
end Go.Proofs.YtgckfiadnmjonaaGreatDoor

/- strconv.Atoi: a number, or an error. -/
namespace Go.Proofs.YtgckfiadnmjonaaGreatDoor
open Go.RowKit

theorem atoi_ok (s : ByteArray) (hs : s.size ≤ 100000) (v : Int) (h : Lib.atoiAll s.data.toList = .ok v) (w : World) :
    Ret 101 #[.string s] w (.tuple #[.int .i64 v, .nilIface]) :=
  (Tryz.strconv_Atoi_ok s (by omega) v h w).mono fun e w' ⟨he, hw⟩ => ⟨he, by
    rcases hw with rfl | ⟨t, rfl⟩
    · exact Below.refl _ _
    · exact Lib.bytesWorld_below _ _ _⟩
theorem atoi_bad (s : ByteArray) (hs : s.size ≤ 100000) (h : ∀ v, Lib.atoiAll s.data.toList ≠ .ok v) (w : World) (hE : EnvP w) :
    Calls Tryz.prog 101 #[.string s] w fun e w' => ∃ (n : Int) (N : Nat), e = .returned (.tuple #[.int .i64 n, .iface 165 (.pointer (some ⟨N, 0, none⟩))]) ∧ Below w.heap.size w w' := by
  obtain ⟨tp, p, _, _, _, hsyn⟩ := hE.syn
  obtain ⟨tq, q, _, _, _, hrng⟩ := hE.rng
  cases hp : Lib.atoiAll s.data.toList with
  | ok u => exact absurd hp (h u)
  | range => exact (Any.strconv_Atoi_range_var Tryz.laysC172 s (by omega) hp tq q w hrng).mono fun e w' ⟨N, he, _, _, hb⟩ => ⟨_, N, he, hb⟩
  | _ => exact (Any.strconv_Atoi_syntax_var Tryz.laysC172 s (by omega) hp tp p w hsyn).mono fun e w' ⟨N, he, _, _, hb⟩ => ⟨_, N, he, hb⟩
end Go.Proofs.YtgckfiadnmjonaaGreatDoor

/- Package descr: a letter's place; strings.Cut at one byte. -/
namespace Go.Proofs.YtgckfiadnmjonaaGreatDoor
open Go.RowKit

def kIdx (x : UInt8) : Int := if x = 102 then 1 else if x = 98 then 2 else if x = 108 then 3 else -1
set_option maxHeartbeats 2000000 in
set_option maxRecDepth 20000 in
theorem index_c (x : UInt8) (b : Nat) (w : World) (h0 : w.cell? ⟨b, 0, none⟩ = some (.string ⟨#[]⟩)) (h1 : w.cell? ⟨b, 1, none⟩ = some (.string ⟨#[102]⟩)) (h2 : w.cell? ⟨b, 2, none⟩ = some (.string ⟨#[98]⟩)) (h3 : w.cell? ⟨b, 3, none⟩ = some (.string ⟨#[108]⟩)) :
    Ret 103 #[.slice (some ⟨b, 0, none⟩) 4 4, .string ⟨#[x]⟩] w (.int .i64 (kIdx x)) := by
  unfold kIdx
  by_cases e1 : x = 102
  · subst e1
    go_enter Tryz.func103, Tryz.ntmps103
    go_wp2
    go_rounds 5
    go_returns
    exact ⟨rfl, by go_grown⟩
  · by_cases e2 : x = 98
    · subst e2
      go_enter Tryz.func103, Tryz.ntmps103
      go_wp2
      go_rounds 5
      go_returns
      exact ⟨rfl, by go_grown⟩
    · by_cases e3 : x = 108
      · subst e3
        go_enter Tryz.func103, Tryz.ntmps103
        go_wp2
        go_rounds 5
        go_returns
        exact ⟨rfl, by go_grown⟩
      · rw [if_neg e1, if_neg e2, if_neg e3]
        have f1 := beq_eq_false_iff_ne.2 e1
        have f2 := beq_eq_false_iff_ne.2 e2
        have f3 := beq_eq_false_iff_ne.2 e3
        clear e1 e2 e3
        go_enter Tryz.func103, Tryz.ntmps103
        go_wp2
        go_rounds 5
        go_returns
        exact ⟨rfl, by go_grown⟩
theorem cut_c (s : ByteArray) (c : UInt8) (w : World) (hE : Env w) (hs : s.size ≤ 100000) :
    Ret 88 #[.string s, .string ⟨#[c]⟩] w (.tuple #[.string ⟨(Lib.cut s.data.toList [c]).1.toArray⟩, .string ⟨(Lib.cut s.data.toList [c]).2.1.toArray⟩, .bool (Lib.cut s.data.toList [c]).2.2]) :=
  (Tryz.strings_Cut_shaped s ⟨#[c]⟩ w hE.shp (by omega)).mono fun e w' ⟨he, n, hw⟩ => ⟨he, by rw [hw]; exact below_drewN (Below.refl _ _) n⟩
end Go.Proofs.YtgckfiadnmjonaaGreatDoor

/- strconv.ParseInt(s, 10, 64): a number, or an error. -/
namespace Go.Proofs.YtgckfiadnmjonaaGreatDoor
open Go.RowKit
theorem pint_ok (s : ByteArray) (hs : s.size ≤ 100000) (v : Int) (h : Lib.parseIntB 64 s.data.toList = .ok v) (w : World) :
    Ret 89 #[.string s, .int .i64 10, .int .i64 64] w (.tuple #[.int .i64 v, .nilIface]) :=
  (Tryz.strconv_ParseInt_10_at64_ok s (by omega) v h w).mono fun e w' ⟨he, hw⟩ => ⟨he, by
    rcases hw with rfl | ⟨t, rfl⟩
    · exact Below.refl _ _
    · exact Lib.bytesWorld_below _ _ _⟩
theorem pint_bad (s : ByteArray) (hs : s.size ≤ 100000) (h : ∀ v, Lib.parseIntB 64 s.data.toList ≠ .ok v) (w : World) (hE : EnvP w) :
    Calls Tryz.prog 89 #[.string s, .int .i64 10, .int .i64 64] w fun e w' => ∃ (n : Int) (N : Nat), e = .returned (.tuple #[.int .i64 n, .iface 165 (.pointer (some ⟨N, 0, none⟩))]) ∧ Below w.heap.size w w' := by
  obtain ⟨tp, p, _, _, _, hsyn⟩ := hE.syn
  obtain ⟨tq, q, _, _, _, hrng⟩ := hE.rng
  cases hp : Lib.parseIntB 64 s.data.toList with
  | ok u => exact absurd hp (h u)
  | range => exact (Any.strconv_ParseInt_10_at64_range_var Tryz.laysC174 s (by omega) hp tq q w hrng).mono fun e w' ⟨N, he, _, _, hb⟩ => ⟨_, N, he, hb⟩
  | _ => exact (Any.strconv_ParseInt_10_at64_syntax_var Tryz.laysC174 s (by omega) hp tp p w hsyn).mono fun e w' ⟨N, he, _, _, hb⟩ => ⟨_, N, he, hb⟩
end Go.Proofs.YtgckfiadnmjonaaGreatDoor

/- Texts of resources: how they are read (plain). -/
namespace Go.Proofs.YtgckfiadnmjonaaGreatDoor
open Go.RowKit Lib
set_option linter.unusedVariables false
set_option linter.unusedSimpArgs false
/-- What follows the number of tries, what follows the state. -/
def tail4 (st nx : Int) (tag : List UInt8) : List UInt8 := if st = 2 then decDigits nx.toNat ++ 32 :: quoteL tag else quoteL tag
def tail2 (st wy tr nx : Int) (tag : List UInt8) : List UInt8 := if st = 1 then quoteL tag else whL wy ++ 32 :: (decDigits tr.toNat ++ 32 :: tail4 st nx tag)
theorem rsL_eq (k i g st wy tr nx : Int) (tag : List UInt8) : rsL k i g st wy tr nx tag = dTextL 58 k i g ++ 32 :: (stL st ++ 32 :: tail2 st wy tr nx tag) := by
  unfold rsL rsWords tail2 tail4
  by_cases h1 : st = 1
  · simp [h1, Lib.join, List.intercalate, List.intersperse]
  · by_cases h2 : st = 2
    · simp [h1, h2, Lib.join, List.intercalate, List.intersperse]
    · simp [h1, h2, Lib.join, List.intercalate, List.intersperse]
theorem no32_out (k i g : Int) : (32 : UInt8) ∉ dTextL 58 k i g := by
  unfold dTextL
  simp only [List.mem_cons, List.mem_append, not_or]
  refine ⟨?_, not_mem_dec (by decide), by decide, not_mem_dec (by decide)⟩
  unfold letterB
  split
  · decide
  · split <;> decide
theorem no32_st (st : Int) : (32 : UInt8) ∉ stL st := by
  unfold stL
  split
  · decide
  · split
    · decide
    · split <;> decide
theorem no32_wh (wy : Int) : (32 : UInt8) ∉ whL wy := by
  unfold whL
  split
  · decide
  · split <;> decide
theorem rsL_cut (k i g st wy tr nx : Int) (tag : List UInt8) : cut (rsL k i g st wy tr nx tag) [32] = (dTextL 58 k i g, stL st ++ 32 :: tail2 st wy tr nx tag, true) := by
  rw [rsL_eq]; exact cut_at _ _ _ (no32_out k i g)
theorem rsL_cut2 (st wy tr nx : Int) (tag : List UInt8) : cut (stL st ++ 32 :: tail2 st wy tr nx tag) [32] = (stL st, tail2 st wy tr nx tag, true) := cut_at _ _ _ (no32_st st)
theorem tail2_cut (st wy tr nx : Int) (tag : List UInt8) (h : st ≠ 1) : cut (tail2 st wy tr nx tag) [32] = (whL wy, decDigits tr.toNat ++ 32 :: tail4 st nx tag, true) := by
  unfold tail2; rw [if_neg h]; exact cut_at _ _ _ (no32_wh wy)
theorem tail3_cut (st tr nx : Int) (tag : List UInt8) : cut (decDigits tr.toNat ++ 32 :: tail4 st nx tag) [32] = (decDigits tr.toNat, tail4 st nx tag, true) := cut_at _ _ _ (not_mem_dec (by decide))
theorem tail4_cut (nx : Int) (tag : List UInt8) : cut (tail4 2 nx tag) [32] = (decDigits nx.toNat, quoteL tag, true) := by
  unfold tail4; rw [if_pos rfl]; exact cut_at _ _ _ (not_mem_dec (by decide))
theorem tail4_else {st : Int} (h : st ≠ 2) (nx : Int) (tag : List UInt8) : tail4 st nx tag = quoteL tag := by unfold tail4; rw [if_neg h]
theorem tail2_one (wy tr nx : Int) (tag : List UInt8) : tail2 1 wy tr nx tag = quoteL tag := by unfold tail2; rw [if_pos rfl]
end Go.Proofs.YtgckfiadnmjonaaGreatDoor

/- Package descr: Order; and the reference's. -/
namespace Go.Proofs.YtgckfiadnmjonaaGreatDoor
open Go.RowKit

def cmpI (x y : Int) : Int := if x < y then -1 else if y < x then 1 else 0
def orI (a b c : Int) : Int := if a ≠ 0 then a else if b ≠ 0 then b else c
def dOrd (k s g k' s' g' : Int) : Int := orI (cmpI k k') (cmpI s s') (cmpI g g')
theorem cmpI_lt {x y : Int} (h : x < y) : cmpI x y = -1 := if_pos h
theorem cmpI_gt {x y : Int} (h : y < x) : cmpI x y = 1 := by unfold cmpI; rw [if_neg (by omega), if_pos h]
theorem cmpI_eq (x : Int) : cmpI x x = 0 := by unfold cmpI; rw [if_neg (by omega), if_neg (by omega)]
theorem cmpI_cases (x y : Int) : (x < y ∧ cmpI x y = -1) ∨ (y < x ∧ cmpI x y = 1) ∨ (x = y ∧ cmpI x y = 0) := by
  unfold cmpI
  by_cases h : x < y
  · exact .inl ⟨h, if_pos h⟩
  · by_cases h2 : y < x
    · exact .inr (.inl ⟨h2, by rw [if_neg h, if_pos h2]⟩)
    · exact .inr (.inr ⟨by omega, by rw [if_neg h, if_neg h2]⟩)
end Go.Proofs.YtgckfiadnmjonaaGreatDoor

/- The contract of the references' Digits: the decimal numeral. -/
namespace Go.Proofs.YtgckfiadnmjonaaGreatDoor
open Go.RowKit
open Go.Lib (decDigits)

theorem digits_small {n : Int} (h0 : 0 ≤ n) (h : n < 10) : digits n.toNat = ⟨#[UInt8.ofNat (48 + n).toNat]⟩ := by
  unfold digits
  rw [decDigits_step, if_pos (by omega), show (48 + n).toNat = 48 + n.toNat by omega]
theorem digits_app {n : Int} (h : 10 ≤ n) : digits n.toNat = digits (n / 10).toNat ++ ⟨#[UInt8.ofNat (48 + n % 10).toNat]⟩ := by
  rw [show (48 + n % 10).toNat = 48 + (n % 10).toNat by omega]
  apply str_ext
  have e1 : (n / 10).toNat = n.toNat / 10 := by omega
  have e2 : (n % 10).toNat = n.toNat % 10 := by omega
  rw [e1, e2, digits_list, decDigits_step, if_neg (by omega)]
  simp [digits]

/-- A slice of one byte, made into a string. -/
theorem conv_one (b : Int) (h0 : 0 ≤ b) (h1 : b ≤ 255) (a : Addr) (W : World) (hc : W.cell? a = some (.int .u8 b)) :
    (convert 108 9 (.slice (some a) 1 1)).run Tryz.prog W = .ok (.string ⟨#[UInt8.ofNat b.toNat]⟩) W := by
  have h := run_convert_bytes_back (P := Tryz.prog) W 108 9 5 a 1 [UInt8.ofNat b.toNat] Tryz.underlying108 Tryz.underlying5 Tryz.underlying9 (fun j hj => by
    have hj0 : j = 0 := by simpa using hj
    subst hj0
    rw [show a.add 0 = a from rfl, hc]
    have e : (UInt8.ofNat b.toNat).toNat = b.toNat := by rw [UInt8.toNat_ofNat']; omega
    simp only [List.getElem_cons_zero, e]
    rw [Int.toNat_of_nonneg h0])
  exact h

set_option maxHeartbeats 1000000 in
theorem refDigits_any (k : Nat) : ∀ (n : Int) (w : World), n ≤ k → 0 ≤ n → n ≤ 18446744073709551615 →
    Ret 68 #[.int .u64 n] w (.string (digits n.toNat)) := by
  induction k with
  | zero =>
    intro n w hk h0 h1
    obtain rfl : n = 0 := by omega
    have hc := conv_one 48 (by omega) (by omega)
    have hd : digits (0 : Int).toNat = ⟨#[48]⟩ := digits_small (n := 0) (by omega) (by omega)
    rw [hd]
    clear hd
    go_enter Tryz.func68, Tryz.ntmps68
    go_wp2_with fail
    go_returns
    exact ⟨rfl, by go_grown⟩
  | succ k ih =>
    intro n w hk h0 h1
    have IH := Lib.hid ih
    clear ih
    by_cases h : n < 10
    · have hc := conv_one (48 + n) (by omega) (by omega)
      have hd := digits_small h0 h
      rw [hd]
      clear hd
      go_enter Tryz.func68, Tryz.ntmps68
      go_wp2_with fail
      go_returns
      exact ⟨rfl, by go_grown⟩
    · have hd := digits_app (n := n) (by omega)
      have hrun : ∀ W, (Op.stringOp .add (digits (n / 10).toNat) ⟨#[UInt8.ofNat (48 + n % 10).toNat]⟩).run Tryz.prog W = .ok (.string (digits n.toNat)) W := fun W => by
        rw [hd]
        have h1 := digits_size_le (n / 10).toNat (by omega)
        exact run_string_add_sum W _ _ (by rw [show (ByteArray.mk #[UInt8.ofNat (48 + n % 10).toNat]).size = 1 from rfl]; omega)
      have hc := conv_one (48 + n % 10) (by omega) (by omega)
      have q1 : IntKind.u64.wrap (n.tdiv 10) = n / 10 := by rw [Int.tdiv_eq_ediv_of_nonneg h0, IntKind.wrap_u64]; omega
      have q2 : n.tmod 10 = n % 10 := Int.tmod_eq_emod_of_nonneg h0
      have q3 : IntKind.u64.wrap (48 + n % 10) = 48 + n % 10 := by rw [IntKind.wrap_u64]; omega
      have q4 : IntKind.u8.wrap (48 + n % 10) = 48 + n % 10 := by rw [IntKind.wrap_u8]; omega
      have r1 : n / 10 ≤ k := by omega
      have r2 : 0 ≤ n / 10 := by omega
      have r3 : n / 10 ≤ 18446744073709551615 := by omega
      clear hd hk
      go_enter Tryz.func68, Tryz.ntmps68
      go_wp2_with fail
      go_region_with (first | (go_at_call 68; refine ((IH.out) _ _ ?_ ?_ ?_).mono ?_; exact r1; exact r2; exact r3; rintro e w' ⟨rfl, hb⟩; try have hc1 := keep_new_drew hb))
      all_goals
        go_wp2
        go_returns
        refine ⟨rfl, ?_⟩
        first
          | exact off_alloc (off_drew hb)
          | exact (off_drew hb).alloc (off_drew hb).size _
theorem ref_Digits (n : Int) (w : World) (h0 : 0 ≤ n) (h1 : n ≤ 18446744073709551615) : Ret 68 #[.int .u64 n] w (.string (digits n.toNat)) :=
  refDigits_any n.toNat n w (by omega) h0 h1
end Go.Proofs.YtgckfiadnmjonaaGreatDoor

/- The contracts of the references of chapter 01: Number, and (where they stand in the cut) Check, Left, After, Next, Newer, Text, Parse. -/
namespace Go.Proofs.YtgckfiadnmjonaaGreatDoor
open Go.RowKit
open Go.Lib (decDigits)

theorem isGen_numB {l : List UInt8} (h : isGen l = true) : numB l = true := by
  obtain ⟨n, h1, h2, h3⟩ := (isGen_iff l).1 h
  unfold numB
  rw [decide_eq_true_iff]
  subst h3
  rw [val_decDigits]
  exact ⟨nDigits_le_10 n (by omega), rfl⟩
theorem take_snoc (s : ByteArray) (k : Nat) (h : k < s.size) : s.data.toList.take (k + 1) = s.data.toList.take k ++ [s[k]] := by
  rw [List.take_succ_eq_append_getElem (by simpa using h)]; rfl

/-- a byte that is no digit, somewhere -/
theorem all_take_snoc (s : ByteArray) (k : Nat) (h : k < s.size) : (s.data.toList.take (k + 1)).all isDig = ((s.data.toList.take k).all isDig && isDig s[k]) := by
  rw [take_snoc s k h, List.all_append]; simp
theorem not_all_of {s : ByteArray} {k : Nat} (h : k < s.size) (hd : isDig s[k] = false) : s.data.toList.all isDig = false := by
  rw [Bool.eq_false_iff]
  intro ha
  rw [List.all_eq_true] at ha
  have := ha s[k] (by
    have e : s[k] = s.data.toList[k]'(by simpa using h) := rfl
    rw [e]; exact List.getElem_mem _)
  rw [hd] at this; cases this
theorem val_snoc (s : ByteArray) (k : Nat) (h : k < s.size) : valFrom 0 (s.data.toList.take (k + 1)) = valFrom 0 (s.data.toList.take k) * 10 + (s[k].toNat - 48) := by
  rw [take_snoc s k h, valFrom_append, valFrom_one]

set_option maxHeartbeats 1000000 in
theorem ref_Number_short (s : ByteArray) (w : World) (hs : s.size ≤ 10) (h0 : 1 ≤ s.size) :
    Ret 90 #[.string s] w (.tuple #[.int .u64 (numV s.data.toList), .bool (numB s.data.toList)]) := by
  have hl := len_bytes s
  have HL := Lib.hid hl
  clear hl
  have e0 : ((s.size : Int) == 0) = false := by rw [beq_eq_false_iff_ne]; omega
  go_enter Tryz.func90, Tryz.ntmps90
  go_wp2_with fail
  go_loop [4, 5] (fun n i => ∃ k : Nat, k ≤ s.size ∧ i = .int .i64 k ∧ n = .int .u64 (valFrom 0 (s.data.toList.take k)) ∧ (s.data.toList.take k).all isDig = true) (fun _ i => s.size - (intOf i).toNat)
  case atStart => exact ⟨0, Nat.zero_le _, rfl, rfl, rfl⟩
  case round =>
    obtain ⟨k, hk, rfl, rfl, hall⟩ := hrel
    have hv := valFrom_lt_10 _ hall (by rw [List.length_take]; omega)
    have HA := Lib.hid hall
    clear hall
    by_cases hlt : k < s.size
    · have hval := val_snoc s k hlt
      have hat := all_take_snoc s k hlt
      have HV := Lib.hid hval
      have HT := Lib.hid hat
      clear hval hat
      by_cases hd : 48 ≤ s[k].toNat ∧ s[k].toNat ≤ 57
      · obtain ⟨d1, d2⟩ := hd
        have c1 : (48 : Int) ≤ (s[k].toNat : Int) := by omega
        have c2 : (s[k].toNat : Int) ≤ 57 := by omega
        go_wp2_with fail
        go_round
        case rel => exact ⟨k + 1, by omega, by go_num, by rw [HV.out]; go_num, by rw [HT.out, HA.out]; simp [isDig, d1, d2]⟩
        case measure => simp [intOf]; omega
      · have hdig : isDig s[k] = false := by unfold isDig; simpa using hd
        have hn := not_all_of hlt hdig
        have hV : numV s.data.toList = 0 := by unfold numV; rw [if_neg (fun h => by rw [hn] at h; cases h.2)]
        have hB : numB s.data.toList = false := by
          rw [Bool.eq_false_iff]; intro h
          have := (numB_val h).2
          have h2 := decDigits_all (valFrom 0 s.data.toList)
          rw [this, hn] at h2; cases h2
        have HV := Lib.hid hV
        have HB := Lib.hid hB
        have HH := Lib.hid hd
        clear hd hdig hn hV hB
        by_cases c1 : (s[k].toNat : Int) < 48
        · go_wp2_with fail
          go_ret2
          exact ⟨by rw [HV.out, HB.out]; rfl, Below.refl _ _⟩
        · have c2 : (57 : Int) < (s[k].toNat : Int) := by have := HH.out; omega
          go_wp2_with fail
          go_ret2
          exact ⟨by rw [HV.out, HB.out]; rfl, Below.refl _ _⟩
    · have ek : k = s.size := by omega
      have et : s.data.toList.take k = s.data.toList := by rw [ek]; exact List.take_of_length_le (by rw [HL.out]; exact Nat.le_refl _)
      have hV : numV s.data.toList = (valFrom 0 (s.data.toList.take k) : Int) := by
        unfold numV
        rw [if_pos ⟨by rw [HL.out]; exact hs, by rw [← et]; exact HA.out⟩, et]
      have hB : numB s.data.toList = ((digits (valFrom 0 (s.data.toList.take k))).toList == s.toList) := by
        rw [et, ByteArray.toList_eq, digits_list, ByteArray.toList_eq]
        unfold numB
        rw [HL.out, Bool.eq_iff_iff, decide_eq_true_iff, beq_iff_eq]
        exact ⟨fun h => h.2, fun h => ⟨hs, h⟩⟩
      have HV := Lib.hid hV
      have HB := Lib.hid hB
      clear ek et hV hB
      go_wp2_with fail
      refine (ref_Digits _ _ (by omega) (by omega)).mono ?_
      rintro e w1 ⟨rfl, hb⟩
      rw [Int.toNat_natCast]
      go_wp2_with fail
      go_ret2
      exact ⟨by rw [HV.out, HB.out]; rfl, hb⟩
theorem ref_Number_long (s : ByteArray) (w : World) (hs : 10 < s.size) :
    Ret 90 #[.string s] w (.tuple #[.int .u64 (numV s.data.toList), .bool (numB s.data.toList)]) := by
  have hl := len_bytes s
  have hV : numV s.data.toList = 0 := by unfold numV; rw [if_neg (by omega)]
  have hB : numB s.data.toList = false := by unfold numB; simp; omega
  rw [hV, hB]
  clear hl hV hB
  have e0 : ((s.size : Int) == 0) = false := by rw [beq_eq_false_iff_ne]; omega
  go_enter Tryz.func90, Tryz.ntmps90
  go_wp2_with fail
  go_ret2
  exact ⟨rfl, Below.refl _ _⟩
theorem ref_Number_empty (w : World) :
    Ret 90 #[.string ⟨#[]⟩] w (.tuple #[.int .u64 0, .bool false]) := by
  go_enter Tryz.func90, Tryz.ntmps90
  go_wp2_with fail
  go_ret2
  exact ⟨rfl, Below.refl _ _⟩
theorem numV_nil : numV [] = 0 := rfl
theorem numB_nil : numB [] = false := by
  rw [Bool.eq_false_iff]; intro h
  exact decDigits_ne_nil _ (numB_val h).2
theorem ref_Number (s : ByteArray) (w : World) :
    Ret 90 #[.string s] w (.tuple #[.int .u64 (numV s.data.toList), .bool (numB s.data.toList)]) := by
  by_cases h : s.size ≤ 10
  · by_cases h1 : 1 ≤ s.size
    · exact ref_Number_short s w h h1
    · have e : s = ⟨#[]⟩ := by
        apply str_ext
        apply List.eq_nil_of_length_eq_zero
        have := len_bytes s
        omega
      subst e
      exact (ref_Number_empty w).to (by rw [numV_nil, numB_nil])
  · exact ref_Number_long s w (by omega)
end Go.Proofs.YtgckfiadnmjonaaGreatDoor

/- The references of chapter 05: Check, CheckOuter, letter, Text, OuterText, Pack, Unpack. -/
namespace Go.Proofs.YtgckfiadnmjonaaGreatDoor
open Go.RowKit
open Go.Lib (decDigits)

theorem letter_c (k : Int) (w : World) (h1 : 1 ≤ k) (h2 : k ≤ 3) : Calls Tryz.prog 67 #[.int .i64 k] w fun e w' => e = .returned (.string ⟨#[letterB k]⟩) ∧ w' = w := by
  rcases (by omega : k = 1 ∨ k = 2 ∨ k = 3) with rfl | rfl | rfl
  all_goals
    go_enter Tryz.func67, Tryz.ntmps67
    go_wp2
    go_returns
    exact ⟨rfl, rfl⟩
set_option maxHeartbeats 4000000 in
theorem ro_check (k s g : Int) (w : World) (g0 : 0 ≤ g) : Ret 56 #[dV k s g] w (.int .i64 (dErr 64 k s g)) := by
  cases h : dOk 64 k s g with
  | true =>
    rw [dErr_ok h]
    rw [dOk_iff] at h
    obtain ⟨k1, k3, s0, s1, hg⟩ := h
    have e1 : (g == 0) = false := beq_eq_false_iff_ne.2 hg
    clear hg
    go_enter Tryz.func56, Tryz.ntmps56
    go_wp2
    go_returns
    exact ⟨rfl, by go_grown⟩
  | false =>
    rw [dErr_bad h]
    have h' := dOk_not h
    have h2 : k < 1 ∨ (1 ≤ k ∧ (3 < k ∨ (k ≤ 3 ∧ (s < 0 ∨ (0 ≤ s ∧ (64 ≤ s ∨ (s < 64 ∧ g = 0))))))) := by omega
    clear h h' g0
    rcases h2 with h | ⟨h1, h | ⟨h2, h | ⟨h3, h | ⟨h4, rfl⟩⟩⟩⟩
    all_goals
      go_enter Tryz.func56, Tryz.ntmps56
      go_wp2
      go_returns
      exact ⟨rfl, by go_grown⟩
set_option linter.unusedSimpArgs false in
set_option maxHeartbeats 4000000 in
set_option maxRecDepth 20000 in
theorem ro_text_ok (k s g : Int) (w : World) (h : dOk 64 k s g = true) (g0 : 0 ≤ g) (g1 : g ≤ 4294967295) : Ret 43 #[dV k s g] w (.tuple #[.string (dText 58 k s g), .int .i64 0]) := by
  have hk := fun w => ro_check k s g w g0
  rw [dErr_ok h] at hk
  rw [dOk_iff] at h
  obtain ⟨k1, k3, s0, s1, _⟩ := h
  have hl := fun w => letter_c k w k1 k3
  have hz1 := digits_size_le s.toNat (by omega)
  have hz2 := digits_size_le g.toNat (by omega)
  have hca := cat_text 58 k s g
  obtain ⟨t1, h1⟩ : ∃ t1, ByteArray.mk #[letterB k] ++ digits s.toNat = t1 := ⟨_, rfl⟩
  obtain ⟨t2, h2⟩ : ∃ t2, t1 ++ ⟨#[58]⟩ = t2 := ⟨_, rfl⟩
  rw [h1, h2] at hca
  have e1 : t1.size ≤ 21 := by rw [← h1, ByteArray.size_append]; simp only [show (ByteArray.mk #[letterB k]).size = 1 from rfl]; omega
  have e2 : t2.size ≤ 22 := by rw [← h2, ByteArray.size_append]; simp only [show (ByteArray.mk #[58]).size = 1 from rfl]; omega
  have r1 := add_run h1 (by simp only [show (ByteArray.mk #[letterB k]).size = 1 from rfl]; omega)
  have r2 := add_run h2 (by simp only [show (ByteArray.mk #[58]).size = 1 from rfl]; omega)
  have r3 := add_run hca (by omega)
  have c1 : IntKind.u64.wrap s = s := by rw [IntKind.wrap_u64]; omega
  have c2 : IntKind.u64.wrap g = g := by rw [IntKind.wrap_u64]; omega
  have HK := Lib.hid hk
  have HL := Lib.hid hl
  generalize dText 58 k s g = T at *
  clear e1 e2 hz1 hz2 h1 h2 hca hk hl
  go_enter Tryz.func43, Tryz.ntmps43
  go_wp2_with fail
  refine (HK.out _).mono ?_
  rintro e w1 ⟨rfl, hb1⟩
  obtain ⟨q1, f1⟩ := bcell hb1
  have b1 := under (w := w) hb1
  have z1 : w.heap.size < w1.heap.size := by have := hb1.size; simp at this; omega
  have p0 : w1.cell? ⟨w.heap.size, 0, none⟩ = some (.int .i64 k) := by rw [q1 _ _ (by simp)]; simp
  have p1 : w1.cell? ⟨w.heap.size, 1, none⟩ = some (.int .i64 s) := by rw [q1 _ _ (by simp)]; simp
  have p2 : w1.cell? ⟨w.heap.size, 2, none⟩ = some (.int .u32 g) := by rw [q1 _ _ (by simp)]; simp
  clear q1 f1 hb1
  go_wp2_with fail
  refine wp_region_held_drew (S := fun W' => W'.cell? ⟨w.heap.size, 0, none⟩ = some (.int .i64 k) ∧ W'.cell? ⟨w.heap.size, 1, none⟩ = some (.int .i64 s) ∧ W'.cell? ⟨w.heap.size, 2, none⟩ = some (.int .u32 g)) (by kernel_rfl) ?_ (fun hHeld => ?_)
  · go_keep
  refine' wpAnyH_take (i := 0) (oi := _) (v := _) ?_ (by kernel_rfl) (by kernel_rfl) (by kernel_rfl) ?_ (Or.inl ⟨?_, ?_⟩) (by assumption) ?_
  rotate_left 2
  · (simp only [List.getElem?_toArray, List.getElem?_cons_succ, List.getElem?_cons_zero]; rfl)
  · first | exact fun _ _ _ h => h | exact fun _ _ _ h => nomatch h.1
  · rfl
  · (intro W hSW; (try dsimp only at hSW); go_split_ands; first | (go_simp; done) | (go_simp; with_reducible rfl))
  try simp only [Act.put, List.setIfInBounds_toArray, List.set_cons_zero, List.set_cons_succ]
  refine' wpAnyH_take (i := 1) (oi := _) (v := _) ?_ (by kernel_rfl) (by kernel_rfl) (by kernel_rfl) ?_ (Or.inl ⟨?_, ?_⟩) (by assumption) ?_
  rotate_left 2
  · (simp only [List.getElem?_toArray, List.getElem?_cons_succ, List.getElem?_cons_zero]; rfl)
  · first | exact fun _ _ _ h => h | exact fun _ _ _ h => nomatch h.1
  · rfl
  · (intro W hSW; (try dsimp only at hSW); go_split_ands; first | (go_simp; done) | (go_simp; with_reducible rfl))
  try simp only [Act.put, List.setIfInBounds_toArray, List.set_cons_zero, List.set_cons_succ]
  refine' wpAnyH_take (i := 3) (oi := _) (v := _) ?_ (by kernel_rfl) (by kernel_rfl) (by kernel_rfl) ?_ (Or.inl ⟨?_, ?_⟩) (by assumption) ?_
  rotate_left 2
  · (simp only [List.getElem?_toArray, List.getElem?_cons_succ, List.getElem?_cons_zero]; rfl)
  · first | exact fun _ _ _ h => h | exact fun _ _ _ h => nomatch h.1
  · rfl
  · (intro W hSW; (try dsimp only at hSW); go_split_ands; first | (go_simp; done) | (go_simp; with_reducible rfl))
  try simp only [Act.put, List.setIfInBounds_toArray, List.set_cons_zero, List.set_cons_succ]
  refine' wpAnyH_take (i := 4) (oi := _) (v := _) ?_ (by kernel_rfl) (by kernel_rfl) (by kernel_rfl) ?_ (Or.inl ⟨?_, ?_⟩) (by assumption) ?_
  rotate_left 2
  · (simp only [List.getElem?_toArray, List.getElem?_cons_succ, List.getElem?_cons_zero]; rfl)
  · first | exact fun _ _ _ h => h | exact fun _ _ _ h => nomatch h.1
  · rfl
  · (intro W hSW; (try dsimp only at hSW); go_split_ands; first | (go_simp; done) | (go_simp; with_reducible rfl))
  try simp only [Act.put, List.setIfInBounds_toArray, List.set_cons_zero, List.set_cons_succ]
  refine' wpAnyH_take (i := 5) (oi := _) (v := _) ?_ (by kernel_rfl) (by kernel_rfl) (by kernel_rfl) ?_ (Or.inl ⟨?_, ?_⟩) (by assumption) ?_
  rotate_left 2
  · (simp only [List.getElem?_toArray, List.getElem?_cons_succ, List.getElem?_cons_zero]; rfl)
  · first | exact fun _ _ _ h => h | exact fun _ _ _ h => nomatch h.1
  · rfl
  · (intro W hSW; (try dsimp only at hSW); go_split_ands; first | (go_simp; done) | (go_simp; with_reducible rfl))
  try simp only [Act.put, List.setIfInBounds_toArray, List.set_cons_zero, List.set_cons_succ]
  refine' wpAnyH_take (i := 9) (oi := _) (v := _) ?_ (by kernel_rfl) (by kernel_rfl) (by kernel_rfl) ?_ (Or.inl ⟨?_, ?_⟩) (by assumption) ?_
  rotate_left 2
  · (simp only [List.getElem?_toArray, List.getElem?_cons_succ, List.getElem?_cons_zero]; rfl)
  · first | exact fun _ _ _ h => h | exact fun _ _ _ h => nomatch h.1
  · rfl
  · (intro W hSW; (try dsimp only at hSW); go_split_ands; first | (go_simp; done) | (go_simp; with_reducible rfl))
  try simp only [Act.put, List.setIfInBounds_toArray, List.set_cons_zero, List.set_cons_succ]
  refine' wpAnyH_take (i := 10) (oi := _) (v := _) ?_ (by kernel_rfl) (by kernel_rfl) (by kernel_rfl) ?_ (Or.inl ⟨?_, ?_⟩) (by assumption) ?_
  rotate_left 2
  · (simp only [List.getElem?_toArray, List.getElem?_cons_succ, List.getElem?_cons_zero]; rfl)
  · first | exact fun _ _ _ h => h | exact fun _ _ _ h => nomatch h.1
  · rfl
  · (intro W hSW; (try dsimp only at hSW); go_split_ands; first | (go_simp; done) | (go_simp; with_reducible rfl))
  try simp only [Act.put, List.setIfInBounds_toArray, List.set_cons_zero, List.set_cons_succ]
  refine' wpAnyH_take (i := 11) (oi := _) (v := _) ?_ (by kernel_rfl) (by kernel_rfl) (by kernel_rfl) ?_ (Or.inl ⟨?_, ?_⟩) (by assumption) ?_
  rotate_left 2
  · (simp only [List.getElem?_toArray, List.getElem?_cons_succ, List.getElem?_cons_zero]; rfl)
  · first | exact fun _ _ _ h => h | exact fun _ _ _ h => nomatch h.1
  · rfl
  · (intro W hSW; (try dsimp only at hSW); go_split_ands; first | (go_simp; done) | (go_simp; with_reducible rfl))
  try simp only [Act.put, List.setIfInBounds_toArray, List.set_cons_zero, List.set_cons_succ]
  refine wpAnyH_ready (rs := [2]) (by kernel_rfl) (by simp) ?_
  refine' AllReadyH.cons (o := _) ?_ (fun K hK => ?_) AllReadyH.nil
  rotate_left 1
  · (simp only [List.getElem?_toArray, List.getElem?_cons_succ, List.getElem?_cons_zero]; rfl)
  go_simp
  refine (HL.out _).mono ?_
  rintro e w2 ⟨rfl, rfl⟩
  go_simp
  refine hK.out _ _ hHeld (fun hHeld => ?_)
  clear hK K
  refine wpAnyH_ready (rs := [6]) (by kernel_rfl) (by simp) ?_
  refine' AllReadyH.cons (o := _) ?_ (fun K hK => ?_) AllReadyH.nil
  rotate_left 1
  · (simp only [List.getElem?_toArray, List.getElem?_cons_succ, List.getElem?_cons_zero]; rfl)
  go_simp
  refine (ref_Digits _ _ (by omega) (by omega)).mono ?_
  rintro e w2 ⟨rfl, hb2⟩
  have b2 := b1.trans ((off_drew hb2).mono b1.size)
  have z2 : w.heap.size < w2.heap.size := Nat.lt_of_lt_of_le z1 hb2.size
  go_simp
  refine hK.out _ _ ?_ (fun hHeld => ?_)
  · (go_split_ands; refine ⟨?_, ?_, ?_⟩ <;> exact keep_cell hb2 z1 (by assumption))
  clear hK K
  refine' wpAnyH_take (i := 7) (oi := _) (v := _) ?_ (by kernel_rfl) (by kernel_rfl) (by kernel_rfl) ?_ (Or.inl ⟨?_, ?_⟩) (by assumption) ?_
  rotate_left 2
  · (simp only [List.getElem?_toArray, List.getElem?_cons_succ, List.getElem?_cons_zero]; rfl)
  · first | exact fun _ _ _ h => h | exact fun _ _ _ h => nomatch h.1
  · rfl
  · (intro W hSW; (try dsimp only at hSW); go_split_ands; first | (go_simp; done) | (go_simp; with_reducible rfl))
  try simp only [Act.put, List.setIfInBounds_toArray, List.set_cons_zero, List.set_cons_succ]
  refine' wpAnyH_take (i := 8) (oi := _) (v := _) ?_ (by kernel_rfl) (by kernel_rfl) (by kernel_rfl) ?_ (Or.inl ⟨?_, ?_⟩) (by assumption) ?_
  rotate_left 2
  · (simp only [List.getElem?_toArray, List.getElem?_cons_succ, List.getElem?_cons_zero]; rfl)
  · first | exact fun _ _ _ h => h | exact fun _ _ _ h => nomatch h.1
  · rfl
  · (intro W hSW; (try dsimp only at hSW); go_split_ands; first | (go_simp; done) | (go_simp; with_reducible rfl))
  try simp only [Act.put, List.setIfInBounds_toArray, List.set_cons_zero, List.set_cons_succ]
  refine wpAnyH_ready (rs := [12]) (by kernel_rfl) (by simp) ?_
  refine' AllReadyH.cons (o := _) ?_ (fun K hK => ?_) AllReadyH.nil
  rotate_left 1
  · (simp only [List.getElem?_toArray, List.getElem?_cons_succ, List.getElem?_cons_zero]; rfl)
  go_simp
  refine (ref_Digits _ _ (by omega) (by omega)).mono ?_
  rintro e w3 ⟨rfl, hb3⟩
  go_simp
  refine hK.out _ _ ?_ (fun hHeld => ?_)
  · (go_split_ands; refine ⟨?_, ?_, ?_⟩ <;> exact keep_cell hb3 z2 (by assumption))
  clear hK K
  refine' wpAnyH_take (i := 13) (oi := _) (v := _) ?_ (by kernel_rfl) (by kernel_rfl) (by kernel_rfl) ?_ (Or.inl ⟨?_, ?_⟩) (by assumption) ?_
  rotate_left 2
  · (simp only [List.getElem?_toArray, List.getElem?_cons_succ, List.getElem?_cons_zero]; rfl)
  · first | exact fun _ _ _ h => h | exact fun _ _ _ h => nomatch h.1
  · rfl
  · (intro W hSW; (try dsimp only at hSW); go_split_ands; first | (go_simp; done) | (go_simp; with_reducible rfl))
  try simp only [Act.put, List.setIfInBounds_toArray, List.set_cons_zero, List.set_cons_succ]
  refine' wpAnyH_take (i := 14) (oi := _) (v := _) ?_ (by kernel_rfl) (by kernel_rfl) (by kernel_rfl) ?_ (Or.inl ⟨?_, ?_⟩) (by assumption) ?_
  rotate_left 2
  · (simp only [List.getElem?_toArray, List.getElem?_cons_succ, List.getElem?_cons_zero]; rfl)
  · first | exact fun _ _ _ h => h | exact fun _ _ _ h => nomatch h.1
  · rfl
  · (intro W hSW; (try dsimp only at hSW); go_split_ands; first | (go_simp; done) | (go_simp; with_reducible rfl))
  try simp only [Act.put, List.setIfInBounds_toArray, List.set_cons_zero, List.set_cons_succ]
  refine' wpAnyH_take (i := 15) (oi := _) (v := _) ?_ (by kernel_rfl) (by kernel_rfl) (by kernel_rfl) ?_ (Or.inl ⟨?_, ?_⟩) (by assumption) ?_
  rotate_left 2
  · (simp only [List.getElem?_toArray, List.getElem?_cons_succ, List.getElem?_cons_zero]; rfl)
  · first | exact fun _ _ _ h => h | exact fun _ _ _ h => nomatch h.1
  · rfl
  · (intro W hSW; (try dsimp only at hSW); go_split_ands; first | (go_simp; done) | (go_simp; with_reducible rfl))
  try simp only [Act.put, List.setIfInBounds_toArray, List.set_cons_zero, List.set_cons_succ]
  refine wpAnyH_done (by kernel_rfl) ?_ _
  go_wp2_with fail
  go_returns
  exact ⟨rfl, chain b2 hb3⟩
theorem ro_text_bad (k s g : Int) (w : World) (h : dOk 64 k s g = false) (g0 : 0 ≤ g) : Ret 43 #[dV k s g] w (.tuple #[.string ⟨#[]⟩, .int .i64 2]) := by
  have hk := fun w => ro_check k s g w g0
  rw [dErr_bad h] at hk
  have HK := Lib.hid hk
  clear hk h
  go_enter Tryz.func43, Tryz.ntmps43
  go_wp2_with fail
  refine (HK.out _).mono ?_
  rintro e w1 ⟨rfl, hb1⟩
  go_wp2_with fail
  go_returns
  exact ⟨rfl, under hb1⟩
end Go.Proofs.YtgckfiadnmjonaaGreatDoor
