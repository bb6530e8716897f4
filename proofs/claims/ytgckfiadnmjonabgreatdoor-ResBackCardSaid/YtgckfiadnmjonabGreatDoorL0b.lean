/- Contracts of package descr: text. -/
import Derived.Test.YtgckfiadnmjonabGreatDoorL0a
import Derived.Deep.RegionHeld3
import Derived.Laws.BitsAllLaws
import Derived.Lib.OthersKept
import Derived.Lib.FrozenHead2
import Derived.Shelf.Strings.BuilderK
import Derived.Lib.Walk
import Derived.Lib.ItoaMem
import Derived.Shelf.Strconv.ErrVarParseInt
import Derived.OpenShut
import Derived.ReadAgain
import Derived.ChangeBook
import Derived.ChangeOld
import Derived.ChangeReads
import Derived.Below
import Derived.WideShapes
import Derived.WalkKit
import Derived.Deep.Slices
import Derived.Test.YtgckfiadnmjonabGreatDoorCards
import Derived.Test.YtgckfiadnmjonabGreatDoorTie
import Derived.ProofKit
import Derived.Deep.DeepHandedRow
import Derived.Lib.LaidTab
import Derived.Stop.LaidErr
namespace Go.Proofs.YtgckfiadnmjonabGreatDoor
open Go.RowKit
open Go.Lib (decDigits)

theorem itoa_ret (n : Int) (w : World) (hE : Env w) (h0 : 0 ≤ n) (h1 : n ≤ 9223372036854775807) :
    Ret 27 #[.int .i64 n] w (.string (digits n.toNat)) := by
  have h := strconv_Itoa n w hE (by omega) h1
  have e : Lib.itoa n = decDigits n.toNat := by unfold Lib.itoa; rw [if_neg (by omega)]
  rw [e] at h
  exact h
theorem cat_text (c : UInt8) (k s g : Int) : (ByteArray.mk #[letterB k]) ++ digits s.toNat ++ ⟨#[c]⟩ ++ digits g.toNat = dText c k s g := by
  apply str_ext
  simp [dText_list, dTextL, digits]
set_option linter.unusedSimpArgs false in
set_option maxHeartbeats 4000000 in
set_option maxRecDepth 20000 in
theorem nm_text_at (c l : UInt8) (k s g : Int) (j : Nat) (w : World) (hE : Env w) (hk : (k = 1 ∧ l = 102 ∧ j = 1) ∨ (k = 2 ∧ l = 98 ∧ j = 2) ∨ (k = 3 ∧ l = 108 ∧ j = 3)) (s0 : 0 ≤ s) (s1 : s < 10000000000) (g0 : 0 ≤ g) (g1 : g ≤ 4294967295) (t1 t2 t3 : ByteArray)
    (h1 : ByteArray.mk #[l] ++ digits s.toNat = t1) (h2 : t1 ++ ⟨#[c]⟩ = t2) (h3 : t2 ++ digits g.toNat = t3) :
    Ret 42 #[nmV k s g, .string ⟨#[c]⟩] w (.string t3) := by
  have hz1 := digits_size_le s.toNat (by omega)
  have hz2 := digits_size_le g.toNat (by omega)
  have e1 : t1.size ≤ 21 := by rw [← h1, ByteArray.size_append]; simp only [show (ByteArray.mk #[l]).size = 1 from rfl]; omega
  have e2 : t2.size ≤ 22 := by rw [← h2, ByteArray.size_append]; simp only [show (ByteArray.mk #[c]).size = 1 from rfl]; omega
  have r1 := add_run h1 (by simp only [show (ByteArray.mk #[l]).size = 1 from rfl]; omega)
  have r2 := add_run h2 (by simp only [show (ByteArray.mk #[c]).size = 1 from rfl]; omega)
  have r3 := add_run h3 (by omega)
  clear e1 e2 hz1 hz2 h1 h2 h3
  rcases hk with ⟨rfl, rfl, rfl⟩ | ⟨rfl, rfl, rfl⟩ | ⟨rfl, rfl, rfl⟩
  · go_enter Tryz.func42, Tryz.ntmps42
    go_wp2_with fail
    refine wp_region_held_drew (S := fun W' => W'.cell? ⟨w.heap.size, 0, none⟩ = some (.int .i64 1) ∧ W'.cell? ⟨w.heap.size, 1, none⟩ = some (.int .i64 s) ∧ W'.cell? ⟨w.heap.size, 2, none⟩ = some (.int .i64 g)) (by kernel_rfl) ?_ (fun hHeld => ?_)
    · go_keep
    refine' wpAnyH_take (i := 1) (oi := _) (v := _) ?_ (by kernel_rfl) (by kernel_rfl) (by kernel_rfl) ?_ (Or.inl ⟨?_, ?_⟩) (by assumption) ?_
    rotate_left 2
    · (simp only [List.getElem?_toArray, List.getElem?_cons_succ, List.getElem?_cons_zero]; rfl)
    · first | exact fun _ _ _ h => h | exact fun _ _ _ h => nomatch h.1
    · rfl
    · (intro W hSW; (try dsimp only at hSW); go_split_ands; first | (go_simp; done) | (go_simp; with_reducible rfl))
    try simp only [Act.put, List.setIfInBounds_toArray, List.set_cons_zero, List.set_cons_succ]
    refine' wpAnyH_take (i := 2) (oi := _) (v := _) ?_ (by kernel_rfl) (by kernel_rfl) (by kernel_rfl) ?_ (Or.inl ⟨?_, ?_⟩) (by assumption) ?_
    rotate_left 2
    · (simp only [List.getElem?_toArray, List.getElem?_cons_succ, List.getElem?_cons_zero]; rfl)
    · first | exact fun _ _ _ h => h | exact fun _ _ _ h => nomatch h.1
    · rfl
    · (intro W hSW; (try dsimp only at hSW); go_split_ands; first | (go_simp; done) | (go_simp; with_reducible rfl))
    try simp only [Act.put, List.setIfInBounds_toArray, List.set_cons_zero, List.set_cons_succ]
    refine' wpAnyH_take (i := 5) (oi := _) (v := _) ?_ (by kernel_rfl) (by kernel_rfl) (by kernel_rfl) ?_ (Or.inl ⟨?_, ?_⟩) (by assumption) ?_
    rotate_left 2
    · (simp only [List.getElem?_toArray, List.getElem?_cons_succ, List.getElem?_cons_zero]; rfl)
    · first | exact fun _ _ _ h => h | exact fun _ _ _ h => nomatch h.1
    · rfl
    · (intro W hSW; (try dsimp only at hSW); go_split_ands; first | (go_simp; done) | (go_simp; with_reducible rfl))
    try simp only [Act.put, List.setIfInBounds_toArray, List.set_cons_zero, List.set_cons_succ]
    refine' wpAnyH_take (i := 6) (oi := _) (v := _) ?_ (by kernel_rfl) (by kernel_rfl) (by kernel_rfl) ?_ (Or.inl ⟨?_, ?_⟩) (by assumption) ?_
    rotate_left 2
    · (simp only [List.getElem?_toArray, List.getElem?_cons_succ, List.getElem?_cons_zero]; rfl)
    · first | exact fun _ _ _ h => h | exact fun _ _ _ h => nomatch h.1
    · rfl
    · (intro W hSW; (try dsimp only at hSW); go_split_ands; first | (go_simp; done) | (go_simp; with_reducible rfl))
    try simp only [Act.put, List.setIfInBounds_toArray, List.set_cons_zero, List.set_cons_succ]
    refine' wpAnyH_take (i := 9) (oi := _) (v := _) ?_ (by kernel_rfl) (by kernel_rfl) (by kernel_rfl) ?_ (Or.inl ⟨?_, ?_⟩) (by assumption) ?_
    rotate_left 2
    · (simp only [List.getElem?_toArray, List.getElem?_cons_succ, List.getElem?_cons_zero]; rfl)
    · first | exact fun _ _ _ h => h | exact fun _ _ _ h => nomatch h.1
    · rfl
    · (intro W hSW; (try dsimp only at hSW); go_split_ands; first | (go_simp; done) | (go_simp; with_reducible rfl))
    try simp only [Act.put, List.setIfInBounds_toArray, List.set_cons_zero, List.set_cons_succ]
    refine' wpAnyH_take (i := 11) (oi := _) (v := _) ?_ (by kernel_rfl) (by kernel_rfl) (by kernel_rfl) ?_ (Or.inl ⟨?_, ?_⟩) (by assumption) ?_
    rotate_left 2
    · (simp only [List.getElem?_toArray, List.getElem?_cons_succ, List.getElem?_cons_zero]; rfl)
    · first | exact fun _ _ _ h => h | exact fun _ _ _ h => nomatch h.1
    · rfl
    · (intro W hSW; (try dsimp only at hSW); go_split_ands; first | (go_simp; done) | (go_simp; with_reducible rfl))
    try simp only [Act.put, List.setIfInBounds_toArray, List.set_cons_zero, List.set_cons_succ]
    refine' wpAnyH_take (i := 12) (oi := _) (v := _) ?_ (by kernel_rfl) (by kernel_rfl) (by kernel_rfl) ?_ (Or.inl ⟨?_, ?_⟩) (by assumption) ?_
    rotate_left 2
    · (simp only [List.getElem?_toArray, List.getElem?_cons_succ, List.getElem?_cons_zero]; rfl)
    · first | exact fun _ _ _ h => h | exact fun _ _ _ h => nomatch h.1
    · rfl
    · (intro W hSW; (try dsimp only at hSW); go_split_ands; first | (go_simp; done) | (go_simp; with_reducible rfl))
    try simp only [Act.put, List.setIfInBounds_toArray, List.set_cons_zero, List.set_cons_succ]
    refine wpAnyH_ready (rs := [0]) (by kernel_rfl) (by simp) ?_
    refine' AllReadyH.cons (o := _) ?_ (fun K hK => ?_) AllReadyH.nil
    rotate_left 1
    · (simp only [List.getElem?_toArray, List.getElem?_cons_succ, List.getElem?_cons_zero]; rfl)
    go_simp
    refine (letters_c _).mono ?_
    rintro e w1 ⟨rfl, rfl⟩
    go_simp
    refine hK.out _ _ ?_ (fun hHeld => ?_)
    · go_keep
    clear hHeld
    refine wpAnyH_more (S' := fun W' => W'.cell? ⟨w.heap.size, 0, none⟩ = some (.int .i64 1) ∧ W'.cell? ⟨w.heap.size, 1, none⟩ = some (.int .i64 s) ∧ W'.cell? ⟨w.heap.size, 2, none⟩ = some (.int .i64 g) ∧ W'.cell? ⟨w.heap.size + 1, 1, none⟩ = some (.string ⟨#[102]⟩)) (fun _ h => ⟨h.1, h.2.1, h.2.2.1⟩) ?_ (fun hHeld => ?_)
    · go_keep
    refine' wpAnyH_take (i := 3) (oi := _) (v := _) ?_ (by kernel_rfl) (by kernel_rfl) (by kernel_rfl) ?_ (Or.inl ⟨?_, ?_⟩) (by assumption) ?_
    rotate_left 2
    · (simp only [List.getElem?_toArray, List.getElem?_cons_succ, List.getElem?_cons_zero]; rfl)
    · first | exact fun _ _ _ h => h | exact fun _ _ _ h => nomatch h.1
    · rfl
    · (intro W hSW; (try dsimp only at hSW); go_split_ands; first | (go_simp; done) | (go_simp; with_reducible rfl))
    try simp only [Act.put, List.setIfInBounds_toArray, List.set_cons_zero, List.set_cons_succ]
    refine' wpAnyH_take (i := 4) (oi := _) (v := _) ?_ (by kernel_rfl) (by kernel_rfl) (by kernel_rfl) ?_ (Or.inl ⟨?_, ?_⟩) (by assumption) ?_
    rotate_left 2
    · (simp only [List.getElem?_toArray, List.getElem?_cons_succ, List.getElem?_cons_zero]; rfl)
    · first | exact fun _ _ _ h => h | exact fun _ _ _ h => nomatch h.1
    · rfl
    · (intro W hSW; (try dsimp only at hSW); go_split_ands; first | (go_simp; done) | (go_simp; with_reducible rfl))
    try simp only [Act.put, List.setIfInBounds_toArray, List.set_cons_zero, List.set_cons_succ]
    refine wpAnyH_ready (rs := [7]) (by kernel_rfl) (by simp) ?_
    refine' AllReadyH.cons (o := _) ?_ (fun K hK => ?_) AllReadyH.nil
    rotate_left 1
    · (simp only [List.getElem?_toArray, List.getElem?_cons_succ, List.getElem?_cons_zero]; rfl)
    go_simp
    refine (itoa_ret s _ ?_ ?_ ?_).mono ?_
    · exact hE.on (by go_grown)
    · omega
    · omega
    rintro e w1 ⟨rfl, hb1⟩
    have hB1 := under (w := w) hb1
    go_simp
    refine hK.out _ _ ?_ (fun hHeld => ?_)
    · (go_split_ands; refine ⟨?_, ?_, ?_, ?_⟩ <;> exact keep_cell hb1 (by first | (simp; done) | (simp; omega)) (by assumption))
    clear hK K
    refine' wpAnyH_take (i := 8) (oi := _) (v := _) ?_ (by kernel_rfl) (by kernel_rfl) (by kernel_rfl) ?_ (Or.inl ⟨?_, ?_⟩) (by assumption) ?_
    rotate_left 2
    · (simp only [List.getElem?_toArray, List.getElem?_cons_succ, List.getElem?_cons_zero]; rfl)
    · first | exact fun _ _ _ h => h | exact fun _ _ _ h => nomatch h.1
    · rfl
    · (intro W hSW; (try dsimp only at hSW); go_split_ands; first | (go_simp; done) | (go_simp; with_reducible rfl))
    try simp only [Act.put, List.setIfInBounds_toArray, List.set_cons_zero, List.set_cons_succ]
    refine' wpAnyH_take (i := 10) (oi := _) (v := _) ?_ (by kernel_rfl) (by kernel_rfl) (by kernel_rfl) ?_ (Or.inl ⟨?_, ?_⟩) (by assumption) ?_
    rotate_left 2
    · (simp only [List.getElem?_toArray, List.getElem?_cons_succ, List.getElem?_cons_zero]; rfl)
    · first | exact fun _ _ _ h => h | exact fun _ _ _ h => nomatch h.1
    · rfl
    · (intro W hSW; (try dsimp only at hSW); go_split_ands; first | (go_simp; done) | (go_simp; with_reducible rfl))
    try simp only [Act.put, List.setIfInBounds_toArray, List.set_cons_zero, List.set_cons_succ]
    refine wpAnyH_ready (rs := [13]) (by kernel_rfl) (by simp) ?_
    refine' AllReadyH.cons (o := _) ?_ (fun K hK => ?_) AllReadyH.nil
    rotate_left 1
    · (simp only [List.getElem?_toArray, List.getElem?_cons_succ, List.getElem?_cons_zero]; rfl)
    go_simp
    refine (itoa_ret g _ ?_ ?_ ?_).mono ?_
    · exact hE.on hB1
    · omega
    · omega
    rintro e w2 ⟨rfl, hb2⟩
    go_simp
    refine hK.out _ _ ?_ (fun hHeld => ?_)
    · (go_split_ands; refine ⟨?_, ?_, ?_, ?_⟩ <;> exact keep_cell hb2 (by have := hb1.size; simp at this; omega) (by assumption))
    clear hK K
    refine' wpAnyH_take (i := 14) (oi := _) (v := _) ?_ (by kernel_rfl) (by kernel_rfl) (by kernel_rfl) ?_ (Or.inl ⟨?_, ?_⟩) (by assumption) ?_
    rotate_left 2
    · (simp only [List.getElem?_toArray, List.getElem?_cons_succ, List.getElem?_cons_zero]; rfl)
    · first | exact fun _ _ _ h => h | exact fun _ _ _ h => nomatch h.1
    · rfl
    · (intro W hSW; (try dsimp only at hSW); go_split_ands; first | (go_simp; done) | (go_simp; with_reducible rfl))
    try simp only [Act.put, List.setIfInBounds_toArray, List.set_cons_zero, List.set_cons_succ]
    refine' wpAnyH_take (i := 15) (oi := _) (v := _) ?_ (by kernel_rfl) (by kernel_rfl) (by kernel_rfl) ?_ (Or.inl ⟨?_, ?_⟩) (by assumption) ?_
    rotate_left 2
    · (simp only [List.getElem?_toArray, List.getElem?_cons_succ, List.getElem?_cons_zero]; rfl)
    · first | exact fun _ _ _ h => h | exact fun _ _ _ h => nomatch h.1
    · rfl
    · (intro W hSW; (try dsimp only at hSW); go_split_ands; first | (go_simp; done) | (go_simp; with_reducible rfl))
    try simp only [Act.put, List.setIfInBounds_toArray, List.set_cons_zero, List.set_cons_succ]
    refine wpAnyH_done (by kernel_rfl) ?_ _
    go_wp2_with fail
    go_returns
    exact ⟨rfl, chain hB1 hb2⟩
  · go_enter Tryz.func42, Tryz.ntmps42
    go_wp2_with fail
    refine wp_region_held_drew (S := fun W' => W'.cell? ⟨w.heap.size, 0, none⟩ = some (.int .i64 2) ∧ W'.cell? ⟨w.heap.size, 1, none⟩ = some (.int .i64 s) ∧ W'.cell? ⟨w.heap.size, 2, none⟩ = some (.int .i64 g)) (by kernel_rfl) ?_ (fun hHeld => ?_)
    · go_keep
    refine' wpAnyH_take (i := 1) (oi := _) (v := _) ?_ (by kernel_rfl) (by kernel_rfl) (by kernel_rfl) ?_ (Or.inl ⟨?_, ?_⟩) (by assumption) ?_
    rotate_left 2
    · (simp only [List.getElem?_toArray, List.getElem?_cons_succ, List.getElem?_cons_zero]; rfl)
    · first | exact fun _ _ _ h => h | exact fun _ _ _ h => nomatch h.1
    · rfl
    · (intro W hSW; (try dsimp only at hSW); go_split_ands; first | (go_simp; done) | (go_simp; with_reducible rfl))
    try simp only [Act.put, List.setIfInBounds_toArray, List.set_cons_zero, List.set_cons_succ]
    refine' wpAnyH_take (i := 2) (oi := _) (v := _) ?_ (by kernel_rfl) (by kernel_rfl) (by kernel_rfl) ?_ (Or.inl ⟨?_, ?_⟩) (by assumption) ?_
    rotate_left 2
    · (simp only [List.getElem?_toArray, List.getElem?_cons_succ, List.getElem?_cons_zero]; rfl)
    · first | exact fun _ _ _ h => h | exact fun _ _ _ h => nomatch h.1
    · rfl
    · (intro W hSW; (try dsimp only at hSW); go_split_ands; first | (go_simp; done) | (go_simp; with_reducible rfl))
    try simp only [Act.put, List.setIfInBounds_toArray, List.set_cons_zero, List.set_cons_succ]
    refine' wpAnyH_take (i := 5) (oi := _) (v := _) ?_ (by kernel_rfl) (by kernel_rfl) (by kernel_rfl) ?_ (Or.inl ⟨?_, ?_⟩) (by assumption) ?_
    rotate_left 2
    · (simp only [List.getElem?_toArray, List.getElem?_cons_succ, List.getElem?_cons_zero]; rfl)
    · first | exact fun _ _ _ h => h | exact fun _ _ _ h => nomatch h.1
    · rfl
    · (intro W hSW; (try dsimp only at hSW); go_split_ands; first | (go_simp; done) | (go_simp; with_reducible rfl))
    try simp only [Act.put, List.setIfInBounds_toArray, List.set_cons_zero, List.set_cons_succ]
    refine' wpAnyH_take (i := 6) (oi := _) (v := _) ?_ (by kernel_rfl) (by kernel_rfl) (by kernel_rfl) ?_ (Or.inl ⟨?_, ?_⟩) (by assumption) ?_
    rotate_left 2
    · (simp only [List.getElem?_toArray, List.getElem?_cons_succ, List.getElem?_cons_zero]; rfl)
    · first | exact fun _ _ _ h => h | exact fun _ _ _ h => nomatch h.1
    · rfl
    · (intro W hSW; (try dsimp only at hSW); go_split_ands; first | (go_simp; done) | (go_simp; with_reducible rfl))
    try simp only [Act.put, List.setIfInBounds_toArray, List.set_cons_zero, List.set_cons_succ]
    refine' wpAnyH_take (i := 9) (oi := _) (v := _) ?_ (by kernel_rfl) (by kernel_rfl) (by kernel_rfl) ?_ (Or.inl ⟨?_, ?_⟩) (by assumption) ?_
    rotate_left 2
    · (simp only [List.getElem?_toArray, List.getElem?_cons_succ, List.getElem?_cons_zero]; rfl)
    · first | exact fun _ _ _ h => h | exact fun _ _ _ h => nomatch h.1
    · rfl
    · (intro W hSW; (try dsimp only at hSW); go_split_ands; first | (go_simp; done) | (go_simp; with_reducible rfl))
    try simp only [Act.put, List.setIfInBounds_toArray, List.set_cons_zero, List.set_cons_succ]
    refine' wpAnyH_take (i := 11) (oi := _) (v := _) ?_ (by kernel_rfl) (by kernel_rfl) (by kernel_rfl) ?_ (Or.inl ⟨?_, ?_⟩) (by assumption) ?_
    rotate_left 2
    · (simp only [List.getElem?_toArray, List.getElem?_cons_succ, List.getElem?_cons_zero]; rfl)
    · first | exact fun _ _ _ h => h | exact fun _ _ _ h => nomatch h.1
    · rfl
    · (intro W hSW; (try dsimp only at hSW); go_split_ands; first | (go_simp; done) | (go_simp; with_reducible rfl))
    try simp only [Act.put, List.setIfInBounds_toArray, List.set_cons_zero, List.set_cons_succ]
    refine' wpAnyH_take (i := 12) (oi := _) (v := _) ?_ (by kernel_rfl) (by kernel_rfl) (by kernel_rfl) ?_ (Or.inl ⟨?_, ?_⟩) (by assumption) ?_
    rotate_left 2
    · (simp only [List.getElem?_toArray, List.getElem?_cons_succ, List.getElem?_cons_zero]; rfl)
    · first | exact fun _ _ _ h => h | exact fun _ _ _ h => nomatch h.1
    · rfl
    · (intro W hSW; (try dsimp only at hSW); go_split_ands; first | (go_simp; done) | (go_simp; with_reducible rfl))
    try simp only [Act.put, List.setIfInBounds_toArray, List.set_cons_zero, List.set_cons_succ]
    refine wpAnyH_ready (rs := [0]) (by kernel_rfl) (by simp) ?_
    refine' AllReadyH.cons (o := _) ?_ (fun K hK => ?_) AllReadyH.nil
    rotate_left 1
    · (simp only [List.getElem?_toArray, List.getElem?_cons_succ, List.getElem?_cons_zero]; rfl)
    go_simp
    refine (letters_c _).mono ?_
    rintro e w1 ⟨rfl, rfl⟩
    go_simp
    refine hK.out _ _ ?_ (fun hHeld => ?_)
    · go_keep
    clear hHeld
    refine wpAnyH_more (S' := fun W' => W'.cell? ⟨w.heap.size, 0, none⟩ = some (.int .i64 2) ∧ W'.cell? ⟨w.heap.size, 1, none⟩ = some (.int .i64 s) ∧ W'.cell? ⟨w.heap.size, 2, none⟩ = some (.int .i64 g) ∧ W'.cell? ⟨w.heap.size + 1, 2, none⟩ = some (.string ⟨#[98]⟩)) (fun _ h => ⟨h.1, h.2.1, h.2.2.1⟩) ?_ (fun hHeld => ?_)
    · go_keep
    refine' wpAnyH_take (i := 3) (oi := _) (v := _) ?_ (by kernel_rfl) (by kernel_rfl) (by kernel_rfl) ?_ (Or.inl ⟨?_, ?_⟩) (by assumption) ?_
    rotate_left 2
    · (simp only [List.getElem?_toArray, List.getElem?_cons_succ, List.getElem?_cons_zero]; rfl)
    · first | exact fun _ _ _ h => h | exact fun _ _ _ h => nomatch h.1
    · rfl
    · (intro W hSW; (try dsimp only at hSW); go_split_ands; first | (go_simp; done) | (go_simp; with_reducible rfl))
    try simp only [Act.put, List.setIfInBounds_toArray, List.set_cons_zero, List.set_cons_succ]
    refine' wpAnyH_take (i := 4) (oi := _) (v := _) ?_ (by kernel_rfl) (by kernel_rfl) (by kernel_rfl) ?_ (Or.inl ⟨?_, ?_⟩) (by assumption) ?_
    rotate_left 2
    · (simp only [List.getElem?_toArray, List.getElem?_cons_succ, List.getElem?_cons_zero]; rfl)
    · first | exact fun _ _ _ h => h | exact fun _ _ _ h => nomatch h.1
    · rfl
    · (intro W hSW; (try dsimp only at hSW); go_split_ands; first | (go_simp; done) | (go_simp; with_reducible rfl))
    try simp only [Act.put, List.setIfInBounds_toArray, List.set_cons_zero, List.set_cons_succ]
    refine wpAnyH_ready (rs := [7]) (by kernel_rfl) (by simp) ?_
    refine' AllReadyH.cons (o := _) ?_ (fun K hK => ?_) AllReadyH.nil
    rotate_left 1
    · (simp only [List.getElem?_toArray, List.getElem?_cons_succ, List.getElem?_cons_zero]; rfl)
    go_simp
    refine (itoa_ret s _ ?_ ?_ ?_).mono ?_
    · exact hE.on (by go_grown)
    · omega
    · omega
    rintro e w1 ⟨rfl, hb1⟩
    have hB1 := under (w := w) hb1
    go_simp
    refine hK.out _ _ ?_ (fun hHeld => ?_)
    · (go_split_ands; refine ⟨?_, ?_, ?_, ?_⟩ <;> exact keep_cell hb1 (by first | (simp; done) | (simp; omega)) (by assumption))
    clear hK K
    refine' wpAnyH_take (i := 8) (oi := _) (v := _) ?_ (by kernel_rfl) (by kernel_rfl) (by kernel_rfl) ?_ (Or.inl ⟨?_, ?_⟩) (by assumption) ?_
    rotate_left 2
    · (simp only [List.getElem?_toArray, List.getElem?_cons_succ, List.getElem?_cons_zero]; rfl)
    · first | exact fun _ _ _ h => h | exact fun _ _ _ h => nomatch h.1
    · rfl
    · (intro W hSW; (try dsimp only at hSW); go_split_ands; first | (go_simp; done) | (go_simp; with_reducible rfl))
    try simp only [Act.put, List.setIfInBounds_toArray, List.set_cons_zero, List.set_cons_succ]
    refine' wpAnyH_take (i := 10) (oi := _) (v := _) ?_ (by kernel_rfl) (by kernel_rfl) (by kernel_rfl) ?_ (Or.inl ⟨?_, ?_⟩) (by assumption) ?_
    rotate_left 2
    · (simp only [List.getElem?_toArray, List.getElem?_cons_succ, List.getElem?_cons_zero]; rfl)
    · first | exact fun _ _ _ h => h | exact fun _ _ _ h => nomatch h.1
    · rfl
    · (intro W hSW; (try dsimp only at hSW); go_split_ands; first | (go_simp; done) | (go_simp; with_reducible rfl))
    try simp only [Act.put, List.setIfInBounds_toArray, List.set_cons_zero, List.set_cons_succ]
    refine wpAnyH_ready (rs := [13]) (by kernel_rfl) (by simp) ?_
    refine' AllReadyH.cons (o := _) ?_ (fun K hK => ?_) AllReadyH.nil
    rotate_left 1
    · (simp only [List.getElem?_toArray, List.getElem?_cons_succ, List.getElem?_cons_zero]; rfl)
    go_simp
    refine (itoa_ret g _ ?_ ?_ ?_).mono ?_
    · exact hE.on hB1
    · omega
    · omega
    rintro e w2 ⟨rfl, hb2⟩
    go_simp
    refine hK.out _ _ ?_ (fun hHeld => ?_)
    · (go_split_ands; refine ⟨?_, ?_, ?_, ?_⟩ <;> exact keep_cell hb2 (by have := hb1.size; simp at this; omega) (by assumption))
    clear hK K
    refine' wpAnyH_take (i := 14) (oi := _) (v := _) ?_ (by kernel_rfl) (by kernel_rfl) (by kernel_rfl) ?_ (Or.inl ⟨?_, ?_⟩) (by assumption) ?_
    rotate_left 2
    · (simp only [List.getElem?_toArray, List.getElem?_cons_succ, List.getElem?_cons_zero]; rfl)
    · first | exact fun _ _ _ h => h | exact fun _ _ _ h => nomatch h.1
    · rfl
    · (intro W hSW; (try dsimp only at hSW); go_split_ands; first | (go_simp; done) | (go_simp; with_reducible rfl))
    try simp only [Act.put, List.setIfInBounds_toArray, List.set_cons_zero, List.set_cons_succ]
    refine' wpAnyH_take (i := 15) (oi := _) (v := _) ?_ (by kernel_rfl) (by kernel_rfl) (by kernel_rfl) ?_ (Or.inl ⟨?_, ?_⟩) (by assumption) ?_
    rotate_left 2
    · (simp only [List.getElem?_toArray, List.getElem?_cons_succ, List.getElem?_cons_zero]; rfl)
    · first | exact fun _ _ _ h => h | exact fun _ _ _ h => nomatch h.1
    · rfl
    · (intro W hSW; (try dsimp only at hSW); go_split_ands; first | (go_simp; done) | (go_simp; with_reducible rfl))
    try simp only [Act.put, List.setIfInBounds_toArray, List.set_cons_zero, List.set_cons_succ]
    refine wpAnyH_done (by kernel_rfl) ?_ _
    go_wp2_with fail
    go_returns
    exact ⟨rfl, chain hB1 hb2⟩
  · go_enter Tryz.func42, Tryz.ntmps42
    go_wp2_with fail
    refine wp_region_held_drew (S := fun W' => W'.cell? ⟨w.heap.size, 0, none⟩ = some (.int .i64 3) ∧ W'.cell? ⟨w.heap.size, 1, none⟩ = some (.int .i64 s) ∧ W'.cell? ⟨w.heap.size, 2, none⟩ = some (.int .i64 g)) (by kernel_rfl) ?_ (fun hHeld => ?_)
    · go_keep
    refine' wpAnyH_take (i := 1) (oi := _) (v := _) ?_ (by kernel_rfl) (by kernel_rfl) (by kernel_rfl) ?_ (Or.inl ⟨?_, ?_⟩) (by assumption) ?_
    rotate_left 2
    · (simp only [List.getElem?_toArray, List.getElem?_cons_succ, List.getElem?_cons_zero]; rfl)
    · first | exact fun _ _ _ h => h | exact fun _ _ _ h => nomatch h.1
    · rfl
    · (intro W hSW; (try dsimp only at hSW); go_split_ands; first | (go_simp; done) | (go_simp; with_reducible rfl))
    try simp only [Act.put, List.setIfInBounds_toArray, List.set_cons_zero, List.set_cons_succ]
    refine' wpAnyH_take (i := 2) (oi := _) (v := _) ?_ (by kernel_rfl) (by kernel_rfl) (by kernel_rfl) ?_ (Or.inl ⟨?_, ?_⟩) (by assumption) ?_
    rotate_left 2
    · (simp only [List.getElem?_toArray, List.getElem?_cons_succ, List.getElem?_cons_zero]; rfl)
    · first | exact fun _ _ _ h => h | exact fun _ _ _ h => nomatch h.1
    · rfl
    · (intro W hSW; (try dsimp only at hSW); go_split_ands; first | (go_simp; done) | (go_simp; with_reducible rfl))
    try simp only [Act.put, List.setIfInBounds_toArray, List.set_cons_zero, List.set_cons_succ]
    refine' wpAnyH_take (i := 5) (oi := _) (v := _) ?_ (by kernel_rfl) (by kernel_rfl) (by kernel_rfl) ?_ (Or.inl ⟨?_, ?_⟩) (by assumption) ?_
    rotate_left 2
    · (simp only [List.getElem?_toArray, List.getElem?_cons_succ, List.getElem?_cons_zero]; rfl)
    · first | exact fun _ _ _ h => h | exact fun _ _ _ h => nomatch h.1
    · rfl
    · (intro W hSW; (try dsimp only at hSW); go_split_ands; first | (go_simp; done) | (go_simp; with_reducible rfl))
    try simp only [Act.put, List.setIfInBounds_toArray, List.set_cons_zero, List.set_cons_succ]
    refine' wpAnyH_take (i := 6) (oi := _) (v := _) ?_ (by kernel_rfl) (by kernel_rfl) (by kernel_rfl) ?_ (Or.inl ⟨?_, ?_⟩) (by assumption) ?_
    rotate_left 2
    · (simp only [List.getElem?_toArray, List.getElem?_cons_succ, List.getElem?_cons_zero]; rfl)
    · first | exact fun _ _ _ h => h | exact fun _ _ _ h => nomatch h.1
    · rfl
    · (intro W hSW; (try dsimp only at hSW); go_split_ands; first | (go_simp; done) | (go_simp; with_reducible rfl))
    try simp only [Act.put, List.setIfInBounds_toArray, List.set_cons_zero, List.set_cons_succ]
    refine' wpAnyH_take (i := 9) (oi := _) (v := _) ?_ (by kernel_rfl) (by kernel_rfl) (by kernel_rfl) ?_ (Or.inl ⟨?_, ?_⟩) (by assumption) ?_
    rotate_left 2
    · (simp only [List.getElem?_toArray, List.getElem?_cons_succ, List.getElem?_cons_zero]; rfl)
    · first | exact fun _ _ _ h => h | exact fun _ _ _ h => nomatch h.1
    · rfl
    · (intro W hSW; (try dsimp only at hSW); go_split_ands; first | (go_simp; done) | (go_simp; with_reducible rfl))
    try simp only [Act.put, List.setIfInBounds_toArray, List.set_cons_zero, List.set_cons_succ]
    refine' wpAnyH_take (i := 11) (oi := _) (v := _) ?_ (by kernel_rfl) (by kernel_rfl) (by kernel_rfl) ?_ (Or.inl ⟨?_, ?_⟩) (by assumption) ?_
    rotate_left 2
    · (simp only [List.getElem?_toArray, List.getElem?_cons_succ, List.getElem?_cons_zero]; rfl)
    · first | exact fun _ _ _ h => h | exact fun _ _ _ h => nomatch h.1
    · rfl
    · (intro W hSW; (try dsimp only at hSW); go_split_ands; first | (go_simp; done) | (go_simp; with_reducible rfl))
    try simp only [Act.put, List.setIfInBounds_toArray, List.set_cons_zero, List.set_cons_succ]
    refine' wpAnyH_take (i := 12) (oi := _) (v := _) ?_ (by kernel_rfl) (by kernel_rfl) (by kernel_rfl) ?_ (Or.inl ⟨?_, ?_⟩) (by assumption) ?_
    rotate_left 2
    · (simp only [List.getElem?_toArray, List.getElem?_cons_succ, List.getElem?_cons_zero]; rfl)
    · first | exact fun _ _ _ h => h | exact fun _ _ _ h => nomatch h.1
    · rfl
    · (intro W hSW; (try dsimp only at hSW); go_split_ands; first | (go_simp; done) | (go_simp; with_reducible rfl))
    try simp only [Act.put, List.setIfInBounds_toArray, List.set_cons_zero, List.set_cons_succ]
    refine wpAnyH_ready (rs := [0]) (by kernel_rfl) (by simp) ?_
    refine' AllReadyH.cons (o := _) ?_ (fun K hK => ?_) AllReadyH.nil
    rotate_left 1
    · (simp only [List.getElem?_toArray, List.getElem?_cons_succ, List.getElem?_cons_zero]; rfl)
    go_simp
    refine (letters_c _).mono ?_
    rintro e w1 ⟨rfl, rfl⟩
    go_simp
    refine hK.out _ _ ?_ (fun hHeld => ?_)
    · go_keep
    clear hHeld
    refine wpAnyH_more (S' := fun W' => W'.cell? ⟨w.heap.size, 0, none⟩ = some (.int .i64 3) ∧ W'.cell? ⟨w.heap.size, 1, none⟩ = some (.int .i64 s) ∧ W'.cell? ⟨w.heap.size, 2, none⟩ = some (.int .i64 g) ∧ W'.cell? ⟨w.heap.size + 1, 3, none⟩ = some (.string ⟨#[108]⟩)) (fun _ h => ⟨h.1, h.2.1, h.2.2.1⟩) ?_ (fun hHeld => ?_)
    · go_keep
    refine' wpAnyH_take (i := 3) (oi := _) (v := _) ?_ (by kernel_rfl) (by kernel_rfl) (by kernel_rfl) ?_ (Or.inl ⟨?_, ?_⟩) (by assumption) ?_
    rotate_left 2
    · (simp only [List.getElem?_toArray, List.getElem?_cons_succ, List.getElem?_cons_zero]; rfl)
    · first | exact fun _ _ _ h => h | exact fun _ _ _ h => nomatch h.1
    · rfl
    · (intro W hSW; (try dsimp only at hSW); go_split_ands; first | (go_simp; done) | (go_simp; with_reducible rfl))
    try simp only [Act.put, List.setIfInBounds_toArray, List.set_cons_zero, List.set_cons_succ]
    refine' wpAnyH_take (i := 4) (oi := _) (v := _) ?_ (by kernel_rfl) (by kernel_rfl) (by kernel_rfl) ?_ (Or.inl ⟨?_, ?_⟩) (by assumption) ?_
    rotate_left 2
    · (simp only [List.getElem?_toArray, List.getElem?_cons_succ, List.getElem?_cons_zero]; rfl)
    · first | exact fun _ _ _ h => h | exact fun _ _ _ h => nomatch h.1
    · rfl
    · (intro W hSW; (try dsimp only at hSW); go_split_ands; first | (go_simp; done) | (go_simp; with_reducible rfl))
    try simp only [Act.put, List.setIfInBounds_toArray, List.set_cons_zero, List.set_cons_succ]
    refine wpAnyH_ready (rs := [7]) (by kernel_rfl) (by simp) ?_
    refine' AllReadyH.cons (o := _) ?_ (fun K hK => ?_) AllReadyH.nil
    rotate_left 1
    · (simp only [List.getElem?_toArray, List.getElem?_cons_succ, List.getElem?_cons_zero]; rfl)
    go_simp
    refine (itoa_ret s _ ?_ ?_ ?_).mono ?_
    · exact hE.on (by go_grown)
    · omega
    · omega
    rintro e w1 ⟨rfl, hb1⟩
    have hB1 := under (w := w) hb1
    go_simp
    refine hK.out _ _ ?_ (fun hHeld => ?_)
    · (go_split_ands; refine ⟨?_, ?_, ?_, ?_⟩ <;> exact keep_cell hb1 (by first | (simp; done) | (simp; omega)) (by assumption))
    clear hK K
    refine' wpAnyH_take (i := 8) (oi := _) (v := _) ?_ (by kernel_rfl) (by kernel_rfl) (by kernel_rfl) ?_ (Or.inl ⟨?_, ?_⟩) (by assumption) ?_
    rotate_left 2
    · (simp only [List.getElem?_toArray, List.getElem?_cons_succ, List.getElem?_cons_zero]; rfl)
    · first | exact fun _ _ _ h => h | exact fun _ _ _ h => nomatch h.1
    · rfl
    · (intro W hSW; (try dsimp only at hSW); go_split_ands; first | (go_simp; done) | (go_simp; with_reducible rfl))
    try simp only [Act.put, List.setIfInBounds_toArray, List.set_cons_zero, List.set_cons_succ]
    refine' wpAnyH_take (i := 10) (oi := _) (v := _) ?_ (by kernel_rfl) (by kernel_rfl) (by kernel_rfl) ?_ (Or.inl ⟨?_, ?_⟩) (by assumption) ?_
    rotate_left 2
    · (simp only [List.getElem?_toArray, List.getElem?_cons_succ, List.getElem?_cons_zero]; rfl)
    · first | exact fun _ _ _ h => h | exact fun _ _ _ h => nomatch h.1
    · rfl
    · (intro W hSW; (try dsimp only at hSW); go_split_ands; first | (go_simp; done) | (go_simp; with_reducible rfl))
    try simp only [Act.put, List.setIfInBounds_toArray, List.set_cons_zero, List.set_cons_succ]
    refine wpAnyH_ready (rs := [13]) (by kernel_rfl) (by simp) ?_
    refine' AllReadyH.cons (o := _) ?_ (fun K hK => ?_) AllReadyH.nil
    rotate_left 1
    · (simp only [List.getElem?_toArray, List.getElem?_cons_succ, List.getElem?_cons_zero]; rfl)
    go_simp
    refine (itoa_ret g _ ?_ ?_ ?_).mono ?_
    · exact hE.on hB1
    · omega
    · omega
    rintro e w2 ⟨rfl, hb2⟩
    go_simp
    refine hK.out _ _ ?_ (fun hHeld => ?_)
    · (go_split_ands; refine ⟨?_, ?_, ?_, ?_⟩ <;> exact keep_cell hb2 (by have := hb1.size; simp at this; omega) (by assumption))
    clear hK K
    refine' wpAnyH_take (i := 14) (oi := _) (v := _) ?_ (by kernel_rfl) (by kernel_rfl) (by kernel_rfl) ?_ (Or.inl ⟨?_, ?_⟩) (by assumption) ?_
    rotate_left 2
    · (simp only [List.getElem?_toArray, List.getElem?_cons_succ, List.getElem?_cons_zero]; rfl)
    · first | exact fun _ _ _ h => h | exact fun _ _ _ h => nomatch h.1
    · rfl
    · (intro W hSW; (try dsimp only at hSW); go_split_ands; first | (go_simp; done) | (go_simp; with_reducible rfl))
    try simp only [Act.put, List.setIfInBounds_toArray, List.set_cons_zero, List.set_cons_succ]
    refine' wpAnyH_take (i := 15) (oi := _) (v := _) ?_ (by kernel_rfl) (by kernel_rfl) (by kernel_rfl) ?_ (Or.inl ⟨?_, ?_⟩) (by assumption) ?_
    rotate_left 2
    · (simp only [List.getElem?_toArray, List.getElem?_cons_succ, List.getElem?_cons_zero]; rfl)
    · first | exact fun _ _ _ h => h | exact fun _ _ _ h => nomatch h.1
    · rfl
    · (intro W hSW; (try dsimp only at hSW); go_split_ands; first | (go_simp; done) | (go_simp; with_reducible rfl))
    try simp only [Act.put, List.setIfInBounds_toArray, List.set_cons_zero, List.set_cons_succ]
    refine wpAnyH_done (by kernel_rfl) ?_ _
    go_wp2_with fail
    go_returns
    exact ⟨rfl, chain hB1 hb2⟩
theorem nm_text (c : UInt8) (k s g : Int) (w : World) (hE : Env w) (k1 : 1 ≤ k) (k3 : k ≤ 3) (s0 : 0 ≤ s) (s1 : s < 10000000000) (g0 : 0 ≤ g) (g1 : g ≤ 4294967295) :
    Ret 42 #[nmV k s g, .string ⟨#[c]⟩] w (.string (dText c k s g)) := by
  rw [← cat_text]
  refine nm_text_at c (letterB k) k s g k.toNat w hE ?_ s0 s1 g0 g1 _ _ _ rfl rfl rfl
  rcases (by omega : k = 1 ∨ k = 2 ∨ k = 3) with rfl | rfl | rfl
  · exact .inl ⟨rfl, rfl, rfl⟩
  · exact .inr (.inl ⟨rfl, rfl, rfl⟩)
  · exact .inr (.inr ⟨rfl, rfl, rfl⟩)
end Go.Proofs.YtgckfiadnmjonabGreatDoor

/- Contracts of package descr: Check, Pack, Unpack, Text, CheckOuter, OuterText. -/
namespace Go.Proofs.YtgckfiadnmjonabGreatDoor
open Go.RowKit
open Go.Lib (decDigits)

theorem o_check (k s g : Int) (w : World) (g0 : 0 ≤ g) (g1 : g ≤ 4294967295) : Ret 40 #[dV k s g] w (.int .i64 (dErr 64 k s g)) := by
  have hk := fun w => nm_check 64 k s g w g0 g1
  generalize dErr 64 k s g = v at hk
  have HK := Lib.hid hk
  clear hk
  go_enter Tryz.func40, Tryz.ntmps40
  go_wp2_with (first | (go_at_call 60; refine (HK.out _).mono ?_; rintro e w1 ⟨rfl, hb1⟩) | go_in)
  go_returns
  exact ⟨rfl, under hb1⟩
set_option maxHeartbeats 2000000 in
theorem o_text_ok (k s g : Int) (w : World) (hE : Env w) (h : dOk 64 k s g = true) (g0 : 0 ≤ g) (g1 : g ≤ 4294967295) : Ret 23 #[dV k s g] w (.tuple #[.string (dText 58 k s g), .int .i64 0]) := by
  have hk := fun w => o_check k s g w g0 g1
  rw [dErr_ok h] at hk
  rw [dOk_iff] at h
  have ht := fun w hE => nm_text 58 k s g w hE h.1 h.2.1 h.2.2.1 (by omega) g0 g1
  generalize dText 58 k s g = v at ht
  have HK := Lib.hid hk
  have HT := Lib.hid ht
  clear hk h ht
  go_enter Tryz.func23, Tryz.ntmps23
  go_wp2_with fail
  refine (HK.out _).mono ?_
  rintro e w1 ⟨rfl, hb1⟩
  obtain ⟨k1, f1⟩ := bcell hb1
  go_wp2_with (first | (go_at_call 42; refine (HT.out _ ?_).mono ?_; exact (hE.on (under hb1)).on (by go_grown); rintro e w2 ⟨rfl, hb2⟩) | go_in)
  go_returns
  exact ⟨rfl, chain (under hb1) (under hb2)⟩
theorem o_text_bad (k s g : Int) (w : World) (h : dOk 64 k s g = false) (g0 : 0 ≤ g) (g1 : g ≤ 4294967295) : Ret 23 #[dV k s g] w (.tuple #[.string ⟨#[]⟩, .int .i64 2]) := by
  have hk := fun w => o_check k s g w g0 g1
  rw [dErr_bad h] at hk
  have HK := Lib.hid hk
  clear hk h
  go_enter Tryz.func23, Tryz.ntmps23
  go_wp2_with fail
  refine (HK.out _).mono ?_
  rintro e w1 ⟨rfl, hb1⟩
  go_wp2_with fail
  go_returns
  exact ⟨rfl, under hb1⟩
end Go.Proofs.YtgckfiadnmjonabGreatDoor

/- The texts of resources, as bytes. -/
namespace Go.Proofs.YtgckfiadnmjonabGreatDoor
set_option linter.unusedVariables false
open Go.Lib (decDigits)
def stL (st : Int) : List UInt8 := if st = 1 then [108, 105, 118, 101] else if st = 2 then [99, 108, 111, 115, 105, 110, 103] else if st = 3 then [114, 101, 108, 101, 97, 115, 101, 100] else [113, 117, 97, 114, 97, 110, 116, 105, 110, 101]
def whL (wy : Int) : List UInt8 := if wy = 1 then [99, 108, 111, 115, 101] else if wy = 2 then [101, 120, 112, 105, 114, 121] else [99, 111, 108, 108, 101, 99, 116]
/-- The words of a text. -/
def rsWords (k i g st wy tr nx : Int) (tag : List UInt8) : List (List UInt8) :=
  [dTextL 58 k i g, stL st] ++ (if st = 1 then [] else [whL wy, decDigits tr.toNat]) ++ (if st = 2 then [decDigits nx.toNat] else []) ++ [quoteL tag]
def rsL (k i g st wy tr nx : Int) (tag : List UInt8) : List UInt8 := Lib.join (rsWords k i g st wy tr nx tag) [32]
def rsText (k i g st wy tr nx : Int) (tag : ByteArray) : ByteArray := ⟨(rsL k i g st wy tr nx tag.data.toList).toArray⟩
def textV (k i g st wy tr nx : Int) (tag : ByteArray) : Value :=
  if rErr k i g st wy tr nx tag = 0 then .tuple #[.string (rsText k i g st wy tr nx tag), .int .i64 0] else .tuple #[.string ⟨#[]⟩, .int .i64 (rErr k i g st wy tr nx tag)]
end Go.Proofs.YtgckfiadnmjonabGreatDoor

/- strings.Builder's writers at this program (its copyCheck has a branch that the loader leaves out: the library's contracts do not lay here): their contracts. -/
namespace Go.Proofs.YtgckfiadnmjonabGreatDoor
open Go.RowKit
set_option linter.unusedVariables false
set_option linter.unusedSimpArgs false

abbrev bldT : TypeId := 82
abbrev BF (B b : Nat) (l : List UInt8) (w : World) : Prop := Lib.IsBuilderF 82 5 B b (Lib.byteCells l) w
theorem b_size : (Tryz.prog.info? 82).map (·.size) = some 2 := by kernel_rfl
theorem b_byte : (Tryz.prog.info? 5).map (fun i => (i.zero, i.size, i.bytes)) = some (some (.int .u8 0), 1, 1) := by kernel_rfl
set_option maxHeartbeats 1000000 in
set_option maxRecDepth 100000 in
theorem copy_used (b : Nat) (w : World) (h0 : w.cell? ⟨b, 0, none⟩ = some (.pointer (some ⟨b, 0, none⟩))) :
    Calls Tryz.prog 56 #[.pointer (some ⟨b, 0, none⟩)] w fun e w' => e = .returned (.tuple #[]) ∧ w' = w := by
  obtain ⟨j, hj, _⟩ := Option.map_eq_some_iff.1 b_size
  go_enter Tryz.func56, Tryz.ntmps56
  go_wp2
  rw [Lib.run_neq_ptr_same w _ Tryz.underlying79 hj]
  go_wp2
  go_end0
  exact ⟨rfl, rfl⟩
set_option maxHeartbeats 1000000 in
set_option maxRecDepth 100000 in
theorem copy_fresh (b : Nat) (w : World) (h0 : w.cell? ⟨b, 0, none⟩ = some (.pointer none)) (hsh : w.shape? b = some (82, 2)) (hfz : w.frozen? ⟨b, 0, none⟩ = false) :
    Calls Tryz.prog 56 #[.pointer (some ⟨b, 0, none⟩)] w fun e w' => e = .returned (.tuple #[]) ∧ w' = w.setCell ⟨b, 0, none⟩ (.pointer (some ⟨b, 0, none⟩)) := by
  obtain ⟨j, hj, hjs⟩ := Option.map_eq_some_iff.1 b_size
  go_enter Tryz.func56, Tryz.ntmps56
  go_wp2
  rw [Lib.run_to_unsafe w ⟨b, 0, none⟩ Tryz.underlying79 Tryz.underlying126 hj (by rw [hjs]; decide) hsh (Nat.zero_lt_succ 1)]
  simp only [Result.andThen]
  rw [Oper.upon_value]
  go_wp2
  rw [run_callFunc_extern Tryz.func72 (by kernel_rfl) (by kernel_rfl) (by kernel_rfl) (e := Extern.AbiNoEscape.same) (by kernel_rfl)]
  rw [Lib.run_noEscape]
  simp only [Result.andThen]
  rw [Oper.upon_value]
  go_wp2
  rw [Lib.run_from_unsafe w ⟨b, 0, none⟩ Tryz.underlying126 Tryz.underlying79 hj hsh (by kernel_rfl)]
  simp only [Result.andThen]
  rw [Oper.upon_value]
  go_wp2
  go_end0
  exact ⟨rfl, rfl⟩
theorem copy_c (B b : Nat) (bs : List Value) (w : World) (h : Lib.IsBuilderF 82 5 B b bs w) :
    Calls Tryz.prog 56 #[.pointer (some ⟨b, 0, none⟩)] w fun e w' => e = .returned (.tuple #[]) ∧ (Lib.BuilderAtF 82 5 B b (.pointer (some ⟨b, 0, none⟩)) bs w' ∧ Below B w w' ∧ Lib.OthersKept 5 (some b) w w') := by
  rcases h with h | h
  · refine (copy_fresh b w h.cell0 h.shape h.frozen0).mono ?_
    rintro e w' ⟨rfl, rfl⟩
    exact ⟨rfl, h.used _, (Below.refl B w).setCell (p := ⟨b, 0, none⟩) h.1 _, (Lib.OthersKept.refl _ _ w).setCell ⟨b, 0, none⟩ rfl _⟩
  · refine (copy_used b w h.cell0).mono ?_
    rintro e w' ⟨rfl, rfl⟩
    exact ⟨rfl, h, Below.refl B _, Lib.OthersKept.refl _ _ _⟩
set_option maxHeartbeats 2000000 in
set_option maxRecDepth 100000 in
theorem wbyte_c (B b : Nat) (l : List UInt8) (c : UInt8) (w : World) (h : BF B b l w) (hlen : l.length + 1 ≤ 1000000000) (hBw : B ≤ w.heap.size) :
    Calls Tryz.prog 43 #[.pointer (some ⟨b, 0, none⟩), .int .u8 (c.toNat : Int)] w fun e w' => e = .returned .nilIface ∧ (BF B b (l ++ [c]) w' ∧ Below B w w' ∧ Lib.OthersKept 5 (some b) w w') := by
  obtain ⟨i0, hi, hz0, hz1, hz2⟩ := info_parts b_byte
  have hll : (Lib.byteCells l).length = l.length := Lib.byteCells_length l
  go_enter Tryz.func43, Tryz.ntmps43
  go_wp2_with (go_at_call 56; refine (copy_c B b _ _ h).mono ?_)
  rintro e w1 ⟨rfl, h1, hb1, hk1⟩
  obtain ⟨hB, v, hbk, hown, hne⟩ := h1
  rw [hll] at hown
  have c0 : w1.cell? ⟨b, 0, none⟩ = some (.pointer (some ⟨b, 0, none⟩)) := by rw [Lib.cell_of_heap hbk]; rfl
  have c1 : w1.cell? ⟨b, 1, none⟩ = some v := by rw [Lib.cell_of_heap hbk]; rfl
  have hlt : b < w1.heap.size := (Array.getElem?_eq_some_iff.1 hbk).1
  have hs1 := hb1.size
  go_wp2_with (at_builtin; refine wpList_append_ownF _ rfl _ _ 80 rfl B 5 i0 (.int .u8 0) 1 1 Tryz.underlying80 hi hz0 hz1 hz2 rfl (by decide) _ _ _ rfl (hown.alloc _) ⟨w1.heap.size, 0, none⟩ 1 1 [.int .u8 (c.toNat : Int)] rfl rfl (by intro j u hj; match j, hj with | 0, hj => (simp at hj; subst hj; simp [Addr.add])) (by intro u hu; simp at hu; subst hu; rfl) (by unfold maxLen; omega) (by omega) (by simp; omega) ?_)
  intro v' w2 hown' hgrow hnil
  have hb2 : w2.heap[b]? = some (.cells #[.pointer (some ⟨b, 0, none⟩), v] 82 (0, 0)) := by
    rw [hgrow.block b (by simp; omega) (fun e => hne e.symm), Lib.alloc_old w1 _ b hlt]
    exact hbk
  have d0 : w2.cell? ⟨b, 0, none⟩ = some (.pointer (some ⟨b, 0, none⟩)) := by rw [Lib.cell_of_heap hb2]; rfl
  have d1 : w2.cell? ⟨b, 1, none⟩ = some v := by rw [Lib.cell_of_heap hb2]; rfl
  have f1 : w2.frozen? ⟨b, 1, none⟩ = false := Lib.frozen_of_heap hb2 1
  obtain ⟨g, cap, rfl⟩ : ∃ g cap, v' = .slice (some ⟨g, 0, none⟩) (l.length + 1) cap := by
    rcases hown'.2 with ⟨_, h0⟩ | ⟨g, cap, cur, fz, hv, _⟩
    · omega
    · exact ⟨g, cap, hv⟩
  go_wp2
  go_ret
  refine ⟨rfl, .inr ?_, ?_, ((hk1.alloc _).grown hgrow (Lib.ownsRowF_kind (hown.alloc _))).setCell ⟨b, 1, none⟩ rfl _⟩
  · rw [Lib.byteCells_append]
    exact Lib.BuilderAtF.put (T := 82) (e := 5) hB hb2 (bs' := Lib.byteCells l ++ Lib.byteCells [c]) (by rw [List.length_append, hll]; exact hown') (by decide)
  · exact ((hb1.alloc (by omega) _).grown hgrow (by simp; omega) (fun k hk => (hown.lt k hk).1)).setCell (p := ⟨b, 1, none⟩) hB _
set_option maxHeartbeats 2000000 in
set_option maxRecDepth 100000 in
theorem wrune_c (B b : Nat) (l : List UInt8) (r : Nat) (hr : r ≤ 2147483647) (w : World) (h : BF B b l w) (hlen : l.length + 4 ≤ 1000000000) (hBw : B ≤ w.heap.size) :
    Calls Tryz.prog 44 #[.pointer (some ⟨b, 0, none⟩), .int .i32 r] w fun e w' => e = .returned (.tuple #[.int .i64 (Lib.encodeRune (r : Int)).length, .nilIface]) ∧ (BF B b (l ++ Lib.encodeRune (r : Int)) w' ∧ Below B w w' ∧ Lib.OthersKept 5 (some b) w w') := by
  have hll : (Lib.byteCells l).length = l.length := Lib.byteCells_length l
  have hr4 := Lib.runeCells_le (r : Int)
  have hrl : (Lib.runeCells (r : Int)).length = (Lib.encodeRune (r : Int)).length := Lib.runeCells_length _
  rw [hrl] at hr4
  go_enter Tryz.func44, Tryz.ntmps44
  go_wp2_with (go_at_call 56; refine (copy_c B b _ _ h).mono ?_)
  rintro e w1 ⟨rfl, h1, hb1, hk1⟩
  obtain ⟨hB, v, hbk, hown, hne⟩ := h1
  rw [hll] at hown
  obtain ⟨ao, cap, rfl⟩ : ∃ ao cap, v = .slice ao l.length cap := by
    rcases hown.2 with ⟨hv, h0⟩ | ⟨g, cap, cur, fz, hv, _⟩
    · exact ⟨none, 0, by rw [hv, h0]⟩
    · exact ⟨_, _, hv⟩
  have c0 : w1.cell? ⟨b, 0, none⟩ = some (.pointer (some ⟨b, 0, none⟩)) := by rw [Lib.cell_of_heap hbk]; rfl
  have c1 : w1.cell? ⟨b, 1, none⟩ = some (.slice ao l.length cap) := by rw [Lib.cell_of_heap hbk]; rfl
  have hlt : b < w1.heap.size := (Array.getElem?_eq_some_iff.1 hbk).1
  have hs1 := hb1.size
  go_wp2_with (go_at_call 62; refine (Tryz.utf8_AppendRune_row B _ l.length (Lib.byteCells l) r (by omega) (by omega) _ hown (by omega) (by omega)).mono ?_)
  rintro e w2 ⟨v', rfl, hown', o, hgrow⟩
  have hb2 : w2.heap[b]? = some (.cells #[.pointer (some ⟨b, 0, none⟩), .slice ao l.length cap] 82 (0, 0)) := by
    rw [hgrow.block b (by simp; omega) (fun e => hne e.symm), Lib.alloc_old w1 _ b hlt]
    exact hbk
  have d0 : w2.cell? ⟨b, 0, none⟩ = some (.pointer (some ⟨b, 0, none⟩)) := by rw [Lib.cell_of_heap hb2]; rfl
  have d1 : w2.cell? ⟨b, 1, none⟩ = some (.slice ao l.length cap) := by rw [Lib.cell_of_heap hb2]; rfl
  have f1 : w2.frozen? ⟨b, 1, none⟩ = false := Lib.frozen_of_heap hb2 1
  rw [hrl] at hown'
  obtain ⟨ao', cap', rfl⟩ : ∃ ao' cap', v' = .slice ao' (l.length + (Lib.encodeRune (r : Int)).length) cap' := by
    rcases hown'.2 with ⟨hv, h0⟩ | ⟨g, cap, cur, fz, hv, _⟩
    · exact ⟨none, 0, by rw [hv, h0]⟩
    · exact ⟨_, _, hv⟩
  go_wp2_with fail
  rw [show ((l.length : Int) + ((Lib.encodeRune (r : Int)).length : Int) - (l.length : Int)) = ((Lib.encodeRune (r : Int)).length : Int) by omega]
  go_returns
  refine ⟨rfl, .inr ?_, ?_, ((hk1.alloc _).grown hgrow (Lib.ownsRowF_kind (hown.alloc _))).setCell ⟨b, 1, none⟩ rfl _⟩
  · rw [Lib.byteCells_append, Lib.byteCells_encodeRune]
    exact Lib.BuilderAtF.put (T := 82) (e := 5) hB hb2 (bs' := Lib.byteCells l ++ Lib.runeCells r) (by rw [List.length_append, hll, hrl]; exact hown') (by decide)
  · exact ((hb1.alloc (by omega) _).grown hgrow (by simp; omega) (fun k hk => (hown.lt k hk).1)).setCell (p := ⟨b, 1, none⟩) hB _
theorem bstr_c (B b : Nat) (l : List UInt8) (w : World) (h : BF B b l w) (hBw : B ≤ w.heap.size) :
    Calls Tryz.prog 39 #[.pointer (some ⟨b, 0, none⟩)] w fun e w' => e = .returned (.string ⟨l.toArray⟩) ∧ BF B b l w' ∧ Below B w w' :=
  (Tryz.Builder_String_any_f B b l w h hBw).mono (fun e w' h => h)
/-- A builder stays one over a call that leaves the old blocks as they were. -/
theorem BF_on {B b : Nat} {l : List UInt8} {w w' : World} (h : BF B b l w) (hb : Below w.heap.size w w') : BF B b l w' := by
  have key : ∀ p, Lib.BuilderAtF 82 5 B b p (Lib.byteCells l) w → Lib.BuilderAtF 82 5 B b p (Lib.byteCells l) w' := by
    intro p h
    obtain ⟨hB, v, hbk, hown, hne⟩ := h
    refine ⟨hB, v, (hb.block b (Array.getElem?_eq_some_iff.1 hbk).1).trans hbk, ⟨hown.1, ?_⟩, hne⟩
    rcases hown.2 with h0 | ⟨g, cap, cur, fz, h1, h2, h3, h4⟩
    · exact .inl h0
    · exact .inr ⟨g, cap, cur, fz, h1, h2, (hb.block g (Array.getElem?_eq_some_iff.1 h3).1).trans h3, h4⟩
  exact h.imp (key _) (key _)
end Go.Proofs.YtgckfiadnmjonabGreatDoor

/- tags.Quote and tags.Unquote: their contracts. -/
namespace Go.Proofs.YtgckfiadnmjonabGreatDoor
open Go.RowKit
set_option linter.unusedVariables false
set_option linter.unusedSimpArgs false

theorem enc_high (r : Nat) (h : 128 ≤ r) (h2 : r ≤ 1114111) : ∀ b ∈ Lib.encodeRune (r : Int), b ≠ 34 ∧ b ≠ 92 := by
  intro b hb
  have key : ∀ z : Int, 128 ≤ z → z ≤ 255 → ∀ b : UInt8, b = z.toNat.toUInt8 → b ≠ 34 ∧ b ≠ 92 := by
    intro z h0 h1 b hb
    have h3 : b.toNat = z.toNat := by rw [hb]; simp [Nat.toUInt8]; omega
    constructor <;> intro e <;> rw [e] at h3 <;> simp at h3 <;> omega
  unfold Lib.encodeRune at hb
  obtain ⟨z, hz, rfl⟩ := List.mem_map.1 hb
  refine key z ?_ ?_ _ rfl
  · unfold Lib.encodeRuneZ at hz
    split at hz
    · omega
    · split at hz
      · simp at hz; omega
      · split at hz
        · simp at hz; omega
        · split at hz <;> simp at hz <;> omega
  · unfold Lib.encodeRuneZ at hz
    split at hz
    · omega
    · split at hz
      · simp at hz; omega
      · split at hz
        · simp at hz; omega
        · split at hz <;> simp at hz <;> omega
theorem escL_same (l : List UInt8) (h : ∀ b ∈ l, b ≠ 34 ∧ b ≠ 92) : escL l = l := by
  induction l with
  | nil => rfl
  | cons b t ih =>
    obtain ⟨h1, h2⟩ := h b (by simp)
    show escB b ++ escL t = _
    rw [ih (fun x hx => h x (by simp [hx]))]
    unfold escB
    rw [if_neg (by rintro (e | e); exact h1 e; exact h2 e)]
    rfl
theorem escL_append (a b : List UInt8) : escL (a ++ b) = escL a ++ escL b := by simp [escL]
theorem rune_le {l : List UInt8} {r n : Nat} (h : rnL l = some (r, n)) : r ≤ 1114111 := by
  obtain ⟨h1, -⟩ := rnL_some h
  rw [Lib.decodeL_N] at h1
  rcases Lib.decodeN_shape l.length (l.getD 0 0).toNat (l.getD 1 0).toNat (l.getD 2 0).toNat (l.getD 3 0).toNat with ⟨c, e⟩ | ⟨c1, c2, c3, cv, e⟩ | ⟨c1, c2, c3, c4, cv, cs, e⟩ | ⟨c1, c2, c3, c4, c5, cv, cw, e⟩ | e
  all_goals
    rw [h1] at e
    injection e with e1 e2
  · omega
  · have := (l.getD 0 0).toNat_lt; omega
  · have := (l.getD 0 0).toNat_lt; omega
  · omega
  · omega
/-- A rune's bytes, escaped. -/
theorem esc_rune {l : List UInt8} (hne : l ≠ []) {r n : Nat} (h : rnL l = some (r, n)) : escL (l.take n) = if r = 34 ∨ r = 92 then 92 :: Lib.encodeRune (r : Int) else Lib.encodeRune (r : Int) := by
  have hle := rune_le h
  rw [← rnL_bytes hne h]
  by_cases h1 : r = 34 ∨ r = 92
  · rw [if_pos h1]
    rcases h1 with rfl | rfl <;> decide
  · rw [if_neg h1]
    apply escL_same
    by_cases h2 : r < 128
    · intro b hb
      unfold Lib.encodeRune at hb
      rw [Lib.encodeRuneZ_one (by omega) (by omega)] at hb
      simp at hb
      have h3 : b.toNat = r := by rw [hb]; simp [Nat.toUInt8]; omega
      constructor <;> intro e <;> rw [e] at h3 <;> simp at h3 <;> omega
    · exact enc_high r (by omega) hle
theorem take_step {s : ByteArray} {pos r n : Nat} (hp : pos < s.size) (h : rnAt s pos = some (r, n)) : escL (s.data.toList.take (pos + n)) = escL (s.data.toList.take pos) ++ (if r = 34 ∨ r = 92 then 92 :: Lib.encodeRune (r : Int) else Lib.encodeRune (r : Int)) := by
  rw [List.take_add, escL_append, esc_rune (drop_ne hp) h]
def quoteV (l : List UInt8) : Value := if tagOk l then .tuple #[.string ⟨(quoteL l).toArray⟩, .int .i64 0] else .tuple #[.string ⟨#[]⟩, .int .i64 16]
set_option maxHeartbeats 4000000 in
set_option maxRecDepth 100000 in
theorem tquote_c (s : ByteArray) (w : World) (hs : s.size ≤ 1000000) : Ret 24 #[.string s] w (quoteV s.data.toList) := by
  have c := fun w => tcheck_c s w hs
  unfold tagErr at c
  unfold quoteV
  by_cases hok : tagOk s.data.toList = true
  · rw [if_pos hok] at c ⊢
    have C := Lib.hid c
    clear c
    obtain ⟨rs, hrs⟩ : ∃ rs, runesL s.data.toList = some rs := by
      unfold tagOk at hok
      cases h : runesL s.data.toList with
      | none => rw [h] at hok; cases hok
      | some rs => exact ⟨rs, rfl⟩
    clear hok
    go_enter Tryz.func24, Tryz.ntmps24
    go_wp2_with fail
    refine Calls.mono (C.out _) ?_
    rintro e w1 ⟨rfl, hb⟩
    go_wp2_with fail
    have hI : BF w1.heap.size w1.heap.size [] (w1.alloc (.cells #[.pointer none, .slice none 0 0] 82)) := Lib.IsBuilderF.of (Lib.fresh_isBuilder _ _ w1)
    have hc := hb.alloc hb.size (.cells #[.pointer none, .slice none 0 0] 82)
    refine Calls.mono (wbyte_c w1.heap.size w1.heap.size [] 34 _ hI (by simp) (by simp)) ?_
    rintro e w2 ⟨rfl, hI2, hb2, -⟩
    have hc2 : Below w.heap.size w w2 := hc.trans (hb2.mono hb.size)
    have hw1 : w1.heap.size < w2.heap.size := by have := hb2.size; simp at this; omega
    have hw0 : w.heap.size ≤ w1.heap.size := hb.size
    clear hI hc hb hb2
    generalize w1.heap.size = b at *
    go_wp2_with fail
    go_loopw [] (fun wr => ∃ (pos : Nat), BF b b (34 :: escL (s.data.toList.take pos)) wr ∧ wr.heap[w2.heap.size]? = some (.stringIter s pos) ∧ Below w.heap.size w wr ∧ (∃ xs, runesL (s.data.toList.drop pos) = some xs) ∧ pos ≤ s.size) (fun wr => s.size - wr.iterPos w2.heap.size)
    case atStart =>
      refine ⟨0, hI2.alloc _, World.iter_heap w2 s 0, hc2.alloc hc2.size _, ⟨rs, by rw [List.drop_zero]; exact hrs⟩, by omega⟩
    case round =>
      clear hI2 hc2 hrs
      obtain ⟨pos, hI, hit, hB, ⟨xs, hxs⟩, hps⟩ := hrel
      have hsz : w2.heap.size < wr.heap.size := (Array.getElem?_eq_some_iff.1 hit).1
      by_cases hp : pos < s.size
      · have hnx : ∀ ty, (Instr.next (.pointer (some ⟨w2.heap.size, 0, none⟩)) true ty).run Tryz.prog wr = _ := fun ty => Lib.run_next_any_at wr w2.heap.size s pos ty hit hp
        cases hr : rnAt s pos with
        | none => rw [runes_at_none hp hr] at hxs; cases hxs
        | some p =>
          obtain ⟨r, n⟩ := p
          rw [(rnAt_decode hr).1] at hnx
          have hwd := rnAt_width hp hr
          have hrl := rnAt_le hr
          have hns := runes_at hp hr
          rw [hxs] at hns
          have hit2 := Lib.iterAt_heap wr w2.heap.size s pos (pos + n) hit
          have hI2 := hI.iterAt hit (pos + n)
          have hB2 := Lib.below_iterAt hB (k := w2.heap.size) (by omega) s (pos + n)
          have hsz2 : b ≤ (wr.iterAt w2.heap.size s (pos + n)).heap.size := by rw [Lib.iterAt_size]; omega
          have hts := take_step hp hr
          have hel : (escL (s.data.toList.take pos)).length ≤ 2000000 := by
            have h1 := (escL_len (s.data.toList.take pos)).2
            have h2 := List.length_take_le' pos s.data.toList
            rw [len_bytes] at h2
            omega
          have hel2 : ∀ y : List UInt8, (34 :: (escL (s.data.toList.take pos)) : List UInt8).length ≤ 2000001 := fun _ => by simp; omega
          have hxs2 : ∃ ys, runesL (s.data.toList.drop (pos + n)) = some ys := by
            cases hy : runesL (s.data.toList.drop (pos + n)) with
            | none => rw [hy] at hns; cases hns
            | some ys => exact ⟨ys, rfl⟩
          by_cases hq : r = 34 ∨ r = 92
          · rw [if_pos hq] at hts
            rcases hq with rfl | rfl
            · go_wp2_with fail
              refine Calls.mono (wbyte_c b b _ 92 _ hI2 (by simp; omega) hsz2) ?_
              rintro e u1 ⟨rfl, hI3, hb3, hk3⟩
              have hit3 := hk3.iter hit2 (by omega)
              have hsz3 := hb3.size
              go_wp2_with fail
              refine Calls.mono (wrune_c b b _ 34 (by omega) _ hI3 (by simp; omega) (by omega)) ?_
              rintro e u2 ⟨rfl, hI4, hb4, hk4⟩
              go_wp2_with fail
              refine ⟨⟨pos + n, ?_, hk4.iter hit3 (by omega), (hB2.trans (hb3.mono hw0)).trans (hb4.mono hw0), hxs2, by omega⟩, ?_⟩
              · rw [hts]
                simpa using hI4
              · simp only [World.iterPos, hk4.iter hit3 (by omega), hit]
                omega
            · go_wp2_with fail
              refine Calls.mono (wbyte_c b b _ 92 _ hI2 (by simp; omega) hsz2) ?_
              rintro e u1 ⟨rfl, hI3, hb3, hk3⟩
              have hit3 := hk3.iter hit2 (by omega)
              have hsz3 := hb3.size
              go_wp2_with fail
              refine Calls.mono (wrune_c b b _ 92 (by omega) _ hI3 (by simp; omega) (by omega)) ?_
              rintro e u2 ⟨rfl, hI4, hb4, hk4⟩
              go_wp2_with fail
              refine ⟨⟨pos + n, ?_, hk4.iter hit3 (by omega), (hB2.trans (hb3.mono hw0)).trans (hb4.mono hw0), hxs2, by omega⟩, ?_⟩
              · rw [hts]
                simpa using hI4
              · simp only [World.iterPos, hk4.iter hit3 (by omega), hit]
                omega
          · rw [if_neg hq] at hts
            have q1 : ((r : Int) == 34) = false := by rw [beq_eq_false_iff_ne]; omega
            have q2 : ((r : Int) == 92) = false := by rw [beq_eq_false_iff_ne]; omega
            go_wp2_with fail
            refine Calls.mono (wrune_c b b _ r (by omega) _ hI2 (by simp; omega) hsz2) ?_
            rintro e u2 ⟨rfl, hI4, hb4, hk4⟩
            go_wp2_with fail
            refine ⟨⟨pos + n, ?_, hk4.iter hit2 (by omega), hB2.trans (hb4.mono hw0), hxs2, by omega⟩, ?_⟩
            · rw [hts]
              simpa using hI4
            · simp only [World.iterPos, hk4.iter hit2 (by omega), hit]
              omega
      · have hnx : ∀ ty, (Instr.next (.pointer (some ⟨w2.heap.size, 0, none⟩)) true ty).run Tryz.prog wr = _ := fun ty => Lib.run_next_end_at wr w2.heap.size s pos ty hit hp
        have hte : s.data.toList.take pos = s.data.toList := List.take_of_length_le (by rw [len_bytes]; omega)
        rw [hte] at hI
        have hel : (escL s.data.toList).length ≤ 2000000 := by
          have h1 := (escL_len s.data.toList).2
          rw [len_bytes] at h1
          omega
        go_wp2_with fail
        refine Calls.mono (wbyte_c b b _ 34 _ hI (by simp; omega) (by omega)) ?_
        rintro e u1 ⟨rfl, hI3, hb3, hk3⟩
        have hsz3 := hb3.size
        go_wp2_with fail
        refine Calls.mono (bstr_c b b _ _ hI3 (by omega)) ?_
        rintro e u2 ⟨rfl, -, hb4⟩
        go_wp2_with fail
        go_returns
        exact ⟨by simp [quoteL], (hB.trans (hb3.mono hw0)).trans (hb4.mono hw0)⟩
  · rw [if_neg hok] at c ⊢
    have C := Lib.hid c
    clear c
    go_enter Tryz.func24, Tryz.ntmps24
    go_wp2_with fail
    refine Calls.mono (C.out _) ?_
    rintro e w1 ⟨rfl, hb⟩
    go_wp2_with fail
    go_returns
    exact ⟨rfl, hb⟩
end Go.Proofs.YtgckfiadnmjonabGreatDoor

/- tags.Unquote: its contract. -/
namespace Go.Proofs.YtgckfiadnmjonabGreatDoor
open Go.RowKit
set_option linter.unusedVariables false
set_option linter.unusedSimpArgs false

def unqV (l : List UInt8) : Value := .tuple #[.string ⟨(unqL l).1.toArray⟩, .int .i64 ((unqL l).2.1 : Nat), .int .i64 (unqL l).2.2]
abbrev unqBad (e : Int) : Value := .tuple #[.string ⟨#[]⟩, .int .i64 0, .int .i64 e]
theorem unqV_head {l : List UInt8} (h : Lib.hasPrefix l [34] = false) : unqV l = unqBad 9 := by
  unfold unqV
  rw [show unqL l = ([], 0, 9) by
    cases l with
    | nil => rfl
    | cons c t =>
      by_cases hc : c = 34
      · subst hc
        simp [Lib.hasPrefix] at h
      · unfold unqL
        split
        · rename_i e
          injection e with e1 e2
          exact absurd e1 hc
        · rfl]
  rfl
theorem unqV_none {t : List UInt8} (h : scanL t = none) : unqV (34 :: t) = unqBad 9 := by
  unfold unqV
  rw [show unqL (34 :: t) = ([], 0, 9) by unfold unqL; simp only [h]]
  rfl
theorem unqV_some {t x : List UInt8} {n : Nat} (h : scanL t = some (x, n)) : unqV (34 :: t) = if tagOk x then .tuple #[.string ⟨x.toArray⟩, .int .i64 (n + 1 : Nat), .int .i64 0] else unqBad 16 := by
  unfold unqV
  by_cases hx : tagOk x = true
  · rw [show unqL (34 :: t) = (x, n + 1, 0) by unfold unqL; simp only [h]; rw [if_pos hx], if_pos hx]
  · rw [show unqL (34 :: t) = ([], 0, 16) by unfold unqL; simp only [h]; rw [if_neg hx], if_neg hx]
    rfl
theorem drop_cons (s : ByteArray) (i : Nat) (h : i < s.size) : s.data.toList.drop i = s[i] :: s.data.toList.drop (i + 1) := by
  have h' : i < s.data.toList.length := by rw [len_bytes]; exact h
  rw [List.drop_eq_getElem_cons h']
  rfl
/-- What is behind the place i, with the backslash ahead where one is open. -/
def pend (s : ByteArray) (i : Nat) (esc : Bool) : List UInt8 := if esc then 92 :: s.data.toList.drop i else s.data.toList.drop i
/-- The scan so far: acc is read, off bytes are taken. -/
def Sc (t : List UInt8) (acc : List UInt8) (off : Nat) (rest : List UInt8) : Prop := scanL t = (scanL rest).map fun x => (acc ++ x.1, off + x.2)
theorem byt_is {a c : UInt8} (h : a = c) (m : Int) (hm : (c.toNat : Int) = m) : ((a.toNat : Int) != m) = false ∧ ((a.toNat : Int) == m) = true := by
  subst h
  rw [hm]
  simp
theorem byt_not {a c : UInt8} (h : a ≠ c) (m : Int) (hm : (c.toNat : Int) = m) : ((a.toNat : Int) != m) = true ∧ ((a.toNat : Int) == m) = false := by
  have : ¬ (a.toNat : Int) = m := fun e => h (UInt8.toNat_inj.1 (by omega))
  exact ⟨by rw [bne_iff_ne]; exact this, by rw [beq_eq_false_iff_ne]; exact this⟩
set_option maxHeartbeats 8000000 in
set_option maxRecDepth 100000 in
theorem tunq_c (s : ByteArray) (w : World) (hs : s.size ≤ 1000000) : Ret 53 #[.string s] w (unqV s.data.toList) := by
  have hpf := Tryz.strings_HasPrefix s ⟨#[34]⟩
  rw [show (⟨#[34]⟩ : ByteArray).data.toList = [34] from rfl] at hpf
  cases hq : Lib.hasPrefix s.data.toList [34] with
  | false =>
    rw [hq] at hpf
    have HPF := Lib.hid hpf
    clear hpf
    rw [unqV_head hq]
    go_enter Tryz.func53, Tryz.ntmps53
    go_wp2_with (go_at_call 67; refine (HPF.out _).mono ?_; rintro e w' ⟨rfl, rfl⟩)
    go_returns
    exact ⟨rfl, Below.refl _ _⟩
  | true =>
    rw [hq] at hpf
    have HPF := Lib.hid hpf
    clear hpf
    obtain ⟨t, ht⟩ : ∃ t, s.data.toList = 34 :: t := by
      unfold Lib.hasPrefix at hq
      rw [List.isPrefixOf_iff_prefix] at hq
      obtain ⟨t, ht⟩ := hq
      exact ⟨t, ht.symm⟩
    have hsz : s.size = t.length + 1 := by rw [← len_bytes, ht]; simp
    have hd1 : s.data.toList.drop 1 = t := by rw [ht]; rfl
    rw [ht]
    go_enter Tryz.func53, Tryz.ntmps53
    go_wp2_with (go_at_call 67; refine (HPF.out _).mono ?_; rintro e w' ⟨rfl, rfl⟩)
    have hI : BF w'.heap.size w'.heap.size [] (w'.alloc (.cells #[.pointer none, .slice none 0 0] 82)) := Lib.IsBuilderF.of (Lib.fresh_isBuilder _ _ w')
    have hc := (Below.refl w'.heap.size w').alloc (Nat.le_refl _) (.cells #[.pointer none, .slice none 0 0] 82)
    clear HPF hq
    go_loopw [6, 7] (fun ev iv wr => ∃ (i : Nat) (esc : Bool) (acc : List UInt8), ev = .bool esc ∧ iv = .int .i64 i ∧ 1 ≤ i ∧ (esc = true → 2 ≤ i) ∧ i ≤ s.size ∧ acc.length ≤ i ∧ BF w'.heap.size w'.heap.size acc wr ∧ Below w'.heap.size w' wr ∧ Sc t acc (i - 1 - (if esc then 1 else 0)) (pend s i esc)) (fun _ iv _ => s.size - (intOf iv).toNat)
    case atStart =>
      refine ⟨1, false, [], rfl, rfl, by omega, by simp, by omega, by simp, hI, hc, ?_⟩
      unfold Sc pend
      simp [hd1]
    case round =>
      clear hI hc
      obtain ⟨i, esc, acc, rfl, rfl, h1, h2, hi, hal, hI, hB, hS⟩ := hrel
      by_cases hlt : i < s.size
      · have hlt2 : (i : Int) < (s.size : Int) := by omega
        have hdc := drop_cons s i hlt
        cases esc with
        | true =>
          have hS2 : Sc t acc (i - 2) (92 :: s[i] :: s.data.toList.drop (i + 1)) := by
            rw [← hdc]
            have := hS
            unfold pend at this
            simp only [if_true] at this
            rw [show i - 1 - 1 = i - 2 by omega] at this
            exact this
          unfold Sc at hS2
          rw [scanL_slash] at hS2
          have h2i := h2 rfl
          by_cases hq : s[i] = 34 ∨ s[i] = 92
          · rw [if_pos hq, Option.map_map] at hS2
            have hS3 : Sc t (acc ++ [s[i]]) (i + 1 - 1 - (if false = true then 1 else 0)) (pend s (i + 1) false) := by
              unfold Sc pend
              rw [hS2]
              simp only [Bool.false_eq_true, if_false]
              congr 1
              funext x
              refine Prod.ext ?_ ?_
              · simp
              · simp; omega
            have HI := Lib.hid hI
            clear hS hS2 hI hdc ht hd1
            have HB := Lib.hid hB
            clear hB
            rcases hq with hq | hq
            · obtain ⟨k1, k2⟩ := byt_is hq 34 rfl
              rw [hq] at hS3
              have HS := Lib.hid hS3
              clear hS3
              go_wp2_with fail
              refine Calls.mono (wbyte_c _ _ acc 34 _ HI.out (by omega) HB.out.size) ?_
              rintro e u1 ⟨rfl, hI3, hb3, -⟩
              go_wp2_with fail
              exact ⟨⟨i + 1, false, acc ++ [34], rfl, by go_num, by omega, by simp, by omega, by simp; omega, hI3, HB.out.trans hb3, HS.out⟩, by simp [intOf]; omega⟩
            · obtain ⟨k1, k2⟩ := byt_is hq 92 rfl
              obtain ⟨k3, k4⟩ := byt_not (a := s[i]) (c := 34) (by rw [hq]; decide) 34 rfl
              rw [hq] at hS3
              have HS := Lib.hid hS3
              clear hS3
              go_wp2_with fail
              refine Calls.mono (wbyte_c _ _ acc 92 _ HI.out (by omega) HB.out.size) ?_
              rintro e u1 ⟨rfl, hI3, hb3, -⟩
              go_wp2_with fail
              exact ⟨⟨i + 1, false, acc ++ [92], rfl, by go_num, by omega, by simp, by omega, by simp; omega, hI3, HB.out.trans hb3, HS.out⟩, by simp [intOf]; omega⟩
          · rw [if_neg hq] at hS2
            have HV := Lib.hid (unqV_none hS2)
            have HB := Lib.hid hB
            clear hB hS hS2 hI hdc ht hd1
            obtain ⟨k1, k2⟩ := byt_not (a := s[i]) (c := 34) (fun e => hq (.inl e)) 34 rfl
            obtain ⟨k3, k4⟩ := byt_not (a := s[i]) (c := 92) (fun e => hq (.inr e)) 92 rfl
            go_wp2_with fail
            rw [HV.out]
            go_returns
            exact ⟨rfl, HB.out⟩
        | false =>
          have hS2 : Sc t acc (i - 1) (s[i] :: s.data.toList.drop (i + 1)) := by
            rw [← hdc]
            exact hS
          unfold Sc at hS2
          have HB := Lib.hid hB
          have HI := Lib.hid hI
          clear hB hI hS hdc ht hd1
          by_cases hq : s[i] = 34
          · rw [hq, scanL_quote] at hS2
            simp only [Option.map_some, List.append_nil] at hS2
            rw [show i - 1 + 1 = i by omega] at hS2
            have hv := unqV_some hS2
            have c := fun w => tcheck_c ⟨acc.toArray⟩ w (by rw [← len_bytes]; simp; omega)
            unfold tagErr at c
            rw [show (⟨acc.toArray⟩ : ByteArray).data.toList = acc by simp] at c
            obtain ⟨k1, k2⟩ := byt_is hq 34 rfl
            obtain ⟨k3, k4⟩ := byt_not (a := s[i]) (c := 92) (by rw [hq]; decide) 92 rfl
            cases hok : tagOk acc with
            | true =>
              rw [hok] at c hv
              simp only [if_true] at c hv
              have HV := Lib.hid hv
              have C := Lib.hid c
              clear hv c hS2 hok
              go_wp2_with fail
              refine Calls.mono (bstr_c _ _ acc _ HI.out HB.out.size) ?_
              rintro e u1 ⟨rfl, hI3, hb3⟩
              go_wp2_with fail
              refine Calls.mono (C.out _) ?_
              rintro e u2 ⟨rfl, hb4⟩
              go_wp2_with fail
              refine Calls.mono (bstr_c _ _ acc _ (BF_on hI3 hb4) (by have := HB.out.size; have := hb3.size; have := hb4.size; omega)) ?_
              rintro e u3 ⟨rfl, -, hb5⟩
              go_wp2_with fail
              rw [HV.out]
              go_returns
              exact ⟨rfl, ((HB.out.trans hb3).trans (hb4.mono (HB.out.trans hb3).size)).trans hb5⟩
            | false =>
              rw [hok] at c hv
              simp only [Bool.false_eq_true, if_false] at c hv
              have HV := Lib.hid hv
              have C := Lib.hid c
              clear hv c hS2 hok
              go_wp2_with fail
              refine Calls.mono (bstr_c _ _ acc _ HI.out HB.out.size) ?_
              rintro e u1 ⟨rfl, hI3, hb3⟩
              go_wp2_with fail
              refine Calls.mono (C.out _) ?_
              rintro e u2 ⟨rfl, hb4⟩
              go_wp2_with fail
              rw [HV.out]
              go_returns
              exact ⟨rfl, (HB.out.trans hb3).trans (hb4.mono (HB.out.trans hb3).size)⟩
          · obtain ⟨k1, k2⟩ := byt_not hq 34 rfl
            by_cases hq2 : s[i] = 92
            · obtain ⟨k3, k4⟩ := byt_is hq2 92 rfl
              have hS3 : Sc t acc (i + 1 - 1 - (if true = true then 1 else 0)) (pend s (i + 1) true) := by
                unfold Sc pend
                rw [hS2, hq2]
                simp only [if_true]
                rw [show i + 1 - 1 - 1 = i - 1 by omega]
              have HS := Lib.hid hS3
              clear hS2 hS3
              go_wp2_with fail
              exact ⟨⟨i + 1, true, acc, rfl, by go_num, by omega, fun _ => by omega, by omega, by omega, HI.out, HB.out, HS.out⟩, by simp [intOf]; omega⟩
            · obtain ⟨k3, k4⟩ := byt_not hq2 92 rfl
              have hS3 : Sc t (acc ++ [s[i]]) (i + 1 - 1 - (if false = true then 1 else 0)) (pend s (i + 1) false) := by
                unfold Sc pend
                rw [hS2, scanL_cons _ _ hq hq2, Option.map_map]
                simp only [Bool.false_eq_true, if_false]
                congr 1
                funext x
                refine Prod.ext ?_ ?_
                · simp
                · simp; omega
              have HS := Lib.hid hS3
              clear hS2 hS3
              go_wp2_with fail
              refine Calls.mono (wbyte_c _ _ acc s[i] _ HI.out (by omega) HB.out.size) ?_
              rintro e u1 ⟨rfl, hI3, hb3, -⟩
              go_wp2_with fail
              exact ⟨⟨i + 1, false, acc ++ [s[i]], rfl, by go_num, by omega, by simp, by omega, by simp; omega, hI3, HB.out.trans hb3, HS.out⟩, by simp [intOf]; omega⟩
      · obtain rfl : i = s.size := by omega
        have hlt2 : ¬ (s.size : Int) < (s.size : Int) := by omega
        have hdn : s.data.toList.drop s.size = [] := List.drop_of_length_le (by rw [len_bytes]; exact Nat.le_refl _)
        have hv : unqV (34 :: t) = unqBad 9 := by
          apply unqV_none
          unfold Sc pend at hS
          rw [hdn] at hS
          rw [hS]
          cases esc <;> simp [scanL]
        have HV := Lib.hid hv
        clear hv hS
        go_wp2_with fail
        rw [HV.out]
        go_returns
        exact ⟨rfl, hB⟩
end Go.Proofs.YtgckfiadnmjonabGreatDoor

/- strconv.Atoi: a number, or an error. -/
namespace Go.Proofs.YtgckfiadnmjonabGreatDoor
open Go.RowKit

theorem atoi_ok (s : ByteArray) (hs : s.size ≤ 100000) (v : Int) (h : Lib.atoiAll s.data.toList = .ok v) (w : World) :
    Ret 86 #[.string s] w (.tuple #[.int .i64 v, .nilIface]) :=
  (Tryz.strconv_Atoi_ok s (by omega) v h w).mono fun e w' ⟨he, hw⟩ => ⟨he, by
    rcases hw with rfl | ⟨t, rfl⟩
    · exact Below.refl _ _
    · exact Lib.bytesWorld_below _ _ _⟩
theorem atoi_bad (s : ByteArray) (hs : s.size ≤ 100000) (h : ∀ v, Lib.atoiAll s.data.toList ≠ .ok v) (w : World) (hE : EnvP w) :
    Calls Tryz.prog 86 #[.string s] w fun e w' => ∃ (n : Int) (N : Nat), e = .returned (.tuple #[.int .i64 n, .iface 152 (.pointer (some ⟨N, 0, none⟩))]) ∧ Below w.heap.size w w' := by
  obtain ⟨tp, p, _, _, _, hsyn⟩ := hE.syn
  obtain ⟨tq, q, _, _, _, hrng⟩ := hE.rng
  cases hp : Lib.atoiAll s.data.toList with
  | ok u => exact absurd hp (h u)
  | range => exact (Any.strconv_Atoi_range_var Tryz.laysC172 s (by omega) hp tq q w hrng).mono fun e w' ⟨N, he, _, _, hb⟩ => ⟨_, N, he, hb⟩
  | _ => exact (Any.strconv_Atoi_syntax_var Tryz.laysC172 s (by omega) hp tp p w hsyn).mono fun e w' ⟨N, he, _, _, hb⟩ => ⟨_, N, he, hb⟩
end Go.Proofs.YtgckfiadnmjonabGreatDoor

/- Package descr: a letter's place; strings.Cut at one byte. -/
namespace Go.Proofs.YtgckfiadnmjonabGreatDoor
open Go.RowKit

def kIdx (x : UInt8) : Int := if x = 102 then 1 else if x = 98 then 2 else if x = 108 then 3 else -1
set_option maxHeartbeats 2000000 in
set_option maxRecDepth 20000 in
theorem index_c (x : UInt8) (b : Nat) (w : World) (h0 : w.cell? ⟨b, 0, none⟩ = some (.string ⟨#[]⟩)) (h1 : w.cell? ⟨b, 1, none⟩ = some (.string ⟨#[102]⟩)) (h2 : w.cell? ⟨b, 2, none⟩ = some (.string ⟨#[98]⟩)) (h3 : w.cell? ⟨b, 3, none⟩ = some (.string ⟨#[108]⟩)) :
    Ret 88 #[.slice (some ⟨b, 0, none⟩) 4 4, .string ⟨#[x]⟩] w (.int .i64 (kIdx x)) := by
  unfold kIdx
  by_cases e1 : x = 102
  · subst e1
    go_enter Tryz.func88, Tryz.ntmps88
    go_wp2
    go_rounds 5
    go_returns
    exact ⟨rfl, by go_grown⟩
  · by_cases e2 : x = 98
    · subst e2
      go_enter Tryz.func88, Tryz.ntmps88
      go_wp2
      go_rounds 5
      go_returns
      exact ⟨rfl, by go_grown⟩
    · by_cases e3 : x = 108
      · subst e3
        go_enter Tryz.func88, Tryz.ntmps88
        go_wp2
        go_rounds 5
        go_returns
        exact ⟨rfl, by go_grown⟩
      · rw [if_neg e1, if_neg e2, if_neg e3]
        have f1 := beq_eq_false_iff_ne.2 e1
        have f2 := beq_eq_false_iff_ne.2 e2
        have f3 := beq_eq_false_iff_ne.2 e3
        clear e1 e2 e3
        go_enter Tryz.func88, Tryz.ntmps88
        go_wp2
        go_rounds 5
        go_returns
        exact ⟨rfl, by go_grown⟩
theorem cut_c (s : ByteArray) (c : UInt8) (w : World) (hE : Env w) (hs : s.size ≤ 100000) :
    Ret 70 #[.string s, .string ⟨#[c]⟩] w (.tuple #[.string ⟨(Lib.cut s.data.toList [c]).1.toArray⟩, .string ⟨(Lib.cut s.data.toList [c]).2.1.toArray⟩, .bool (Lib.cut s.data.toList [c]).2.2]) :=
  (Tryz.strings_Cut_shaped s ⟨#[c]⟩ w hE.shp (by omega)).mono fun e w' ⟨he, n, hw⟩ => ⟨he, by rw [hw]; exact below_drewN (Below.refl _ _) n⟩
end Go.Proofs.YtgckfiadnmjonabGreatDoor

/- strconv.ParseInt(s, 10, 64): a number, or an error. -/
namespace Go.Proofs.YtgckfiadnmjonabGreatDoor
open Go.RowKit
theorem pint_ok (s : ByteArray) (hs : s.size ≤ 100000) (v : Int) (h : Lib.parseIntB 64 s.data.toList = .ok v) (w : World) :
    Ret 71 #[.string s, .int .i64 10, .int .i64 64] w (.tuple #[.int .i64 v, .nilIface]) :=
  (Tryz.strconv_ParseInt_10_at64_ok s (by omega) v h w).mono fun e w' ⟨he, hw⟩ => ⟨he, by
    rcases hw with rfl | ⟨t, rfl⟩
    · exact Below.refl _ _
    · exact Lib.bytesWorld_below _ _ _⟩
theorem pint_bad (s : ByteArray) (hs : s.size ≤ 100000) (h : ∀ v, Lib.parseIntB 64 s.data.toList ≠ .ok v) (w : World) (hE : EnvP w) :
    Calls Tryz.prog 71 #[.string s, .int .i64 10, .int .i64 64] w fun e w' => ∃ (n : Int) (N : Nat), e = .returned (.tuple #[.int .i64 n, .iface 152 (.pointer (some ⟨N, 0, none⟩))]) ∧ Below w.heap.size w w' := by
  obtain ⟨tp, p, _, _, _, hsyn⟩ := hE.syn
  obtain ⟨tq, q, _, _, _, hrng⟩ := hE.rng
  cases hp : Lib.parseIntB 64 s.data.toList with
  | ok u => exact absurd hp (h u)
  | range => exact (Any.strconv_ParseInt_10_at64_range_var Tryz.laysC174 s (by omega) hp tq q w hrng).mono fun e w' ⟨N, he, _, _, hb⟩ => ⟨_, N, he, hb⟩
  | _ => exact (Any.strconv_ParseInt_10_at64_syntax_var Tryz.laysC174 s (by omega) hp tp p w hsyn).mono fun e w' ⟨N, he, _, _, hb⟩ => ⟨_, N, he, hb⟩
end Go.Proofs.YtgckfiadnmjonabGreatDoor

/- Texts of resources: how they are read (plain). -/
namespace Go.Proofs.YtgckfiadnmjonabGreatDoor
open Go.RowKit Lib
set_option linter.unusedVariables false
set_option linter.unusedSimpArgs false
/-- What follows the number of tries, what follows the state. -/
def tail4 (st nx : Int) (tag : List UInt8) : List UInt8 := if st = 2 then decDigits nx.toNat ++ 32 :: quoteL tag else quoteL tag
def tail2 (st wy tr nx : Int) (tag : List UInt8) : List UInt8 := if st = 1 then quoteL tag else whL wy ++ 32 :: (decDigits tr.toNat ++ 32 :: tail4 st nx tag)
theorem rsL_eq (k i g st wy tr nx : Int) (tag : List UInt8) : rsL k i g st wy tr nx tag = dTextL 58 k i g ++ 32 :: (stL st ++ 32 :: tail2 st wy tr nx tag) := by
  unfold rsL rsWords tail2 tail4
  by_cases h1 : st = 1
  · simp [h1, Lib.join, List.intercalate, List.intersperse]
  · by_cases h2 : st = 2
    · simp [h1, h2, Lib.join, List.intercalate, List.intersperse]
    · simp [h1, h2, Lib.join, List.intercalate, List.intersperse]
theorem no32_out (k i g : Int) : (32 : UInt8) ∉ dTextL 58 k i g := by
  unfold dTextL
  simp only [List.mem_cons, List.mem_append, not_or]
  refine ⟨?_, not_mem_dec (by decide), by decide, not_mem_dec (by decide)⟩
  unfold letterB
  split
  · decide
  · split <;> decide
theorem no32_st (st : Int) : (32 : UInt8) ∉ stL st := by
  unfold stL
  split
  · decide
  · split
    · decide
    · split <;> decide
theorem no32_wh (wy : Int) : (32 : UInt8) ∉ whL wy := by
  unfold whL
  split
  · decide
  · split <;> decide
theorem rsL_cut (k i g st wy tr nx : Int) (tag : List UInt8) : cut (rsL k i g st wy tr nx tag) [32] = (dTextL 58 k i g, stL st ++ 32 :: tail2 st wy tr nx tag, true) := by
  rw [rsL_eq]; exact cut_at _ _ _ (no32_out k i g)
theorem rsL_cut2 (st wy tr nx : Int) (tag : List UInt8) : cut (stL st ++ 32 :: tail2 st wy tr nx tag) [32] = (stL st, tail2 st wy tr nx tag, true) := cut_at _ _ _ (no32_st st)
theorem tail2_cut (st wy tr nx : Int) (tag : List UInt8) (h : st ≠ 1) : cut (tail2 st wy tr nx tag) [32] = (whL wy, decDigits tr.toNat ++ 32 :: tail4 st nx tag, true) := by
  unfold tail2; rw [if_neg h]; exact cut_at _ _ _ (no32_wh wy)
theorem tail3_cut (st tr nx : Int) (tag : List UInt8) : cut (decDigits tr.toNat ++ 32 :: tail4 st nx tag) [32] = (decDigits tr.toNat, tail4 st nx tag, true) := cut_at _ _ _ (not_mem_dec (by decide))
theorem tail4_cut (nx : Int) (tag : List UInt8) : cut (tail4 2 nx tag) [32] = (decDigits nx.toNat, quoteL tag, true) := by
  unfold tail4; rw [if_pos rfl]; exact cut_at _ _ _ (not_mem_dec (by decide))
theorem tail4_else {st : Int} (h : st ≠ 2) (nx : Int) (tag : List UInt8) : tail4 st nx tag = quoteL tag := by unfold tail4; rw [if_neg h]
theorem tail2_one (wy tr nx : Int) (tag : List UInt8) : tail2 1 wy tr nx tag = quoteL tag := by unfold tail2; rw [if_pos rfl]
end Go.Proofs.YtgckfiadnmjonabGreatDoor

/- Arguments opened, whatever their types: numbers, bools, strings, structs and arrays of these; and every argument's reading kept over a call that turns no old memory. No program in sight. -/
namespace Go.Proofs.YtgckfiadnmjonabGreatDoor
open Go.ChangeShapes Go.WideShapes Go.RowKit

section
variable {H : Type} {enc : TypeId × Value → H} {P : Program}

theorem kept_arg (hl : laidOutB P = true) (hz : ((List.range P.types.size).all fun t => match P.underlying t with | some (.slice e) => decide (0 < P.cellsOf e) | _ => true) = true)
    {t : TypeId} (hT : InBook P t t) (hr : P.readableRec t = true) {w w' : World} {v : Value} {d : DataW H} {p : List MemPlace}
    (h : DataW.Trod enc P w 0 (fun _ => true) true t v d p) (hb : Below w.heap.size w w') : DataW.Trod enc P w' 0 (fun b => decide (b < w.heap.size)) true t v d p := by
  obtain ⟨n, hn⟩ := h
  have hlt := DataW.trod_lt n _ _ _ hn
  have hc := DataW.trod_carry (w' := w') n _ _ _ hn (fun q hq => by
    have hq' := hlt q hq
    cases q with
    | cell b off => exact hb.cell (p := ⟨b, off, none⟩) hq'
    | map b => exact hb.block b hq')
  exact DataW.Trod.respare (T := InBook P t) (kids_book hl hr) (fun a e ha => slices_full_of P hz a e ha.1) hT ⟨n, hc⟩ (fun q hq => by simpa using hlt q hq)

inductive Leaf
  | int (k : IntKind) | bool | str
def Leaf.ok : Leaf → Value → Prop
  | .int k, v => ∃ n, v = .int k n ∧ (Lit.int k n).wf = true
  | .bool, v => ∃ b, v = .bool b
  | .str, v => ∃ s : ByteArray, v = .string s ∧ s.size ≤ maxLen
def OkL : List Leaf → List Value → Prop
  | [], [] => True
  | l :: ls, v :: vs => l.ok v ∧ OkL ls vs
  | _, _ => False
theorem OkL_nil {l : List Value} (h : OkL [] l) : l = [] := by
  cases l with
  | nil => rfl
  | cons a r => exact h.elim
theorem OkL_cons {x : Leaf} {ls : List Leaf} {l : List Value} (h : OkL (x :: ls) l) : ∃ v r, l = v :: r ∧ x.ok v ∧ OkL ls r := by
  cases l with
  | nil => exact h.elim
  | cons v r => exact ⟨v, r, rfl, h.1, h.2⟩
theorem OkL_append : ∀ {a : List Leaf} {xs : List Value} {b : List Leaf} {ys : List Value}, OkL a xs → OkL b ys → OkL (a ++ b) (xs ++ ys)
  | [], [], _, _, _, h => h
  | _ :: _, _ :: _, _, _, h1, h2 => ⟨h1.1, OkL_append h1.2 h2⟩
  | [], _ :: _, _, _, h, _ => h.elim
  | _ :: _, [], _, _, h, _ => h.elim
theorem OkL_length : ∀ {a : List Leaf} {xs : List Value}, OkL a xs → xs.length = a.length
  | [], [], _ => rfl
  | _ :: _, _ :: _, h => by simp [OkL_length h.2]
  | [], _ :: _, h => h.elim
  | _ :: _, [], h => h.elim

def fieldsL (g : TypeId → Option (List Leaf)) (size : TypeId → Nat) (tot : Nat) : Nat → List Field → Option (List Leaf)
  | off, [] => if off = tot then some [] else none
  | off, f :: fs => match g f.type with
    | some ls => if f.offset = off ∧ size f.type = ls.length then (fieldsL g size tot (off + ls.length) fs).map (ls ++ ·) else none
    | none => none
def leaves (P : Program) : Nat → TypeId → Option (List Leaf)
  | 0, _ => none
  | n + 1, t => match P.underlying t with
    | some (.int k) => some [.int k]
    | some .bool => some [.bool]
    | some .string => some [.str]
    | some (.array m e) => match leaves P n e with
      | some ls => if P.cellsOf e = ls.length ∧ P.cellsOf t = m * ls.length then some (List.replicate m ls).flatten else none
      | none => none
    | some (.struct fs) => fieldsL (leaves P n) P.cellsOf (P.cellsOf t) 0 fs.toList
    | _ => none

variable {w : World} {base : Nat} {spare : Nat → Bool} {held : Bool}

theorem fieldsL_ok {g : TypeId → Option (List Leaf)} {size : TypeId → Nat} {tot : Nat} {cs : List Value} (hlen : cs.length = tot) {Tr : TypeId → List Value → Prop} (hg : ∀ t ls cs, g t = some ls → Tr t cs → OkL ls cs) :
    ∀ (fs : List Field) (off : Nat) (ls : List Leaf), fieldsL g size tot off fs = some ls → (∀ f ∈ fs, Tr f.type ((cs.drop f.offset).take (size f.type))) → OkL ls (cs.drop off)
  | [], off, ls, h, _ => by
    simp only [fieldsL] at h
    split at h
    · rename_i e
      injection h with h
      rw [← h, e, ← hlen, List.drop_length]
      trivial
    · cases h
  | f :: fs, off, ls, h, hf => by
    simp only [fieldsL] at h
    split at h
    · rename_i l1 hl1
      split at h
      · rename_i e
        obtain ⟨r, hr, hls⟩ := Option.map_eq_some_iff.1 h
        have h1 := hg _ _ _ hl1 (hf f (List.mem_cons_self ..))
        have h2 := fieldsL_ok hlen hg fs _ _ hr (fun x hx => hf x (List.mem_cons_of_mem _ hx))
        rw [e.1, e.2] at h1
        rw [← hls, ← List.take_append_drop l1.length (cs.drop off), List.drop_drop]
        exact OkL_append h1 h2
      · cases h
    · cases h
theorem array_ok {ls : List Leaf} : ∀ (m : Nat) (cs : List Value), cs.length = m * ls.length → (∀ i, i < m → OkL ls ((cs.drop (i * ls.length)).take ls.length)) → OkL (List.replicate m ls).flatten cs
  | 0, cs, hl, _ => by
    have : cs = [] := List.eq_nil_of_length_eq_zero (by simpa using hl)
    subst this
    trivial
  | m + 1, cs, hl, h => by
    rw [List.replicate_succ, List.flatten_cons, ← List.take_append_drop ls.length cs]
    refine OkL_append (by simpa using h 0 (Nat.succ_pos _)) (array_ok m _ (by rw [List.length_drop, hl, Nat.succ_mul]; omega) (fun i hi => ?_))
    have := h (i + 1) (by omega)
    rw [Nat.succ_mul, Nat.add_comm] at this
    rw [List.drop_drop]
    exact this
theorem leaves_ok : ∀ (n : Nat) (t : TypeId) (ls : List Leaf) (cs : List Value) (fuel : Nat) (x : DataW H × List MemPlace), leaves P n t = some ls → DataW.trod enc P w base spare held fuel t cs = some x → OkL ls cs
  | 0, _, _, _, _, _, h, _ => by simp [leaves] at h
  | n + 1, t, ls, cs, fuel, x, h, hx => by
    simp only [leaves] at h
    split at h
    · rename_i k hu
      injection h with h; subst h
      obtain ⟨m, rfl, _, hw⟩ := DataW.trod_int hu hx
      exact ⟨⟨m, rfl, hw⟩, trivial⟩
    · rename_i hu
      injection h with h; subst h
      obtain ⟨b, rfl, _⟩ := DataW.trod_bool hu hx
      exact ⟨⟨b, rfl⟩, trivial⟩
    · rename_i hu
      injection h with h; subst h
      obtain ⟨s, rfl, _, hs⟩ := DataW.trod_string hu hx
      exact ⟨⟨s, rfl, hs⟩, trivial⟩
    · rename_i m e hu
      split at h
      · rename_i l1 hl1
        split at h
        · rename_i hc
          injection h with h; subst h
          obtain ⟨xs, k, _, _, hlen, hxl, hi⟩ := DataW.trod_array hu hx
          refine array_ok m cs (by rw [hlen, hc.2]) (fun i him => ?_)
          have h1 := hi i him
          rw [List.getElem?_eq_getElem (by omega), hc.1] at h1
          exact leaves_ok n _ _ _ _ _ hl1 h1
        · cases h
      · cases h
    · rename_i fs hu
      obtain ⟨xs, k, _, _, hlen, hxl, hi⟩ := DataW.trod_struct hu hx
      have := fieldsL_ok (Tr := fun t cs => ∃ x, DataW.trod enc P w base spare held k t cs = some x) hlen (fun t l c hl ⟨y, hy⟩ => leaves_ok n _ _ _ _ _ hl hy) fs.toList 0 ls h (fun f hf => by
        obtain ⟨i, hi', hfi⟩ := List.getElem_of_mem hf
        have hil : i < fs.size := by simpa using hi'
        have h1 := hi i f (by rw [Array.getElem?_eq_getElem hil]; exact congrArg some (by simpa using hfi))
        rw [List.getElem?_eq_getElem (by omega)] at h1
        exact ⟨_, h1⟩)
      simpa using this
    · cases h
theorem okWide_array {r : Reach} {b0 : Nat} {t e : TypeId} {n : Nat} {v : Value} (ht : P.underlying t = some (.array n e)) (h : Value.okWide P w r b0 t v) : ∃ cs, v = .agg cs := by
  simp only [Value.okWide, ht] at h
  obtain ⟨cs, h1, _⟩ := h
  exact ⟨cs, h1⟩
theorem open_agg {r : Reach} {b0 : Nat} {t : TypeId} {fs : Array Field} {v : Value} {d : DataW H} {p : List MemPlace} {ls : List Leaf} (n : Nat) (hs : P.underlying t = some (.struct fs)) (hl : leaves P n t = some ls)
    (hv : Value.okWide P w r b0 t v) (h : DataW.Trod enc P w base spare held t v d p) : ∃ l : List Value, v = .agg l.toArray ∧ OkL ls l := by
  obtain ⟨cs, rfl, _⟩ := okWide_struct hs hv
  obtain ⟨fuel, hf⟩ := h
  exact ⟨cs.toList, rfl, leaves_ok n t ls _ fuel _ hl hf⟩
theorem open_arr {r : Reach} {b0 : Nat} {t e : TypeId} {m : Nat} {v : Value} {d : DataW H} {p : List MemPlace} {ls : List Leaf} (n : Nat) (hs : P.underlying t = some (.array m e)) (hl : leaves P n t = some ls)
    (hv : Value.okWide P w r b0 t v) (h : DataW.Trod enc P w base spare held t v d p) : ∃ l : List Value, v = .agg l.toArray ∧ OkL ls l := by
  obtain ⟨cs, rfl⟩ := okWide_array hs hv
  obtain ⟨fuel, hf⟩ := h
  exact ⟨cs.toList, rfl, leaves_ok n t ls _ fuel _ hl hf⟩
end
end Go.Proofs.YtgckfiadnmjonabGreatDoor

/- Slices among the arguments, opened. No program in sight. -/
namespace Go.Proofs.YtgckfiadnmjonabGreatDoor
open Go.ChangeShapes Go.WideShapes Go.RowKit
section
variable {H : Type} {enc : TypeId × Value → H} {P : Program} {w : World} {base : Nat} {spare : Nat → Bool} {held : Bool}
/-- A slice of numbers, bools, strings, or structs and arrays of these. -/
structure Sl (w : World) (v : Value) (ls : List Leaf) (n : Nat) (E : Nat → List Value) : Prop where
  ex : ∃ p cap, v = .slice p n cap ∧ n ≤ cap ∧ cap ≤ maxLen ∧ (n = 0 ∨ ∃ b off, p = some ⟨b, off, none⟩ ∧ b < w.heap.size ∧ ∀ i, i < n → ∀ j, j < ls.length → w.cell? ⟨b, off + i * ls.length + j, none⟩ = (E i)[j]?)
  ok : ∀ i, i < n → OkL ls (E i)
theorem open_sl {t e : TypeId} {v : Value} {d : DataW H} {p : List MemPlace} {ls : List Leaf} (n : Nat) (ht : P.underlying t = some (.slice e)) (hl : leaves P n e = some ls) (hk : P.cellsOf e = ls.length) (h0 : 0 < ls.length) {r : Reach} {b0 : Nat} (hval : Value.okWide P w r b0 t v)
    (h : DataW.Trod enc P w base spare held t v d p) : ∃ m E, Sl w v ls m E := by
  obtain ⟨p0, len0, cap0, rfl⟩ := okWide_slice ht hval
  obtain ⟨fuel, hf⟩ := h
  rcases Go.Deep.open_slice ht hf with ⟨hv, _⟩ | ⟨a, len, cap, m, n', D, Pl, hv, hb, hlc, hcm, hm, _, hx⟩
  · replace hv : Value.slice p0 len0 cap0 = _ := (List.cons.inj hv).1
    exact ⟨0, fun _ => [], ⟨none, 0, hv, Nat.le_refl _, by unfold maxLen; omega, .inl rfl⟩, fun i hi => absurd hi (Nat.not_lt_zero _)⟩
  · replace hv : Value.slice p0 len0 cap0 = _ := (List.cons.inj hv).1
    have hlm : len ≤ m := by rw [hm]; split <;> omega
    have each : ∀ i, i < len → ∃ l : List Value, OkL ls l ∧ ∀ j, j < ls.length → w.cell? ((a.add (i * ls.length)).add j) = l[j]? := fun i hi => by
      obtain ⟨cs', h1, h2⟩ := hx i (by omega)
      rw [hk] at h1
      obtain ⟨_, hlen, hcell⟩ := World.cells?_some h1
      exact ⟨cs', leaves_ok n e ls cs' _ _ hl h2, hcell⟩
    classical
    refine ⟨len, fun i => if hi : i < len then Classical.choose (each i hi) else [], ⟨some a, cap, hv, hlc, hcm, ?_⟩, fun i hi => ?_⟩
    · by_cases hz : len = 0
      · exact .inl hz
      · refine .inr ?_
        have hpos : 0 < len := Nat.pos_of_ne_zero hz
        obtain ⟨l0, ok0, hc0⟩ := each 0 hpos
        have hs0 := hc0 0 h0
        have hlen0 := OkL_length ok0
        have ha : a.spot = none ∧ a.block < w.heap.size := by
          rw [Nat.zero_mul] at hs0
          have e0 : (a.add 0).add 0 = a := by simp [Addr.add]
          rw [e0, List.getElem?_eq_getElem (by omega)] at hs0
          unfold World.cell? at hs0
          split at hs0
          · rename_i c _ _ hblk
            refine ⟨?_, (Array.getElem?_eq_some_iff.1 hblk).1⟩
            cases hsp : a.spot with
            | none => rfl
            | some x => rw [hsp] at hs0; simp at hs0
          · cases hs0
        obtain ⟨b, off, sp⟩ := a
        obtain ⟨rfl, hblk⟩ := ha
        refine ⟨b, off, rfl, hblk, fun i hi j hj => ?_⟩
        have := (Classical.choose_spec (each i hi)).2 j hj
        rw [Go.Deep.add_add] at this
        simp only [dif_pos hi]
        rw [← this]
        unfold Addr.add
        by_cases hij : i * ls.length + j = 0
        · rw [if_pos hij, Nat.add_assoc, hij, Nat.add_zero]
        · rw [if_neg hij, Nat.add_assoc]
    · simp only [dif_pos hi]
      exact (Classical.choose_spec (each i hi)).1
end
end Go.Proofs.YtgckfiadnmjonabGreatDoor

/- What the rows' lists of package-level variables give; one world for the witness, in which each lies as its initialiser lays it. Written by mkcard.py. -/
namespace Go.Proofs.YtgckfiadnmjonabGreatDoor
open Go.ChangeShapes Go.WideShapes Go.ChangeAt Go.RowKit
set_option maxRecDepth 100000

theorem own : ownKnob Tryz.prog.godebug = none := by kernel_rfl
theorem lt_of_var {W : World} {n : String} {g : Nat} {cs : Array Value} (hg : Tryz.prog.globalNamed n = some g) (hv : W.var? Tryz.prog n = some cs) : g < W.heap.size := by
  unfold World.var? at hv
  simp only [hg, Option.bind_some] at hv
  rcases Nat.lt_or_ge g W.heap.size with h | h
  · exact h
  · rw [Array.getElem?_eq_none h] at hv
    cases hv
theorem g_math_bits_deBruijn32tab : Tryz.prog.globalNamed "math/bits.deBruijn32tab" = some 4 := by kernel_rfl
theorem ty_math_bits_deBruijn32tab : (Tryz.prog.globals[4]?).map (·.type) = some 155 := by kernel_rfl
theorem g_math_bits_deBruijn64tab : Tryz.prog.globalNamed "math/bits.deBruijn64tab" = some 5 := by kernel_rfl
theorem ty_math_bits_deBruijn64tab : (Tryz.prog.globals[5]?).map (·.type) = some 156 := by kernel_rfl
theorem g_internal_strconv_uint64pow10 : Tryz.prog.globalNamed "internal/strconv.uint64pow10" = some 3 := by kernel_rfl
theorem ty_internal_strconv_uint64pow10 : (Tryz.prog.globals[3]?).map (·.type) = some 137 := by kernel_rfl
theorem g_strconv_ErrRange : Tryz.prog.globalNamed "strconv.ErrRange" = some 7 := by kernel_rfl
theorem ty_strconv_ErrRange : (Tryz.prog.globals[7]?).map (·.type) = some 85 := by kernel_rfl
theorem g_strconv_ErrSyntax : Tryz.prog.globalNamed "strconv.ErrSyntax" = some 6 := by kernel_rfl
theorem ty_strconv_ErrSyntax : (Tryz.prog.globals[6]?).map (·.type) = some 85 := by kernel_rfl
theorem g_unicode_utf8_acceptRanges : Tryz.prog.globalNamed "unicode/utf8.acceptRanges" = some 2 := by kernel_rfl
theorem g_unicode_utf8_first : Tryz.prog.globalNamed "unicode/utf8.first" = some 1 := by kernel_rfl
theorem laid_out_b : laidOutB Tryz.prog = true := by kernel_rfl
theorem slices_full : ((List.range Tryz.prog.types.size).all fun t => match Tryz.prog.underlying t with | some (.slice e) => decide (0 < Tryz.prog.cellsOf e) | _ => true) = true := by kernel_rfl
theorem star : "*" ++ "errors.errorString" = "*errors.errorString" := by decide
theorem row_es (u : TypeId) (h : Tryz.prog.typeName? 3 u = some "*errors.errorString") : u = 164 :=
  typeName_ptr_named (nm := "errors.errorString") (by rw [star]; kernel_rfl) (by kernel_rfl) (by decide) u (by rw [star]; exact h)
theorem cells_es : Tryz.prog.cellsOf 166 = 1 := by kernel_rfl
theorem cells_str : Tryz.prog.cellsOf 9 = 1 := by kernel_rfl
theorem env_0 {W : World} (h : laidMetH Tryz.prog [("math/bits.deBruijn32tab", Rows.laid_math_bits_deBruijn32tab), ("math/bits.deBruijn64tab", Rows.laid_math_bits_deBruijn64tab), ("internal/strconv.uint64pow10", Rows.laid_internal_strconv_uint64pow10), ("strconv.ErrRange", Rows.laid_strconv_ErrRange), ("strconv.ErrSyntax", Rows.laid_strconv_ErrSyntax)] W) (hs : W.ShapedOpen Tryz.prog) : EnvP W := by
  have v_internal_strconv_uint64pow10 : Lib.TabIs Tryz.prog W "internal/strconv.uint64pow10" .u64 Lib.pow10Tab := Lib.tabIs_of_head g_internal_strconv_uint64pow10 ty_internal_strconv_uint64pow10 Tryz.underlying137 Tryz.underlying114 (by kernel_rfl) (by kernel_rfl) h.tail.tail
  obtain ⟨a_strconv_ErrSyntax, s_strconv_ErrSyntax, v_strconv_ErrSyntax, -, -, -⟩ := laid_sentinel h.tail.tail.tail.tail g_strconv_ErrSyntax ty_strconv_ErrSyntax Tryz.underlying85 row_es Tryz.underlying164 Tryz.underlying166 rfl rfl Tryz.underlying9 cells_es cells_str
  obtain ⟨a_strconv_ErrRange, s_strconv_ErrRange, v_strconv_ErrRange, -, -, -⟩ := laid_sentinel h.tail.tail.tail g_strconv_ErrRange ty_strconv_ErrRange Tryz.underlying85 row_es Tryz.underlying164 Tryz.underlying166 rfl rfl Tryz.underlying9 cells_es cells_str
  exact ⟨⟨⟨_, lt_of_var g_internal_strconv_uint64pow10 v_internal_strconv_uint64pow10, g_internal_strconv_uint64pow10, v_internal_strconv_uint64pow10⟩, hs⟩, ⟨_, _, _, lt_of_var g_strconv_ErrSyntax v_strconv_ErrSyntax, g_strconv_ErrSyntax, v_strconv_ErrSyntax⟩, ⟨_, _, _, lt_of_var g_strconv_ErrRange v_strconv_ErrRange, g_strconv_ErrRange, v_strconv_ErrRange⟩⟩
theorem env_1 {W : World} (h : laidMetH Tryz.prog [("math/bits.deBruijn32tab", Rows.laid_math_bits_deBruijn32tab), ("math/bits.deBruijn64tab", Rows.laid_math_bits_deBruijn64tab), ("internal/strconv.uint64pow10", Rows.laid_internal_strconv_uint64pow10), ("unicode/utf8.acceptRanges", Rows.laid_unicode_utf8_acceptRanges), ("strconv.ErrRange", Rows.laid_strconv_ErrRange), ("strconv.ErrSyntax", Rows.laid_strconv_ErrSyntax), ("unicode/utf8.first", Rows.laid_unicode_utf8_first)] W) (hs : W.ShapedOpen Tryz.prog) : EnvP W := by
  have v_internal_strconv_uint64pow10 : Lib.TabIs Tryz.prog W "internal/strconv.uint64pow10" .u64 Lib.pow10Tab := Lib.tabIs_of_head g_internal_strconv_uint64pow10 ty_internal_strconv_uint64pow10 Tryz.underlying137 Tryz.underlying114 (by kernel_rfl) (by kernel_rfl) h.tail.tail
  obtain ⟨a_strconv_ErrSyntax, s_strconv_ErrSyntax, v_strconv_ErrSyntax, -, -, -⟩ := laid_sentinel h.tail.tail.tail.tail.tail g_strconv_ErrSyntax ty_strconv_ErrSyntax Tryz.underlying85 row_es Tryz.underlying164 Tryz.underlying166 rfl rfl Tryz.underlying9 cells_es cells_str
  obtain ⟨a_strconv_ErrRange, s_strconv_ErrRange, v_strconv_ErrRange, -, -, -⟩ := laid_sentinel h.tail.tail.tail.tail g_strconv_ErrRange ty_strconv_ErrRange Tryz.underlying85 row_es Tryz.underlying164 Tryz.underlying166 rfl rfl Tryz.underlying9 cells_es cells_str
  exact ⟨⟨⟨_, lt_of_var g_internal_strconv_uint64pow10 v_internal_strconv_uint64pow10, g_internal_strconv_uint64pow10, v_internal_strconv_uint64pow10⟩, hs⟩, ⟨_, _, _, lt_of_var g_strconv_ErrSyntax v_strconv_ErrSyntax, g_strconv_ErrSyntax, v_strconv_ErrSyntax⟩, ⟨_, _, _, lt_of_var g_strconv_ErrRange v_strconv_ErrRange, g_strconv_ErrRange, v_strconv_ErrRange⟩⟩
noncomputable def low : Nat := (World.holding Tryz.prog default ⟨#[], #[], []⟩).heap.size
noncomputable def laidWorld (os : Os) : World :=
  let w0 := World.holding Tryz.prog os ⟨#[.cells #[.string ⟨#[118, 97, 108, 117, 101, 32, 111, 117, 116, 32, 111, 102, 32, 114, 97, 110, 103, 101]⟩] 166, .cells #[.string ⟨#[105, 110, 118, 97, 108, 105, 100, 32, 115, 121, 110, 116, 97, 120]⟩] 166], #[], []⟩
  { w0 with heap := (((((((w0.heap.modify 4 fun
      | .cells _ t frozen => .cells #[.int .u8 0, .int .u8 1, .int .u8 28, .int .u8 2, .int .u8 29, .int .u8 14, .int .u8 24, .int .u8 3, .int .u8 30, .int .u8 22, .int .u8 20, .int .u8 15, .int .u8 25, .int .u8 17, .int .u8 4, .int .u8 8, .int .u8 31, .int .u8 27, .int .u8 13, .int .u8 23, .int .u8 21, .int .u8 19, .int .u8 16, .int .u8 7, .int .u8 26, .int .u8 12, .int .u8 18, .int .u8 6, .int .u8 11, .int .u8 5, .int .u8 10, .int .u8 9] t frozen
      | o => o).modify 5 fun
      | .cells _ t frozen => .cells #[.int .u8 0, .int .u8 1, .int .u8 56, .int .u8 2, .int .u8 57, .int .u8 49, .int .u8 28, .int .u8 3, .int .u8 61, .int .u8 58, .int .u8 42, .int .u8 50, .int .u8 38, .int .u8 29, .int .u8 17, .int .u8 4, .int .u8 62, .int .u8 47, .int .u8 59, .int .u8 36, .int .u8 45, .int .u8 43, .int .u8 51, .int .u8 22, .int .u8 53, .int .u8 39, .int .u8 33, .int .u8 30, .int .u8 24, .int .u8 18, .int .u8 12, .int .u8 5, .int .u8 63, .int .u8 55, .int .u8 48, .int .u8 27, .int .u8 60, .int .u8 41, .int .u8 37, .int .u8 16, .int .u8 46, .int .u8 35, .int .u8 44, .int .u8 21, .int .u8 52, .int .u8 32, .int .u8 23, .int .u8 11, .int .u8 54, .int .u8 26, .int .u8 40, .int .u8 15, .int .u8 34, .int .u8 20, .int .u8 31, .int .u8 10, .int .u8 25, .int .u8 14, .int .u8 19, .int .u8 9, .int .u8 13, .int .u8 8, .int .u8 7, .int .u8 6] t frozen
      | o => o).modify 3 fun
      | .cells _ t frozen => .cells #[.int .u64 1, .int .u64 10, .int .u64 100, .int .u64 1000, .int .u64 10000, .int .u64 100000, .int .u64 1000000, .int .u64 10000000, .int .u64 100000000, .int .u64 1000000000, .int .u64 10000000000, .int .u64 100000000000, .int .u64 1000000000000, .int .u64 10000000000000, .int .u64 100000000000000, .int .u64 1000000000000000, .int .u64 10000000000000000, .int .u64 100000000000000000, .int .u64 1000000000000000000, .int .u64 10000000000000000000] t frozen
      | o => o).modify 7 fun
      | .cells _ t frozen => .cells #[.iface 164 (.pointer (some ⟨low + 0, 0, none⟩))] t frozen
      | o => o).modify 6 fun
      | .cells _ t frozen => .cells #[.iface 164 (.pointer (some ⟨low + 1, 0, none⟩))] t frozen
      | o => o).modify 2 fun
      | .cells _ t frozen => .cells #[.int .u8 128, .int .u8 191, .int .u8 160, .int .u8 191, .int .u8 128, .int .u8 159, .int .u8 144, .int .u8 191, .int .u8 128, .int .u8 143, .int .u8 0, .int .u8 0, .int .u8 0, .int .u8 0, .int .u8 0, .int .u8 0, .int .u8 0, .int .u8 0, .int .u8 0, .int .u8 0, .int .u8 0, .int .u8 0, .int .u8 0, .int .u8 0, .int .u8 0, .int .u8 0, .int .u8 0, .int .u8 0, .int .u8 0, .int .u8 0, .int .u8 0, .int .u8 0] t frozen
      | o => o).modify 1 fun
      | .cells _ t frozen => .cells (Go.Pinned.utf8FirstZ.map fun (n : Nat) => Value.int .u8 (n : Int)).toArray t frozen
      | o => o) }
end Go.Proofs.YtgckfiadnmjonabGreatDoor
