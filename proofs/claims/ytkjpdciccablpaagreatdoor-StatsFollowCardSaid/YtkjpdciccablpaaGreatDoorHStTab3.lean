/- stats.Of of a table that was just made. -/
import Derived.Test.YtkjpdciccablpaaGreatDoorL0a
import Derived.Test.YtkjpdciccablpaaGreatDoorL3a
import Derived.Deep.LoopGhost
namespace Go.Proofs.YtkjpdciccablpaaGreatDoor
open Go.RowKit

theorem row_keep {w w' : World} {g : Nat} {o : Obj} (h : w.heap[g]? = some o) (hg : g < w.heap.size) (hb : Below w.heap.size w w') : w'.heap[g]? = some o := (hb.block g hg).trans h
theorem cell_keep {w W : World} {g : Nat} {old cs : Array Value} {t : TypeId} {fr : Nat × Nat} (h : w.heap[g]? = some (.cells old t fr)) (hg : g < w.heap.size) (hb : Below w.heap.size w W) (j : Nat) : (W.setRow g cs).cell? ⟨g, j, none⟩ = cs[j]? := cell_setRow_same W g j old cs t fr (row_keep h hg hb)
set_option maxHeartbeats 8000000 in
set_option maxRecDepth 20000 in
theorem of_new (w : World) (M : Nat) (h : NewTab w M) : Ret 8 #[.pointer (some ⟨M, 0, none⟩), .int .i64 3] w (.tuple #[stV 3 0 0 3 0, .int .i64 0]) := by
  have lM : M < w.heap.size := by
    obtain ⟨N, K, cs, hN, hs, h0, h1, hK, hM⟩ := h
    exact lt_of_heap hM
  have H := Lib.hid h
  clear h
  have hw0 : IntKind.i64.wrap 0 = 0 := by decide
  have hw3 : IntKind.i64.wrap 3 = 3 := by decide
  go_enter Tryz.func8, Tryz.ntmps8
  go_wp2_with (first
    | (go_at_call 18; refine (tabCopy _ M (NewTab.keep H.out ?_)).mono ?_; go_grown; rintro e w1 ⟨⟨a, rfl⟩, hb1⟩; have HR := Lib.hid ((hb1.block w.heap.size (by simp)).trans (heap_alloc_new w _)); have hB1 := off_alloc hb1; have z1 : w.heap.size < w1.heap.size := (by have := hb1.size; simp at this; omega); clear hb1)
    | (go_at_call 19; refine (tabLen _ M (NewTab.keep H.out ?_)).mono ?_; go_grown; rintro e w2 ⟨rfl, rfl⟩)
    | (go_at_call 20; refine (tabNumbers _ M _ (NewTab.keep H.out ?_)).mono ?_; go_grown; rintro e w2 ⟨rfl, rfl⟩))
  refine wp_loop_rounds 5 ?_
  rw [rounds_succ]
  go_wp2_with fail
  apply wp_join
  · intro hk
    go_region_with (first
      | (go_at_call 20; refine (tabNumbers _ M _ (NewTab.keep H.out ?_)).mono ?_; go_grown; rintro e w3 ⟨rfl, rfl⟩))
    all_goals (exact hk)
  go_wp2_with fail
  rw [rounds_succ]
  go_wp2_with fail
  apply wp_join
  · intro hk
    go_region_with (first
      | (go_at_call 20; refine (tabNumbers _ M _ (NewTab.keep H.out ?_)).mono ?_; go_grown; rintro e w3 ⟨rfl, rfl⟩))
    all_goals (exact hk)
  go_wp2_with fail
  rw [rounds_succ]
  go_wp2_with fail
  apply wp_join
  · intro hk
    go_region_with (first
      | (go_at_call 20; refine (tabNumbers _ M _ (NewTab.keep H.out ?_)).mono ?_; go_grown; rintro e w3 ⟨rfl, rfl⟩))
    all_goals (exact hk)
  go_wp2_with fail
  rw [rounds_succ]
  go_wp2_with fail
  apply wp_join
  · intro hk
    go_region_with (first
      | (go_at_call 20; refine (tabNumbers _ M _ (NewTab.keep H.out ?_)).mono ?_; go_grown; rintro e w3 ⟨rfl, rfl⟩))
    all_goals (exact hk)
  go_wp2_with fail
  rw [rounds_succ]
  go_wp2_with (first
    | (go_at_call 21; go_in)
    | (refine wpList_store_row rfl 31 (.tmp 4) (.tmp 41) rfl w.heap.size #[.int .i64 3, .int .i64 0, .int .i64 0, .int .i64 3, .int .i64 0] ?hx ?hy 31 #[.int .i64 0, .int .i64 0, .int .i64 0, .int .i64 0, .int .i64 0] ?hg ?hi ?ho ?h1 ?_; (case hx => go_must (rfl)); (case hy => go_must (rfl)); (case hg => go_must (exact row_keep HR.out z1 (by go_grown))); (case hi => go_must (kernel_rfl)); (case ho => go_must (rfl)); (case h1 => go_must (kernel_rfl))))
  have hc := cell_keep (cs := #[.int .i64 3, .int .i64 0, .int .i64 0, .int .i64 3, .int .i64 0]) (W := (((w2.alloc (.cells #[.int .i64 3, .int .i64 0, .int .i64 0, .int .i64 3, .int .i64 0] 62)).alloc (.cells #[.int .i64 3, .int .i64 0, .int .i64 0, .int .i64 3, .int .i64 0] 62)).alloc (.cells #[.int .i64 3, .int .i64 0, .int .i64 0, .int .i64 3, .int .i64 0] 31)).drew.drew.drew.drew) HR.out z1 (by go_grown)
  refine bodyPost_ret (v := .tuple #[stV 3 0 0 3 0, .int .i64 0]) (by simp [results, Tryz.results8, go_sem, hc]) rfl ⟨rfl, below_setRow (by go_grown) (Nat.le_refl _) _⟩
end Go.Proofs.YtkjpdciccablpaaGreatDoor
