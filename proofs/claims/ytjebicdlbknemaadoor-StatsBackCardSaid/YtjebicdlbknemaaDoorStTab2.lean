/- stats.Of of a table that was just made. -/
import Derived.Test.YtjebicdlbknemaaDoorStTab
import Derived.Deep.LoopGhost
namespace Go.Proofs.YtjebicdlbknemaaDoor
open Go.RowKit

theorem NewTab.keep {w w' : World} {M : Nat} (h : NewTab w M) (hb : Below w.heap.size w w') : NewTab w' M := by
  obtain ⟨N, K, cs, hN, hs, h0, h1, hK, hM⟩ := h
  exact ⟨N, K, cs, (hb.block N (lt_of_heap hN)).trans hN, hs, h0, h1, (hb.block K (lt_of_heap hK)).trans hK, (hb.block M (lt_of_heap hM)).trans hM⟩
theorem zc_one : Tryd.zeroCells128.all (·.oneCell') = true := by kernel_rfl
set_option maxHeartbeats 2000000 in
theorem tabNew_exact (w : World) : Calls Tryd.prog 34 #[.int .i64 3, .int .u32 1] w fun e w' => e = .returned (.tuple #[.pointer (some ⟨w.heap.size + 1 + 1, 0, none⟩), .int .i64 0]) ∧ w' = (((w.alloc (.cells ((((Tryd.zeroCells128.setIfInBounds 0 (.int .i64 3)).setIfInBounds 2 (.int .u32 1)).setIfInBounds 4 (.int .u32 1)).setIfInBounds 6 (.int .u32 1)) 128)).alloc (.map #[] 0)).alloc (.cells #[.pointer (some ⟨w.heap.size, 0, none⟩), .map (some (w.heap.size + 1)), .slice none 0 0] 52)) := by
  have hz := zc_size
  have hmm := @run_makeMap Tryd.prog
  go_enter Tryd.func34, Tryd.ntmps34
  go_wp2
  go_rounds 4
  go_returns
  exact ⟨rfl, rfl⟩
theorem all_set {cs : Array Value} {p : Value → Bool} (h : cs.all p = true) (i : Nat) (v : Value) (hv : p v = true) : (cs.setIfInBounds i v).all p = true := by
  rw [Array.all_eq_true] at h ⊢
  intro j hj
  rw [Array.getElem_setIfInBounds]
  split
  · exact hv
  · exact h j (by simpa using hj)
theorem tabNew (w : World) : Calls Tryd.prog 34 #[.int .i64 3, .int .u32 1] w fun e w' => ∃ M, e = .returned (.tuple #[.pointer (some ⟨M, 0, none⟩), .int .i64 0]) ∧ NewTab w' M ∧ Below w.heap.size w w' :=
  (tabNew_exact w).mono fun e w' ⟨he, hw⟩ => by
    subst hw
    refine ⟨_, he, ⟨w.heap.size, w.heap.size + 1, (((Tryd.zeroCells128.setIfInBounds 0 (.int .i64 3)).setIfInBounds 2 (.int .u32 1)).setIfInBounds 4 (.int .u32 1)).setIfInBounds 6 (.int .u32 1), ?_, ?_, ?_, ?_, ?_, ?_⟩, by go_grown⟩
    · rw [Below.heap_alloc _ _ _ (by simp; omega), Below.heap_alloc _ _ _ (by simp)]
      exact heap_alloc_new w _
    · simp
    · simp
    · exact all_set (all_set (all_set (all_set zc_one _ _ rfl) _ _ rfl) _ _ rfl) _ _ rfl
    · rw [Below.heap_alloc _ _ _ (by simp)]
      exact heap_alloc2_new w _ _
    · have h := heap_alloc_new ((w.alloc (.cells ((((Tryd.zeroCells128.setIfInBounds 0 (.int .i64 3)).setIfInBounds 2 (.int .u32 1)).setIfInBounds 4 (.int .u32 1)).setIfInBounds 6 (.int .u32 1)) 128)).alloc (.map #[] 0)) (.cells #[.pointer (some ⟨w.heap.size, 0, none⟩), .map (some (w.heap.size + 1)), .slice none 0 0] 52)
      simpa using h
set_option maxRecDepth 20000 in
theorem tabLen (w : World) (M : Nat) (h : NewTab w M) : Calls Tryd.prog 37 #[.pointer (some ⟨M, 0, none⟩)] w fun e w' => e = .returned (.int .i64 0) ∧ w' = w := by
  obtain ⟨N, K, cs, hN, hs, h0, h1, hK, hM⟩ := h
  have c1 := cell_of_row w M 1 _ 52 (0, 0) hM
  have c2 := cell_of_row w M 2 _ 52 (0, 0) hM
  simp at c1 c2
  have hne := fun w r => run_neq_map_nil (P := Tryd.prog) w 49 _ _ r Tryd.underlying49
  clear hN hK hM hs h0 h1
  go_enter Tryd.func37, Tryd.ntmps37
  go_wp2
  go_returns
  exact ⟨rfl, rfl⟩
set_option maxRecDepth 20000 in
theorem tabNumbers (w : World) (M : Nat) (k : Int) (h : NewTab w M) : Calls Tryd.prog 38 #[.pointer (some ⟨M, 0, none⟩), .int .i64 k] w fun e w' => e = .returned (.slice none 0 0) ∧ w' = w := by
  obtain ⟨N, K, cs, hN, hs, h0, h1, hK, hM⟩ := h
  have c1 := cell_of_row w M 1 _ 52 (0, 0) hM
  have c2 := cell_of_row w M 2 _ 52 (0, 0) hM
  simp at c1 c2
  have hne := fun w r => run_neq_map_nil (P := Tryd.prog) w 49 _ _ r Tryd.underlying49
  clear hN hK hM hs h0 h1
  go_enter Tryd.func38, Tryd.ntmps38
  go_wp2
  go_rounds 1
  go_returns
  exact ⟨rfl, rfl⟩
end Go.Proofs.YtjebicdlbknemaaDoor
