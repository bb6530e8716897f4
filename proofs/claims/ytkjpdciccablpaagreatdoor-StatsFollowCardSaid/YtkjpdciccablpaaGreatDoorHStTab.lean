/- A table that was just made: Copy gives a pointer, and leaves all as it was. -/
import Derived.Test.YtkjpdciccablpaaGreatDoorHStats2
import Derived.Deep.RegionWith
import Derived.WalkSpells
import Derived.Deep.DeepMust
import Derived.Deep.DeepCutAuto
namespace Go.Proofs.YtkjpdciccablpaaGreatDoor
open Go.RowKit
theorem zc_size : Tryz.zeroCells121.size = 513 := by kernel_rfl
theorem zc_info : (Tryz.prog.info? 121).map (·.size) = some 513 := by kernel_rfl
theorem below_setRow {B : Nat} {w w1 : World} (h : Below B w w1) {g : Nat} (hg : B ≤ g) (cs : Array Value) : Below B w (w1.setRow g cs) :=
  h.trans ⟨rfl, rfl, rfl, by simp, fun k hk => setRow_other _ _ _ _ (by omega)⟩
set_option maxHeartbeats 2000000 in
theorem slCopy (w : World) (N : Nat) (cs : Array Value) (hN : w.heap[N]? = some (.cells cs 121 (0, 0))) (hs : cs.size = 513) (h0 : cs[0]? = some (.int .i64 3)) (h1 : cs.all (·.oneCell') = true) :
    Ret 42 #[.pointer (some ⟨N, 0, none⟩)] w (.pointer (some ⟨w.heap.size, 0, none⟩)) := by
  have hc : w.cell? ⟨N, 0, none⟩ = some (.int .i64 3) := by rw [cell_of_row w N 0 cs 121 (0, 0) hN]; exact h0
  have HN := Lib.hid hN
  have HS := Lib.hid hs
  have H1 := Lib.hid h1
  clear hN hs h0 h1
  go_enter Tryz.func42, Tryz.ntmps42
  go_wp2_with (first
    | (refine wpList_load_row rfl 121 (.tmp 8) rfl N rfl 121 cs (0, 0) _ HN.out Tryz.underlying121 rfl (by rw [zc_info, HS.out]) ?_)
    | (refine wpList_store_row rfl 121 (.tmp 3) (.tmp 9) rfl w.heap.size cs rfl rfl 121 Tryz.zeroCells121 (heap_alloc_new w _) (by rw [zc_info, HS.out]) (by rw [zc_size, HS.out]) H1.out ?_)
    | go_in)
  go_returns
  exact ⟨rfl, below_setRow ((Below.refl _ _).alloc (Nat.le_refl _) _) (Nat.le_refl _) _⟩
set_option maxRecDepth 20000 in
theorem cloneNil (w : World) : Calls Tryz.prog 43 #[.slice none 0 0] w fun e w' => e = .returned (.slice none 0 0) ∧ w' = w := by
  have hns : ∀ w, (binOp .eql 72 (.slice none 0 0) (.slice none 0 0)).run Tryz.prog w = .ok (.bool true) w := fun _ => by kernel_rfl
  go_enter Tryz.func43, Tryz.ntmps43
  go_wp2
  go_returns
  exact ⟨rfl, rfl⟩
theorem off_drew' {w W w1 : World} (k : Below W.heap.size W w1) (h : Below w.heap.size w W := by go_grown) : Below w.heap.size w w1 := h.trans (k.mono h.size)
def NewTab (w : World) (M : Nat) : Prop := ∃ (N K : Nat) (cs : Array Value), w.heap[N]? = some (.cells cs 121 (0, 0)) ∧ cs.size = 513 ∧ cs[0]? = some (.int .i64 3) ∧ cs.all (·.oneCell') = true ∧ w.heap[K]? = some (.map #[] 0) ∧ w.heap[M]? = some (.cells #[.pointer (some ⟨N, 0, none⟩), .map (some K), .slice none 0 0] 74 (0, 0))
theorem lt_of_heap {w : World} {K : Nat} {o : Obj} (h : w.heap[K]? = some o) : K < w.heap.size := by
  rcases Nat.lt_or_ge K w.heap.size with h' | h'
  · exact h'
  · rw [Array.getElem?_eq_none h'] at h; cases h
theorem run_range_empty (w : World) (K : Nat) (hK : w.heap[K]? = some (.map #[] 0)) : (Instr.range 71 (.map (some K))).run Tryz.prog w = .ok (.pointer (some ⟨w.heap.size, 0, none⟩)) (w.alloc (.mapIter (some K) 0 #[] 0)) := by
  simp [Instr.range, run_underlying Tryz.underlying71, getObj, Sem.run, hK, newObj]
theorem run_next_empty (w : World) (K : Nat) (t : TypeId) (hK : w.heap[K]? = some (.map #[] 0)) : (Instr.next (.pointer (some ⟨w.heap.size, 0, none⟩)) false t).run Tryz.prog (w.alloc (.mapIter (some K) 0 #[] 0)) = .ok (.tuple #[.bool false]) (w.alloc (.mapIter (some K) 0 #[] 0)) := by
  have h1 : (w.alloc (.mapIter (some K) 0 #[] 0)).heap[w.heap.size]? = some (.mapIter (some K) 0 #[] 0) := heap_alloc_new w _
  have h2 : (w.alloc (.mapIter (some K) 0 #[] 0)).heap[K]? = some (.map #[] 0) := (Below.heap_alloc w _ K (lt_of_heap hK)).trans hK
  generalize w.alloc (.mapIter (some K) 0 #[] 0) = W at *
  simp [Instr.next, getObj, Sem.run, h1, h2, choose, Question.forced]
set_option maxHeartbeats 4000000 in
set_option maxRecDepth 20000 in
theorem tabCopy (w : World) (M : Nat) (h : NewTab w M) : Calls Tryz.prog 18 #[.pointer (some ⟨M, 0, none⟩)] w fun e w' => (∃ a, e = .returned (.pointer (some a))) ∧ Below w.heap.size w w' := by
  obtain ⟨N, K, cs, hN, hs, h0, h1, hK, hM⟩ := h
  have c0 := cell_of_row w M 0 _ 74 (0, 0) hM
  have c1 := cell_of_row w M 1 _ 74 (0, 0) hM
  have c2 := cell_of_row w M 2 _ 74 (0, 0) hM
  simp at c0 c1 c2
  have hmm := @run_makeMap Tryz.prog
  have hne := fun w r => run_neq_map_nil (P := Tryz.prog) w 71 _ _ r Tryz.underlying71
  have lM : M < w.heap.size := block_lt_of_cell (a := ⟨M, 0, none⟩) c0
  have lN : N < w.heap.size := by
    rcases Nat.lt_or_ge N w.heap.size with h | h
    · exact h
    · rw [Array.getElem?_eq_none h] at hN; cases hN
  have keepN : ∀ W, Below w.heap.size w W → W.heap[N]? = some (.cells cs 121 (0, 0)) := fun W hb => (hb.block N lN).trans hN
  have keep2 : ∀ W, Below w.heap.size w W → W.cell? ⟨M, 2, none⟩ = some (.slice none 0 0) := fun W hb => (hb.cell (p := ⟨M, 2, none⟩) lM).trans c2
  have KN := Lib.hid keepN
  have K2 := Lib.hid keep2
  have HK := Lib.hid hK
  have HM := Lib.hid hM
  have HS := Lib.hid hs
  have H0 := Lib.hid h0
  have H1 := Lib.hid h1
  clear hN hK hM hs h0 h1 keepN keep2
  go_enter Tryz.func18, Tryz.ntmps18
  go_wp2_with (first | (go_at_call 41; go_in))
  go_cut [3] (fun s3 wx => ∃ a, s3 = .pointer (some a) ∧ Below w.heap.size w wx)
  case first =>
    go_region_with (first
      | (go_at_call 42; refine (slCopy _ N cs (KN.out _ ?_) HS.out H0.out H1.out).mono ?_; go_grown; rintro e w1 ⟨rfl, hb1⟩; have hB1 := off_drew' (w := w) hb1; have q2 := K2.out _ hB1; have lM1 := Nat.lt_of_lt_of_le lM hB1.size)
      | (go_at_call 43; refine (cloneNil _).mono ?_; rintro e w2 ⟨rfl, rfl⟩))
    all_goals
      go_wp2_with fail
      go_meet
      have z1 := hB1.size
      exact ⟨_, rfl, by go_grown⟩
  case rest =>
    obtain ⟨a, rfl, hB⟩ := hcut
    have r1 := (hB.cell (p := ⟨M, 1, none⟩) lM).trans c1
    have hk : wc.heap[K]? = some (.map #[] 0) := (hB.block K (lt_of_heap HK.out)).trans HK.out
    have e1 := run_range_empty wc K hk
    have e2 := fun t => run_next_empty wc K t hk
    clear hk
    go_wp2
    go_rounds 1
    have zc := hB.size
    go_returns
    exact ⟨⟨_, rfl⟩, by go_grown⟩
end Go.Proofs.YtkjpdciccablpaaGreatDoor
