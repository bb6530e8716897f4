/- Contracts of package descr: letters, check. -/
import Derived.Test.YtjonbmocamjhaaaDoorDescrSpec
import Derived.Test.YtjonbmocamjhaaaDoorGens
import Derived.Deep.RegionWith
import Derived.Test.YtjonbmocamjhaaaDoorKeep
import Derived.Deep.DeepMust
namespace Go.Proofs.YtjonbmocamjhaaaDoor
open Go.RowKit

abbrev nmV (k s g : Int) : Value := .agg #[.int .i64 k, .int .i64 s, .int .i64 g]
abbrev dV (k s g : Int) : Value := .agg #[.int .i64 k, .int .i64 s, .int .u32 g]


theorem letters_c (w : World) : Calls Tryd.prog 49 #[] w fun e w' => e = .returned (.slice (some ⟨w.heap.size, 0, none⟩) 4 4) ∧ w' = w.alloc (.cells #[.string ⟨#[]⟩, .string ⟨#[102]⟩, .string ⟨#[98]⟩, .string ⟨#[108]⟩] 9) := by
  go_enter Tryd.func49, Tryd.ntmps49
  go_wp2
  go_returns
  exact ⟨rfl, rfl⟩

set_option maxHeartbeats 2000000 in
theorem nm_check_ok (size k s g : Int) (w : World) (h : dOk size k s g = true) (g0 : 0 ≤ g) (g1 : g ≤ 4294967295) :
    Ret 35 #[nmV k s g, .int .i64 size] w (.int .i64 0) := by
  rw [dOk_iff] at h
  obtain ⟨k1, k3, s0, s1, hg⟩ := h
  have hg1 : 1 ≤ g := by omega
  have e1 : (g == 0) = false := by rw [beq_eq_false_iff_ne]; exact hg
  clear hg
  go_enter Tryd.func35, Tryd.ntmps35
  go_wp2_with (go_at_call 48; refine (check_any _ _ g0 g1).mono ?_; rintro e w' ⟨rfl, rfl⟩)
  rw [gErr_pos hg1]
  go_returns
  exact ⟨rfl, by go_grown⟩
set_option maxHeartbeats 4000000 in
theorem nm_check_bad (size k s g : Int) (w : World) (h : dOk size k s g = false) (g0 : 0 ≤ g) (g1 : g ≤ 4294967295) :
    Ret 35 #[nmV k s g, .int .i64 size] w (.int .i64 2) := by
  have h' := dOk_not h
  have h2 : k < 1 ∨ (1 ≤ k ∧ (3 < k ∨ (k ≤ 3 ∧ (s < 0 ∨ (0 ≤ s ∧ (size ≤ s ∨ (s < size ∧ g = 0))))))) := by omega
  clear h h'
  rcases h2 with h | ⟨h1, h | ⟨h2, h | ⟨h3, h | ⟨h4, rfl⟩⟩⟩⟩
  · go_enter Tryd.func35, Tryd.ntmps35
    go_wp2
    go_returns
    exact ⟨rfl, by go_grown⟩
  · go_enter Tryd.func35, Tryd.ntmps35
    go_wp2
    go_returns
    exact ⟨rfl, by go_grown⟩
  · go_enter Tryd.func35, Tryd.ntmps35
    go_wp2
    go_returns
    exact ⟨rfl, by go_grown⟩
  · go_enter Tryd.func35, Tryd.ntmps35
    go_wp2
    go_returns
    exact ⟨rfl, by go_grown⟩
  · go_enter Tryd.func35, Tryd.ntmps35
    go_wp2_with (go_at_call 48; refine (check_any _ _ (by omega) (by omega)).mono ?_; rintro e w' ⟨rfl, rfl⟩)
    rw [gErr_zero]
    go_returns
    exact ⟨rfl, by go_grown⟩
theorem nm_check (size k s g : Int) (w : World) (g0 : 0 ≤ g) (g1 : g ≤ 4294967295) :
    Ret 35 #[nmV k s g, .int .i64 size] w (.int .i64 (dErr size k s g)) := by
  cases h : dOk size k s g with
  | true => rw [dErr_ok h]; exact nm_check_ok size k s g w h g0 g1
  | false => rw [dErr_bad h]; exact nm_check_bad size k s g w h g0 g1
end Go.Proofs.YtjonbmocamjhaaaDoor
