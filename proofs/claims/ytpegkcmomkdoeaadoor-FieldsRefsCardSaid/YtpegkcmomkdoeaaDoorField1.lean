/- References: what is none, possible, wrong: the program's and the reference's. -/
import Derived.Test.YtpegkcmomkdoeaaDoorGens
import Derived.Test.YtpegkcmomkdoeaaDoorRefGens
import Derived.Test.YtpegkcmomkdoeaaDoorFieldSpec
import Derived.Test.YtpegkcmomkdoeaaDoorRow
namespace Go.Proofs.YtpegkcmomkdoeaaDoor
open Go.RowKit
set_option linter.unusedVariables false
set_option linter.unusedSimpArgs false

abbrev refV (s g : Int) : Value := .agg #[.int .i64 s, .int .u32 g]
theorem ref_neq0 (s g : Int) : ∀ W, (binOp .neq 24 (.agg #[.int .i64 s, .int .u32 g]) (.agg #[.int .i64 0, .int .u32 0])).run Tryd.prog W = .ok (.bool (!rNone (s, g))) W := by
  intro W
  unfold rNone
  go_simp
  by_cases hs : s = 0 <;> by_cases hg : g = 0 <;> simp_all
theorem ref_eql0 (s g : Int) : ∀ W, (binOp .eql 24 (.agg #[.int .i64 s, .int .u32 g]) (.agg #[.int .i64 0, .int .u32 0])).run Tryd.prog W = .ok (.bool (rNone (s, g))) W := by
  intro W
  unfold rNone
  go_simp
  by_cases hs : s = 0 <;> by_cases hg : g = 0 <;> simp_all
theorem rNone_not {s g : Int} (h : ¬ (s = 0 ∧ g = 0)) : rNone (s, g) = false := by unfold rNone; rw [decide_eq_false_iff_not]; exact h
theorem wrong_none (w : World) : Ret 31 #[refV 0 0] w (.bool false) := by
  go_enter Tryd.func31, Tryd.ntmps31
  go_wp2
  go_returns
  exact ⟨rfl, by go_grown⟩
set_option maxHeartbeats 4000000 in
theorem wrong_c (s g : Int) (w : World) : Ret 31 #[refV s g] w (.bool (rWrong (s, g))) := by
  by_cases hn : s = 0 ∧ g = 0
  · obtain ⟨rfl, rfl⟩ := hn
    exact wrong_none w
  · have hq := ref_neq0 s g
    rw [rNone_not hn] at hq
    by_cases hk : rOk (s, g) = true
    · have e : rWrong (s, g) = false := by unfold rWrong; rw [hk]; simp
      rw [e]
      unfold rOk at hk
      rw [decide_eq_true_iff] at hk
      obtain ⟨h0, h1, h2, h4⟩ := hk
      simp only at h0 h1 h2 h4
      clear hn e
      have b3 : decide (g < 1) = false := by rw [decide_eq_false_iff_not]; omega
      have b4 : decide (4294967295 < g) = false := by rw [decide_eq_false_iff_not]; omega
      have b1 : decide (s < 0) = false := by rw [decide_eq_false_iff_not]; omega
      have b2 : decide (256 ≤ s) = false := by rw [decide_eq_false_iff_not]; omega
      go_enter Tryd.func31, Tryd.ntmps31
      go_wp2
      go_returns
      exact ⟨rfl, by go_grown⟩
    · have e : rWrong (s, g) = true := by unfold rWrong; rw [rNone_not hn]; simpa using hk
      rw [e]
      unfold rOk at hk
      rw [decide_eq_true_iff] at hk
      have h3 : s < 0 ∨ (0 ≤ s ∧ 256 ≤ s) ∨ (0 ≤ s ∧ s < 256 ∧ g < 1) ∨ (0 ≤ s ∧ s < 256 ∧ 1 ≤ g ∧ 4294967295 < g) := by simp only at hk; omega
      clear hn e hk
      rcases h3 with h | ⟨h, h'⟩ | ⟨h, h', h''⟩ | ⟨h, h', h'', h3⟩
      all_goals
        go_enter Tryd.func31, Tryd.ntmps31
        go_wp2
        go_returns
        exact ⟨rfl, by go_grown⟩
set_option maxHeartbeats 4000000 in
theorem rwrong_c (s g : Int) (w : World) (g0 : 0 ≤ g) (g1 : g ≤ 4294967295) : Ret 32 #[refV s g] w (.bool (rWrong (s, g))) := by
  by_cases hn : s = 0 ∧ g = 0
  · obtain ⟨rfl, rfl⟩ := hn
    have e : rWrong (0, 0) = false := by decide
    rw [e]
    go_enter Tryd.func32, Tryd.ntmps32
    go_wp2
    go_returns
    exact ⟨rfl, by go_grown⟩
  · have hq := ref_neq0 s g
    rw [rNone_not hn] at hq
    by_cases hk : rOk (s, g) = true
    · have e : rWrong (s, g) = false := by unfold rWrong; rw [hk]; simp
      rw [e]
      unfold rOk at hk
      rw [decide_eq_true_iff] at hk
      obtain ⟨h0, h1, h2, h4⟩ := hk
      simp only at h0 h1 h2 h4
      clear hn e
      have b1 : decide (0 ≤ s) = true := decide_eq_true h0
      have b2 : decide (s < 256) = true := decide_eq_true h1
      have b3 : decide (0 < g) = true := decide_eq_true (by omega)
      go_enter Tryd.func32, Tryd.ntmps32
      go_wp2
      go_returns
      exact ⟨rfl, by go_grown⟩
    · have e : rWrong (s, g) = true := by unfold rWrong; rw [rNone_not hn]; simpa using hk
      rw [e]
      unfold rOk at hk
      rw [decide_eq_true_iff] at hk
      have h3 : s < 0 ∨ (0 ≤ s ∧ 256 ≤ s) ∨ (0 ≤ s ∧ s < 256 ∧ g = 0) := by simp only at hk; omega
      clear hn e hk
      rcases h3 with h | ⟨h, h'⟩ | ⟨h, h', rfl⟩
      all_goals
        go_enter Tryd.func32, Tryd.ntmps32
        go_wp2
        go_returns
        exact ⟨rfl, by go_grown⟩
end Go.Proofs.YtpegkcmomkdoeaaDoor
