/- made, changes. -/
import Derived.Test.YtjebicdlbknemaaDoorStJoint
namespace Go.Proofs.YtjebicdlbknemaaDoor
open Go.RowKit
set_option linter.unusedVariables false
set_option linter.unusedSimpArgs false
set_option maxHeartbeats 8000000 in
theorem made_ret (a b c d : Int) (w : World) (a0 : 0 ≤ a) (a1 : a ≤ 65535) (b0 : 0 ≤ b) (b1 : b ≤ 65535) (c0 : 0 ≤ c) (c1 : c ≤ 65535) (d0 : 0 ≤ d) (d1 : d ≤ 65535) :
    Ret 16 #[.agg #[.int .u16 a, .int .u16 b, .int .u16 c, .int .u16 d]] w (stV (a % 2501 + b % 2501 + c % 2501 + d % 2501) (a % 2501) (b % 2501) (c % 2501) (d % 2501)) := by
  have mk : ∀ x : Int, 0 ≤ x → x ≤ 65535 → ∃ X : Int, 0 ≤ X ∧ X ≤ 2500 ∧ x % 2501 = X ∧ Int.tmod x 2501 = X ∧ IntKind.u16.wrap X = X ∧ IntKind.i64.wrap X = X := fun x h0 h1 =>
    ⟨x % 2501, by omega, by omega, rfl, Int.tmod_eq_emod_of_nonneg h0, IntWalk.u16_in _ ⟨by omega, by omega⟩, IntWalk.i64_in _ ⟨by omega, by omega⟩⟩
  obtain ⟨A, A0, A1, ea, ta, ua, ia⟩ := mk a a0 a1
  obtain ⟨B, B0, B1, eb, tb, ub, ib⟩ := mk b b0 b1
  obtain ⟨C, C0, C1, ec, tc, uc, ic⟩ := mk c c0 c1
  obtain ⟨D, D0, D1, ed, td, ud, id_⟩ := mk d d0 d1
  rw [ea, eb, ec, ed]
  have s1 : IntKind.i64.wrap (A + B) = A + B := IntWalk.i64_in _ ⟨by omega, by omega⟩
  have s2 : IntKind.i64.wrap (A + B + C) = A + B + C := IntWalk.i64_in _ ⟨by omega, by omega⟩
  have s3 : IntKind.i64.wrap (A + B + C + D) = A + B + C + D := IntWalk.i64_in _ ⟨by omega, by omega⟩
  clear mk ea eb ec ed a0 a1 b0 b1 c0 c1 d0 d1
  go_enter Tryd.func16, Tryd.ntmps16
  go_wp2_with fail
  refine bodyPost_ret (v := stV (A + B + C + D) A B C D) (by simp [results, Tryd.results16, go_sem]) rfl ⟨rfl, ?_⟩
  go_grown
set_option maxHeartbeats 8000000 in
theorem changes_ret (w : World) : Calls Tryd.prog 17 #[] w (fun e w' => e = .returned (.slice (some ⟨w.heap.size, 0, none⟩) 5 5) ∧ w' = w.alloc (.cells #[.int .i64 0, .int .i64 1, .int .i64 1, .int .i64 2, .int .i64 2, .int .i64 2, .int .i64 2, .int .i64 3, .int .i64 2, .int .i64 4] 40)) := by
  go_enter Tryd.func17, Tryd.ntmps17
  go_wp2_with fail
  go_returns
  exact ⟨rfl, rfl⟩
end Go.Proofs.YtjebicdlbknemaaDoor
