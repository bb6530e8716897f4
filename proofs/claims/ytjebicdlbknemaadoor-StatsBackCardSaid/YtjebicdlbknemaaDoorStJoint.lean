/- The program's Check, Used, Add and the reference's give the same, whatever that is. -/
import Derived.Test.YtjebicdlbknemaaDoorWorks37
import Derived.Test.YtjebicdlbknemaaDoorStats4a
import Derived.Test.YtjebicdlbknemaaDoorStats4b
import Derived.Test.YtjebicdlbknemaaDoorStats4d
namespace Go.Proofs.YtjebicdlbknemaaDoor
open Go.RowKit

theorem sOk_parts {o l c r q : Int} (h : sOk o l c r q = true) : 0 ≤ l ∧ l ≤ 10000 ∧ 0 ≤ c ∧ c ≤ 10000 ∧ 0 ≤ r ∧ r ≤ 10000 ∧ 0 ≤ q ∧ q ≤ 10000 ∧ l + c + r + q ≤ 10000 ∧ o = l + c + r + q := by
  unfold sOk at h
  rw [decide_eq_true_iff] at h
  omega
theorem rcheck_st (o l c r q : Int) (w : World) : Ret 14 #[stV o l c r q] w (.int .i64 (sErr o l c r q)) := by
  unfold sErr
  cases h : sOk o l c r q with
  | true =>
    obtain ⟨l0, l1, c0, c1, r0, r1, q0, q1, hm, rfl⟩ := sOk_parts h
    exact rcheck_ok l c r q w l0 l1 c0 c1 r0 r1 q0 q1 hm
  | false => exact rcheck_bad o l c r q w h
theorem used_joint (o l c r q : Int) : ∃ n e : Int, (∀ w, Ret 9 #[stV o l c r q] w (.tuple #[.int .i64 n, .int .i64 e])) ∧ (∀ w, Ret 10 #[stV o l c r q] w (.tuple #[.int .i64 n, .int .i64 e])) := by
  cases h : sOk o l c r q with
  | true =>
    have hu := fun w => used_ok o l c r q w h
    obtain ⟨l0, l1, c0, c1, r0, r1, q0, q1, hm, rfl⟩ := sOk_parts h
    refine ⟨_, _, hu, fun w => ?_⟩
    have := rused_ok l c r q w l0 l1 c0 c1 r0 r1 q0 q1 hm
    rw [show l + c + q = l + c + r + q - r by omega] at this
    exact this
  | false => exact ⟨_, _, fun w => used_bad o l c r q w h, fun w => rused_bad o l c r q w h⟩
def Joint (s : Value) (f t : Int) : Prop := ∃ o l c r q e : Int, (∀ w, Ret 11 #[s, .int .i64 f, .int .i64 t] w (.tuple #[stV o l c r q, .int .i64 e])) ∧ (∀ w, Ret 12 #[s, .int .i64 f, .int .i64 t] w (.tuple #[stV o l c r q, .int .i64 e]))
theorem chg_cases {f t : Int} (h : chg f t = true) : (f = 0 ∧ t = 1) ∨ (f = 1 ∧ t = 2) ∨ (f = 2 ∧ t = 2) ∨ (f = 2 ∧ t = 3) ∨ (f = 2 ∧ t = 4) := by
  unfold chg at h
  rw [decide_eq_true_iff] at h
  omega
theorem add_joint (o l c r q f t : Int) : Joint (stV o l c r q) f t := by
  cases h : sOk o l c r q with
  | false => exact ⟨_, _, _, _, _, _, fun w => add_bad o l c r q f t w h, fun w => radd_bad o l c r q f t w h⟩
  | true =>
    obtain ⟨l0, l1, c0, c1, r0, r1, q0, q1, hm, rfl⟩ := sOk_parts h
    cases hc : chg f t with
    | false => exact ⟨_, _, _, _, _, _, fun w => add_nochg l c r q f t w l0 l1 c0 c1 r0 r1 q0 q1 hm hc, fun w => radd_nochg l c r q f t w l0 l1 c0 c1 r0 r1 q0 q1 hm hc⟩
    | true =>
      rcases chg_cases hc with ⟨rfl, rfl⟩ | ⟨rfl, rfl⟩ | ⟨rfl, rfl⟩ | ⟨rfl, rfl⟩ | ⟨rfl, rfl⟩
      · by_cases hx : l + c + r + q ≤ 9999
        · exact ⟨_, _, _, _, _, _, fun w => add_01 l c r q w l0 l1 c0 c1 r0 r1 q0 q1 hx, fun w => radd_01 l c r q w l0 l1 c0 c1 r0 r1 q0 q1 hx⟩
        · have e0 : (l + c + r + q == 10000) = true := by rw [beq_iff_eq]; omega
          exact ⟨_, _, _, _, _, _, fun w => add_over _ l c r q w l0 l1 c0 c1 r0 r1 q0 q1 rfl e0, fun w => radd_over _ l c r q w l0 l1 c0 c1 r0 r1 q0 q1 rfl e0⟩
      · by_cases hx : 1 ≤ l
        · exact ⟨_, _, _, _, _, _, fun w => add_12 l c r q w l0 l1 c0 c1 r0 r1 q0 q1 hm hx, fun w => radd_12 l c r q w l0 l1 c0 c1 r0 r1 q0 q1 hm hx⟩
        · obtain rfl : l = 0 := by omega
          have hz : 0 + c + r + q = c + r + q := by omega
          rw [hz]
          exact ⟨_, _, _, _, _, _, fun w => add_s12 c r q w c0 c1 r0 r1 q0 q1 (by omega), fun w => radd_s12 c r q w c0 c1 r0 r1 q0 q1 (by omega)⟩
      · by_cases hx : 1 ≤ c
        · exact ⟨_, _, _, _, _, _, fun w => add_22 l c r q w l0 l1 c0 c1 r0 r1 q0 q1 hm hx, fun w => radd_22 l c r q w l0 l1 c0 c1 r0 r1 q0 q1 hm hx⟩
        · obtain rfl : c = 0 := by omega
          have hz : l + 0 + r + q = l + r + q := by omega
          rw [hz]
          exact ⟨_, _, _, _, _, _, fun w => add_s22 l r q w l0 l1 r0 r1 q0 q1 (by omega), fun w => radd_s22 l r q w l0 l1 r0 r1 q0 q1 (by omega)⟩
      · by_cases hx : 1 ≤ c
        · exact ⟨_, _, _, _, _, _, fun w => add_23 l c r q w l0 l1 c0 c1 r0 r1 q0 q1 hm hx, fun w => radd_23 l c r q w l0 l1 c0 c1 r0 r1 q0 q1 hm hx⟩
        · obtain rfl : c = 0 := by omega
          have hz : l + 0 + r + q = l + r + q := by omega
          rw [hz]
          exact ⟨_, _, _, _, _, _, fun w => add_s23 l r q w l0 l1 r0 r1 q0 q1 (by omega), fun w => radd_s23 l r q w l0 l1 r0 r1 q0 q1 (by omega)⟩
      · by_cases hx : 1 ≤ c
        · exact ⟨_, _, _, _, _, _, fun w => add_24 l c r q w l0 l1 c0 c1 r0 r1 q0 q1 hm hx, fun w => radd_24 l c r q w l0 l1 c0 c1 r0 r1 q0 q1 hm hx⟩
        · obtain rfl : c = 0 := by omega
          have hz : l + 0 + r + q = l + r + q := by omega
          rw [hz]
          exact ⟨_, _, _, _, _, _, fun w => add_s24 l r q w l0 l1 r0 r1 q0 q1 (by omega), fun w => radd_s24 l r q w l0 l1 r0 r1 q0 q1 (by omega)⟩
end Go.Proofs.YtjebicdlbknemaaDoor
