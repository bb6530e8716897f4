/- The contracts of the reference's Check, Used, Add (chapter 37). -/
import Derived.Test.YtjebicdlbknemaaDoorStats1
import Derived.Test.YtjebicdlbknemaaDoorStats2
namespace Go.Proofs.YtjebicdlbknemaaDoor
open Go.RowKit

set_option maxHeartbeats 4000000 in
theorem rcheck_ok (l c r q : Int) (w : World) (l0 : 0 ≤ l) (l1 : l ≤ 10000) (c0 : 0 ≤ c) (c1 : c ≤ 10000) (r0 : 0 ≤ r) (r1 : r ≤ 10000) (q0 : 0 ≤ q) (q1 : q ≤ 10000) (hm : l + c + r + q ≤ 10000) : Ret 14 #[stV (l + c + r + q) l c r q] w (.int .i64 0) := by
  go_enter Tryd.func14, Tryd.ntmps14
  go_wp2
  go_returns
  exact ⟨rfl, by go_grown⟩
set_option maxHeartbeats 8000000 in
theorem rcheck_range (o l c r q : Int) (w : World)
    (h : (o < 0 ∨ 10000 < o) ∨ ((0 ≤ o ∧ o ≤ 10000) ∧ ((l < 0 ∨ 10000 < l) ∨ ((0 ≤ l ∧ l ≤ 10000) ∧ ((c < 0 ∨ 10000 < c) ∨ ((0 ≤ c ∧ c ≤ 10000) ∧ ((r < 0 ∨ 10000 < r) ∨ ((0 ≤ r ∧ r ≤ 10000) ∧ (q < 0 ∨ 10000 < q))))))))) :
    Ret 14 #[stV o l c r q] w (.int .i64 2) := by
  rcases h with (h | h) | ⟨⟨o0, o1⟩, (h | h) | ⟨⟨l0, l1⟩, (h | h) | ⟨⟨c0, c1⟩, (h | h) | ⟨⟨r0, r1⟩, (h | h)⟩⟩⟩⟩
  all_goals
    go_enter Tryd.func14, Tryd.ntmps14
    go_wp2
    go_returns
    exact ⟨rfl, by go_grown⟩
set_option maxHeartbeats 4000000 in
theorem rcheck_sum (o l c r q : Int) (w : World) (h : 0 ≤ o ∧ o ≤ 10000 ∧ 0 ≤ l ∧ l ≤ 10000 ∧ 0 ≤ c ∧ c ≤ 10000 ∧ 0 ≤ r ∧ r ≤ 10000 ∧ 0 ≤ q ∧ q ≤ 10000) (hs : l + c + r + q ≠ o) :
    Ret 14 #[stV o l c r q] w (.int .i64 2) := by
  obtain ⟨o0, o1, l0, l1, c0, c1, r0, r1, q0, q1⟩ := h
  have e1 : (o == l + c + r + q) = false := beq_eq_false_iff_ne.2 (fun e => hs e.symm)
  have e2 : (o != l + c + r + q) = true := by rw [bne, e1]; rfl
  clear hs
  go_enter Tryd.func14, Tryd.ntmps14
  go_wp2
  go_returns
  exact ⟨rfl, by go_grown⟩
theorem rcheck_bad (o l c r q : Int) (w : World) (h : sOk o l c r q = false) : Ret 14 #[stV o l c r q] w (.int .i64 2) := by
  unfold sOk at h
  rw [decide_eq_false_iff_not] at h
  by_cases hr : 0 ≤ o ∧ o ≤ 10000 ∧ 0 ≤ l ∧ l ≤ 10000 ∧ 0 ≤ c ∧ c ≤ 10000 ∧ 0 ≤ r ∧ r ≤ 10000 ∧ 0 ≤ q ∧ q ≤ 10000
  · exact rcheck_sum o l c r q w hr (by omega)
  · exact rcheck_range o l c r q w (by omega)
set_option maxHeartbeats 4000000 in
theorem rused_ok (l c r q : Int) (w : World) (l0 : 0 ≤ l) (l1 : l ≤ 10000) (c0 : 0 ≤ c) (c1 : c ≤ 10000) (r0 : 0 ≤ r) (r1 : r ≤ 10000) (q0 : 0 ≤ q) (q1 : q ≤ 10000) (hm : l + c + r + q ≤ 10000) : Ret 10 #[stV (l + c + r + q) l c r q] w (.tuple #[.int .i64 (l + c + q), .int .i64 0]) := by
  go_enter Tryd.func10, Tryd.ntmps10
  go_wp2
  go_returns
  exact ⟨rfl, by go_grown⟩
theorem rused_bad (o l c r q : Int) (w : World) (h : sOk o l c r q = false) : Ret 10 #[stV o l c r q] w (.tuple #[.int .i64 0, .int .i64 2]) := by
  have hk := fun w => rcheck_bad o l c r q w h
  have HK := Lib.hid hk
  clear hk h
  go_enter Tryd.func10, Tryd.ntmps10
  go_wp2_with fail
  refine Calls.mono (HK.out _) ?_
  rintro e w1 ⟨rfl, hb1⟩
  go_wp2_with fail
  go_returns
  exact ⟨rfl, off_alloc hb1⟩
end Go.Proofs.YtjebicdlbknemaaDoor
