/- The reference's Add: changes, no resource in the state. -/
import Derived.Test.YtjebicdlbknemaaDoorStats4
namespace Go.Proofs.YtjebicdlbknemaaDoor
open Go.RowKit

set_option maxHeartbeats 8000000 in
set_option maxRecDepth 20000 in
theorem radd_23 (l c r q : Int) (w : World) (l0 : 0 ≤ l) (l1 : l ≤ 10000) (c0 : 0 ≤ c) (c1 : c ≤ 10000) (r0 : 0 ≤ r) (r1 : r ≤ 10000) (q0 : 0 ≤ q) (q1 : q ≤ 10000) (hm : l + c + r + q ≤ 10000) (hl : 1 ≤ c) :
    Ret 12 #[stV (l + c + r + q) l c r q, .int .i64 2, .int .i64 3] w (.tuple #[stV (l + c + r + q) l (c - 1) (r + 1) q, .int .i64 0]) := by
  have e0 : (c == 0) = false := by rw [beq_eq_false_iff_ne]; omega
  go_enter Tryd.func12, Tryd.ntmps12
  go_wp2
  go_returns
  exact ⟨rfl, by go_grown⟩
set_option maxHeartbeats 8000000 in
set_option maxRecDepth 20000 in
theorem radd_24 (l c r q : Int) (w : World) (l0 : 0 ≤ l) (l1 : l ≤ 10000) (c0 : 0 ≤ c) (c1 : c ≤ 10000) (r0 : 0 ≤ r) (r1 : r ≤ 10000) (q0 : 0 ≤ q) (q1 : q ≤ 10000) (hm : l + c + r + q ≤ 10000) (hl : 1 ≤ c) :
    Ret 12 #[stV (l + c + r + q) l c r q, .int .i64 2, .int .i64 4] w (.tuple #[stV (l + c + r + q) l (c - 1) r (q + 1), .int .i64 0]) := by
  have e0 : (c == 0) = false := by rw [beq_eq_false_iff_ne]; omega
  go_enter Tryd.func12, Tryd.ntmps12
  go_wp2
  go_returns
  exact ⟨rfl, by go_grown⟩
set_option maxHeartbeats 8000000 in
set_option maxRecDepth 20000 in
theorem radd_s12 (c r q : Int) (w : World) (c0 : 0 ≤ c) (c1 : c ≤ 10000) (r0 : 0 ≤ r) (r1 : r ≤ 10000) (q0 : 0 ≤ q) (q1 : q ≤ 10000) (hm : c + r + q ≤ 10000) :
    Ret 12 #[stV (c + r + q) 0 c r q, .int .i64 1, .int .i64 2] w (.tuple #[stV 0 0 0 0 0, .int .i64 8]) := by
  go_enter Tryd.func12, Tryd.ntmps12
  go_wp2
  go_returns
  exact ⟨rfl, by go_grown⟩
set_option maxHeartbeats 8000000 in
set_option maxRecDepth 20000 in
theorem radd_s22 (l r q : Int) (w : World) (l0 : 0 ≤ l) (l1 : l ≤ 10000) (r0 : 0 ≤ r) (r1 : r ≤ 10000) (q0 : 0 ≤ q) (q1 : q ≤ 10000) (hm : l + r + q ≤ 10000) :
    Ret 12 #[stV (l + r + q) l 0 r q, .int .i64 2, .int .i64 2] w (.tuple #[stV 0 0 0 0 0, .int .i64 8]) := by
  go_enter Tryd.func12, Tryd.ntmps12
  go_wp2
  go_returns
  exact ⟨rfl, by go_grown⟩
set_option maxHeartbeats 8000000 in
set_option maxRecDepth 20000 in
theorem radd_s23 (l r q : Int) (w : World) (l0 : 0 ≤ l) (l1 : l ≤ 10000) (r0 : 0 ≤ r) (r1 : r ≤ 10000) (q0 : 0 ≤ q) (q1 : q ≤ 10000) (hm : l + r + q ≤ 10000) :
    Ret 12 #[stV (l + r + q) l 0 r q, .int .i64 2, .int .i64 3] w (.tuple #[stV 0 0 0 0 0, .int .i64 8]) := by
  go_enter Tryd.func12, Tryd.ntmps12
  go_wp2
  go_returns
  exact ⟨rfl, by go_grown⟩
set_option maxHeartbeats 8000000 in
set_option maxRecDepth 20000 in
theorem radd_s24 (l r q : Int) (w : World) (l0 : 0 ≤ l) (l1 : l ≤ 10000) (r0 : 0 ≤ r) (r1 : r ≤ 10000) (q0 : 0 ≤ q) (q1 : q ≤ 10000) (hm : l + r + q ≤ 10000) :
    Ret 12 #[stV (l + r + q) l 0 r q, .int .i64 2, .int .i64 4] w (.tuple #[stV 0 0 0 0 0, .int .i64 8]) := by
  go_enter Tryd.func12, Tryd.ntmps12
  go_wp2
  go_returns
  exact ⟨rfl, by go_grown⟩
end Go.Proofs.YtjebicdlbknemaaDoor
