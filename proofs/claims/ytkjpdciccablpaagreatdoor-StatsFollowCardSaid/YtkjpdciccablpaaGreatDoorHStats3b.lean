/- stats.Add: the changes of what is closing. -/
import Derived.Test.YtkjpdciccablpaaGreatDoorHStats2
namespace Go.Proofs.YtkjpdciccablpaaGreatDoor
open Go.RowKit

set_option maxHeartbeats 8000000 in
set_option maxRecDepth 20000 in
theorem add_22 (l c r q : Int) (w : World) (l0 : 0 ≤ l) (l1 : l ≤ 10000) (c0 : 0 ≤ c) (c1 : c ≤ 10000) (r0 : 0 ≤ r) (r1 : r ≤ 10000) (q0 : 0 ≤ q) (q1 : q ≤ 10000) (hm : l + c + r + q ≤ 10000) (hl : 1 ≤ c) :
    Ret 11 #[stV (l + c + r + q) l c r q, .int .i64 2, .int .i64 2] w (.tuple #[stV (l + c + r + q) l c r q, .int .i64 0]) := by
  have e0 : (c == 0) = false := by rw [beq_eq_false_iff_ne]; omega
  have i0 := sIdx0 (l + c + r + q) l c r q
  have i1 := sIdx1 (l + c + r + q) l c r q
  have i2 := sIdx2 (l + c + r + q) l c r q
  have i3 := sIdx3 (l + c + r + q) l c r q
  have i4 := sIdx4 (l + c + r + q) l c r q
  have j0 := cIdx0
  have j1 := cIdx1
  have j2 := cIdx2
  have j3 := cIdx3
  have j4 := cIdx4
  have hq := pair_eq
  go_enter Tryz.func11, Tryz.ntmps11
  go_wp2
  go_rounds 6
  go_rounds 6
  go_returns
  exact ⟨rfl, by go_grown⟩
set_option maxHeartbeats 8000000 in
set_option maxRecDepth 20000 in
theorem add_23 (l c r q : Int) (w : World) (l0 : 0 ≤ l) (l1 : l ≤ 10000) (c0 : 0 ≤ c) (c1 : c ≤ 10000) (r0 : 0 ≤ r) (r1 : r ≤ 10000) (q0 : 0 ≤ q) (q1 : q ≤ 10000) (hm : l + c + r + q ≤ 10000) (hl : 1 ≤ c) :
    Ret 11 #[stV (l + c + r + q) l c r q, .int .i64 2, .int .i64 3] w (.tuple #[stV (l + c + r + q) l (c - 1) (r + 1) q, .int .i64 0]) := by
  have e0 : (c == 0) = false := by rw [beq_eq_false_iff_ne]; omega
  have i0 := sIdx0 (l + c + r + q) l c r q
  have i1 := sIdx1 (l + c + r + q) l c r q
  have i2 := sIdx2 (l + c + r + q) l c r q
  have i3 := sIdx3 (l + c + r + q) l c r q
  have i4 := sIdx4 (l + c + r + q) l c r q
  have j0 := cIdx0
  have j1 := cIdx1
  have j2 := cIdx2
  have j3 := cIdx3
  have j4 := cIdx4
  have hq := pair_eq
  go_enter Tryz.func11, Tryz.ntmps11
  go_wp2
  go_rounds 6
  go_rounds 6
  go_returns
  exact ⟨rfl, by go_grown⟩
set_option maxHeartbeats 8000000 in
set_option maxRecDepth 20000 in
theorem add_24 (l c r q : Int) (w : World) (l0 : 0 ≤ l) (l1 : l ≤ 10000) (c0 : 0 ≤ c) (c1 : c ≤ 10000) (r0 : 0 ≤ r) (r1 : r ≤ 10000) (q0 : 0 ≤ q) (q1 : q ≤ 10000) (hm : l + c + r + q ≤ 10000) (hl : 1 ≤ c) :
    Ret 11 #[stV (l + c + r + q) l c r q, .int .i64 2, .int .i64 4] w (.tuple #[stV (l + c + r + q) l (c - 1) r (q + 1), .int .i64 0]) := by
  have e0 : (c == 0) = false := by rw [beq_eq_false_iff_ne]; omega
  have i0 := sIdx0 (l + c + r + q) l c r q
  have i1 := sIdx1 (l + c + r + q) l c r q
  have i2 := sIdx2 (l + c + r + q) l c r q
  have i3 := sIdx3 (l + c + r + q) l c r q
  have i4 := sIdx4 (l + c + r + q) l c r q
  have j0 := cIdx0
  have j1 := cIdx1
  have j2 := cIdx2
  have j3 := cIdx3
  have j4 := cIdx4
  have hq := pair_eq
  go_enter Tryz.func11, Tryz.ntmps11
  go_wp2
  go_rounds 6
  go_rounds 6
  go_returns
  exact ⟨rfl, by go_grown⟩
end Go.Proofs.YtkjpdciccablpaaGreatDoor
