/- stats.Add: no resource in the state. -/
import Derived.Test.YtkjpdciccablpaaGreatDoorHStats2
namespace Go.Proofs.YtkjpdciccablpaaGreatDoor
open Go.RowKit

set_option maxHeartbeats 8000000 in
set_option maxRecDepth 20000 in
theorem add_s12 (c r q : Int) (w : World) (c0 : 0 ≤ c) (c1 : c ≤ 10000) (r0 : 0 ≤ r) (r1 : r ≤ 10000) (q0 : 0 ≤ q) (q1 : q ≤ 10000) (hm : c + r + q ≤ 10000) :
    Ret 11 #[stV (c + r + q) 0 c r q, .int .i64 1, .int .i64 2] w (.tuple #[stV 0 0 0 0 0, .int .i64 8]) := by
  have i0 := sIdx0 (c + r + q) 0 c r q
  have i1 := sIdx1 (c + r + q) 0 c r q
  have i2 := sIdx2 (c + r + q) 0 c r q
  have i3 := sIdx3 (c + r + q) 0 c r q
  have i4 := sIdx4 (c + r + q) 0 c r q
  have j0 := cIdx0
  have j1 := cIdx1
  have j2 := cIdx2
  have j3 := cIdx3
  have j4 := cIdx4
  have hq := pair_eq
  go_enter Tryz.func11, Tryz.ntmps11
  go_wp2
  go_rounds 6
  go_rounds 6
  go_returns
  exact ⟨rfl, by go_grown⟩
set_option maxHeartbeats 8000000 in
set_option maxRecDepth 20000 in
theorem add_s22 (l r q : Int) (w : World) (l0 : 0 ≤ l) (l1 : l ≤ 10000) (r0 : 0 ≤ r) (r1 : r ≤ 10000) (q0 : 0 ≤ q) (q1 : q ≤ 10000) (hm : l + r + q ≤ 10000) :
    Ret 11 #[stV (l + r + q) l 0 r q, .int .i64 2, .int .i64 2] w (.tuple #[stV 0 0 0 0 0, .int .i64 8]) := by
  have i0 := sIdx0 (l + r + q) l 0 r q
  have i1 := sIdx1 (l + r + q) l 0 r q
  have i2 := sIdx2 (l + r + q) l 0 r q
  have i3 := sIdx3 (l + r + q) l 0 r q
  have i4 := sIdx4 (l + r + q) l 0 r q
  have j0 := cIdx0
  have j1 := cIdx1
  have j2 := cIdx2
  have j3 := cIdx3
  have j4 := cIdx4
  have hq := pair_eq
  go_enter Tryz.func11, Tryz.ntmps11
  go_wp2
  go_rounds 6
  go_rounds 6
  go_returns
  exact ⟨rfl, by go_grown⟩
set_option maxHeartbeats 8000000 in
set_option maxRecDepth 20000 in
theorem add_s23 (l r q : Int) (w : World) (l0 : 0 ≤ l) (l1 : l ≤ 10000) (r0 : 0 ≤ r) (r1 : r ≤ 10000) (q0 : 0 ≤ q) (q1 : q ≤ 10000) (hm : l + r + q ≤ 10000) :
    Ret 11 #[stV (l + r + q) l 0 r q, .int .i64 2, .int .i64 3] w (.tuple #[stV 0 0 0 0 0, .int .i64 8]) := by
  have i0 := sIdx0 (l + r + q) l 0 r q
  have i1 := sIdx1 (l + r + q) l 0 r q
  have i2 := sIdx2 (l + r + q) l 0 r q
  have i3 := sIdx3 (l + r + q) l 0 r q
  have i4 := sIdx4 (l + r + q) l 0 r q
  have j0 := cIdx0
  have j1 := cIdx1
  have j2 := cIdx2
  have j3 := cIdx3
  have j4 := cIdx4
  have hq := pair_eq
  go_enter Tryz.func11, Tryz.ntmps11
  go_wp2
  go_rounds 6
  go_rounds 6
  go_returns
  exact ⟨rfl, by go_grown⟩
set_option maxHeartbeats 8000000 in
set_option maxRecDepth 20000 in
theorem add_s24 (l r q : Int) (w : World) (l0 : 0 ≤ l) (l1 : l ≤ 10000) (r0 : 0 ≤ r) (r1 : r ≤ 10000) (q0 : 0 ≤ q) (q1 : q ≤ 10000) (hm : l + r + q ≤ 10000) :
    Ret 11 #[stV (l + r + q) l 0 r q, .int .i64 2, .int .i64 4] w (.tuple #[stV 0 0 0 0 0, .int .i64 8]) := by
  have i0 := sIdx0 (l + r + q) l 0 r q
  have i1 := sIdx1 (l + r + q) l 0 r q
  have i2 := sIdx2 (l + r + q) l 0 r q
  have i3 := sIdx3 (l + r + q) l 0 r q
  have i4 := sIdx4 (l + r + q) l 0 r q
  have j0 := cIdx0
  have j1 := cIdx1
  have j2 := cIdx2
  have j3 := cIdx3
  have j4 := cIdx4
  have hq := pair_eq
  go_enter Tryz.func11, Tryz.ntmps11
  go_wp2
  go_rounds 6
  go_rounds 6
  go_returns
  exact ⟨rfl, by go_grown⟩
end Go.Proofs.YtkjpdciccablpaaGreatDoor
