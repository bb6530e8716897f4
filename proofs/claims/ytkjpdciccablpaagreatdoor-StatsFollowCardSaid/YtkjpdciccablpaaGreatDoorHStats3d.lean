/- stats.Add: what is refused. -/
import Derived.Test.YtkjpdciccablpaaGreatDoorHStats2
namespace Go.Proofs.YtkjpdciccablpaaGreatDoor
open Go.RowKit

set_option maxHeartbeats 8000000 in
set_option maxRecDepth 20000 in
theorem add_over (o l c r q : Int) (w : World) (l0 : 0 ≤ l) (l1 : l ≤ 10000) (c0 : 0 ≤ c) (c1 : c ≤ 10000) (r0 : 0 ≤ r) (r1 : r ≤ 10000) (q0 : 0 ≤ q) (q1 : q ≤ 10000) (ho : l + c + r + q = o) (e0 : (o == 10000) = true) :
    Ret 11 #[stV o l c r q, .int .i64 0, .int .i64 1] w (.tuple #[stV 0 0 0 0 0, .int .i64 17]) := by
  have o1 : o ≤ 10000 := by rw [beq_iff_eq] at e0; omega
  have o0 : 0 ≤ o := by omega
  have i0 := sIdx0 o l c r q
  have i1 := sIdx1 o l c r q
  have i2 := sIdx2 o l c r q
  have i3 := sIdx3 o l c r q
  have i4 := sIdx4 o l c r q
  have j0 := cIdx0
  have j1 := cIdx1
  have j2 := cIdx2
  have j3 := cIdx3
  have j4 := cIdx4
  have hq := pair_eq
  go_enter Tryz.func11, Tryz.ntmps11
  go_wp2
  go_rounds 6
  go_rounds 6
  go_returns
  exact ⟨rfl, by go_grown⟩
set_option maxHeartbeats 8000000 in
set_option maxRecDepth 20000 in
theorem add_nochg (l c r q f t : Int) (w : World) (l0 : 0 ≤ l) (l1 : l ≤ 10000) (c0 : 0 ≤ c) (c1 : c ≤ 10000) (r0 : 0 ≤ r) (r1 : r ≤ 10000) (q0 : 0 ≤ q) (q1 : q ≤ 10000) (hm : l + c + r + q ≤ 10000) (hch : chg f t = false) :
    Ret 11 #[stV (l + c + r + q) l c r q, .int .i64 f, .int .i64 t] w (.tuple #[stV 0 0 0 0 0, .int .i64 2]) := by
  have i0 := sIdx0 (l + c + r + q) l c r q
  have i1 := sIdx1 (l + c + r + q) l c r q
  have i2 := sIdx2 (l + c + r + q) l c r q
  have i3 := sIdx3 (l + c + r + q) l c r q
  have i4 := sIdx4 (l + c + r + q) l c r q
  have j0 := cIdx0
  have j1 := cIdx1
  have j2 := cIdx2
  have j3 := cIdx3
  have j4 := cIdx4
  have e0 := pair_no (a := 0) (b := 1) hch (by decide)
  have e1 := pair_no (a := 1) (b := 2) hch (by decide)
  have e2 := pair_no (a := 2) (b := 2) hch (by decide)
  have e3 := pair_no (a := 2) (b := 3) hch (by decide)
  have e4 := pair_no (a := 2) (b := 4) hch (by decide)
  clear hch
  go_enter Tryz.func11, Tryz.ntmps11
  go_wp2
  go_rounds 6
  go_rounds 6
  go_returns
  exact ⟨rfl, by go_grown⟩
end Go.Proofs.YtkjpdciccablpaaGreatDoor
