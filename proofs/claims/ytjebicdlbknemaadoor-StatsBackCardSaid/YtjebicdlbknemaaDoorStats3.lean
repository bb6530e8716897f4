/- The contracts of stats.Used and stats.Add. -/
import Derived.Test.YtjebicdlbknemaaDoorStats2
namespace Go.Proofs.YtjebicdlbknemaaDoor
open Go.RowKit

set_option maxHeartbeats 2000000 in
theorem used_ok (o l c r q : Int) (w : World) (h : sOk o l c r q = true) : Ret 9 #[stV o l c r q] w (.tuple #[.int .i64 (o - r), .int .i64 0]) := by
  have hk := fun w => check_ok o l c r q w h
  have HK := Lib.hid hk
  unfold sOk at h
  rw [decide_eq_true_iff] at h
  obtain ⟨o0, o1, l0, l1, c0, c1, r0, r1, q0, q1, hs⟩ := h
  clear hk hs
  go_enter Tryd.func9, Tryd.ntmps9
  go_wp2_with fail
  refine Calls.mono (HK.out _) ?_
  rintro e w1 ⟨rfl, hb1⟩
  obtain ⟨k1, f1⟩ := bcell hb1
  go_wp2_with fail
  go_returns
  exact ⟨rfl, off_alloc hb1⟩
set_option maxHeartbeats 2000000 in
theorem used_bad (o l c r q : Int) (w : World) (h : sOk o l c r q = false) : Ret 9 #[stV o l c r q] w (.tuple #[.int .i64 0, .int .i64 2]) := by
  have hk := fun w => check_bad o l c r q w h
  have HK := Lib.hid hk
  clear hk h
  go_enter Tryd.func9, Tryd.ntmps9
  go_wp2_with fail
  refine Calls.mono (HK.out _) ?_
  rintro e w1 ⟨rfl, hb1⟩
  go_wp2_with fail
  go_returns
  exact ⟨rfl, off_alloc hb1⟩

end Go.Proofs.YtjebicdlbknemaaDoor
