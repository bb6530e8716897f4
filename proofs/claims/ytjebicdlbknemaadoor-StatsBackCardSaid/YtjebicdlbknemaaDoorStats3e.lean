/- stats.Add: what is refused. -/
import Derived.Test.YtjebicdlbknemaaDoorStats2
namespace Go.Proofs.YtjebicdlbknemaaDoor
open Go.RowKit

set_option maxHeartbeats 8000000 in
set_option maxRecDepth 20000 in
theorem add_bad (o l c r q f t : Int) (w : World) (h : sOk o l c r q = false) :
    Ret 11 #[stV o l c r q, .int .i64 f, .int .i64 t] w (.tuple #[stV 0 0 0 0 0, .int .i64 2]) := by
  have hk := fun w => check_bad o l c r q w h
  have HK := Lib.hid hk
  clear hk h
  go_enter Tryd.func11, Tryd.ntmps11
  go_wp2_with (go_at_call 27; go_in)
  go_wp2_with fail
  refine Calls.mono (HK.out _) ?_
  rintro e w1 ⟨rfl, hb1⟩
  have hB1 := hb1
  clear hb1
  obtain ⟨k1, f1⟩ := bcell hB1
  have z1_0 : w.heap.size < w1.heap.size := by have := hB1.size; simp at this; omega
  have z1_1 : w.heap.size + 1 < w1.heap.size := by have := hB1.size; simp at this; omega
  have z1_2 : w.heap.size + 1 + 1 < w1.heap.size := by have := hB1.size; simp at this; omega
  have z1_3 : w.heap.size + 1 + 1 + 1 < w1.heap.size := by have := hB1.size; simp at this; omega
  have z1_4 : w.heap.size + 1 + 1 + 1 + 1 < w1.heap.size := by have := hB1.size; simp at this; omega
  go_wp2_with fail
  refine bodyPost_ret (v := .tuple #[stV 0 0 0 0 0, .int .i64 2]) (by simp [results, Tryd.results11, go_sem, k1]) rfl ⟨rfl, ?_⟩
  repeat (refine Below.setCell ?_ (by simp) _)
  exact off_alloc (off_alloc (off_alloc (off_alloc (off_alloc hB1))))
end Go.Proofs.YtjebicdlbknemaaDoor
