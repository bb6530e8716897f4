/- The reference's Add: what is refused. -/
import Derived.Test.YtjebicdlbknemaaDoorStats4
namespace Go.Proofs.YtjebicdlbknemaaDoor
open Go.RowKit

set_option maxHeartbeats 8000000 in
set_option maxRecDepth 20000 in
theorem radd_over (o l c r q : Int) (w : World) (l0 : 0 ≤ l) (l1 : l ≤ 10000) (c0 : 0 ≤ c) (c1 : c ≤ 10000) (r0 : 0 ≤ r) (r1 : r ≤ 10000) (q0 : 0 ≤ q) (q1 : q ≤ 10000) (ho : l + c + r + q = o) (e0 : (o == 10000) = true) :
    Ret 12 #[stV o l c r q, .int .i64 0, .int .i64 1] w (.tuple #[stV 0 0 0 0 0, .int .i64 17]) := by
  have o1 : o ≤ 10000 := by rw [beq_iff_eq] at e0; omega
  have o0 : 0 ≤ o := by omega
  go_enter Tryd.func12, Tryd.ntmps12
  go_wp2
  go_returns
  exact ⟨rfl, by go_grown⟩
set_option maxHeartbeats 2000000 in
theorem rchanges_no (f t : Int) (w : World) (h : chg f t = false) : Ret 30 #[.int .i64 f, .int .i64 t] w (.bool false) := by
  unfold chg at h
  rw [decide_eq_false_iff_not] at h
  by_cases h0 : f = 0
  · subst h0
    have e : (t == 1) = false := by rw [beq_eq_false_iff_ne]; omega
    clear h
    go_enter Tryd.func30, Tryd.ntmps30
    go_wp2
    go_returns
    exact ⟨rfl, by go_grown⟩
  · by_cases h1 : f = 1
    · subst h1
      have e : (t == 2) = false := by rw [beq_eq_false_iff_ne]; omega
      clear h h0
      go_enter Tryd.func30, Tryd.ntmps30
      go_wp2
      go_returns
      exact ⟨rfl, by go_grown⟩
    · have e0 : (f == 0) = false := by rw [beq_eq_false_iff_ne]; omega
      have e1 : (f == 1) = false := by rw [beq_eq_false_iff_ne]; omega
      by_cases h2 : f = 2
      · subst h2
        have ht : t < 2 ∨ 4 < t := by omega
        clear h h0 h1 e0 e1
        rcases ht with ht | ht
        all_goals
          have hd4 : 4 < t → decide (t ≤ 4) = false := by simp
          try have hd5 := hd4 ht
          clear hd4
          go_enter Tryd.func30, Tryd.ntmps30
          go_wp2
          go_returns
          exact ⟨rfl, by go_grown⟩
      · have e2 : (f == 2) = false := by rw [beq_eq_false_iff_ne]; omega
        clear h h0 h1 h2
        go_enter Tryd.func30, Tryd.ntmps30
        go_wp2
        go_returns
        exact ⟨rfl, by go_grown⟩
set_option maxHeartbeats 8000000 in
set_option maxRecDepth 20000 in
theorem radd_nochg (l c r q f t : Int) (w : World) (l0 : 0 ≤ l) (l1 : l ≤ 10000) (c0 : 0 ≤ c) (c1 : c ≤ 10000) (r0 : 0 ≤ r) (r1 : r ≤ 10000) (q0 : 0 ≤ q) (q1 : q ≤ 10000) (hm : l + c + r + q ≤ 10000) (hch : chg f t = false) :
    Ret 12 #[stV (l + c + r + q) l c r q, .int .i64 f, .int .i64 t] w (.tuple #[stV 0 0 0 0 0, .int .i64 2]) := by
  have hk := fun w => rchanges_no f t w hch
  have HK := Lib.hid hk
  have hj := fun w => rcheck_ok l c r q w l0 l1 c0 c1 r0 r1 q0 q1 hm
  have HJ := Lib.hid hj
  clear hk hch hj
  go_enter Tryd.func12, Tryd.ntmps12
  go_wp2_with fail
  refine Calls.mono (HJ.out _) ?_
  rintro e w1 ⟨rfl, hb1⟩
  have hB1 := hb1
  clear hb1
  obtain ⟨k1, f1⟩ := bcell hB1
  have z1_0 : w.heap.size < w1.heap.size := by have := hB1.size; simp at this; omega
  have z1_1 : w.heap.size + 1 < w1.heap.size := by have := hB1.size; simp at this; omega
  go_wp2_with fail
  refine Calls.mono (HK.out _) ?_
  rintro e w2 ⟨rfl, hb2⟩
  have hB2 := hB1.trans (hb2.mono hB1.size)
  clear hb2 hB1 k1 f1 z1_0 z1_1
  obtain ⟨k2, f2⟩ := bcell hB2
  have z2_0 : w.heap.size < w2.heap.size := by have := hB2.size; simp at this; omega
  have z2_1 : w.heap.size + 1 < w2.heap.size := by have := hB2.size; simp at this; omega
  go_wp2_with fail
  refine bodyPost_ret (v := .tuple #[stV 0 0 0 0 0, .int .i64 2]) (by simp [results, Tryd.results12, go_sem, k2]) rfl ⟨rfl, ?_⟩
  repeat (refine Below.setCell ?_ (by simp) _)
  exact off_alloc (off_alloc hB2)
set_option maxHeartbeats 8000000 in
set_option maxRecDepth 20000 in
theorem radd_bad (o l c r q f t : Int) (w : World) (h : sOk o l c r q = false) :
    Ret 12 #[stV o l c r q, .int .i64 f, .int .i64 t] w (.tuple #[stV 0 0 0 0 0, .int .i64 2]) := by
  have hk := fun w => rcheck_bad o l c r q w h
  have HK := Lib.hid hk
  clear hk h
  go_enter Tryd.func12, Tryd.ntmps12
  go_wp2_with fail
  refine Calls.mono (HK.out _) ?_
  rintro e w1 ⟨rfl, hb1⟩
  have hB1 := hb1
  clear hb1
  obtain ⟨k1, f1⟩ := bcell hB1
  have z1_0 : w.heap.size < w1.heap.size := by have := hB1.size; simp at this; omega
  have z1_1 : w.heap.size + 1 < w1.heap.size := by have := hB1.size; simp at this; omega
  go_wp2_with fail
  refine bodyPost_ret (v := .tuple #[stV 0 0 0 0 0, .int .i64 2]) (by simp [results, Tryd.results12, go_sem, k1]) rfl ⟨rfl, ?_⟩
  repeat (refine Below.setCell ?_ (by simp) _)
  exact off_alloc (off_alloc hB1)
end Go.Proofs.YtjebicdlbknemaaDoor
