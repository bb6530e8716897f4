/- The references of chapter 05: Unpack, Order. -/
import Derived.Test.YtjonbmocamjhaaaDoorRefDescr1
namespace Go.Proofs.YtjonbmocamjhaaaDoor
open Go.RowKit

set_option maxHeartbeats 2000000 in
theorem runpack_ok (n : Int) (w : World) (n0 : 0 ≤ n) (h : dOk 256 (n / 1099511627776) (n / 4294967296 % 256) (n % 4294967296) = true) :
    Ret 16 #[.int .u64 n] w (.tuple #[dV (n / 1099511627776) (n / 4294967296 % 256) (n % 4294967296), .int .i64 0]) := by
  have hk := fun w => rd_check (n / 1099511627776) (n / 4294967296 % 256) (n % 4294967296) w (by omega)
  rw [dErr_ok h] at hk
  have hn : n < 4398046511104 := by have := (dOk_iff.1 h).2.1; omega
  have e1 : IntKind.i64.wrap (n / 1099511627776) = n / 1099511627776 := by rw [IntKind.wrap_i64]; omega
  have e2 : IntKind.i64.wrap (n / 4294967296 % 256) = n / 4294967296 % 256 := by rw [IntKind.wrap_i64]; omega
  have e3 : IntKind.u32.wrap (n % 4294967296) = n % 4294967296 := by rw [IntKind.wrap_u32]; omega
  have HK := Lib.hid hk
  clear hk h
  go_enter Tryd.func16, Tryd.ntmps16
  go_wp2_with fail
  clear e1 e2 e3
  refine (HK.out _).mono ?_
  rintro e w1 ⟨rfl, hb1⟩
  obtain ⟨q1, f1⟩ := bcell hb1
  have z : w.heap.size < w1.heap.size := by have := hb1.size; simp at this; omega
  have c0 : w1.cell? ⟨w.heap.size, 0, none⟩ = some (.int .i64 0) := by rw [q1 _ _ (by simp; omega)]; simp
  have c1 : w1.cell? ⟨w.heap.size, 1, none⟩ = some (.int .i64 0) := by rw [q1 _ _ (by simp; omega)]; simp
  have c2 : w1.cell? ⟨w.heap.size, 2, none⟩ = some (.int .u32 0) := by rw [q1 _ _ (by simp; omega)]; simp
  go_wp2_with fail
  refine bodyPost_ret (v := .tuple #[dV (n / 1099511627776) (n / 4294967296 % 256) (n % 4294967296), .int .i64 0]) (by simp [results, Tryd.results16, go_sem, c0, c1, c2]) rfl ⟨rfl, ?_⟩
  repeat (refine Below.setCell ?_ (by simp) _)
  exact under hb1
set_option maxHeartbeats 2000000 in
theorem runpack_bad (n : Int) (w : World) (n0 : 0 ≤ n) (n1 : n ≤ 18446744073709551615) (h : dOk 256 (n / 1099511627776) (n / 4294967296 % 256) (n % 4294967296) = false) :
    Ret 16 #[.int .u64 n] w (.tuple #[dV 0 0 0, .int .i64 2]) := by
  have hk := fun w => rd_check (n / 1099511627776) (n / 4294967296 % 256) (n % 4294967296) w (by omega)
  rw [dErr_bad h] at hk
  by_cases hn : n < 4398046511104
  · have e1 : IntKind.i64.wrap (n / 1099511627776) = n / 1099511627776 := by rw [IntKind.wrap_i64]; omega
    have e2 : IntKind.i64.wrap (n / 4294967296 % 256) = n / 4294967296 % 256 := by rw [IntKind.wrap_i64]; omega
    have e3 : IntKind.u32.wrap (n % 4294967296) = n % 4294967296 := by rw [IntKind.wrap_u32]; omega
    have HK := Lib.hid hk
    clear hk h n1
    go_enter Tryd.func16, Tryd.ntmps16
    go_wp2_with fail
    clear e1 e2 e3
    refine (HK.out _).mono ?_
    rintro e w1 ⟨rfl, hb1⟩
    obtain ⟨q1, f1⟩ := bcell hb1
    have z : w.heap.size < w1.heap.size := by have := hb1.size; simp at this; omega
    have c0 : w1.cell? ⟨w.heap.size, 0, none⟩ = some (.int .i64 0) := by rw [q1 _ _ (by simp; omega)]; simp
    have c1 : w1.cell? ⟨w.heap.size, 1, none⟩ = some (.int .i64 0) := by rw [q1 _ _ (by simp; omega)]; simp
    have c2 : w1.cell? ⟨w.heap.size, 2, none⟩ = some (.int .u32 0) := by rw [q1 _ _ (by simp; omega)]; simp
    go_wp2_with fail
    refine bodyPost_ret (v := .tuple #[dV 0 0 0, .int .i64 2]) (by simp [results, Tryd.results16, go_sem, c0, c1, c2]) rfl ⟨rfl, ?_⟩
    repeat (refine Below.setCell ?_ (by simp) _)
    exact under hb1
  · have hn' : 4398046511104 ≤ n := by omega
    clear hk h hn
    go_enter Tryd.func16, Tryd.ntmps16
    go_wp2_with fail
    refine bodyPost_ret (v := .tuple #[dV 0 0 0, .int .i64 2]) (by simp [results, Tryd.results16, go_sem]) rfl ⟨rfl, ?_⟩
    go_grown
theorem dOrd_k {k s g k' s' g' : Int} (h : k < k') : dOrd k s g k' s' g' = -1 := by unfold dOrd; rw [cmpI_lt h]; rfl
theorem dOrd_k' {k s g k' s' g' : Int} (h : k' < k) : dOrd k s g k' s' g' = 1 := by unfold dOrd; rw [cmpI_gt h]; rfl
theorem dOrd_s {k s g s' g' : Int} (h : s < s') : dOrd k s g k s' g' = -1 := by unfold dOrd; rw [cmpI_eq, cmpI_lt h]; rfl
theorem dOrd_s' {k s g s' g' : Int} (h : s' < s) : dOrd k s g k s' g' = 1 := by unfold dOrd; rw [cmpI_eq, cmpI_gt h]; rfl
theorem dOrd_g {k s g g' : Int} (h : g < g') : dOrd k s g k s g' = -1 := by unfold dOrd; rw [cmpI_eq, cmpI_eq, cmpI_lt h]; rfl
theorem dOrd_g' {k s g g' : Int} (h : g' < g) : dOrd k s g k s g' = 1 := by unfold dOrd; rw [cmpI_eq, cmpI_eq, cmpI_gt h]; rfl
theorem dOrd_eq {k s g : Int} : dOrd k s g k s g = 0 := by unfold dOrd; rw [cmpI_eq, cmpI_eq, cmpI_eq]; rfl
set_option maxHeartbeats 4000000 in
theorem rorder_c (k s g k' s' g' : Int) (w : World) : Ret 31 #[dV k s g, dV k' s' g'] w (.int .i64 (dOrd k s g k' s' g')) := by
  have h7 : k < k' ∨ k' < k ∨ (k = k' ∧ (s < s' ∨ s' < s ∨ (s = s' ∧ (g < g' ∨ g' < g ∨ g = g')))) := by omega
  rcases h7 with h | h | ⟨rfl, h | h | ⟨rfl, h | h | rfl⟩⟩
  · rw [dOrd_k h]
    go_enter Tryd.func31, Tryd.ntmps31
    go_wp2
    go_returns
    exact ⟨rfl, by go_grown⟩
  · rw [dOrd_k' h]
    have e : (k == k') = false := by rw [beq_eq_false_iff_ne]; omega
    go_enter Tryd.func31, Tryd.ntmps31
    go_wp2
    go_returns
    exact ⟨rfl, by go_grown⟩
  · rw [dOrd_s h]
    go_enter Tryd.func31, Tryd.ntmps31
    go_wp2
    go_returns
    exact ⟨rfl, by go_grown⟩
  · rw [dOrd_s' h]
    have e : (s == s') = false := by rw [beq_eq_false_iff_ne]; omega
    go_enter Tryd.func31, Tryd.ntmps31
    go_wp2
    go_returns
    exact ⟨rfl, by go_grown⟩
  · rw [dOrd_g h]
    go_enter Tryd.func31, Tryd.ntmps31
    go_wp2
    go_returns
    exact ⟨rfl, by go_grown⟩
  · rw [dOrd_g' h]
    have e : (g == g') = false := by rw [beq_eq_false_iff_ne]; omega
    go_enter Tryd.func31, Tryd.ntmps31
    go_wp2
    go_returns
    exact ⟨rfl, by go_grown⟩
  · rw [dOrd_eq]
    go_enter Tryd.func31, Tryd.ntmps31
    go_wp2
    go_returns
    exact ⟨rfl, by go_grown⟩
end Go.Proofs.YtjonbmocamjhaaaDoor
