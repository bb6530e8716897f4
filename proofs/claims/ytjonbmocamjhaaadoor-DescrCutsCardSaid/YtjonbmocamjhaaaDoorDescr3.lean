/- Contracts of package descr: Check, Pack, Unpack, Text, CheckOuter, OuterText. -/
import Derived.Test.YtjonbmocamjhaaaDoorDescr2
import Derived.Laws.BitsAllLaws
namespace Go.Proofs.YtjonbmocamjhaaaDoor
open Go.RowKit
open Go.Lib (decDigits)

set_option maxHeartbeats 2000000 in
theorem d_check (k s g : Int) (w : World) (g0 : 0 ≤ g) (g1 : g ≤ 4294967295) : Ret 17 #[dV k s g] w (.int .i64 (dErr 256 k s g)) := by
  have hk := fun w => nm_check 256 k s g w g0 g1
  generalize dErr 256 k s g = v at hk
  have HK := Lib.hid hk
  clear hk
  go_enter Tryd.func17, Tryd.ntmps17
  go_wp2_with (first | (go_at_call 35; refine (HK.out _).mono ?_; rintro e w1 ⟨rfl, hb1⟩) | go_in)
  go_returns
  exact ⟨rfl, under hb1⟩
theorem o_check (k s g : Int) (w : World) (g0 : 0 ≤ g) (g1 : g ≤ 4294967295) : Ret 28 #[dV k s g] w (.int .i64 (dErr 64 k s g)) := by
  have hk := fun w => nm_check 64 k s g w g0 g1
  generalize dErr 64 k s g = v at hk
  have HK := Lib.hid hk
  clear hk
  go_enter Tryd.func28, Tryd.ntmps28
  go_wp2_with (first | (go_at_call 35; refine (HK.out _).mono ?_; rintro e w1 ⟨rfl, hb1⟩) | go_in)
  go_returns
  exact ⟨rfl, under hb1⟩
set_option maxHeartbeats 2000000 in
theorem d_text_ok (k s g : Int) (w : World) (hE : Env w) (h : dOk 256 k s g = true) (g0 : 0 ≤ g) (g1 : g ≤ 4294967295) : Ret 20 #[dV k s g] w (.tuple #[.string (dText 46 k s g), .int .i64 0]) := by
  have hk := fun w => d_check k s g w g0 g1
  rw [dErr_ok h] at hk
  rw [dOk_iff] at h
  have ht := fun w hE => nm_text 46 k s g w hE h.1 h.2.1 h.2.2.1 (by omega) g0 g1
  generalize dText 46 k s g = v at ht
  have HK := Lib.hid hk
  have HT := Lib.hid ht
  clear hk h ht
  go_enter Tryd.func20, Tryd.ntmps20
  go_wp2_with fail
  refine (HK.out _).mono ?_
  rintro e w1 ⟨rfl, hb1⟩
  obtain ⟨k1, f1⟩ := bcell hb1
  go_wp2_with (first | (go_at_call 36; refine (HT.out _ ?_).mono ?_; exact (hE.on (under hb1)).on (by go_grown); rintro e w2 ⟨rfl, hb2⟩) | go_in)
  go_returns
  exact ⟨rfl, chain (under hb1) (under hb2)⟩
theorem d_text_bad (k s g : Int) (w : World) (h : dOk 256 k s g = false) (g0 : 0 ≤ g) (g1 : g ≤ 4294967295) : Ret 20 #[dV k s g] w (.tuple #[.string ⟨#[]⟩, .int .i64 2]) := by
  have hk := fun w => d_check k s g w g0 g1
  rw [dErr_bad h] at hk
  have HK := Lib.hid hk
  clear hk h
  go_enter Tryd.func20, Tryd.ntmps20
  go_wp2_with fail
  refine (HK.out _).mono ?_
  rintro e w1 ⟨rfl, hb1⟩
  go_wp2_with fail
  go_returns
  exact ⟨rfl, under hb1⟩
set_option maxHeartbeats 2000000 in
theorem o_text_ok (k s g : Int) (w : World) (hE : Env w) (h : dOk 64 k s g = true) (g0 : 0 ≤ g) (g1 : g ≤ 4294967295) : Ret 24 #[dV k s g] w (.tuple #[.string (dText 58 k s g), .int .i64 0]) := by
  have hk := fun w => o_check k s g w g0 g1
  rw [dErr_ok h] at hk
  rw [dOk_iff] at h
  have ht := fun w hE => nm_text 58 k s g w hE h.1 h.2.1 h.2.2.1 (by omega) g0 g1
  generalize dText 58 k s g = v at ht
  have HK := Lib.hid hk
  have HT := Lib.hid ht
  clear hk h ht
  go_enter Tryd.func24, Tryd.ntmps24
  go_wp2_with fail
  refine (HK.out _).mono ?_
  rintro e w1 ⟨rfl, hb1⟩
  obtain ⟨k1, f1⟩ := bcell hb1
  go_wp2_with (first | (go_at_call 36; refine (HT.out _ ?_).mono ?_; exact (hE.on (under hb1)).on (by go_grown); rintro e w2 ⟨rfl, hb2⟩) | go_in)
  go_returns
  exact ⟨rfl, chain (under hb1) (under hb2)⟩
theorem o_text_bad (k s g : Int) (w : World) (h : dOk 64 k s g = false) (g0 : 0 ≤ g) (g1 : g ≤ 4294967295) : Ret 24 #[dV k s g] w (.tuple #[.string ⟨#[]⟩, .int .i64 2]) := by
  have hk := fun w => o_check k s g w g0 g1
  rw [dErr_bad h] at hk
  have HK := Lib.hid hk
  clear hk h
  go_enter Tryd.func24, Tryd.ntmps24
  go_wp2_with fail
  refine (HK.out _).mono ?_
  rintro e w1 ⟨rfl, hb1⟩
  go_wp2_with fail
  go_returns
  exact ⟨rfl, under hb1⟩
theorem or_parts (k s g : Nat) (h1 : k ≤ 3) (h2 : s < 256) (h3 : g ≤ 4294967295) :
    bits .or .u64 (bits .or .u64 ((k : Int) * 1099511627776) ((s : Int) * 4294967296)) (g : Int) = dNum k s g := by
  have e1 : k * 1099511627776 ||| s * 4294967296 = k * 1099511627776 + s * 4294967296 := by
    have := Nat.two_pow_add_eq_or_of_lt (i := 40) (b := s * 4294967296) (by omega) k
    rw [show (2 : Nat) ^ 40 = 1099511627776 by decide, Nat.mul_comm] at this
    exact this.symm
  have e2 : (k * 1099511627776 + s * 4294967296) ||| g = k * 1099511627776 + s * 4294967296 + g := by
    have := Nat.two_pow_add_eq_or_of_lt (i := 32) (b := g) (by omega) (k * 256 + s)
    rw [show (2 : Nat) ^ 32 * (k * 256 + s) = k * 1099511627776 + s * 4294967296 by omega] at this
    exact this.symm
  have c1 : ((k : Int) * 1099511627776) = ((k * 1099511627776 : Nat) : Int) := by omega
  have c2 : ((s : Int) * 4294967296) = ((s * 4294967296 : Nat) : Int) := by omega
  rw [c1, c2, u64_or_nat _ _ (by omega) (by omega), e1, u64_or_nat _ _ (by omega) (by omega), e2]
  unfold dNum
  omega
set_option maxHeartbeats 2000000 in
theorem pack_ok (k s g : Int) (w : World) (h : dOk 256 k s g = true) (g0 : 0 ≤ g) (g1 : g ≤ 4294967295) : Ret 13 #[dV k s g] w (.tuple #[.int .u64 (dNum k s g), .int .i64 0]) := by
  have hk := fun w => d_check k s g w g0 g1
  rw [dErr_ok h] at hk
  rw [dOk_iff] at h
  obtain ⟨k1, k3, s0, s1, _⟩ := h
  have HK := Lib.hid hk
  clear hk
  go_enter Tryd.func13, Tryd.ntmps13
  go_wp2_with fail
  refine (HK.out _).mono ?_
  rintro e w1 ⟨rfl, hb1⟩
  obtain ⟨q1, f1⟩ := bcell hb1
  go_wp2_with fail
  go_returns
  refine ⟨?_, under hb1⟩
  obtain ⟨K, rfl⟩ := Int.eq_ofNat_of_zero_le (show 0 ≤ k by omega)
  obtain ⟨S, rfl⟩ := Int.eq_ofNat_of_zero_le s0
  obtain ⟨G, rfl⟩ := Int.eq_ofNat_of_zero_le g0
  have e := or_parts K S G (by omega) (by omega) (by omega)
  rw [← e]
  rfl
theorem pack_bad (k s g : Int) (w : World) (h : dOk 256 k s g = false) (g0 : 0 ≤ g) (g1 : g ≤ 4294967295) : Ret 13 #[dV k s g] w (.tuple #[.int .u64 0, .int .i64 2]) := by
  have hk := fun w => d_check k s g w g0 g1
  rw [dErr_bad h] at hk
  have HK := Lib.hid hk
  clear hk h
  go_enter Tryd.func13, Tryd.ntmps13
  go_wp2_with fail
  refine (HK.out _).mono ?_
  rintro e w1 ⟨rfl, hb1⟩
  go_wp2_with fail
  go_returns
  exact ⟨rfl, under hb1⟩
theorem un_parts (n : Int) (n0 : 0 ≤ n) (n1 : n ≤ 18446744073709551615) : wrap64 (n / 1099511627776) = n / 1099511627776 ∧ wrap64 (bits .and .u64 (n / 4294967296) 255) = n / 4294967296 % 256 := by
  have h : bits .and .u64 (n / 4294967296) 255 = n / 4294967296 % 256 := by
    rw [u64_and _ _ (by omega) (by omega) (by omega) (by omega)]
    rw [show ((255 : Int).toNat) = 2 ^ 8 - 1 by decide, Nat.and_two_pow_sub_one_eq_mod]
    omega
  rw [h]
  unfold wrap64
  omega
def unV (n : Int) : Value := if dOk 256 (n / 1099511627776) (n / 4294967296 % 256) (n % 4294967296) then dV (n / 1099511627776) (n / 4294967296 % 256) (n % 4294967296) else dV 0 0 0
set_option maxHeartbeats 2000000 in
theorem unpack_ok (n : Int) (w : World) (n0 : 0 ≤ n) (n1 : n ≤ 18446744073709551615) (h : dOk 256 (n / 1099511627776) (n / 4294967296 % 256) (n % 4294967296) = true) :
    Ret 15 #[.int .u64 n] w (.tuple #[dV (n / 1099511627776) (n / 4294967296 % 256) (n % 4294967296), .int .i64 0]) := by
  have hk := fun w => d_check (n / 1099511627776) (n / 4294967296 % 256) (n % 4294967296) w (by omega) (by omega)
  rw [dErr_ok h] at hk
  obtain ⟨e1, e2⟩ := un_parts n n0 n1
  have HK := Lib.hid hk
  have N1 := Lib.hid n1
  clear hk h n1
  go_enter Tryd.func15, Tryd.ntmps15
  go_wp2_with fail
  clear e1 e2
  refine (HK.out _).mono ?_
  rintro e w1 ⟨rfl, hb1⟩
  obtain ⟨q1, f1⟩ := bcell hb1
  have c0 : w1.cell? ⟨w.heap.size, 0, none⟩ = some (.int .i64 0) := by rw [q1 _ _ (by simp; omega)]; simp
  have c1 : w1.cell? ⟨w.heap.size, 1, none⟩ = some (.int .i64 0) := by rw [q1 _ _ (by simp; omega)]; simp
  have c2 : w1.cell? ⟨w.heap.size, 2, none⟩ = some (.int .u32 0) := by rw [q1 _ _ (by simp; omega)]; simp
  have z : w.heap.size < w1.heap.size := by have := hb1.size; simp at this; omega
  go_wp2_with fail
  refine bodyPost_ret (v := .tuple #[dV (n / 1099511627776) (n / 4294967296 % 256) (n % 4294967296), .int .i64 0]) (by simp [results, Tryd.results15, go_sem, c0, c1, c2]) rfl ⟨rfl, ?_⟩
  repeat (refine Below.setCell ?_ (by simp) _)
  exact under hb1
set_option maxHeartbeats 2000000 in
theorem unpack_bad (n : Int) (w : World) (n0 : 0 ≤ n) (n1 : n ≤ 18446744073709551615) (h : dOk 256 (n / 1099511627776) (n / 4294967296 % 256) (n % 4294967296) = false) :
    Ret 15 #[.int .u64 n] w (.tuple #[dV 0 0 0, .int .i64 2]) := by
  have hk := fun w => d_check (n / 1099511627776) (n / 4294967296 % 256) (n % 4294967296) w (by omega) (by omega)
  rw [dErr_bad h] at hk
  obtain ⟨e1, e2⟩ := un_parts n n0 n1
  have HK := Lib.hid hk
  have N1 := Lib.hid n1
  clear hk h n1
  go_enter Tryd.func15, Tryd.ntmps15
  go_wp2_with fail
  clear e1 e2
  refine (HK.out _).mono ?_
  rintro e w1 ⟨rfl, hb1⟩
  obtain ⟨q1, f1⟩ := bcell hb1
  have c0 : w1.cell? ⟨w.heap.size, 0, none⟩ = some (.int .i64 0) := by rw [q1 _ _ (by simp; omega)]; simp
  have c1 : w1.cell? ⟨w.heap.size, 1, none⟩ = some (.int .i64 0) := by rw [q1 _ _ (by simp; omega)]; simp
  have c2 : w1.cell? ⟨w.heap.size, 2, none⟩ = some (.int .u32 0) := by rw [q1 _ _ (by simp; omega)]; simp
  have z : w.heap.size < w1.heap.size := by have := hb1.size; simp at this; omega
  go_wp2_with fail
  refine bodyPost_ret (v := .tuple #[dV 0 0 0, .int .i64 2]) (by simp [results, Tryd.results15, go_sem, c0, c1, c2]) rfl ⟨rfl, ?_⟩
  repeat (refine Below.setCell ?_ (by simp) _)
  exact under hb1
end Go.Proofs.YtjonbmocamjhaaaDoor
