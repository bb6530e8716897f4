/- The chapter's examples hold: 'works' of the statements of chapter 37. -/
import Derived.Test.YtkjpdciccablpaaGreatDoorL0a
import Derived.Test.YtkjpdciccablpaaGreatDoorL2a
import Derived.Test.YtkjpdciccablpaaGreatDoorHStats3a
import Derived.Test.YtkjpdciccablpaaGreatDoorHStats3b
import Derived.Test.YtkjpdciccablpaaGreatDoorHStats3c
import Derived.Test.YtkjpdciccablpaaGreatDoorHStats3d
import Derived.Test.YtkjpdciccablpaaGreatDoorHStTab3
namespace Go.Proofs.YtkjpdciccablpaaGreatDoor
open Go.RowKit

theorem wk1 (w : World) : Ret 11 #[stV 0 0 0 0 0, .int .i64 0, .int .i64 1] w (.tuple #[stV 1 1 0 0 0, .int .i64 0]) :=
  add_01 0 0 0 0 w (by omega) (by omega) (by omega) (by omega) (by omega) (by omega) (by omega) (by omega) (by omega)
theorem wk2 (w : World) : Ret 11 #[stV 1 1 0 0 0, .int .i64 1, .int .i64 2] w (.tuple #[stV 1 0 1 0 0, .int .i64 0]) :=
  add_12 1 0 0 0 w (by omega) (by omega) (by omega) (by omega) (by omega) (by omega) (by omega) (by omega) (by omega) (by omega)
theorem wk3 (w : World) : Ret 11 #[stV 1 0 1 0 0, .int .i64 2, .int .i64 2] w (.tuple #[stV 1 0 1 0 0, .int .i64 0]) :=
  add_22 0 1 0 0 w (by omega) (by omega) (by omega) (by omega) (by omega) (by omega) (by omega) (by omega) (by omega) (by omega)
theorem wk4 (w : World) : Ret 11 #[stV 1 0 1 0 0, .int .i64 2, .int .i64 3] w (.tuple #[stV 1 0 0 1 0, .int .i64 0]) :=
  add_23 0 1 0 0 w (by omega) (by omega) (by omega) (by omega) (by omega) (by omega) (by omega) (by omega) (by omega) (by omega)
theorem wk5 (w : World) : Ret 11 #[stV 1 0 0 1 0, .int .i64 1, .int .i64 2] w (.tuple #[stV 0 0 0 0 0, .int .i64 8]) :=
  add_s12 0 1 0 w (by omega) (by omega) (by omega) (by omega) (by omega) (by omega) (by omega)
theorem wk6 (w : World) : Ret 11 #[stV 1 1 0 0 0, .int .i64 1, .int .i64 3] w (.tuple #[stV 0 0 0 0 0, .int .i64 2]) :=
  add_nochg 1 0 0 0 1 3 w (by omega) (by omega) (by omega) (by omega) (by omega) (by omega) (by omega) (by omega) (by omega) (by decide)
theorem wk7 (w : World) : Ret 13 #[stV 5 2 0 3 0] w (.tuple #[.int .i64 2, .int .i64 0]) := used_ok 5 2 0 3 0 w (by decide)
theorem dec_1 : Lib.itoa 1 = [49] := by rw [show (1 : Int) = ((1 : Nat) : Int) from rfl, Lib.itoa_nonneg, decDigits_step]; decide
theorem dec_4 : Lib.itoa 4 = [52] := by rw [show (4 : Int) = ((4 : Nat) : Int) from rfl, Lib.itoa_nonneg, decDigits_step]; decide
theorem wk8 (w : World) (hE : Env w) : Ret 24 #[stV 4 1 1 1 1] w (.tuple #[.string ⟨#[111, 112, 101, 110, 101, 100, 32, 52, 32, 108, 105, 118, 101, 32, 49, 32, 99, 108, 111, 115, 105, 110, 103, 32, 49, 32, 114, 101, 108, 101, 97, 115, 101, 100, 32, 49, 32, 113, 117, 97, 114, 97, 110, 116, 105, 110, 101, 100, 32, 49]⟩, .int .i64 0]) := by
  have h := text_ok 4 1 1 1 1 w hE (by decide)
  have e : sText 4 1 1 1 1 = ⟨#[111, 112, 101, 110, 101, 100, 32, 52, 32, 108, 105, 118, 101, 32, 49, 32, 99, 108, 111, 115, 105, 110, 103, 32, 49, 32, 114, 101, 108, 101, 97, 115, 101, 100, 32, 49, 32, 113, 117, 97, 114, 97, 110, 116, 105, 110, 101, 100, 32, 49]⟩ := by
    simp [sText, sItems, sCnt, sWord, dec_1, dec_4, Lib.join, List.intercalate]
  rw [e] at h
  exact h
theorem wk9 (w : World) : Ret 12 #[stV 2 1 0 0 0] w (.int .i64 2) := check_bad 2 1 0 0 0 w (by decide)
set_option maxHeartbeats 8000000 in
set_option maxRecDepth 20000 in
theorem works (w : World) (hE : Env w) : Ret 10 #[] w (.bool true) := by
  have hE0 := hE
  have hc0 := Below.refl w.heap.size w
  clear hE
  go_enter Tryz.func10, Tryz.ntmps10
  go_wp2_with fail
  refine Calls.mono (wk1 _) ?_
  rintro e w1 ⟨rfl, hb1⟩
  obtain ⟨k1, f1⟩ := bcell hb1
  have hE1 := hE0.on (under hb1)
  have hc1 := chain hc0 (under hb1)
  clear hE0 hc0 hb1
  go_wp2_with fail
  refine Calls.mono (wk2 _) ?_
  rintro e w2 ⟨rfl, hb2⟩
  obtain ⟨k2, f2⟩ := bcell hb2
  have hE2 := hE1.on (under hb2)
  have hc2 := chain hc1 (under hb2)
  have z2_0 : w1.heap.size < w2.heap.size := by have := hb2.size; (try simp at this); omega
  clear hE1 hc1 hb2
  go_wp2_with fail
  refine Calls.mono (wk3 _) ?_
  rintro e w3 ⟨rfl, hb3⟩
  obtain ⟨k3, f3⟩ := bcell hb3
  have hE3 := hE2.on (under hb3)
  have hc3 := chain hc2 (under hb3)
  have z3_0 : w1.heap.size < w3.heap.size := by have := hb3.size; (try simp at this); omega
  have z3_1 : w2.heap.size < w3.heap.size := by have := hb3.size; (try simp at this); omega
  clear hE2 hc2 hb3
  go_wp2_with fail
  refine Calls.mono (wk4 _) ?_
  rintro e w4 ⟨rfl, hb4⟩
  obtain ⟨k4, f4⟩ := bcell hb4
  have hE4 := hE3.on (under hb4)
  have hc4 := chain hc3 (under hb4)
  have z4_0 : w1.heap.size < w4.heap.size := by have := hb4.size; (try simp at this); omega
  have z4_1 : w2.heap.size < w4.heap.size := by have := hb4.size; (try simp at this); omega
  have z4_2 : w3.heap.size < w4.heap.size := by have := hb4.size; (try simp at this); omega
  clear hE3 hc3 hb4
  go_wp2_with fail
  refine Calls.mono (wk5 _) ?_
  rintro e w5 ⟨rfl, hb5⟩
  obtain ⟨k5, f5⟩ := bcell hb5
  have hE5 := hE4.on (under hb5)
  have hc5 := chain hc4 (under hb5)
  have z5_0 : w1.heap.size < w5.heap.size := by have := hb5.size; (try simp at this); omega
  have z5_1 : w2.heap.size < w5.heap.size := by have := hb5.size; (try simp at this); omega
  have z5_2 : w3.heap.size < w5.heap.size := by have := hb5.size; (try simp at this); omega
  have z5_3 : w4.heap.size < w5.heap.size := by have := hb5.size; (try simp at this); omega
  clear hE4 hc4 hb5
  go_wp2_with fail
  refine Calls.mono (wk6 _) ?_
  rintro e w6 ⟨rfl, hb6⟩
  obtain ⟨k6, f6⟩ := bcell hb6
  have hE6 := hE5.on (under hb6)
  have hc6 := chain hc5 (under hb6)
  have z6_0 : w1.heap.size < w6.heap.size := by have := hb6.size; (try simp at this); omega
  have z6_1 : w2.heap.size < w6.heap.size := by have := hb6.size; (try simp at this); omega
  have z6_2 : w3.heap.size < w6.heap.size := by have := hb6.size; (try simp at this); omega
  have z6_3 : w4.heap.size < w6.heap.size := by have := hb6.size; (try simp at this); omega
  clear hE5 hc5 hb6
  go_wp2_with fail
  refine Calls.mono (wk7 _) ?_
  rintro e w7 ⟨rfl, hb7⟩
  obtain ⟨k7, f7⟩ := bcell hb7
  have hE7 := hE6.on (under hb7)
  have hc7 := chain hc6 (under hb7)
  have z7_0 : w1.heap.size < w7.heap.size := by have := hb7.size; (try simp at this); omega
  have z7_1 : w2.heap.size < w7.heap.size := by have := hb7.size; (try simp at this); omega
  have z7_2 : w3.heap.size < w7.heap.size := by have := hb7.size; (try simp at this); omega
  have z7_3 : w4.heap.size < w7.heap.size := by have := hb7.size; (try simp at this); omega
  clear hE6 hc6 hb7
  go_wp2_with fail
  refine Calls.mono (wk8 _ hE7) ?_
  rintro e w8 ⟨rfl, hb8⟩
  obtain ⟨k8, f8⟩ := bcell hb8
  have hc8 := chain hc7 hb8
  have z8_0 : w1.heap.size < w8.heap.size := by have := hb8.size; omega
  have z8_1 : w2.heap.size < w8.heap.size := by have := hb8.size; omega
  have z8_2 : w3.heap.size < w8.heap.size := by have := hb8.size; omega
  have z8_3 : w4.heap.size < w8.heap.size := by have := hb8.size; omega
  clear hE7 hc7 hb8
  go_wp2_with fail
  refine Calls.mono (tabNew _) ?_
  rintro e w9 ⟨M, rfl, hM, hb9⟩
  obtain ⟨k9, f9⟩ := bcell hb9
  have hc9 := chain hc8 hb9
  have z9_0 : w1.heap.size < w9.heap.size := by have := hb9.size; omega
  have z9_1 : w2.heap.size < w9.heap.size := by have := hb9.size; omega
  have z9_2 : w3.heap.size < w9.heap.size := by have := hb9.size; omega
  have z9_3 : w4.heap.size < w9.heap.size := by have := hb9.size; omega
  clear hc8 hb9
  have HM := Lib.hid hM
  clear hM
  go_wp2_with fail
  refine Calls.mono (of_new _ M HM.out) ?_
  rintro e w10 ⟨rfl, hb10⟩
  obtain ⟨k10, f10⟩ := bcell hb10
  have hc10 := chain hc9 hb10
  have z10_0 : w1.heap.size < w10.heap.size := by have := hb10.size; omega
  have z10_1 : w2.heap.size < w10.heap.size := by have := hb10.size; omega
  have z10_2 : w3.heap.size < w10.heap.size := by have := hb10.size; omega
  have z10_3 : w4.heap.size < w10.heap.size := by have := hb10.size; omega
  clear hc9 hb10
  go_wp2_with fail
  refine Calls.mono (wk9 _) ?_
  rintro e w11 ⟨rfl, hb11⟩
  have hc11 := chain hc10 (under hb11)
  clear hc10 hb11
  go_wp2_with fail
  go_returns
  exact ⟨rfl, hc11⟩
end Go.Proofs.YtkjpdciccablpaaGreatDoor
