/- The walk of DescrWrong. -/
import Derived.Test.YtjonbmocamjhaaaDoorLaw05c
namespace Go.Proofs.YtjonbmocamjhaaaDoor
open Go.RowKit
open Go.Lib (decDigits)
set_option linter.unusedVariables false
set_option linter.unusedSimpArgs false

theorem dOk_no {size k s g : Int} (h : ¬ (1 ≤ k ∧ k ≤ 3 ∧ 0 ≤ s ∧ s < size ∧ g ≠ 0)) : dOk size k s g = false := by unfold dOk; rwa [decide_eq_false_iff_not]
set_option maxHeartbeats 8000000 in
set_option maxRecDepth 20000 in
theorem wrong_0 (a s g b far K L G : Int) (w : World) (hE : EnvP w) (h : MadeIs a s g K L G) (s0 : 0 ≤ s) (s1 : s ≤ 255) (f0 : 0 ≤ far) (f1 : far ≤ 65535) (b0 : 0 ≤ b) (b1 : b ≤ 255) (hb : b % 5 = 0) :
    Ret 11 #[.int .u8 a, .int .u8 s, .int .u32 g, .int .u8 b, .int .u16 far] w (.bool true) := by
  have hE0 := hE
  have hc0 := Below.refl w.heap.size w
  obtain ⟨k1, k3, l0, l1, g1, gm, c1⟩ := h
  have hd : dOk 256 (4 + far) (s) (G) = false := dOk_no (by omega)
  have ho : dOk 64 (4 + far) (L) (G) = false := dOk_no (by omega)
  have c2 := fun w => pack_bad (4 + far) (s) (G) w hd (by omega) (by omega)
  have c3 := fun w => d_text_bad (4 + far) (s) (G) w hd (by omega) (by omega)
  have c4 := fun w => o_text_bad (4 + far) (L) (G) w ho (by omega) (by omega)
  have c5 := fun w => d_check (4 + far) (s) (G) w (by omega) (by omega)
  have c6 := fun w => o_check (4 + far) (L) (G) w (by omega) (by omega)
  rw [dErr_bad hd] at c5
  rw [dErr_bad ho] at c6
  have C1 := Lib.hid c1
  have C2 := Lib.hid c2
  have C3 := Lib.hid c3
  have C4 := Lib.hid c4
  have C5 := Lib.hid c5
  have C6 := Lib.hid c6
  clear hE c1 c2 c3 c4 c5 c6 hd ho
  go_enter Tryd.func11, Tryd.ntmps11
  go_wp2_with fail
  refine Calls.mono (C1.out _) ?_
  rintro e w1 ⟨rfl, hb1⟩
  obtain ⟨k1, f1⟩ := bcell hb1
  have hE1 := hE0.on (under hb1)
  have hc1 := chain hc0 (under hb1)
  clear hE0 hc0 hb1
  go_wp2_with fail
  refine Calls.mono (C2.out _) ?_
  rintro e w2 ⟨rfl, hb2⟩
  obtain ⟨k2, f2⟩ := bcell hb2
  have hE2 := hE1.on (under hb2)
  have hc2 := chain hc1 (under hb2)
  have z2_0 : w1.heap.size < w2.heap.size := by have := hb2.size; (try simp at this); omega
  have z2_1 : w1.heap.size+1 < w2.heap.size := by have := hb2.size; (try simp at this); omega
  clear hE1 hc1 hb2
  go_wp2_with fail
  refine Calls.mono (C3.out _) ?_
  rintro e w3 ⟨rfl, hb3⟩
  obtain ⟨k3, f3⟩ := bcell hb3
  have hE3 := hE2.on (under hb3)
  have hc3 := chain hc2 (under hb3)
  have z3_0 : w1.heap.size < w3.heap.size := by have := hb3.size; (try simp at this); omega
  have z3_1 : w1.heap.size+1 < w3.heap.size := by have := hb3.size; (try simp at this); omega
  clear hE2 hc2 hb3
  go_wp2_with fail
  refine Calls.mono (C4.out _) ?_
  rintro e w4 ⟨rfl, hb4⟩
  obtain ⟨k4, f4⟩ := bcell hb4
  have hE4 := hE3.on (under hb4)
  have hc4 := chain hc3 (under hb4)
  have z4_0 : w1.heap.size < w4.heap.size := by have := hb4.size; (try simp at this); omega
  have z4_1 : w1.heap.size+1 < w4.heap.size := by have := hb4.size; (try simp at this); omega
  clear hE3 hc3 hb4
  go_wp2_with fail
  refine Calls.mono (C5.out _) ?_
  rintro e w5 ⟨rfl, hb5⟩
  obtain ⟨k5, f5⟩ := bcell hb5
  have hE5 := hE4.on (under hb5)
  have hc5 := chain hc4 (under hb5)
  have z5_0 : w1.heap.size < w5.heap.size := by have := hb5.size; (try simp at this); omega
  have z5_1 : w1.heap.size+1 < w5.heap.size := by have := hb5.size; (try simp at this); omega
  clear hE4 hc4 hb5
  go_wp2_with fail
  refine Calls.mono (C6.out _) ?_
  rintro e w6 ⟨rfl, hb6⟩
  obtain ⟨k6, f6⟩ := bcell hb6
  have hE6 := hE5.on (under hb6)
  have hc6 := chain hc5 (under hb6)
  have z6_0 : w1.heap.size < w6.heap.size := by have := hb6.size; (try simp at this); omega
  have z6_1 : w1.heap.size+1 < w6.heap.size := by have := hb6.size; (try simp at this); omega
  clear hE5 hc5 hb6
  go_wp2_with fail
  refine (works _ hE6).mono ?_
  rintro e w7 ⟨rfl, hb7⟩
  go_wp2_with fail
  go_returns
  exact ⟨rfl, chain hc6 hb7⟩
set_option maxHeartbeats 8000000 in
set_option maxRecDepth 20000 in
theorem wrong_1 (a s g b far K L G : Int) (w : World) (hE : EnvP w) (h : MadeIs a s g K L G) (s0 : 0 ≤ s) (s1 : s ≤ 255) (f0 : 0 ≤ far) (f1 : far ≤ 65535) (b0 : 0 ≤ b) (b1 : b ≤ 255) (hb : b % 5 = 1) :
    Ret 11 #[.int .u8 a, .int .u8 s, .int .u32 g, .int .u8 b, .int .u16 far] w (.bool true) := by
  have hE0 := hE
  have hc0 := Below.refl w.heap.size w
  obtain ⟨k1, k3, l0, l1, g1, gm, c1⟩ := h
  have hd : dOk 256 (-far) (s) (G) = false := dOk_no (by omega)
  have ho : dOk 64 (-far) (L) (G) = false := dOk_no (by omega)
  have c2 := fun w => pack_bad (-far) (s) (G) w hd (by omega) (by omega)
  have c3 := fun w => d_text_bad (-far) (s) (G) w hd (by omega) (by omega)
  have c4 := fun w => o_text_bad (-far) (L) (G) w ho (by omega) (by omega)
  have c5 := fun w => d_check (-far) (s) (G) w (by omega) (by omega)
  have c6 := fun w => o_check (-far) (L) (G) w (by omega) (by omega)
  rw [dErr_bad hd] at c5
  rw [dErr_bad ho] at c6
  have C1 := Lib.hid c1
  have C2 := Lib.hid c2
  have C3 := Lib.hid c3
  have C4 := Lib.hid c4
  have C5 := Lib.hid c5
  have C6 := Lib.hid c6
  clear hE c1 c2 c3 c4 c5 c6 hd ho
  go_enter Tryd.func11, Tryd.ntmps11
  go_wp2_with fail
  refine Calls.mono (C1.out _) ?_
  rintro e w1 ⟨rfl, hb1⟩
  obtain ⟨k1, f1⟩ := bcell hb1
  have hE1 := hE0.on (under hb1)
  have hc1 := chain hc0 (under hb1)
  clear hE0 hc0 hb1
  go_wp2_with fail
  refine Calls.mono (C2.out _) ?_
  rintro e w2 ⟨rfl, hb2⟩
  obtain ⟨k2, f2⟩ := bcell hb2
  have hE2 := hE1.on (under hb2)
  have hc2 := chain hc1 (under hb2)
  have z2_0 : w1.heap.size < w2.heap.size := by have := hb2.size; (try simp at this); omega
  have z2_1 : w1.heap.size+1 < w2.heap.size := by have := hb2.size; (try simp at this); omega
  clear hE1 hc1 hb2
  go_wp2_with fail
  refine Calls.mono (C3.out _) ?_
  rintro e w3 ⟨rfl, hb3⟩
  obtain ⟨k3, f3⟩ := bcell hb3
  have hE3 := hE2.on (under hb3)
  have hc3 := chain hc2 (under hb3)
  have z3_0 : w1.heap.size < w3.heap.size := by have := hb3.size; (try simp at this); omega
  have z3_1 : w1.heap.size+1 < w3.heap.size := by have := hb3.size; (try simp at this); omega
  clear hE2 hc2 hb3
  go_wp2_with fail
  refine Calls.mono (C4.out _) ?_
  rintro e w4 ⟨rfl, hb4⟩
  obtain ⟨k4, f4⟩ := bcell hb4
  have hE4 := hE3.on (under hb4)
  have hc4 := chain hc3 (under hb4)
  have z4_0 : w1.heap.size < w4.heap.size := by have := hb4.size; (try simp at this); omega
  have z4_1 : w1.heap.size+1 < w4.heap.size := by have := hb4.size; (try simp at this); omega
  clear hE3 hc3 hb4
  go_wp2_with fail
  refine Calls.mono (C5.out _) ?_
  rintro e w5 ⟨rfl, hb5⟩
  obtain ⟨k5, f5⟩ := bcell hb5
  have hE5 := hE4.on (under hb5)
  have hc5 := chain hc4 (under hb5)
  have z5_0 : w1.heap.size < w5.heap.size := by have := hb5.size; (try simp at this); omega
  have z5_1 : w1.heap.size+1 < w5.heap.size := by have := hb5.size; (try simp at this); omega
  clear hE4 hc4 hb5
  go_wp2_with fail
  refine Calls.mono (C6.out _) ?_
  rintro e w6 ⟨rfl, hb6⟩
  obtain ⟨k6, f6⟩ := bcell hb6
  have hE6 := hE5.on (under hb6)
  have hc6 := chain hc5 (under hb6)
  have z6_0 : w1.heap.size < w6.heap.size := by have := hb6.size; (try simp at this); omega
  have z6_1 : w1.heap.size+1 < w6.heap.size := by have := hb6.size; (try simp at this); omega
  clear hE5 hc5 hb6
  go_wp2_with fail
  refine (works _ hE6).mono ?_
  rintro e w7 ⟨rfl, hb7⟩
  go_wp2_with fail
  go_returns
  exact ⟨rfl, chain hc6 hb7⟩
set_option maxHeartbeats 8000000 in
set_option maxRecDepth 20000 in
theorem wrong_2 (a s g b far K L G : Int) (w : World) (hE : EnvP w) (h : MadeIs a s g K L G) (s0 : 0 ≤ s) (s1 : s ≤ 255) (f0 : 0 ≤ far) (f1 : far ≤ 65535) (b0 : 0 ≤ b) (b1 : b ≤ 255) (hb : b % 5 = 2) :
    Ret 11 #[.int .u8 a, .int .u8 s, .int .u32 g, .int .u8 b, .int .u16 far] w (.bool true) := by
  have hE0 := hE
  have hc0 := Below.refl w.heap.size w
  obtain ⟨k1, k3, l0, l1, g1, gm, c1⟩ := h
  have hd : dOk 256 (K) (256 + far) (G) = false := dOk_no (by omega)
  have ho : dOk 64 (K) (64 + far) (G) = false := dOk_no (by omega)
  have c2 := fun w => pack_bad (K) (256 + far) (G) w hd (by omega) (by omega)
  have c3 := fun w => d_text_bad (K) (256 + far) (G) w hd (by omega) (by omega)
  have c4 := fun w => o_text_bad (K) (64 + far) (G) w ho (by omega) (by omega)
  have c5 := fun w => d_check (K) (256 + far) (G) w (by omega) (by omega)
  have c6 := fun w => o_check (K) (64 + far) (G) w (by omega) (by omega)
  rw [dErr_bad hd] at c5
  rw [dErr_bad ho] at c6
  have C1 := Lib.hid c1
  have C2 := Lib.hid c2
  have C3 := Lib.hid c3
  have C4 := Lib.hid c4
  have C5 := Lib.hid c5
  have C6 := Lib.hid c6
  clear hE c1 c2 c3 c4 c5 c6 hd ho
  go_enter Tryd.func11, Tryd.ntmps11
  go_wp2_with fail
  refine Calls.mono (C1.out _) ?_
  rintro e w1 ⟨rfl, hb1⟩
  obtain ⟨k1, f1⟩ := bcell hb1
  have hE1 := hE0.on (under hb1)
  have hc1 := chain hc0 (under hb1)
  clear hE0 hc0 hb1
  go_wp2_with fail
  refine Calls.mono (C2.out _) ?_
  rintro e w2 ⟨rfl, hb2⟩
  obtain ⟨k2, f2⟩ := bcell hb2
  have hE2 := hE1.on (under hb2)
  have hc2 := chain hc1 (under hb2)
  have z2_0 : w1.heap.size < w2.heap.size := by have := hb2.size; (try simp at this); omega
  have z2_1 : w1.heap.size+1 < w2.heap.size := by have := hb2.size; (try simp at this); omega
  clear hE1 hc1 hb2
  go_wp2_with fail
  refine Calls.mono (C3.out _) ?_
  rintro e w3 ⟨rfl, hb3⟩
  obtain ⟨k3, f3⟩ := bcell hb3
  have hE3 := hE2.on (under hb3)
  have hc3 := chain hc2 (under hb3)
  have z3_0 : w1.heap.size < w3.heap.size := by have := hb3.size; (try simp at this); omega
  have z3_1 : w1.heap.size+1 < w3.heap.size := by have := hb3.size; (try simp at this); omega
  clear hE2 hc2 hb3
  go_wp2_with fail
  refine Calls.mono (C4.out _) ?_
  rintro e w4 ⟨rfl, hb4⟩
  obtain ⟨k4, f4⟩ := bcell hb4
  have hE4 := hE3.on (under hb4)
  have hc4 := chain hc3 (under hb4)
  have z4_0 : w1.heap.size < w4.heap.size := by have := hb4.size; (try simp at this); omega
  have z4_1 : w1.heap.size+1 < w4.heap.size := by have := hb4.size; (try simp at this); omega
  clear hE3 hc3 hb4
  go_wp2_with fail
  refine Calls.mono (C5.out _) ?_
  rintro e w5 ⟨rfl, hb5⟩
  obtain ⟨k5, f5⟩ := bcell hb5
  have hE5 := hE4.on (under hb5)
  have hc5 := chain hc4 (under hb5)
  have z5_0 : w1.heap.size < w5.heap.size := by have := hb5.size; (try simp at this); omega
  have z5_1 : w1.heap.size+1 < w5.heap.size := by have := hb5.size; (try simp at this); omega
  clear hE4 hc4 hb5
  go_wp2_with fail
  refine Calls.mono (C6.out _) ?_
  rintro e w6 ⟨rfl, hb6⟩
  obtain ⟨k6, f6⟩ := bcell hb6
  have hE6 := hE5.on (under hb6)
  have hc6 := chain hc5 (under hb6)
  have z6_0 : w1.heap.size < w6.heap.size := by have := hb6.size; (try simp at this); omega
  have z6_1 : w1.heap.size+1 < w6.heap.size := by have := hb6.size; (try simp at this); omega
  clear hE5 hc5 hb6
  go_wp2_with fail
  refine (works _ hE6).mono ?_
  rintro e w7 ⟨rfl, hb7⟩
  go_wp2_with fail
  go_returns
  exact ⟨rfl, chain hc6 hb7⟩
set_option maxHeartbeats 8000000 in
set_option maxRecDepth 20000 in
theorem wrong_3 (a s g b far K L G : Int) (w : World) (hE : EnvP w) (h : MadeIs a s g K L G) (s0 : 0 ≤ s) (s1 : s ≤ 255) (f0 : 0 ≤ far) (f1 : far ≤ 65535) (b0 : 0 ≤ b) (b1 : b ≤ 255) (hb : b % 5 = 3) :
    Ret 11 #[.int .u8 a, .int .u8 s, .int .u32 g, .int .u8 b, .int .u16 far] w (.bool true) := by
  have hE0 := hE
  have hc0 := Below.refl w.heap.size w
  obtain ⟨k1, k3, l0, l1, g1, gm, c1⟩ := h
  have hd : dOk 256 (K) (-1 - far) (G) = false := dOk_no (by omega)
  have ho : dOk 64 (K) (-1 - far) (G) = false := dOk_no (by omega)
  have c2 := fun w => pack_bad (K) (-1 - far) (G) w hd (by omega) (by omega)
  have c3 := fun w => d_text_bad (K) (-1 - far) (G) w hd (by omega) (by omega)
  have c4 := fun w => o_text_bad (K) (-1 - far) (G) w ho (by omega) (by omega)
  have c5 := fun w => d_check (K) (-1 - far) (G) w (by omega) (by omega)
  have c6 := fun w => o_check (K) (-1 - far) (G) w (by omega) (by omega)
  rw [dErr_bad hd] at c5
  rw [dErr_bad ho] at c6
  have C1 := Lib.hid c1
  have C2 := Lib.hid c2
  have C3 := Lib.hid c3
  have C4 := Lib.hid c4
  have C5 := Lib.hid c5
  have C6 := Lib.hid c6
  clear hE c1 c2 c3 c4 c5 c6 hd ho
  go_enter Tryd.func11, Tryd.ntmps11
  go_wp2_with fail
  refine Calls.mono (C1.out _) ?_
  rintro e w1 ⟨rfl, hb1⟩
  obtain ⟨k1, f1⟩ := bcell hb1
  have hE1 := hE0.on (under hb1)
  have hc1 := chain hc0 (under hb1)
  clear hE0 hc0 hb1
  go_wp2_with fail
  refine Calls.mono (C2.out _) ?_
  rintro e w2 ⟨rfl, hb2⟩
  obtain ⟨k2, f2⟩ := bcell hb2
  have hE2 := hE1.on (under hb2)
  have hc2 := chain hc1 (under hb2)
  have z2_0 : w1.heap.size < w2.heap.size := by have := hb2.size; (try simp at this); omega
  have z2_1 : w1.heap.size+1 < w2.heap.size := by have := hb2.size; (try simp at this); omega
  clear hE1 hc1 hb2
  go_wp2_with fail
  refine Calls.mono (C3.out _) ?_
  rintro e w3 ⟨rfl, hb3⟩
  obtain ⟨k3, f3⟩ := bcell hb3
  have hE3 := hE2.on (under hb3)
  have hc3 := chain hc2 (under hb3)
  have z3_0 : w1.heap.size < w3.heap.size := by have := hb3.size; (try simp at this); omega
  have z3_1 : w1.heap.size+1 < w3.heap.size := by have := hb3.size; (try simp at this); omega
  clear hE2 hc2 hb3
  go_wp2_with fail
  refine Calls.mono (C4.out _) ?_
  rintro e w4 ⟨rfl, hb4⟩
  obtain ⟨k4, f4⟩ := bcell hb4
  have hE4 := hE3.on (under hb4)
  have hc4 := chain hc3 (under hb4)
  have z4_0 : w1.heap.size < w4.heap.size := by have := hb4.size; (try simp at this); omega
  have z4_1 : w1.heap.size+1 < w4.heap.size := by have := hb4.size; (try simp at this); omega
  clear hE3 hc3 hb4
  go_wp2_with fail
  refine Calls.mono (C5.out _) ?_
  rintro e w5 ⟨rfl, hb5⟩
  obtain ⟨k5, f5⟩ := bcell hb5
  have hE5 := hE4.on (under hb5)
  have hc5 := chain hc4 (under hb5)
  have z5_0 : w1.heap.size < w5.heap.size := by have := hb5.size; (try simp at this); omega
  have z5_1 : w1.heap.size+1 < w5.heap.size := by have := hb5.size; (try simp at this); omega
  clear hE4 hc4 hb5
  go_wp2_with fail
  refine Calls.mono (C6.out _) ?_
  rintro e w6 ⟨rfl, hb6⟩
  obtain ⟨k6, f6⟩ := bcell hb6
  have hE6 := hE5.on (under hb6)
  have hc6 := chain hc5 (under hb6)
  have z6_0 : w1.heap.size < w6.heap.size := by have := hb6.size; (try simp at this); omega
  have z6_1 : w1.heap.size+1 < w6.heap.size := by have := hb6.size; (try simp at this); omega
  clear hE5 hc5 hb6
  go_wp2_with fail
  refine (works _ hE6).mono ?_
  rintro e w7 ⟨rfl, hb7⟩
  go_wp2_with fail
  go_returns
  exact ⟨rfl, chain hc6 hb7⟩
set_option maxHeartbeats 8000000 in
set_option maxRecDepth 20000 in
theorem wrong_4 (a s g b far K L G : Int) (w : World) (hE : EnvP w) (h : MadeIs a s g K L G) (s0 : 0 ≤ s) (s1 : s ≤ 255) (f0 : 0 ≤ far) (f1 : far ≤ 65535) (b0 : 0 ≤ b) (b1 : b ≤ 255) (hb : b % 5 = 4) :
    Ret 11 #[.int .u8 a, .int .u8 s, .int .u32 g, .int .u8 b, .int .u16 far] w (.bool true) := by
  have hE0 := hE
  have hc0 := Below.refl w.heap.size w
  obtain ⟨k1, k3, l0, l1, g1, gm, c1⟩ := h
  have hd : dOk 256 (K) (s) (0) = false := dOk_no (by omega)
  have ho : dOk 64 (K) (L) (0) = false := dOk_no (by omega)
  have c2 := fun w => pack_bad (K) (s) (0) w hd (by omega) (by omega)
  have c3 := fun w => d_text_bad (K) (s) (0) w hd (by omega) (by omega)
  have c4 := fun w => o_text_bad (K) (L) (0) w ho (by omega) (by omega)
  have c5 := fun w => d_check (K) (s) (0) w (by omega) (by omega)
  have c6 := fun w => o_check (K) (L) (0) w (by omega) (by omega)
  rw [dErr_bad hd] at c5
  rw [dErr_bad ho] at c6
  have C1 := Lib.hid c1
  have C2 := Lib.hid c2
  have C3 := Lib.hid c3
  have C4 := Lib.hid c4
  have C5 := Lib.hid c5
  have C6 := Lib.hid c6
  clear hE c1 c2 c3 c4 c5 c6 hd ho
  go_enter Tryd.func11, Tryd.ntmps11
  go_wp2_with fail
  refine Calls.mono (C1.out _) ?_
  rintro e w1 ⟨rfl, hb1⟩
  obtain ⟨k1, f1⟩ := bcell hb1
  have hE1 := hE0.on (under hb1)
  have hc1 := chain hc0 (under hb1)
  clear hE0 hc0 hb1
  go_wp2_with fail
  refine Calls.mono (C2.out _) ?_
  rintro e w2 ⟨rfl, hb2⟩
  obtain ⟨k2, f2⟩ := bcell hb2
  have hE2 := hE1.on (under hb2)
  have hc2 := chain hc1 (under hb2)
  have z2_0 : w1.heap.size < w2.heap.size := by have := hb2.size; (try simp at this); omega
  have z2_1 : w1.heap.size+1 < w2.heap.size := by have := hb2.size; (try simp at this); omega
  clear hE1 hc1 hb2
  go_wp2_with fail
  refine Calls.mono (C3.out _) ?_
  rintro e w3 ⟨rfl, hb3⟩
  obtain ⟨k3, f3⟩ := bcell hb3
  have hE3 := hE2.on (under hb3)
  have hc3 := chain hc2 (under hb3)
  have z3_0 : w1.heap.size < w3.heap.size := by have := hb3.size; (try simp at this); omega
  have z3_1 : w1.heap.size+1 < w3.heap.size := by have := hb3.size; (try simp at this); omega
  clear hE2 hc2 hb3
  go_wp2_with fail
  refine Calls.mono (C4.out _) ?_
  rintro e w4 ⟨rfl, hb4⟩
  obtain ⟨k4, f4⟩ := bcell hb4
  have hE4 := hE3.on (under hb4)
  have hc4 := chain hc3 (under hb4)
  have z4_0 : w1.heap.size < w4.heap.size := by have := hb4.size; (try simp at this); omega
  have z4_1 : w1.heap.size+1 < w4.heap.size := by have := hb4.size; (try simp at this); omega
  clear hE3 hc3 hb4
  go_wp2_with fail
  refine Calls.mono (C5.out _) ?_
  rintro e w5 ⟨rfl, hb5⟩
  obtain ⟨k5, f5⟩ := bcell hb5
  have hE5 := hE4.on (under hb5)
  have hc5 := chain hc4 (under hb5)
  have z5_0 : w1.heap.size < w5.heap.size := by have := hb5.size; (try simp at this); omega
  have z5_1 : w1.heap.size+1 < w5.heap.size := by have := hb5.size; (try simp at this); omega
  clear hE4 hc4 hb5
  go_wp2_with fail
  refine Calls.mono (C6.out _) ?_
  rintro e w6 ⟨rfl, hb6⟩
  obtain ⟨k6, f6⟩ := bcell hb6
  have hE6 := hE5.on (under hb6)
  have hc6 := chain hc5 (under hb6)
  have z6_0 : w1.heap.size < w6.heap.size := by have := hb6.size; (try simp at this); omega
  have z6_1 : w1.heap.size+1 < w6.heap.size := by have := hb6.size; (try simp at this); omega
  clear hE5 hc5 hb6
  go_wp2_with fail
  refine (works _ hE6).mono ?_
  rintro e w7 ⟨rfl, hb7⟩
  go_wp2_with fail
  go_returns
  exact ⟨rfl, chain hc6 hb7⟩
theorem wrong_walk (a s g b far : Int) (w : World) (hE : EnvP w) (a0 : 0 ≤ a) (a1 : a ≤ 255) (s0 : 0 ≤ s) (s1 : s ≤ 255) (g0 : 0 ≤ g) (g1 : g ≤ 4294967295) (b0 : 0 ≤ b) (b1 : b ≤ 255) (f0 : 0 ≤ far) (f1 : far ≤ 65535) :
    Ret 11 #[.int .u8 a, .int .u8 s, .int .u32 g, .int .u8 b, .int .u16 far] w (.bool true) := by
  obtain ⟨K, L, G, h⟩ := made_is a s g a0 a1 s0 s1 g0 g1
  rcases (by omega : b % 5 = 0 ∨ b % 5 = 1 ∨ b % 5 = 2 ∨ b % 5 = 3 ∨ b % 5 = 4) with e | e | e | e | e
  · exact wrong_0 a s g b far K L G w hE h s0 s1 f0 f1 b0 b1 e
  · exact wrong_1 a s g b far K L G w hE h s0 s1 f0 f1 b0 b1 e
  · exact wrong_2 a s g b far K L G w hE h s0 s1 f0 f1 b0 b1 e
  · exact wrong_3 a s g b far K L G w hE h s0 s1 f0 f1 b0 b1 e
  · exact wrong_4 a s g b far K L G w hE h s0 s1 f0 f1 b0 b1 e
end Go.Proofs.YtjonbmocamjhaaaDoor
