/- The walk of DescrBack. -/
import Derived.Test.YtjonbmocamjhaaaDoorLaw05c
namespace Go.Proofs.YtjonbmocamjhaaaDoor
open Go.RowKit
open Go.Lib (decDigits)
set_option linter.unusedVariables false
set_option linter.unusedSimpArgs false

theorem pre_ok (c : UInt8) (k s g : Int) (x : UInt8) (hx : letterB k = x) (w : World) : Calls Tryd.prog 33 #[.string (dText c k s g), .string ⟨#[x]⟩] w fun e w' => e = .returned (.bool true) ∧ w' = w := by
  have h := Tryd.strings_HasPrefix (dText c k s g) ⟨#[x]⟩ w
  have e : Lib.hasPrefix (dText c k s g).data.toList (ByteArray.mk #[x]).data.toList = true := by
    rw [dText_list]
    unfold dTextL
    rw [hx]
    simp [Lib.hasPrefix]
  rw [e] at h
  exact h
set_option maxHeartbeats 8000000 in
set_option maxRecDepth 20000 in
theorem back_0 (a s g L G N : Int) (S T : ByteArray) (w : World) (hE : EnvP w) (hr : a % 3 = 0) (a0 : 0 ≤ a) (a1 : a ≤ 255) (s0 : 0 ≤ s) (s1 : s ≤ 255) (l0 : 0 ≤ L) (l1 : L ≤ 63) (g1 : 1 ≤ G) (gm : G ≤ 4294967295)
    (N0 : 0 ≤ N) (N1 : N ≤ 18446744073709551615) (hN1 : N / 1099511627776 = 1) (hN2 : N % 4294967296 = G)
    (c1 : ∀ w, Ret 32 #[.int .u8 a, .int .u8 s, .int .u32 g] w (.tuple #[dV 1 s G, dV 1 L G]))
    (c2 : ∀ w, Ret 13 #[dV 1 s G] w (.tuple #[.int .u64 N, .int .i64 0])) (c3 : ∀ w, Ret 15 #[.int .u64 N] w (.tuple #[dV 1 s G, .int .i64 0]))
    (c4 : ∀ w, EnvP w → Ret 20 #[dV 1 s G] w (.tuple #[.string S, .int .i64 0])) (c5 : ∀ w, EnvP w → Ret 22 #[.string S] w (.tuple #[dV 1 s G, .int .i64 0]))
    (c6 : ∀ w, EnvP w → Ret 24 #[dV 1 L G] w (.tuple #[.string T, .int .i64 0])) (c7 : ∀ w, EnvP w → Ret 26 #[.string T] w (.tuple #[dV 1 L G, .int .i64 0]))
    (c8 : ∀ w, EnvP w → Ret 26 #[.string S] w (.tuple #[dV 0 0 0, .int .i64 9])) (c9 : ∀ w, EnvP w → Ret 22 #[.string T] w (.tuple #[dV 0 0 0, .int .i64 9]))
    (c10 : ∀ w, Calls Tryd.prog 33 #[.string S, .string ⟨#[102]⟩] w fun e w' => e = .returned (.bool true) ∧ w' = w) (c11 : ∀ w, Calls Tryd.prog 33 #[.string T, .string ⟨#[102]⟩] w fun e w' => e = .returned (.bool true) ∧ w' = w) :
    Ret 12 #[.int .u8 a, .int .u8 s, .int .u32 g] w (.bool true) := by
  have hE0 := hE
  have hc0 := Below.refl w.heap.size w
  have C1 := Lib.hid c1
  have C2 := Lib.hid c2
  have C3 := Lib.hid c3
  have C4 := Lib.hid c4
  have C5 := Lib.hid c5
  have C6 := Lib.hid c6
  have C7 := Lib.hid c7
  have C8 := Lib.hid c8
  have C9 := Lib.hid c9
  have C10 := Lib.hid (show ∀ X : ByteArray, X = ⟨#[102]⟩ → ∀ w, Calls Tryd.prog 33 #[.string S, .string X] w (fun e w' => e = .returned (.bool true) ∧ w' = w) from by rintro _ rfl; exact c10)
  have C11 := Lib.hid (show ∀ X : ByteArray, X = ⟨#[102]⟩ → ∀ w, Calls Tryd.prog 33 #[.string T, .string X] w (fun e w' => e = .returned (.bool true) ∧ w' = w) from by rintro _ rfl; exact c11)
  have HN := Lib.hid N1
  clear hE c1 c2 c3 c4 c5 c6 c7 c8 c9 c10 c11 N1
  go_enter Tryd.func12, Tryd.ntmps12
  go_wp2_with fail
  refine Calls.mono (C1.out _) ?_
  rintro e w1 ⟨rfl, hb1⟩
  obtain ⟨k1, f1⟩ := bcell hb1
  have hE1 := hE0.on (under hb1)
  have hc1 := chain hc0 (under hb1)
  clear hE0 hc0 hb1
  go_wp2_with fail
  refine Calls.mono (C2.out _) ?_
  rintro e w2 ⟨rfl, hb2⟩
  obtain ⟨k2, f2⟩ := bcell hb2
  have hE2 := hE1.on (under hb2)
  have hc2 := chain hc1 (under hb2)
  have z2_0 : w1.heap.size < w2.heap.size := by have := hb2.size; (try simp at this); omega
  have z2_1 : w1.heap.size+1 < w2.heap.size := by have := hb2.size; (try simp at this); omega
  clear hE1 hc1 hb2
  go_wp2_with fail
  refine Calls.mono (C3.out _) ?_
  rintro e w3 ⟨rfl, hb3⟩
  obtain ⟨k3, f3⟩ := bcell hb3
  have hE3 := hE2.on (under hb3)
  have hc3 := chain hc2 (under hb3)
  have z3_0 : w1.heap.size < w3.heap.size := by have := hb3.size; (try simp at this); omega
  have z3_1 : w1.heap.size+1 < w3.heap.size := by have := hb3.size; (try simp at this); omega
  clear hE2 hc2 hb3
  go_wp2_with fail
  refine Calls.mono (C4.out _ (hE3.on (by go_grown))) ?_
  rintro e w4 ⟨rfl, hb4⟩
  obtain ⟨k4, f4⟩ := bcell hb4
  have hE4 := hE3.on (under hb4)
  have hc4 := chain hc3 (under hb4)
  have z4_0 : w1.heap.size < w4.heap.size := by have := hb4.size; (try simp at this); omega
  have z4_1 : w1.heap.size+1 < w4.heap.size := by have := hb4.size; (try simp at this); omega
  have z4_2 : w3.heap.size < w4.heap.size := by have := hb4.size; (try simp at this); omega
  clear hE3 hc3 hb4
  go_wp2_with fail
  refine Calls.mono (C5.out _ hE4) ?_
  rintro e w5 ⟨rfl, hb5⟩
  obtain ⟨k5, f5⟩ := bcell hb5
  have hE5 := hE4.on (under hb5)
  have hc5 := chain hc4 (under hb5)
  have z5_0 : w1.heap.size < w5.heap.size := by have := hb5.size; (try simp at this); omega
  have z5_1 : w1.heap.size+1 < w5.heap.size := by have := hb5.size; (try simp at this); omega
  have z5_2 : w3.heap.size < w5.heap.size := by have := hb5.size; (try simp at this); omega
  clear hE4 hc4 hb5
  go_wp2_with fail
  refine Calls.mono (C6.out _ (hE5.on (by go_grown))) ?_
  rintro e w6 ⟨rfl, hb6⟩
  obtain ⟨k6, f6⟩ := bcell hb6
  have hE6 := hE5.on (under hb6)
  have hc6 := chain hc5 (under hb6)
  have z6_0 : w1.heap.size < w6.heap.size := by have := hb6.size; (try simp at this); omega
  have z6_1 : w1.heap.size+1 < w6.heap.size := by have := hb6.size; (try simp at this); omega
  have z6_2 : w3.heap.size < w6.heap.size := by have := hb6.size; (try simp at this); omega
  have z6_3 : w5.heap.size < w6.heap.size := by have := hb6.size; (try simp at this); omega
  clear hE5 hc5 hb6
  go_wp2_with fail
  refine Calls.mono (C7.out _ hE6) ?_
  rintro e w7 ⟨rfl, hb7⟩
  obtain ⟨k7, f7⟩ := bcell hb7
  have hE7 := hE6.on (under hb7)
  have hc7 := chain hc6 (under hb7)
  have z7_0 : w1.heap.size < w7.heap.size := by have := hb7.size; (try simp at this); omega
  have z7_1 : w1.heap.size+1 < w7.heap.size := by have := hb7.size; (try simp at this); omega
  have z7_2 : w3.heap.size < w7.heap.size := by have := hb7.size; (try simp at this); omega
  have z7_3 : w5.heap.size < w7.heap.size := by have := hb7.size; (try simp at this); omega
  clear hE6 hc6 hb7
  go_wp2_with fail
  refine Calls.mono (C8.out _ (hE7.on (by go_grown))) ?_
  rintro e w8 ⟨rfl, hb8⟩
  obtain ⟨k8, f8⟩ := bcell hb8
  have hE8 := hE7.on (under hb8)
  have hc8 := chain hc7 (under hb8)
  have z8_0 : w1.heap.size < w8.heap.size := by have := hb8.size; (try simp at this); omega
  clear hE7 hc7 hb8
  go_wp2_with fail
  refine Calls.mono (C9.out _ (hE8.on (by go_grown))) ?_
  rintro e w9 ⟨rfl, hb9⟩
  obtain ⟨k9, f9⟩ := bcell hb9
  have hE9 := hE8.on (under hb9)
  have hc9 := chain hc8 (under hb9)
  have z9_0 : w1.heap.size < w9.heap.size := by have := hb9.size; (try simp at this); omega
  clear hE8 hc8 hb9
  go_wp2_with fail
  refine (C10.out _ (by kernel_rfl) _).mono ?_
  rintro e w10 ⟨rfl, rfl⟩
  go_wp2_with fail
  refine (C11.out _ (by kernel_rfl) _).mono ?_
  rintro e w10 ⟨rfl, rfl⟩
  go_wp2_with fail
  refine (works _ (hE9.on (by go_grown))).mono ?_
  rintro e w11 ⟨rfl, hb11⟩
  go_wp2_with fail
  go_returns
  exact ⟨rfl, chain hc9 (under hb11)⟩
set_option maxHeartbeats 8000000 in
set_option maxRecDepth 20000 in
theorem back_1 (a s g L G N : Int) (S T : ByteArray) (w : World) (hE : EnvP w) (hr : a % 3 = 1) (a0 : 0 ≤ a) (a1 : a ≤ 255) (s0 : 0 ≤ s) (s1 : s ≤ 255) (l0 : 0 ≤ L) (l1 : L ≤ 63) (g1 : 1 ≤ G) (gm : G ≤ 4294967295)
    (N0 : 0 ≤ N) (N1 : N ≤ 18446744073709551615) (hN1 : N / 1099511627776 = 2) (hN2 : N % 4294967296 = G)
    (c1 : ∀ w, Ret 32 #[.int .u8 a, .int .u8 s, .int .u32 g] w (.tuple #[dV 2 s G, dV 2 L G]))
    (c2 : ∀ w, Ret 13 #[dV 2 s G] w (.tuple #[.int .u64 N, .int .i64 0])) (c3 : ∀ w, Ret 15 #[.int .u64 N] w (.tuple #[dV 2 s G, .int .i64 0]))
    (c4 : ∀ w, EnvP w → Ret 20 #[dV 2 s G] w (.tuple #[.string S, .int .i64 0])) (c5 : ∀ w, EnvP w → Ret 22 #[.string S] w (.tuple #[dV 2 s G, .int .i64 0]))
    (c6 : ∀ w, EnvP w → Ret 24 #[dV 2 L G] w (.tuple #[.string T, .int .i64 0])) (c7 : ∀ w, EnvP w → Ret 26 #[.string T] w (.tuple #[dV 2 L G, .int .i64 0]))
    (c8 : ∀ w, EnvP w → Ret 26 #[.string S] w (.tuple #[dV 0 0 0, .int .i64 9])) (c9 : ∀ w, EnvP w → Ret 22 #[.string T] w (.tuple #[dV 0 0 0, .int .i64 9]))
    (c10 : ∀ w, Calls Tryd.prog 33 #[.string S, .string ⟨#[98]⟩] w fun e w' => e = .returned (.bool true) ∧ w' = w) (c11 : ∀ w, Calls Tryd.prog 33 #[.string T, .string ⟨#[98]⟩] w fun e w' => e = .returned (.bool true) ∧ w' = w) :
    Ret 12 #[.int .u8 a, .int .u8 s, .int .u32 g] w (.bool true) := by
  have hE0 := hE
  have hc0 := Below.refl w.heap.size w
  have C1 := Lib.hid c1
  have C2 := Lib.hid c2
  have C3 := Lib.hid c3
  have C4 := Lib.hid c4
  have C5 := Lib.hid c5
  have C6 := Lib.hid c6
  have C7 := Lib.hid c7
  have C8 := Lib.hid c8
  have C9 := Lib.hid c9
  have C10 := Lib.hid (show ∀ X : ByteArray, X = ⟨#[98]⟩ → ∀ w, Calls Tryd.prog 33 #[.string S, .string X] w (fun e w' => e = .returned (.bool true) ∧ w' = w) from by rintro _ rfl; exact c10)
  have C11 := Lib.hid (show ∀ X : ByteArray, X = ⟨#[98]⟩ → ∀ w, Calls Tryd.prog 33 #[.string T, .string X] w (fun e w' => e = .returned (.bool true) ∧ w' = w) from by rintro _ rfl; exact c11)
  have HN := Lib.hid N1
  clear hE c1 c2 c3 c4 c5 c6 c7 c8 c9 c10 c11 N1
  go_enter Tryd.func12, Tryd.ntmps12
  go_wp2_with fail
  refine Calls.mono (C1.out _) ?_
  rintro e w1 ⟨rfl, hb1⟩
  obtain ⟨k1, f1⟩ := bcell hb1
  have hE1 := hE0.on (under hb1)
  have hc1 := chain hc0 (under hb1)
  clear hE0 hc0 hb1
  go_wp2_with fail
  refine Calls.mono (C2.out _) ?_
  rintro e w2 ⟨rfl, hb2⟩
  obtain ⟨k2, f2⟩ := bcell hb2
  have hE2 := hE1.on (under hb2)
  have hc2 := chain hc1 (under hb2)
  have z2_0 : w1.heap.size < w2.heap.size := by have := hb2.size; (try simp at this); omega
  have z2_1 : w1.heap.size+1 < w2.heap.size := by have := hb2.size; (try simp at this); omega
  clear hE1 hc1 hb2
  go_wp2_with fail
  refine Calls.mono (C3.out _) ?_
  rintro e w3 ⟨rfl, hb3⟩
  obtain ⟨k3, f3⟩ := bcell hb3
  have hE3 := hE2.on (under hb3)
  have hc3 := chain hc2 (under hb3)
  have z3_0 : w1.heap.size < w3.heap.size := by have := hb3.size; (try simp at this); omega
  have z3_1 : w1.heap.size+1 < w3.heap.size := by have := hb3.size; (try simp at this); omega
  clear hE2 hc2 hb3
  go_wp2_with fail
  refine Calls.mono (C4.out _ (hE3.on (by go_grown))) ?_
  rintro e w4 ⟨rfl, hb4⟩
  obtain ⟨k4, f4⟩ := bcell hb4
  have hE4 := hE3.on (under hb4)
  have hc4 := chain hc3 (under hb4)
  have z4_0 : w1.heap.size < w4.heap.size := by have := hb4.size; (try simp at this); omega
  have z4_1 : w1.heap.size+1 < w4.heap.size := by have := hb4.size; (try simp at this); omega
  have z4_2 : w3.heap.size < w4.heap.size := by have := hb4.size; (try simp at this); omega
  clear hE3 hc3 hb4
  go_wp2_with fail
  refine Calls.mono (C5.out _ hE4) ?_
  rintro e w5 ⟨rfl, hb5⟩
  obtain ⟨k5, f5⟩ := bcell hb5
  have hE5 := hE4.on (under hb5)
  have hc5 := chain hc4 (under hb5)
  have z5_0 : w1.heap.size < w5.heap.size := by have := hb5.size; (try simp at this); omega
  have z5_1 : w1.heap.size+1 < w5.heap.size := by have := hb5.size; (try simp at this); omega
  have z5_2 : w3.heap.size < w5.heap.size := by have := hb5.size; (try simp at this); omega
  clear hE4 hc4 hb5
  go_wp2_with fail
  refine Calls.mono (C6.out _ (hE5.on (by go_grown))) ?_
  rintro e w6 ⟨rfl, hb6⟩
  obtain ⟨k6, f6⟩ := bcell hb6
  have hE6 := hE5.on (under hb6)
  have hc6 := chain hc5 (under hb6)
  have z6_0 : w1.heap.size < w6.heap.size := by have := hb6.size; (try simp at this); omega
  have z6_1 : w1.heap.size+1 < w6.heap.size := by have := hb6.size; (try simp at this); omega
  have z6_2 : w3.heap.size < w6.heap.size := by have := hb6.size; (try simp at this); omega
  have z6_3 : w5.heap.size < w6.heap.size := by have := hb6.size; (try simp at this); omega
  clear hE5 hc5 hb6
  go_wp2_with fail
  refine Calls.mono (C7.out _ hE6) ?_
  rintro e w7 ⟨rfl, hb7⟩
  obtain ⟨k7, f7⟩ := bcell hb7
  have hE7 := hE6.on (under hb7)
  have hc7 := chain hc6 (under hb7)
  have z7_0 : w1.heap.size < w7.heap.size := by have := hb7.size; (try simp at this); omega
  have z7_1 : w1.heap.size+1 < w7.heap.size := by have := hb7.size; (try simp at this); omega
  have z7_2 : w3.heap.size < w7.heap.size := by have := hb7.size; (try simp at this); omega
  have z7_3 : w5.heap.size < w7.heap.size := by have := hb7.size; (try simp at this); omega
  clear hE6 hc6 hb7
  go_wp2_with fail
  refine Calls.mono (C8.out _ (hE7.on (by go_grown))) ?_
  rintro e w8 ⟨rfl, hb8⟩
  obtain ⟨k8, f8⟩ := bcell hb8
  have hE8 := hE7.on (under hb8)
  have hc8 := chain hc7 (under hb8)
  have z8_0 : w1.heap.size < w8.heap.size := by have := hb8.size; (try simp at this); omega
  clear hE7 hc7 hb8
  go_wp2_with fail
  refine Calls.mono (C9.out _ (hE8.on (by go_grown))) ?_
  rintro e w9 ⟨rfl, hb9⟩
  obtain ⟨k9, f9⟩ := bcell hb9
  have hE9 := hE8.on (under hb9)
  have hc9 := chain hc8 (under hb9)
  have z9_0 : w1.heap.size < w9.heap.size := by have := hb9.size; (try simp at this); omega
  clear hE8 hc8 hb9
  go_wp2_with fail
  refine (C10.out _ (by kernel_rfl) _).mono ?_
  rintro e w10 ⟨rfl, rfl⟩
  go_wp2_with fail
  refine (C11.out _ (by kernel_rfl) _).mono ?_
  rintro e w10 ⟨rfl, rfl⟩
  go_wp2_with fail
  refine (works _ (hE9.on (by go_grown))).mono ?_
  rintro e w11 ⟨rfl, hb11⟩
  go_wp2_with fail
  go_returns
  exact ⟨rfl, chain hc9 (under hb11)⟩
set_option maxHeartbeats 8000000 in
set_option maxRecDepth 20000 in
theorem back_2 (a s g L G N : Int) (S T : ByteArray) (w : World) (hE : EnvP w) (hr : a % 3 = 2) (a0 : 0 ≤ a) (a1 : a ≤ 255) (s0 : 0 ≤ s) (s1 : s ≤ 255) (l0 : 0 ≤ L) (l1 : L ≤ 63) (g1 : 1 ≤ G) (gm : G ≤ 4294967295)
    (N0 : 0 ≤ N) (N1 : N ≤ 18446744073709551615) (hN1 : N / 1099511627776 = 3) (hN2 : N % 4294967296 = G)
    (c1 : ∀ w, Ret 32 #[.int .u8 a, .int .u8 s, .int .u32 g] w (.tuple #[dV 3 s G, dV 3 L G]))
    (c2 : ∀ w, Ret 13 #[dV 3 s G] w (.tuple #[.int .u64 N, .int .i64 0])) (c3 : ∀ w, Ret 15 #[.int .u64 N] w (.tuple #[dV 3 s G, .int .i64 0]))
    (c4 : ∀ w, EnvP w → Ret 20 #[dV 3 s G] w (.tuple #[.string S, .int .i64 0])) (c5 : ∀ w, EnvP w → Ret 22 #[.string S] w (.tuple #[dV 3 s G, .int .i64 0]))
    (c6 : ∀ w, EnvP w → Ret 24 #[dV 3 L G] w (.tuple #[.string T, .int .i64 0])) (c7 : ∀ w, EnvP w → Ret 26 #[.string T] w (.tuple #[dV 3 L G, .int .i64 0]))
    (c8 : ∀ w, EnvP w → Ret 26 #[.string S] w (.tuple #[dV 0 0 0, .int .i64 9])) (c9 : ∀ w, EnvP w → Ret 22 #[.string T] w (.tuple #[dV 0 0 0, .int .i64 9]))
    (c10 : ∀ w, Calls Tryd.prog 33 #[.string S, .string ⟨#[108]⟩] w fun e w' => e = .returned (.bool true) ∧ w' = w) (c11 : ∀ w, Calls Tryd.prog 33 #[.string T, .string ⟨#[108]⟩] w fun e w' => e = .returned (.bool true) ∧ w' = w) :
    Ret 12 #[.int .u8 a, .int .u8 s, .int .u32 g] w (.bool true) := by
  have hE0 := hE
  have hc0 := Below.refl w.heap.size w
  have C1 := Lib.hid c1
  have C2 := Lib.hid c2
  have C3 := Lib.hid c3
  have C4 := Lib.hid c4
  have C5 := Lib.hid c5
  have C6 := Lib.hid c6
  have C7 := Lib.hid c7
  have C8 := Lib.hid c8
  have C9 := Lib.hid c9
  have C10 := Lib.hid (show ∀ X : ByteArray, X = ⟨#[108]⟩ → ∀ w, Calls Tryd.prog 33 #[.string S, .string X] w (fun e w' => e = .returned (.bool true) ∧ w' = w) from by rintro _ rfl; exact c10)
  have C11 := Lib.hid (show ∀ X : ByteArray, X = ⟨#[108]⟩ → ∀ w, Calls Tryd.prog 33 #[.string T, .string X] w (fun e w' => e = .returned (.bool true) ∧ w' = w) from by rintro _ rfl; exact c11)
  have HN := Lib.hid N1
  clear hE c1 c2 c3 c4 c5 c6 c7 c8 c9 c10 c11 N1
  go_enter Tryd.func12, Tryd.ntmps12
  go_wp2_with fail
  refine Calls.mono (C1.out _) ?_
  rintro e w1 ⟨rfl, hb1⟩
  obtain ⟨k1, f1⟩ := bcell hb1
  have hE1 := hE0.on (under hb1)
  have hc1 := chain hc0 (under hb1)
  clear hE0 hc0 hb1
  go_wp2_with fail
  refine Calls.mono (C2.out _) ?_
  rintro e w2 ⟨rfl, hb2⟩
  obtain ⟨k2, f2⟩ := bcell hb2
  have hE2 := hE1.on (under hb2)
  have hc2 := chain hc1 (under hb2)
  have z2_0 : w1.heap.size < w2.heap.size := by have := hb2.size; (try simp at this); omega
  have z2_1 : w1.heap.size+1 < w2.heap.size := by have := hb2.size; (try simp at this); omega
  clear hE1 hc1 hb2
  go_wp2_with fail
  refine Calls.mono (C3.out _) ?_
  rintro e w3 ⟨rfl, hb3⟩
  obtain ⟨k3, f3⟩ := bcell hb3
  have hE3 := hE2.on (under hb3)
  have hc3 := chain hc2 (under hb3)
  have z3_0 : w1.heap.size < w3.heap.size := by have := hb3.size; (try simp at this); omega
  have z3_1 : w1.heap.size+1 < w3.heap.size := by have := hb3.size; (try simp at this); omega
  clear hE2 hc2 hb3
  go_wp2_with fail
  refine Calls.mono (C4.out _ (hE3.on (by go_grown))) ?_
  rintro e w4 ⟨rfl, hb4⟩
  obtain ⟨k4, f4⟩ := bcell hb4
  have hE4 := hE3.on (under hb4)
  have hc4 := chain hc3 (under hb4)
  have z4_0 : w1.heap.size < w4.heap.size := by have := hb4.size; (try simp at this); omega
  have z4_1 : w1.heap.size+1 < w4.heap.size := by have := hb4.size; (try simp at this); omega
  have z4_2 : w3.heap.size < w4.heap.size := by have := hb4.size; (try simp at this); omega
  clear hE3 hc3 hb4
  go_wp2_with fail
  refine Calls.mono (C5.out _ hE4) ?_
  rintro e w5 ⟨rfl, hb5⟩
  obtain ⟨k5, f5⟩ := bcell hb5
  have hE5 := hE4.on (under hb5)
  have hc5 := chain hc4 (under hb5)
  have z5_0 : w1.heap.size < w5.heap.size := by have := hb5.size; (try simp at this); omega
  have z5_1 : w1.heap.size+1 < w5.heap.size := by have := hb5.size; (try simp at this); omega
  have z5_2 : w3.heap.size < w5.heap.size := by have := hb5.size; (try simp at this); omega
  clear hE4 hc4 hb5
  go_wp2_with fail
  refine Calls.mono (C6.out _ (hE5.on (by go_grown))) ?_
  rintro e w6 ⟨rfl, hb6⟩
  obtain ⟨k6, f6⟩ := bcell hb6
  have hE6 := hE5.on (under hb6)
  have hc6 := chain hc5 (under hb6)
  have z6_0 : w1.heap.size < w6.heap.size := by have := hb6.size; (try simp at this); omega
  have z6_1 : w1.heap.size+1 < w6.heap.size := by have := hb6.size; (try simp at this); omega
  have z6_2 : w3.heap.size < w6.heap.size := by have := hb6.size; (try simp at this); omega
  have z6_3 : w5.heap.size < w6.heap.size := by have := hb6.size; (try simp at this); omega
  clear hE5 hc5 hb6
  go_wp2_with fail
  refine Calls.mono (C7.out _ hE6) ?_
  rintro e w7 ⟨rfl, hb7⟩
  obtain ⟨k7, f7⟩ := bcell hb7
  have hE7 := hE6.on (under hb7)
  have hc7 := chain hc6 (under hb7)
  have z7_0 : w1.heap.size < w7.heap.size := by have := hb7.size; (try simp at this); omega
  have z7_1 : w1.heap.size+1 < w7.heap.size := by have := hb7.size; (try simp at this); omega
  have z7_2 : w3.heap.size < w7.heap.size := by have := hb7.size; (try simp at this); omega
  have z7_3 : w5.heap.size < w7.heap.size := by have := hb7.size; (try simp at this); omega
  clear hE6 hc6 hb7
  go_wp2_with fail
  refine Calls.mono (C8.out _ (hE7.on (by go_grown))) ?_
  rintro e w8 ⟨rfl, hb8⟩
  obtain ⟨k8, f8⟩ := bcell hb8
  have hE8 := hE7.on (under hb8)
  have hc8 := chain hc7 (under hb8)
  have z8_0 : w1.heap.size < w8.heap.size := by have := hb8.size; (try simp at this); omega
  clear hE7 hc7 hb8
  go_wp2_with fail
  refine Calls.mono (C9.out _ (hE8.on (by go_grown))) ?_
  rintro e w9 ⟨rfl, hb9⟩
  obtain ⟨k9, f9⟩ := bcell hb9
  have hE9 := hE8.on (under hb9)
  have hc9 := chain hc8 (under hb9)
  have z9_0 : w1.heap.size < w9.heap.size := by have := hb9.size; (try simp at this); omega
  clear hE8 hc8 hb9
  go_wp2_with fail
  refine (C10.out _ (by kernel_rfl) _).mono ?_
  rintro e w10 ⟨rfl, rfl⟩
  go_wp2_with fail
  refine (C11.out _ (by kernel_rfl) _).mono ?_
  rintro e w10 ⟨rfl, rfl⟩
  go_wp2_with fail
  refine (works _ (hE9.on (by go_grown))).mono ?_
  rintro e w11 ⟨rfl, hb11⟩
  go_wp2_with fail
  go_returns
  exact ⟨rfl, chain hc9 (under hb11)⟩
theorem back_walk (a s g : Int) (w : World) (hE : EnvP w) (a0 : 0 ≤ a) (a1 : a ≤ 255) (s0 : 0 ≤ s) (s1 : s ≤ 255) (g0 : 0 ≤ g) (g1 : g ≤ 4294967295) :
    Ret 12 #[.int .u8 a, .int .u8 s, .int .u32 g] w (.bool true) := by
  have c1 := fun w => made_c a s g a0 a1 s0 s1 g0 g1 w
  generalize hG : max g 1 = G at c1
  generalize hL : s % 64 = L at c1
  have G1 : 1 ≤ G := by omega
  have Gm : G ≤ 4294967295 := by omega
  have L0 : 0 ≤ L := by omega
  have L1 : L ≤ 63 := by omega
  clear hG hL
  have key : ∀ K : Int, 1 ≤ K → K ≤ 3 → dOk 256 K s G = true ∧ dOk 64 K L G = true ∧ IsD 46 256 (dText 46 K s G).data.toList K s G ∧ IsD 58 64 (dText 58 K L G).data.toList K L G ∧ (dText 46 K s G).size ≤ 100000 ∧ (dText 58 K L G).size ≤ 100000 ∧
      (∀ k l g, ¬ IsD 58 64 (dText 46 K s G).data.toList k l g) ∧ (∀ k l g, ¬ IsD 46 256 (dText 58 K L G).data.toList k l g) ∧ dNum K s G / 1099511627776 = K ∧ dNum K s G / 4294967296 % 256 = s ∧ dNum K s G % 4294967296 = G ∧ 0 ≤ dNum K s G ∧ dNum K s G ≤ 18446744073709551615 := by
    intro K k1 k3
    have hd : dOk 256 K s G = true := dOk_iff.2 ⟨k1, k3, s0, by omega, by omega⟩
    have ho : dOk 64 K L G = true := dOk_iff.2 ⟨k1, k3, L0, by omega, by omega⟩
    obtain ⟨p1, p2, p3⟩ := dNum_parts (k := K) s0 (by omega : s < 256) (by omega : (0 : Int) ≤ G) Gm
    have z1 := (dText_size 46 (k := K) (s := s) (g := G) (by omega) (by omega)).1
    have z2 := (dText_size 58 (k := K) (s := L) (g := G) (by omega) (by omega)).1
    refine ⟨hd, ho, ⟨hd, Gm, by omega, dText_list _ _ _ _⟩, ⟨ho, Gm, by omega, dText_list _ _ _ _⟩, by omega, by omega, fun k l g h => dTextL_other ((dText_list 46 K s G).symm.trans h.eq), fun k l g h => dTextL_other (h.eq.symm.trans (dText_list 58 K L G)), p1, p2, p3, ?_, ?_⟩
    · unfold dNum; omega
    · unfold dNum; omega
  rcases (by omega : a % 3 = 0 ∨ a % 3 = 1 ∨ a % 3 = 2) with e | e | e
  · obtain ⟨hd, ho, id1, id2, z1, z2, n1, n2, p1, p2, p3, q0, q1⟩ := key 1 (by omega) (by omega)
    rw [e, show (1 : Int) + 0 = 1 from rfl] at c1
    have cu := fun w => unpack_ok (dNum 1 s G) w q0 q1 (by rw [p1, p2, p3]; exact hd)
    rw [p1, p2, p3] at cu
    exact back_0 a s g L G (dNum 1 s G) _ _ w hE e a0 a1 s0 s1 L0 L1 G1 Gm q0 q1 p1 p3 c1 (fun w => pack_ok _ _ _ w hd (by omega) Gm) cu (fun w hE => d_text_ok _ _ _ w hE.toEnv hd (by omega) Gm) (fun w hE => d_parse_is _ _ _ _ id1 w hE)
      (fun w hE => o_text_ok _ _ _ w hE.toEnv ho (by omega) Gm) (fun w hE => o_parse_is _ _ _ _ id2 w hE) (fun w hE => o_parse_not _ z1 n1 w hE) (fun w hE => d_parse_not _ z2 n2 w hE) (fun w => pre_ok 46 1 s G 102 rfl w) (fun w => pre_ok 58 1 L G 102 rfl w)
  · obtain ⟨hd, ho, id1, id2, z1, z2, n1, n2, p1, p2, p3, q0, q1⟩ := key 2 (by omega) (by omega)
    rw [e, show (1 : Int) + 1 = 2 from rfl] at c1
    have cu := fun w => unpack_ok (dNum 2 s G) w q0 q1 (by rw [p1, p2, p3]; exact hd)
    rw [p1, p2, p3] at cu
    exact back_1 a s g L G (dNum 2 s G) _ _ w hE e a0 a1 s0 s1 L0 L1 G1 Gm q0 q1 p1 p3 c1 (fun w => pack_ok _ _ _ w hd (by omega) Gm) cu (fun w hE => d_text_ok _ _ _ w hE.toEnv hd (by omega) Gm) (fun w hE => d_parse_is _ _ _ _ id1 w hE)
      (fun w hE => o_text_ok _ _ _ w hE.toEnv ho (by omega) Gm) (fun w hE => o_parse_is _ _ _ _ id2 w hE) (fun w hE => o_parse_not _ z1 n1 w hE) (fun w hE => d_parse_not _ z2 n2 w hE) (fun w => pre_ok 46 2 s G 98 rfl w) (fun w => pre_ok 58 2 L G 98 rfl w)
  · obtain ⟨hd, ho, id1, id2, z1, z2, n1, n2, p1, p2, p3, q0, q1⟩ := key 3 (by omega) (by omega)
    rw [e, show (1 : Int) + 2 = 3 from rfl] at c1
    have cu := fun w => unpack_ok (dNum 3 s G) w q0 q1 (by rw [p1, p2, p3]; exact hd)
    rw [p1, p2, p3] at cu
    exact back_2 a s g L G (dNum 3 s G) _ _ w hE e a0 a1 s0 s1 L0 L1 G1 Gm q0 q1 p1 p3 c1 (fun w => pack_ok _ _ _ w hd (by omega) Gm) cu (fun w hE => d_text_ok _ _ _ w hE.toEnv hd (by omega) Gm) (fun w hE => d_parse_is _ _ _ _ id1 w hE)
      (fun w hE => o_text_ok _ _ _ w hE.toEnv ho (by omega) Gm) (fun w hE => o_parse_is _ _ _ _ id2 w hE) (fun w hE => o_parse_not _ z1 n1 w hE) (fun w hE => d_parse_not _ z2 n2 w hE) (fun w => pre_ok 46 3 s G 108 rfl w) (fun w => pre_ok 58 3 L G 108 rfl w)
end Go.Proofs.YtjonbmocamjhaaaDoor
