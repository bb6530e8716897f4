/- The reference's Rune: its contract. -/
import Derived.Test.YtkjpdciccablpaaGreatDoorL0a
namespace Go.Proofs.YtkjpdciccablpaaGreatDoor
open Go.RowKit
set_option linter.unusedVariables false
set_option linter.unusedSimpArgs false
theorem sIdx (s : ByteArray) (k : Nat) (j : Int) (hj : j = (k : Int)) (h : k < s.size) : ∀ W, (Instr.index 9 (.string s) (.int .i64 j)).run Tryz.prog W = .ok (.int .u8 (s[k].toNat : Int)) W := by
  intro W
  subst hj
  go_simp

set_option maxHeartbeats 4000000 in
set_option maxRecDepth 20000 in
theorem rune_1 (s : ByteArray) (i : Nat) (b0 : Int) (w : World) (hs : s.size ≤ 1000000) (hi : i < s.size) (x0 : ∀ W, (Instr.index 9 (.string s) (.int .i64 (i : Int))).run Tryz.prog W = .ok (.int .u8 b0) W) (l0 : 0 ≤ b0) (h0 : b0 ≤ 255) (q0 : b0 < 128) : Ret 122 #[.string s, .int .i64 i] w (.tuple #[.int .i64 b0, .int .i64 1]) := by
  have wb0 : IntKind.i64.wrap b0 = b0 := IntWalk.i64_in _ ⟨by omega, by omega⟩
  have p0 : decide (b0 < 128) = true := decide_eq_true (by omega)
  go_enter Tryz.func122, Tryz.ntmps122
  go_wp2_with fail
  go_returns
  exact ⟨rfl, Below.refl _ _⟩
set_option maxHeartbeats 4000000 in
set_option maxRecDepth 20000 in
theorem rune_0a (s : ByteArray) (i : Nat) (b0 : Int) (w : World) (hs : s.size ≤ 1000000) (hi : i < s.size) (x0 : ∀ W, (Instr.index 9 (.string s) (.int .i64 (i : Int))).run Tryz.prog W = .ok (.int .u8 b0) W) (l0 : 0 ≤ b0) (h0 : b0 ≤ 255) (q0 : 128 ≤ b0) (q1 : b0 < 192) : Ret 122 #[.string s, .int .i64 i] w (.tuple #[.int .i64 0, .int .i64 0]) := by
  have wb0 : IntKind.i64.wrap b0 = b0 := IntWalk.i64_in _ ⟨by omega, by omega⟩
  have p0 : decide (b0 < 128) = false := decide_eq_false (by omega)
  have p1 : decide ((192 : Int) ≤ b0) = false := decide_eq_false (by omega)
  have p2 : decide ((224 : Int) ≤ b0) = false := decide_eq_false (by omega)
  have p3 : decide ((240 : Int) ≤ b0) = false := decide_eq_false (by omega)
  go_enter Tryz.func122, Tryz.ntmps122
  go_wp2_with fail
  go_returns
  exact ⟨rfl, Below.refl _ _⟩
set_option maxHeartbeats 4000000 in
set_option maxRecDepth 20000 in
theorem rune_0b (s : ByteArray) (i : Nat) (b0 : Int) (w : World) (hs : s.size ≤ 1000000) (hi : i < s.size) (x0 : ∀ W, (Instr.index 9 (.string s) (.int .i64 (i : Int))).run Tryz.prog W = .ok (.int .u8 b0) W) (l0 : 0 ≤ b0) (h0 : b0 ≤ 255) (q0 : 248 ≤ b0) : Ret 122 #[.string s, .int .i64 i] w (.tuple #[.int .i64 0, .int .i64 0]) := by
  have wb0 : IntKind.i64.wrap b0 = b0 := IntWalk.i64_in _ ⟨by omega, by omega⟩
  have p0 : decide (b0 < 128) = false := decide_eq_false (by omega)
  have p1 : decide ((192 : Int) ≤ b0) = true := decide_eq_true (by omega)
  have p2 : decide (b0 < 224) = false := decide_eq_false (by omega)
  have p3 : decide ((224 : Int) ≤ b0) = true := decide_eq_true (by omega)
  have p4 : decide (b0 < 240) = false := decide_eq_false (by omega)
  have p5 : decide ((240 : Int) ≤ b0) = true := decide_eq_true (by omega)
  have p6 : decide (b0 < 248) = false := decide_eq_false (by omega)
  go_enter Tryz.func122, Tryz.ntmps122
  go_wp2_with fail
  go_returns
  exact ⟨rfl, Below.refl _ _⟩
set_option maxHeartbeats 4000000 in
set_option maxRecDepth 20000 in
theorem rune_2s (s : ByteArray) (i : Nat) (b0 : Int) (w : World) (hs : s.size ≤ 1000000) (hi : i < s.size) (x0 : ∀ W, (Instr.index 9 (.string s) (.int .i64 (i : Int))).run Tryz.prog W = .ok (.int .u8 b0) W) (l0 : 0 ≤ b0) (h0 : b0 ≤ 255) (q0 : 192 ≤ b0) (q1 : b0 < 224) (qs : s.size < i + 2) : Ret 122 #[.string s, .int .i64 i] w (.tuple #[.int .i64 0, .int .i64 0]) := by
  have wb0 : IntKind.i64.wrap b0 = b0 := IntWalk.i64_in _ ⟨by omega, by omega⟩
  have p0 : decide (b0 < 128) = false := decide_eq_false (by omega)
  have p1 : decide ((192 : Int) ≤ b0) = true := decide_eq_true (by omega)
  have p2 : decide (b0 < 224) = true := decide_eq_true (by omega)
  have p3 : decide (((s.size : Int)) < (i : Int) + 2) = true := decide_eq_true (by omega)
  go_enter Tryz.func122, Tryz.ntmps122
  go_wp2_with fail
  go_returns
  exact ⟨rfl, Below.refl _ _⟩
set_option maxHeartbeats 4000000 in
set_option maxRecDepth 20000 in
theorem rune_2l1 (s : ByteArray) (i : Nat) (b0 b1 : Int) (w : World) (hs : s.size ≤ 1000000) (hi : i < s.size) (x0 : ∀ W, (Instr.index 9 (.string s) (.int .i64 (i : Int))).run Tryz.prog W = .ok (.int .u8 b0) W) (x1 : ∀ W, (Instr.index 9 (.string s) (.int .i64 ((i : Int) + 1))).run Tryz.prog W = .ok (.int .u8 b1) W) (l0 : 0 ≤ b0) (h0 : b0 ≤ 255) (l1 : 0 ≤ b1) (h1 : b1 ≤ 255) (q0 : 192 ≤ b0) (q1 : b0 < 224) (qs : i + 2 ≤ s.size) (qb : b1 < 128) : Ret 122 #[.string s, .int .i64 i] w (.tuple #[.int .i64 0, .int .i64 0]) := by
  have wb0 : IntKind.i64.wrap b0 = b0 := IntWalk.i64_in _ ⟨by omega, by omega⟩
  have wb1 : IntKind.i64.wrap b1 = b1 := IntWalk.i64_in _ ⟨by omega, by omega⟩
  have p0 : decide (b0 < 128) = false := decide_eq_false (by omega)
  have p1 : decide ((192 : Int) ≤ b0) = true := decide_eq_true (by omega)
  have p2 : decide (b0 < 224) = true := decide_eq_true (by omega)
  have p3 : decide (((s.size : Int)) < (i : Int) + 2) = false := decide_eq_false (by omega)
  have p4 : decide (b1 < 128) = true := decide_eq_true (by omega)
  go_enter Tryz.func122, Tryz.ntmps122
  go_wp2_with fail
  refine wp_loop_rounds 1 ?_
  rw [rounds_succ]
  go_wp2_with fail
  go_returns
  exact ⟨rfl, Below.refl _ _⟩
set_option maxHeartbeats 4000000 in
set_option maxRecDepth 20000 in
theorem rune_2h1 (s : ByteArray) (i : Nat) (b0 b1 : Int) (w : World) (hs : s.size ≤ 1000000) (hi : i < s.size) (x0 : ∀ W, (Instr.index 9 (.string s) (.int .i64 (i : Int))).run Tryz.prog W = .ok (.int .u8 b0) W) (x1 : ∀ W, (Instr.index 9 (.string s) (.int .i64 ((i : Int) + 1))).run Tryz.prog W = .ok (.int .u8 b1) W) (l0 : 0 ≤ b0) (h0 : b0 ≤ 255) (l1 : 0 ≤ b1) (h1 : b1 ≤ 255) (q0 : 192 ≤ b0) (q1 : b0 < 224) (qs : i + 2 ≤ s.size) (qb : 192 ≤ b1) : Ret 122 #[.string s, .int .i64 i] w (.tuple #[.int .i64 0, .int .i64 0]) := by
  have wb0 : IntKind.i64.wrap b0 = b0 := IntWalk.i64_in _ ⟨by omega, by omega⟩
  have wb1 : IntKind.i64.wrap b1 = b1 := IntWalk.i64_in _ ⟨by omega, by omega⟩
  have p0 : decide (b0 < 128) = false := decide_eq_false (by omega)
  have p1 : decide ((192 : Int) ≤ b0) = true := decide_eq_true (by omega)
  have p2 : decide (b0 < 224) = true := decide_eq_true (by omega)
  have p3 : decide (((s.size : Int)) < (i : Int) + 2) = false := decide_eq_false (by omega)
  have p4 : decide (b1 < 128) = false := decide_eq_false (by omega)
  have p5 : decide ((192 : Int) ≤ b1) = true := decide_eq_true (by omega)
  go_enter Tryz.func122, Tryz.ntmps122
  go_wp2_with fail
  refine wp_loop_rounds 1 ?_
  rw [rounds_succ]
  go_wp2_with fail
  go_returns
  exact ⟨rfl, Below.refl _ _⟩
set_option maxHeartbeats 4000000 in
set_option maxRecDepth 20000 in
theorem rune_2low (s : ByteArray) (i : Nat) (b0 b1 : Int) (w : World) (hs : s.size ≤ 1000000) (hi : i < s.size) (x0 : ∀ W, (Instr.index 9 (.string s) (.int .i64 (i : Int))).run Tryz.prog W = .ok (.int .u8 b0) W) (x1 : ∀ W, (Instr.index 9 (.string s) (.int .i64 ((i : Int) + 1))).run Tryz.prog W = .ok (.int .u8 b1) W) (l0 : 0 ≤ b0) (h0 : b0 ≤ 255) (l1 : 0 ≤ b1) (h1 : b1 ≤ 255) (q0 : 192 ≤ b0) (q1 : b0 < 224) (qs : i + 2 ≤ s.size) (c1 : 128 ≤ b1) (d1 : b1 < 192) (qr : (b0 - 192) * 64 + b1 - 128 < 128) : Ret 122 #[.string s, .int .i64 i] w (.tuple #[.int .i64 0, .int .i64 0]) := by
  have wb0 : IntKind.i64.wrap b0 = b0 := IntWalk.i64_in _ ⟨by omega, by omega⟩
  have wb1 : IntKind.i64.wrap b1 = b1 := IntWalk.i64_in _ ⟨by omega, by omega⟩
  have p0 : decide (b0 < 128) = false := decide_eq_false (by omega)
  have p1 : decide ((192 : Int) ≤ b0) = true := decide_eq_true (by omega)
  have p2 : decide (b0 < 224) = true := decide_eq_true (by omega)
  have p3 : decide (((s.size : Int)) < (i : Int) + 2) = false := decide_eq_false (by omega)
  have p4 : decide (b1 < 128) = false := decide_eq_false (by omega)
  have p5 : decide ((192 : Int) ≤ b1) = false := decide_eq_false (by omega)
  have p6 : decide ((b0 - 192) * 64 + b1 - 128 < 128) = true := decide_eq_true (by omega)
  go_enter Tryz.func122, Tryz.ntmps122
  go_wp2_with fail
  refine wp_loop_rounds 2 ?_
  rw [rounds_succ]
  go_wp2_with fail
  rw [rounds_succ]
  go_wp2_with fail
  go_returns
  exact ⟨rfl, Below.refl _ _⟩
set_option maxHeartbeats 4000000 in
set_option maxRecDepth 20000 in
theorem rune_2ok (s : ByteArray) (i : Nat) (b0 b1 : Int) (w : World) (hs : s.size ≤ 1000000) (hi : i < s.size) (x0 : ∀ W, (Instr.index 9 (.string s) (.int .i64 (i : Int))).run Tryz.prog W = .ok (.int .u8 b0) W) (x1 : ∀ W, (Instr.index 9 (.string s) (.int .i64 ((i : Int) + 1))).run Tryz.prog W = .ok (.int .u8 b1) W) (l0 : 0 ≤ b0) (h0 : b0 ≤ 255) (l1 : 0 ≤ b1) (h1 : b1 ≤ 255) (q0 : 192 ≤ b0) (q1 : b0 < 224) (qs : i + 2 ≤ s.size) (c1 : 128 ≤ b1) (d1 : b1 < 192) (qr : 128 ≤ (b0 - 192) * 64 + b1 - 128) : Ret 122 #[.string s, .int .i64 i] w (.tuple #[.int .i64 ((b0 - 192) * 64 + b1 - 128), .int .i64 2]) := by
  have wb0 : IntKind.i64.wrap b0 = b0 := IntWalk.i64_in _ ⟨by omega, by omega⟩
  have wb1 : IntKind.i64.wrap b1 = b1 := IntWalk.i64_in _ ⟨by omega, by omega⟩
  have p0 : decide (b0 < 128) = false := decide_eq_false (by omega)
  have p1 : decide ((192 : Int) ≤ b0) = true := decide_eq_true (by omega)
  have p2 : decide (b0 < 224) = true := decide_eq_true (by omega)
  have p3 : decide (((s.size : Int)) < (i : Int) + 2) = false := decide_eq_false (by omega)
  have p4 : decide (b1 < 128) = false := decide_eq_false (by omega)
  have p5 : decide ((192 : Int) ≤ b1) = false := decide_eq_false (by omega)
  have p6 : decide ((b0 - 192) * 64 + b1 - 128 < 128) = false := decide_eq_false (by omega)
  have p7 : decide ((1114111 : Int) < (b0 - 192) * 64 + b1 - 128) = false := decide_eq_false (by omega)
  have p8 : decide ((55296 : Int) ≤ (b0 - 192) * 64 + b1 - 128) = false := decide_eq_false (by omega)
  go_enter Tryz.func122, Tryz.ntmps122
  go_wp2_with fail
  refine wp_loop_rounds 2 ?_
  rw [rounds_succ]
  go_wp2_with fail
  rw [rounds_succ]
  go_wp2_with fail
  go_returns
  exact ⟨rfl, Below.refl _ _⟩
set_option maxHeartbeats 4000000 in
set_option maxRecDepth 20000 in
theorem rune_3s (s : ByteArray) (i : Nat) (b0 : Int) (w : World) (hs : s.size ≤ 1000000) (hi : i < s.size) (x0 : ∀ W, (Instr.index 9 (.string s) (.int .i64 (i : Int))).run Tryz.prog W = .ok (.int .u8 b0) W) (l0 : 0 ≤ b0) (h0 : b0 ≤ 255) (q0 : 224 ≤ b0) (q1 : b0 < 240) (qs : s.size < i + 3) : Ret 122 #[.string s, .int .i64 i] w (.tuple #[.int .i64 0, .int .i64 0]) := by
  have wb0 : IntKind.i64.wrap b0 = b0 := IntWalk.i64_in _ ⟨by omega, by omega⟩
  have p0 : decide (b0 < 128) = false := decide_eq_false (by omega)
  have p1 : decide ((192 : Int) ≤ b0) = true := decide_eq_true (by omega)
  have p2 : decide (b0 < 224) = false := decide_eq_false (by omega)
  have p3 : decide ((224 : Int) ≤ b0) = true := decide_eq_true (by omega)
  have p4 : decide (b0 < 240) = true := decide_eq_true (by omega)
  have p5 : decide (((s.size : Int)) < (i : Int) + 3) = true := decide_eq_true (by omega)
  go_enter Tryz.func122, Tryz.ntmps122
  go_wp2_with fail
  go_returns
  exact ⟨rfl, Below.refl _ _⟩
set_option maxHeartbeats 4000000 in
set_option maxRecDepth 20000 in
theorem rune_3l1 (s : ByteArray) (i : Nat) (b0 b1 : Int) (w : World) (hs : s.size ≤ 1000000) (hi : i < s.size) (x0 : ∀ W, (Instr.index 9 (.string s) (.int .i64 (i : Int))).run Tryz.prog W = .ok (.int .u8 b0) W) (x1 : ∀ W, (Instr.index 9 (.string s) (.int .i64 ((i : Int) + 1))).run Tryz.prog W = .ok (.int .u8 b1) W) (l0 : 0 ≤ b0) (h0 : b0 ≤ 255) (l1 : 0 ≤ b1) (h1 : b1 ≤ 255) (q0 : 224 ≤ b0) (q1 : b0 < 240) (qs : i + 3 ≤ s.size) (qb : b1 < 128) : Ret 122 #[.string s, .int .i64 i] w (.tuple #[.int .i64 0, .int .i64 0]) := by
  have wb0 : IntKind.i64.wrap b0 = b0 := IntWalk.i64_in _ ⟨by omega, by omega⟩
  have wb1 : IntKind.i64.wrap b1 = b1 := IntWalk.i64_in _ ⟨by omega, by omega⟩
  have p0 : decide (b0 < 128) = false := decide_eq_false (by omega)
  have p1 : decide ((192 : Int) ≤ b0) = true := decide_eq_true (by omega)
  have p2 : decide (b0 < 224) = false := decide_eq_false (by omega)
  have p3 : decide ((224 : Int) ≤ b0) = true := decide_eq_true (by omega)
  have p4 : decide (b0 < 240) = true := decide_eq_true (by omega)
  have p5 : decide (((s.size : Int)) < (i : Int) + 3) = false := decide_eq_false (by omega)
  have p6 : decide (b1 < 128) = true := decide_eq_true (by omega)
  go_enter Tryz.func122, Tryz.ntmps122
  go_wp2_with fail
  refine wp_loop_rounds 1 ?_
  rw [rounds_succ]
  go_wp2_with fail
  go_returns
  exact ⟨rfl, Below.refl _ _⟩
set_option maxHeartbeats 4000000 in
set_option maxRecDepth 20000 in
theorem rune_3h1 (s : ByteArray) (i : Nat) (b0 b1 : Int) (w : World) (hs : s.size ≤ 1000000) (hi : i < s.size) (x0 : ∀ W, (Instr.index 9 (.string s) (.int .i64 (i : Int))).run Tryz.prog W = .ok (.int .u8 b0) W) (x1 : ∀ W, (Instr.index 9 (.string s) (.int .i64 ((i : Int) + 1))).run Tryz.prog W = .ok (.int .u8 b1) W) (l0 : 0 ≤ b0) (h0 : b0 ≤ 255) (l1 : 0 ≤ b1) (h1 : b1 ≤ 255) (q0 : 224 ≤ b0) (q1 : b0 < 240) (qs : i + 3 ≤ s.size) (qb : 192 ≤ b1) : Ret 122 #[.string s, .int .i64 i] w (.tuple #[.int .i64 0, .int .i64 0]) := by
  have wb0 : IntKind.i64.wrap b0 = b0 := IntWalk.i64_in _ ⟨by omega, by omega⟩
  have wb1 : IntKind.i64.wrap b1 = b1 := IntWalk.i64_in _ ⟨by omega, by omega⟩
  have p0 : decide (b0 < 128) = false := decide_eq_false (by omega)
  have p1 : decide ((192 : Int) ≤ b0) = true := decide_eq_true (by omega)
  have p2 : decide (b0 < 224) = false := decide_eq_false (by omega)
  have p3 : decide ((224 : Int) ≤ b0) = true := decide_eq_true (by omega)
  have p4 : decide (b0 < 240) = true := decide_eq_true (by omega)
  have p5 : decide (((s.size : Int)) < (i : Int) + 3) = false := decide_eq_false (by omega)
  have p6 : decide (b1 < 128) = false := decide_eq_false (by omega)
  have p7 : decide ((192 : Int) ≤ b1) = true := decide_eq_true (by omega)
  go_enter Tryz.func122, Tryz.ntmps122
  go_wp2_with fail
  refine wp_loop_rounds 1 ?_
  rw [rounds_succ]
  go_wp2_with fail
  go_returns
  exact ⟨rfl, Below.refl _ _⟩
set_option maxHeartbeats 4000000 in
set_option maxRecDepth 20000 in
theorem rune_3l2 (s : ByteArray) (i : Nat) (b0 b1 b2 : Int) (w : World) (hs : s.size ≤ 1000000) (hi : i < s.size) (x0 : ∀ W, (Instr.index 9 (.string s) (.int .i64 (i : Int))).run Tryz.prog W = .ok (.int .u8 b0) W) (x1 : ∀ W, (Instr.index 9 (.string s) (.int .i64 ((i : Int) + 1))).run Tryz.prog W = .ok (.int .u8 b1) W) (x2 : ∀ W, (Instr.index 9 (.string s) (.int .i64 ((i : Int) + 2))).run Tryz.prog W = .ok (.int .u8 b2) W) (l0 : 0 ≤ b0) (h0 : b0 ≤ 255) (l1 : 0 ≤ b1) (h1 : b1 ≤ 255) (l2 : 0 ≤ b2) (h2 : b2 ≤ 255) (q0 : 224 ≤ b0) (q1 : b0 < 240) (qs : i + 3 ≤ s.size) (c1 : 128 ≤ b1) (d1 : b1 < 192) (qb : b2 < 128) : Ret 122 #[.string s, .int .i64 i] w (.tuple #[.int .i64 0, .int .i64 0]) := by
  have wb0 : IntKind.i64.wrap b0 = b0 := IntWalk.i64_in _ ⟨by omega, by omega⟩
  have wb1 : IntKind.i64.wrap b1 = b1 := IntWalk.i64_in _ ⟨by omega, by omega⟩
  have wb2 : IntKind.i64.wrap b2 = b2 := IntWalk.i64_in _ ⟨by omega, by omega⟩
  have p0 : decide (b0 < 128) = false := decide_eq_false (by omega)
  have p1 : decide ((192 : Int) ≤ b0) = true := decide_eq_true (by omega)
  have p2 : decide (b0 < 224) = false := decide_eq_false (by omega)
  have p3 : decide ((224 : Int) ≤ b0) = true := decide_eq_true (by omega)
  have p4 : decide (b0 < 240) = true := decide_eq_true (by omega)
  have p5 : decide (((s.size : Int)) < (i : Int) + 3) = false := decide_eq_false (by omega)
  have p6 : decide (b1 < 128) = false := decide_eq_false (by omega)
  have p7 : decide ((192 : Int) ≤ b1) = false := decide_eq_false (by omega)
  have p8 : decide (b2 < 128) = true := decide_eq_true (by omega)
  go_enter Tryz.func122, Tryz.ntmps122
  go_wp2_with fail
  refine wp_loop_rounds 2 ?_
  rw [rounds_succ]
  go_wp2_with fail
  rw [rounds_succ]
  go_wp2_with fail
  go_returns
  exact ⟨rfl, Below.refl _ _⟩
set_option maxHeartbeats 4000000 in
set_option maxRecDepth 20000 in
theorem rune_3h2 (s : ByteArray) (i : Nat) (b0 b1 b2 : Int) (w : World) (hs : s.size ≤ 1000000) (hi : i < s.size) (x0 : ∀ W, (Instr.index 9 (.string s) (.int .i64 (i : Int))).run Tryz.prog W = .ok (.int .u8 b0) W) (x1 : ∀ W, (Instr.index 9 (.string s) (.int .i64 ((i : Int) + 1))).run Tryz.prog W = .ok (.int .u8 b1) W) (x2 : ∀ W, (Instr.index 9 (.string s) (.int .i64 ((i : Int) + 2))).run Tryz.prog W = .ok (.int .u8 b2) W) (l0 : 0 ≤ b0) (h0 : b0 ≤ 255) (l1 : 0 ≤ b1) (h1 : b1 ≤ 255) (l2 : 0 ≤ b2) (h2 : b2 ≤ 255) (q0 : 224 ≤ b0) (q1 : b0 < 240) (qs : i + 3 ≤ s.size) (c1 : 128 ≤ b1) (d1 : b1 < 192) (qb : 192 ≤ b2) : Ret 122 #[.string s, .int .i64 i] w (.tuple #[.int .i64 0, .int .i64 0]) := by
  have wb0 : IntKind.i64.wrap b0 = b0 := IntWalk.i64_in _ ⟨by omega, by omega⟩
  have wb1 : IntKind.i64.wrap b1 = b1 := IntWalk.i64_in _ ⟨by omega, by omega⟩
  have wb2 : IntKind.i64.wrap b2 = b2 := IntWalk.i64_in _ ⟨by omega, by omega⟩
  have p0 : decide (b0 < 128) = false := decide_eq_false (by omega)
  have p1 : decide ((192 : Int) ≤ b0) = true := decide_eq_true (by omega)
  have p2 : decide (b0 < 224) = false := decide_eq_false (by omega)
  have p3 : decide ((224 : Int) ≤ b0) = true := decide_eq_true (by omega)
  have p4 : decide (b0 < 240) = true := decide_eq_true (by omega)
  have p5 : decide (((s.size : Int)) < (i : Int) + 3) = false := decide_eq_false (by omega)
  have p6 : decide (b1 < 128) = false := decide_eq_false (by omega)
  have p7 : decide ((192 : Int) ≤ b1) = false := decide_eq_false (by omega)
  have p8 : decide (b2 < 128) = false := decide_eq_false (by omega)
  have p9 : decide ((192 : Int) ≤ b2) = true := decide_eq_true (by omega)
  go_enter Tryz.func122, Tryz.ntmps122
  go_wp2_with fail
  refine wp_loop_rounds 2 ?_
  rw [rounds_succ]
  go_wp2_with fail
  rw [rounds_succ]
  go_wp2_with fail
  go_returns
  exact ⟨rfl, Below.refl _ _⟩
set_option maxHeartbeats 4000000 in
set_option maxRecDepth 20000 in
theorem rune_3low (s : ByteArray) (i : Nat) (b0 b1 b2 : Int) (w : World) (hs : s.size ≤ 1000000) (hi : i < s.size) (x0 : ∀ W, (Instr.index 9 (.string s) (.int .i64 (i : Int))).run Tryz.prog W = .ok (.int .u8 b0) W) (x1 : ∀ W, (Instr.index 9 (.string s) (.int .i64 ((i : Int) + 1))).run Tryz.prog W = .ok (.int .u8 b1) W) (x2 : ∀ W, (Instr.index 9 (.string s) (.int .i64 ((i : Int) + 2))).run Tryz.prog W = .ok (.int .u8 b2) W) (l0 : 0 ≤ b0) (h0 : b0 ≤ 255) (l1 : 0 ≤ b1) (h1 : b1 ≤ 255) (l2 : 0 ≤ b2) (h2 : b2 ≤ 255) (q0 : 224 ≤ b0) (q1 : b0 < 240) (qs : i + 3 ≤ s.size) (c1 : 128 ≤ b1) (d1 : b1 < 192) (c2 : 128 ≤ b2) (d2 : b2 < 192) (qr : ((b0 - 224) * 64 + b1 - 128) * 64 + b2 - 128 < 2048) : Ret 122 #[.string s, .int .i64 i] w (.tuple #[.int .i64 0, .int .i64 0]) := by
  have wb0 : IntKind.i64.wrap b0 = b0 := IntWalk.i64_in _ ⟨by omega, by omega⟩
  have wb1 : IntKind.i64.wrap b1 = b1 := IntWalk.i64_in _ ⟨by omega, by omega⟩
  have wb2 : IntKind.i64.wrap b2 = b2 := IntWalk.i64_in _ ⟨by omega, by omega⟩
  have p0 : decide (b0 < 128) = false := decide_eq_false (by omega)
  have p1 : decide ((192 : Int) ≤ b0) = true := decide_eq_true (by omega)
  have p2 : decide (b0 < 224) = false := decide_eq_false (by omega)
  have p3 : decide ((224 : Int) ≤ b0) = true := decide_eq_true (by omega)
  have p4 : decide (b0 < 240) = true := decide_eq_true (by omega)
  have p5 : decide (((s.size : Int)) < (i : Int) + 3) = false := decide_eq_false (by omega)
  have p6 : decide (b1 < 128) = false := decide_eq_false (by omega)
  have p7 : decide ((192 : Int) ≤ b1) = false := decide_eq_false (by omega)
  have p8 : decide (b2 < 128) = false := decide_eq_false (by omega)
  have p9 : decide ((192 : Int) ≤ b2) = false := decide_eq_false (by omega)
  have p10 : decide (((b0 - 224) * 64 + b1 - 128) * 64 + b2 - 128 < 2048) = true := decide_eq_true (by omega)
  go_enter Tryz.func122, Tryz.ntmps122
  go_wp2_with fail
  refine wp_loop_rounds 3 ?_
  rw [rounds_succ]
  go_wp2_with fail
  rw [rounds_succ]
  go_wp2_with fail
  rw [rounds_succ]
  go_wp2_with fail
  go_returns
  exact ⟨rfl, Below.refl _ _⟩
set_option maxHeartbeats 4000000 in
set_option maxRecDepth 20000 in
theorem rune_3sur (s : ByteArray) (i : Nat) (b0 b1 b2 : Int) (w : World) (hs : s.size ≤ 1000000) (hi : i < s.size) (x0 : ∀ W, (Instr.index 9 (.string s) (.int .i64 (i : Int))).run Tryz.prog W = .ok (.int .u8 b0) W) (x1 : ∀ W, (Instr.index 9 (.string s) (.int .i64 ((i : Int) + 1))).run Tryz.prog W = .ok (.int .u8 b1) W) (x2 : ∀ W, (Instr.index 9 (.string s) (.int .i64 ((i : Int) + 2))).run Tryz.prog W = .ok (.int .u8 b2) W) (l0 : 0 ≤ b0) (h0 : b0 ≤ 255) (l1 : 0 ≤ b1) (h1 : b1 ≤ 255) (l2 : 0 ≤ b2) (h2 : b2 ≤ 255) (q0 : 224 ≤ b0) (q1 : b0 < 240) (qs : i + 3 ≤ s.size) (c1 : 128 ≤ b1) (d1 : b1 < 192) (c2 : 128 ≤ b2) (d2 : b2 < 192) (qr : 55296 ≤ ((b0 - 224) * 64 + b1 - 128) * 64 + b2 - 128) (qt : ((b0 - 224) * 64 + b1 - 128) * 64 + b2 - 128 ≤ 57343) : Ret 122 #[.string s, .int .i64 i] w (.tuple #[.int .i64 0, .int .i64 0]) := by
  have wb0 : IntKind.i64.wrap b0 = b0 := IntWalk.i64_in _ ⟨by omega, by omega⟩
  have wb1 : IntKind.i64.wrap b1 = b1 := IntWalk.i64_in _ ⟨by omega, by omega⟩
  have wb2 : IntKind.i64.wrap b2 = b2 := IntWalk.i64_in _ ⟨by omega, by omega⟩
  have p0 : decide (b0 < 128) = false := decide_eq_false (by omega)
  have p1 : decide ((192 : Int) ≤ b0) = true := decide_eq_true (by omega)
  have p2 : decide (b0 < 224) = false := decide_eq_false (by omega)
  have p3 : decide ((224 : Int) ≤ b0) = true := decide_eq_true (by omega)
  have p4 : decide (b0 < 240) = true := decide_eq_true (by omega)
  have p5 : decide (((s.size : Int)) < (i : Int) + 3) = false := decide_eq_false (by omega)
  have p6 : decide (b1 < 128) = false := decide_eq_false (by omega)
  have p7 : decide ((192 : Int) ≤ b1) = false := decide_eq_false (by omega)
  have p8 : decide (b2 < 128) = false := decide_eq_false (by omega)
  have p9 : decide ((192 : Int) ≤ b2) = false := decide_eq_false (by omega)
  have p10 : decide (((b0 - 224) * 64 + b1 - 128) * 64 + b2 - 128 < 2048) = false := decide_eq_false (by omega)
  have p11 : decide ((1114111 : Int) < ((b0 - 224) * 64 + b1 - 128) * 64 + b2 - 128) = false := decide_eq_false (by omega)
  have p12 : decide ((55296 : Int) ≤ ((b0 - 224) * 64 + b1 - 128) * 64 + b2 - 128) = true := decide_eq_true (by omega)
  have p13 : decide (((b0 - 224) * 64 + b1 - 128) * 64 + b2 - 128 ≤ 57343) = true := decide_eq_true (by omega)
  go_enter Tryz.func122, Tryz.ntmps122
  go_wp2_with fail
  refine wp_loop_rounds 3 ?_
  rw [rounds_succ]
  go_wp2_with fail
  rw [rounds_succ]
  go_wp2_with fail
  rw [rounds_succ]
  go_wp2_with fail
  go_returns
  exact ⟨rfl, Below.refl _ _⟩
set_option maxHeartbeats 4000000 in
set_option maxRecDepth 20000 in
theorem rune_3lo (s : ByteArray) (i : Nat) (b0 b1 b2 : Int) (w : World) (hs : s.size ≤ 1000000) (hi : i < s.size) (x0 : ∀ W, (Instr.index 9 (.string s) (.int .i64 (i : Int))).run Tryz.prog W = .ok (.int .u8 b0) W) (x1 : ∀ W, (Instr.index 9 (.string s) (.int .i64 ((i : Int) + 1))).run Tryz.prog W = .ok (.int .u8 b1) W) (x2 : ∀ W, (Instr.index 9 (.string s) (.int .i64 ((i : Int) + 2))).run Tryz.prog W = .ok (.int .u8 b2) W) (l0 : 0 ≤ b0) (h0 : b0 ≤ 255) (l1 : 0 ≤ b1) (h1 : b1 ≤ 255) (l2 : 0 ≤ b2) (h2 : b2 ≤ 255) (q0 : 224 ≤ b0) (q1 : b0 < 240) (qs : i + 3 ≤ s.size) (c1 : 128 ≤ b1) (d1 : b1 < 192) (c2 : 128 ≤ b2) (d2 : b2 < 192) (qr : 2048 ≤ ((b0 - 224) * 64 + b1 - 128) * 64 + b2 - 128) (qt : ((b0 - 224) * 64 + b1 - 128) * 64 + b2 - 128 < 55296) : Ret 122 #[.string s, .int .i64 i] w (.tuple #[.int .i64 (((b0 - 224) * 64 + b1 - 128) * 64 + b2 - 128), .int .i64 3]) := by
  have wb0 : IntKind.i64.wrap b0 = b0 := IntWalk.i64_in _ ⟨by omega, by omega⟩
  have wb1 : IntKind.i64.wrap b1 = b1 := IntWalk.i64_in _ ⟨by omega, by omega⟩
  have wb2 : IntKind.i64.wrap b2 = b2 := IntWalk.i64_in _ ⟨by omega, by omega⟩
  have p0 : decide (b0 < 128) = false := decide_eq_false (by omega)
  have p1 : decide ((192 : Int) ≤ b0) = true := decide_eq_true (by omega)
  have p2 : decide (b0 < 224) = false := decide_eq_false (by omega)
  have p3 : decide ((224 : Int) ≤ b0) = true := decide_eq_true (by omega)
  have p4 : decide (b0 < 240) = true := decide_eq_true (by omega)
  have p5 : decide (((s.size : Int)) < (i : Int) + 3) = false := decide_eq_false (by omega)
  have p6 : decide (b1 < 128) = false := decide_eq_false (by omega)
  have p7 : decide ((192 : Int) ≤ b1) = false := decide_eq_false (by omega)
  have p8 : decide (b2 < 128) = false := decide_eq_false (by omega)
  have p9 : decide ((192 : Int) ≤ b2) = false := decide_eq_false (by omega)
  have p10 : decide (((b0 - 224) * 64 + b1 - 128) * 64 + b2 - 128 < 2048) = false := decide_eq_false (by omega)
  have p11 : decide ((1114111 : Int) < ((b0 - 224) * 64 + b1 - 128) * 64 + b2 - 128) = false := decide_eq_false (by omega)
  have p12 : decide ((55296 : Int) ≤ ((b0 - 224) * 64 + b1 - 128) * 64 + b2 - 128) = false := decide_eq_false (by omega)
  go_enter Tryz.func122, Tryz.ntmps122
  go_wp2_with fail
  refine wp_loop_rounds 3 ?_
  rw [rounds_succ]
  go_wp2_with fail
  rw [rounds_succ]
  go_wp2_with fail
  rw [rounds_succ]
  go_wp2_with fail
  go_returns
  exact ⟨rfl, Below.refl _ _⟩
set_option maxHeartbeats 4000000 in
set_option maxRecDepth 20000 in
theorem rune_3hi (s : ByteArray) (i : Nat) (b0 b1 b2 : Int) (w : World) (hs : s.size ≤ 1000000) (hi : i < s.size) (x0 : ∀ W, (Instr.index 9 (.string s) (.int .i64 (i : Int))).run Tryz.prog W = .ok (.int .u8 b0) W) (x1 : ∀ W, (Instr.index 9 (.string s) (.int .i64 ((i : Int) + 1))).run Tryz.prog W = .ok (.int .u8 b1) W) (x2 : ∀ W, (Instr.index 9 (.string s) (.int .i64 ((i : Int) + 2))).run Tryz.prog W = .ok (.int .u8 b2) W) (l0 : 0 ≤ b0) (h0 : b0 ≤ 255) (l1 : 0 ≤ b1) (h1 : b1 ≤ 255) (l2 : 0 ≤ b2) (h2 : b2 ≤ 255) (q0 : 224 ≤ b0) (q1 : b0 < 240) (qs : i + 3 ≤ s.size) (c1 : 128 ≤ b1) (d1 : b1 < 192) (c2 : 128 ≤ b2) (d2 : b2 < 192) (qr : 57344 ≤ ((b0 - 224) * 64 + b1 - 128) * 64 + b2 - 128) : Ret 122 #[.string s, .int .i64 i] w (.tuple #[.int .i64 (((b0 - 224) * 64 + b1 - 128) * 64 + b2 - 128), .int .i64 3]) := by
  have wb0 : IntKind.i64.wrap b0 = b0 := IntWalk.i64_in _ ⟨by omega, by omega⟩
  have wb1 : IntKind.i64.wrap b1 = b1 := IntWalk.i64_in _ ⟨by omega, by omega⟩
  have wb2 : IntKind.i64.wrap b2 = b2 := IntWalk.i64_in _ ⟨by omega, by omega⟩
  have p0 : decide (b0 < 128) = false := decide_eq_false (by omega)
  have p1 : decide ((192 : Int) ≤ b0) = true := decide_eq_true (by omega)
  have p2 : decide (b0 < 224) = false := decide_eq_false (by omega)
  have p3 : decide ((224 : Int) ≤ b0) = true := decide_eq_true (by omega)
  have p4 : decide (b0 < 240) = true := decide_eq_true (by omega)
  have p5 : decide (((s.size : Int)) < (i : Int) + 3) = false := decide_eq_false (by omega)
  have p6 : decide (b1 < 128) = false := decide_eq_false (by omega)
  have p7 : decide ((192 : Int) ≤ b1) = false := decide_eq_false (by omega)
  have p8 : decide (b2 < 128) = false := decide_eq_false (by omega)
  have p9 : decide ((192 : Int) ≤ b2) = false := decide_eq_false (by omega)
  have p10 : decide (((b0 - 224) * 64 + b1 - 128) * 64 + b2 - 128 < 2048) = false := decide_eq_false (by omega)
  have p11 : decide ((1114111 : Int) < ((b0 - 224) * 64 + b1 - 128) * 64 + b2 - 128) = false := decide_eq_false (by omega)
  have p12 : decide ((55296 : Int) ≤ ((b0 - 224) * 64 + b1 - 128) * 64 + b2 - 128) = true := decide_eq_true (by omega)
  have p13 : decide (((b0 - 224) * 64 + b1 - 128) * 64 + b2 - 128 ≤ 57343) = false := decide_eq_false (by omega)
  go_enter Tryz.func122, Tryz.ntmps122
  go_wp2_with fail
  refine wp_loop_rounds 3 ?_
  rw [rounds_succ]
  go_wp2_with fail
  rw [rounds_succ]
  go_wp2_with fail
  rw [rounds_succ]
  go_wp2_with fail
  go_returns
  exact ⟨rfl, Below.refl _ _⟩
set_option maxHeartbeats 4000000 in
set_option maxRecDepth 20000 in
theorem rune_4s (s : ByteArray) (i : Nat) (b0 : Int) (w : World) (hs : s.size ≤ 1000000) (hi : i < s.size) (x0 : ∀ W, (Instr.index 9 (.string s) (.int .i64 (i : Int))).run Tryz.prog W = .ok (.int .u8 b0) W) (l0 : 0 ≤ b0) (h0 : b0 ≤ 255) (q0 : 240 ≤ b0) (q1 : b0 < 248) (qs : s.size < i + 4) : Ret 122 #[.string s, .int .i64 i] w (.tuple #[.int .i64 0, .int .i64 0]) := by
  have wb0 : IntKind.i64.wrap b0 = b0 := IntWalk.i64_in _ ⟨by omega, by omega⟩
  have p0 : decide (b0 < 128) = false := decide_eq_false (by omega)
  have p1 : decide ((192 : Int) ≤ b0) = true := decide_eq_true (by omega)
  have p2 : decide (b0 < 224) = false := decide_eq_false (by omega)
  have p3 : decide ((224 : Int) ≤ b0) = true := decide_eq_true (by omega)
  have p4 : decide (b0 < 240) = false := decide_eq_false (by omega)
  have p5 : decide ((240 : Int) ≤ b0) = true := decide_eq_true (by omega)
  have p6 : decide (b0 < 248) = true := decide_eq_true (by omega)
  have p7 : decide (((s.size : Int)) < (i : Int) + 4) = true := decide_eq_true (by omega)
  go_enter Tryz.func122, Tryz.ntmps122
  go_wp2_with fail
  go_returns
  exact ⟨rfl, Below.refl _ _⟩
set_option maxHeartbeats 4000000 in
set_option maxRecDepth 20000 in
theorem rune_4l1 (s : ByteArray) (i : Nat) (b0 b1 : Int) (w : World) (hs : s.size ≤ 1000000) (hi : i < s.size) (x0 : ∀ W, (Instr.index 9 (.string s) (.int .i64 (i : Int))).run Tryz.prog W = .ok (.int .u8 b0) W) (x1 : ∀ W, (Instr.index 9 (.string s) (.int .i64 ((i : Int) + 1))).run Tryz.prog W = .ok (.int .u8 b1) W) (l0 : 0 ≤ b0) (h0 : b0 ≤ 255) (l1 : 0 ≤ b1) (h1 : b1 ≤ 255) (q0 : 240 ≤ b0) (q1 : b0 < 248) (qs : i + 4 ≤ s.size) (qb : b1 < 128) : Ret 122 #[.string s, .int .i64 i] w (.tuple #[.int .i64 0, .int .i64 0]) := by
  have wb0 : IntKind.i64.wrap b0 = b0 := IntWalk.i64_in _ ⟨by omega, by omega⟩
  have wb1 : IntKind.i64.wrap b1 = b1 := IntWalk.i64_in _ ⟨by omega, by omega⟩
  have p0 : decide (b0 < 128) = false := decide_eq_false (by omega)
  have p1 : decide ((192 : Int) ≤ b0) = true := decide_eq_true (by omega)
  have p2 : decide (b0 < 224) = false := decide_eq_false (by omega)
  have p3 : decide ((224 : Int) ≤ b0) = true := decide_eq_true (by omega)
  have p4 : decide (b0 < 240) = false := decide_eq_false (by omega)
  have p5 : decide ((240 : Int) ≤ b0) = true := decide_eq_true (by omega)
  have p6 : decide (b0 < 248) = true := decide_eq_true (by omega)
  have p7 : decide (((s.size : Int)) < (i : Int) + 4) = false := decide_eq_false (by omega)
  have p8 : decide (b1 < 128) = true := decide_eq_true (by omega)
  go_enter Tryz.func122, Tryz.ntmps122
  go_wp2_with fail
  refine wp_loop_rounds 1 ?_
  rw [rounds_succ]
  go_wp2_with fail
  go_returns
  exact ⟨rfl, Below.refl _ _⟩
set_option maxHeartbeats 4000000 in
set_option maxRecDepth 20000 in
theorem rune_4h1 (s : ByteArray) (i : Nat) (b0 b1 : Int) (w : World) (hs : s.size ≤ 1000000) (hi : i < s.size) (x0 : ∀ W, (Instr.index 9 (.string s) (.int .i64 (i : Int))).run Tryz.prog W = .ok (.int .u8 b0) W) (x1 : ∀ W, (Instr.index 9 (.string s) (.int .i64 ((i : Int) + 1))).run Tryz.prog W = .ok (.int .u8 b1) W) (l0 : 0 ≤ b0) (h0 : b0 ≤ 255) (l1 : 0 ≤ b1) (h1 : b1 ≤ 255) (q0 : 240 ≤ b0) (q1 : b0 < 248) (qs : i + 4 ≤ s.size) (qb : 192 ≤ b1) : Ret 122 #[.string s, .int .i64 i] w (.tuple #[.int .i64 0, .int .i64 0]) := by
  have wb0 : IntKind.i64.wrap b0 = b0 := IntWalk.i64_in _ ⟨by omega, by omega⟩
  have wb1 : IntKind.i64.wrap b1 = b1 := IntWalk.i64_in _ ⟨by omega, by omega⟩
  have p0 : decide (b0 < 128) = false := decide_eq_false (by omega)
  have p1 : decide ((192 : Int) ≤ b0) = true := decide_eq_true (by omega)
  have p2 : decide (b0 < 224) = false := decide_eq_false (by omega)
  have p3 : decide ((224 : Int) ≤ b0) = true := decide_eq_true (by omega)
  have p4 : decide (b0 < 240) = false := decide_eq_false (by omega)
  have p5 : decide ((240 : Int) ≤ b0) = true := decide_eq_true (by omega)
  have p6 : decide (b0 < 248) = true := decide_eq_true (by omega)
  have p7 : decide (((s.size : Int)) < (i : Int) + 4) = false := decide_eq_false (by omega)
  have p8 : decide (b1 < 128) = false := decide_eq_false (by omega)
  have p9 : decide ((192 : Int) ≤ b1) = true := decide_eq_true (by omega)
  go_enter Tryz.func122, Tryz.ntmps122
  go_wp2_with fail
  refine wp_loop_rounds 1 ?_
  rw [rounds_succ]
  go_wp2_with fail
  go_returns
  exact ⟨rfl, Below.refl _ _⟩
set_option maxHeartbeats 4000000 in
set_option maxRecDepth 20000 in
theorem rune_4l2 (s : ByteArray) (i : Nat) (b0 b1 b2 : Int) (w : World) (hs : s.size ≤ 1000000) (hi : i < s.size) (x0 : ∀ W, (Instr.index 9 (.string s) (.int .i64 (i : Int))).run Tryz.prog W = .ok (.int .u8 b0) W) (x1 : ∀ W, (Instr.index 9 (.string s) (.int .i64 ((i : Int) + 1))).run Tryz.prog W = .ok (.int .u8 b1) W) (x2 : ∀ W, (Instr.index 9 (.string s) (.int .i64 ((i : Int) + 2))).run Tryz.prog W = .ok (.int .u8 b2) W) (l0 : 0 ≤ b0) (h0 : b0 ≤ 255) (l1 : 0 ≤ b1) (h1 : b1 ≤ 255) (l2 : 0 ≤ b2) (h2 : b2 ≤ 255) (q0 : 240 ≤ b0) (q1 : b0 < 248) (qs : i + 4 ≤ s.size) (c1 : 128 ≤ b1) (d1 : b1 < 192) (qb : b2 < 128) : Ret 122 #[.string s, .int .i64 i] w (.tuple #[.int .i64 0, .int .i64 0]) := by
  have wb0 : IntKind.i64.wrap b0 = b0 := IntWalk.i64_in _ ⟨by omega, by omega⟩
  have wb1 : IntKind.i64.wrap b1 = b1 := IntWalk.i64_in _ ⟨by omega, by omega⟩
  have wb2 : IntKind.i64.wrap b2 = b2 := IntWalk.i64_in _ ⟨by omega, by omega⟩
  have p0 : decide (b0 < 128) = false := decide_eq_false (by omega)
  have p1 : decide ((192 : Int) ≤ b0) = true := decide_eq_true (by omega)
  have p2 : decide (b0 < 224) = false := decide_eq_false (by omega)
  have p3 : decide ((224 : Int) ≤ b0) = true := decide_eq_true (by omega)
  have p4 : decide (b0 < 240) = false := decide_eq_false (by omega)
  have p5 : decide ((240 : Int) ≤ b0) = true := decide_eq_true (by omega)
  have p6 : decide (b0 < 248) = true := decide_eq_true (by omega)
  have p7 : decide (((s.size : Int)) < (i : Int) + 4) = false := decide_eq_false (by omega)
  have p8 : decide (b1 < 128) = false := decide_eq_false (by omega)
  have p9 : decide ((192 : Int) ≤ b1) = false := decide_eq_false (by omega)
  have p10 : decide (b2 < 128) = true := decide_eq_true (by omega)
  go_enter Tryz.func122, Tryz.ntmps122
  go_wp2_with fail
  refine wp_loop_rounds 2 ?_
  rw [rounds_succ]
  go_wp2_with fail
  rw [rounds_succ]
  go_wp2_with fail
  go_returns
  exact ⟨rfl, Below.refl _ _⟩
set_option maxHeartbeats 4000000 in
set_option maxRecDepth 20000 in
theorem rune_4h2 (s : ByteArray) (i : Nat) (b0 b1 b2 : Int) (w : World) (hs : s.size ≤ 1000000) (hi : i < s.size) (x0 : ∀ W, (Instr.index 9 (.string s) (.int .i64 (i : Int))).run Tryz.prog W = .ok (.int .u8 b0) W) (x1 : ∀ W, (Instr.index 9 (.string s) (.int .i64 ((i : Int) + 1))).run Tryz.prog W = .ok (.int .u8 b1) W) (x2 : ∀ W, (Instr.index 9 (.string s) (.int .i64 ((i : Int) + 2))).run Tryz.prog W = .ok (.int .u8 b2) W) (l0 : 0 ≤ b0) (h0 : b0 ≤ 255) (l1 : 0 ≤ b1) (h1 : b1 ≤ 255) (l2 : 0 ≤ b2) (h2 : b2 ≤ 255) (q0 : 240 ≤ b0) (q1 : b0 < 248) (qs : i + 4 ≤ s.size) (c1 : 128 ≤ b1) (d1 : b1 < 192) (qb : 192 ≤ b2) : Ret 122 #[.string s, .int .i64 i] w (.tuple #[.int .i64 0, .int .i64 0]) := by
  have wb0 : IntKind.i64.wrap b0 = b0 := IntWalk.i64_in _ ⟨by omega, by omega⟩
  have wb1 : IntKind.i64.wrap b1 = b1 := IntWalk.i64_in _ ⟨by omega, by omega⟩
  have wb2 : IntKind.i64.wrap b2 = b2 := IntWalk.i64_in _ ⟨by omega, by omega⟩
  have p0 : decide (b0 < 128) = false := decide_eq_false (by omega)
  have p1 : decide ((192 : Int) ≤ b0) = true := decide_eq_true (by omega)
  have p2 : decide (b0 < 224) = false := decide_eq_false (by omega)
  have p3 : decide ((224 : Int) ≤ b0) = true := decide_eq_true (by omega)
  have p4 : decide (b0 < 240) = false := decide_eq_false (by omega)
  have p5 : decide ((240 : Int) ≤ b0) = true := decide_eq_true (by omega)
  have p6 : decide (b0 < 248) = true := decide_eq_true (by omega)
  have p7 : decide (((s.size : Int)) < (i : Int) + 4) = false := decide_eq_false (by omega)
  have p8 : decide (b1 < 128) = false := decide_eq_false (by omega)
  have p9 : decide ((192 : Int) ≤ b1) = false := decide_eq_false (by omega)
  have p10 : decide (b2 < 128) = false := decide_eq_false (by omega)
  have p11 : decide ((192 : Int) ≤ b2) = true := decide_eq_true (by omega)
  go_enter Tryz.func122, Tryz.ntmps122
  go_wp2_with fail
  refine wp_loop_rounds 2 ?_
  rw [rounds_succ]
  go_wp2_with fail
  rw [rounds_succ]
  go_wp2_with fail
  go_returns
  exact ⟨rfl, Below.refl _ _⟩
set_option maxHeartbeats 4000000 in
set_option maxRecDepth 20000 in
theorem rune_4l3 (s : ByteArray) (i : Nat) (b0 b1 b2 b3 : Int) (w : World) (hs : s.size ≤ 1000000) (hi : i < s.size) (x0 : ∀ W, (Instr.index 9 (.string s) (.int .i64 (i : Int))).run Tryz.prog W = .ok (.int .u8 b0) W) (x1 : ∀ W, (Instr.index 9 (.string s) (.int .i64 ((i : Int) + 1))).run Tryz.prog W = .ok (.int .u8 b1) W) (x2 : ∀ W, (Instr.index 9 (.string s) (.int .i64 ((i : Int) + 2))).run Tryz.prog W = .ok (.int .u8 b2) W) (x3 : ∀ W, (Instr.index 9 (.string s) (.int .i64 ((i : Int) + 3))).run Tryz.prog W = .ok (.int .u8 b3) W) (l0 : 0 ≤ b0) (h0 : b0 ≤ 255) (l1 : 0 ≤ b1) (h1 : b1 ≤ 255) (l2 : 0 ≤ b2) (h2 : b2 ≤ 255) (l3 : 0 ≤ b3) (h3 : b3 ≤ 255) (q0 : 240 ≤ b0) (q1 : b0 < 248) (qs : i + 4 ≤ s.size) (c1 : 128 ≤ b1) (d1 : b1 < 192) (c2 : 128 ≤ b2) (d2 : b2 < 192) (qb : b3 < 128) : Ret 122 #[.string s, .int .i64 i] w (.tuple #[.int .i64 0, .int .i64 0]) := by
  have wb0 : IntKind.i64.wrap b0 = b0 := IntWalk.i64_in _ ⟨by omega, by omega⟩
  have wb1 : IntKind.i64.wrap b1 = b1 := IntWalk.i64_in _ ⟨by omega, by omega⟩
  have wb2 : IntKind.i64.wrap b2 = b2 := IntWalk.i64_in _ ⟨by omega, by omega⟩
  have wb3 : IntKind.i64.wrap b3 = b3 := IntWalk.i64_in _ ⟨by omega, by omega⟩
  have p0 : decide (b0 < 128) = false := decide_eq_false (by omega)
  have p1 : decide ((192 : Int) ≤ b0) = true := decide_eq_true (by omega)
  have p2 : decide (b0 < 224) = false := decide_eq_false (by omega)
  have p3 : decide ((224 : Int) ≤ b0) = true := decide_eq_true (by omega)
  have p4 : decide (b0 < 240) = false := decide_eq_false (by omega)
  have p5 : decide ((240 : Int) ≤ b0) = true := decide_eq_true (by omega)
  have p6 : decide (b0 < 248) = true := decide_eq_true (by omega)
  have p7 : decide (((s.size : Int)) < (i : Int) + 4) = false := decide_eq_false (by omega)
  have p8 : decide (b1 < 128) = false := decide_eq_false (by omega)
  have p9 : decide ((192 : Int) ≤ b1) = false := decide_eq_false (by omega)
  have p10 : decide (b2 < 128) = false := decide_eq_false (by omega)
  have p11 : decide ((192 : Int) ≤ b2) = false := decide_eq_false (by omega)
  have p12 : decide (b3 < 128) = true := decide_eq_true (by omega)
  go_enter Tryz.func122, Tryz.ntmps122
  go_wp2_with fail
  refine wp_loop_rounds 3 ?_
  rw [rounds_succ]
  go_wp2_with fail
  rw [rounds_succ]
  go_wp2_with fail
  rw [rounds_succ]
  go_wp2_with fail
  go_returns
  exact ⟨rfl, Below.refl _ _⟩
set_option maxHeartbeats 4000000 in
set_option maxRecDepth 20000 in
theorem rune_4h3 (s : ByteArray) (i : Nat) (b0 b1 b2 b3 : Int) (w : World) (hs : s.size ≤ 1000000) (hi : i < s.size) (x0 : ∀ W, (Instr.index 9 (.string s) (.int .i64 (i : Int))).run Tryz.prog W = .ok (.int .u8 b0) W) (x1 : ∀ W, (Instr.index 9 (.string s) (.int .i64 ((i : Int) + 1))).run Tryz.prog W = .ok (.int .u8 b1) W) (x2 : ∀ W, (Instr.index 9 (.string s) (.int .i64 ((i : Int) + 2))).run Tryz.prog W = .ok (.int .u8 b2) W) (x3 : ∀ W, (Instr.index 9 (.string s) (.int .i64 ((i : Int) + 3))).run Tryz.prog W = .ok (.int .u8 b3) W) (l0 : 0 ≤ b0) (h0 : b0 ≤ 255) (l1 : 0 ≤ b1) (h1 : b1 ≤ 255) (l2 : 0 ≤ b2) (h2 : b2 ≤ 255) (l3 : 0 ≤ b3) (h3 : b3 ≤ 255) (q0 : 240 ≤ b0) (q1 : b0 < 248) (qs : i + 4 ≤ s.size) (c1 : 128 ≤ b1) (d1 : b1 < 192) (c2 : 128 ≤ b2) (d2 : b2 < 192) (qb : 192 ≤ b3) : Ret 122 #[.string s, .int .i64 i] w (.tuple #[.int .i64 0, .int .i64 0]) := by
  have wb0 : IntKind.i64.wrap b0 = b0 := IntWalk.i64_in _ ⟨by omega, by omega⟩
  have wb1 : IntKind.i64.wrap b1 = b1 := IntWalk.i64_in _ ⟨by omega, by omega⟩
  have wb2 : IntKind.i64.wrap b2 = b2 := IntWalk.i64_in _ ⟨by omega, by omega⟩
  have wb3 : IntKind.i64.wrap b3 = b3 := IntWalk.i64_in _ ⟨by omega, by omega⟩
  have p0 : decide (b0 < 128) = false := decide_eq_false (by omega)
  have p1 : decide ((192 : Int) ≤ b0) = true := decide_eq_true (by omega)
  have p2 : decide (b0 < 224) = false := decide_eq_false (by omega)
  have p3 : decide ((224 : Int) ≤ b0) = true := decide_eq_true (by omega)
  have p4 : decide (b0 < 240) = false := decide_eq_false (by omega)
  have p5 : decide ((240 : Int) ≤ b0) = true := decide_eq_true (by omega)
  have p6 : decide (b0 < 248) = true := decide_eq_true (by omega)
  have p7 : decide (((s.size : Int)) < (i : Int) + 4) = false := decide_eq_false (by omega)
  have p8 : decide (b1 < 128) = false := decide_eq_false (by omega)
  have p9 : decide ((192 : Int) ≤ b1) = false := decide_eq_false (by omega)
  have p10 : decide (b2 < 128) = false := decide_eq_false (by omega)
  have p11 : decide ((192 : Int) ≤ b2) = false := decide_eq_false (by omega)
  have p12 : decide (b3 < 128) = false := decide_eq_false (by omega)
  have p13 : decide ((192 : Int) ≤ b3) = true := decide_eq_true (by omega)
  go_enter Tryz.func122, Tryz.ntmps122
  go_wp2_with fail
  refine wp_loop_rounds 3 ?_
  rw [rounds_succ]
  go_wp2_with fail
  rw [rounds_succ]
  go_wp2_with fail
  rw [rounds_succ]
  go_wp2_with fail
  go_returns
  exact ⟨rfl, Below.refl _ _⟩
set_option maxHeartbeats 4000000 in
set_option maxRecDepth 20000 in
theorem rune_4low (s : ByteArray) (i : Nat) (b0 b1 b2 b3 : Int) (w : World) (hs : s.size ≤ 1000000) (hi : i < s.size) (x0 : ∀ W, (Instr.index 9 (.string s) (.int .i64 (i : Int))).run Tryz.prog W = .ok (.int .u8 b0) W) (x1 : ∀ W, (Instr.index 9 (.string s) (.int .i64 ((i : Int) + 1))).run Tryz.prog W = .ok (.int .u8 b1) W) (x2 : ∀ W, (Instr.index 9 (.string s) (.int .i64 ((i : Int) + 2))).run Tryz.prog W = .ok (.int .u8 b2) W) (x3 : ∀ W, (Instr.index 9 (.string s) (.int .i64 ((i : Int) + 3))).run Tryz.prog W = .ok (.int .u8 b3) W) (l0 : 0 ≤ b0) (h0 : b0 ≤ 255) (l1 : 0 ≤ b1) (h1 : b1 ≤ 255) (l2 : 0 ≤ b2) (h2 : b2 ≤ 255) (l3 : 0 ≤ b3) (h3 : b3 ≤ 255) (q0 : 240 ≤ b0) (q1 : b0 < 248) (qs : i + 4 ≤ s.size) (c1 : 128 ≤ b1) (d1 : b1 < 192) (c2 : 128 ≤ b2) (d2 : b2 < 192) (c3 : 128 ≤ b3) (d3 : b3 < 192) (qr : (((b0 - 240) * 64 + b1 - 128) * 64 + b2 - 128) * 64 + b3 - 128 < 65536) : Ret 122 #[.string s, .int .i64 i] w (.tuple #[.int .i64 0, .int .i64 0]) := by
  have wb0 : IntKind.i64.wrap b0 = b0 := IntWalk.i64_in _ ⟨by omega, by omega⟩
  have wb1 : IntKind.i64.wrap b1 = b1 := IntWalk.i64_in _ ⟨by omega, by omega⟩
  have wb2 : IntKind.i64.wrap b2 = b2 := IntWalk.i64_in _ ⟨by omega, by omega⟩
  have wb3 : IntKind.i64.wrap b3 = b3 := IntWalk.i64_in _ ⟨by omega, by omega⟩
  have p0 : decide (b0 < 128) = false := decide_eq_false (by omega)
  have p1 : decide ((192 : Int) ≤ b0) = true := decide_eq_true (by omega)
  have p2 : decide (b0 < 224) = false := decide_eq_false (by omega)
  have p3 : decide ((224 : Int) ≤ b0) = true := decide_eq_true (by omega)
  have p4 : decide (b0 < 240) = false := decide_eq_false (by omega)
  have p5 : decide ((240 : Int) ≤ b0) = true := decide_eq_true (by omega)
  have p6 : decide (b0 < 248) = true := decide_eq_true (by omega)
  have p7 : decide (((s.size : Int)) < (i : Int) + 4) = false := decide_eq_false (by omega)
  have p8 : decide (b1 < 128) = false := decide_eq_false (by omega)
  have p9 : decide ((192 : Int) ≤ b1) = false := decide_eq_false (by omega)
  have p10 : decide (b2 < 128) = false := decide_eq_false (by omega)
  have p11 : decide ((192 : Int) ≤ b2) = false := decide_eq_false (by omega)
  have p12 : decide (b3 < 128) = false := decide_eq_false (by omega)
  have p13 : decide ((192 : Int) ≤ b3) = false := decide_eq_false (by omega)
  have p14 : decide ((((b0 - 240) * 64 + b1 - 128) * 64 + b2 - 128) * 64 + b3 - 128 < 65536) = true := decide_eq_true (by omega)
  go_enter Tryz.func122, Tryz.ntmps122
  go_wp2_with fail
  refine wp_loop_rounds 4 ?_
  rw [rounds_succ]
  go_wp2_with fail
  rw [rounds_succ]
  go_wp2_with fail
  rw [rounds_succ]
  go_wp2_with fail
  rw [rounds_succ]
  go_wp2_with fail
  go_returns
  exact ⟨rfl, Below.refl _ _⟩
set_option maxHeartbeats 4000000 in
set_option maxRecDepth 20000 in
theorem rune_4big (s : ByteArray) (i : Nat) (b0 b1 b2 b3 : Int) (w : World) (hs : s.size ≤ 1000000) (hi : i < s.size) (x0 : ∀ W, (Instr.index 9 (.string s) (.int .i64 (i : Int))).run Tryz.prog W = .ok (.int .u8 b0) W) (x1 : ∀ W, (Instr.index 9 (.string s) (.int .i64 ((i : Int) + 1))).run Tryz.prog W = .ok (.int .u8 b1) W) (x2 : ∀ W, (Instr.index 9 (.string s) (.int .i64 ((i : Int) + 2))).run Tryz.prog W = .ok (.int .u8 b2) W) (x3 : ∀ W, (Instr.index 9 (.string s) (.int .i64 ((i : Int) + 3))).run Tryz.prog W = .ok (.int .u8 b3) W) (l0 : 0 ≤ b0) (h0 : b0 ≤ 255) (l1 : 0 ≤ b1) (h1 : b1 ≤ 255) (l2 : 0 ≤ b2) (h2 : b2 ≤ 255) (l3 : 0 ≤ b3) (h3 : b3 ≤ 255) (q0 : 240 ≤ b0) (q1 : b0 < 248) (qs : i + 4 ≤ s.size) (c1 : 128 ≤ b1) (d1 : b1 < 192) (c2 : 128 ≤ b2) (d2 : b2 < 192) (c3 : 128 ≤ b3) (d3 : b3 < 192) (qr : 1114111 < (((b0 - 240) * 64 + b1 - 128) * 64 + b2 - 128) * 64 + b3 - 128) : Ret 122 #[.string s, .int .i64 i] w (.tuple #[.int .i64 0, .int .i64 0]) := by
  have wb0 : IntKind.i64.wrap b0 = b0 := IntWalk.i64_in _ ⟨by omega, by omega⟩
  have wb1 : IntKind.i64.wrap b1 = b1 := IntWalk.i64_in _ ⟨by omega, by omega⟩
  have wb2 : IntKind.i64.wrap b2 = b2 := IntWalk.i64_in _ ⟨by omega, by omega⟩
  have wb3 : IntKind.i64.wrap b3 = b3 := IntWalk.i64_in _ ⟨by omega, by omega⟩
  have p0 : decide (b0 < 128) = false := decide_eq_false (by omega)
  have p1 : decide ((192 : Int) ≤ b0) = true := decide_eq_true (by omega)
  have p2 : decide (b0 < 224) = false := decide_eq_false (by omega)
  have p3 : decide ((224 : Int) ≤ b0) = true := decide_eq_true (by omega)
  have p4 : decide (b0 < 240) = false := decide_eq_false (by omega)
  have p5 : decide ((240 : Int) ≤ b0) = true := decide_eq_true (by omega)
  have p6 : decide (b0 < 248) = true := decide_eq_true (by omega)
  have p7 : decide (((s.size : Int)) < (i : Int) + 4) = false := decide_eq_false (by omega)
  have p8 : decide (b1 < 128) = false := decide_eq_false (by omega)
  have p9 : decide ((192 : Int) ≤ b1) = false := decide_eq_false (by omega)
  have p10 : decide (b2 < 128) = false := decide_eq_false (by omega)
  have p11 : decide ((192 : Int) ≤ b2) = false := decide_eq_false (by omega)
  have p12 : decide (b3 < 128) = false := decide_eq_false (by omega)
  have p13 : decide ((192 : Int) ≤ b3) = false := decide_eq_false (by omega)
  have p14 : decide ((((b0 - 240) * 64 + b1 - 128) * 64 + b2 - 128) * 64 + b3 - 128 < 65536) = false := decide_eq_false (by omega)
  have p15 : decide ((1114111 : Int) < (((b0 - 240) * 64 + b1 - 128) * 64 + b2 - 128) * 64 + b3 - 128) = true := decide_eq_true (by omega)
  go_enter Tryz.func122, Tryz.ntmps122
  go_wp2_with fail
  refine wp_loop_rounds 4 ?_
  rw [rounds_succ]
  go_wp2_with fail
  rw [rounds_succ]
  go_wp2_with fail
  rw [rounds_succ]
  go_wp2_with fail
  rw [rounds_succ]
  go_wp2_with fail
  go_returns
  exact ⟨rfl, Below.refl _ _⟩
set_option maxHeartbeats 4000000 in
set_option maxRecDepth 20000 in
theorem rune_4ok (s : ByteArray) (i : Nat) (b0 b1 b2 b3 : Int) (w : World) (hs : s.size ≤ 1000000) (hi : i < s.size) (x0 : ∀ W, (Instr.index 9 (.string s) (.int .i64 (i : Int))).run Tryz.prog W = .ok (.int .u8 b0) W) (x1 : ∀ W, (Instr.index 9 (.string s) (.int .i64 ((i : Int) + 1))).run Tryz.prog W = .ok (.int .u8 b1) W) (x2 : ∀ W, (Instr.index 9 (.string s) (.int .i64 ((i : Int) + 2))).run Tryz.prog W = .ok (.int .u8 b2) W) (x3 : ∀ W, (Instr.index 9 (.string s) (.int .i64 ((i : Int) + 3))).run Tryz.prog W = .ok (.int .u8 b3) W) (l0 : 0 ≤ b0) (h0 : b0 ≤ 255) (l1 : 0 ≤ b1) (h1 : b1 ≤ 255) (l2 : 0 ≤ b2) (h2 : b2 ≤ 255) (l3 : 0 ≤ b3) (h3 : b3 ≤ 255) (q0 : 240 ≤ b0) (q1 : b0 < 248) (qs : i + 4 ≤ s.size) (c1 : 128 ≤ b1) (d1 : b1 < 192) (c2 : 128 ≤ b2) (d2 : b2 < 192) (c3 : 128 ≤ b3) (d3 : b3 < 192) (qr : 65536 ≤ (((b0 - 240) * 64 + b1 - 128) * 64 + b2 - 128) * 64 + b3 - 128) (qt : (((b0 - 240) * 64 + b1 - 128) * 64 + b2 - 128) * 64 + b3 - 128 ≤ 1114111) : Ret 122 #[.string s, .int .i64 i] w (.tuple #[.int .i64 ((((b0 - 240) * 64 + b1 - 128) * 64 + b2 - 128) * 64 + b3 - 128), .int .i64 4]) := by
  have wb0 : IntKind.i64.wrap b0 = b0 := IntWalk.i64_in _ ⟨by omega, by omega⟩
  have wb1 : IntKind.i64.wrap b1 = b1 := IntWalk.i64_in _ ⟨by omega, by omega⟩
  have wb2 : IntKind.i64.wrap b2 = b2 := IntWalk.i64_in _ ⟨by omega, by omega⟩
  have wb3 : IntKind.i64.wrap b3 = b3 := IntWalk.i64_in _ ⟨by omega, by omega⟩
  have p0 : decide (b0 < 128) = false := decide_eq_false (by omega)
  have p1 : decide ((192 : Int) ≤ b0) = true := decide_eq_true (by omega)
  have p2 : decide (b0 < 224) = false := decide_eq_false (by omega)
  have p3 : decide ((224 : Int) ≤ b0) = true := decide_eq_true (by omega)
  have p4 : decide (b0 < 240) = false := decide_eq_false (by omega)
  have p5 : decide ((240 : Int) ≤ b0) = true := decide_eq_true (by omega)
  have p6 : decide (b0 < 248) = true := decide_eq_true (by omega)
  have p7 : decide (((s.size : Int)) < (i : Int) + 4) = false := decide_eq_false (by omega)
  have p8 : decide (b1 < 128) = false := decide_eq_false (by omega)
  have p9 : decide ((192 : Int) ≤ b1) = false := decide_eq_false (by omega)
  have p10 : decide (b2 < 128) = false := decide_eq_false (by omega)
  have p11 : decide ((192 : Int) ≤ b2) = false := decide_eq_false (by omega)
  have p12 : decide (b3 < 128) = false := decide_eq_false (by omega)
  have p13 : decide ((192 : Int) ≤ b3) = false := decide_eq_false (by omega)
  have p14 : decide ((((b0 - 240) * 64 + b1 - 128) * 64 + b2 - 128) * 64 + b3 - 128 < 65536) = false := decide_eq_false (by omega)
  have p15 : decide ((1114111 : Int) < (((b0 - 240) * 64 + b1 - 128) * 64 + b2 - 128) * 64 + b3 - 128) = false := decide_eq_false (by omega)
  have p16 : decide ((55296 : Int) ≤ (((b0 - 240) * 64 + b1 - 128) * 64 + b2 - 128) * 64 + b3 - 128) = true := decide_eq_true (by omega)
  have p17 : decide ((((b0 - 240) * 64 + b1 - 128) * 64 + b2 - 128) * 64 + b3 - 128 ≤ 57343) = false := decide_eq_false (by omega)
  go_enter Tryz.func122, Tryz.ntmps122
  go_wp2_with fail
  refine wp_loop_rounds 4 ?_
  rw [rounds_succ]
  go_wp2_with fail
  rw [rounds_succ]
  go_wp2_with fail
  rw [rounds_succ]
  go_wp2_with fail
  rw [rounds_succ]
  go_wp2_with fail
  go_returns
  exact ⟨rfl, Below.refl _ _⟩
/-- What Rune gives. -/
def runeV : Option (Nat × Nat) → Value
  | some (r, n) => .tuple #[.int .i64 r, .int .i64 n]
  | none => .tuple #[.int .i64 0, .int .i64 0]
theorem rune_c (s : ByteArray) (i : Nat) (w : World) (hs : s.size ≤ 1000000) (hi : i < s.size) : Ret 122 #[.string s, .int .i64 i] w (runeV (rnAt s i)) := by
  rw [rnAt_N]
  have x0 : ∀ W, (Instr.index 9 (.string s) (.int .i64 (i : Int))).run Tryz.prog W = .ok (.int .u8 (((s.data.toList.drop i).getD 0 0).toNat : Int)) W := fun W => by rw [at_getD s i 0 hi]; exact sIdx s i i rfl hi W
  have x1 := fun h => sIdx s (i + 1) ((i : Int) + 1) (by omega) h
  have x2 := fun h => sIdx s (i + 2) ((i : Int) + 2) (by omega) h
  have x3 := fun h => sIdx s (i + 3) ((i : Int) + 3) (by omega) h
  have e1 := fun h => at_getD s i 1 h
  have e2 := fun h => at_getD s i 2 h
  have e3 := fun h => at_getD s i 3 h
  have y1 : ∀ h : i + 1 < s.size, ∀ W, (Instr.index 9 (.string s) (.int .i64 ((i : Int) + 1))).run Tryz.prog W = .ok (.int .u8 (((s.data.toList.drop i).getD 1 0).toNat : Int)) W := fun h W => by rw [e1 h]; exact x1 h W
  have y2 : ∀ h : i + 2 < s.size, ∀ W, (Instr.index 9 (.string s) (.int .i64 ((i : Int) + 2))).run Tryz.prog W = .ok (.int .u8 (((s.data.toList.drop i).getD 2 0).toNat : Int)) W := fun h W => by rw [e2 h]; exact x2 h W
  have y3 : ∀ h : i + 3 < s.size, ∀ W, (Instr.index 9 (.string s) (.int .i64 ((i : Int) + 3))).run Tryz.prog W = .ok (.int .u8 (((s.data.toList.drop i).getD 3 0).toNat : Int)) W := fun h W => by rw [e3 h]; exact x3 h W
  clear x1 x2 x3 e1 e2 e3
  have k0 := ((s.data.toList.drop i).getD 0 0).toNat_lt
  have k1 := ((s.data.toList.drop i).getD 1 0).toNat_lt
  have k2 := ((s.data.toList.drop i).getD 2 0).toNat_lt
  have k3 := ((s.data.toList.drop i).getD 3 0).toNat_lt
  generalize ((s.data.toList.drop i).getD 0 0).toNat = b0 at *
  generalize ((s.data.toList.drop i).getD 1 0).toNat = b1 at *
  generalize ((s.data.toList.drop i).getD 2 0).toNat = b2 at *
  generalize ((s.data.toList.drop i).getD 3 0).toNat = b3 at *
  by_cases h1 : b0 < 128
  · rw [rn_1 h1]
    exact rune_1 s i b0 w hs hi x0 (by omega) (by omega) (by omega)
  by_cases h2 : b0 < 192
  · rw [rn_0 (by omega) (.inl h2) (by omega)]
    exact rune_0a s i b0 w hs hi x0 (by omega) (by omega) (by omega) (by omega)
  by_cases h3 : 248 ≤ b0
  · rw [rn_0 (by omega) (.inr h3) (by omega)]
    exact rune_0b s i b0 w hs hi x0 (by omega) (by omega) (by omega)
  by_cases h4 : b0 < 224
  · by_cases hn : s.size < i + 2
    · rw [rn_2n (by omega) h4 (.inl (by omega))]
      exact rune_2s s i b0 w hs hi x0 (by omega) (by omega) (by omega) (by omega) hn
    by_cases c1 : b1 < 128
    · rw [rn_2n (by omega) h4 (.inr (.inl c1))]
      exact rune_2l1 s i b0 b1 w hs hi x0 (y1 (by omega)) (by omega) (by omega) (by omega) (by omega) (by omega) (by omega) (by omega) (by omega)
    by_cases d1 : 192 ≤ b1
    · rw [rn_2n (by omega) h4 (.inr (.inr (.inl d1)))]
      exact rune_2h1 s i b0 b1 w hs hi x0 (y1 (by omega)) (by omega) (by omega) (by omega) (by omega) (by omega) (by omega) (by omega) (by omega)
    by_cases hr : (b0 - 192) * 64 + (b1 - 128) < 128
    · rw [rn_2n (by omega) h4 (.inr (.inr (.inr ⟨by omega, by omega, hr⟩)))]
      exact rune_2low s i b0 b1 w hs hi x0 (y1 (by omega)) (by omega) (by omega) (by omega) (by omega) (by omega) (by omega) (by omega) (by omega) (by omega) (by omega)
    · rw [rn_2 (by omega) h4 (by omega) (by omega) (by omega) (by omega)]
      have := rune_2ok s i b0 b1 w hs hi x0 (y1 (by omega)) (by omega) (by omega) (by omega) (by omega) (by omega) (by omega) (by omega) (by omega) (by omega) (by omega)
      rw [show ((b0 : Int) - 192) * 64 + (b1 : Int) - 128 = (((b0 - 192) * 64 + (b1 - 128) : Nat) : Int) by omega] at this
      exact this
  by_cases h5 : b0 < 240
  · by_cases hn : s.size < i + 3
    · rw [rn_3n (by omega) h5 (.inl (by omega))]
      exact rune_3s s i b0 w hs hi x0 (by omega) (by omega) (by omega) (by omega) hn
    by_cases c1 : b1 < 128
    · rw [rn_3n (by omega) h5 (.inr (.inl c1))]
      exact rune_3l1 s i b0 b1 w hs hi x0 (y1 (by omega)) (by omega) (by omega) (by omega) (by omega) (by omega) (by omega) (by omega) (by omega)
    by_cases d1 : 192 ≤ b1
    · rw [rn_3n (by omega) h5 (.inr (.inr (.inl d1)))]
      exact rune_3h1 s i b0 b1 w hs hi x0 (y1 (by omega)) (by omega) (by omega) (by omega) (by omega) (by omega) (by omega) (by omega) (by omega)
    by_cases c2 : b2 < 128
    · rw [rn_3n (by omega) h5 (.inr (.inr (.inr (.inl c2))))]
      exact rune_3l2 s i b0 b1 b2 w hs hi x0 (y1 (by omega)) (y2 (by omega)) (by omega) (by omega) (by omega) (by omega) (by omega) (by omega) (by omega) (by omega) (by omega) (by omega) (by omega) (by omega)
    by_cases d2 : 192 ≤ b2
    · rw [rn_3n (by omega) h5 (.inr (.inr (.inr (.inr (.inl d2)))))]
      exact rune_3h2 s i b0 b1 b2 w hs hi x0 (y1 (by omega)) (y2 (by omega)) (by omega) (by omega) (by omega) (by omega) (by omega) (by omega) (by omega) (by omega) (by omega) (by omega) (by omega) (by omega)
    obtain ⟨r, hr⟩ : ∃ r, r = ((b0 - 224) * 64 + (b1 - 128)) * 64 + (b2 - 128) := ⟨_, rfl⟩
    have hri : (((b0 : Int) - 224) * 64 + (b1 : Int) - 128) * 64 + (b2 : Int) - 128 = (r : Int) := by omega
    by_cases q1 : r < 2048
    · rw [rn_3n (by omega) h5 (.inr (.inr (.inr (.inr (.inr ⟨⟨by omega, by omega⟩, ⟨by omega, by omega⟩, .inl (by omega)⟩)))))]
      exact rune_3low s i b0 b1 b2 w hs hi x0 (y1 (by omega)) (y2 (by omega)) (by omega) (by omega) (by omega) (by omega) (by omega) (by omega) (by omega) (by omega) (by omega) (by omega) (by omega) (by omega) (by omega) (by omega)
    by_cases q2 : 55296 ≤ r ∧ r ≤ 57343
    · rw [rn_3n (by omega) h5 (.inr (.inr (.inr (.inr (.inr ⟨⟨by omega, by omega⟩, ⟨by omega, by omega⟩, .inr (by omega)⟩)))))]
      exact rune_3sur s i b0 b1 b2 w hs hi x0 (y1 (by omega)) (y2 (by omega)) (by omega) (by omega) (by omega) (by omega) (by omega) (by omega) (by omega) (by omega) (by omega) (by omega) (by omega) (by omega) (by omega) (by omega) (by omega)
    rw [rn_3 (by omega) h5 (by omega) (by omega) (by omega) (by omega) (by omega) hr (by omega) (by omega)]
    by_cases q3 : r < 55296
    · have := rune_3lo s i b0 b1 b2 w hs hi x0 (y1 (by omega)) (y2 (by omega)) (by omega) (by omega) (by omega) (by omega) (by omega) (by omega) (by omega) (by omega) (by omega) (by omega) (by omega) (by omega) (by omega) (by omega) (by omega)
      rw [hri] at this
      exact this
    · have := rune_3hi s i b0 b1 b2 w hs hi x0 (y1 (by omega)) (y2 (by omega)) (by omega) (by omega) (by omega) (by omega) (by omega) (by omega) (by omega) (by omega) (by omega) (by omega) (by omega) (by omega) (by omega) (by omega)
      rw [hri] at this
      exact this
  · have h6 : b0 < 248 := by omega
    by_cases hn : s.size < i + 4
    · rw [rn_4n (by omega) h6 (.inl (by omega))]
      exact rune_4s s i b0 w hs hi x0 (by omega) (by omega) (by omega) (by omega) hn
    by_cases c1 : b1 < 128
    · rw [rn_4n (by omega) h6 (.inr (.inl c1))]
      exact rune_4l1 s i b0 b1 w hs hi x0 (y1 (by omega)) (by omega) (by omega) (by omega) (by omega) (by omega) (by omega) (by omega) (by omega)
    by_cases d1 : 192 ≤ b1
    · rw [rn_4n (by omega) h6 (.inr (.inr (.inl d1)))]
      exact rune_4h1 s i b0 b1 w hs hi x0 (y1 (by omega)) (by omega) (by omega) (by omega) (by omega) (by omega) (by omega) (by omega) (by omega)
    by_cases c2 : b2 < 128
    · rw [rn_4n (by omega) h6 (.inr (.inr (.inr (.inl c2))))]
      exact rune_4l2 s i b0 b1 b2 w hs hi x0 (y1 (by omega)) (y2 (by omega)) (by omega) (by omega) (by omega) (by omega) (by omega) (by omega) (by omega) (by omega) (by omega) (by omega) (by omega) (by omega)
    by_cases d2 : 192 ≤ b2
    · rw [rn_4n (by omega) h6 (.inr (.inr (.inr (.inr (.inl d2)))))]
      exact rune_4h2 s i b0 b1 b2 w hs hi x0 (y1 (by omega)) (y2 (by omega)) (by omega) (by omega) (by omega) (by omega) (by omega) (by omega) (by omega) (by omega) (by omega) (by omega) (by omega) (by omega)
    by_cases c3 : b3 < 128
    · rw [rn_4n (by omega) h6 (.inr (.inr (.inr (.inr (.inr (.inl c3))))))]
      exact rune_4l3 s i b0 b1 b2 b3 w hs hi x0 (y1 (by omega)) (y2 (by omega)) (y3 (by omega)) (by omega) (by omega) (by omega) (by omega) (by omega) (by omega) (by omega) (by omega) (by omega) (by omega) (by omega) (by omega) (by omega) (by omega) (by omega) (by omega)
    by_cases d3 : 192 ≤ b3
    · rw [rn_4n (by omega) h6 (.inr (.inr (.inr (.inr (.inr (.inr (.inl d3)))))))]
      exact rune_4h3 s i b0 b1 b2 b3 w hs hi x0 (y1 (by omega)) (y2 (by omega)) (y3 (by omega)) (by omega) (by omega) (by omega) (by omega) (by omega) (by omega) (by omega) (by omega) (by omega) (by omega) (by omega) (by omega) (by omega) (by omega) (by omega) (by omega)
    obtain ⟨r, hr⟩ : ∃ r, r = (((b0 - 240) * 64 + (b1 - 128)) * 64 + (b2 - 128)) * 64 + (b3 - 128) := ⟨_, rfl⟩
    have hri : ((((b0 : Int) - 240) * 64 + (b1 : Int) - 128) * 64 + (b2 : Int) - 128) * 64 + (b3 : Int) - 128 = (r : Int) := by omega
    by_cases q1 : r < 65536
    · rw [rn_4n (by omega) h6 (.inr (.inr (.inr (.inr (.inr (.inr (.inr ⟨⟨by omega, by omega⟩, ⟨by omega, by omega⟩, ⟨by omega, by omega⟩, .inl (by omega)⟩)))))))]
      exact rune_4low s i b0 b1 b2 b3 w hs hi x0 (y1 (by omega)) (y2 (by omega)) (y3 (by omega)) (by omega) (by omega) (by omega) (by omega) (by omega) (by omega) (by omega) (by omega) (by omega) (by omega) (by omega) (by omega) (by omega) (by omega) (by omega) (by omega) (by omega) (by omega)
    by_cases q2 : 1114111 < r
    · rw [rn_4n (by omega) h6 (.inr (.inr (.inr (.inr (.inr (.inr (.inr ⟨⟨by omega, by omega⟩, ⟨by omega, by omega⟩, ⟨by omega, by omega⟩, .inr (by omega)⟩)))))))]
      exact rune_4big s i b0 b1 b2 b3 w hs hi x0 (y1 (by omega)) (y2 (by omega)) (y3 (by omega)) (by omega) (by omega) (by omega) (by omega) (by omega) (by omega) (by omega) (by omega) (by omega) (by omega) (by omega) (by omega) (by omega) (by omega) (by omega) (by omega) (by omega) (by omega)
    rw [rn_4 (by omega) h6 (by omega) (by omega) (by omega) (by omega) (by omega) (by omega) (by omega) hr (by omega) (by omega)]
    have := rune_4ok s i b0 b1 b2 b3 w hs hi x0 (y1 (by omega)) (y2 (by omega)) (y3 (by omega)) (by omega) (by omega) (by omega) (by omega) (by omega) (by omega) (by omega) (by omega) (by omega) (by omega) (by omega) (by omega) (by omega) (by omega) (by omega) (by omega) (by omega) (by omega) (by omega)
    rw [hri] at this
    exact this
end Go.Proofs.YtkjpdciccablpaaGreatDoor
