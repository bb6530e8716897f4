/- StatsOnce: what one change does. -/
import Derived.Test.YtjebicdlbknemaaDoorLaw37a
namespace Go.Proofs.YtjebicdlbknemaaDoor
open Go.RowKit
set_option linter.unusedVariables false

theorem sOk_of {o l c r q : Int} (l0 : 0 ≤ l) (l1 : l ≤ 10000) (c0 : 0 ≤ c) (c1 : c ≤ 10000) (r0 : 0 ≤ r) (r1 : r ≤ 10000) (q0 : 0 ≤ q) (q1 : q ≤ 10000) (hm : l + c + r + q ≤ 10000) (ho : l + c + r + q = o) : sOk o l c r q = true := by
  unfold sOk
  rw [decide_eq_true_iff]
  omega
theorem good_of {o l c r q o' l' c' r' q' want : Int} (h : sOk o l c r q = true) (h' : sOk o' l' c' r' q' = true) (hw : o' - r' - (o - r) = want) : Good o l c r q o' l' c' r' q' want (o - r) (o' - r') := by
  have k := sOk_parts h
  have k' := sOk_parts h'
  exact ⟨fun w => check_ok _ _ _ _ _ w h', fun w => used_ok _ _ _ _ _ w h, fun w => used_ok _ _ _ _ _ w h', by omega, by omega, by omega, by omega, by rw [hw]; exact beq_self_eq_true _, by omega⟩
theorem outs_of (l c r q F T : Int) (Q : Nat) (l0 : 0 ≤ l) (l1 : l ≤ 2500) (c0 : 0 ≤ c) (c1 : c ≤ 2500) (r0 : 0 ≤ r) (r1 : r ≤ 2500) (q0 : 0 ≤ q) (q1 : q ≤ 2500)
    (h : (Q = 0 ∧ F = 0 ∧ T = 1) ∨ (Q = 1 ∧ F = 1 ∧ T = 2) ∨ (Q = 2 ∧ F = 2 ∧ T = 2) ∨ (Q = 3 ∧ F = 2 ∧ T = 3) ∨ (Q = 4 ∧ F = 2 ∧ T = 4)) : Outs (l + c + r + q) l c r q F T := by
  have L1 : l ≤ 10000 := by omega
  have C1 : c ≤ 10000 := by omega
  have R1 : r ≤ 10000 := by omega
  have Q1 : q ≤ 10000 := by omega
  have hm : l + c + r + q ≤ 10000 := by omega
  have hs : sOk (l + c + r + q) l c r q = true := sOk_of l0 L1 c0 C1 r0 R1 q0 Q1 hm rfl
  rcases h with ⟨-, rfl, rfl⟩ | ⟨-, rfl, rfl⟩ | ⟨-, rfl, rfl⟩ | ⟨-, rfl, rfl⟩ | ⟨-, rfl, rfl⟩
  · by_cases hx : l + c + r + q ≤ 9999
    · exact .open_ _ _ (by rw [beq_eq_false_iff_ne]; omega) (fun w => add_01 l c r q w l0 L1 c0 C1 r0 R1 q0 Q1 hx) (good_of hs (sOk_of (by omega) (by omega) c0 C1 r0 R1 q0 Q1 (by omega) (by omega)) (by omega))
    · exact .over (by omega) (fun w => add_over _ l c r q w l0 L1 c0 C1 r0 R1 q0 Q1 rfl (by rw [beq_iff_eq]; omega))
  · by_cases hx : 1 ≤ l
    · exact .c12 _ _ (by rw [beq_eq_false_iff_ne]; omega) (fun w => add_12 l c r q w l0 L1 c0 C1 r0 R1 q0 Q1 hm hx) (good_of hs (sOk_of (by omega) (by omega) (by omega) (by omega) r0 R1 q0 Q1 (by omega) (by omega)) (by omega))
    · obtain rfl : l = 0 := by omega
      have hz : 0 + c + r + q = c + r + q := by omega
      rw [hz]
      exact .no1 rfl (fun w => add_s12 c r q w c0 C1 r0 R1 q0 Q1 (by omega))
  · by_cases hx : 1 ≤ c
    · exact .c22 _ _ (by rw [beq_eq_false_iff_ne]; omega) (fun w => add_22 l c r q w l0 L1 c0 C1 r0 R1 q0 Q1 hm hx) (good_of hs hs (by omega))
    · obtain rfl : c = 0 := by omega
      have hz : l + 0 + r + q = l + r + q := by omega
      rw [hz]
      exact .no22 rfl (fun w => add_s22 l r q w l0 L1 r0 R1 q0 Q1 (by omega))
  · by_cases hx : 1 ≤ c
    · exact .c23 _ _ (by rw [beq_eq_false_iff_ne]; omega) (fun w => add_23 l c r q w l0 L1 c0 C1 r0 R1 q0 Q1 hm hx) (good_of hs (sOk_of l0 L1 (by omega) (by omega) (by omega) (by omega) q0 Q1 (by omega) (by omega)) (by omega))
    · obtain rfl : c = 0 := by omega
      have hz : l + 0 + r + q = l + r + q := by omega
      rw [hz]
      exact .no23 rfl (fun w => add_s23 l r q w l0 L1 r0 R1 q0 Q1 (by omega))
  · by_cases hx : 1 ≤ c
    · exact .c24 _ _ (by rw [beq_eq_false_iff_ne]; omega) (fun w => add_24 l c r q w l0 L1 c0 C1 r0 R1 q0 Q1 hm hx) (good_of hs (sOk_of l0 L1 (by omega) (by omega) r0 R1 (by omega) (by omega) (by omega) (by omega)) (by omega))
    · obtain rfl : c = 0 := by omega
      have hz : l + 0 + r + q = l + r + q := by omega
      rw [hz]
      exact .no24 rfl (fun w => add_s24 l r q w l0 L1 r0 R1 q0 Q1 (by omega))
theorem once_walk (a b c d h : Int) (w : World) (hE : Env w) (a0 : 0 ≤ a) (a1 : a ≤ 65535) (b0 : 0 ≤ b) (b1 : b ≤ 65535) (c0 : 0 ≤ c) (c1 : c ≤ 65535) (d0 : 0 ≤ d) (d1 : d ≤ 65535) (h0 : 0 ≤ h) (h1 : h ≤ 255) :
    Ret 4 #[.agg #[.int .u16 a, .int .u16 b, .int .u16 c, .int .u16 d], .int .u8 h] w (.bool true) := by
  obtain ⟨Q, hQ⟩ : ∃ Q : Nat, h % 5 = (Q : Int) := ⟨(h % 5).toNat, by omega⟩
  obtain ⟨F, T, hFT⟩ : ∃ F T : Int, (Q = 0 ∧ F = 0 ∧ T = 1) ∨ (Q = 1 ∧ F = 1 ∧ T = 2) ∨ (Q = 2 ∧ F = 2 ∧ T = 2) ∨ (Q = 3 ∧ F = 2 ∧ T = 3) ∨ (Q = 4 ∧ F = 2 ∧ T = 4) := by
    have : Q < 5 := by omega
    rcases (by omega : Q = 0 ∨ Q = 1 ∨ Q = 2 ∨ Q = 3 ∨ Q = 4) with h | h | h | h | h
    · exact ⟨0, 1, by simp [h]⟩
    · exact ⟨1, 2, by simp [h]⟩
    · exact ⟨2, 2, by simp [h]⟩
    · exact ⟨2, 3, by simp [h]⟩
    · exact ⟨2, 4, by simp [h]⟩
  exact once_any a b c d h _ _ _ _ _ F T Q w hE (by rw [Int.tmod_eq_emod_of_nonneg h0]; exact hQ) (by omega) (fun w => made_ret a b c d w a0 a1 b0 b1 c0 c1 d0 d1) (fun w => changes_at w Q F T hFT)
    (outs_of _ _ _ _ F T Q (by omega) (by omega) (by omega) (by omega) (by omega) (by omega) (by omega) (by omega) hFT)
end Go.Proofs.YtjebicdlbknemaaDoor
