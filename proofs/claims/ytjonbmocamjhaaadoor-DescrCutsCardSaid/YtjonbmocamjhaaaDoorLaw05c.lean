/- The walks of DescrNames, DescrWrong. -/
import Derived.Test.YtjonbmocamjhaaaDoorLaw05b
namespace Go.Proofs.YtjonbmocamjhaaaDoor
open Go.RowKit
open Go.Lib (decDigits)
set_option linter.unusedVariables false
set_option linter.unusedSimpArgs false

set_option maxHeartbeats 2000000 in
theorem made_c (a s g : Int) (a0 : 0 ≤ a) (a1 : a ≤ 255) (s0 : 0 ≤ s) (s1 : s ≤ 255) (g0 : 0 ≤ g) (g1 : g ≤ 4294967295) (w : World) :
    Ret 32 #[.int .u8 a, .int .u8 s, .int .u32 g] w (.tuple #[dV (1 + a % 3) s (max g 1), dV (1 + a % 3) (s % 64) (max g 1)]) := by
  go_enter Tryd.func32, Tryd.ntmps32
  go_wp2
  refine bodyPost_ret (v := .tuple #[dV (1 + a % 3) s (max g 1), dV (1 + a % 3) (s % 64) (max g 1)]) (by simp [results, Tryd.results32, go_sem]) rfl ⟨rfl, ?_⟩
  go_grown
/-- What Made makes: possible numbers. -/
structure MadeIs (a s g K L G : Int) : Prop where
  k1 : 1 ≤ K
  k3 : K ≤ 3
  l0 : 0 ≤ L
  l1 : L ≤ 63
  g1 : 1 ≤ G
  gm : G ≤ 4294967295
  call : ∀ w, Ret 32 #[.int .u8 a, .int .u8 s, .int .u32 g] w (.tuple #[dV K s G, dV K L G])
theorem made_is (a s g : Int) (a0 : 0 ≤ a) (a1 : a ≤ 255) (s0 : 0 ≤ s) (s1 : s ≤ 255) (g0 : 0 ≤ g) (g1 : g ≤ 4294967295) : ∃ K L G, MadeIs a s g K L G :=
  ⟨_, _, _, ⟨by omega, by omega, by omega, by omega, by omega, by omega, fun w => made_c a s g a0 a1 s0 s1 g0 g1 w⟩⟩
theorem MadeIs.dok {a s g K L G : Int} (h : MadeIs a s g K L G) (s0 : 0 ≤ s) (s1 : s ≤ 255) : dOk 256 K s G = true := dOk_iff.2 ⟨h.k1, h.k3, s0, by omega, by have := h.g1; omega⟩
theorem MadeIs.ook {a s g K L G : Int} (h : MadeIs a s g K L G) : dOk 64 K L G = true := dOk_iff.2 ⟨h.k1, h.k3, h.l0, by have := h.l1; omega, by have := h.g1; omega⟩
theorem dNum_cmp (k s g k' s' g' : Int) (s0 : 0 ≤ s) (s1 : s ≤ 255) (g0 : 0 ≤ g) (g1 : g ≤ 4294967295) (s0' : 0 ≤ s') (s1' : s' ≤ 255) (g0' : 0 ≤ g') (g1' : g' ≤ 4294967295) :
    dOrd k s g k' s' g' = cmpI (dNum k s g) (dNum k' s' g') := by
  unfold dNum
  rcases dOrd_spec k s g k' s' g' with ⟨h, e⟩ | ⟨h, e⟩ | ⟨h, rfl, rfl, rfl⟩
  · rw [h, cmpI_lt (by omega)]
  · rw [h, cmpI_gt (by omega)]
  · rw [h, cmpI_eq]
set_option maxHeartbeats 8000000 in
set_option maxRecDepth 20000 in
theorem names_core (k1 s1 g1 k2 s2 g2 K S G K' S' G' L L' m n o : Int) (T T' : ByteArray) (B : Bool) (w : World) (hE : EnvP w)
    (c1 : ∀ w, Ret 32 #[.int .u8 k1, .int .u8 s1, .int .u32 g1] w (.tuple #[dV K S G, dV K L G])) (c2 : ∀ w, Ret 32 #[.int .u8 k2, .int .u8 s2, .int .u32 g2] w (.tuple #[dV K' S' G', dV K' L' G']))
    (c3 : ∀ w, Ret 13 #[dV K S G] w (.tuple #[.int .u64 m, .int .i64 0])) (c4 : ∀ w, Ret 13 #[dV K' S' G'] w (.tuple #[.int .u64 n, .int .i64 0]))
    (c5 : ∀ w, Env w → Ret 20 #[dV K S G] w (.tuple #[.string T, .int .i64 0])) (c6 : ∀ w, Env w → Ret 20 #[dV K' S' G'] w (.tuple #[.string T', .int .i64 0]))
    (c7 : ∀ w, Ret 30 #[dV K S G, dV K' S' G'] w (.int .i64 o)) (hT : (T.toList == T'.toList) = B) (hq : (K = K' ∧ S = S' ∧ G = G') ↔ B = true)
    (h3 : (m < n ∧ o = -1 ∧ B = false) ∨ (n < m ∧ o = 1 ∧ B = false) ∨ (n = m ∧ o = 0 ∧ B = true)) :
    Ret 7 #[.int .u8 k1, .int .u8 s1, .int .u32 g1, .int .u8 k2, .int .u8 s2, .int .u32 g2] w (.bool true) := by
  have hE0 := hE
  have hc0 := Below.refl w.heap.size w
  have hqq := d_eql K S G K' S' G' B hq
  have C1 := Lib.hid c1
  have C2 := Lib.hid c2
  have C3 := Lib.hid c3
  have C4 := Lib.hid c4
  have C5 := Lib.hid c5
  have C6 := Lib.hid c6
  have C7 := Lib.hid c7
  clear hE c1 c2 c3 c4 c5 c6 c7 hq
  rcases h3 with ⟨h, rfl, rfl⟩ | ⟨h, rfl, rfl⟩ | ⟨rfl, rfl, rfl⟩
  all_goals
    try have hmn : (m == n) = false := by rw [beq_eq_false_iff_ne]; omega
    go_enter Tryd.func7, Tryd.ntmps7
    go_wp2_with fail
    refine Calls.mono (C1.out _) ?_
    rintro e w1 ⟨rfl, hb1⟩
    obtain ⟨k1, f1⟩ := bcell hb1
    have hE1 := hE0.on (under hb1)
    have hc1 := chain hc0 (under hb1)
    clear hE0 hc0 hb1
    go_wp2_with fail
    refine Calls.mono (C2.out _) ?_
    rintro e w2 ⟨rfl, hb2⟩
    obtain ⟨k2, f2⟩ := bcell hb2
    have hE2 := hE1.on (under hb2)
    have hc2 := chain hc1 (under hb2)
    have z2_0 : w1.heap.size < w2.heap.size := by have := hb2.size; (try simp at this); omega
    clear hE1 hc1 hb2
    have y1 : w1.heap.size < w2.heap.size + 1 := by omega
    have y2 : w1.heap.size < w2.heap.size + 1 + 1 := by omega
    go_wp2_with fail
    refine Calls.mono (C3.out _) ?_
    rintro e w3 ⟨rfl, hb3⟩
    obtain ⟨k3, f3⟩ := bcell hb3
    have hE3 := hE2.on (under hb3)
    have hc3 := chain hc2 (under hb3)
    have z3_0 : w1.heap.size < w3.heap.size := by have := hb3.size; (try simp at this); omega
    have z3_1 : w2.heap.size < w3.heap.size := by have := hb3.size; (try simp at this); omega
    clear hE2 hc2 hb3
    go_wp2_with fail
    refine Calls.mono (C4.out _) ?_
    rintro e w4 ⟨rfl, hb4⟩
    obtain ⟨k4, f4⟩ := bcell hb4
    have hE4 := hE3.on (under hb4)
    have hc4 := chain hc3 (under hb4)
    have z4_0 : w1.heap.size < w4.heap.size := by have := hb4.size; (try simp at this); omega
    have z4_1 : w2.heap.size < w4.heap.size := by have := hb4.size; (try simp at this); omega
    clear hE3 hc3 hb4
    go_wp2_with fail
    refine Calls.mono (C5.out _ hE4.toEnv) ?_
    rintro e w5 ⟨rfl, hb5⟩
    obtain ⟨k5, f5⟩ := bcell hb5
    have hE5 := hE4.on (under hb5)
    have hc5 := chain hc4 (under hb5)
    have z5_0 : w1.heap.size < w5.heap.size := by have := hb5.size; (try simp at this); omega
    have z5_1 : w2.heap.size < w5.heap.size := by have := hb5.size; (try simp at this); omega
    clear hE4 hc4 hb5
    go_wp2_with fail
    refine Calls.mono (C6.out _ hE5.toEnv) ?_
    rintro e w6 ⟨rfl, hb6⟩
    obtain ⟨k6, f6⟩ := bcell hb6
    have hE6 := hE5.on (under hb6)
    have hc6 := chain hc5 (under hb6)
    have z6_0 : w1.heap.size < w6.heap.size := by have := hb6.size; (try simp at this); omega
    have z6_1 : w2.heap.size < w6.heap.size := by have := hb6.size; (try simp at this); omega
    clear hE5 hc5 hb6
    go_wp2_with fail
    refine Calls.mono (C7.out _) ?_
    rintro e w7 ⟨rfl, hb7⟩
    obtain ⟨k7, f7⟩ := bcell hb7
    have hE7 := hE6.on (under hb7)
    have hc7 := chain hc6 (under hb7)
    clear hE6 hc6 hb7
    go_wp2_with fail
    refine (works _ hE7).mono ?_
    rintro e w8 ⟨rfl, hb8⟩
    go_wp2_with fail
    go_returns
    exact ⟨rfl, chain hc7 hb8⟩
theorem names_walk (k1 s1 g1 k2 s2 g2 : Int) (w : World) (hE : EnvP w) (a0 : 0 ≤ k1) (a1 : k1 ≤ 255) (b0 : 0 ≤ s1) (b1 : s1 ≤ 255) (d0 : 0 ≤ g1) (d1 : g1 ≤ 4294967295) (a0' : 0 ≤ k2) (a1' : k2 ≤ 255) (b0' : 0 ≤ s2) (b1' : s2 ≤ 255) (d0' : 0 ≤ g2) (d1' : g2 ≤ 4294967295) :
    Ret 7 #[.int .u8 k1, .int .u8 s1, .int .u32 g1, .int .u8 k2, .int .u8 s2, .int .u32 g2] w (.bool true) := by
  obtain ⟨K, L, G, h⟩ := made_is k1 s1 g1 a0 a1 b0 b1 d0 d1
  obtain ⟨K', L', G', h'⟩ := made_is k2 s2 g2 a0' a1' b0' b1' d0' d1'
  have hg := h.g1
  have hg' := h'.g1
  have hok := h.dok b0 b1
  have hok' := h'.dok b0' b1'
  have hcmp := dNum_cmp K s1 G K' s2 G' b0 b1 (by omega) h.gm b0' b1' (by omega) h'.gm
  have hz := dOrd_zero K s1 G K' s2 G'
  refine names_core k1 s1 g1 k2 s2 g2 K s1 G K' s2 G' L L' (dNum K s1 G) (dNum K' s2 G') _ _ _ (dOrd K s1 G K' s2 G' == 0) w hE h.call h'.call (fun w => pack_ok _ _ _ w hok (by omega) h.gm) (fun w => pack_ok _ _ _ w hok' (by omega) h'.gm)
    (fun w hE => d_text_ok _ _ _ w hE hok (by omega) h.gm) (fun w hE => d_text_ok _ _ _ w hE hok' (by omega) h'.gm) (fun w => order_c _ _ _ _ _ _ w) ?_ hz ?_
  · cases hb : (dOrd K s1 G K' s2 G' == 0) with
    | true =>
      obtain ⟨rfl, rfl, rfl⟩ := hz.2 hb
      exact str_beq_same _
    | false =>
      refine str_beq_ne fun e => ?_
      have := hz.1 (dText_inj (.inl rfl) hok hok' (by omega) (by omega) e)
      rw [hb] at this; cases this
  · rw [hcmp]
    rcases cmpI_cases (dNum K s1 G) (dNum K' s2 G') with ⟨hl, e⟩ | ⟨hl, e⟩ | ⟨hl, e⟩ <;> rw [e]
    · exact .inl ⟨hl, rfl, rfl⟩
    · exact .inr (.inl ⟨hl, rfl, rfl⟩)
    · exact .inr (.inr ⟨hl.symm, rfl, rfl⟩)
end Go.Proofs.YtjonbmocamjhaaaDoor
