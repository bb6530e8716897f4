/- The walks of DescrReads and DescrBack. -/
import Derived.Test.YtjonbmocamjhaaaDoorLaw05c
namespace Go.Proofs.YtjonbmocamjhaaaDoor
open Go.RowKit
open Go.Lib (decDigits)
set_option linter.unusedVariables false
set_option linter.unusedSimpArgs false

set_option maxHeartbeats 8000000 in
set_option maxRecDepth 20000 in
theorem reads_core (n uk us ug ue bn be pk ps pg pe te ok os og oe xe : Int) (s T X : ByteArray) (w : World) (hE : EnvP w) (hs : s.size ≤ 300) (n0 : 0 ≤ n) (n1 : n ≤ 18446744073709551615)
    (c1 : ∀ w, Ret 15 #[.int .u64 n] w (.tuple #[dV uk us ug, .int .i64 ue])) (c2 : ∀ w, Ret 13 #[dV uk us ug] w (.tuple #[.int .u64 bn, .int .i64 be]))
    (c3 : ∀ w, EnvP w → Ret 22 #[.string s] w (.tuple #[dV pk ps pg, .int .i64 pe])) (c4 : ∀ w, EnvP w → Ret 20 #[dV pk ps pg] w (.tuple #[.string T, .int .i64 te]))
    (c5 : ∀ w, EnvP w → Ret 26 #[.string s] w (.tuple #[dV ok os og, .int .i64 oe])) (c6 : ∀ w, EnvP w → Ret 24 #[dV ok os og] w (.tuple #[.string X, .int .i64 xe]))
    (hU : (ue = 0 ∧ be = 0 ∧ bn = n) ∨ (ue = 2 ∧ uk = 0 ∧ us = 0 ∧ ug = 0))
    (hP : (pe = 0 ∧ te = 0 ∧ T = s ∧ oe = 9 ∧ ok = 0 ∧ os = 0 ∧ og = 0) ∨ (pe = 9 ∧ pk = 0 ∧ ps = 0 ∧ pg = 0 ∧ oe = 0 ∧ xe = 0 ∧ X = s) ∨ (pe = 9 ∧ pk = 0 ∧ ps = 0 ∧ pg = 0 ∧ oe = 9 ∧ ok = 0 ∧ os = 0 ∧ og = 0)) :
    Ret 9 #[.int .u64 n, .string s] w (.bool true) := by
  have hE0 := hE
  have hc0 := Below.refl w.heap.size w
  rcases hU with ⟨rfl, rfl, rfl⟩ | ⟨rfl, rfl, rfl, rfl⟩ <;> rcases hP with ⟨rfl, rfl, rfl, rfl, rfl, rfl, rfl⟩ | ⟨rfl, rfl, rfl, rfl, rfl, rfl, rfl⟩ | ⟨rfl, rfl, rfl, rfl, rfl, rfl, rfl, rfl⟩
  all_goals
    have C1 := Lib.hid c1
    have C2 := Lib.hid c2
    have C3 := Lib.hid c3
    have C4 := Lib.hid c4
    have C5 := Lib.hid c5
    have C6 := Lib.hid c6
    have N1 := Lib.hid n1
    clear hE c1 c2 c3 c4 c5 c6 n1
    go_enter Tryd.func9, Tryd.ntmps9
    go_wp2_with fail
    refine Calls.mono (C1.out _) ?_
    rintro e w1 ⟨rfl, hb1⟩
    obtain ⟨k1, f1⟩ := bcell hb1
    have hE1 := hE0.on (under hb1)
    have hc1 := chain hc0 (under hb1)
    clear hE0 hc0 hb1
    go_wp2_with fail
    refine Calls.mono (C2.out _) ?_
    rintro e w2 ⟨rfl, hb2⟩
    obtain ⟨k2, f2⟩ := bcell hb2
    have hE2 := hE1.on (under hb2)
    have hc2 := chain hc1 (under hb2)
    have z2_0 : w1.heap.size < w2.heap.size := by have := hb2.size; (try simp at this); omega
    clear hE1 hc1 hb2
    go_wp2_with fail
    refine Calls.mono (C3.out _ hE2) ?_
    rintro e w3 ⟨rfl, hb3⟩
    obtain ⟨k3, f3⟩ := bcell hb3
    have hE3 := hE2.on (under hb3)
    have hc3 := chain hc2 (under hb3)
    have z3_0 : w1.heap.size < w3.heap.size := by have := hb3.size; (try simp at this); omega
    clear hE2 hc2 hb3
    go_wp2_with fail
    refine Calls.mono (C4.out _ (hE3.on (by go_grown))) ?_
    rintro e w4 ⟨rfl, hb4⟩
    obtain ⟨k4, f4⟩ := bcell hb4
    have hE4 := hE3.on (under hb4)
    have hc4 := chain hc3 (under hb4)
    have z4_0 : w3.heap.size < w4.heap.size := by have := hb4.size; (try simp at this); omega
    clear hE3 hc3 hb4
    go_wp2_with fail
    refine Calls.mono (C5.out _ hE4) ?_
    rintro e w5 ⟨rfl, hb5⟩
    obtain ⟨k5, f5⟩ := bcell hb5
    have hE5 := hE4.on (under hb5)
    have hc5 := chain hc4 (under hb5)
    have z5_0 : w3.heap.size < w5.heap.size := by have := hb5.size; (try simp at this); omega
    clear hE4 hc4 hb5
    go_wp2_with fail
    refine Calls.mono (C6.out _ (hE5.on (by go_grown))) ?_
    rintro e w6 ⟨rfl, hb6⟩
    obtain ⟨k6, f6⟩ := bcell hb6
    have hE6 := hE5.on (under hb6)
    have hc6 := chain hc5 (under hb6)
    have z6_0 : w5.heap.size < w6.heap.size := by have := hb6.size; (try simp at this); omega
    clear hE5 hc5 hb6
    go_wp2_with fail
    refine (works _ hE6).mono ?_
    rintro e w7 ⟨rfl, hb7⟩
    go_wp2_with fail
    go_returns
    exact ⟨rfl, chain hc6 hb7⟩
set_option maxHeartbeats 8000000 in
set_option maxRecDepth 20000 in
theorem reads_long (n uk us ug ue bn be : Int) (s : ByteArray) (w : World) (hE : EnvP w) (hs : 300 < s.size) (n0 : 0 ≤ n) (n1 : n ≤ 18446744073709551615)
    (c1 : ∀ w, Ret 15 #[.int .u64 n] w (.tuple #[dV uk us ug, .int .i64 ue])) (c2 : ∀ w, Ret 13 #[dV uk us ug] w (.tuple #[.int .u64 bn, .int .i64 be]))
    (hU : (ue = 0 ∧ be = 0 ∧ bn = n) ∨ (ue = 2 ∧ uk = 0 ∧ us = 0 ∧ ug = 0)) :
    Ret 9 #[.int .u64 n, .string s] w (.bool true) := by
  have hE0 := hE
  have hc0 := Below.refl w.heap.size w
  rcases hU with ⟨rfl, rfl, rfl⟩ | ⟨rfl, rfl, rfl, rfl⟩
  all_goals
    have C1 := Lib.hid c1
    have C2 := Lib.hid c2
    have N1 := Lib.hid n1
    clear hE c1 c2 n1
    go_enter Tryd.func9, Tryd.ntmps9
    go_wp2_with fail
    refine Calls.mono (C1.out _) ?_
    rintro e w1 ⟨rfl, hb1⟩
    obtain ⟨k1, f1⟩ := bcell hb1
    have hE1 := hE0.on (under hb1)
    have hc1 := chain hc0 (under hb1)
    clear hE0 hc0 hb1
    go_wp2_with fail
    refine Calls.mono (C2.out _) ?_
    rintro e w2 ⟨rfl, hb2⟩
    obtain ⟨k2, f2⟩ := bcell hb2
    have hE2 := hE1.on (under hb2)
    have hc2 := chain hc1 (under hb2)
    have z2_0 : w1.heap.size < w2.heap.size := by have := hb2.size; (try simp at this); omega
    clear hE1 hc1 hb2
    go_wp2_with fail
    refine (works _ hE2).mono ?_
    rintro e w7 ⟨rfl, hb7⟩
    go_wp2_with fail
    go_returns
    exact ⟨rfl, chain hc2 hb7⟩
theorem up_pack (n : Int) (n0 : 0 ≤ n) (n1 : n ≤ 18446744073709551615) : ∃ uk us ug ue bn be : Int, (∀ w, Ret 15 #[.int .u64 n] w (.tuple #[dV uk us ug, .int .i64 ue])) ∧ (∀ w, Ret 13 #[dV uk us ug] w (.tuple #[.int .u64 bn, .int .i64 be])) ∧
    ((ue = 0 ∧ be = 0 ∧ bn = n) ∨ (ue = 2 ∧ uk = 0 ∧ us = 0 ∧ ug = 0)) := by
  cases h : dOk 256 (n / 1099511627776) (n / 4294967296 % 256) (n % 4294967296) with
  | true => exact ⟨_, _, _, _, _, _, fun w => unpack_ok n w n0 n1 h, fun w => pack_ok _ _ _ w h (by omega) (by omega), .inl ⟨rfl, rfl, dNum_back n⟩⟩
  | false => exact ⟨_, _, _, _, _, _, fun w => unpack_bad n w n0 n1 h, fun w => pack_bad 0 0 0 w (by decide) (by omega) (by omega), .inr ⟨rfl, rfl, rfl, rfl⟩⟩
theorem reads_walk (n : Int) (s : ByteArray) (w : World) (hE : EnvP w) (n0 : 0 ≤ n) (n1 : n ≤ 18446744073709551615) : Ret 9 #[.int .u64 n, .string s] w (.bool true) := by
  obtain ⟨uk, us, ug, ue, bn, be, c1, c2, hU⟩ := up_pack n n0 n1
  by_cases hs : s.size ≤ 300
  · have hs' : s.size ≤ 100000 := by omega
    by_cases hd : ∃ k l g, IsD 46 256 s.data.toList k l g
    · obtain ⟨k, l, g, hd⟩ := hd
      have ho : ∀ k' l' g', ¬ IsD 58 64 s.data.toList k' l' g' := fun k' l' g' h => dTextL_other (hd.eq.symm.trans h.eq)
      have es : dText 46 k l g = s := str_ext (by rw [dText_list, hd.eq])
      exact reads_core n uk us ug ue bn be k l g 0 0 0 0 0 9 2 s _ _ w hE hs n0 n1 c1 c2 (fun w hE => d_parse_is s k l g hd w hE) (fun w hE => d_text_ok k l g w hE.toEnv hd.ok hd.g0 hd.gm) (fun w hE => o_parse_not s hs' ho w hE)
        (fun w hE => o_text_bad 0 0 0 w (by decide) (by omega) (by omega)) hU (.inl ⟨rfl, rfl, es, rfl, rfl, rfl, rfl⟩)
    · have hd' : ∀ k l g, ¬ IsD 46 256 s.data.toList k l g := fun k l g h => hd ⟨k, l, g, h⟩
      by_cases ho : ∃ k l g, IsD 58 64 s.data.toList k l g
      · obtain ⟨k, l, g, ho⟩ := ho
        have es : dText 58 k l g = s := str_ext (by rw [dText_list, ho.eq])
        exact reads_core n uk us ug ue bn be 0 0 0 9 2 k l g 0 0 s _ _ w hE hs n0 n1 c1 c2 (fun w hE => d_parse_not s hs' hd' w hE) (fun w hE => d_text_bad 0 0 0 w (by decide) (by omega) (by omega)) (fun w hE => o_parse_is s k l g ho w hE)
          (fun w hE => o_text_ok k l g w hE.toEnv ho.ok ho.g0 ho.gm) hU (.inr (.inl ⟨rfl, rfl, rfl, rfl, rfl, rfl, es⟩))
      · have ho' : ∀ k l g, ¬ IsD 58 64 s.data.toList k l g := fun k l g h => ho ⟨k, l, g, h⟩
        exact reads_core n uk us ug ue bn be 0 0 0 9 2 0 0 0 9 2 s _ _ w hE hs n0 n1 c1 c2 (fun w hE => d_parse_not s hs' hd' w hE) (fun w hE => d_text_bad 0 0 0 w (by decide) (by omega) (by omega)) (fun w hE => o_parse_not s hs' ho' w hE)
          (fun w hE => o_text_bad 0 0 0 w (by decide) (by omega) (by omega)) hU (.inr (.inr ⟨rfl, rfl, rfl, rfl, rfl, rfl, rfl, rfl⟩))
  · exact reads_long n uk us ug ue bn be s w hE (by omega) n0 n1 c1 c2 hU
end Go.Proofs.YtjonbmocamjhaaaDoor
