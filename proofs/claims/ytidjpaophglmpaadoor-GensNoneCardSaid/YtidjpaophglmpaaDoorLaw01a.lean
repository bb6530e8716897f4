/- The walks of GensSteps, GensTexts, GensNewer, GensNone, GensSplit, GensOrder. -/
import Derived.Test.YtidjpaophglmpaaDoorWorks01
namespace Go.Proofs.YtidjpaophglmpaaDoor
open Go.RowKit
open Go.Lib (decDigits)

set_option maxHeartbeats 1000000 in
theorem steps_walk (g n : Int) (w : World) (hE : Env w) (h1 : 0 ≤ g) (h2 : g ≤ 4294967295) (h3 : 0 ≤ n) (h4 : n ≤ 18446744073709551615) :
    Ret 3 #[.int .u32 g, .int .u64 n] w (.bool true) := by
  have hE0 := hE
  have hc0 := Below.refl w.heap.size w
  have H4 := Lib.hid h4
  clear hE h4
  go_enter Tryd.func3, Tryd.ntmps3
  go_wp2_with fail
  refine Calls.mono (next_any g _ h1 h2) ?_
  rintro e w1 ⟨rfl, hb1⟩
  have hE1 := hE0.on hb1
  have hc1 := chain hc0 hb1
  clear hE0 hc0 hb1
  go_wp2_with fail
  refine Calls.mono (ref_Next g _ h1 h2) ?_
  rintro e w2 ⟨rfl, hb2⟩
  have hE2 := hE1.on hb2
  have hc2 := chain hc1 hb2
  clear hE1 hc1 hb2
  go_wp2_with fail
  refine Calls.mono (left_any g _ h1 h2) ?_
  rintro e w3 ⟨rfl, hb3⟩
  have hE3 := hE2.on hb3
  have hc3 := chain hc2 hb3
  clear hE2 hc2 hb3
  go_wp2_with fail
  refine Calls.mono (ref_Left g _ h1 h2) ?_
  rintro e w4 ⟨rfl, hb4⟩
  have hE4 := hE3.on hb4
  have hc4 := chain hc3 hb4
  clear hE3 hc3 hb4
  go_wp2_with fail
  refine Calls.mono (after_any g n _ h1 h2 h3 H4.out) ?_
  rintro e w5 ⟨rfl, hb5⟩
  have hE5 := hE4.on hb5
  have hc5 := chain hc4 hb5
  clear hE4 hc4 hb5
  go_wp2_with fail
  refine Calls.mono (ref_After g n _ h1 h2 h3) ?_
  rintro e w6 ⟨rfl, hb6⟩
  have hE6 := hE5.on hb6
  have hc6 := chain hc5 hb6
  clear hE5 hc5 hb6
  go_wp2_with fail
  refine Calls.mono (check_any g _ h1 h2) ?_
  rintro e w7 ⟨rfl, rfl⟩
  go_wp2_with fail
  refine Calls.mono (ref_Check g _ h1 h2) ?_
  rintro e w8 ⟨rfl, rfl⟩
  go_wp2_with fail
  refine Calls.mono (works _ hE6) ?_
  rintro e w7 ⟨rfl, hb7⟩
  go_wp2_with fail
  go_returns
  exact ⟨rfl, chain hc6 hb7⟩

set_option maxHeartbeats 1000000 in
theorem texts_walk (g : Int) (s : ByteArray) (w : World) (hE : Env w) (h1 : 0 ≤ g) (h2 : g ≤ 4294967295) :
    Ret 4 #[.int .u32 g, .string s] w (.bool true) := by
  have hE0 := hE
  have hc0 := Below.refl w.heap.size w
  clear hE
  by_cases hs : s.size ≤ 1000
  · have hs' : s.size ≤ 100000 := by omega
    go_enter Tryd.func4, Tryd.ntmps4
    go_wp2_with fail
    refine Calls.mono (text_any g _ hE0 h1 h2) ?_
    rintro e w1 ⟨rfl, hb1⟩
    have hE1 := hE0.on hb1
    have hc1 := chain hc0 hb1
    clear hE0 hc0 hb1
    go_wp2_with fail
    refine Calls.mono (ref_Text g _ h1 h2) ?_
    rintro e w2 ⟨rfl, hb2⟩
    have hE2 := hE1.on hb2
    have hc2 := chain hc1 hb2
    clear hE1 hc1 hb2
    go_wp2_with fail
    refine Calls.mono (parse_any s _ hE2 hs') ?_
    rintro e w3 ⟨rfl, hb3⟩
    have hE3 := hE2.on hb3
    have hc3 := chain hc2 hb3
    clear hE2 hc2 hb3
    go_wp2_with fail
    refine Calls.mono (ref_Parse s _) ?_
    rintro e w4 ⟨rfl, hb4⟩
    have hE4 := hE3.on hb4
    have hc4 := chain hc3 hb4
    clear hE3 hc3 hb4
    go_wp2_with fail
    refine Calls.mono (works _ hE4) ?_
    rintro e w5 ⟨rfl, hb5⟩
    have hE5 := hE4.on hb5
    have hc5 := chain hc4 hb5
    clear hE4 hc4 hb5
    go_wp2_with fail
    go_returns
    exact ⟨rfl, hc5⟩
  · have hs' : 1000 < s.size := by omega
    clear hs
    go_enter Tryd.func4, Tryd.ntmps4
    go_wp2_with fail
    refine Calls.mono (works _ hE0) ?_
    rintro e w1 ⟨rfl, hb1⟩
    have hE1 := hE0.on hb1
    have hc1 := chain hc0 hb1
    clear hE0 hc0 hb1
    go_wp2_with fail
    go_returns
    exact ⟨rfl, hc1⟩

set_option maxHeartbeats 1000000 in
theorem newer_walk (a b : Int) (w : World) (hE : Env w) (h1 : 0 ≤ a) (h2 : a ≤ 4294967295) (h3 : 0 ≤ b) (h4 : b ≤ 4294967295) :
    Ret 5 #[.int .u32 a, .int .u32 b] w (.bool true) := by
  have hE0 := hE
  have hc0 := Below.refl w.heap.size w
  clear hE
  go_enter Tryd.func5, Tryd.ntmps5
  go_wp2_with fail
  refine Calls.mono (newer_any a b _ h1 h2 h3 h4) ?_
  rintro e w1 ⟨rfl, hb1⟩
  have hE1 := hE0.on hb1
  have hc1 := chain hc0 hb1
  clear hE0 hc0 hb1
  go_wp2_with fail
  refine Calls.mono (ref_Newer a b _ h1 h2 h3 h4) ?_
  rintro e w2 ⟨rfl, hb2⟩
  have hE2 := hE1.on hb2
  have hc2 := chain hc1 hb2
  clear hE1 hc1 hb2
  go_wp2_with fail
  refine Calls.mono (works _ hE2) ?_
  rintro e w3 ⟨rfl, hb3⟩
  have hE3 := hE2.on hb3
  have hc3 := chain hc2 hb3
  clear hE2 hc2 hb3
  go_wp2_with fail
  go_returns
  exact ⟨rfl, hc3⟩

set_option maxHeartbeats 1000000 in
theorem none_walk (n : Int) (w : World) (hE : Env w) (h3 : 0 ≤ n) (h4 : n ≤ 18446744073709551615) :
    Ret 11 #[.int .u64 n] w (.bool true) := by
  have hE0 := hE
  have hc0 := Below.refl w.heap.size w
  obtain ⟨m, hm⟩ : ∃ m, IntKind.u32.wrap n = m := ⟨_, rfl⟩
  have hm1 : 0 ≤ m ∧ m ≤ 4294967295 := by rw [← hm, IntKind.wrap_u32]; omega
  obtain ⟨m0, m1⟩ := hm1
  have H4 := Lib.hid h4
  have H3 := Lib.hid h3
  clear hE h4 h3
  go_enter Tryd.func11, Tryd.ntmps11
  go_wp2_with fail
  refine Calls.mono (Ret.to (v' := .tuple #[.int .u32 0, .bool false, .int .i64 2]) (next_any 0 _ (by omega) (by omega)) (by rfl)) ?_
  rintro e w1 ⟨rfl, hb1⟩
  have hE1 := hE0.on hb1
  have hc1 := chain hc0 hb1
  clear hE0 hc0 hb1
  go_wp2_with fail
  refine Calls.mono (left_zero _) ?_
  rintro e w2 ⟨rfl, hb2⟩
  have hE2 := hE1.on hb2
  have hc2 := chain hc1 hb2
  clear hE1 hc1 hb2
  go_wp2_with fail
  refine Calls.mono (after_zero n _ H4.out) ?_
  rintro e w3 ⟨rfl, hb3⟩
  have hE3 := hE2.on hb3
  have hc3 := chain hc2 hb3
  clear hE2 hc2 hb3
  go_wp2_with fail
  refine Calls.mono (text_zero _) ?_
  rintro e w4 ⟨rfl, hb4⟩
  have hE4 := hE3.on hb4
  have hc4 := chain hc3 hb4
  clear hE3 hc3 hb4
  go_wp2_with fail
  refine Calls.mono (newer_left m _) ?_
  rintro e w5 ⟨rfl, hb5⟩
  have hE5 := hE4.on hb5
  have hc5 := chain hc4 hb5
  clear hE4 hc4 hb5
  go_wp2_with fail
  refine Calls.mono (Ret.to (newer_any m 0 _ m0 m1 (by omega) (by omega)) (by rw [gNewer_right, gErr2_right])) ?_
  rintro e w6 ⟨rfl, hb6⟩
  have hE6 := hE5.on hb6
  have hc6 := chain hc5 hb6
  clear hE5 hc5 hb6
  go_wp2_with fail
  refine Calls.mono (check_any 0 _ (by omega) (by omega)) ?_
  rintro e w7 ⟨rfl, rfl⟩
  go_wp2_with fail
  refine Calls.mono (works _ hE6) ?_
  rintro e w8 ⟨rfl, hb8⟩
  go_wp2_with fail
  go_returns
  exact ⟨rfl, chain hc6 hb8⟩
end Go.Proofs.YtidjpaophglmpaaDoor
