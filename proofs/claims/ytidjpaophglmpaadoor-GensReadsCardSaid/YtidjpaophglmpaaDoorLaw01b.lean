/- The walks of GensSplit, GensOrder, GensReads, GensBack. -/
import Derived.Test.YtidjpaophglmpaaDoorWorks01
namespace Go.Proofs.YtidjpaophglmpaaDoor
open Go.RowKit
open Go.Lib (decDigits)

theorem max_one (g : Int) (h1 : 0 ≤ g) (h2 : g ≤ 4294967295) : ∃ x, max g 1 = x ∧ 1 ≤ x ∧ x ≤ 4294967295 := ⟨_, rfl, by omega, by omega⟩

set_option maxHeartbeats 1000000 in
theorem split_walk (g m n : Int) (w : World) (hE : Env w) (h1 : 0 ≤ g) (h2 : g ≤ 4294967295) (h3 : 0 ≤ m) (h4 : m ≤ 4294967295) (h5 : 0 ≤ n) (h6 : n ≤ 4294967295) :
    Ret 7 #[.int .u32 g, .int .u32 m, .int .u32 n] w (.bool true) := by
  have hE0 := hE
  have hc0 := Below.refl w.heap.size w
  obtain ⟨x, hx, x1, x2⟩ := max_one g h1 h2
  clear hE
  by_cases hm : m ≤ 4294967295 - x
  · by_cases hn : m + n ≤ 4294967295 - x
    · go_enter Tryd.func7, Tryd.ntmps7
      go_wp2_with fail
      refine Calls.mono (after_in x m _ x1 x2 h3 hm) ?_
      rintro e w1 ⟨rfl, hb1⟩
      have hE1 := hE0.on hb1
      have hc1 := chain hc0 hb1
      clear hE0 hc0 hb1
      go_wp2_with fail
      refine Calls.mono (after_in x (m + n) _ x1 x2 (by omega) hn) ?_
      rintro e w2 ⟨rfl, hb2⟩
      have hE2 := hE1.on hb2
      have hc2 := chain hc1 hb2
      clear hE1 hc1 hb2
      go_wp2_with fail
      refine Calls.mono (after_in (x + m) n _ (by omega) (by omega) h5 (by omega)) ?_
      rintro e w3 ⟨rfl, hb3⟩
      have hE3 := hE2.on hb3
      have hc3 := chain hc2 hb3
      clear hE2 hc2 hb3
      have e : ((x + m + n : Int) == x + (m + n)) = true := by rw [beq_iff_eq]; omega
      have e' : ((x + (m + n) : Int) == x + m + n) = true := by rw [beq_iff_eq]; omega
      go_wp2_with fail
      refine Calls.mono (works _ hE3) ?_
      rintro e w4 ⟨rfl, hb4⟩
      have hE4 := hE3.on hb4
      have hc4 := chain hc3 hb4
      clear hE3 hc3 hb4
      go_wp2_with fail
      go_returns
      exact ⟨rfl, hc4⟩
    · go_enter Tryd.func7, Tryd.ntmps7
      go_wp2_with fail
      refine Calls.mono (after_in x m _ x1 x2 h3 hm) ?_
      rintro e w1 ⟨rfl, hb1⟩
      have hE1 := hE0.on hb1
      have hc1 := chain hc0 hb1
      clear hE0 hc0 hb1
      go_wp2_with fail
      refine Calls.mono (after_out x (m + n) _ x1 x2 (by omega)) ?_
      rintro e w2 ⟨rfl, hb2⟩
      have hE2 := hE1.on hb2
      have hc2 := chain hc1 hb2
      clear hE1 hc1 hb2
      go_wp2_with fail
      refine Calls.mono (after_out (x + m) n _ (by omega) (by omega) (by omega)) ?_
      rintro e w3 ⟨rfl, hb3⟩
      have hE3 := hE2.on hb3
      have hc3 := chain hc2 hb3
      clear hE2 hc2 hb3
      go_wp2_with fail
      refine Calls.mono (works _ hE3) ?_
      rintro e w4 ⟨rfl, hb4⟩
      have hE4 := hE3.on hb4
      have hc4 := chain hc3 hb4
      clear hE3 hc3 hb4
      go_wp2_with fail
      go_returns
      exact ⟨rfl, hc4⟩
  · go_enter Tryd.func7, Tryd.ntmps7
    go_wp2_with fail
    refine Calls.mono (after_out x m _ x1 x2 (by omega)) ?_
    rintro e w1 ⟨rfl, hb1⟩
    have hE1 := hE0.on hb1
    have hc1 := chain hc0 hb1
    clear hE0 hc0 hb1
    go_wp2_with fail
    refine Calls.mono (after_out x (m + n) _ x1 x2 (by omega)) ?_
    rintro e w2 ⟨rfl, hb2⟩
    have hE2 := hE1.on hb2
    have hc2 := chain hc1 hb2
    clear hE1 hc1 hb2
    go_wp2_with fail
    refine Calls.mono (works _ hE2) ?_
    rintro e w3 ⟨rfl, hb3⟩
    have hE3 := hE2.on hb3
    have hc3 := chain hc2 hb3
    clear hE2 hc2 hb3
    go_wp2_with fail
    go_returns
    exact ⟨rfl, hc3⟩

set_option maxHeartbeats 2000000 in
/-- What the later part of GensOrder comes to, whatever the four answers were. -/
theorem order_core (a b c x y z : Int) (w : World) (hE : Env w) (hx : max a 1 = x) (hy : max b 1 = y) (hz : max c 1 = z) (x1 : 1 ≤ x) (x2 : x ≤ 4294967295) (y1 : 1 ≤ y) (y2 : y ≤ 4294967295) (z1 : 1 ≤ z) (z2 : z ≤ 4294967295)
    (c0 : 0 ≤ c) (c1 : c ≤ 4294967295) (p q r s t : Bool) (hp : decide (y < x) = p) (hq : decide (x < y) = q) (hr : decide (z < y) = r) (hs : decide (z < x) = s) (ht : (x == y) = t)
    (ok : (p = true ∧ q = false ∧ t = false ∧ (r = false ∨ s = true)) ∨ (p = false ∧ q = true ∧ t = false) ∨ (p = false ∧ q = false ∧ t = true)) :
    Ret 8 #[.int .u32 a, .int .u32 b, .int .u32 c] w (.bool true) := by
  have hE0 := hE
  have hc0 := Below.refl w.heap.size w
  clear hE
  have n1 := fun w => (newer_pos x y w x1 x2 y1 y2).to (v' := .tuple #[.bool p, .int .i64 0]) (by rw [hp])
  have n2 := fun w => (newer_pos y x w y1 y2 x1 x2).to (v' := .tuple #[.bool q, .int .i64 0]) (by rw [hq])
  have n3 := fun w => (newer_pos y z w y1 y2 z1 z2).to (v' := .tuple #[.bool r, .int .i64 0]) (by rw [hr])
  have n4 := fun w => (newer_pos x z w x1 x2 z1 z2).to (v' := .tuple #[.bool s, .int .i64 0]) (by rw [hs])
  have N1 := Lib.hid n1
  have N2 := Lib.hid n2
  have N3 := Lib.hid n3
  have N4 := Lib.hid n4
  clear n1 n2 n3 n4 hp hq hr hs
  by_cases hc : c ≤ 4294967295 - y
  · have n5 := fun w => (newer_pos (y + c) y w (by omega) (by omega) y1 y2).to (v' := .tuple #[.bool (decide (0 < c)), .int .i64 0]) (by
      rw [show decide (y < y + c) = decide (0 < c) by rw [decide_eq_decide]; omega])
    have N5 := Lib.hid n5
    clear n5
    rcases ok with ⟨rfl, rfl, rfl, hrs⟩ | ⟨rfl, rfl, rfl⟩ | ⟨rfl, rfl, rfl⟩
    · rcases hrs with rfl | rfl
      · go_enter Tryd.func8, Tryd.ntmps8
        go_wp2_with fail
        refine Calls.mono (N1.out _) ?_
        rintro e w1 ⟨rfl, hb1⟩
        have hE1 := hE0.on hb1
        have hc1 := chain hc0 hb1
        clear hE0 hc0 hb1
        go_wp2_with fail
        refine Calls.mono (N2.out _) ?_
        rintro e w2 ⟨rfl, hb2⟩
        have hE2 := hE1.on hb2
        have hc2 := chain hc1 hb2
        clear hE1 hc1 hb2
        go_wp2_with fail
        refine Calls.mono (N3.out _) ?_
        rintro e w3 ⟨rfl, hb3⟩
        have hE3 := hE2.on hb3
        have hc3 := chain hc2 hb3
        clear hE2 hc2 hb3
        go_wp2_with fail
        refine Calls.mono (N4.out _) ?_
        rintro e w4 ⟨rfl, hb4⟩
        have hE4 := hE3.on hb4
        have hc4 := chain hc3 hb4
        clear hE3 hc3 hb4
        go_wp2_with fail
        refine Calls.mono (after_in y c _ y1 y2 c0 hc) ?_
        rintro e w5 ⟨rfl, hb5⟩
        have hE5 := hE4.on hb5
        have hc5 := chain hc4 hb5
        clear hE4 hc4 hb5
        go_wp2_with fail
        refine Calls.mono (N5.out _) ?_
        rintro e w6 ⟨rfl, hb6⟩
        have hE6 := hE5.on hb6
        have hc6 := chain hc5 hb6
        clear hE5 hc5 hb6
        go_wp2_with fail
        refine Calls.mono (works _ hE6) ?_
        rintro e w7 ⟨rfl, hb7⟩
        have hE7 := hE6.on hb7
        have hc7 := chain hc6 hb7
        clear hE6 hc6 hb7
        go_wp2_with fail
        go_returns
        exact ⟨rfl, hc7⟩
      · cases r
        all_goals
          go_enter Tryd.func8, Tryd.ntmps8
          go_wp2_with fail
          refine Calls.mono (N1.out _) ?_
          rintro e w1 ⟨rfl, hb1⟩
          have hE1 := hE0.on hb1
          have hc1 := chain hc0 hb1
          clear hE0 hc0 hb1
          go_wp2_with fail
          refine Calls.mono (N2.out _) ?_
          rintro e w2 ⟨rfl, hb2⟩
          have hE2 := hE1.on hb2
          have hc2 := chain hc1 hb2
          clear hE1 hc1 hb2
          go_wp2_with fail
          refine Calls.mono (N3.out _) ?_
          rintro e w3 ⟨rfl, hb3⟩
          have hE3 := hE2.on hb3
          have hc3 := chain hc2 hb3
          clear hE2 hc2 hb3
          go_wp2_with fail
          refine Calls.mono (N4.out _) ?_
          rintro e w4 ⟨rfl, hb4⟩
          have hE4 := hE3.on hb4
          have hc4 := chain hc3 hb4
          clear hE3 hc3 hb4
          go_wp2_with fail
          refine Calls.mono (after_in y c _ y1 y2 c0 hc) ?_
          rintro e w5 ⟨rfl, hb5⟩
          have hE5 := hE4.on hb5
          have hc5 := chain hc4 hb5
          clear hE4 hc4 hb5
          go_wp2_with fail
          refine Calls.mono (N5.out _) ?_
          rintro e w6 ⟨rfl, hb6⟩
          have hE6 := hE5.on hb6
          have hc6 := chain hc5 hb6
          clear hE5 hc5 hb6
          go_wp2_with fail
          refine Calls.mono (works _ hE6) ?_
          rintro e w7 ⟨rfl, hb7⟩
          have hE7 := hE6.on hb7
          have hc7 := chain hc6 hb7
          clear hE6 hc6 hb7
          go_wp2_with fail
          go_returns
          exact ⟨rfl, hc7⟩
    all_goals
      go_enter Tryd.func8, Tryd.ntmps8
      go_wp2_with fail
      refine Calls.mono (N1.out _) ?_
      rintro e w1 ⟨rfl, hb1⟩
      have hE1 := hE0.on hb1
      have hc1 := chain hc0 hb1
      clear hE0 hc0 hb1
      go_wp2_with fail
      refine Calls.mono (N2.out _) ?_
      rintro e w2 ⟨rfl, hb2⟩
      have hE2 := hE1.on hb2
      have hc2 := chain hc1 hb2
      clear hE1 hc1 hb2
      go_wp2_with fail
      refine Calls.mono (N3.out _) ?_
      rintro e w3 ⟨rfl, hb3⟩
      have hE3 := hE2.on hb3
      have hc3 := chain hc2 hb3
      clear hE2 hc2 hb3
      go_wp2_with fail
      refine Calls.mono (N4.out _) ?_
      rintro e w4 ⟨rfl, hb4⟩
      have hE4 := hE3.on hb4
      have hc4 := chain hc3 hb4
      clear hE3 hc3 hb4
      go_wp2_with fail
      refine Calls.mono (after_in y c _ y1 y2 c0 hc) ?_
      rintro e w5 ⟨rfl, hb5⟩
      have hE5 := hE4.on hb5
      have hc5 := chain hc4 hb5
      clear hE4 hc4 hb5
      go_wp2_with fail
      refine Calls.mono (N5.out _) ?_
      rintro e w6 ⟨rfl, hb6⟩
      have hE6 := hE5.on hb6
      have hc6 := chain hc5 hb6
      clear hE5 hc5 hb6
      go_wp2_with fail
      refine Calls.mono (works _ hE6) ?_
      rintro e w7 ⟨rfl, hb7⟩
      have hE7 := hE6.on hb7
      have hc7 := chain hc6 hb7
      clear hE6 hc6 hb7
      go_wp2_with fail
      go_returns
      exact ⟨rfl, hc7⟩
  · have hc' : 4294967295 - y < c := by omega
    clear hc
    rcases ok with ⟨rfl, rfl, rfl, hrs⟩ | ⟨rfl, rfl, rfl⟩ | ⟨rfl, rfl, rfl⟩
    · rcases hrs with rfl | rfl
      · go_enter Tryd.func8, Tryd.ntmps8
        go_wp2_with fail
        refine Calls.mono (N1.out _) ?_
        rintro e w1 ⟨rfl, hb1⟩
        have hE1 := hE0.on hb1
        have hc1 := chain hc0 hb1
        clear hE0 hc0 hb1
        go_wp2_with fail
        refine Calls.mono (N2.out _) ?_
        rintro e w2 ⟨rfl, hb2⟩
        have hE2 := hE1.on hb2
        have hc2 := chain hc1 hb2
        clear hE1 hc1 hb2
        go_wp2_with fail
        refine Calls.mono (N3.out _) ?_
        rintro e w3 ⟨rfl, hb3⟩
        have hE3 := hE2.on hb3
        have hc3 := chain hc2 hb3
        clear hE2 hc2 hb3
        go_wp2_with fail
        refine Calls.mono (N4.out _) ?_
        rintro e w4 ⟨rfl, hb4⟩
        have hE4 := hE3.on hb4
        have hc4 := chain hc3 hb4
        clear hE3 hc3 hb4
        go_wp2_with fail
        refine Calls.mono (after_out y c _ y1 y2 hc') ?_
        rintro e w5 ⟨rfl, hb5⟩
        have hE5 := hE4.on hb5
        have hc5 := chain hc4 hb5
        clear hE4 hc4 hb5
        go_wp2_with fail
        refine Calls.mono (works _ hE5) ?_
        rintro e w6 ⟨rfl, hb6⟩
        have hE6 := hE5.on hb6
        have hc6 := chain hc5 hb6
        clear hE5 hc5 hb6
        go_wp2_with fail
        go_returns
        exact ⟨rfl, hc6⟩
      · cases r
        all_goals
          go_enter Tryd.func8, Tryd.ntmps8
          go_wp2_with fail
          refine Calls.mono (N1.out _) ?_
          rintro e w1 ⟨rfl, hb1⟩
          have hE1 := hE0.on hb1
          have hc1 := chain hc0 hb1
          clear hE0 hc0 hb1
          go_wp2_with fail
          refine Calls.mono (N2.out _) ?_
          rintro e w2 ⟨rfl, hb2⟩
          have hE2 := hE1.on hb2
          have hc2 := chain hc1 hb2
          clear hE1 hc1 hb2
          go_wp2_with fail
          refine Calls.mono (N3.out _) ?_
          rintro e w3 ⟨rfl, hb3⟩
          have hE3 := hE2.on hb3
          have hc3 := chain hc2 hb3
          clear hE2 hc2 hb3
          go_wp2_with fail
          refine Calls.mono (N4.out _) ?_
          rintro e w4 ⟨rfl, hb4⟩
          have hE4 := hE3.on hb4
          have hc4 := chain hc3 hb4
          clear hE3 hc3 hb4
          go_wp2_with fail
          refine Calls.mono (after_out y c _ y1 y2 hc') ?_
          rintro e w5 ⟨rfl, hb5⟩
          have hE5 := hE4.on hb5
          have hc5 := chain hc4 hb5
          clear hE4 hc4 hb5
          go_wp2_with fail
          refine Calls.mono (works _ hE5) ?_
          rintro e w6 ⟨rfl, hb6⟩
          have hE6 := hE5.on hb6
          have hc6 := chain hc5 hb6
          clear hE5 hc5 hb6
          go_wp2_with fail
          go_returns
          exact ⟨rfl, hc6⟩
    all_goals
      go_enter Tryd.func8, Tryd.ntmps8
      go_wp2_with fail
      refine Calls.mono (N1.out _) ?_
      rintro e w1 ⟨rfl, hb1⟩
      have hE1 := hE0.on hb1
      have hc1 := chain hc0 hb1
      clear hE0 hc0 hb1
      go_wp2_with fail
      refine Calls.mono (N2.out _) ?_
      rintro e w2 ⟨rfl, hb2⟩
      have hE2 := hE1.on hb2
      have hc2 := chain hc1 hb2
      clear hE1 hc1 hb2
      go_wp2_with fail
      refine Calls.mono (N3.out _) ?_
      rintro e w3 ⟨rfl, hb3⟩
      have hE3 := hE2.on hb3
      have hc3 := chain hc2 hb3
      clear hE2 hc2 hb3
      go_wp2_with fail
      refine Calls.mono (N4.out _) ?_
      rintro e w4 ⟨rfl, hb4⟩
      have hE4 := hE3.on hb4
      have hc4 := chain hc3 hb4
      clear hE3 hc3 hb4
      go_wp2_with fail
      refine Calls.mono (after_out y c _ y1 y2 hc') ?_
      rintro e w5 ⟨rfl, hb5⟩
      have hE5 := hE4.on hb5
      have hc5 := chain hc4 hb5
      clear hE4 hc4 hb5
      go_wp2_with fail
      refine Calls.mono (works _ hE5) ?_
      rintro e w6 ⟨rfl, hb6⟩
      have hE6 := hE5.on hb6
      have hc6 := chain hc5 hb6
      clear hE5 hc5 hb6
      go_wp2_with fail
      go_returns
      exact ⟨rfl, hc6⟩
theorem order_walk (a b c : Int) (w : World) (hE : Env w) (h1 : 0 ≤ a) (h2 : a ≤ 4294967295) (h3 : 0 ≤ b) (h4 : b ≤ 4294967295) (h5 : 0 ≤ c) (h6 : c ≤ 4294967295) :
    Ret 8 #[.int .u32 a, .int .u32 b, .int .u32 c] w (.bool true) := by
  obtain ⟨x, hx, x1, x2⟩ := max_one a h1 h2
  obtain ⟨y, hy, y1, y2⟩ := max_one b h3 h4
  obtain ⟨z, hz, z1, z2⟩ := max_one c h5 h6
  refine order_core a b c x y z w hE hx hy hz x1 x2 y1 y2 z1 z2 h5 h6 _ _ _ _ _ rfl rfl rfl rfl rfl ?_
  simp only [decide_eq_true_eq, decide_eq_false_iff_not, beq_eq_false_iff_ne, beq_iff_eq]
  omega

set_option maxHeartbeats 1000000 in
theorem reads_walk (s : ByteArray) (w : World) (hE : Env w) :
    Ret 10 #[.string s] w (.bool true) := by
  have hE0 := hE
  have hc0 := Below.refl w.heap.size w
  clear hE
  by_cases hs : s.size ≤ 300
  · have hs' : s.size ≤ 100000 := by omega
    cases hg : isGen s.data.toList with
    | true =>
      obtain ⟨n, h1, h2, h3⟩ := (isGen_iff _).1 hg
      have e : s = digits n := str_ext (by rw [digits_list, h3])
      subst e
      clear hg h3 hs'
      go_enter Tryd.func10, Tryd.ntmps10
      go_wp2_with fail
      refine Calls.mono (parse_ok n _ hE0 h1 h2) ?_
      rintro e w1 ⟨rfl, hb1⟩
      have hE1 := hE0.on hb1
      have hc1 := chain hc0 hb1
      clear hE0 hc0 hb1
      go_wp2_with fail
      refine Calls.mono (text_pos n _ hE1 h1 h2) ?_
      rintro e w2 ⟨rfl, hb2⟩
      have hE2 := hE1.on hb2
      have hc2 := chain hc1 hb2
      clear hE1 hc1 hb2
      go_wp2_with fail
      refine Calls.mono (check_any n _ (by omega) (by omega)) ?_
      rintro e w3 ⟨rfl, rfl⟩
      rw [gErr_pos (by omega)]
      go_wp2_with fail
      refine Calls.mono (works _ hE2) ?_
      rintro e w3 ⟨rfl, hb3⟩
      have hE3 := hE2.on hb3
      have hc3 := chain hc2 hb3
      clear hE2 hc2 hb3
      go_wp2_with fail
      go_returns
      exact ⟨rfl, hc3⟩
    | false =>
      go_enter Tryd.func10, Tryd.ntmps10
      go_wp2_with fail
      refine Calls.mono (parse_bad s _ hE0 hs' hg) ?_
      rintro e w1 ⟨rfl, hb1⟩
      have hE1 := hE0.on hb1
      have hc1 := chain hc0 hb1
      clear hE0 hc0 hb1
      go_wp2_with fail
      refine Calls.mono (works _ hE1) ?_
      rintro e w2 ⟨rfl, hb2⟩
      have hE2 := hE1.on hb2
      have hc2 := chain hc1 hb2
      clear hE1 hc1 hb2
      go_wp2_with fail
      go_returns
      exact ⟨rfl, hc2⟩
  · have hs' : 300 < s.size := by omega
    clear hs
    go_enter Tryd.func10, Tryd.ntmps10
    go_wp2_with fail
    refine Calls.mono (works _ hE0) ?_
    rintro e w1 ⟨rfl, hb1⟩
    have hE1 := hE0.on hb1
    have hc1 := chain hc0 hb1
    clear hE0 hc0 hb1
    go_wp2_with fail
    go_returns
    exact ⟨rfl, hc1⟩
end Go.Proofs.YtidjpaophglmpaaDoor
