/- The chapter's examples hold: 'works' of the statements of chapter 05; and what program and reference give alike. -/
import Derived.Test.YtjonbmocamjhaaaDoorRefDescr2
import Derived.Test.YtjonbmocamjhaaaDoorRefDescr4
namespace Go.Proofs.YtjonbmocamjhaaaDoor
open Go.RowKit
open Go.Lib (decDigits)

theorem dec_small (n : Nat) (h : n < 10) : decDigits n = [UInt8.ofNat (48 + n)] := by rw [decDigits_step, if_pos h]
theorem wk1 (w : World) : Ret 13 #[dV 1 3 7] w (.tuple #[.int .u64 1112396529671, .int .i64 0]) := pack_ok 1 3 7 w (by decide) (by omega) (by omega)
theorem wk2 (w : World) : Ret 15 #[.int .u64 1112396529671] w (.tuple #[dV 1 3 7, .int .i64 0]) := unpack_ok 1112396529671 w (by omega) (by omega) (by decide)
theorem wk3 (w : World) : Ret 15 #[.int .u64 1112396529664] w (.tuple #[dV 0 0 0, .int .i64 2]) := unpack_bad 1112396529664 w (by omega) (by omega) (by decide)
theorem wk4 (w : World) (hE : Env w) : Ret 20 #[dV 3 2 9] w (.tuple #[.string ⟨#[108, 50, 46, 57]⟩, .int .i64 0]) := by
  have h := d_text_ok 3 2 9 w hE (by decide) (by omega) (by omega)
  have e : dText 46 3 2 9 = ⟨#[108, 50, 46, 57]⟩ := by
    unfold dText dTextL
    rw [dec_small _ (by decide), dec_small _ (by decide)]
    rfl
  rw [e] at h
  exact h
theorem wk5 (w : World) (hE : EnvP w) : Ret 22 #[.string ⟨#[102, 51, 46, 55]⟩] w (.tuple #[dV 1 3 7, .int .i64 0]) :=
  d_parse_is _ 1 3 7 ⟨by decide, by omega, by omega, by
    unfold dTextL
    rw [dec_small _ (by decide), dec_small _ (by decide)]
    rfl⟩ w hE
theorem not_is {c : UInt8} (hc : sgn c) {size : Int} {x : UInt8} {r post : List UInt8} (hr : c ∉ x :: r) (h : ∀ n : Nat, (n : Int) < size → decDigits n ≠ r) (k s g : Int) : ¬ IsD c size (x :: (r ++ c :: post)) k s g := by
  rintro ⟨hok, _, _, he⟩
  obtain ⟨_, _, s0, s1, _⟩ := dOk_iff.1 hok
  unfold dTextL at he
  rw [← List.cons_append, ← List.cons_append] at he
  obtain ⟨e1, _⟩ := split_unique hr (pre_not_mem hc k _) he
  injection e1 with _ e2
  exact h s.toNat (by omega) e2.symm
theorem wk6 (w : World) (hE : EnvP w) : Ret 22 #[.string ⟨#[102, 48, 51, 46, 55]⟩] w (.tuple #[dV 0 0 0, .int .i64 9]) :=
  d_parse_not _ (by decide) (fun k s g => not_is (c := 46) (.inl rfl) (x := 102) (r := [48, 51]) (post := [55]) (by decide) (fun n _ e => by
    have h := congrArg (valFrom 0) e
    rw [val_decDigits] at h
    have h3 : n = 3 := h.trans (by decide)
    rw [h3, dec_small _ (by decide)] at e
    exact absurd e (by decide)) k s g) w hE
theorem wk7 (w : World) (hE : Env w) : Ret 24 #[dV 1 3 7] w (.tuple #[.string ⟨#[102, 51, 58, 55]⟩, .int .i64 0]) := by
  have h := o_text_ok 1 3 7 w hE (by decide) (by omega) (by omega)
  have e : dText 58 1 3 7 = ⟨#[102, 51, 58, 55]⟩ := by
    unfold dText dTextL
    rw [dec_small _ (by decide), dec_small _ (by decide)]
    rfl
  rw [e] at h
  exact h
theorem wk8 (w : World) (hE : EnvP w) : Ret 26 #[.string ⟨#[102, 54, 52, 58, 49]⟩] w (.tuple #[dV 0 0 0, .int .i64 9]) :=
  o_parse_not _ (by decide) (fun k s g => not_is (c := 58) (.inr rfl) (x := 102) (r := [54, 52]) (post := [49]) (by decide) (fun n hn e => by
    have h := congrArg (valFrom 0) e
    rw [val_decDigits] at h
    have h3 : n = 64 := h.trans (by decide)
    omega) k s g) w hE
theorem wk9 (w : World) : Ret 30 #[dV 2 0 1, dV 1 3 7] w (.int .i64 1) := order_c 2 0 1 1 3 7 w
set_option maxHeartbeats 8000000 in
set_option maxRecDepth 20000 in
theorem works (w : World) (hE : EnvP w) : Ret 19 #[] w (.bool true) := by
  have hE0 := hE
  have hc0 := Below.refl w.heap.size w
  clear hE
  go_enter Tryd.func19, Tryd.ntmps19
  go_wp2_with fail
  refine Calls.mono (wk1 _) ?_
  rintro e w1 ⟨rfl, hb1⟩
  obtain ⟨k1, f1⟩ := bcell hb1
  have hE1 := hE0.on (under hb1)
  have hc1 := chain hc0 (under hb1)
  have z1_0 : w.heap.size < w1.heap.size := by have := hb1.size; (try simp at this); omega
  clear hE0 hc0 hb1
  go_wp2_with fail
  refine Calls.mono (wk2 _) ?_
  rintro e w2 ⟨rfl, hb2⟩
  obtain ⟨k2, f2⟩ := bcell hb2
  have hE2 := hE1.on (under hb2)
  have hc2 := chain hc1 (under hb2)
  have z2_0 : w.heap.size < w2.heap.size := by have := hb2.size; (try simp at this); omega
  clear hE1 hc1 hb2
  go_wp2_with fail
  refine Calls.mono (wk3 _) ?_
  rintro e w3 ⟨rfl, hb3⟩
  obtain ⟨k3, f3⟩ := bcell hb3
  have hE3 := hE2.on (under hb3)
  have hc3 := chain hc2 (under hb3)
  have z3_0 : w.heap.size < w3.heap.size := by have := hb3.size; (try simp at this); omega
  have z3_1 : w2.heap.size < w3.heap.size := by have := hb3.size; (try simp at this); omega
  clear hE2 hc2 hb3
  go_wp2_with fail
  refine Calls.mono (wk4 _ ((hE3.toEnv).on (by go_grown))) ?_
  rintro e w4 ⟨rfl, hb4⟩
  obtain ⟨k4, f4⟩ := bcell hb4
  have hE4 := hE3.on (under hb4)
  have hc4 := chain hc3 (under hb4)
  have z4_0 : w.heap.size < w4.heap.size := by have := hb4.size; (try simp at this); omega
  have z4_1 : w2.heap.size < w4.heap.size := by have := hb4.size; (try simp at this); omega
  clear hE3 hc3 hb4
  go_wp2_with fail
  refine Calls.mono (wk5 _ hE4) ?_
  rintro e w5 ⟨rfl, hb5⟩
  obtain ⟨k5, f5⟩ := bcell hb5
  have hE5 := hE4.on (under hb5)
  have hc5 := chain hc4 (under hb5)
  have z5_0 : w.heap.size < w5.heap.size := by have := hb5.size; (try simp at this); omega
  have z5_1 : w2.heap.size < w5.heap.size := by have := hb5.size; (try simp at this); omega
  clear hE4 hc4 hb5
  go_wp2_with fail
  refine Calls.mono (wk6 _ (hE5.on (by go_grown))) ?_
  rintro e w6 ⟨rfl, hb6⟩
  obtain ⟨k6, f6⟩ := bcell hb6
  have hE6 := hE5.on (under hb6)
  have hc6 := chain hc5 (under hb6)
  have z6_0 : w.heap.size < w6.heap.size := by have := hb6.size; (try simp at this); omega
  have z6_1 : w2.heap.size < w6.heap.size := by have := hb6.size; (try simp at this); omega
  have z6_2 : w5.heap.size < w6.heap.size := by have := hb6.size; (try simp at this); omega
  clear hE5 hc5 hb6
  go_wp2_with fail
  refine Calls.mono (wk7 _ ((hE6.toEnv).on (by go_grown))) ?_
  rintro e w7 ⟨rfl, hb7⟩
  obtain ⟨k7, f7⟩ := bcell hb7
  have hE7 := hE6.on (under hb7)
  have hc7 := chain hc6 (under hb7)
  have z7_0 : w.heap.size < w7.heap.size := by have := hb7.size; (try simp at this); omega
  have z7_1 : w2.heap.size < w7.heap.size := by have := hb7.size; (try simp at this); omega
  have z7_2 : w5.heap.size < w7.heap.size := by have := hb7.size; (try simp at this); omega
  clear hE6 hc6 hb7
  go_wp2_with fail
  refine Calls.mono (wk8 _ hE7) ?_
  rintro e w8 ⟨rfl, hb8⟩
  obtain ⟨k8, f8⟩ := bcell hb8
  have hE8 := hE7.on (under hb8)
  have hc8 := chain hc7 (under hb8)
  have z8_0 : w.heap.size < w8.heap.size := by have := hb8.size; (try simp at this); omega
  have z8_1 : w2.heap.size < w8.heap.size := by have := hb8.size; (try simp at this); omega
  have z8_2 : w5.heap.size < w8.heap.size := by have := hb8.size; (try simp at this); omega
  clear hE7 hc7 hb8
  go_wp2_with fail
  refine Calls.mono (wk9 _) ?_
  rintro e w9 ⟨rfl, hb9⟩
  have hc9 := chain hc8 (under hb9)
  go_wp2_with fail
  go_returns
  exact ⟨rfl, hc9⟩

theorem pack_joint (k s g : Int) (g0 : 0 ≤ g) (g1 : g ≤ 4294967295) : ∃ n e : Int, (∀ w, Ret 13 #[dV k s g] w (.tuple #[.int .u64 n, .int .i64 e])) ∧ (∀ w, Ret 14 #[dV k s g] w (.tuple #[.int .u64 n, .int .i64 e])) := by
  cases h : dOk 256 k s g with
  | true => exact ⟨_, _, fun w => pack_ok k s g w h g0 g1, fun w => rpack_ok k s g w h g0 g1⟩
  | false => exact ⟨_, _, fun w => pack_bad k s g w h g0 g1, fun w => rpack_bad k s g w h g0⟩
theorem unpack_joint (n : Int) (n0 : 0 ≤ n) (n1 : n ≤ 18446744073709551615) : ∃ k s g e : Int, (∀ w, Ret 15 #[.int .u64 n] w (.tuple #[dV k s g, .int .i64 e])) ∧ (∀ w, Ret 16 #[.int .u64 n] w (.tuple #[dV k s g, .int .i64 e])) := by
  cases h : dOk 256 (n / 1099511627776) (n / 4294967296 % 256) (n % 4294967296) with
  | true => exact ⟨_, _, _, _, fun w => unpack_ok n w n0 n1 h, fun w => runpack_ok n w n0 h⟩
  | false => exact ⟨_, _, _, _, fun w => unpack_bad n w n0 n1 h, fun w => runpack_bad n w n0 n1 h⟩
theorem dtext_joint (k s g : Int) (g0 : 0 ≤ g) (g1 : g ≤ 4294967295) : ∃ (t : ByteArray) (e : Int), (∀ w, Env w → Ret 20 #[dV k s g] w (.tuple #[.string t, .int .i64 e])) ∧ (∀ w, Ret 21 #[dV k s g] w (.tuple #[.string t, .int .i64 e])) := by
  cases h : dOk 256 k s g with
  | true => exact ⟨_, _, fun w hE => d_text_ok k s g w hE h g0 g1, fun w => rd_text_ok k s g w h g0 g1⟩
  | false => exact ⟨_, _, fun w _ => d_text_bad k s g w h g0 g1, fun w => rd_text_bad k s g w h g0⟩
theorem otext_joint (k s g : Int) (g0 : 0 ≤ g) (g1 : g ≤ 4294967295) : ∃ (t : ByteArray) (e : Int), (∀ w, Env w → Ret 24 #[dV k s g] w (.tuple #[.string t, .int .i64 e])) ∧ (∀ w, Ret 25 #[dV k s g] w (.tuple #[.string t, .int .i64 e])) := by
  cases h : dOk 64 k s g with
  | true => exact ⟨_, _, fun w hE => o_text_ok k s g w hE h g0 g1, fun w => ro_text_ok k s g w h g0 g1⟩
  | false => exact ⟨_, _, fun w _ => o_text_bad k s g w h g0 g1, fun w => ro_text_bad k s g w h g0⟩
theorem dparse_joint (s : ByteArray) (hs : s.size ≤ 100000) : ∃ k l g e : Int, (∀ w, EnvP w → Ret 22 #[.string s] w (.tuple #[dV k l g, .int .i64 e])) ∧ (∀ w, Ret 23 #[.string s] w (.tuple #[dV k l g, .int .i64 e])) := by
  by_cases h : ∃ k l g, IsD 46 256 s.data.toList k l g
  · obtain ⟨k, l, g, h⟩ := h
    exact ⟨_, _, _, _, fun w hE => d_parse_is s k l g h w hE, fun w => rd_parse_is s k l g h w⟩
  · have h' : ∀ k l g, ¬ IsD 46 256 s.data.toList k l g := fun k l g hd => h ⟨k, l, g, hd⟩
    exact ⟨_, _, _, _, fun w hE => d_parse_not s hs h' w hE, fun w => rd_parse_not s hs h' w⟩
theorem oparse_joint (s : ByteArray) (hs : s.size ≤ 100000) : ∃ k l g e : Int, (∀ w, EnvP w → Ret 26 #[.string s] w (.tuple #[dV k l g, .int .i64 e])) ∧ (∀ w, Ret 27 #[.string s] w (.tuple #[dV k l g, .int .i64 e])) := by
  by_cases h : ∃ k l g, IsD 58 64 s.data.toList k l g
  · obtain ⟨k, l, g, h⟩ := h
    exact ⟨_, _, _, _, fun w hE => o_parse_is s k l g h w hE, fun w => ro_parse_is s k l g h w⟩
  · have h' : ∀ k l g, ¬ IsD 58 64 s.data.toList k l g := fun k l g hd => h ⟨k, l, g, hd⟩
    exact ⟨_, _, _, _, fun w hE => o_parse_not s hs h' w hE, fun w => ro_parse_not s hs h' w⟩
end Go.Proofs.YtjonbmocamjhaaaDoor
