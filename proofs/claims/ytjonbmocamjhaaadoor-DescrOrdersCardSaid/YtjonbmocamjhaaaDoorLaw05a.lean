/- The walks of DescrNumbers, DescrTexts, DescrOuters, DescrOrders. -/
import Derived.Test.YtjonbmocamjhaaaDoorWorks05
namespace Go.Proofs.YtjonbmocamjhaaaDoor
open Go.RowKit
set_option linter.unusedVariables false

set_option maxHeartbeats 8000000 in
set_option maxRecDepth 20000 in
theorem texts_walk (k s g : Int) (x : ByteArray) (w : World) (hE : EnvP w) (g0 : 0 ≤ g) (g1 : g ≤ 4294967295) : Ret 4 #[dV k s g, .string x] w (.bool true) := by
  have hE0 := hE
  have hc0 := Below.refl w.heap.size w
  clear hE
  by_cases hs : x.size ≤ 1000
  · have hs' : x.size ≤ 100000 := by omega
    obtain ⟨t, e1, h1, h2⟩ := dtext_joint k s g g0 g1
    obtain ⟨kk, ll, gg, e2, h3, h4⟩ := dparse_joint x hs'
    have hck := fun w => d_check k s g w g0 g1
    have hrck := fun w => rd_check k s g w g0
    generalize dErr 256 k s g = ce at hck hrck
    have H1 := Lib.hid h1
    have H2 := Lib.hid h2
    have H3 := Lib.hid h3
    have H4 := Lib.hid h4
    have HC := Lib.hid hck
    have HRC := Lib.hid hrck
    clear h1 h2 h3 h4 hck hrck
    go_enter Tryd.func4, Tryd.ntmps4
    go_wp2_with fail
    refine Calls.mono (H1.out _ ((hE0.toEnv).on (by go_grown))) ?_
    rintro e w1 ⟨rfl, hb1⟩
    obtain ⟨k1, f1⟩ := bcell hb1
    have hE1 := hE0.on (under hb1)
    have hc1 := chain hc0 (under hb1)
    have z1_0 : w.heap.size < w1.heap.size := by have := hb1.size; (try simp at this); omega
    clear hE0 hc0 hb1
    go_wp2_with fail
    refine Calls.mono (H2.out _) ?_
    rintro e w2 ⟨rfl, hb2⟩
    obtain ⟨k2, f2⟩ := bcell hb2
    have hE2 := hE1.on (under hb2)
    have hc2 := chain hc1 (under hb2)
    have z2_0 : w.heap.size < w2.heap.size := by have := hb2.size; (try simp at this); omega
    clear hE1 hc1 hb2
    go_wp2_with fail
    refine Calls.mono (H3.out _ hE2) ?_
    rintro e w3 ⟨rfl, hb3⟩
    obtain ⟨k3, f3⟩ := bcell hb3
    have hE3 := hE2.on (under hb3)
    have hc3 := chain hc2 (under hb3)
    have z3_0 : w.heap.size < w3.heap.size := by have := hb3.size; (try simp at this); omega
    clear hE2 hc2 hb3
    go_wp2_with fail
    refine Calls.mono (H4.out _) ?_
    rintro e w4 ⟨rfl, hb4⟩
    obtain ⟨k4, f4⟩ := bcell hb4
    have hE4 := hE3.on (under hb4)
    have hc4 := chain hc3 (under hb4)
    have z4_0 : w.heap.size < w4.heap.size := by have := hb4.size; (try simp at this); omega
    have z4_1 : w3.heap.size < w4.heap.size := by have := hb4.size; (try simp at this); omega
    clear hE3 hc3 hb4
    go_wp2_with fail
    refine Calls.mono (works _ (hE4.on (by go_grown))) ?_
    rintro e w5 ⟨rfl, hb5⟩
    have hc5 := chain hc4 (under hb5)
    go_wp2_with fail
    go_returns
    exact ⟨rfl, hc5⟩
  · have hs' : 1000 < x.size := by omega
    clear hs g0 g1
    go_enter Tryd.func4, Tryd.ntmps4
    go_wp2_with fail
    refine Calls.mono (works _ (hE0.on (by go_grown))) ?_
    rintro e w1 ⟨rfl, hb1⟩
    go_wp2_with fail
    go_returns
    exact ⟨rfl, under hb1⟩
set_option maxHeartbeats 8000000 in
set_option maxRecDepth 20000 in
theorem outers_walk (k s g : Int) (x : ByteArray) (w : World) (hE : EnvP w) (g0 : 0 ≤ g) (g1 : g ≤ 4294967295) : Ret 5 #[dV k s g, .string x] w (.bool true) := by
  have hE0 := hE
  have hc0 := Below.refl w.heap.size w
  clear hE
  by_cases hs : x.size ≤ 1000
  · have hs' : x.size ≤ 100000 := by omega
    obtain ⟨t, e1, h1, h2⟩ := otext_joint k s g g0 g1
    obtain ⟨kk, ll, gg, e2, h3, h4⟩ := oparse_joint x hs'
    have hck := fun w => o_check k s g w g0 g1
    have hrck := fun w => ro_check k s g w g0
    generalize dErr 64 k s g = ce at hck hrck
    have H1 := Lib.hid h1
    have H2 := Lib.hid h2
    have H3 := Lib.hid h3
    have H4 := Lib.hid h4
    have HC := Lib.hid hck
    have HRC := Lib.hid hrck
    clear h1 h2 h3 h4 hck hrck
    go_enter Tryd.func5, Tryd.ntmps5
    go_wp2_with fail
    refine Calls.mono (H1.out _ ((hE0.toEnv).on (by go_grown))) ?_
    rintro e w1 ⟨rfl, hb1⟩
    obtain ⟨k1, f1⟩ := bcell hb1
    have hE1 := hE0.on (under hb1)
    have hc1 := chain hc0 (under hb1)
    have z1_0 : w.heap.size < w1.heap.size := by have := hb1.size; (try simp at this); omega
    clear hE0 hc0 hb1
    go_wp2_with fail
    refine Calls.mono (H2.out _) ?_
    rintro e w2 ⟨rfl, hb2⟩
    obtain ⟨k2, f2⟩ := bcell hb2
    have hE2 := hE1.on (under hb2)
    have hc2 := chain hc1 (under hb2)
    have z2_0 : w.heap.size < w2.heap.size := by have := hb2.size; (try simp at this); omega
    clear hE1 hc1 hb2
    go_wp2_with fail
    refine Calls.mono (H3.out _ hE2) ?_
    rintro e w3 ⟨rfl, hb3⟩
    obtain ⟨k3, f3⟩ := bcell hb3
    have hE3 := hE2.on (under hb3)
    have hc3 := chain hc2 (under hb3)
    have z3_0 : w.heap.size < w3.heap.size := by have := hb3.size; (try simp at this); omega
    clear hE2 hc2 hb3
    go_wp2_with fail
    refine Calls.mono (H4.out _) ?_
    rintro e w4 ⟨rfl, hb4⟩
    obtain ⟨k4, f4⟩ := bcell hb4
    have hE4 := hE3.on (under hb4)
    have hc4 := chain hc3 (under hb4)
    have z4_0 : w.heap.size < w4.heap.size := by have := hb4.size; (try simp at this); omega
    have z4_1 : w3.heap.size < w4.heap.size := by have := hb4.size; (try simp at this); omega
    clear hE3 hc3 hb4
    go_wp2_with fail
    have hE5 := hE4.alloc (.cells #[.int .i64 kk, .int .i64 ll, .int .u32 gg] 39)
    have hc5 := hc4.alloc hc4.size (.cells #[.int .i64 kk, .int .i64 ll, .int .u32 gg] 39)
    have qP5_0 : (w4.alloc (.cells #[.int .i64 kk, .int .i64 ll, .int .u32 gg] 39)).cell? ⟨w.heap.size, 0, none⟩ = some (.int .i64 k) := by go_simp
    have qP5_1 : (w4.alloc (.cells #[.int .i64 kk, .int .i64 ll, .int .u32 gg] 39)).cell? ⟨w.heap.size, 1, none⟩ = some (.int .i64 s) := by go_simp
    have qP5_2 : (w4.alloc (.cells #[.int .i64 kk, .int .i64 ll, .int .u32 gg] 39)).cell? ⟨w.heap.size, 2, none⟩ = some (.int .u32 g) := by go_simp
    have qP5_3 : (w4.alloc (.cells #[.int .i64 kk, .int .i64 ll, .int .u32 gg] 39)).cell? ⟨w3.heap.size, 0, none⟩ = some (.int .i64 kk) := by go_simp
    have qP5_4 : (w4.alloc (.cells #[.int .i64 kk, .int .i64 ll, .int .u32 gg] 39)).cell? ⟨w3.heap.size, 1, none⟩ = some (.int .i64 ll) := by go_simp
    have qP5_5 : (w4.alloc (.cells #[.int .i64 kk, .int .i64 ll, .int .u32 gg] 39)).cell? ⟨w3.heap.size, 2, none⟩ = some (.int .u32 gg) := by go_simp
    have qP5_6 : (w4.alloc (.cells #[.int .i64 kk, .int .i64 ll, .int .u32 gg] 39)).cell? ⟨w4.heap.size, 0, none⟩ = some (.int .i64 kk) := by go_simp
    have qP5_7 : (w4.alloc (.cells #[.int .i64 kk, .int .i64 ll, .int .u32 gg] 39)).cell? ⟨w4.heap.size, 1, none⟩ = some (.int .i64 ll) := by go_simp
    have qP5_8 : (w4.alloc (.cells #[.int .i64 kk, .int .i64 ll, .int .u32 gg] 39)).cell? ⟨w4.heap.size, 2, none⟩ = some (.int .u32 gg) := by go_simp
    have ZP5 : w4.heap.size < (w4.alloc (.cells #[.int .i64 kk, .int .i64 ll, .int .u32 gg] 39)).heap.size := by simp
    generalize hWP5 : w4.alloc (.cells #[.int .i64 kk, .int .i64 ll, .int .u32 gg] 39) = WP5 at *
    clear hWP5
    clear k1 k2 k3 k4 f1 f2 f3 f4
    go_region_held3 (fun W' => Below w.heap.size w W' ∧ EnvP W' ∧ w4.heap.size < W'.heap.size ∧ W'.cell? ⟨w.heap.size, 0, none⟩ = some (.int .i64 k) ∧ W'.cell? ⟨w.heap.size, 1, none⟩ = some (.int .i64 s) ∧ W'.cell? ⟨w.heap.size, 2, none⟩ = some (.int .u32 g) ∧ W'.cell? ⟨w3.heap.size, 0, none⟩ = some (.int .i64 kk) ∧ W'.cell? ⟨w3.heap.size, 1, none⟩ = some (.int .i64 ll) ∧ W'.cell? ⟨w3.heap.size, 2, none⟩ = some (.int .u32 gg) ∧ W'.cell? ⟨w4.heap.size, 0, none⟩ = some (.int .i64 kk) ∧ W'.cell? ⟨w4.heap.size, 1, none⟩ = some (.int .i64 ll) ∧ W'.cell? ⟨w4.heap.size, 2, none⟩ = some (.int .u32 gg))
      (first | (refine ⟨Below.drew (by assumption), EnvP.drew (by assumption), ?_⟩; go_keep) | (go_split_ands; refine ⟨keep_below (by assumption) (by assumption), keep_envp (by assumption) (by assumption), keep_lt (by assumption) (by assumption), ?_, ?_, ?_, ?_, ?_, ?_, ?_, ?_, ?_⟩ <;> exact keep_cell (by assumption) (by omega) (by assumption)))
      (first | (go_at_call 28; refine (HC.out _).mono ?_; rintro e w5 ⟨rfl, hb5⟩) | (go_at_call 29; refine (HRC.out _).mono ?_; rintro e w6 ⟨rfl, hb6⟩) | (go_at_call 19; refine (works _ ?_).mono ?_; (first | assumption | (go_split_ands; assumption)); rintro e w7 ⟨rfl, hb7⟩))
    go_wp2_with fail
    go_returns
    refine ⟨rfl, ?_⟩
    go_split_ands
    assumption
  · have hs' : 1000 < x.size := by omega
    clear hs g0 g1
    go_enter Tryd.func5, Tryd.ntmps5
    go_wp2_with fail
    refine Calls.mono (works _ (hE0.on (by go_grown))) ?_
    rintro e w1 ⟨rfl, hb1⟩
    go_wp2_with fail
    go_returns
    exact ⟨rfl, under hb1⟩
set_option maxHeartbeats 8000000 in
set_option maxRecDepth 20000 in
theorem numbers_walk (k s g n : Int) (w : World) (hE : EnvP w) (g0 : 0 ≤ g) (g1 : g ≤ 4294967295) (n0 : 0 ≤ n) (n1 : n ≤ 18446744073709551615) : Ret 3 #[dV k s g, .int .u64 n] w (.bool true) := by
    have hE0 := hE
    have hc0 := Below.refl w.heap.size w
    clear hE
    obtain ⟨nn, e1, h1, h2⟩ := pack_joint k s g g0 g1
    obtain ⟨kk, ll, gg, e2, h3, h4⟩ := unpack_joint n n0 n1
    have hck := fun w => d_check k s g w g0 g1
    have hrck := fun w => rd_check k s g w g0
    generalize dErr 256 k s g = ce at hck hrck
    have H1 := Lib.hid h1
    have H2 := Lib.hid h2
    have H3 := Lib.hid h3
    have H4 := Lib.hid h4
    have HC := Lib.hid hck
    have HRC := Lib.hid hrck
    have N1 := Lib.hid n1
    clear h1 h2 h3 h4 hck hrck n1
    go_enter Tryd.func3, Tryd.ntmps3
    go_wp2_with fail
    refine Calls.mono (H1.out _) ?_
    rintro e w1 ⟨rfl, hb1⟩
    obtain ⟨k1, f1⟩ := bcell hb1
    have hE1 := hE0.on (under hb1)
    have hc1 := chain hc0 (under hb1)
    have z1_0 : w.heap.size < w1.heap.size := by have := hb1.size; (try simp at this); omega
    clear hE0 hc0 hb1
    go_wp2_with fail
    refine Calls.mono (H2.out _) ?_
    rintro e w2 ⟨rfl, hb2⟩
    obtain ⟨k2, f2⟩ := bcell hb2
    have hE2 := hE1.on (under hb2)
    have hc2 := chain hc1 (under hb2)
    have z2_0 : w.heap.size < w2.heap.size := by have := hb2.size; (try simp at this); omega
    clear hE1 hc1 hb2
    go_wp2_with fail
    refine Calls.mono (H3.out _) ?_
    rintro e w3 ⟨rfl, hb3⟩
    obtain ⟨k3, f3⟩ := bcell hb3
    have hE3 := hE2.on (under hb3)
    have hc3 := chain hc2 (under hb3)
    have z3_0 : w.heap.size < w3.heap.size := by have := hb3.size; (try simp at this); omega
    clear hE2 hc2 hb3
    go_wp2_with fail
    refine Calls.mono (H4.out _) ?_
    rintro e w4 ⟨rfl, hb4⟩
    obtain ⟨k4, f4⟩ := bcell hb4
    have hE4 := hE3.on (under hb4)
    have hc4 := chain hc3 (under hb4)
    have z4_0 : w.heap.size < w4.heap.size := by have := hb4.size; (try simp at this); omega
    have z4_1 : w3.heap.size < w4.heap.size := by have := hb4.size; (try simp at this); omega
    clear hE3 hc3 hb4
    go_wp2_with fail
    have hE5 := hE4.alloc (.cells #[.int .i64 kk, .int .i64 ll, .int .u32 gg] 24)
    have hc5 := hc4.alloc hc4.size (.cells #[.int .i64 kk, .int .i64 ll, .int .u32 gg] 24)
    have qP5_0 : (w4.alloc (.cells #[.int .i64 kk, .int .i64 ll, .int .u32 gg] 24)).cell? ⟨w.heap.size, 0, none⟩ = some (.int .i64 k) := by go_simp
    have qP5_1 : (w4.alloc (.cells #[.int .i64 kk, .int .i64 ll, .int .u32 gg] 24)).cell? ⟨w.heap.size, 1, none⟩ = some (.int .i64 s) := by go_simp
    have qP5_2 : (w4.alloc (.cells #[.int .i64 kk, .int .i64 ll, .int .u32 gg] 24)).cell? ⟨w.heap.size, 2, none⟩ = some (.int .u32 g) := by go_simp
    have qP5_3 : (w4.alloc (.cells #[.int .i64 kk, .int .i64 ll, .int .u32 gg] 24)).cell? ⟨w3.heap.size, 0, none⟩ = some (.int .i64 kk) := by go_simp
    have qP5_4 : (w4.alloc (.cells #[.int .i64 kk, .int .i64 ll, .int .u32 gg] 24)).cell? ⟨w3.heap.size, 1, none⟩ = some (.int .i64 ll) := by go_simp
    have qP5_5 : (w4.alloc (.cells #[.int .i64 kk, .int .i64 ll, .int .u32 gg] 24)).cell? ⟨w3.heap.size, 2, none⟩ = some (.int .u32 gg) := by go_simp
    have qP5_6 : (w4.alloc (.cells #[.int .i64 kk, .int .i64 ll, .int .u32 gg] 24)).cell? ⟨w4.heap.size, 0, none⟩ = some (.int .i64 kk) := by go_simp
    have qP5_7 : (w4.alloc (.cells #[.int .i64 kk, .int .i64 ll, .int .u32 gg] 24)).cell? ⟨w4.heap.size, 1, none⟩ = some (.int .i64 ll) := by go_simp
    have qP5_8 : (w4.alloc (.cells #[.int .i64 kk, .int .i64 ll, .int .u32 gg] 24)).cell? ⟨w4.heap.size, 2, none⟩ = some (.int .u32 gg) := by go_simp
    have ZP5 : w4.heap.size < (w4.alloc (.cells #[.int .i64 kk, .int .i64 ll, .int .u32 gg] 24)).heap.size := by simp
    generalize hWP5 : w4.alloc (.cells #[.int .i64 kk, .int .i64 ll, .int .u32 gg] 24) = WP5 at *
    clear hWP5
    clear k1 k2 k3 k4 f1 f2 f3 f4
    go_region_held3 (fun W' => Below w.heap.size w W' ∧ EnvP W' ∧ w4.heap.size < W'.heap.size ∧ W'.cell? ⟨w.heap.size, 0, none⟩ = some (.int .i64 k) ∧ W'.cell? ⟨w.heap.size, 1, none⟩ = some (.int .i64 s) ∧ W'.cell? ⟨w.heap.size, 2, none⟩ = some (.int .u32 g) ∧ W'.cell? ⟨w3.heap.size, 0, none⟩ = some (.int .i64 kk) ∧ W'.cell? ⟨w3.heap.size, 1, none⟩ = some (.int .i64 ll) ∧ W'.cell? ⟨w3.heap.size, 2, none⟩ = some (.int .u32 gg) ∧ W'.cell? ⟨w4.heap.size, 0, none⟩ = some (.int .i64 kk) ∧ W'.cell? ⟨w4.heap.size, 1, none⟩ = some (.int .i64 ll) ∧ W'.cell? ⟨w4.heap.size, 2, none⟩ = some (.int .u32 gg))
      (first | (refine ⟨Below.drew (by assumption), EnvP.drew (by assumption), ?_⟩; go_keep) | (go_split_ands; refine ⟨keep_below (by assumption) (by assumption), keep_envp (by assumption) (by assumption), keep_lt (by assumption) (by assumption), ?_, ?_, ?_, ?_, ?_, ?_, ?_, ?_, ?_⟩ <;> exact keep_cell (by assumption) (by omega) (by assumption)))
      (first | (go_at_call 17; refine (HC.out _).mono ?_; rintro e w5 ⟨rfl, hb5⟩) | (go_at_call 18; refine (HRC.out _).mono ?_; rintro e w6 ⟨rfl, hb6⟩) | (go_at_call 19; refine (works _ ?_).mono ?_; (first | assumption | (go_split_ands; assumption)); rintro e w7 ⟨rfl, hb7⟩))
    go_wp2_with fail
    go_returns
    refine ⟨rfl, ?_⟩
    go_split_ands
    assumption
set_option maxHeartbeats 8000000 in
set_option maxRecDepth 20000 in
theorem orders_walk (k s g k' s' g' : Int) (w : World) (hE : EnvP w) : Ret 6 #[dV k s g, dV k' s' g'] w (.bool true) := by
    have hE0 := hE
    have hc0 := Below.refl w.heap.size w
    clear hE
    have hz : dOrd k s g k s g = 0 := dOrd_eq
    go_enter Tryd.func6, Tryd.ntmps6
    go_wp2_with fail
    have hE5 := (hE0.alloc (.cells #[.int .i64 k, .int .i64 s, .int .u32 g] 24)).alloc (.cells #[.int .i64 k', .int .i64 s', .int .u32 g'] 24)
    have hc5 : Below w.heap.size w ((w.alloc (.cells #[.int .i64 k, .int .i64 s, .int .u32 g] 24)).alloc (.cells #[.int .i64 k', .int .i64 s', .int .u32 g'] 24)) := by go_grown
    have qP5_0 : ((w.alloc (.cells #[.int .i64 k, .int .i64 s, .int .u32 g] 24)).alloc (.cells #[.int .i64 k', .int .i64 s', .int .u32 g'] 24)).cell? ⟨w.heap.size, 0, none⟩ = some (.int .i64 k) := by go_simp
    have qP5_1 : ((w.alloc (.cells #[.int .i64 k, .int .i64 s, .int .u32 g] 24)).alloc (.cells #[.int .i64 k', .int .i64 s', .int .u32 g'] 24)).cell? ⟨w.heap.size, 1, none⟩ = some (.int .i64 s) := by go_simp
    have qP5_2 : ((w.alloc (.cells #[.int .i64 k, .int .i64 s, .int .u32 g] 24)).alloc (.cells #[.int .i64 k', .int .i64 s', .int .u32 g'] 24)).cell? ⟨w.heap.size, 2, none⟩ = some (.int .u32 g) := by go_simp
    have qP5_3 : ((w.alloc (.cells #[.int .i64 k, .int .i64 s, .int .u32 g] 24)).alloc (.cells #[.int .i64 k', .int .i64 s', .int .u32 g'] 24)).cell? ⟨w.heap.size + 1, 0, none⟩ = some (.int .i64 k') := by go_simp
    have qP5_4 : ((w.alloc (.cells #[.int .i64 k, .int .i64 s, .int .u32 g] 24)).alloc (.cells #[.int .i64 k', .int .i64 s', .int .u32 g'] 24)).cell? ⟨w.heap.size + 1, 1, none⟩ = some (.int .i64 s') := by go_simp
    have qP5_5 : ((w.alloc (.cells #[.int .i64 k, .int .i64 s, .int .u32 g] 24)).alloc (.cells #[.int .i64 k', .int .i64 s', .int .u32 g'] 24)).cell? ⟨w.heap.size + 1, 2, none⟩ = some (.int .u32 g') := by go_simp
    have ZP5 : w.heap.size + 1 < ((w.alloc (.cells #[.int .i64 k, .int .i64 s, .int .u32 g] 24)).alloc (.cells #[.int .i64 k', .int .i64 s', .int .u32 g'] 24)).heap.size := by simp
    generalize hWP5 : (w.alloc (.cells #[.int .i64 k, .int .i64 s, .int .u32 g] 24)).alloc (.cells #[.int .i64 k', .int .i64 s', .int .u32 g'] 24) = WP5 at *
    clear hWP5
    go_region_held3 (fun W' => Below w.heap.size w W' ∧ EnvP W' ∧ w.heap.size + 1 < W'.heap.size ∧ W'.cell? ⟨w.heap.size, 0, none⟩ = some (.int .i64 k) ∧ W'.cell? ⟨w.heap.size, 1, none⟩ = some (.int .i64 s) ∧ W'.cell? ⟨w.heap.size, 2, none⟩ = some (.int .u32 g) ∧ W'.cell? ⟨w.heap.size + 1, 0, none⟩ = some (.int .i64 k') ∧ W'.cell? ⟨w.heap.size + 1, 1, none⟩ = some (.int .i64 s') ∧ W'.cell? ⟨w.heap.size + 1, 2, none⟩ = some (.int .u32 g'))
      (first | (refine ⟨Below.drew (by assumption), EnvP.drew (by assumption), ?_⟩; go_keep) | (go_split_ands; refine ⟨keep_below (by assumption) (by assumption), keep_envp (by assumption) (by assumption), keep_lt (by assumption) (by assumption), ?_, ?_, ?_, ?_, ?_, ?_⟩ <;> exact keep_cell (by assumption) (by omega) (by assumption)))
      (first | (go_at_call 30; refine (order_c _ _ _ _ _ _ _).mono ?_; rintro e w5 ⟨rfl, hb5⟩) | (go_at_call 31; refine (rorder_c _ _ _ _ _ _ _).mono ?_; rintro e w6 ⟨rfl, hb6⟩) | (go_at_call 19; refine (works _ ?_).mono ?_; (first | assumption | (go_split_ands; assumption)); rintro e w7 ⟨rfl, hb7⟩))
    go_wp2_with fail
    go_returns
    refine ⟨rfl, ?_⟩
    go_split_ands
    assumption
end Go.Proofs.YtjonbmocamjhaaaDoor
