/- The walk of StatsChecks. -/
import Derived.Test.YtjebicdlbknemaaDoorStJoint
import Derived.Deep.RegionHeld3
import Derived.Test.YtjebicdlbknemaaDoorKeep
namespace Go.Proofs.YtjebicdlbknemaaDoor
open Go.RowKit

set_option maxHeartbeats 8000000 in
set_option maxRecDepth 20000 in
theorem checks_walk (o l c r q f t : Int) (w : World) (hE : Env w) : Ret 3 #[stV o l c r q, .int .i64 f, .int .i64 t] w (.bool true) := by
  have hE0 := hE
  have hc0 := Below.refl w.heap.size w
  clear hE
  obtain ⟨n, ue, hu, hru⟩ := used_joint o l c r q
  obtain ⟨o1, l1, c1, r1, q1, e1, ha, hra⟩ := add_joint o l c r q f t
  have hk := check_st o l c r q
  have hrk := rcheck_st o l c r q
  generalize sErr o l c r q = ke at hk hrk
  have HU := Lib.hid hu
  have HRU := Lib.hid hru
  have HA := Lib.hid ha
  have HRA := Lib.hid hra
  have HK := Lib.hid hk
  have HRK := Lib.hid hrk
  clear hu hru ha hra hk hrk
  go_enter Tryd.func3, Tryd.ntmps3
  go_wp2_with fail
  refine Calls.mono (HU.out _) ?_
  rintro e w1 ⟨rfl, hb1⟩
  obtain ⟨k1, f1⟩ := bcell hb1
  have hE1 := hE0.on (under hb1)
  have hc1 := chain hc0 (under hb1)
  have z1_0 : w.heap.size < w1.heap.size := by have := hb1.size; (try simp at this); omega
  have z1_1 : w.heap.size+1 < w1.heap.size := by have := hb1.size; (try simp at this); omega
  clear hE0 hc0 hb1
  go_wp2_with fail
  refine Calls.mono (HRU.out _) ?_
  rintro e w2 ⟨rfl, hb2⟩
  obtain ⟨k2, f2⟩ := bcell hb2
  have hE2 := hE1.on (under hb2)
  have hc2 := chain hc1 (under hb2)
  have z2_0 : w.heap.size < w2.heap.size := by have := hb2.size; (try simp at this); omega
  have z2_1 : w.heap.size+1 < w2.heap.size := by have := hb2.size; (try simp at this); omega
  clear hE1 hc1 hb2
  go_wp2_with fail
  refine Calls.mono (HA.out _) ?_
  rintro e w3 ⟨rfl, hb3⟩
  obtain ⟨k3, f3⟩ := bcell hb3
  have hE3 := hE2.on (under hb3)
  have hc3 := chain hc2 (under hb3)
  have z3_0 : w.heap.size < w3.heap.size := by have := hb3.size; (try simp at this); omega
  have z3_1 : w.heap.size+1 < w3.heap.size := by have := hb3.size; (try simp at this); omega
  clear hE2 hc2 hb3
  go_wp2_with fail
  refine Calls.mono (HRA.out _) ?_
  rintro e w4 ⟨rfl, hb4⟩
  obtain ⟨k4, f4⟩ := bcell hb4
  have hE4 := hE3.on (under hb4)
  have hc4 := chain hc3 (under hb4)
  have z4_0 : w.heap.size < w4.heap.size := by have := hb4.size; (try simp at this); omega
  have z4_1 : w.heap.size+1 < w4.heap.size := by have := hb4.size; (try simp at this); omega
  have z4_2 : w3.heap.size < w4.heap.size := by have := hb4.size; (try simp at this); omega
  clear hE3 hc3 hb4
  go_wp2_with fail
  have hE5 := hE4.alloc (.cells #[.int .i64 o1, .int .i64 l1, .int .i64 c1, .int .i64 r1, .int .i64 q1] 24)
  have hc5 := hc4.alloc hc4.size (.cells #[.int .i64 o1, .int .i64 l1, .int .i64 c1, .int .i64 r1, .int .i64 q1] 24)
  have q5_0 : (w4.alloc (.cells #[.int .i64 o1, .int .i64 l1, .int .i64 c1, .int .i64 r1, .int .i64 q1] 24)).cell? ⟨w.heap.size, 0, none⟩ = some (.int .i64 o) := by go_simp
  have q5_1 : (w4.alloc (.cells #[.int .i64 o1, .int .i64 l1, .int .i64 c1, .int .i64 r1, .int .i64 q1] 24)).cell? ⟨w.heap.size, 1, none⟩ = some (.int .i64 l) := by go_simp
  have q5_2 : (w4.alloc (.cells #[.int .i64 o1, .int .i64 l1, .int .i64 c1, .int .i64 r1, .int .i64 q1] 24)).cell? ⟨w.heap.size, 2, none⟩ = some (.int .i64 c) := by go_simp
  have q5_3 : (w4.alloc (.cells #[.int .i64 o1, .int .i64 l1, .int .i64 c1, .int .i64 r1, .int .i64 q1] 24)).cell? ⟨w.heap.size, 3, none⟩ = some (.int .i64 r) := by go_simp
  have q5_4 : (w4.alloc (.cells #[.int .i64 o1, .int .i64 l1, .int .i64 c1, .int .i64 r1, .int .i64 q1] 24)).cell? ⟨w.heap.size, 4, none⟩ = some (.int .i64 q) := by go_simp
  have q5_5 : (w4.alloc (.cells #[.int .i64 o1, .int .i64 l1, .int .i64 c1, .int .i64 r1, .int .i64 q1] 24)).cell? ⟨w.heap.size + 1, 0, none⟩ = some (.int .i64 o) := by go_simp
  have q5_6 : (w4.alloc (.cells #[.int .i64 o1, .int .i64 l1, .int .i64 c1, .int .i64 r1, .int .i64 q1] 24)).cell? ⟨w.heap.size + 1, 1, none⟩ = some (.int .i64 l) := by go_simp
  have q5_7 : (w4.alloc (.cells #[.int .i64 o1, .int .i64 l1, .int .i64 c1, .int .i64 r1, .int .i64 q1] 24)).cell? ⟨w.heap.size + 1, 2, none⟩ = some (.int .i64 c) := by go_simp
  have q5_8 : (w4.alloc (.cells #[.int .i64 o1, .int .i64 l1, .int .i64 c1, .int .i64 r1, .int .i64 q1] 24)).cell? ⟨w.heap.size + 1, 3, none⟩ = some (.int .i64 r) := by go_simp
  have q5_9 : (w4.alloc (.cells #[.int .i64 o1, .int .i64 l1, .int .i64 c1, .int .i64 r1, .int .i64 q1] 24)).cell? ⟨w.heap.size + 1, 4, none⟩ = some (.int .i64 q) := by go_simp
  have q5_10 : (w4.alloc (.cells #[.int .i64 o1, .int .i64 l1, .int .i64 c1, .int .i64 r1, .int .i64 q1] 24)).cell? ⟨w3.heap.size, 0, none⟩ = some (.int .i64 o1) := by go_simp
  have q5_11 : (w4.alloc (.cells #[.int .i64 o1, .int .i64 l1, .int .i64 c1, .int .i64 r1, .int .i64 q1] 24)).cell? ⟨w3.heap.size, 1, none⟩ = some (.int .i64 l1) := by go_simp
  have q5_12 : (w4.alloc (.cells #[.int .i64 o1, .int .i64 l1, .int .i64 c1, .int .i64 r1, .int .i64 q1] 24)).cell? ⟨w3.heap.size, 2, none⟩ = some (.int .i64 c1) := by go_simp
  have q5_13 : (w4.alloc (.cells #[.int .i64 o1, .int .i64 l1, .int .i64 c1, .int .i64 r1, .int .i64 q1] 24)).cell? ⟨w3.heap.size, 3, none⟩ = some (.int .i64 r1) := by go_simp
  have q5_14 : (w4.alloc (.cells #[.int .i64 o1, .int .i64 l1, .int .i64 c1, .int .i64 r1, .int .i64 q1] 24)).cell? ⟨w3.heap.size, 4, none⟩ = some (.int .i64 q1) := by go_simp
  have q5_15 : (w4.alloc (.cells #[.int .i64 o1, .int .i64 l1, .int .i64 c1, .int .i64 r1, .int .i64 q1] 24)).cell? ⟨w4.heap.size, 0, none⟩ = some (.int .i64 o1) := by go_simp
  have q5_16 : (w4.alloc (.cells #[.int .i64 o1, .int .i64 l1, .int .i64 c1, .int .i64 r1, .int .i64 q1] 24)).cell? ⟨w4.heap.size, 1, none⟩ = some (.int .i64 l1) := by go_simp
  have q5_17 : (w4.alloc (.cells #[.int .i64 o1, .int .i64 l1, .int .i64 c1, .int .i64 r1, .int .i64 q1] 24)).cell? ⟨w4.heap.size, 2, none⟩ = some (.int .i64 c1) := by go_simp
  have q5_18 : (w4.alloc (.cells #[.int .i64 o1, .int .i64 l1, .int .i64 c1, .int .i64 r1, .int .i64 q1] 24)).cell? ⟨w4.heap.size, 3, none⟩ = some (.int .i64 r1) := by go_simp
  have q5_19 : (w4.alloc (.cells #[.int .i64 o1, .int .i64 l1, .int .i64 c1, .int .i64 r1, .int .i64 q1] 24)).cell? ⟨w4.heap.size, 4, none⟩ = some (.int .i64 q1) := by go_simp
  have Z5 : w4.heap.size < (w4.alloc (.cells #[.int .i64 o1, .int .i64 l1, .int .i64 c1, .int .i64 r1, .int .i64 q1] 24)).heap.size := by simp
  generalize hW5 : w4.alloc (.cells #[.int .i64 o1, .int .i64 l1, .int .i64 c1, .int .i64 r1, .int .i64 q1] 24) = W5 at *
  clear hW5
  clear k1 k2 k3 k4 f1 f2 f3 f4
  go_region_held3 (fun W' => Below w.heap.size w W' ∧ Env W' ∧ w4.heap.size < W'.heap.size ∧ W'.cell? ⟨w.heap.size, 0, none⟩ = some (.int .i64 o) ∧ W'.cell? ⟨w.heap.size, 1, none⟩ = some (.int .i64 l) ∧ W'.cell? ⟨w.heap.size, 2, none⟩ = some (.int .i64 c) ∧ W'.cell? ⟨w.heap.size, 3, none⟩ = some (.int .i64 r) ∧ W'.cell? ⟨w.heap.size, 4, none⟩ = some (.int .i64 q) ∧ W'.cell? ⟨w.heap.size + 1, 0, none⟩ = some (.int .i64 o) ∧ W'.cell? ⟨w.heap.size + 1, 1, none⟩ = some (.int .i64 l) ∧ W'.cell? ⟨w.heap.size + 1, 2, none⟩ = some (.int .i64 c) ∧ W'.cell? ⟨w.heap.size + 1, 3, none⟩ = some (.int .i64 r) ∧ W'.cell? ⟨w.heap.size + 1, 4, none⟩ = some (.int .i64 q) ∧ W'.cell? ⟨w3.heap.size, 0, none⟩ = some (.int .i64 o1) ∧ W'.cell? ⟨w3.heap.size, 1, none⟩ = some (.int .i64 l1) ∧ W'.cell? ⟨w3.heap.size, 2, none⟩ = some (.int .i64 c1) ∧ W'.cell? ⟨w3.heap.size, 3, none⟩ = some (.int .i64 r1) ∧ W'.cell? ⟨w3.heap.size, 4, none⟩ = some (.int .i64 q1) ∧ W'.cell? ⟨w4.heap.size, 0, none⟩ = some (.int .i64 o1) ∧ W'.cell? ⟨w4.heap.size, 1, none⟩ = some (.int .i64 l1) ∧ W'.cell? ⟨w4.heap.size, 2, none⟩ = some (.int .i64 c1) ∧ W'.cell? ⟨w4.heap.size, 3, none⟩ = some (.int .i64 r1) ∧ W'.cell? ⟨w4.heap.size, 4, none⟩ = some (.int .i64 q1))
    (first | (refine ⟨Below.drew (by assumption), Env.drew (by assumption), ?_⟩; go_keep) | (go_split_ands; refine ⟨keep_below (by assumption) (by assumption), keep_env (by assumption) (by assumption), keep_lt (by assumption) (by assumption), ?_, ?_, ?_, ?_, ?_, ?_, ?_, ?_, ?_, ?_, ?_, ?_, ?_, ?_, ?_, ?_, ?_, ?_, ?_, ?_⟩ <;> exact keep_cell (by assumption) (by omega) (by assumption)))
    (first | (go_at_call 13; refine (HK.out _).mono ?_; rintro e w5 ⟨rfl, hb5⟩) | (go_at_call 14; refine (HRK.out _).mono ?_; rintro e w6 ⟨rfl, hb6⟩) | (go_at_call 15; refine (works _ ?_).mono ?_; (first | assumption | (go_split_ands; assumption)); rintro e w7 ⟨rfl, hb7⟩))
  go_wp2_with fail
  go_returns
  refine ⟨rfl, ?_⟩
  go_split_ands
  assumption
end Go.Proofs.YtjebicdlbknemaaDoor
