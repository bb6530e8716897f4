/- stats.Parse, walked straight: all five numbers are read; one is not. -/
import Derived.Test.YtjebicdlbknemaaDoorStParse1
import Derived.LoopN
namespace Go.Proofs.YtjebicdlbknemaaDoor
open Go.RowKit
set_option linter.unusedVariables false
set_option linter.unusedSimpArgs false

set_option maxHeartbeats 8000000 in
set_option maxRecDepth 20000 in
theorem sparse_no (x : ByteArray) (row : Array Value) (w : World) (hE : EnvP w) (s0 s1 s2 s3 s4 : ByteArray) (v0 v1 v2 v3 v4 : Int) (hsp : ∀ w, Env w → Calls Tryd.prog 23 #[.string x, .string ⟨#[32]⟩] w fun e w' => e = .returned (.slice (some ⟨w.heap.size, 0, none⟩) 10 10) ∧ w' = w.alloc (.cells row 9)) (r0 : row[1]? = some (.string s0)) (r1 : row[3]? = some (.string s1)) (r2 : row[5]? = some (.string s2)) (r3 : row[7]? = some (.string s3)) (r4 : row[9]? = some (.string s4)) (a0 : ∀ w, Ret 25 #[.string s0] w (.tuple #[.int .i64 v0, .nilIface])) (a1 : ∀ w, Ret 25 #[.string s1] w (.tuple #[.int .i64 v1, .nilIface])) (a2 : ∀ w, Ret 25 #[.string s2] w (.tuple #[.int .i64 v2, .nilIface])) (a3 : ∀ w, Ret 25 #[.string s3] w (.tuple #[.int .i64 v3, .nilIface])) (a4 : ∀ w, Ret 25 #[.string s4] w (.tuple #[.int .i64 v4, .nilIface])) (T : ByteArray) (e' : Int) (ht : ∀ w, Env w → Ret 18 #[stV v0 v1 v2 v3 v4] w (.tuple #[.string T, .int .i64 e'])) (he : e' = 0) (hT : (T.toList == x.toList) = false) :
    Ret 21 #[.string x] w (.tuple #[stV 0 0 0 0 0, .int .i64 9]) := by
  subst he
  have HT := Lib.hid ht
  clear ht
  have A0 := Lib.hid a0
  have A1 := Lib.hid a1
  have A2 := Lib.hid a2
  have A3 := Lib.hid a3
  have A4 := Lib.hid a4
  have HS := Lib.hid hsp
  have hE0 := hE
  have hc0 := Below.refl w.heap.size w
  clear hE hsp a0 a1 a2 a3 a4
  go_enter Tryd.func21, Tryd.ntmps21
  go_wp2_with fail
  refine (HS.out _ (hE0.toEnv.on (by go_grown))).mono ?_
  rintro e w0 ⟨rfl, rfl⟩
  go_wp2_with fail
  refine wp_loop_rounds 6 ?_
  rw [rounds_succ]
  go_wp2_with fail
  refine Calls.mono (A0.out _) ?_
  rintro e w1 ⟨rfl, hb1⟩
  obtain ⟨kk, ff⟩ := bcell hb1
  have hc1 : Below w.heap.size w w1 := under hb1
  have k1_0 : ∀ o, w1.cell? ⟨w.heap.size, o, none⟩ = _ := fun o => kk _ o (by first | assumption | omega | (simp; done) | (simp; omega))
  have f1_0 : ∀ o, w1.frozen? ⟨w.heap.size, o, none⟩ = _ := fun o => ff _ o (by first | assumption | omega | (simp; done) | (simp; omega))
  have z1_0 : w.heap.size < w1.heap.size := by have := hb1.size; (try simp at this); omega
  have k1_1 : ∀ o, w1.cell? ⟨w.heap.size+1, o, none⟩ = _ := fun o => kk _ o (by first | assumption | omega | (simp; done) | (simp; omega))
  have f1_1 : ∀ o, w1.frozen? ⟨w.heap.size+1, o, none⟩ = _ := fun o => ff _ o (by first | assumption | omega | (simp; done) | (simp; omega))
  have z1_1 : w.heap.size+1 < w1.heap.size := by have := hb1.size; (try simp at this); omega
  have k1_2 : ∀ o, w1.cell? ⟨w.heap.size+1+1, o, none⟩ = _ := fun o => kk _ o (by first | assumption | omega | (simp; done) | (simp; omega))
  have f1_2 : ∀ o, w1.frozen? ⟨w.heap.size+1+1, o, none⟩ = _ := fun o => ff _ o (by first | assumption | omega | (simp; done) | (simp; omega))
  have z1_2 : w.heap.size+1+1 < w1.heap.size := by have := hb1.size; (try simp at this); omega
  clear kk ff
  have hs1 := hc1.size
  clear hc0 hb1
  go_wp2_with fail
  rw [rounds_succ]
  go_wp2_with fail
  refine Calls.mono (A1.out _) ?_
  rintro e w2 ⟨rfl, hb2⟩
  obtain ⟨kk, ff⟩ := bcell hb2
  have hc2 : Below w.heap.size w w2 := under hb2
  have k2_0 : ∀ o, w2.cell? ⟨w.heap.size, o, none⟩ = _ := fun o => kk _ o (by first | assumption | omega | (simp; done) | (simp; omega))
  have f2_0 : ∀ o, w2.frozen? ⟨w.heap.size, o, none⟩ = _ := fun o => ff _ o (by first | assumption | omega | (simp; done) | (simp; omega))
  have z2_0 : w.heap.size < w2.heap.size := by have := hb2.size; (try simp at this); omega
  have k2_1 : ∀ o, w2.cell? ⟨w.heap.size+1, o, none⟩ = _ := fun o => kk _ o (by first | assumption | omega | (simp; done) | (simp; omega))
  have f2_1 : ∀ o, w2.frozen? ⟨w.heap.size+1, o, none⟩ = _ := fun o => ff _ o (by first | assumption | omega | (simp; done) | (simp; omega))
  have z2_1 : w.heap.size+1 < w2.heap.size := by have := hb2.size; (try simp at this); omega
  have k2_2 : ∀ o, w2.cell? ⟨w.heap.size+1+1, o, none⟩ = _ := fun o => kk _ o (by first | assumption | omega | (simp; done) | (simp; omega))
  have f2_2 : ∀ o, w2.frozen? ⟨w.heap.size+1+1, o, none⟩ = _ := fun o => ff _ o (by first | assumption | omega | (simp; done) | (simp; omega))
  have z2_2 : w.heap.size+1+1 < w2.heap.size := by have := hb2.size; (try simp at this); omega
  clear kk ff
  have hs2 := hc2.size
  clear hc1 hb2
  go_wp2_with fail
  rw [rounds_succ]
  go_wp2_with fail
  refine Calls.mono (A2.out _) ?_
  rintro e w3 ⟨rfl, hb3⟩
  obtain ⟨kk, ff⟩ := bcell hb3
  have hc3 : Below w.heap.size w w3 := under hb3
  have k3_0 : ∀ o, w3.cell? ⟨w.heap.size, o, none⟩ = _ := fun o => kk _ o (by first | assumption | omega | (simp; done) | (simp; omega))
  have f3_0 : ∀ o, w3.frozen? ⟨w.heap.size, o, none⟩ = _ := fun o => ff _ o (by first | assumption | omega | (simp; done) | (simp; omega))
  have z3_0 : w.heap.size < w3.heap.size := by have := hb3.size; (try simp at this); omega
  have k3_1 : ∀ o, w3.cell? ⟨w.heap.size+1, o, none⟩ = _ := fun o => kk _ o (by first | assumption | omega | (simp; done) | (simp; omega))
  have f3_1 : ∀ o, w3.frozen? ⟨w.heap.size+1, o, none⟩ = _ := fun o => ff _ o (by first | assumption | omega | (simp; done) | (simp; omega))
  have z3_1 : w.heap.size+1 < w3.heap.size := by have := hb3.size; (try simp at this); omega
  have k3_2 : ∀ o, w3.cell? ⟨w.heap.size+1+1, o, none⟩ = _ := fun o => kk _ o (by first | assumption | omega | (simp; done) | (simp; omega))
  have f3_2 : ∀ o, w3.frozen? ⟨w.heap.size+1+1, o, none⟩ = _ := fun o => ff _ o (by first | assumption | omega | (simp; done) | (simp; omega))
  have z3_2 : w.heap.size+1+1 < w3.heap.size := by have := hb3.size; (try simp at this); omega
  clear kk ff
  have hs3 := hc3.size
  clear hc2 hb3
  go_wp2_with fail
  rw [rounds_succ]
  go_wp2_with fail
  refine Calls.mono (A3.out _) ?_
  rintro e w4 ⟨rfl, hb4⟩
  obtain ⟨kk, ff⟩ := bcell hb4
  have hc4 : Below w.heap.size w w4 := under hb4
  have k4_0 : ∀ o, w4.cell? ⟨w.heap.size, o, none⟩ = _ := fun o => kk _ o (by first | assumption | omega | (simp; done) | (simp; omega))
  have f4_0 : ∀ o, w4.frozen? ⟨w.heap.size, o, none⟩ = _ := fun o => ff _ o (by first | assumption | omega | (simp; done) | (simp; omega))
  have z4_0 : w.heap.size < w4.heap.size := by have := hb4.size; (try simp at this); omega
  have k4_1 : ∀ o, w4.cell? ⟨w.heap.size+1, o, none⟩ = _ := fun o => kk _ o (by first | assumption | omega | (simp; done) | (simp; omega))
  have f4_1 : ∀ o, w4.frozen? ⟨w.heap.size+1, o, none⟩ = _ := fun o => ff _ o (by first | assumption | omega | (simp; done) | (simp; omega))
  have z4_1 : w.heap.size+1 < w4.heap.size := by have := hb4.size; (try simp at this); omega
  have k4_2 : ∀ o, w4.cell? ⟨w.heap.size+1+1, o, none⟩ = _ := fun o => kk _ o (by first | assumption | omega | (simp; done) | (simp; omega))
  have f4_2 : ∀ o, w4.frozen? ⟨w.heap.size+1+1, o, none⟩ = _ := fun o => ff _ o (by first | assumption | omega | (simp; done) | (simp; omega))
  have z4_2 : w.heap.size+1+1 < w4.heap.size := by have := hb4.size; (try simp at this); omega
  clear kk ff
  have hs4 := hc4.size
  clear hc3 hb4
  go_wp2_with fail
  rw [rounds_succ]
  go_wp2_with fail
  refine Calls.mono (A4.out _) ?_
  rintro e w5 ⟨rfl, hb5⟩
  obtain ⟨kk, ff⟩ := bcell hb5
  have hc5 : Below w.heap.size w w5 := under hb5
  have k5_0 : ∀ o, w5.cell? ⟨w.heap.size, o, none⟩ = _ := fun o => kk _ o (by first | assumption | omega | (simp; done) | (simp; omega))
  have f5_0 : ∀ o, w5.frozen? ⟨w.heap.size, o, none⟩ = _ := fun o => ff _ o (by first | assumption | omega | (simp; done) | (simp; omega))
  have z5_0 : w.heap.size < w5.heap.size := by have := hb5.size; (try simp at this); omega
  have k5_1 : ∀ o, w5.cell? ⟨w.heap.size+1, o, none⟩ = _ := fun o => kk _ o (by first | assumption | omega | (simp; done) | (simp; omega))
  have f5_1 : ∀ o, w5.frozen? ⟨w.heap.size+1, o, none⟩ = _ := fun o => ff _ o (by first | assumption | omega | (simp; done) | (simp; omega))
  have z5_1 : w.heap.size+1 < w5.heap.size := by have := hb5.size; (try simp at this); omega
  have k5_2 : ∀ o, w5.cell? ⟨w.heap.size+1+1, o, none⟩ = _ := fun o => kk _ o (by first | assumption | omega | (simp; done) | (simp; omega))
  have f5_2 : ∀ o, w5.frozen? ⟨w.heap.size+1+1, o, none⟩ = _ := fun o => ff _ o (by first | assumption | omega | (simp; done) | (simp; omega))
  have z5_2 : w.heap.size+1+1 < w5.heap.size := by have := hb5.size; (try simp at this); omega
  clear kk ff
  have hs5 := hc5.size
  clear hc4 hb5
  go_wp2_with fail
  rw [rounds_succ]
  go_wp2_with (go_at_call 29; go_in)
  go_wp2_with fail
  refine Calls.mono (HT.out _ (hE0.toEnv.on (by go_grown))) ?_
  rintro e w6 ⟨rfl, hb6⟩
  obtain ⟨kk, ff⟩ := bcell hb6
  have hc6 : Below w.heap.size w w6 := under hb6
  have k6_0 : ∀ o, w6.cell? ⟨w.heap.size, o, none⟩ = _ := fun o => kk _ o (by first | assumption | omega | (simp; done) | (simp; omega))
  have f6_0 : ∀ o, w6.frozen? ⟨w.heap.size, o, none⟩ = _ := fun o => ff _ o (by first | assumption | omega | (simp; done) | (simp; omega))
  have z6_0 : w.heap.size < w6.heap.size := by have := hb6.size; (try simp at this); omega
  have k6_1 : ∀ o, w6.cell? ⟨w.heap.size+1, o, none⟩ = _ := fun o => kk _ o (by first | assumption | omega | (simp; done) | (simp; omega))
  have f6_1 : ∀ o, w6.frozen? ⟨w.heap.size+1, o, none⟩ = _ := fun o => ff _ o (by first | assumption | omega | (simp; done) | (simp; omega))
  have z6_1 : w.heap.size+1 < w6.heap.size := by have := hb6.size; (try simp at this); omega
  clear kk ff
  have hs6 := hc6.size
  clear hc5 hb6
  have q0 : w6.cell? ⟨w.heap.size, 0, none⟩ = some (.int .i64 0) := by go_simp
  have g0 : w6.frozen? ⟨w.heap.size, 0, none⟩ = false := by go_simp
  have q1 : w6.cell? ⟨w.heap.size, 1, none⟩ = some (.int .i64 0) := by go_simp
  have g1 : w6.frozen? ⟨w.heap.size, 1, none⟩ = false := by go_simp
  have q2 : w6.cell? ⟨w.heap.size, 2, none⟩ = some (.int .i64 0) := by go_simp
  have g2 : w6.frozen? ⟨w.heap.size, 2, none⟩ = false := by go_simp
  have q3 : w6.cell? ⟨w.heap.size, 3, none⟩ = some (.int .i64 0) := by go_simp
  have g3 : w6.frozen? ⟨w.heap.size, 3, none⟩ = false := by go_simp
  have q4 : w6.cell? ⟨w.heap.size, 4, none⟩ = some (.int .i64 0) := by go_simp
  have g4 : w6.frozen? ⟨w.heap.size, 4, none⟩ = false := by go_simp
  go_wp2_with (go_at_call 29; go_in)
  refine bodyPost_ret (v := .tuple #[stV 0 0 0 0 0, .int .i64 9]) (by (have h1 : w.heap.size < w6.heap.size + 1 := by omega); simp [results, Tryd.results21, go_sem, q0, q1, q2, q3, q4, z6_0, h1]) rfl ⟨rfl, by go_grown⟩
set_option maxHeartbeats 8000000 in
set_option maxRecDepth 20000 in
theorem sparse_err (x : ByteArray) (row : Array Value) (w : World) (hE : EnvP w) (s0 s1 s2 s3 s4 : ByteArray) (v0 v1 v2 v3 v4 : Int) (hsp : ∀ w, Env w → Calls Tryd.prog 23 #[.string x, .string ⟨#[32]⟩] w fun e w' => e = .returned (.slice (some ⟨w.heap.size, 0, none⟩) 10 10) ∧ w' = w.alloc (.cells row 9)) (r0 : row[1]? = some (.string s0)) (r1 : row[3]? = some (.string s1)) (r2 : row[5]? = some (.string s2)) (r3 : row[7]? = some (.string s3)) (r4 : row[9]? = some (.string s4)) (a0 : ∀ w, Ret 25 #[.string s0] w (.tuple #[.int .i64 v0, .nilIface])) (a1 : ∀ w, Ret 25 #[.string s1] w (.tuple #[.int .i64 v1, .nilIface])) (a2 : ∀ w, Ret 25 #[.string s2] w (.tuple #[.int .i64 v2, .nilIface])) (a3 : ∀ w, Ret 25 #[.string s3] w (.tuple #[.int .i64 v3, .nilIface])) (a4 : ∀ w, Ret 25 #[.string s4] w (.tuple #[.int .i64 v4, .nilIface])) (T : ByteArray) (e' : Int) (ht : ∀ w, Env w → Ret 18 #[stV v0 v1 v2 v3 v4] w (.tuple #[.string T, .int .i64 e'])) (he : e' = 2) :
    Ret 21 #[.string x] w (.tuple #[stV 0 0 0 0 0, .int .i64 9]) := by
  subst he
  have HT := Lib.hid ht
  clear ht
  have A0 := Lib.hid a0
  have A1 := Lib.hid a1
  have A2 := Lib.hid a2
  have A3 := Lib.hid a3
  have A4 := Lib.hid a4
  have HS := Lib.hid hsp
  have hE0 := hE
  have hc0 := Below.refl w.heap.size w
  clear hE hsp a0 a1 a2 a3 a4
  go_enter Tryd.func21, Tryd.ntmps21
  go_wp2_with fail
  refine (HS.out _ (hE0.toEnv.on (by go_grown))).mono ?_
  rintro e w0 ⟨rfl, rfl⟩
  go_wp2_with fail
  refine wp_loop_rounds 6 ?_
  rw [rounds_succ]
  go_wp2_with fail
  refine Calls.mono (A0.out _) ?_
  rintro e w1 ⟨rfl, hb1⟩
  obtain ⟨kk, ff⟩ := bcell hb1
  have hc1 : Below w.heap.size w w1 := under hb1
  have k1_0 : ∀ o, w1.cell? ⟨w.heap.size, o, none⟩ = _ := fun o => kk _ o (by first | assumption | omega | (simp; done) | (simp; omega))
  have f1_0 : ∀ o, w1.frozen? ⟨w.heap.size, o, none⟩ = _ := fun o => ff _ o (by first | assumption | omega | (simp; done) | (simp; omega))
  have z1_0 : w.heap.size < w1.heap.size := by have := hb1.size; (try simp at this); omega
  have k1_1 : ∀ o, w1.cell? ⟨w.heap.size+1, o, none⟩ = _ := fun o => kk _ o (by first | assumption | omega | (simp; done) | (simp; omega))
  have f1_1 : ∀ o, w1.frozen? ⟨w.heap.size+1, o, none⟩ = _ := fun o => ff _ o (by first | assumption | omega | (simp; done) | (simp; omega))
  have z1_1 : w.heap.size+1 < w1.heap.size := by have := hb1.size; (try simp at this); omega
  have k1_2 : ∀ o, w1.cell? ⟨w.heap.size+1+1, o, none⟩ = _ := fun o => kk _ o (by first | assumption | omega | (simp; done) | (simp; omega))
  have f1_2 : ∀ o, w1.frozen? ⟨w.heap.size+1+1, o, none⟩ = _ := fun o => ff _ o (by first | assumption | omega | (simp; done) | (simp; omega))
  have z1_2 : w.heap.size+1+1 < w1.heap.size := by have := hb1.size; (try simp at this); omega
  clear kk ff
  have hs1 := hc1.size
  clear hc0 hb1
  go_wp2_with fail
  rw [rounds_succ]
  go_wp2_with fail
  refine Calls.mono (A1.out _) ?_
  rintro e w2 ⟨rfl, hb2⟩
  obtain ⟨kk, ff⟩ := bcell hb2
  have hc2 : Below w.heap.size w w2 := under hb2
  have k2_0 : ∀ o, w2.cell? ⟨w.heap.size, o, none⟩ = _ := fun o => kk _ o (by first | assumption | omega | (simp; done) | (simp; omega))
  have f2_0 : ∀ o, w2.frozen? ⟨w.heap.size, o, none⟩ = _ := fun o => ff _ o (by first | assumption | omega | (simp; done) | (simp; omega))
  have z2_0 : w.heap.size < w2.heap.size := by have := hb2.size; (try simp at this); omega
  have k2_1 : ∀ o, w2.cell? ⟨w.heap.size+1, o, none⟩ = _ := fun o => kk _ o (by first | assumption | omega | (simp; done) | (simp; omega))
  have f2_1 : ∀ o, w2.frozen? ⟨w.heap.size+1, o, none⟩ = _ := fun o => ff _ o (by first | assumption | omega | (simp; done) | (simp; omega))
  have z2_1 : w.heap.size+1 < w2.heap.size := by have := hb2.size; (try simp at this); omega
  have k2_2 : ∀ o, w2.cell? ⟨w.heap.size+1+1, o, none⟩ = _ := fun o => kk _ o (by first | assumption | omega | (simp; done) | (simp; omega))
  have f2_2 : ∀ o, w2.frozen? ⟨w.heap.size+1+1, o, none⟩ = _ := fun o => ff _ o (by first | assumption | omega | (simp; done) | (simp; omega))
  have z2_2 : w.heap.size+1+1 < w2.heap.size := by have := hb2.size; (try simp at this); omega
  clear kk ff
  have hs2 := hc2.size
  clear hc1 hb2
  go_wp2_with fail
  rw [rounds_succ]
  go_wp2_with fail
  refine Calls.mono (A2.out _) ?_
  rintro e w3 ⟨rfl, hb3⟩
  obtain ⟨kk, ff⟩ := bcell hb3
  have hc3 : Below w.heap.size w w3 := under hb3
  have k3_0 : ∀ o, w3.cell? ⟨w.heap.size, o, none⟩ = _ := fun o => kk _ o (by first | assumption | omega | (simp; done) | (simp; omega))
  have f3_0 : ∀ o, w3.frozen? ⟨w.heap.size, o, none⟩ = _ := fun o => ff _ o (by first | assumption | omega | (simp; done) | (simp; omega))
  have z3_0 : w.heap.size < w3.heap.size := by have := hb3.size; (try simp at this); omega
  have k3_1 : ∀ o, w3.cell? ⟨w.heap.size+1, o, none⟩ = _ := fun o => kk _ o (by first | assumption | omega | (simp; done) | (simp; omega))
  have f3_1 : ∀ o, w3.frozen? ⟨w.heap.size+1, o, none⟩ = _ := fun o => ff _ o (by first | assumption | omega | (simp; done) | (simp; omega))
  have z3_1 : w.heap.size+1 < w3.heap.size := by have := hb3.size; (try simp at this); omega
  have k3_2 : ∀ o, w3.cell? ⟨w.heap.size+1+1, o, none⟩ = _ := fun o => kk _ o (by first | assumption | omega | (simp; done) | (simp; omega))
  have f3_2 : ∀ o, w3.frozen? ⟨w.heap.size+1+1, o, none⟩ = _ := fun o => ff _ o (by first | assumption | omega | (simp; done) | (simp; omega))
  have z3_2 : w.heap.size+1+1 < w3.heap.size := by have := hb3.size; (try simp at this); omega
  clear kk ff
  have hs3 := hc3.size
  clear hc2 hb3
  go_wp2_with fail
  rw [rounds_succ]
  go_wp2_with fail
  refine Calls.mono (A3.out _) ?_
  rintro e w4 ⟨rfl, hb4⟩
  obtain ⟨kk, ff⟩ := bcell hb4
  have hc4 : Below w.heap.size w w4 := under hb4
  have k4_0 : ∀ o, w4.cell? ⟨w.heap.size, o, none⟩ = _ := fun o => kk _ o (by first | assumption | omega | (simp; done) | (simp; omega))
  have f4_0 : ∀ o, w4.frozen? ⟨w.heap.size, o, none⟩ = _ := fun o => ff _ o (by first | assumption | omega | (simp; done) | (simp; omega))
  have z4_0 : w.heap.size < w4.heap.size := by have := hb4.size; (try simp at this); omega
  have k4_1 : ∀ o, w4.cell? ⟨w.heap.size+1, o, none⟩ = _ := fun o => kk _ o (by first | assumption | omega | (simp; done) | (simp; omega))
  have f4_1 : ∀ o, w4.frozen? ⟨w.heap.size+1, o, none⟩ = _ := fun o => ff _ o (by first | assumption | omega | (simp; done) | (simp; omega))
  have z4_1 : w.heap.size+1 < w4.heap.size := by have := hb4.size; (try simp at this); omega
  have k4_2 : ∀ o, w4.cell? ⟨w.heap.size+1+1, o, none⟩ = _ := fun o => kk _ o (by first | assumption | omega | (simp; done) | (simp; omega))
  have f4_2 : ∀ o, w4.frozen? ⟨w.heap.size+1+1, o, none⟩ = _ := fun o => ff _ o (by first | assumption | omega | (simp; done) | (simp; omega))
  have z4_2 : w.heap.size+1+1 < w4.heap.size := by have := hb4.size; (try simp at this); omega
  clear kk ff
  have hs4 := hc4.size
  clear hc3 hb4
  go_wp2_with fail
  rw [rounds_succ]
  go_wp2_with fail
  refine Calls.mono (A4.out _) ?_
  rintro e w5 ⟨rfl, hb5⟩
  obtain ⟨kk, ff⟩ := bcell hb5
  have hc5 : Below w.heap.size w w5 := under hb5
  have k5_0 : ∀ o, w5.cell? ⟨w.heap.size, o, none⟩ = _ := fun o => kk _ o (by first | assumption | omega | (simp; done) | (simp; omega))
  have f5_0 : ∀ o, w5.frozen? ⟨w.heap.size, o, none⟩ = _ := fun o => ff _ o (by first | assumption | omega | (simp; done) | (simp; omega))
  have z5_0 : w.heap.size < w5.heap.size := by have := hb5.size; (try simp at this); omega
  have k5_1 : ∀ o, w5.cell? ⟨w.heap.size+1, o, none⟩ = _ := fun o => kk _ o (by first | assumption | omega | (simp; done) | (simp; omega))
  have f5_1 : ∀ o, w5.frozen? ⟨w.heap.size+1, o, none⟩ = _ := fun o => ff _ o (by first | assumption | omega | (simp; done) | (simp; omega))
  have z5_1 : w.heap.size+1 < w5.heap.size := by have := hb5.size; (try simp at this); omega
  have k5_2 : ∀ o, w5.cell? ⟨w.heap.size+1+1, o, none⟩ = _ := fun o => kk _ o (by first | assumption | omega | (simp; done) | (simp; omega))
  have f5_2 : ∀ o, w5.frozen? ⟨w.heap.size+1+1, o, none⟩ = _ := fun o => ff _ o (by first | assumption | omega | (simp; done) | (simp; omega))
  have z5_2 : w.heap.size+1+1 < w5.heap.size := by have := hb5.size; (try simp at this); omega
  clear kk ff
  have hs5 := hc5.size
  clear hc4 hb5
  go_wp2_with fail
  rw [rounds_succ]
  go_wp2_with (go_at_call 29; go_in)
  go_wp2_with fail
  refine Calls.mono (HT.out _ (hE0.toEnv.on (by go_grown))) ?_
  rintro e w6 ⟨rfl, hb6⟩
  obtain ⟨kk, ff⟩ := bcell hb6
  have hc6 : Below w.heap.size w w6 := under hb6
  have k6_0 : ∀ o, w6.cell? ⟨w.heap.size, o, none⟩ = _ := fun o => kk _ o (by first | assumption | omega | (simp; done) | (simp; omega))
  have f6_0 : ∀ o, w6.frozen? ⟨w.heap.size, o, none⟩ = _ := fun o => ff _ o (by first | assumption | omega | (simp; done) | (simp; omega))
  have z6_0 : w.heap.size < w6.heap.size := by have := hb6.size; (try simp at this); omega
  have k6_1 : ∀ o, w6.cell? ⟨w.heap.size+1, o, none⟩ = _ := fun o => kk _ o (by first | assumption | omega | (simp; done) | (simp; omega))
  have f6_1 : ∀ o, w6.frozen? ⟨w.heap.size+1, o, none⟩ = _ := fun o => ff _ o (by first | assumption | omega | (simp; done) | (simp; omega))
  have z6_1 : w.heap.size+1 < w6.heap.size := by have := hb6.size; (try simp at this); omega
  clear kk ff
  have hs6 := hc6.size
  clear hc5 hb6
  have q0 : w6.cell? ⟨w.heap.size, 0, none⟩ = some (.int .i64 0) := by go_simp
  have g0 : w6.frozen? ⟨w.heap.size, 0, none⟩ = false := by go_simp
  have q1 : w6.cell? ⟨w.heap.size, 1, none⟩ = some (.int .i64 0) := by go_simp
  have g1 : w6.frozen? ⟨w.heap.size, 1, none⟩ = false := by go_simp
  have q2 : w6.cell? ⟨w.heap.size, 2, none⟩ = some (.int .i64 0) := by go_simp
  have g2 : w6.frozen? ⟨w.heap.size, 2, none⟩ = false := by go_simp
  have q3 : w6.cell? ⟨w.heap.size, 3, none⟩ = some (.int .i64 0) := by go_simp
  have g3 : w6.frozen? ⟨w.heap.size, 3, none⟩ = false := by go_simp
  have q4 : w6.cell? ⟨w.heap.size, 4, none⟩ = some (.int .i64 0) := by go_simp
  have g4 : w6.frozen? ⟨w.heap.size, 4, none⟩ = false := by go_simp
  go_wp2_with (go_at_call 29; go_in)
  refine bodyPost_ret (v := .tuple #[stV 0 0 0 0 0, .int .i64 9]) (by (have h1 : w.heap.size < w6.heap.size + 1 := by omega); simp [results, Tryd.results21, go_sem, q0, q1, q2, q3, q4, z6_0, h1]) rfl ⟨rfl, by go_grown⟩
set_option maxHeartbeats 8000000 in
set_option maxRecDepth 20000 in
theorem sparse_yes (x : ByteArray) (row : Array Value) (w : World) (hE : EnvP w) (s0 s1 s2 s3 s4 : ByteArray) (v0 v1 v2 v3 v4 : Int) (hsp : ∀ w, Env w → Calls Tryd.prog 23 #[.string x, .string ⟨#[32]⟩] w fun e w' => e = .returned (.slice (some ⟨w.heap.size, 0, none⟩) 10 10) ∧ w' = w.alloc (.cells row 9)) (r0 : row[1]? = some (.string s0)) (r1 : row[3]? = some (.string s1)) (r2 : row[5]? = some (.string s2)) (r3 : row[7]? = some (.string s3)) (r4 : row[9]? = some (.string s4)) (a0 : ∀ w, Ret 25 #[.string s0] w (.tuple #[.int .i64 v0, .nilIface])) (a1 : ∀ w, Ret 25 #[.string s1] w (.tuple #[.int .i64 v1, .nilIface])) (a2 : ∀ w, Ret 25 #[.string s2] w (.tuple #[.int .i64 v2, .nilIface])) (a3 : ∀ w, Ret 25 #[.string s3] w (.tuple #[.int .i64 v3, .nilIface])) (a4 : ∀ w, Ret 25 #[.string s4] w (.tuple #[.int .i64 v4, .nilIface])) (T : ByteArray) (e' : Int) (ht : ∀ w, Env w → Ret 18 #[stV v0 v1 v2 v3 v4] w (.tuple #[.string T, .int .i64 e'])) (he : e' = 0) (hT : (T.toList == x.toList) = true) :
    Ret 21 #[.string x] w (.tuple #[stV v0 v1 v2 v3 v4, .int .i64 0]) := by
  subst he
  have HT := Lib.hid ht
  clear ht
  have A0 := Lib.hid a0
  have A1 := Lib.hid a1
  have A2 := Lib.hid a2
  have A3 := Lib.hid a3
  have A4 := Lib.hid a4
  have HS := Lib.hid hsp
  have hE0 := hE
  have hc0 := Below.refl w.heap.size w
  clear hE hsp a0 a1 a2 a3 a4
  go_enter Tryd.func21, Tryd.ntmps21
  go_wp2_with fail
  refine (HS.out _ (hE0.toEnv.on (by go_grown))).mono ?_
  rintro e w0 ⟨rfl, rfl⟩
  go_wp2_with fail
  refine wp_loop_rounds 6 ?_
  rw [rounds_succ]
  go_wp2_with fail
  refine Calls.mono (A0.out _) ?_
  rintro e w1 ⟨rfl, hb1⟩
  obtain ⟨kk, ff⟩ := bcell hb1
  have hc1 : Below w.heap.size w w1 := under hb1
  have k1_0 : ∀ o, w1.cell? ⟨w.heap.size, o, none⟩ = _ := fun o => kk _ o (by first | assumption | omega | (simp; done) | (simp; omega))
  have f1_0 : ∀ o, w1.frozen? ⟨w.heap.size, o, none⟩ = _ := fun o => ff _ o (by first | assumption | omega | (simp; done) | (simp; omega))
  have z1_0 : w.heap.size < w1.heap.size := by have := hb1.size; (try simp at this); omega
  have k1_1 : ∀ o, w1.cell? ⟨w.heap.size+1, o, none⟩ = _ := fun o => kk _ o (by first | assumption | omega | (simp; done) | (simp; omega))
  have f1_1 : ∀ o, w1.frozen? ⟨w.heap.size+1, o, none⟩ = _ := fun o => ff _ o (by first | assumption | omega | (simp; done) | (simp; omega))
  have z1_1 : w.heap.size+1 < w1.heap.size := by have := hb1.size; (try simp at this); omega
  have k1_2 : ∀ o, w1.cell? ⟨w.heap.size+1+1, o, none⟩ = _ := fun o => kk _ o (by first | assumption | omega | (simp; done) | (simp; omega))
  have f1_2 : ∀ o, w1.frozen? ⟨w.heap.size+1+1, o, none⟩ = _ := fun o => ff _ o (by first | assumption | omega | (simp; done) | (simp; omega))
  have z1_2 : w.heap.size+1+1 < w1.heap.size := by have := hb1.size; (try simp at this); omega
  clear kk ff
  have hs1 := hc1.size
  clear hc0 hb1
  go_wp2_with fail
  rw [rounds_succ]
  go_wp2_with fail
  refine Calls.mono (A1.out _) ?_
  rintro e w2 ⟨rfl, hb2⟩
  obtain ⟨kk, ff⟩ := bcell hb2
  have hc2 : Below w.heap.size w w2 := under hb2
  have k2_0 : ∀ o, w2.cell? ⟨w.heap.size, o, none⟩ = _ := fun o => kk _ o (by first | assumption | omega | (simp; done) | (simp; omega))
  have f2_0 : ∀ o, w2.frozen? ⟨w.heap.size, o, none⟩ = _ := fun o => ff _ o (by first | assumption | omega | (simp; done) | (simp; omega))
  have z2_0 : w.heap.size < w2.heap.size := by have := hb2.size; (try simp at this); omega
  have k2_1 : ∀ o, w2.cell? ⟨w.heap.size+1, o, none⟩ = _ := fun o => kk _ o (by first | assumption | omega | (simp; done) | (simp; omega))
  have f2_1 : ∀ o, w2.frozen? ⟨w.heap.size+1, o, none⟩ = _ := fun o => ff _ o (by first | assumption | omega | (simp; done) | (simp; omega))
  have z2_1 : w.heap.size+1 < w2.heap.size := by have := hb2.size; (try simp at this); omega
  have k2_2 : ∀ o, w2.cell? ⟨w.heap.size+1+1, o, none⟩ = _ := fun o => kk _ o (by first | assumption | omega | (simp; done) | (simp; omega))
  have f2_2 : ∀ o, w2.frozen? ⟨w.heap.size+1+1, o, none⟩ = _ := fun o => ff _ o (by first | assumption | omega | (simp; done) | (simp; omega))
  have z2_2 : w.heap.size+1+1 < w2.heap.size := by have := hb2.size; (try simp at this); omega
  clear kk ff
  have hs2 := hc2.size
  clear hc1 hb2
  go_wp2_with fail
  rw [rounds_succ]
  go_wp2_with fail
  refine Calls.mono (A2.out _) ?_
  rintro e w3 ⟨rfl, hb3⟩
  obtain ⟨kk, ff⟩ := bcell hb3
  have hc3 : Below w.heap.size w w3 := under hb3
  have k3_0 : ∀ o, w3.cell? ⟨w.heap.size, o, none⟩ = _ := fun o => kk _ o (by first | assumption | omega | (simp; done) | (simp; omega))
  have f3_0 : ∀ o, w3.frozen? ⟨w.heap.size, o, none⟩ = _ := fun o => ff _ o (by first | assumption | omega | (simp; done) | (simp; omega))
  have z3_0 : w.heap.size < w3.heap.size := by have := hb3.size; (try simp at this); omega
  have k3_1 : ∀ o, w3.cell? ⟨w.heap.size+1, o, none⟩ = _ := fun o => kk _ o (by first | assumption | omega | (simp; done) | (simp; omega))
  have f3_1 : ∀ o, w3.frozen? ⟨w.heap.size+1, o, none⟩ = _ := fun o => ff _ o (by first | assumption | omega | (simp; done) | (simp; omega))
  have z3_1 : w.heap.size+1 < w3.heap.size := by have := hb3.size; (try simp at this); omega
  have k3_2 : ∀ o, w3.cell? ⟨w.heap.size+1+1, o, none⟩ = _ := fun o => kk _ o (by first | assumption | omega | (simp; done) | (simp; omega))
  have f3_2 : ∀ o, w3.frozen? ⟨w.heap.size+1+1, o, none⟩ = _ := fun o => ff _ o (by first | assumption | omega | (simp; done) | (simp; omega))
  have z3_2 : w.heap.size+1+1 < w3.heap.size := by have := hb3.size; (try simp at this); omega
  clear kk ff
  have hs3 := hc3.size
  clear hc2 hb3
  go_wp2_with fail
  rw [rounds_succ]
  go_wp2_with fail
  refine Calls.mono (A3.out _) ?_
  rintro e w4 ⟨rfl, hb4⟩
  obtain ⟨kk, ff⟩ := bcell hb4
  have hc4 : Below w.heap.size w w4 := under hb4
  have k4_0 : ∀ o, w4.cell? ⟨w.heap.size, o, none⟩ = _ := fun o => kk _ o (by first | assumption | omega | (simp; done) | (simp; omega))
  have f4_0 : ∀ o, w4.frozen? ⟨w.heap.size, o, none⟩ = _ := fun o => ff _ o (by first | assumption | omega | (simp; done) | (simp; omega))
  have z4_0 : w.heap.size < w4.heap.size := by have := hb4.size; (try simp at this); omega
  have k4_1 : ∀ o, w4.cell? ⟨w.heap.size+1, o, none⟩ = _ := fun o => kk _ o (by first | assumption | omega | (simp; done) | (simp; omega))
  have f4_1 : ∀ o, w4.frozen? ⟨w.heap.size+1, o, none⟩ = _ := fun o => ff _ o (by first | assumption | omega | (simp; done) | (simp; omega))
  have z4_1 : w.heap.size+1 < w4.heap.size := by have := hb4.size; (try simp at this); omega
  have k4_2 : ∀ o, w4.cell? ⟨w.heap.size+1+1, o, none⟩ = _ := fun o => kk _ o (by first | assumption | omega | (simp; done) | (simp; omega))
  have f4_2 : ∀ o, w4.frozen? ⟨w.heap.size+1+1, o, none⟩ = _ := fun o => ff _ o (by first | assumption | omega | (simp; done) | (simp; omega))
  have z4_2 : w.heap.size+1+1 < w4.heap.size := by have := hb4.size; (try simp at this); omega
  clear kk ff
  have hs4 := hc4.size
  clear hc3 hb4
  go_wp2_with fail
  rw [rounds_succ]
  go_wp2_with fail
  refine Calls.mono (A4.out _) ?_
  rintro e w5 ⟨rfl, hb5⟩
  obtain ⟨kk, ff⟩ := bcell hb5
  have hc5 : Below w.heap.size w w5 := under hb5
  have k5_0 : ∀ o, w5.cell? ⟨w.heap.size, o, none⟩ = _ := fun o => kk _ o (by first | assumption | omega | (simp; done) | (simp; omega))
  have f5_0 : ∀ o, w5.frozen? ⟨w.heap.size, o, none⟩ = _ := fun o => ff _ o (by first | assumption | omega | (simp; done) | (simp; omega))
  have z5_0 : w.heap.size < w5.heap.size := by have := hb5.size; (try simp at this); omega
  have k5_1 : ∀ o, w5.cell? ⟨w.heap.size+1, o, none⟩ = _ := fun o => kk _ o (by first | assumption | omega | (simp; done) | (simp; omega))
  have f5_1 : ∀ o, w5.frozen? ⟨w.heap.size+1, o, none⟩ = _ := fun o => ff _ o (by first | assumption | omega | (simp; done) | (simp; omega))
  have z5_1 : w.heap.size+1 < w5.heap.size := by have := hb5.size; (try simp at this); omega
  have k5_2 : ∀ o, w5.cell? ⟨w.heap.size+1+1, o, none⟩ = _ := fun o => kk _ o (by first | assumption | omega | (simp; done) | (simp; omega))
  have f5_2 : ∀ o, w5.frozen? ⟨w.heap.size+1+1, o, none⟩ = _ := fun o => ff _ o (by first | assumption | omega | (simp; done) | (simp; omega))
  have z5_2 : w.heap.size+1+1 < w5.heap.size := by have := hb5.size; (try simp at this); omega
  clear kk ff
  have hs5 := hc5.size
  clear hc4 hb5
  go_wp2_with fail
  rw [rounds_succ]
  go_wp2_with (go_at_call 29; go_in)
  go_wp2_with fail
  refine Calls.mono (HT.out _ (hE0.toEnv.on (by go_grown))) ?_
  rintro e w6 ⟨rfl, hb6⟩
  obtain ⟨kk, ff⟩ := bcell hb6
  have hc6 : Below w.heap.size w w6 := under hb6
  have k6_0 : ∀ o, w6.cell? ⟨w.heap.size, o, none⟩ = _ := fun o => kk _ o (by first | assumption | omega | (simp; done) | (simp; omega))
  have f6_0 : ∀ o, w6.frozen? ⟨w.heap.size, o, none⟩ = _ := fun o => ff _ o (by first | assumption | omega | (simp; done) | (simp; omega))
  have z6_0 : w.heap.size < w6.heap.size := by have := hb6.size; (try simp at this); omega
  have k6_1 : ∀ o, w6.cell? ⟨w.heap.size+1, o, none⟩ = _ := fun o => kk _ o (by first | assumption | omega | (simp; done) | (simp; omega))
  have f6_1 : ∀ o, w6.frozen? ⟨w.heap.size+1, o, none⟩ = _ := fun o => ff _ o (by first | assumption | omega | (simp; done) | (simp; omega))
  have z6_1 : w.heap.size+1 < w6.heap.size := by have := hb6.size; (try simp at this); omega
  clear kk ff
  have hs6 := hc6.size
  clear hc5 hb6
  have q0 : w6.cell? ⟨w.heap.size, 0, none⟩ = some (.int .i64 0) := by go_simp
  have g0 : w6.frozen? ⟨w.heap.size, 0, none⟩ = false := by go_simp
  have q1 : w6.cell? ⟨w.heap.size, 1, none⟩ = some (.int .i64 0) := by go_simp
  have g1 : w6.frozen? ⟨w.heap.size, 1, none⟩ = false := by go_simp
  have q2 : w6.cell? ⟨w.heap.size, 2, none⟩ = some (.int .i64 0) := by go_simp
  have g2 : w6.frozen? ⟨w.heap.size, 2, none⟩ = false := by go_simp
  have q3 : w6.cell? ⟨w.heap.size, 3, none⟩ = some (.int .i64 0) := by go_simp
  have g3 : w6.frozen? ⟨w.heap.size, 3, none⟩ = false := by go_simp
  have q4 : w6.cell? ⟨w.heap.size, 4, none⟩ = some (.int .i64 0) := by go_simp
  have g4 : w6.frozen? ⟨w.heap.size, 4, none⟩ = false := by go_simp
  go_wp2_with (go_at_call 29; go_in)
  refine bodyPost_ret (v := .tuple #[stV v0 v1 v2 v3 v4, .int .i64 0]) (by (have h1 : w.heap.size < w6.heap.size + 1 := by omega); simp [results, Tryd.results21, go_sem, q0, q1, q2, q3, q4, z6_0, h1]) rfl ⟨rfl, by go_grown⟩
set_option maxHeartbeats 8000000 in
set_option maxRecDepth 20000 in
theorem sparse_bad0 (x : ByteArray) (row : Array Value) (w : World) (hE : EnvP w) (s0 : ByteArray) (v0 v1 v2 v3 v4 : Int) (hsp : ∀ w, Env w → Calls Tryd.prog 23 #[.string x, .string ⟨#[32]⟩] w fun e w' => e = .returned (.slice (some ⟨w.heap.size, 0, none⟩) 10 10) ∧ w' = w.alloc (.cells row 9)) (r0 : row[1]? = some (.string s0)) (a0 : ∀ w, EnvP w → Calls Tryd.prog 25 #[.string s0] w fun e w' => ∃ (n : Int) (N : Nat), e = .returned (.tuple #[.int .i64 n, .iface 119 (.pointer (some ⟨N, 0, none⟩))]) ∧ Below w.heap.size w w') :
    Ret 21 #[.string x] w (.tuple #[stV 0 0 0 0 0, .int .i64 9]) := by
  have A0 := Lib.hid a0
  have HS := Lib.hid hsp
  have hE0 := hE
  have hc0 := Below.refl w.heap.size w
  clear hE hsp a0
  go_enter Tryd.func21, Tryd.ntmps21
  go_wp2_with fail
  refine (HS.out _ (hE0.toEnv.on (by go_grown))).mono ?_
  rintro e w0 ⟨rfl, rfl⟩
  go_wp2_with fail
  refine wp_loop_rounds 6 ?_
  rw [rounds_succ]
  go_wp2_with fail
  refine Calls.mono (A0.out _ (hE0.on (by go_grown))) ?_
  rintro e w1 ⟨n, N, rfl, hb1⟩
  obtain ⟨kk, ff⟩ := bcell hb1
  have hc1 : Below w.heap.size w w1 := under hb1
  have k1_0 : ∀ o, w1.cell? ⟨w.heap.size, o, none⟩ = _ := fun o => kk _ o (by first | assumption | omega | (simp; done) | (simp; omega))
  have f1_0 : ∀ o, w1.frozen? ⟨w.heap.size, o, none⟩ = _ := fun o => ff _ o (by first | assumption | omega | (simp; done) | (simp; omega))
  have z1_0 : w.heap.size < w1.heap.size := by have := hb1.size; (try simp at this); omega
  clear kk ff
  have hs1 := hc1.size
  clear hc0 hb1
  have q0 : w1.cell? ⟨w.heap.size, 0, none⟩ = some (.int .i64 0) := by go_simp
  have g0 : w1.frozen? ⟨w.heap.size, 0, none⟩ = false := by go_simp
  have q1 : w1.cell? ⟨w.heap.size, 1, none⟩ = some (.int .i64 0) := by go_simp
  have g1 : w1.frozen? ⟨w.heap.size, 1, none⟩ = false := by go_simp
  have q2 : w1.cell? ⟨w.heap.size, 2, none⟩ = some (.int .i64 0) := by go_simp
  have g2 : w1.frozen? ⟨w.heap.size, 2, none⟩ = false := by go_simp
  have q3 : w1.cell? ⟨w.heap.size, 3, none⟩ = some (.int .i64 0) := by go_simp
  have g3 : w1.frozen? ⟨w.heap.size, 3, none⟩ = false := by go_simp
  have q4 : w1.cell? ⟨w.heap.size, 4, none⟩ = some (.int .i64 0) := by go_simp
  have g4 : w1.frozen? ⟨w.heap.size, 4, none⟩ = false := by go_simp
  go_wp2_with fail
  refine bodyPost_ret (v := .tuple #[stV 0 0 0 0 0, .int .i64 9]) (by simp [results, Tryd.results21, go_sem, q0, q1, q2, q3, q4]) rfl ⟨rfl, by go_grown⟩
set_option maxHeartbeats 8000000 in
set_option maxRecDepth 20000 in
theorem sparse_bad1 (x : ByteArray) (row : Array Value) (w : World) (hE : EnvP w) (s0 s1 : ByteArray) (v0 v1 v2 v3 v4 : Int) (hsp : ∀ w, Env w → Calls Tryd.prog 23 #[.string x, .string ⟨#[32]⟩] w fun e w' => e = .returned (.slice (some ⟨w.heap.size, 0, none⟩) 10 10) ∧ w' = w.alloc (.cells row 9)) (r0 : row[1]? = some (.string s0)) (r1 : row[3]? = some (.string s1)) (a0 : ∀ w, Ret 25 #[.string s0] w (.tuple #[.int .i64 v0, .nilIface])) (a1 : ∀ w, EnvP w → Calls Tryd.prog 25 #[.string s1] w fun e w' => ∃ (n : Int) (N : Nat), e = .returned (.tuple #[.int .i64 n, .iface 119 (.pointer (some ⟨N, 0, none⟩))]) ∧ Below w.heap.size w w') :
    Ret 21 #[.string x] w (.tuple #[stV 0 0 0 0 0, .int .i64 9]) := by
  have A0 := Lib.hid a0
  have A1 := Lib.hid a1
  have HS := Lib.hid hsp
  have hE0 := hE
  have hc0 := Below.refl w.heap.size w
  clear hE hsp a0 a1
  go_enter Tryd.func21, Tryd.ntmps21
  go_wp2_with fail
  refine (HS.out _ (hE0.toEnv.on (by go_grown))).mono ?_
  rintro e w0 ⟨rfl, rfl⟩
  go_wp2_with fail
  refine wp_loop_rounds 6 ?_
  rw [rounds_succ]
  go_wp2_with fail
  refine Calls.mono (A0.out _) ?_
  rintro e w1 ⟨rfl, hb1⟩
  obtain ⟨kk, ff⟩ := bcell hb1
  have hc1 : Below w.heap.size w w1 := under hb1
  have k1_0 : ∀ o, w1.cell? ⟨w.heap.size, o, none⟩ = _ := fun o => kk _ o (by first | assumption | omega | (simp; done) | (simp; omega))
  have f1_0 : ∀ o, w1.frozen? ⟨w.heap.size, o, none⟩ = _ := fun o => ff _ o (by first | assumption | omega | (simp; done) | (simp; omega))
  have z1_0 : w.heap.size < w1.heap.size := by have := hb1.size; (try simp at this); omega
  have k1_1 : ∀ o, w1.cell? ⟨w.heap.size+1, o, none⟩ = _ := fun o => kk _ o (by first | assumption | omega | (simp; done) | (simp; omega))
  have f1_1 : ∀ o, w1.frozen? ⟨w.heap.size+1, o, none⟩ = _ := fun o => ff _ o (by first | assumption | omega | (simp; done) | (simp; omega))
  have z1_1 : w.heap.size+1 < w1.heap.size := by have := hb1.size; (try simp at this); omega
  have k1_2 : ∀ o, w1.cell? ⟨w.heap.size+1+1, o, none⟩ = _ := fun o => kk _ o (by first | assumption | omega | (simp; done) | (simp; omega))
  have f1_2 : ∀ o, w1.frozen? ⟨w.heap.size+1+1, o, none⟩ = _ := fun o => ff _ o (by first | assumption | omega | (simp; done) | (simp; omega))
  have z1_2 : w.heap.size+1+1 < w1.heap.size := by have := hb1.size; (try simp at this); omega
  clear kk ff
  have hs1 := hc1.size
  clear hc0 hb1
  go_wp2_with fail
  rw [rounds_succ]
  go_wp2_with fail
  refine Calls.mono (A1.out _ (hE0.on (by go_grown))) ?_
  rintro e w2 ⟨n, N, rfl, hb2⟩
  obtain ⟨kk, ff⟩ := bcell hb2
  have hc2 : Below w.heap.size w w2 := under hb2
  have k2_0 : ∀ o, w2.cell? ⟨w.heap.size, o, none⟩ = _ := fun o => kk _ o (by first | assumption | omega | (simp; done) | (simp; omega))
  have f2_0 : ∀ o, w2.frozen? ⟨w.heap.size, o, none⟩ = _ := fun o => ff _ o (by first | assumption | omega | (simp; done) | (simp; omega))
  have z2_0 : w.heap.size < w2.heap.size := by have := hb2.size; (try simp at this); omega
  clear kk ff
  have hs2 := hc2.size
  clear hc1 hb2
  have q0 : w2.cell? ⟨w.heap.size, 0, none⟩ = some (.int .i64 0) := by go_simp
  have g0 : w2.frozen? ⟨w.heap.size, 0, none⟩ = false := by go_simp
  have q1 : w2.cell? ⟨w.heap.size, 1, none⟩ = some (.int .i64 0) := by go_simp
  have g1 : w2.frozen? ⟨w.heap.size, 1, none⟩ = false := by go_simp
  have q2 : w2.cell? ⟨w.heap.size, 2, none⟩ = some (.int .i64 0) := by go_simp
  have g2 : w2.frozen? ⟨w.heap.size, 2, none⟩ = false := by go_simp
  have q3 : w2.cell? ⟨w.heap.size, 3, none⟩ = some (.int .i64 0) := by go_simp
  have g3 : w2.frozen? ⟨w.heap.size, 3, none⟩ = false := by go_simp
  have q4 : w2.cell? ⟨w.heap.size, 4, none⟩ = some (.int .i64 0) := by go_simp
  have g4 : w2.frozen? ⟨w.heap.size, 4, none⟩ = false := by go_simp
  go_wp2_with fail
  refine bodyPost_ret (v := .tuple #[stV 0 0 0 0 0, .int .i64 9]) (by simp [results, Tryd.results21, go_sem, q0, q1, q2, q3, q4]) rfl ⟨rfl, by go_grown⟩
set_option maxHeartbeats 8000000 in
set_option maxRecDepth 20000 in
theorem sparse_bad2 (x : ByteArray) (row : Array Value) (w : World) (hE : EnvP w) (s0 s1 s2 : ByteArray) (v0 v1 v2 v3 v4 : Int) (hsp : ∀ w, Env w → Calls Tryd.prog 23 #[.string x, .string ⟨#[32]⟩] w fun e w' => e = .returned (.slice (some ⟨w.heap.size, 0, none⟩) 10 10) ∧ w' = w.alloc (.cells row 9)) (r0 : row[1]? = some (.string s0)) (r1 : row[3]? = some (.string s1)) (r2 : row[5]? = some (.string s2)) (a0 : ∀ w, Ret 25 #[.string s0] w (.tuple #[.int .i64 v0, .nilIface])) (a1 : ∀ w, Ret 25 #[.string s1] w (.tuple #[.int .i64 v1, .nilIface])) (a2 : ∀ w, EnvP w → Calls Tryd.prog 25 #[.string s2] w fun e w' => ∃ (n : Int) (N : Nat), e = .returned (.tuple #[.int .i64 n, .iface 119 (.pointer (some ⟨N, 0, none⟩))]) ∧ Below w.heap.size w w') :
    Ret 21 #[.string x] w (.tuple #[stV 0 0 0 0 0, .int .i64 9]) := by
  have A0 := Lib.hid a0
  have A1 := Lib.hid a1
  have A2 := Lib.hid a2
  have HS := Lib.hid hsp
  have hE0 := hE
  have hc0 := Below.refl w.heap.size w
  clear hE hsp a0 a1 a2
  go_enter Tryd.func21, Tryd.ntmps21
  go_wp2_with fail
  refine (HS.out _ (hE0.toEnv.on (by go_grown))).mono ?_
  rintro e w0 ⟨rfl, rfl⟩
  go_wp2_with fail
  refine wp_loop_rounds 6 ?_
  rw [rounds_succ]
  go_wp2_with fail
  refine Calls.mono (A0.out _) ?_
  rintro e w1 ⟨rfl, hb1⟩
  obtain ⟨kk, ff⟩ := bcell hb1
  have hc1 : Below w.heap.size w w1 := under hb1
  have k1_0 : ∀ o, w1.cell? ⟨w.heap.size, o, none⟩ = _ := fun o => kk _ o (by first | assumption | omega | (simp; done) | (simp; omega))
  have f1_0 : ∀ o, w1.frozen? ⟨w.heap.size, o, none⟩ = _ := fun o => ff _ o (by first | assumption | omega | (simp; done) | (simp; omega))
  have z1_0 : w.heap.size < w1.heap.size := by have := hb1.size; (try simp at this); omega
  have k1_1 : ∀ o, w1.cell? ⟨w.heap.size+1, o, none⟩ = _ := fun o => kk _ o (by first | assumption | omega | (simp; done) | (simp; omega))
  have f1_1 : ∀ o, w1.frozen? ⟨w.heap.size+1, o, none⟩ = _ := fun o => ff _ o (by first | assumption | omega | (simp; done) | (simp; omega))
  have z1_1 : w.heap.size+1 < w1.heap.size := by have := hb1.size; (try simp at this); omega
  have k1_2 : ∀ o, w1.cell? ⟨w.heap.size+1+1, o, none⟩ = _ := fun o => kk _ o (by first | assumption | omega | (simp; done) | (simp; omega))
  have f1_2 : ∀ o, w1.frozen? ⟨w.heap.size+1+1, o, none⟩ = _ := fun o => ff _ o (by first | assumption | omega | (simp; done) | (simp; omega))
  have z1_2 : w.heap.size+1+1 < w1.heap.size := by have := hb1.size; (try simp at this); omega
  clear kk ff
  have hs1 := hc1.size
  clear hc0 hb1
  go_wp2_with fail
  rw [rounds_succ]
  go_wp2_with fail
  refine Calls.mono (A1.out _) ?_
  rintro e w2 ⟨rfl, hb2⟩
  obtain ⟨kk, ff⟩ := bcell hb2
  have hc2 : Below w.heap.size w w2 := under hb2
  have k2_0 : ∀ o, w2.cell? ⟨w.heap.size, o, none⟩ = _ := fun o => kk _ o (by first | assumption | omega | (simp; done) | (simp; omega))
  have f2_0 : ∀ o, w2.frozen? ⟨w.heap.size, o, none⟩ = _ := fun o => ff _ o (by first | assumption | omega | (simp; done) | (simp; omega))
  have z2_0 : w.heap.size < w2.heap.size := by have := hb2.size; (try simp at this); omega
  have k2_1 : ∀ o, w2.cell? ⟨w.heap.size+1, o, none⟩ = _ := fun o => kk _ o (by first | assumption | omega | (simp; done) | (simp; omega))
  have f2_1 : ∀ o, w2.frozen? ⟨w.heap.size+1, o, none⟩ = _ := fun o => ff _ o (by first | assumption | omega | (simp; done) | (simp; omega))
  have z2_1 : w.heap.size+1 < w2.heap.size := by have := hb2.size; (try simp at this); omega
  have k2_2 : ∀ o, w2.cell? ⟨w.heap.size+1+1, o, none⟩ = _ := fun o => kk _ o (by first | assumption | omega | (simp; done) | (simp; omega))
  have f2_2 : ∀ o, w2.frozen? ⟨w.heap.size+1+1, o, none⟩ = _ := fun o => ff _ o (by first | assumption | omega | (simp; done) | (simp; omega))
  have z2_2 : w.heap.size+1+1 < w2.heap.size := by have := hb2.size; (try simp at this); omega
  clear kk ff
  have hs2 := hc2.size
  clear hc1 hb2
  go_wp2_with fail
  rw [rounds_succ]
  go_wp2_with fail
  refine Calls.mono (A2.out _ (hE0.on (by go_grown))) ?_
  rintro e w3 ⟨n, N, rfl, hb3⟩
  obtain ⟨kk, ff⟩ := bcell hb3
  have hc3 : Below w.heap.size w w3 := under hb3
  have k3_0 : ∀ o, w3.cell? ⟨w.heap.size, o, none⟩ = _ := fun o => kk _ o (by first | assumption | omega | (simp; done) | (simp; omega))
  have f3_0 : ∀ o, w3.frozen? ⟨w.heap.size, o, none⟩ = _ := fun o => ff _ o (by first | assumption | omega | (simp; done) | (simp; omega))
  have z3_0 : w.heap.size < w3.heap.size := by have := hb3.size; (try simp at this); omega
  clear kk ff
  have hs3 := hc3.size
  clear hc2 hb3
  have q0 : w3.cell? ⟨w.heap.size, 0, none⟩ = some (.int .i64 0) := by go_simp
  have g0 : w3.frozen? ⟨w.heap.size, 0, none⟩ = false := by go_simp
  have q1 : w3.cell? ⟨w.heap.size, 1, none⟩ = some (.int .i64 0) := by go_simp
  have g1 : w3.frozen? ⟨w.heap.size, 1, none⟩ = false := by go_simp
  have q2 : w3.cell? ⟨w.heap.size, 2, none⟩ = some (.int .i64 0) := by go_simp
  have g2 : w3.frozen? ⟨w.heap.size, 2, none⟩ = false := by go_simp
  have q3 : w3.cell? ⟨w.heap.size, 3, none⟩ = some (.int .i64 0) := by go_simp
  have g3 : w3.frozen? ⟨w.heap.size, 3, none⟩ = false := by go_simp
  have q4 : w3.cell? ⟨w.heap.size, 4, none⟩ = some (.int .i64 0) := by go_simp
  have g4 : w3.frozen? ⟨w.heap.size, 4, none⟩ = false := by go_simp
  go_wp2_with fail
  refine bodyPost_ret (v := .tuple #[stV 0 0 0 0 0, .int .i64 9]) (by simp [results, Tryd.results21, go_sem, q0, q1, q2, q3, q4]) rfl ⟨rfl, by go_grown⟩
set_option maxHeartbeats 8000000 in
set_option maxRecDepth 20000 in
theorem sparse_bad3 (x : ByteArray) (row : Array Value) (w : World) (hE : EnvP w) (s0 s1 s2 s3 : ByteArray) (v0 v1 v2 v3 v4 : Int) (hsp : ∀ w, Env w → Calls Tryd.prog 23 #[.string x, .string ⟨#[32]⟩] w fun e w' => e = .returned (.slice (some ⟨w.heap.size, 0, none⟩) 10 10) ∧ w' = w.alloc (.cells row 9)) (r0 : row[1]? = some (.string s0)) (r1 : row[3]? = some (.string s1)) (r2 : row[5]? = some (.string s2)) (r3 : row[7]? = some (.string s3)) (a0 : ∀ w, Ret 25 #[.string s0] w (.tuple #[.int .i64 v0, .nilIface])) (a1 : ∀ w, Ret 25 #[.string s1] w (.tuple #[.int .i64 v1, .nilIface])) (a2 : ∀ w, Ret 25 #[.string s2] w (.tuple #[.int .i64 v2, .nilIface])) (a3 : ∀ w, EnvP w → Calls Tryd.prog 25 #[.string s3] w fun e w' => ∃ (n : Int) (N : Nat), e = .returned (.tuple #[.int .i64 n, .iface 119 (.pointer (some ⟨N, 0, none⟩))]) ∧ Below w.heap.size w w') :
    Ret 21 #[.string x] w (.tuple #[stV 0 0 0 0 0, .int .i64 9]) := by
  have A0 := Lib.hid a0
  have A1 := Lib.hid a1
  have A2 := Lib.hid a2
  have A3 := Lib.hid a3
  have HS := Lib.hid hsp
  have hE0 := hE
  have hc0 := Below.refl w.heap.size w
  clear hE hsp a0 a1 a2 a3
  go_enter Tryd.func21, Tryd.ntmps21
  go_wp2_with fail
  refine (HS.out _ (hE0.toEnv.on (by go_grown))).mono ?_
  rintro e w0 ⟨rfl, rfl⟩
  go_wp2_with fail
  refine wp_loop_rounds 6 ?_
  rw [rounds_succ]
  go_wp2_with fail
  refine Calls.mono (A0.out _) ?_
  rintro e w1 ⟨rfl, hb1⟩
  obtain ⟨kk, ff⟩ := bcell hb1
  have hc1 : Below w.heap.size w w1 := under hb1
  have k1_0 : ∀ o, w1.cell? ⟨w.heap.size, o, none⟩ = _ := fun o => kk _ o (by first | assumption | omega | (simp; done) | (simp; omega))
  have f1_0 : ∀ o, w1.frozen? ⟨w.heap.size, o, none⟩ = _ := fun o => ff _ o (by first | assumption | omega | (simp; done) | (simp; omega))
  have z1_0 : w.heap.size < w1.heap.size := by have := hb1.size; (try simp at this); omega
  have k1_1 : ∀ o, w1.cell? ⟨w.heap.size+1, o, none⟩ = _ := fun o => kk _ o (by first | assumption | omega | (simp; done) | (simp; omega))
  have f1_1 : ∀ o, w1.frozen? ⟨w.heap.size+1, o, none⟩ = _ := fun o => ff _ o (by first | assumption | omega | (simp; done) | (simp; omega))
  have z1_1 : w.heap.size+1 < w1.heap.size := by have := hb1.size; (try simp at this); omega
  have k1_2 : ∀ o, w1.cell? ⟨w.heap.size+1+1, o, none⟩ = _ := fun o => kk _ o (by first | assumption | omega | (simp; done) | (simp; omega))
  have f1_2 : ∀ o, w1.frozen? ⟨w.heap.size+1+1, o, none⟩ = _ := fun o => ff _ o (by first | assumption | omega | (simp; done) | (simp; omega))
  have z1_2 : w.heap.size+1+1 < w1.heap.size := by have := hb1.size; (try simp at this); omega
  clear kk ff
  have hs1 := hc1.size
  clear hc0 hb1
  go_wp2_with fail
  rw [rounds_succ]
  go_wp2_with fail
  refine Calls.mono (A1.out _) ?_
  rintro e w2 ⟨rfl, hb2⟩
  obtain ⟨kk, ff⟩ := bcell hb2
  have hc2 : Below w.heap.size w w2 := under hb2
  have k2_0 : ∀ o, w2.cell? ⟨w.heap.size, o, none⟩ = _ := fun o => kk _ o (by first | assumption | omega | (simp; done) | (simp; omega))
  have f2_0 : ∀ o, w2.frozen? ⟨w.heap.size, o, none⟩ = _ := fun o => ff _ o (by first | assumption | omega | (simp; done) | (simp; omega))
  have z2_0 : w.heap.size < w2.heap.size := by have := hb2.size; (try simp at this); omega
  have k2_1 : ∀ o, w2.cell? ⟨w.heap.size+1, o, none⟩ = _ := fun o => kk _ o (by first | assumption | omega | (simp; done) | (simp; omega))
  have f2_1 : ∀ o, w2.frozen? ⟨w.heap.size+1, o, none⟩ = _ := fun o => ff _ o (by first | assumption | omega | (simp; done) | (simp; omega))
  have z2_1 : w.heap.size+1 < w2.heap.size := by have := hb2.size; (try simp at this); omega
  have k2_2 : ∀ o, w2.cell? ⟨w.heap.size+1+1, o, none⟩ = _ := fun o => kk _ o (by first | assumption | omega | (simp; done) | (simp; omega))
  have f2_2 : ∀ o, w2.frozen? ⟨w.heap.size+1+1, o, none⟩ = _ := fun o => ff _ o (by first | assumption | omega | (simp; done) | (simp; omega))
  have z2_2 : w.heap.size+1+1 < w2.heap.size := by have := hb2.size; (try simp at this); omega
  clear kk ff
  have hs2 := hc2.size
  clear hc1 hb2
  go_wp2_with fail
  rw [rounds_succ]
  go_wp2_with fail
  refine Calls.mono (A2.out _) ?_
  rintro e w3 ⟨rfl, hb3⟩
  obtain ⟨kk, ff⟩ := bcell hb3
  have hc3 : Below w.heap.size w w3 := under hb3
  have k3_0 : ∀ o, w3.cell? ⟨w.heap.size, o, none⟩ = _ := fun o => kk _ o (by first | assumption | omega | (simp; done) | (simp; omega))
  have f3_0 : ∀ o, w3.frozen? ⟨w.heap.size, o, none⟩ = _ := fun o => ff _ o (by first | assumption | omega | (simp; done) | (simp; omega))
  have z3_0 : w.heap.size < w3.heap.size := by have := hb3.size; (try simp at this); omega
  have k3_1 : ∀ o, w3.cell? ⟨w.heap.size+1, o, none⟩ = _ := fun o => kk _ o (by first | assumption | omega | (simp; done) | (simp; omega))
  have f3_1 : ∀ o, w3.frozen? ⟨w.heap.size+1, o, none⟩ = _ := fun o => ff _ o (by first | assumption | omega | (simp; done) | (simp; omega))
  have z3_1 : w.heap.size+1 < w3.heap.size := by have := hb3.size; (try simp at this); omega
  have k3_2 : ∀ o, w3.cell? ⟨w.heap.size+1+1, o, none⟩ = _ := fun o => kk _ o (by first | assumption | omega | (simp; done) | (simp; omega))
  have f3_2 : ∀ o, w3.frozen? ⟨w.heap.size+1+1, o, none⟩ = _ := fun o => ff _ o (by first | assumption | omega | (simp; done) | (simp; omega))
  have z3_2 : w.heap.size+1+1 < w3.heap.size := by have := hb3.size; (try simp at this); omega
  clear kk ff
  have hs3 := hc3.size
  clear hc2 hb3
  go_wp2_with fail
  rw [rounds_succ]
  go_wp2_with fail
  refine Calls.mono (A3.out _ (hE0.on (by go_grown))) ?_
  rintro e w4 ⟨n, N, rfl, hb4⟩
  obtain ⟨kk, ff⟩ := bcell hb4
  have hc4 : Below w.heap.size w w4 := under hb4
  have k4_0 : ∀ o, w4.cell? ⟨w.heap.size, o, none⟩ = _ := fun o => kk _ o (by first | assumption | omega | (simp; done) | (simp; omega))
  have f4_0 : ∀ o, w4.frozen? ⟨w.heap.size, o, none⟩ = _ := fun o => ff _ o (by first | assumption | omega | (simp; done) | (simp; omega))
  have z4_0 : w.heap.size < w4.heap.size := by have := hb4.size; (try simp at this); omega
  clear kk ff
  have hs4 := hc4.size
  clear hc3 hb4
  have q0 : w4.cell? ⟨w.heap.size, 0, none⟩ = some (.int .i64 0) := by go_simp
  have g0 : w4.frozen? ⟨w.heap.size, 0, none⟩ = false := by go_simp
  have q1 : w4.cell? ⟨w.heap.size, 1, none⟩ = some (.int .i64 0) := by go_simp
  have g1 : w4.frozen? ⟨w.heap.size, 1, none⟩ = false := by go_simp
  have q2 : w4.cell? ⟨w.heap.size, 2, none⟩ = some (.int .i64 0) := by go_simp
  have g2 : w4.frozen? ⟨w.heap.size, 2, none⟩ = false := by go_simp
  have q3 : w4.cell? ⟨w.heap.size, 3, none⟩ = some (.int .i64 0) := by go_simp
  have g3 : w4.frozen? ⟨w.heap.size, 3, none⟩ = false := by go_simp
  have q4 : w4.cell? ⟨w.heap.size, 4, none⟩ = some (.int .i64 0) := by go_simp
  have g4 : w4.frozen? ⟨w.heap.size, 4, none⟩ = false := by go_simp
  go_wp2_with fail
  refine bodyPost_ret (v := .tuple #[stV 0 0 0 0 0, .int .i64 9]) (by simp [results, Tryd.results21, go_sem, q0, q1, q2, q3, q4]) rfl ⟨rfl, by go_grown⟩
set_option maxHeartbeats 8000000 in
set_option maxRecDepth 20000 in
theorem sparse_bad4 (x : ByteArray) (row : Array Value) (w : World) (hE : EnvP w) (s0 s1 s2 s3 s4 : ByteArray) (v0 v1 v2 v3 v4 : Int) (hsp : ∀ w, Env w → Calls Tryd.prog 23 #[.string x, .string ⟨#[32]⟩] w fun e w' => e = .returned (.slice (some ⟨w.heap.size, 0, none⟩) 10 10) ∧ w' = w.alloc (.cells row 9)) (r0 : row[1]? = some (.string s0)) (r1 : row[3]? = some (.string s1)) (r2 : row[5]? = some (.string s2)) (r3 : row[7]? = some (.string s3)) (r4 : row[9]? = some (.string s4)) (a0 : ∀ w, Ret 25 #[.string s0] w (.tuple #[.int .i64 v0, .nilIface])) (a1 : ∀ w, Ret 25 #[.string s1] w (.tuple #[.int .i64 v1, .nilIface])) (a2 : ∀ w, Ret 25 #[.string s2] w (.tuple #[.int .i64 v2, .nilIface])) (a3 : ∀ w, Ret 25 #[.string s3] w (.tuple #[.int .i64 v3, .nilIface])) (a4 : ∀ w, EnvP w → Calls Tryd.prog 25 #[.string s4] w fun e w' => ∃ (n : Int) (N : Nat), e = .returned (.tuple #[.int .i64 n, .iface 119 (.pointer (some ⟨N, 0, none⟩))]) ∧ Below w.heap.size w w') :
    Ret 21 #[.string x] w (.tuple #[stV 0 0 0 0 0, .int .i64 9]) := by
  have A0 := Lib.hid a0
  have A1 := Lib.hid a1
  have A2 := Lib.hid a2
  have A3 := Lib.hid a3
  have A4 := Lib.hid a4
  have HS := Lib.hid hsp
  have hE0 := hE
  have hc0 := Below.refl w.heap.size w
  clear hE hsp a0 a1 a2 a3 a4
  go_enter Tryd.func21, Tryd.ntmps21
  go_wp2_with fail
  refine (HS.out _ (hE0.toEnv.on (by go_grown))).mono ?_
  rintro e w0 ⟨rfl, rfl⟩
  go_wp2_with fail
  refine wp_loop_rounds 6 ?_
  rw [rounds_succ]
  go_wp2_with fail
  refine Calls.mono (A0.out _) ?_
  rintro e w1 ⟨rfl, hb1⟩
  obtain ⟨kk, ff⟩ := bcell hb1
  have hc1 : Below w.heap.size w w1 := under hb1
  have k1_0 : ∀ o, w1.cell? ⟨w.heap.size, o, none⟩ = _ := fun o => kk _ o (by first | assumption | omega | (simp; done) | (simp; omega))
  have f1_0 : ∀ o, w1.frozen? ⟨w.heap.size, o, none⟩ = _ := fun o => ff _ o (by first | assumption | omega | (simp; done) | (simp; omega))
  have z1_0 : w.heap.size < w1.heap.size := by have := hb1.size; (try simp at this); omega
  have k1_1 : ∀ o, w1.cell? ⟨w.heap.size+1, o, none⟩ = _ := fun o => kk _ o (by first | assumption | omega | (simp; done) | (simp; omega))
  have f1_1 : ∀ o, w1.frozen? ⟨w.heap.size+1, o, none⟩ = _ := fun o => ff _ o (by first | assumption | omega | (simp; done) | (simp; omega))
  have z1_1 : w.heap.size+1 < w1.heap.size := by have := hb1.size; (try simp at this); omega
  have k1_2 : ∀ o, w1.cell? ⟨w.heap.size+1+1, o, none⟩ = _ := fun o => kk _ o (by first | assumption | omega | (simp; done) | (simp; omega))
  have f1_2 : ∀ o, w1.frozen? ⟨w.heap.size+1+1, o, none⟩ = _ := fun o => ff _ o (by first | assumption | omega | (simp; done) | (simp; omega))
  have z1_2 : w.heap.size+1+1 < w1.heap.size := by have := hb1.size; (try simp at this); omega
  clear kk ff
  have hs1 := hc1.size
  clear hc0 hb1
  go_wp2_with fail
  rw [rounds_succ]
  go_wp2_with fail
  refine Calls.mono (A1.out _) ?_
  rintro e w2 ⟨rfl, hb2⟩
  obtain ⟨kk, ff⟩ := bcell hb2
  have hc2 : Below w.heap.size w w2 := under hb2
  have k2_0 : ∀ o, w2.cell? ⟨w.heap.size, o, none⟩ = _ := fun o => kk _ o (by first | assumption | omega | (simp; done) | (simp; omega))
  have f2_0 : ∀ o, w2.frozen? ⟨w.heap.size, o, none⟩ = _ := fun o => ff _ o (by first | assumption | omega | (simp; done) | (simp; omega))
  have z2_0 : w.heap.size < w2.heap.size := by have := hb2.size; (try simp at this); omega
  have k2_1 : ∀ o, w2.cell? ⟨w.heap.size+1, o, none⟩ = _ := fun o => kk _ o (by first | assumption | omega | (simp; done) | (simp; omega))
  have f2_1 : ∀ o, w2.frozen? ⟨w.heap.size+1, o, none⟩ = _ := fun o => ff _ o (by first | assumption | omega | (simp; done) | (simp; omega))
  have z2_1 : w.heap.size+1 < w2.heap.size := by have := hb2.size; (try simp at this); omega
  have k2_2 : ∀ o, w2.cell? ⟨w.heap.size+1+1, o, none⟩ = _ := fun o => kk _ o (by first | assumption | omega | (simp; done) | (simp; omega))
  have f2_2 : ∀ o, w2.frozen? ⟨w.heap.size+1+1, o, none⟩ = _ := fun o => ff _ o (by first | assumption | omega | (simp; done) | (simp; omega))
  have z2_2 : w.heap.size+1+1 < w2.heap.size := by have := hb2.size; (try simp at this); omega
  clear kk ff
  have hs2 := hc2.size
  clear hc1 hb2
  go_wp2_with fail
  rw [rounds_succ]
  go_wp2_with fail
  refine Calls.mono (A2.out _) ?_
  rintro e w3 ⟨rfl, hb3⟩
  obtain ⟨kk, ff⟩ := bcell hb3
  have hc3 : Below w.heap.size w w3 := under hb3
  have k3_0 : ∀ o, w3.cell? ⟨w.heap.size, o, none⟩ = _ := fun o => kk _ o (by first | assumption | omega | (simp; done) | (simp; omega))
  have f3_0 : ∀ o, w3.frozen? ⟨w.heap.size, o, none⟩ = _ := fun o => ff _ o (by first | assumption | omega | (simp; done) | (simp; omega))
  have z3_0 : w.heap.size < w3.heap.size := by have := hb3.size; (try simp at this); omega
  have k3_1 : ∀ o, w3.cell? ⟨w.heap.size+1, o, none⟩ = _ := fun o => kk _ o (by first | assumption | omega | (simp; done) | (simp; omega))
  have f3_1 : ∀ o, w3.frozen? ⟨w.heap.size+1, o, none⟩ = _ := fun o => ff _ o (by first | assumption | omega | (simp; done) | (simp; omega))
  have z3_1 : w.heap.size+1 < w3.heap.size := by have := hb3.size; (try simp at this); omega
  have k3_2 : ∀ o, w3.cell? ⟨w.heap.size+1+1, o, none⟩ = _ := fun o => kk _ o (by first | assumption | omega | (simp; done) | (simp; omega))
  have f3_2 : ∀ o, w3.frozen? ⟨w.heap.size+1+1, o, none⟩ = _ := fun o => ff _ o (by first | assumption | omega | (simp; done) | (simp; omega))
  have z3_2 : w.heap.size+1+1 < w3.heap.size := by have := hb3.size; (try simp at this); omega
  clear kk ff
  have hs3 := hc3.size
  clear hc2 hb3
  go_wp2_with fail
  rw [rounds_succ]
  go_wp2_with fail
  refine Calls.mono (A3.out _) ?_
  rintro e w4 ⟨rfl, hb4⟩
  obtain ⟨kk, ff⟩ := bcell hb4
  have hc4 : Below w.heap.size w w4 := under hb4
  have k4_0 : ∀ o, w4.cell? ⟨w.heap.size, o, none⟩ = _ := fun o => kk _ o (by first | assumption | omega | (simp; done) | (simp; omega))
  have f4_0 : ∀ o, w4.frozen? ⟨w.heap.size, o, none⟩ = _ := fun o => ff _ o (by first | assumption | omega | (simp; done) | (simp; omega))
  have z4_0 : w.heap.size < w4.heap.size := by have := hb4.size; (try simp at this); omega
  have k4_1 : ∀ o, w4.cell? ⟨w.heap.size+1, o, none⟩ = _ := fun o => kk _ o (by first | assumption | omega | (simp; done) | (simp; omega))
  have f4_1 : ∀ o, w4.frozen? ⟨w.heap.size+1, o, none⟩ = _ := fun o => ff _ o (by first | assumption | omega | (simp; done) | (simp; omega))
  have z4_1 : w.heap.size+1 < w4.heap.size := by have := hb4.size; (try simp at this); omega
  have k4_2 : ∀ o, w4.cell? ⟨w.heap.size+1+1, o, none⟩ = _ := fun o => kk _ o (by first | assumption | omega | (simp; done) | (simp; omega))
  have f4_2 : ∀ o, w4.frozen? ⟨w.heap.size+1+1, o, none⟩ = _ := fun o => ff _ o (by first | assumption | omega | (simp; done) | (simp; omega))
  have z4_2 : w.heap.size+1+1 < w4.heap.size := by have := hb4.size; (try simp at this); omega
  clear kk ff
  have hs4 := hc4.size
  clear hc3 hb4
  go_wp2_with fail
  rw [rounds_succ]
  go_wp2_with fail
  refine Calls.mono (A4.out _ (hE0.on (by go_grown))) ?_
  rintro e w5 ⟨n, N, rfl, hb5⟩
  obtain ⟨kk, ff⟩ := bcell hb5
  have hc5 : Below w.heap.size w w5 := under hb5
  have k5_0 : ∀ o, w5.cell? ⟨w.heap.size, o, none⟩ = _ := fun o => kk _ o (by first | assumption | omega | (simp; done) | (simp; omega))
  have f5_0 : ∀ o, w5.frozen? ⟨w.heap.size, o, none⟩ = _ := fun o => ff _ o (by first | assumption | omega | (simp; done) | (simp; omega))
  have z5_0 : w.heap.size < w5.heap.size := by have := hb5.size; (try simp at this); omega
  clear kk ff
  have hs5 := hc5.size
  clear hc4 hb5
  have q0 : w5.cell? ⟨w.heap.size, 0, none⟩ = some (.int .i64 0) := by go_simp
  have g0 : w5.frozen? ⟨w.heap.size, 0, none⟩ = false := by go_simp
  have q1 : w5.cell? ⟨w.heap.size, 1, none⟩ = some (.int .i64 0) := by go_simp
  have g1 : w5.frozen? ⟨w.heap.size, 1, none⟩ = false := by go_simp
  have q2 : w5.cell? ⟨w.heap.size, 2, none⟩ = some (.int .i64 0) := by go_simp
  have g2 : w5.frozen? ⟨w.heap.size, 2, none⟩ = false := by go_simp
  have q3 : w5.cell? ⟨w.heap.size, 3, none⟩ = some (.int .i64 0) := by go_simp
  have g3 : w5.frozen? ⟨w.heap.size, 3, none⟩ = false := by go_simp
  have q4 : w5.cell? ⟨w.heap.size, 4, none⟩ = some (.int .i64 0) := by go_simp
  have g4 : w5.frozen? ⟨w.heap.size, 4, none⟩ = false := by go_simp
  go_wp2_with fail
  refine bodyPost_ret (v := .tuple #[stV 0 0 0 0 0, .int .i64 9]) (by simp [results, Tryd.results21, go_sem, q0, q1, q2, q3, q4]) rfl ⟨rfl, by go_grown⟩
end Go.Proofs.YtjebicdlbknemaaDoor
