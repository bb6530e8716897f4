/- FieldsOne where the field is there: an object of 3 fields. -/
import Derived.Test.YtpegkcmomkdoeaaDoorLaw13c
import Derived.BigQuiet
namespace Go.Proofs.YtpegkcmomkdoeaaDoor
open Go.RowKit
set_option linter.unusedVariables false
set_option linter.unusedSimpArgs false
set_option maxHeartbeats 32000000 in
set_option maxRecDepth 20000 in
theorem one_3_2 (n s g : Int) (a1 a2 a3 a4 b1 b2 b3 b4 : Int) (s0 g0 s1 g1 s2 g2 s3 g3 rs rg : Int) (w : World) (hE : EnvP w)
    (c1 : ∀ w, Ret 27 #[.int .u8 n, .agg #[.int .u8 a1, .int .u8 a2, .int .u8 a3, .int .u8 a4], .agg #[.int .u32 b1, .int .u32 b2, .int .u32 b3, .int .u32 b4]] w (obV 3 s0 g0 s1 g1 s2 g2 s3 g3 false))
    (c2 : ∀ w, Ret 28 #[.int .u8 s, .int .u32 g] w (.agg #[.int .i64 rs, .int .u32 rg]))
    (c3 : ∀ w, Ret 21 #[obV 3 s0 g0 s1 g1 s2 g2 s3 g3 false, .int .i64 2, .agg #[.int .i64 rs, .int .u32 rg]] w (.tuple #[obV 3 s0 g0 s1 g1 rs rg s3 g3 false, .agg #[.int .i64 s2, .int .u32 g2], .int .i64 0]))
    (d0 : ∀ w, Ret 19 #[obV 3 s0 g0 s1 g1 rs rg s3 g3 false, .int .i64 0] w (.tuple #[.agg #[.int .i64 s0, .int .u32 g0], .int .i64 0]))
    (d1 : ∀ w, Ret 19 #[obV 3 s0 g0 s1 g1 rs rg s3 g3 false, .int .i64 1] w (.tuple #[.agg #[.int .i64 s1, .int .u32 g1], .int .i64 0]))
    (d2 : ∀ w, Ret 19 #[obV 3 s0 g0 s1 g1 rs rg s3 g3 false, .int .i64 2] w (.tuple #[.agg #[.int .i64 rs, .int .u32 rg], .int .i64 0]))
    (c5 : ∀ w, Ret 21 #[obV 3 s0 g0 s1 g1 rs rg s3 g3 false, .int .i64 2, .agg #[.int .i64 s2, .int .u32 g2]] w (.tuple #[obV 3 s0 g0 s1 g1 s2 g2 s3 g3 false, .agg #[.int .i64 rs, .int .u32 rg], .int .i64 0]))
    (c6 : ∀ w, Ret 13 #[obV 3 s0 g0 s1 g1 rs rg s3 g3 false] w (.int .i64 0)) :
    Ret 6 #[.int .u8 n, .agg #[.int .u8 a1, .int .u8 a2, .int .u8 a3, .int .u8 a4], .agg #[.int .u32 b1, .int .u32 b2, .int .u32 b3, .int .u32 b4], .int .i64 2, .int .u8 s, .int .u32 g] w (.bool true) := by
  have hq0 := eq_objF 3 (s0, g0) (s1, g1) (s2, g2) (s3, g3) false 3 (s0, g0) (s1, g1) (s2, g2) (s3, g3) false
  rw [eqO_same] at hq0
  have hq1 := neq_objF 3 (s0, g0) (s1, g1) (s2, g2) (s3, g3) false 3 (s0, g0) (s1, g1) (s2, g2) (s3, g3) false
  rw [eqO_same] at hq1
  have C1 := Lib.hid c1
  have C2 := Lib.hid c2
  have C3 := Lib.hid c3
  have C5 := Lib.hid c5
  have C6 := Lib.hid c6
  have D0 := Lib.hid d0
  have D1 := Lib.hid d1
  have D2 := Lib.hid d2
  have hc0 := Below.refl w.heap.size w
  clear c1 c2 c3 c5 c6 d0 d1 d2
  go_enter Tryd.func6, Tryd.ntmps6
  go_wp2_with fail
  refine Calls.mono (C1.out _) ?_
  rintro e w1 ⟨rfl, hb1⟩
  obtain ⟨kk, ff⟩ := bcell hb1
  have hc1 : Below w.heap.size w w1 := under hb1
  have k1_0 : ∀ o, w1.cell? ⟨w.heap.size, o, none⟩ = _ := fun o => kk _ o (by first | assumption | omega | (simp; done) | (simp; omega))
  have f1_0 : ∀ o, w1.frozen? ⟨w.heap.size, o, none⟩ = _ := fun o => ff _ o (by first | assumption | omega | (simp; done) | (simp; omega))
  have z1_0 : w.heap.size < w1.heap.size := by have := hb1.size; (try simp at this); omega
  have k1_1 : ∀ o, w1.cell? ⟨w.heap.size+1, o, none⟩ = _ := fun o => kk _ o (by first | assumption | omega | (simp; done) | (simp; omega))
  have f1_1 : ∀ o, w1.frozen? ⟨w.heap.size+1, o, none⟩ = _ := fun o => ff _ o (by first | assumption | omega | (simp; done) | (simp; omega))
  have z1_1 : w.heap.size+1 < w1.heap.size := by have := hb1.size; (try simp at this); omega
  clear kk ff
  have hs1 := hc1.size
  clear hc0 hb1
  go_wp2_with fail
  refine Calls.mono (C2.out _) ?_
  rintro e w2 ⟨rfl, hb2⟩
  obtain ⟨kk, ff⟩ := bcell hb2
  have hc2 : Below w.heap.size w w2 := under hb2
  have k2_0 : ∀ o, w2.cell? ⟨w.heap.size, o, none⟩ = _ := fun o => kk _ o (by first | assumption | omega | (simp; done) | (simp; omega))
  have f2_0 : ∀ o, w2.frozen? ⟨w.heap.size, o, none⟩ = _ := fun o => ff _ o (by first | assumption | omega | (simp; done) | (simp; omega))
  have z2_0 : w.heap.size < w2.heap.size := by have := hb2.size; (try simp at this); omega
  have k2_1 : ∀ o, w2.cell? ⟨w.heap.size+1, o, none⟩ = _ := fun o => kk _ o (by first | assumption | omega | (simp; done) | (simp; omega))
  have f2_1 : ∀ o, w2.frozen? ⟨w.heap.size+1, o, none⟩ = _ := fun o => ff _ o (by first | assumption | omega | (simp; done) | (simp; omega))
  have z2_1 : w.heap.size+1 < w2.heap.size := by have := hb2.size; (try simp at this); omega
  clear kk ff
  have hs2 := hc2.size
  clear hc1 hb2
  go_wp2_with fail
  refine Calls.mono (C3.out _) ?_
  rintro e w3 ⟨rfl, hb3⟩
  obtain ⟨kk, ff⟩ := bcell hb3
  have hc3 : Below w.heap.size w w3 := under hb3
  have k3_0 : ∀ o, w3.cell? ⟨w2.heap.size, o, none⟩ = _ := fun o => kk _ o (by first | assumption | omega | (simp; done) | (simp; omega))
  have f3_0 : ∀ o, w3.frozen? ⟨w2.heap.size, o, none⟩ = _ := fun o => ff _ o (by first | assumption | omega | (simp; done) | (simp; omega))
  have z3_0 : w2.heap.size < w3.heap.size := by have := hb3.size; (try simp at this); omega
  have k3_1 : ∀ o, w3.cell? ⟨w2.heap.size+1, o, none⟩ = _ := fun o => kk _ o (by first | assumption | omega | (simp; done) | (simp; omega))
  have f3_1 : ∀ o, w3.frozen? ⟨w2.heap.size+1, o, none⟩ = _ := fun o => ff _ o (by first | assumption | omega | (simp; done) | (simp; omega))
  have z3_1 : w2.heap.size+1 < w3.heap.size := by have := hb3.size; (try simp at this); omega
  have k3_2 : ∀ o, w3.cell? ⟨w2.heap.size+1+1, o, none⟩ = _ := fun o => kk _ o (by first | assumption | omega | (simp; done) | (simp; omega))
  have f3_2 : ∀ o, w3.frozen? ⟨w2.heap.size+1+1, o, none⟩ = _ := fun o => ff _ o (by first | assumption | omega | (simp; done) | (simp; omega))
  have z3_2 : w2.heap.size+1+1 < w3.heap.size := by have := hb3.size; (try simp at this); omega
  clear kk ff
  have hs3 := hc3.size
  clear hc2 hb3
  go_wp2_with fail
  go_quiet (fail)
  go_wp2_with fail
  refine wp_loop_rounds 4 ?_
  rw [rounds_succ]
  go_wp2_with fail
  refine Calls.mono (D0.out _) ?_
  rintro e w4 ⟨rfl, hb4⟩
  obtain ⟨kk, ff⟩ := bcell hb4
  have hc4 : Below w.heap.size w w4 := under hb4 (below_drewN (by go_grown) _)
  have k4_0 : ∀ o, w4.cell? ⟨w2.heap.size, o, none⟩ = _ := fun o => kk _ o (by first | assumption | omega | (simp; done) | (simp; omega))
  have f4_0 : ∀ o, w4.frozen? ⟨w2.heap.size, o, none⟩ = _ := fun o => ff _ o (by first | assumption | omega | (simp; done) | (simp; omega))
  have z4_0 : w2.heap.size < w4.heap.size := by have := hb4.size; (try simp at this); omega
  have k4_1 : ∀ o, w4.cell? ⟨w2.heap.size+1, o, none⟩ = _ := fun o => kk _ o (by first | assumption | omega | (simp; done) | (simp; omega))
  have f4_1 : ∀ o, w4.frozen? ⟨w2.heap.size+1, o, none⟩ = _ := fun o => ff _ o (by first | assumption | omega | (simp; done) | (simp; omega))
  have z4_1 : w2.heap.size+1 < w4.heap.size := by have := hb4.size; (try simp at this); omega
  have k4_2 : ∀ o, w4.cell? ⟨w3.heap.size, o, none⟩ = _ := fun o => kk _ o (by first | assumption | omega | (simp; done) | (simp; omega))
  have f4_2 : ∀ o, w4.frozen? ⟨w3.heap.size, o, none⟩ = _ := fun o => ff _ o (by first | assumption | omega | (simp; done) | (simp; omega))
  have z4_2 : w3.heap.size < w4.heap.size := by have := hb4.size; (try simp at this); omega
  have k4_3 : ∀ o, w4.cell? ⟨w3.heap.size+1, o, none⟩ = _ := fun o => kk _ o (by first | assumption | omega | (simp; done) | (simp; omega))
  have f4_3 : ∀ o, w4.frozen? ⟨w3.heap.size+1, o, none⟩ = _ := fun o => ff _ o (by first | assumption | omega | (simp; done) | (simp; omega))
  have z4_3 : w3.heap.size+1 < w4.heap.size := by have := hb4.size; (try simp at this); omega
  clear kk ff
  have hs4 := hc4.size
  clear hc3 hb4
  go_wp2_with fail
  rw [rounds_succ]
  go_wp2_with fail
  refine Calls.mono (D1.out _) ?_
  rintro e w5 ⟨rfl, hb5⟩
  obtain ⟨kk, ff⟩ := bcell hb5
  have hc5 : Below w.heap.size w w5 := under hb5
  have k5_0 : ∀ o, w5.cell? ⟨w2.heap.size, o, none⟩ = _ := fun o => kk _ o (by first | assumption | omega | (simp; done) | (simp; omega))
  have f5_0 : ∀ o, w5.frozen? ⟨w2.heap.size, o, none⟩ = _ := fun o => ff _ o (by first | assumption | omega | (simp; done) | (simp; omega))
  have z5_0 : w2.heap.size < w5.heap.size := by have := hb5.size; (try simp at this); omega
  have k5_1 : ∀ o, w5.cell? ⟨w2.heap.size+1, o, none⟩ = _ := fun o => kk _ o (by first | assumption | omega | (simp; done) | (simp; omega))
  have f5_1 : ∀ o, w5.frozen? ⟨w2.heap.size+1, o, none⟩ = _ := fun o => ff _ o (by first | assumption | omega | (simp; done) | (simp; omega))
  have z5_1 : w2.heap.size+1 < w5.heap.size := by have := hb5.size; (try simp at this); omega
  have k5_2 : ∀ o, w5.cell? ⟨w3.heap.size, o, none⟩ = _ := fun o => kk _ o (by first | assumption | omega | (simp; done) | (simp; omega))
  have f5_2 : ∀ o, w5.frozen? ⟨w3.heap.size, o, none⟩ = _ := fun o => ff _ o (by first | assumption | omega | (simp; done) | (simp; omega))
  have z5_2 : w3.heap.size < w5.heap.size := by have := hb5.size; (try simp at this); omega
  have k5_3 : ∀ o, w5.cell? ⟨w3.heap.size+1, o, none⟩ = _ := fun o => kk _ o (by first | assumption | omega | (simp; done) | (simp; omega))
  have f5_3 : ∀ o, w5.frozen? ⟨w3.heap.size+1, o, none⟩ = _ := fun o => ff _ o (by first | assumption | omega | (simp; done) | (simp; omega))
  have z5_3 : w3.heap.size+1 < w5.heap.size := by have := hb5.size; (try simp at this); omega
  clear kk ff
  have hs5 := hc5.size
  clear hc4 hb5
  go_wp2_with fail
  rw [rounds_succ]
  go_wp2_with fail
  refine Calls.mono (D2.out _) ?_
  rintro e w6 ⟨rfl, hb6⟩
  obtain ⟨kk, ff⟩ := bcell hb6
  have hc6 : Below w.heap.size w w6 := under hb6
  have k6_0 : ∀ o, w6.cell? ⟨w2.heap.size, o, none⟩ = _ := fun o => kk _ o (by first | assumption | omega | (simp; done) | (simp; omega))
  have f6_0 : ∀ o, w6.frozen? ⟨w2.heap.size, o, none⟩ = _ := fun o => ff _ o (by first | assumption | omega | (simp; done) | (simp; omega))
  have z6_0 : w2.heap.size < w6.heap.size := by have := hb6.size; (try simp at this); omega
  have k6_1 : ∀ o, w6.cell? ⟨w2.heap.size+1, o, none⟩ = _ := fun o => kk _ o (by first | assumption | omega | (simp; done) | (simp; omega))
  have f6_1 : ∀ o, w6.frozen? ⟨w2.heap.size+1, o, none⟩ = _ := fun o => ff _ o (by first | assumption | omega | (simp; done) | (simp; omega))
  have z6_1 : w2.heap.size+1 < w6.heap.size := by have := hb6.size; (try simp at this); omega
  have k6_2 : ∀ o, w6.cell? ⟨w3.heap.size, o, none⟩ = _ := fun o => kk _ o (by first | assumption | omega | (simp; done) | (simp; omega))
  have f6_2 : ∀ o, w6.frozen? ⟨w3.heap.size, o, none⟩ = _ := fun o => ff _ o (by first | assumption | omega | (simp; done) | (simp; omega))
  have z6_2 : w3.heap.size < w6.heap.size := by have := hb6.size; (try simp at this); omega
  have k6_3 : ∀ o, w6.cell? ⟨w3.heap.size+1, o, none⟩ = _ := fun o => kk _ o (by first | assumption | omega | (simp; done) | (simp; omega))
  have f6_3 : ∀ o, w6.frozen? ⟨w3.heap.size+1, o, none⟩ = _ := fun o => ff _ o (by first | assumption | omega | (simp; done) | (simp; omega))
  have z6_3 : w3.heap.size+1 < w6.heap.size := by have := hb6.size; (try simp at this); omega
  clear kk ff
  have hs6 := hc6.size
  clear hc5 hb6
  go_wp2_with fail
  rw [rounds_succ]
  go_wp2_with fail
  refine Calls.mono (C5.out _) ?_
  rintro e w7 ⟨rfl, hb7⟩
  obtain ⟨kk, ff⟩ := bcell hb7
  have hc7 : Below w.heap.size w w7 := under hb7
  have k7_0 : ∀ o, w7.cell? ⟨w2.heap.size, o, none⟩ = _ := fun o => kk _ o (by first | assumption | omega | (simp; done) | (simp; omega))
  have f7_0 : ∀ o, w7.frozen? ⟨w2.heap.size, o, none⟩ = _ := fun o => ff _ o (by first | assumption | omega | (simp; done) | (simp; omega))
  have z7_0 : w2.heap.size < w7.heap.size := by have := hb7.size; (try simp at this); omega
  have k7_1 : ∀ o, w7.cell? ⟨w2.heap.size+1, o, none⟩ = _ := fun o => kk _ o (by first | assumption | omega | (simp; done) | (simp; omega))
  have f7_1 : ∀ o, w7.frozen? ⟨w2.heap.size+1, o, none⟩ = _ := fun o => ff _ o (by first | assumption | omega | (simp; done) | (simp; omega))
  have z7_1 : w2.heap.size+1 < w7.heap.size := by have := hb7.size; (try simp at this); omega
  have k7_2 : ∀ o, w7.cell? ⟨w3.heap.size, o, none⟩ = _ := fun o => kk _ o (by first | assumption | omega | (simp; done) | (simp; omega))
  have f7_2 : ∀ o, w7.frozen? ⟨w3.heap.size, o, none⟩ = _ := fun o => ff _ o (by first | assumption | omega | (simp; done) | (simp; omega))
  have z7_2 : w3.heap.size < w7.heap.size := by have := hb7.size; (try simp at this); omega
  have k7_3 : ∀ o, w7.cell? ⟨w3.heap.size+1, o, none⟩ = _ := fun o => kk _ o (by first | assumption | omega | (simp; done) | (simp; omega))
  have f7_3 : ∀ o, w7.frozen? ⟨w3.heap.size+1, o, none⟩ = _ := fun o => ff _ o (by first | assumption | omega | (simp; done) | (simp; omega))
  have z7_3 : w3.heap.size+1 < w7.heap.size := by have := hb7.size; (try simp at this); omega
  clear kk ff
  have hs7 := hc7.size
  clear hc6 hb7
  go_wp2_with fail
  refine Calls.mono (C6.out _) ?_
  rintro e w8 ⟨rfl, hb8⟩
  obtain ⟨kk, ff⟩ := bcell hb8
  have hc8 : Below w.heap.size w w8 := under hb8
  have k8_0 : ∀ o, w8.cell? ⟨w3.heap.size, o, none⟩ = _ := fun o => kk _ o (by first | assumption | omega | (simp; done) | (simp; omega))
  have f8_0 : ∀ o, w8.frozen? ⟨w3.heap.size, o, none⟩ = _ := fun o => ff _ o (by first | assumption | omega | (simp; done) | (simp; omega))
  have z8_0 : w3.heap.size < w8.heap.size := by have := hb8.size; (try simp at this); omega
  have k8_1 : ∀ o, w8.cell? ⟨w3.heap.size+1, o, none⟩ = _ := fun o => kk _ o (by first | assumption | omega | (simp; done) | (simp; omega))
  have f8_1 : ∀ o, w8.frozen? ⟨w3.heap.size+1, o, none⟩ = _ := fun o => ff _ o (by first | assumption | omega | (simp; done) | (simp; omega))
  have z8_1 : w3.heap.size+1 < w8.heap.size := by have := hb8.size; (try simp at this); omega
  clear kk ff
  have hs8 := hc8.size
  clear hc7 hb8
  go_wp2_with fail
  refine Calls.mono (works _ (hE.on (by go_grown))) ?_
  rintro e w9 ⟨rfl, hb9⟩
  obtain ⟨kk, ff⟩ := bcell hb9
  have hc9 : Below w.heap.size w w9 := under hb9
  clear kk ff
  have hs9 := hc9.size
  clear hc8 hb9
  go_wp2_with fail
  go_returns
  exact ⟨rfl, hc9⟩
end Go.Proofs.YtpegkcmomkdoeaaDoor
