/- The walks of FieldsTexts, FieldsSets. -/
import Derived.Test.YtpegkcmomkdoeaaDoorWorks13
namespace Go.Proofs.YtpegkcmomkdoeaaDoor
open Go.RowKit
set_option linter.unusedVariables false
set_option linter.unusedSimpArgs false

theorem tuple_text (n : Int) (a b c d : Rf) (h : Bool) : ∃ t e, (if oOk n a b c d h then Value.tuple #[.string (oText n a b c d h), .int .i64 0] else .tuple #[.string ⟨#[]⟩, .int .i64 2]) = .tuple #[.string t, .int .i64 e] := by
  cases oOk n a b c d h
  · exact ⟨_, _, rfl⟩
  · exact ⟨_, _, rfl⟩
theorem tuple_par (ws : List (List UInt8)) (s : ByteArray) : ∃ (n : Int) (a b c d : Rf) (h : Bool) (e : Int), parV ws s = .tuple #[obR n a b c d h, .int .i64 e] := by
  unfold parV
  split
  · exact ⟨_, _, _, _, _, _, _, rfl⟩
  · exact ⟨0, (0, 0), (0, 0), (0, 0), (0, 0), false, 9, rfl⟩
set_option maxHeartbeats 4000000 in
set_option maxRecDepth 20000 in
theorem texts_long (n s0 g0 s1 g1 s2 g2 s3 g3 : Int) (h : Bool) (x : ByteArray) (w : World) (hE : EnvP w) (hx : 1000 < x.size) : Ret 5 #[obV n s0 g0 s1 g1 s2 g2 s3 g3 h, .string x] w (.bool true) := by
  have hx' : (1000 : Int) < (x.size : Int) := by omega
  go_enter Tryd.func5, Tryd.ntmps5
  go_wp2_with fail
  refine Calls.mono (works _ (hE.on (by go_grown))) ?_
  rintro e w1 ⟨rfl, hb1⟩
  go_wp2_with fail
  go_returns
  exact ⟨rfl, off_alloc hb1⟩
set_option maxHeartbeats 8000000 in
set_option maxRecDepth 20000 in
theorem texts_walk (n s0 g0 s1 g1 s2 g2 s3 g3 : Int) (h : Bool) (x : ByteArray) (w : World) (hE : EnvP w) (u0 : 0 ≤ g0) (v0 : g0 ≤ 4294967295) (u1 : 0 ≤ g1) (v1 : g1 ≤ 4294967295) (u2 : 0 ≤ g2) (v2 : g2 ≤ 4294967295) (u3 : 0 ≤ g3) (v3 : g3 ≤ 4294967295) :
    Ret 5 #[obV n s0 g0 s1 g1 s2 g2 s3 g3 h, .string x] w (.bool true) := by
  by_cases hx : 1000 < x.size
  · exact texts_long n s0 g0 s1 g1 s2 g2 s3 g3 h x w hE hx
  · have hx' : ¬ (1000 : Int) < (x.size : Int) := by omega
    have c1 := fun w hE => ftext_c n (s0, g0) (s1, g1) (s2, g2) (s3, g3) h w hE
    have c2 := fun w => rtext_c n (s0, g0) (s1, g1) (s2, g2) (s3, g3) h w ⟨u0, v0⟩ ⟨u1, v1⟩ ⟨u2, v2⟩ ⟨u3, v3⟩
    have c3 := fun w hE => fparse_c x (by omega) w hE
    have c4 := fun w => rparse_c x (by omega) w
    obtain ⟨t, e, ht⟩ := tuple_text n (s0, g0) (s1, g1) (s2, g2) (s3, g3) h
    obtain ⟨n', a', b', c', d', h', f, hp⟩ := tuple_par (cutAll 32 x.data.toList) x
    rw [ht] at c1 c2
    rw [hp] at c3 c4
    have hq := eq_objR n' a' b' c' d' h' n' a' b' c' d' h'
    rw [eqO_same] at hq
    have C1 := Lib.hid c1
    have C2 := Lib.hid c2
    have C3 := Lib.hid c3
    have C4 := Lib.hid c4
    have hc0 := Below.refl w.heap.size w
    clear c1 c2 c3 c4 ht hp u0 v0 u1 v1 u2 v2 u3 v3
    go_enter Tryd.func5, Tryd.ntmps5
    go_wp2_with fail
    refine Calls.mono (C1.out _ (hE.toEnv.on (by go_grown))) ?_
    rintro e w1 ⟨rfl, hb1⟩
    obtain ⟨kk, ff⟩ := bcell hb1
    have hc1 : Below w.heap.size w w1 := under hb1
    have k1_0 : ∀ o, w1.cell? ⟨w.heap.size, o, none⟩ = _ := fun o => kk _ o (by first | assumption | omega | (simp; done) | (simp; omega))
    have f1_0 : ∀ o, w1.frozen? ⟨w.heap.size, o, none⟩ = _ := fun o => ff _ o (by first | assumption | omega | (simp; done) | (simp; omega))
    have z1_0 : w.heap.size < w1.heap.size := by have := hb1.size; (try simp at this); omega
    clear kk ff
    have hs1 := hc1.size
    clear hc0 hb1
    go_wp2_with fail
    refine Calls.mono (C2.out _) ?_
    rintro e w2 ⟨rfl, hb2⟩
    obtain ⟨kk, ff⟩ := bcell hb2
    have hc2 : Below w.heap.size w w2 := under hb2
    have k2_0 : ∀ o, w2.cell? ⟨w.heap.size, o, none⟩ = _ := fun o => kk _ o (by first | assumption | omega | (simp; done) | (simp; omega))
    have f2_0 : ∀ o, w2.frozen? ⟨w.heap.size, o, none⟩ = _ := fun o => ff _ o (by first | assumption | omega | (simp; done) | (simp; omega))
    have z2_0 : w.heap.size < w2.heap.size := by have := hb2.size; (try simp at this); omega
    clear kk ff
    have hs2 := hc2.size
    clear hc1 hb2
    go_wp2_with fail
    refine Calls.mono (C3.out _ (hE.on (by go_grown))) ?_
    rintro e w3 ⟨rfl, hb3⟩
    obtain ⟨kk, ff⟩ := bcell hb3
    have hc3 : Below w.heap.size w w3 := under hb3
    have k3_0 : ∀ o, w3.cell? ⟨w.heap.size, o, none⟩ = _ := fun o => kk _ o (by first | assumption | omega | (simp; done) | (simp; omega))
    have f3_0 : ∀ o, w3.frozen? ⟨w.heap.size, o, none⟩ = _ := fun o => ff _ o (by first | assumption | omega | (simp; done) | (simp; omega))
    have z3_0 : w.heap.size < w3.heap.size := by have := hb3.size; (try simp at this); omega
    clear kk ff
    have hs3 := hc3.size
    clear hc2 hb3
    go_wp2_with fail
    refine Calls.mono (C4.out _) ?_
    rintro e w4 ⟨rfl, hb4⟩
    obtain ⟨kk, ff⟩ := bcell hb4
    have hc4 : Below w.heap.size w w4 := under hb4
    have k4_0 : ∀ o, w4.cell? ⟨w.heap.size, o, none⟩ = _ := fun o => kk _ o (by first | assumption | omega | (simp; done) | (simp; omega))
    have f4_0 : ∀ o, w4.frozen? ⟨w.heap.size, o, none⟩ = _ := fun o => ff _ o (by first | assumption | omega | (simp; done) | (simp; omega))
    have z4_0 : w.heap.size < w4.heap.size := by have := hb4.size; (try simp at this); omega
    have k4_1 : ∀ o, w4.cell? ⟨w3.heap.size, o, none⟩ = _ := fun o => kk _ o (by first | assumption | omega | (simp; done) | (simp; omega))
    have f4_1 : ∀ o, w4.frozen? ⟨w3.heap.size, o, none⟩ = _ := fun o => ff _ o (by first | assumption | omega | (simp; done) | (simp; omega))
    have z4_1 : w3.heap.size < w4.heap.size := by have := hb4.size; (try simp at this); omega
    clear kk ff
    have hs4 := hc4.size
    clear hc3 hb4
    go_wp2_with fail
    refine Calls.mono (works _ (hE.on (by go_grown))) ?_
    rintro e w5 ⟨rfl, hb5⟩
    obtain ⟨kk, ff⟩ := bcell hb5
    have hc5 : Below w.heap.size w w5 := under hb5
    clear kk ff
    have hs5 := hc5.size
    clear hc4 hb5
    go_wp2_with fail
    go_returns
    exact ⟨rfl, hc5⟩
set_option maxHeartbeats 16000000 in
set_option maxRecDepth 20000 in
theorem sets_walk (n s0 g0 s1 g1 s2 g2 s3 g3 : Int) (h : Bool) (i s g : Int) (w : World) (hE : EnvP w) (u0 : 0 ≤ g0) (v0 : g0 ≤ 4294967295) (u1 : 0 ≤ g1) (v1 : g1 ≤ 4294967295) (u2 : 0 ≤ g2) (v2 : g2 ≤ 4294967295) (u3 : 0 ≤ g3) (v3 : g3 ≤ 4294967295) (u4 : 0 ≤ g) (v4 : g ≤ 4294967295) :
    Ret 4 #[obV n s0 g0 s1 g1 s2 g2 s3 g3 h, .int .i64 i, .agg #[.int .i64 s, .int .u32 g]] w (.bool true) := by
  have c1 := fun w => fget_c n (s0, g0) (s1, g1) (s2, g2) (s3, g3) h i w
  have c2 := fun w => rget_c n (s0, g0) (s1, g1) (s2, g2) (s3, g3) h i w ⟨u0, v0⟩ ⟨u1, v1⟩ ⟨u2, v2⟩ ⟨u3, v3⟩
  have c3 := fun w => fset_c n (s0, g0) (s1, g1) (s2, g2) (s3, g3) h i (s, g) w
  have c4 := fun w => rset_c n (s0, g0) (s1, g1) (s2, g2) (s3, g3) h i (s, g) w ⟨u0, v0⟩ ⟨u1, v1⟩ ⟨u2, v2⟩ ⟨u3, v3⟩ ⟨u4, v4⟩
  generalize getO n (s0, g0) (s1, g1) (s2, g2) (s3, g3) h i = ge at c1 c2
  obtain ⟨⟨gs, gg⟩, ge⟩ := ge
  generalize setO n (s0, g0) (s1, g1) (s2, g2) (s3, g3) h i (s, g) = se at c3 c4
  obtain ⟨n', ⟨a1, a2⟩, ⟨b1, b2⟩, ⟨p1, p2⟩, ⟨d1, d2⟩, h', ⟨r1, r2⟩, e'⟩ := se
  simp only [SetO.v] at c3 c4
  have hq := eq_objR n' (a1, a2) (b1, b2) (p1, p2) (d1, d2) h' n' (a1, a2) (b1, b2) (p1, p2) (d1, d2) h'
  rw [eqO_same] at hq
  have C1 := Lib.hid c1
  have C2 := Lib.hid c2
  have C3 := Lib.hid c3
  have C4 := Lib.hid c4
  have hc0 := Below.refl w.heap.size w
  clear c1 c2 c3 c4 u0 v0 u1 v1 u2 v2 u3 v3 u4 v4
  go_enter Tryd.func4, Tryd.ntmps4
  go_wp2_with fail
  refine Calls.mono (C1.out _) ?_
  rintro e w1 ⟨rfl, hb1⟩
  obtain ⟨kk, ff⟩ := bcell hb1
  have hc1 : Below w.heap.size w w1 := under hb1
  have k1_0 : ∀ o, w1.cell? ⟨w.heap.size, o, none⟩ = _ := fun o => kk _ o (by first | assumption | omega | (simp; done) | (simp; omega))
  have f1_0 : ∀ o, w1.frozen? ⟨w.heap.size, o, none⟩ = _ := fun o => ff _ o (by first | assumption | omega | (simp; done) | (simp; omega))
  have z1_0 : w.heap.size < w1.heap.size := by have := hb1.size; (try simp at this); omega
  have k1_1 : ∀ o, w1.cell? ⟨w.heap.size+1, o, none⟩ = _ := fun o => kk _ o (by first | assumption | omega | (simp; done) | (simp; omega))
  have f1_1 : ∀ o, w1.frozen? ⟨w.heap.size+1, o, none⟩ = _ := fun o => ff _ o (by first | assumption | omega | (simp; done) | (simp; omega))
  have z1_1 : w.heap.size+1 < w1.heap.size := by have := hb1.size; (try simp at this); omega
  have k1_2 : ∀ o, w1.cell? ⟨w.heap.size+1+1, o, none⟩ = _ := fun o => kk _ o (by first | assumption | omega | (simp; done) | (simp; omega))
  have f1_2 : ∀ o, w1.frozen? ⟨w.heap.size+1+1, o, none⟩ = _ := fun o => ff _ o (by first | assumption | omega | (simp; done) | (simp; omega))
  have z1_2 : w.heap.size+1+1 < w1.heap.size := by have := hb1.size; (try simp at this); omega
  clear kk ff
  have hs1 := hc1.size
  clear hc0 hb1
  go_wp2_with fail
  refine Calls.mono (C2.out _) ?_
  rintro e w2 ⟨rfl, hb2⟩
  obtain ⟨kk, ff⟩ := bcell hb2
  have hc2 : Below w.heap.size w w2 := under hb2
  have k2_0 : ∀ o, w2.cell? ⟨w.heap.size, o, none⟩ = _ := fun o => kk _ o (by first | assumption | omega | (simp; done) | (simp; omega))
  have f2_0 : ∀ o, w2.frozen? ⟨w.heap.size, o, none⟩ = _ := fun o => ff _ o (by first | assumption | omega | (simp; done) | (simp; omega))
  have z2_0 : w.heap.size < w2.heap.size := by have := hb2.size; (try simp at this); omega
  have k2_1 : ∀ o, w2.cell? ⟨w.heap.size+1, o, none⟩ = _ := fun o => kk _ o (by first | assumption | omega | (simp; done) | (simp; omega))
  have f2_1 : ∀ o, w2.frozen? ⟨w.heap.size+1, o, none⟩ = _ := fun o => ff _ o (by first | assumption | omega | (simp; done) | (simp; omega))
  have z2_1 : w.heap.size+1 < w2.heap.size := by have := hb2.size; (try simp at this); omega
  have k2_2 : ∀ o, w2.cell? ⟨w.heap.size+1+1, o, none⟩ = _ := fun o => kk _ o (by first | assumption | omega | (simp; done) | (simp; omega))
  have f2_2 : ∀ o, w2.frozen? ⟨w.heap.size+1+1, o, none⟩ = _ := fun o => ff _ o (by first | assumption | omega | (simp; done) | (simp; omega))
  have z2_2 : w.heap.size+1+1 < w2.heap.size := by have := hb2.size; (try simp at this); omega
  have k2_3 : ∀ o, w2.cell? ⟨w1.heap.size, o, none⟩ = _ := fun o => kk _ o (by first | assumption | omega | (simp; done) | (simp; omega))
  have f2_3 : ∀ o, w2.frozen? ⟨w1.heap.size, o, none⟩ = _ := fun o => ff _ o (by first | assumption | omega | (simp; done) | (simp; omega))
  have z2_3 : w1.heap.size < w2.heap.size := by have := hb2.size; (try simp at this); omega
  clear kk ff
  have hs2 := hc2.size
  clear hc1 hb2
  go_wp2_with fail
  refine Calls.mono (C3.out _) ?_
  rintro e w3 ⟨rfl, hb3⟩
  obtain ⟨kk, ff⟩ := bcell hb3
  have hc3 : Below w.heap.size w w3 := under hb3
  have k3_0 : ∀ o, w3.cell? ⟨w.heap.size, o, none⟩ = _ := fun o => kk _ o (by first | assumption | omega | (simp; done) | (simp; omega))
  have f3_0 : ∀ o, w3.frozen? ⟨w.heap.size, o, none⟩ = _ := fun o => ff _ o (by first | assumption | omega | (simp; done) | (simp; omega))
  have z3_0 : w.heap.size < w3.heap.size := by have := hb3.size; (try simp at this); omega
  have k3_1 : ∀ o, w3.cell? ⟨w.heap.size+1, o, none⟩ = _ := fun o => kk _ o (by first | assumption | omega | (simp; done) | (simp; omega))
  have f3_1 : ∀ o, w3.frozen? ⟨w.heap.size+1, o, none⟩ = _ := fun o => ff _ o (by first | assumption | omega | (simp; done) | (simp; omega))
  have z3_1 : w.heap.size+1 < w3.heap.size := by have := hb3.size; (try simp at this); omega
  have k3_2 : ∀ o, w3.cell? ⟨w.heap.size+1+1, o, none⟩ = _ := fun o => kk _ o (by first | assumption | omega | (simp; done) | (simp; omega))
  have f3_2 : ∀ o, w3.frozen? ⟨w.heap.size+1+1, o, none⟩ = _ := fun o => ff _ o (by first | assumption | omega | (simp; done) | (simp; omega))
  have z3_2 : w.heap.size+1+1 < w3.heap.size := by have := hb3.size; (try simp at this); omega
  have k3_3 : ∀ o, w3.cell? ⟨w1.heap.size, o, none⟩ = _ := fun o => kk _ o (by first | assumption | omega | (simp; done) | (simp; omega))
  have f3_3 : ∀ o, w3.frozen? ⟨w1.heap.size, o, none⟩ = _ := fun o => ff _ o (by first | assumption | omega | (simp; done) | (simp; omega))
  have z3_3 : w1.heap.size < w3.heap.size := by have := hb3.size; (try simp at this); omega
  have k3_4 : ∀ o, w3.cell? ⟨w2.heap.size, o, none⟩ = _ := fun o => kk _ o (by first | assumption | omega | (simp; done) | (simp; omega))
  have f3_4 : ∀ o, w3.frozen? ⟨w2.heap.size, o, none⟩ = _ := fun o => ff _ o (by first | assumption | omega | (simp; done) | (simp; omega))
  have z3_4 : w2.heap.size < w3.heap.size := by have := hb3.size; (try simp at this); omega
  clear kk ff
  have hs3 := hc3.size
  clear hc2 hb3
  go_wp2_with fail
  refine Calls.mono (C4.out _) ?_
  rintro e w4 ⟨rfl, hb4⟩
  obtain ⟨kk, ff⟩ := bcell hb4
  have hc4 : Below w.heap.size w w4 := under hb4
  have k4_0 : ∀ o, w4.cell? ⟨w1.heap.size, o, none⟩ = _ := fun o => kk _ o (by first | assumption | omega | (simp; done) | (simp; omega))
  have f4_0 : ∀ o, w4.frozen? ⟨w1.heap.size, o, none⟩ = _ := fun o => ff _ o (by first | assumption | omega | (simp; done) | (simp; omega))
  have z4_0 : w1.heap.size < w4.heap.size := by have := hb4.size; (try simp at this); omega
  have k4_1 : ∀ o, w4.cell? ⟨w2.heap.size, o, none⟩ = _ := fun o => kk _ o (by first | assumption | omega | (simp; done) | (simp; omega))
  have f4_1 : ∀ o, w4.frozen? ⟨w2.heap.size, o, none⟩ = _ := fun o => ff _ o (by first | assumption | omega | (simp; done) | (simp; omega))
  have z4_1 : w2.heap.size < w4.heap.size := by have := hb4.size; (try simp at this); omega
  have k4_2 : ∀ o, w4.cell? ⟨w3.heap.size, o, none⟩ = _ := fun o => kk _ o (by first | assumption | omega | (simp; done) | (simp; omega))
  have f4_2 : ∀ o, w4.frozen? ⟨w3.heap.size, o, none⟩ = _ := fun o => ff _ o (by first | assumption | omega | (simp; done) | (simp; omega))
  have z4_2 : w3.heap.size < w4.heap.size := by have := hb4.size; (try simp at this); omega
  have k4_3 : ∀ o, w4.cell? ⟨w3.heap.size+1, o, none⟩ = _ := fun o => kk _ o (by first | assumption | omega | (simp; done) | (simp; omega))
  have f4_3 : ∀ o, w4.frozen? ⟨w3.heap.size+1, o, none⟩ = _ := fun o => ff _ o (by first | assumption | omega | (simp; done) | (simp; omega))
  have z4_3 : w3.heap.size+1 < w4.heap.size := by have := hb4.size; (try simp at this); omega
  clear kk ff
  have hs4 := hc4.size
  clear hc3 hb4
  go_wp2_with fail
  refine Calls.mono (works _ (hE.on (by go_grown))) ?_
  rintro e w5 ⟨rfl, hb5⟩
  obtain ⟨kk, ff⟩ := bcell hb5
  have hc5 : Below w.heap.size w w5 := under hb5
  clear kk ff
  have hs5 := hc5.size
  clear hc4 hb5
  go_wp2_with fail
  go_returns
  exact ⟨rfl, hc5⟩
end Go.Proofs.YtpegkcmomkdoeaaDoor
