/- Set, of the program and of the reference: what is refused. -/
import Derived.Test.YtpegkcmomkdoeaaDoorFieldRef
namespace Go.Proofs.YtpegkcmomkdoeaaDoor
open Go.RowKit
set_option linter.unusedVariables false
set_option linter.unusedSimpArgs false
abbrev ob0 : Value := obV 0 0 0 0 0 0 0 0 0 false
set_option maxHeartbeats 8000000 in
set_option maxRecDepth 20000 in
theorem fset_bad (n s0 g0 s1 g1 s2 g2 s3 g3 : Int) (h : Bool) (i s g : Int) (w : World) (hk : ∀ w, Ret 13 #[obV n s0 g0 s1 g1 s2 g2 s3 g3 h] w (.int .i64 2)) :
    Ret 21 #[obV n s0 g0 s1 g1 s2 g2 s3 g3 h, .int .i64 i, refV s g] w (.tuple #[ob0, refV 0 0, .int .i64 2]) := by
  have HK := Lib.hid hk
  have hc0 := Below.refl w.heap.size w
  clear hk
  go_enter Tryd.func21, Tryd.ntmps21
  go_wp2_with fail
  refine Calls.mono (HK.out _) ?_
  rintro e w1 ⟨rfl, hb1⟩
  obtain ⟨kk, ff⟩ := bcell hb1
  have hc1 : Below w.heap.size w w1 := under hb1
  have k1_0 : ∀ o, w1.cell? ⟨w.heap.size+1+1, o, none⟩ = _ := fun o => kk _ o (by first | assumption | omega | (simp; done) | (simp; omega))
  have f1_0 : ∀ o, w1.frozen? ⟨w.heap.size+1+1, o, none⟩ = _ := fun o => ff _ o (by first | assumption | omega | (simp; done) | (simp; omega))
  have z1_0 : w.heap.size+1+1 < w1.heap.size := by have := hb1.size; (try simp at this); omega
  have k1_1 : ∀ o, w1.cell? ⟨w.heap.size+1+1+1, o, none⟩ = _ := fun o => kk _ o (by first | assumption | omega | (simp; done) | (simp; omega))
  have f1_1 : ∀ o, w1.frozen? ⟨w.heap.size+1+1+1, o, none⟩ = _ := fun o => ff _ o (by first | assumption | omega | (simp; done) | (simp; omega))
  have z1_1 : w.heap.size+1+1+1 < w1.heap.size := by have := hb1.size; (try simp at this); omega
  clear kk ff
  have hs1 := hc1.size
  clear hc0 hb1
  go_wp2_with fail
  refine bodyPost_ret (v := .tuple #[ob0, refV 0 0, .int .i64 2]) (by simp [results, Tryd.results21, go_sem, k1_0, k1_1]) rfl ⟨rfl, by go_grown⟩
set_option maxHeartbeats 8000000 in
set_option maxRecDepth 20000 in
theorem fset_wrong (n s0 g0 s1 g1 s2 g2 s3 g3 : Int) (h : Bool) (i s g : Int) (w : World) (hk : ∀ w, Ret 13 #[obV n s0 g0 s1 g1 s2 g2 s3 g3 h] w (.int .i64 0)) (hw : ∀ w, Ret 31 #[refV s g] w (.bool true)) :
    Ret 21 #[obV n s0 g0 s1 g1 s2 g2 s3 g3 h, .int .i64 i, refV s g] w (.tuple #[ob0, refV 0 0, .int .i64 2]) := by
  have HK := Lib.hid hk
  have HW := Lib.hid hw
  have hc0 := Below.refl w.heap.size w
  clear hk hw
  go_enter Tryd.func21, Tryd.ntmps21
  go_wp2_with fail
  refine Calls.mono (HK.out _) ?_
  rintro e w1 ⟨rfl, hb1⟩
  obtain ⟨kk, ff⟩ := bcell hb1
  have hc1 : Below w.heap.size w w1 := under hb1
  have k1_0 : ∀ o, w1.cell? ⟨w.heap.size+1, o, none⟩ = _ := fun o => kk _ o (by first | assumption | omega | (simp; done) | (simp; omega))
  have f1_0 : ∀ o, w1.frozen? ⟨w.heap.size+1, o, none⟩ = _ := fun o => ff _ o (by first | assumption | omega | (simp; done) | (simp; omega))
  have z1_0 : w.heap.size+1 < w1.heap.size := by have := hb1.size; (try simp at this); omega
  have k1_1 : ∀ o, w1.cell? ⟨w.heap.size+1+1, o, none⟩ = _ := fun o => kk _ o (by first | assumption | omega | (simp; done) | (simp; omega))
  have f1_1 : ∀ o, w1.frozen? ⟨w.heap.size+1+1, o, none⟩ = _ := fun o => ff _ o (by first | assumption | omega | (simp; done) | (simp; omega))
  have z1_1 : w.heap.size+1+1 < w1.heap.size := by have := hb1.size; (try simp at this); omega
  have k1_2 : ∀ o, w1.cell? ⟨w.heap.size+1+1+1, o, none⟩ = _ := fun o => kk _ o (by first | assumption | omega | (simp; done) | (simp; omega))
  have f1_2 : ∀ o, w1.frozen? ⟨w.heap.size+1+1+1, o, none⟩ = _ := fun o => ff _ o (by first | assumption | omega | (simp; done) | (simp; omega))
  have z1_2 : w.heap.size+1+1+1 < w1.heap.size := by have := hb1.size; (try simp at this); omega
  clear kk ff
  have hs1 := hc1.size
  clear hc0 hb1
  go_wp2_with fail
  refine Calls.mono (HW.out _) ?_
  rintro e w2 ⟨rfl, hb2⟩
  obtain ⟨kk, ff⟩ := bcell hb2
  have hc2 : Below w.heap.size w w2 := under hb2
  have k2_0 : ∀ o, w2.cell? ⟨w.heap.size+1+1, o, none⟩ = _ := fun o => kk _ o (by first | assumption | omega | (simp; done) | (simp; omega))
  have f2_0 : ∀ o, w2.frozen? ⟨w.heap.size+1+1, o, none⟩ = _ := fun o => ff _ o (by first | assumption | omega | (simp; done) | (simp; omega))
  have z2_0 : w.heap.size+1+1 < w2.heap.size := by have := hb2.size; (try simp at this); omega
  have k2_1 : ∀ o, w2.cell? ⟨w.heap.size+1+1+1, o, none⟩ = _ := fun o => kk _ o (by first | assumption | omega | (simp; done) | (simp; omega))
  have f2_1 : ∀ o, w2.frozen? ⟨w.heap.size+1+1+1, o, none⟩ = _ := fun o => ff _ o (by first | assumption | omega | (simp; done) | (simp; omega))
  have z2_1 : w.heap.size+1+1+1 < w2.heap.size := by have := hb2.size; (try simp at this); omega
  clear kk ff
  have hs2 := hc2.size
  clear hc1 hb2
  go_wp2_with fail
  refine bodyPost_ret (v := .tuple #[ob0, refV 0 0, .int .i64 2]) (by simp [results, Tryd.results21, go_sem, k1_1, k1_2, k2_0, k2_1]) rfl ⟨rfl, by go_grown⟩
set_option maxHeartbeats 8000000 in
set_option maxRecDepth 20000 in
theorem fset_range (n s0 g0 s1 g1 s2 g2 s3 g3 : Int) (h : Bool) (i s g : Int) (w : World) (hk : ∀ w, Ret 13 #[obV n s0 g0 s1 g1 s2 g2 s3 g3 h] w (.int .i64 0)) (hw : ∀ w, Ret 31 #[refV s g] w (.bool false)) (hi : i < 0 ∨ (0 ≤ i ∧ n ≤ i)) :
    Ret 21 #[obV n s0 g0 s1 g1 s2 g2 s3 g3 h, .int .i64 i, refV s g] w (.tuple #[ob0, refV 0 0, .int .i64 3]) := by
  have HK := Lib.hid hk
  have HW := Lib.hid hw
  have hc0 := Below.refl w.heap.size w
  clear hk hw
  rcases hi with hi | ⟨hi0, hi⟩
  all_goals
    go_enter Tryd.func21, Tryd.ntmps21
    go_wp2_with fail
    refine Calls.mono (HK.out _) ?_
    rintro e w1 ⟨rfl, hb1⟩
    obtain ⟨kk, ff⟩ := bcell hb1
    have hc1 : Below w.heap.size w w1 := under hb1
    have k1_0 : ∀ o, w1.cell? ⟨w.heap.size, o, none⟩ = _ := fun o => kk _ o (by first | assumption | omega | (simp; done) | (simp; omega))
    have f1_0 : ∀ o, w1.frozen? ⟨w.heap.size, o, none⟩ = _ := fun o => ff _ o (by first | assumption | omega | (simp; done) | (simp; omega))
    have z1_0 : w.heap.size < w1.heap.size := by have := hb1.size; (try simp at this); omega
    have k1_1 : ∀ o, w1.cell? ⟨w.heap.size+1, o, none⟩ = _ := fun o => kk _ o (by first | assumption | omega | (simp; done) | (simp; omega))
    have f1_1 : ∀ o, w1.frozen? ⟨w.heap.size+1, o, none⟩ = _ := fun o => ff _ o (by first | assumption | omega | (simp; done) | (simp; omega))
    have z1_1 : w.heap.size+1 < w1.heap.size := by have := hb1.size; (try simp at this); omega
    have k1_2 : ∀ o, w1.cell? ⟨w.heap.size+1+1, o, none⟩ = _ := fun o => kk _ o (by first | assumption | omega | (simp; done) | (simp; omega))
    have f1_2 : ∀ o, w1.frozen? ⟨w.heap.size+1+1, o, none⟩ = _ := fun o => ff _ o (by first | assumption | omega | (simp; done) | (simp; omega))
    have z1_2 : w.heap.size+1+1 < w1.heap.size := by have := hb1.size; (try simp at this); omega
    have k1_3 : ∀ o, w1.cell? ⟨w.heap.size+1+1+1, o, none⟩ = _ := fun o => kk _ o (by first | assumption | omega | (simp; done) | (simp; omega))
    have f1_3 : ∀ o, w1.frozen? ⟨w.heap.size+1+1+1, o, none⟩ = _ := fun o => ff _ o (by first | assumption | omega | (simp; done) | (simp; omega))
    have z1_3 : w.heap.size+1+1+1 < w1.heap.size := by have := hb1.size; (try simp at this); omega
    clear kk ff
    have hs1 := hc1.size
    clear hc0 hb1
    go_wp2_with fail
    refine Calls.mono (HW.out _) ?_
    rintro e w2 ⟨rfl, hb2⟩
    obtain ⟨kk, ff⟩ := bcell hb2
    have hc2 : Below w.heap.size w w2 := under hb2
    have k2_0 : ∀ o, w2.cell? ⟨w.heap.size, o, none⟩ = _ := fun o => kk _ o (by first | assumption | omega | (simp; done) | (simp; omega))
    have f2_0 : ∀ o, w2.frozen? ⟨w.heap.size, o, none⟩ = _ := fun o => ff _ o (by first | assumption | omega | (simp; done) | (simp; omega))
    have z2_0 : w.heap.size < w2.heap.size := by have := hb2.size; (try simp at this); omega
    have k2_1 : ∀ o, w2.cell? ⟨w.heap.size+1+1, o, none⟩ = _ := fun o => kk _ o (by first | assumption | omega | (simp; done) | (simp; omega))
    have f2_1 : ∀ o, w2.frozen? ⟨w.heap.size+1+1, o, none⟩ = _ := fun o => ff _ o (by first | assumption | omega | (simp; done) | (simp; omega))
    have z2_1 : w.heap.size+1+1 < w2.heap.size := by have := hb2.size; (try simp at this); omega
    have k2_2 : ∀ o, w2.cell? ⟨w.heap.size+1+1+1, o, none⟩ = _ := fun o => kk _ o (by first | assumption | omega | (simp; done) | (simp; omega))
    have f2_2 : ∀ o, w2.frozen? ⟨w.heap.size+1+1+1, o, none⟩ = _ := fun o => ff _ o (by first | assumption | omega | (simp; done) | (simp; omega))
    have z2_2 : w.heap.size+1+1+1 < w2.heap.size := by have := hb2.size; (try simp at this); omega
    clear kk ff
    have hs2 := hc2.size
    clear hc1 hb2
    go_wp2_with fail
    refine bodyPost_ret (v := .tuple #[ob0, refV 0 0, .int .i64 3]) (by simp [results, Tryd.results21, go_sem, k1_2, k1_3, k2_1, k2_2]) rfl ⟨rfl, by go_grown⟩
set_option maxHeartbeats 8000000 in
set_option maxRecDepth 20000 in
theorem rset_bad (n s0 g0 s1 g1 s2 g2 s3 g3 : Int) (h : Bool) (i s g : Int) (w : World) (hk : ∀ w, Ret 14 #[obV n s0 g0 s1 g1 s2 g2 s3 g3 h] w (.int .i64 2)) :
    Ret 22 #[obV n s0 g0 s1 g1 s2 g2 s3 g3 h, .int .i64 i, refV s g] w (.tuple #[ob0, refV 0 0, .int .i64 2]) := by
  have HK := Lib.hid hk
  have hc0 := Below.refl w.heap.size w
  clear hk
  go_enter Tryd.func22, Tryd.ntmps22
  go_wp2_with fail
  refine Calls.mono (HK.out _) ?_
  rintro e w1 ⟨rfl, hb1⟩
  obtain ⟨kk, ff⟩ := bcell hb1
  have hc1 : Below w.heap.size w w1 := under hb1
  have k1_0 : ∀ o, w1.cell? ⟨w.heap.size+1+1, o, none⟩ = _ := fun o => kk _ o (by first | assumption | omega | (simp; done) | (simp; omega))
  have f1_0 : ∀ o, w1.frozen? ⟨w.heap.size+1+1, o, none⟩ = _ := fun o => ff _ o (by first | assumption | omega | (simp; done) | (simp; omega))
  have z1_0 : w.heap.size+1+1 < w1.heap.size := by have := hb1.size; (try simp at this); omega
  have k1_1 : ∀ o, w1.cell? ⟨w.heap.size+1+1+1, o, none⟩ = _ := fun o => kk _ o (by first | assumption | omega | (simp; done) | (simp; omega))
  have f1_1 : ∀ o, w1.frozen? ⟨w.heap.size+1+1+1, o, none⟩ = _ := fun o => ff _ o (by first | assumption | omega | (simp; done) | (simp; omega))
  have z1_1 : w.heap.size+1+1+1 < w1.heap.size := by have := hb1.size; (try simp at this); omega
  clear kk ff
  have hs1 := hc1.size
  clear hc0 hb1
  go_wp2_with fail
  refine bodyPost_ret (v := .tuple #[ob0, refV 0 0, .int .i64 2]) (by simp [results, Tryd.results22, go_sem, k1_0, k1_1]) rfl ⟨rfl, by go_grown⟩
set_option maxHeartbeats 8000000 in
set_option maxRecDepth 20000 in
theorem rset_wrong (n s0 g0 s1 g1 s2 g2 s3 g3 : Int) (h : Bool) (i s g : Int) (w : World) (hk : ∀ w, Ret 14 #[obV n s0 g0 s1 g1 s2 g2 s3 g3 h] w (.int .i64 0)) (hw : ∀ w, Ret 32 #[refV s g] w (.bool true)) :
    Ret 22 #[obV n s0 g0 s1 g1 s2 g2 s3 g3 h, .int .i64 i, refV s g] w (.tuple #[ob0, refV 0 0, .int .i64 2]) := by
  have HK := Lib.hid hk
  have HW := Lib.hid hw
  have hc0 := Below.refl w.heap.size w
  clear hk hw
  go_enter Tryd.func22, Tryd.ntmps22
  go_wp2_with fail
  refine Calls.mono (HK.out _) ?_
  rintro e w1 ⟨rfl, hb1⟩
  obtain ⟨kk, ff⟩ := bcell hb1
  have hc1 : Below w.heap.size w w1 := under hb1
  have k1_0 : ∀ o, w1.cell? ⟨w.heap.size+1, o, none⟩ = _ := fun o => kk _ o (by first | assumption | omega | (simp; done) | (simp; omega))
  have f1_0 : ∀ o, w1.frozen? ⟨w.heap.size+1, o, none⟩ = _ := fun o => ff _ o (by first | assumption | omega | (simp; done) | (simp; omega))
  have z1_0 : w.heap.size+1 < w1.heap.size := by have := hb1.size; (try simp at this); omega
  have k1_1 : ∀ o, w1.cell? ⟨w.heap.size+1+1, o, none⟩ = _ := fun o => kk _ o (by first | assumption | omega | (simp; done) | (simp; omega))
  have f1_1 : ∀ o, w1.frozen? ⟨w.heap.size+1+1, o, none⟩ = _ := fun o => ff _ o (by first | assumption | omega | (simp; done) | (simp; omega))
  have z1_1 : w.heap.size+1+1 < w1.heap.size := by have := hb1.size; (try simp at this); omega
  have k1_2 : ∀ o, w1.cell? ⟨w.heap.size+1+1+1, o, none⟩ = _ := fun o => kk _ o (by first | assumption | omega | (simp; done) | (simp; omega))
  have f1_2 : ∀ o, w1.frozen? ⟨w.heap.size+1+1+1, o, none⟩ = _ := fun o => ff _ o (by first | assumption | omega | (simp; done) | (simp; omega))
  have z1_2 : w.heap.size+1+1+1 < w1.heap.size := by have := hb1.size; (try simp at this); omega
  clear kk ff
  have hs1 := hc1.size
  clear hc0 hb1
  go_wp2_with fail
  refine Calls.mono (HW.out _) ?_
  rintro e w2 ⟨rfl, hb2⟩
  obtain ⟨kk, ff⟩ := bcell hb2
  have hc2 : Below w.heap.size w w2 := under hb2
  have k2_0 : ∀ o, w2.cell? ⟨w.heap.size+1+1, o, none⟩ = _ := fun o => kk _ o (by first | assumption | omega | (simp; done) | (simp; omega))
  have f2_0 : ∀ o, w2.frozen? ⟨w.heap.size+1+1, o, none⟩ = _ := fun o => ff _ o (by first | assumption | omega | (simp; done) | (simp; omega))
  have z2_0 : w.heap.size+1+1 < w2.heap.size := by have := hb2.size; (try simp at this); omega
  have k2_1 : ∀ o, w2.cell? ⟨w.heap.size+1+1+1, o, none⟩ = _ := fun o => kk _ o (by first | assumption | omega | (simp; done) | (simp; omega))
  have f2_1 : ∀ o, w2.frozen? ⟨w.heap.size+1+1+1, o, none⟩ = _ := fun o => ff _ o (by first | assumption | omega | (simp; done) | (simp; omega))
  have z2_1 : w.heap.size+1+1+1 < w2.heap.size := by have := hb2.size; (try simp at this); omega
  clear kk ff
  have hs2 := hc2.size
  clear hc1 hb2
  go_wp2_with fail
  refine bodyPost_ret (v := .tuple #[ob0, refV 0 0, .int .i64 2]) (by simp [results, Tryd.results22, go_sem, k1_1, k1_2, k2_0, k2_1]) rfl ⟨rfl, by go_grown⟩
set_option maxHeartbeats 8000000 in
set_option maxRecDepth 20000 in
theorem rset_range (n s0 g0 s1 g1 s2 g2 s3 g3 : Int) (h : Bool) (i s g : Int) (w : World) (hk : ∀ w, Ret 14 #[obV n s0 g0 s1 g1 s2 g2 s3 g3 h] w (.int .i64 0)) (hw : ∀ w, Ret 32 #[refV s g] w (.bool false)) (hi : i < 0 ∨ (0 ≤ i ∧ n ≤ i)) :
    Ret 22 #[obV n s0 g0 s1 g1 s2 g2 s3 g3 h, .int .i64 i, refV s g] w (.tuple #[ob0, refV 0 0, .int .i64 3]) := by
  have HK := Lib.hid hk
  have HW := Lib.hid hw
  have hc0 := Below.refl w.heap.size w
  clear hk hw
  rcases hi with hi | ⟨hi0, hi⟩
  all_goals
    go_enter Tryd.func22, Tryd.ntmps22
    go_wp2_with fail
    refine Calls.mono (HK.out _) ?_
    rintro e w1 ⟨rfl, hb1⟩
    obtain ⟨kk, ff⟩ := bcell hb1
    have hc1 : Below w.heap.size w w1 := under hb1
    have k1_0 : ∀ o, w1.cell? ⟨w.heap.size, o, none⟩ = _ := fun o => kk _ o (by first | assumption | omega | (simp; done) | (simp; omega))
    have f1_0 : ∀ o, w1.frozen? ⟨w.heap.size, o, none⟩ = _ := fun o => ff _ o (by first | assumption | omega | (simp; done) | (simp; omega))
    have z1_0 : w.heap.size < w1.heap.size := by have := hb1.size; (try simp at this); omega
    have k1_1 : ∀ o, w1.cell? ⟨w.heap.size+1, o, none⟩ = _ := fun o => kk _ o (by first | assumption | omega | (simp; done) | (simp; omega))
    have f1_1 : ∀ o, w1.frozen? ⟨w.heap.size+1, o, none⟩ = _ := fun o => ff _ o (by first | assumption | omega | (simp; done) | (simp; omega))
    have z1_1 : w.heap.size+1 < w1.heap.size := by have := hb1.size; (try simp at this); omega
    have k1_2 : ∀ o, w1.cell? ⟨w.heap.size+1+1, o, none⟩ = _ := fun o => kk _ o (by first | assumption | omega | (simp; done) | (simp; omega))
    have f1_2 : ∀ o, w1.frozen? ⟨w.heap.size+1+1, o, none⟩ = _ := fun o => ff _ o (by first | assumption | omega | (simp; done) | (simp; omega))
    have z1_2 : w.heap.size+1+1 < w1.heap.size := by have := hb1.size; (try simp at this); omega
    have k1_3 : ∀ o, w1.cell? ⟨w.heap.size+1+1+1, o, none⟩ = _ := fun o => kk _ o (by first | assumption | omega | (simp; done) | (simp; omega))
    have f1_3 : ∀ o, w1.frozen? ⟨w.heap.size+1+1+1, o, none⟩ = _ := fun o => ff _ o (by first | assumption | omega | (simp; done) | (simp; omega))
    have z1_3 : w.heap.size+1+1+1 < w1.heap.size := by have := hb1.size; (try simp at this); omega
    clear kk ff
    have hs1 := hc1.size
    clear hc0 hb1
    go_wp2_with fail
    refine Calls.mono (HW.out _) ?_
    rintro e w2 ⟨rfl, hb2⟩
    obtain ⟨kk, ff⟩ := bcell hb2
    have hc2 : Below w.heap.size w w2 := under hb2
    have k2_0 : ∀ o, w2.cell? ⟨w.heap.size, o, none⟩ = _ := fun o => kk _ o (by first | assumption | omega | (simp; done) | (simp; omega))
    have f2_0 : ∀ o, w2.frozen? ⟨w.heap.size, o, none⟩ = _ := fun o => ff _ o (by first | assumption | omega | (simp; done) | (simp; omega))
    have z2_0 : w.heap.size < w2.heap.size := by have := hb2.size; (try simp at this); omega
    have k2_1 : ∀ o, w2.cell? ⟨w.heap.size+1+1, o, none⟩ = _ := fun o => kk _ o (by first | assumption | omega | (simp; done) | (simp; omega))
    have f2_1 : ∀ o, w2.frozen? ⟨w.heap.size+1+1, o, none⟩ = _ := fun o => ff _ o (by first | assumption | omega | (simp; done) | (simp; omega))
    have z2_1 : w.heap.size+1+1 < w2.heap.size := by have := hb2.size; (try simp at this); omega
    have k2_2 : ∀ o, w2.cell? ⟨w.heap.size+1+1+1, o, none⟩ = _ := fun o => kk _ o (by first | assumption | omega | (simp; done) | (simp; omega))
    have f2_2 : ∀ o, w2.frozen? ⟨w.heap.size+1+1+1, o, none⟩ = _ := fun o => ff _ o (by first | assumption | omega | (simp; done) | (simp; omega))
    have z2_2 : w.heap.size+1+1+1 < w2.heap.size := by have := hb2.size; (try simp at this); omega
    clear kk ff
    have hs2 := hc2.size
    clear hc1 hb2
    go_wp2_with fail
    refine bodyPost_ret (v := .tuple #[ob0, refV 0 0, .int .i64 3]) (by simp [results, Tryd.results22, go_sem, k1_2, k1_3, k2_1, k2_2]) rfl ⟨rfl, by go_grown⟩
end Go.Proofs.YtpegkcmomkdoeaaDoor
