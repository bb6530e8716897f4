/- Set, of the program and of the reference: where it is done. -/
import Derived.Test.YtpegkcmomkdoeaaDoorFieldSet
namespace Go.Proofs.YtpegkcmomkdoeaaDoor
open Go.RowKit
set_option linter.unusedVariables false
set_option linter.unusedSimpArgs false
abbrev ob0C : Array Value := #[.int .i64 0, .int .i64 0, .int .u32 0, .int .i64 0, .int .u32 0, .int .i64 0, .int .u32 0, .int .i64 0, .int .u32 0, .bool false]
theorem Row.drew {W : World} {x : Nat} {cs : Array Value} {t : TypeId} (h : Row W x cs t) : Row W.drew x cs t := ⟨h.eq⟩
abbrev refC (s g : Int) : Array Value := #[.int .i64 s, .int .u32 g]
set_option maxHeartbeats 16000000 in
set_option maxRecDepth 20000 in
theorem fset_ok0 (n s0 g0 s1 g1 s2 g2 s3 g3 : Int) (h : Bool) (s g : Int) (w : World) (hk : ∀ w, Ret 13 #[obV n s0 g0 s1 g1 s2 g2 s3 g3 h] w (.int .i64 0)) (hw : ∀ w, Ret 31 #[refV s g] w (.bool false)) (hi : 0 < n) :
    Ret 21 #[obV n s0 g0 s1 g1 s2 g2 s3 g3 h, .int .i64 0, refV s g] w (.tuple #[obV n s g s1 g1 s2 g2 s3 g3 h, refV s0 g0, .int .i64 0]) := by
  have HK := Lib.hid hk
  have HW := Lib.hid hw
  clear hk hw
  have r0 : Row (w.alloc (.cells (obC n s0 g0 s1 g1 s2 g2 s3 g3 h) 27)) w.heap.size (obC n s0 g0 s1 g1 s2 g2 s3 g3 h) 27 := Row.new
  have r1 : Row ((w.alloc (.cells (obC n s0 g0 s1 g1 s2 g2 s3 g3 h) 27)).alloc (.cells (refC s g) 24)) (w.heap.size + 1) (refC s g) 24 := by simpa using Row.new (W := w.alloc (.cells (obC n s0 g0 s1 g1 s2 g2 s3 g3 h) 27)) (cs := refC s g) (t := 24)
  have r2 : Row (((w.alloc (.cells (obC n s0 g0 s1 g1 s2 g2 s3 g3 h) 27)).alloc (.cells (refC s g) 24)).alloc (.cells ob0C 27)) (w.heap.size + 1 + 1) ob0C 27 := by simpa using Row.new (W := (w.alloc (.cells (obC n s0 g0 s1 g1 s2 g2 s3 g3 h) 27)).alloc (.cells (refC s g) 24)) (cs := ob0C) (t := 27)
  have r3 : Row ((((w.alloc (.cells (obC n s0 g0 s1 g1 s2 g2 s3 g3 h) 27)).alloc (.cells (refC s g) 24)).alloc (.cells ob0C 27)).alloc (.cells (refC 0 0) 24)) (w.heap.size + 1 + 1 + 1) (refC 0 0) 24 := by simpa using Row.new (W := ((w.alloc (.cells (obC n s0 g0 s1 g1 s2 g2 s3 g3 h) 27)).alloc (.cells (refC s g) 24)).alloc (.cells ob0C 27)) (cs := refC 0 0) (t := 24)
  have R0 := ((r0.on (below_alloc _ (.cells (refC s g) 24))).on (below_alloc _ (.cells ob0C 27))).on (below_alloc _ (.cells (refC 0 0) 24))
  have R1 := (r1.on (below_alloc _ (.cells ob0C 27))).on (below_alloc _ (.cells (refC 0 0) 24))
  have R2 := r2.on (below_alloc _ (.cells (refC 0 0) 24))
  have HR := Lib.hid (And.intro R0 (And.intro R1 (And.intro R2 r3)))
  clear r0 r1 r2 r3 R0 R1 R2
  go_enter Tryd.func21, Tryd.ntmps21
  go_wp2_with fail
  refine Calls.mono (HK.out _) ?_
  rintro e w1 ⟨rfl, hb1⟩
  obtain ⟨a0, a1, a2, a3⟩ := HR.out
  replace a0 := a0.on hb1
  replace a1 := a1.on hb1
  replace a2 := a2.on hb1
  replace a3 := a3.on hb1
  have hc1 : Below w.heap.size w w1 := under hb1
  clear hb1 HR
  have c1 := a1.cell
  go_wp2_with fail
  refine Calls.mono (HW.out _) ?_
  rintro e w2 ⟨rfl, hb2⟩
  clear c1
  replace a0 := a0.on hb2
  replace a1 := a1.on hb2
  replace a2 := a2.on hb2
  replace a3 := a3.on hb2
  have hc2 : Below w.heap.size w w2 := chain hc1 hb2
  clear hb2 hc1
  have z0 := a0.lt
  have z1 := a1.lt
  have z2 := a2.lt
  have z3 := a3.lt
  have c0 := a0.cell
  have d0 := a0.free
  have c1 := a1.cell
  go_wp2_with fail
  clear c0 d0 c1 z0 z1
  have b0 := (a0.set 1 (.int .i64 s)).set 2 (.int .u32 g)
  simp only [obC, List.setIfInBounds_toArray, List.set_cons_succ, List.set_cons_zero] at b0
  have b2 := (a2.other (y := w.heap.size) (by omega) 1 (.int .i64 s)).other (y := w.heap.size) (by omega) 2 (.int .u32 g)
  have b3 := (a3.other (y := w.heap.size) (by omega) 1 (.int .i64 s)).other (y := w.heap.size) (by omega) 2 (.int .u32 g)
  have hcb : Below w.heap.size w ((w2.setCell ⟨w.heap.size, 1, none⟩ (.int .i64 s)).setCell ⟨w.heap.size, 2, none⟩ (.int .u32 g)) := (hc2.setCell (p := ⟨w.heap.size, 1, none⟩) (by simp) _).setCell (p := ⟨w.heap.size, 2, none⟩) (by simp) _
  have b4 : Row (((w2.setCell ⟨w.heap.size, 1, none⟩ (.int .i64 s)).setCell ⟨w.heap.size, 2, none⟩ (.int .u32 g)).alloc (.cells (refC s0 g0) 24)) w2.heap.size (refC s0 g0) 24 := by simpa using Row.new (W := (w2.setCell ⟨w.heap.size, 1, none⟩ (.int .i64 s)).setCell ⟨w.heap.size, 2, none⟩ (.int .u32 g)) (cs := refC s0 g0) (t := 24)
  replace b0 := b0.on (below_alloc _ (.cells (refC s0 g0) 24))
  replace b2 := b2.on (below_alloc _ (.cells (refC s0 g0) 24))
  replace b3 := b3.on (below_alloc _ (.cells (refC s0 g0) 24))
  replace hcb : Below w.heap.size w (((w2.setCell ⟨w.heap.size, 1, none⟩ (.int .i64 s)).setCell ⟨w.heap.size, 2, none⟩ (.int .u32 g)).alloc (.cells (refC s0 g0) 24)) := hcb.alloc (by simpa using hc2.size) _
  clear a0 a1 a2 a3 hc2
  generalize hW : (((w2.setCell ⟨w.heap.size, 1, none⟩ (.int .i64 s)).setCell ⟨w.heap.size, 2, none⟩ (.int .u32 g)).alloc (.cells (refC s0 g0) 24)) = W5 at *
  clear hW
  have q2 : w.heap.size + 1 + 1 ≠ w.heap.size := by omega
  have q3 : w.heap.size + 1 + 1 + 1 ≠ w.heap.size := by omega
  have q4 : w.heap.size + 1 + 1 ≠ w2.heap.size := by omega
  have q5 : w.heap.size + 1 + 1 + 1 ≠ w2.heap.size := by omega
  have q6 : w.heap.size + 1 + 1 ≠ w.heap.size + 1 + 1 + 1 := by omega
  have q7 : w.heap.size + 1 + 1 + 1 ≠ w.heap.size + 1 + 1 := by omega
  have y2 := b2.cell
  have x2 := b2.free
  have y3 := b3.cell
  have x3 := b3.free
  refine wp_region_held_drew (S := fun W' => (∀ j, W'.cell? ⟨w.heap.size, j, none⟩ = (obC n s g s1 g1 s2 g2 s3 g3 h)[j]?) ∧ (∀ j, W'.cell? ⟨w2.heap.size, j, none⟩ = (refC s0 g0)[j]?)) (by kernel_rfl) ?_ (fun hHeld => ?_)
  · exact ⟨b0.cell, b4.cell⟩
  refine' wpAnyH_take (i := 0) (oi := _) (v := _) ?_ (by kernel_rfl) (by kernel_rfl) (by kernel_rfl) ?_ (Or.inl ⟨?_, ?_⟩) (by assumption) ?_
  rotate_left 2
  · (simp only [List.getElem?_toArray, List.getElem?_cons_succ, List.getElem?_cons_zero]; rfl)
  · first | exact fun _ _ _ h => h | exact fun _ _ _ h => nomatch h.1
  · rfl
  · (intro W hSW; (try dsimp only at hSW); go_split_ands; first | (go_simp; done) | (go_simp; with_reducible rfl))
  try simp only [Act.put, List.setIfInBounds_toArray, List.set_cons_zero, List.set_cons_succ]
  refine' wpAnyH_take (i := 1) (oi := _) (v := _) ?_ (by kernel_rfl) (by kernel_rfl) (by kernel_rfl) ?_ (Or.inl ⟨?_, ?_⟩) (by assumption) ?_
  rotate_left 2
  · (simp only [List.getElem?_toArray, List.getElem?_cons_succ, List.getElem?_cons_zero]; rfl)
  · first | exact fun _ _ _ h => h | exact fun _ _ _ h => nomatch h.1
  · rfl
  · (intro W hSW; (try dsimp only at hSW); go_split_ands; first | (go_simp; done) | (go_simp; with_reducible rfl))
  try simp only [Act.put, List.setIfInBounds_toArray, List.set_cons_zero, List.set_cons_succ]
  refine wpAnyH_ready (rs := [2]) (by kernel_rfl) (by simp) ?_
  refine' AllReadyH.cons (o := _) ?_ (fun K hK => ?_) AllReadyH.nil
  rotate_left 1
  · (simp only [List.getElem?_toArray, List.getElem?_cons_succ, List.getElem?_cons_zero]; rfl)
  go_simp
  have e0 := ((((((((((b0.other q2 0 (.int .i64 n)).other q2 1 (.int .i64 s)).other q2 2 (.int .u32 g)).other q2 3 (.int .i64 s1)).other q2 4 (.int .u32 g1)).other q2 5 (.int .i64 s2)).other q2 6 (.int .u32 g2)).other q2 7 (.int .i64 s3)).other q2 8 (.int .u32 g3)).other q2 9 (.bool h)).drew
  have e4 := ((((((((((b4.other q4 0 (.int .i64 n)).other q4 1 (.int .i64 s)).other q4 2 (.int .u32 g)).other q4 3 (.int .i64 s1)).other q4 4 (.int .u32 g1)).other q4 5 (.int .i64 s2)).other q4 6 (.int .u32 g2)).other q4 7 (.int .i64 s3)).other q4 8 (.int .u32 g3)).other q4 9 (.bool h)).drew
  have e3 := ((((((((((b3.other q6 0 (.int .i64 n)).other q6 1 (.int .i64 s)).other q6 2 (.int .u32 g)).other q6 3 (.int .i64 s1)).other q6 4 (.int .u32 g1)).other q6 5 (.int .i64 s2)).other q6 6 (.int .u32 g2)).other q6 7 (.int .i64 s3)).other q6 8 (.int .u32 g3)).other q6 9 (.bool h)).drew
  have e2 := ((((((((((b2.set 0 (.int .i64 n)).set 1 (.int .i64 s)).set 2 (.int .u32 g)).set 3 (.int .i64 s1)).set 4 (.int .u32 g1)).set 5 (.int .i64 s2)).set 6 (.int .u32 g2)).set 7 (.int .i64 s3)).set 8 (.int .u32 g3)).set 9 (.bool h)).drew
  have ecb : Below w.heap.size w ((((((((((W5.setCell ⟨w.heap.size + 1 + 1, 0, none⟩ (.int .i64 n)).setCell ⟨w.heap.size + 1 + 1, 1, none⟩ (.int .i64 s)).setCell ⟨w.heap.size + 1 + 1, 2, none⟩ (.int .u32 g)).setCell ⟨w.heap.size + 1 + 1, 3, none⟩ (.int .i64 s1)).setCell ⟨w.heap.size + 1 + 1, 4, none⟩ (.int .u32 g1)).setCell ⟨w.heap.size + 1 + 1, 5, none⟩ (.int .i64 s2)).setCell ⟨w.heap.size + 1 + 1, 6, none⟩ (.int .u32 g2)).setCell ⟨w.heap.size + 1 + 1, 7, none⟩ (.int .i64 s3)).setCell ⟨w.heap.size + 1 + 1, 8, none⟩ (.int .u32 g3)).setCell ⟨w.heap.size + 1 + 1, 9, none⟩ (.bool h)).drew := Below.drew (((((((((((hcb.setCell (p := ⟨w.heap.size + 1 + 1, 0, none⟩) (by simp; omega) _).setCell (p := ⟨w.heap.size + 1 + 1, 1, none⟩) (by simp; omega) _).setCell (p := ⟨w.heap.size + 1 + 1, 2, none⟩) (by simp; omega) _).setCell (p := ⟨w.heap.size + 1 + 1, 3, none⟩) (by simp; omega) _).setCell (p := ⟨w.heap.size + 1 + 1, 4, none⟩) (by simp; omega) _).setCell (p := ⟨w.heap.size + 1 + 1, 5, none⟩) (by simp; omega) _).setCell (p := ⟨w.heap.size + 1 + 1, 6, none⟩) (by simp; omega) _).setCell (p := ⟨w.heap.size + 1 + 1, 7, none⟩) (by simp; omega) _).setCell (p := ⟨w.heap.size + 1 + 1, 8, none⟩) (by simp; omega) _).setCell (p := ⟨w.heap.size + 1 + 1, 9, none⟩) (by simp; omega) _))
  refine hK.out _ _ ⟨e0.cell, e4.cell⟩ (fun hHeld => ?_)
  clear hK K
  simp only [ob0C, List.setIfInBounds_toArray, List.set_cons_succ, List.set_cons_zero] at e2
  clear b0 b2 b3 b4 y2 x2 y3 x3 hcb
  generalize hW : ((((((((((W5.setCell ⟨w.heap.size + 1 + 1, 0, none⟩ (.int .i64 n)).setCell ⟨w.heap.size + 1 + 1, 1, none⟩ (.int .i64 s)).setCell ⟨w.heap.size + 1 + 1, 2, none⟩ (.int .u32 g)).setCell ⟨w.heap.size + 1 + 1, 3, none⟩ (.int .i64 s1)).setCell ⟨w.heap.size + 1 + 1, 4, none⟩ (.int .u32 g1)).setCell ⟨w.heap.size + 1 + 1, 5, none⟩ (.int .i64 s2)).setCell ⟨w.heap.size + 1 + 1, 6, none⟩ (.int .u32 g2)).setCell ⟨w.heap.size + 1 + 1, 7, none⟩ (.int .i64 s3)).setCell ⟨w.heap.size + 1 + 1, 8, none⟩ (.int .u32 g3)).setCell ⟨w.heap.size + 1 + 1, 9, none⟩ (.bool h)).drew = W6 at *
  clear hW
  have y3 := e3.cell
  have x3 := e3.free
  refine wpAnyH_ready (rs := [3]) (by kernel_rfl) (by simp) ?_
  refine' AllReadyH.cons (o := _) ?_ (fun K hK => ?_) AllReadyH.nil
  rotate_left 1
  · (simp only [List.getElem?_toArray, List.getElem?_cons_succ, List.getElem?_cons_zero]; rfl)
  go_simp
  have i0 := ((e0.other q3 0 (.int .i64 s0)).other q3 1 (.int .u32 g0))
  have i4 := ((e4.other q5 0 (.int .i64 s0)).other q5 1 (.int .u32 g0))
  have i2 := ((e2.other q7 0 (.int .i64 s0)).other q7 1 (.int .u32 g0))
  have i3 := ((e3.set 0 (.int .i64 s0)).set 1 (.int .u32 g0))
  have icb : Below w.heap.size w ((W6.setCell ⟨w.heap.size + 1 + 1 + 1, 0, none⟩ (.int .i64 s0)).setCell ⟨w.heap.size + 1 + 1 + 1, 1, none⟩ (.int .u32 g0)) := ((ecb.setCell (p := ⟨w.heap.size + 1 + 1 + 1, 0, none⟩) (by simp; omega) _).setCell (p := ⟨w.heap.size + 1 + 1 + 1, 1, none⟩) (by simp; omega) _)
  refine hK.out _ _ ⟨i0.cell, i4.cell⟩ (fun hHeld => ?_)
  clear hK K
  simp only [refC, List.setIfInBounds_toArray, List.set_cons_succ, List.set_cons_zero] at i3
  clear e0 e2 e3 e4 y3 x3 ecb
  generalize hW : ((W6.setCell ⟨w.heap.size + 1 + 1 + 1, 0, none⟩ (.int .i64 s0)).setCell ⟨w.heap.size + 1 + 1 + 1, 1, none⟩ (.int .u32 g0)) = W7 at *
  clear hW
  refine' wpAnyH_take (i := 4) (oi := _) (v := _) ?_ (by kernel_rfl) (by kernel_rfl) (by kernel_rfl) ?_ (Or.inl ⟨?_, ?_⟩) (by assumption) ?_
  rotate_left 2
  · (simp only [List.getElem?_toArray, List.getElem?_cons_succ, List.getElem?_cons_zero]; rfl)
  · first | exact fun _ _ _ h => h | exact fun _ _ _ h => nomatch h.1
  · rfl
  · (intro W hSW; (try dsimp only at hSW); go_split_ands; first | (go_simp; done) | (go_simp; with_reducible rfl))
  try simp only [Act.put, List.setIfInBounds_toArray, List.set_cons_zero, List.set_cons_succ]
  refine wpAnyH_done (by kernel_rfl) ?_ _
  go_wp2_with fail
  have y2 := i2.cell
  have y3 := i3.cell
  refine bodyPost_ret (v := .tuple #[obV n s g s1 g1 s2 g2 s3 g3 h, refV s0 g0, .int .i64 0]) (by simp [results, Tryd.results21, go_sem, y2, y3]) rfl ⟨rfl, icb⟩
set_option maxHeartbeats 16000000 in
set_option maxRecDepth 20000 in
theorem fset_ok1 (n s0 g0 s1 g1 s2 g2 s3 g3 : Int) (h : Bool) (s g : Int) (w : World) (hk : ∀ w, Ret 13 #[obV n s0 g0 s1 g1 s2 g2 s3 g3 h] w (.int .i64 0)) (hw : ∀ w, Ret 31 #[refV s g] w (.bool false)) (hi : 1 < n) :
    Ret 21 #[obV n s0 g0 s1 g1 s2 g2 s3 g3 h, .int .i64 1, refV s g] w (.tuple #[obV n s0 g0 s g s2 g2 s3 g3 h, refV s1 g1, .int .i64 0]) := by
  have HK := Lib.hid hk
  have HW := Lib.hid hw
  clear hk hw
  have r0 : Row (w.alloc (.cells (obC n s0 g0 s1 g1 s2 g2 s3 g3 h) 27)) w.heap.size (obC n s0 g0 s1 g1 s2 g2 s3 g3 h) 27 := Row.new
  have r1 : Row ((w.alloc (.cells (obC n s0 g0 s1 g1 s2 g2 s3 g3 h) 27)).alloc (.cells (refC s g) 24)) (w.heap.size + 1) (refC s g) 24 := by simpa using Row.new (W := w.alloc (.cells (obC n s0 g0 s1 g1 s2 g2 s3 g3 h) 27)) (cs := refC s g) (t := 24)
  have r2 : Row (((w.alloc (.cells (obC n s0 g0 s1 g1 s2 g2 s3 g3 h) 27)).alloc (.cells (refC s g) 24)).alloc (.cells ob0C 27)) (w.heap.size + 1 + 1) ob0C 27 := by simpa using Row.new (W := (w.alloc (.cells (obC n s0 g0 s1 g1 s2 g2 s3 g3 h) 27)).alloc (.cells (refC s g) 24)) (cs := ob0C) (t := 27)
  have r3 : Row ((((w.alloc (.cells (obC n s0 g0 s1 g1 s2 g2 s3 g3 h) 27)).alloc (.cells (refC s g) 24)).alloc (.cells ob0C 27)).alloc (.cells (refC 0 0) 24)) (w.heap.size + 1 + 1 + 1) (refC 0 0) 24 := by simpa using Row.new (W := ((w.alloc (.cells (obC n s0 g0 s1 g1 s2 g2 s3 g3 h) 27)).alloc (.cells (refC s g) 24)).alloc (.cells ob0C 27)) (cs := refC 0 0) (t := 24)
  have R0 := ((r0.on (below_alloc _ (.cells (refC s g) 24))).on (below_alloc _ (.cells ob0C 27))).on (below_alloc _ (.cells (refC 0 0) 24))
  have R1 := (r1.on (below_alloc _ (.cells ob0C 27))).on (below_alloc _ (.cells (refC 0 0) 24))
  have R2 := r2.on (below_alloc _ (.cells (refC 0 0) 24))
  have HR := Lib.hid (And.intro R0 (And.intro R1 (And.intro R2 r3)))
  clear r0 r1 r2 r3 R0 R1 R2
  go_enter Tryd.func21, Tryd.ntmps21
  go_wp2_with fail
  refine Calls.mono (HK.out _) ?_
  rintro e w1 ⟨rfl, hb1⟩
  obtain ⟨a0, a1, a2, a3⟩ := HR.out
  replace a0 := a0.on hb1
  replace a1 := a1.on hb1
  replace a2 := a2.on hb1
  replace a3 := a3.on hb1
  have hc1 : Below w.heap.size w w1 := under hb1
  clear hb1 HR
  have c1 := a1.cell
  go_wp2_with fail
  refine Calls.mono (HW.out _) ?_
  rintro e w2 ⟨rfl, hb2⟩
  clear c1
  replace a0 := a0.on hb2
  replace a1 := a1.on hb2
  replace a2 := a2.on hb2
  replace a3 := a3.on hb2
  have hc2 : Below w.heap.size w w2 := chain hc1 hb2
  clear hb2 hc1
  have z0 := a0.lt
  have z1 := a1.lt
  have z2 := a2.lt
  have z3 := a3.lt
  have c0 := a0.cell
  have d0 := a0.free
  have c1 := a1.cell
  go_wp2_with fail
  clear c0 d0 c1 z0 z1
  have b0 := (a0.set 3 (.int .i64 s)).set 4 (.int .u32 g)
  simp only [obC, List.setIfInBounds_toArray, List.set_cons_succ, List.set_cons_zero] at b0
  have b2 := (a2.other (y := w.heap.size) (by omega) 3 (.int .i64 s)).other (y := w.heap.size) (by omega) 4 (.int .u32 g)
  have b3 := (a3.other (y := w.heap.size) (by omega) 3 (.int .i64 s)).other (y := w.heap.size) (by omega) 4 (.int .u32 g)
  have hcb : Below w.heap.size w ((w2.setCell ⟨w.heap.size, 3, none⟩ (.int .i64 s)).setCell ⟨w.heap.size, 4, none⟩ (.int .u32 g)) := (hc2.setCell (p := ⟨w.heap.size, 3, none⟩) (by simp) _).setCell (p := ⟨w.heap.size, 4, none⟩) (by simp) _
  have b4 : Row (((w2.setCell ⟨w.heap.size, 3, none⟩ (.int .i64 s)).setCell ⟨w.heap.size, 4, none⟩ (.int .u32 g)).alloc (.cells (refC s1 g1) 24)) w2.heap.size (refC s1 g1) 24 := by simpa using Row.new (W := (w2.setCell ⟨w.heap.size, 3, none⟩ (.int .i64 s)).setCell ⟨w.heap.size, 4, none⟩ (.int .u32 g)) (cs := refC s1 g1) (t := 24)
  replace b0 := b0.on (below_alloc _ (.cells (refC s1 g1) 24))
  replace b2 := b2.on (below_alloc _ (.cells (refC s1 g1) 24))
  replace b3 := b3.on (below_alloc _ (.cells (refC s1 g1) 24))
  replace hcb : Below w.heap.size w (((w2.setCell ⟨w.heap.size, 3, none⟩ (.int .i64 s)).setCell ⟨w.heap.size, 4, none⟩ (.int .u32 g)).alloc (.cells (refC s1 g1) 24)) := hcb.alloc (by simpa using hc2.size) _
  clear a0 a1 a2 a3 hc2
  generalize hW : (((w2.setCell ⟨w.heap.size, 3, none⟩ (.int .i64 s)).setCell ⟨w.heap.size, 4, none⟩ (.int .u32 g)).alloc (.cells (refC s1 g1) 24)) = W5 at *
  clear hW
  have q2 : w.heap.size + 1 + 1 ≠ w.heap.size := by omega
  have q3 : w.heap.size + 1 + 1 + 1 ≠ w.heap.size := by omega
  have q4 : w.heap.size + 1 + 1 ≠ w2.heap.size := by omega
  have q5 : w.heap.size + 1 + 1 + 1 ≠ w2.heap.size := by omega
  have q6 : w.heap.size + 1 + 1 ≠ w.heap.size + 1 + 1 + 1 := by omega
  have q7 : w.heap.size + 1 + 1 + 1 ≠ w.heap.size + 1 + 1 := by omega
  have y2 := b2.cell
  have x2 := b2.free
  have y3 := b3.cell
  have x3 := b3.free
  refine wp_region_held_drew (S := fun W' => (∀ j, W'.cell? ⟨w.heap.size, j, none⟩ = (obC n s0 g0 s g s2 g2 s3 g3 h)[j]?) ∧ (∀ j, W'.cell? ⟨w2.heap.size, j, none⟩ = (refC s1 g1)[j]?)) (by kernel_rfl) ?_ (fun hHeld => ?_)
  · exact ⟨b0.cell, b4.cell⟩
  refine' wpAnyH_take (i := 0) (oi := _) (v := _) ?_ (by kernel_rfl) (by kernel_rfl) (by kernel_rfl) ?_ (Or.inl ⟨?_, ?_⟩) (by assumption) ?_
  rotate_left 2
  · (simp only [List.getElem?_toArray, List.getElem?_cons_succ, List.getElem?_cons_zero]; rfl)
  · first | exact fun _ _ _ h => h | exact fun _ _ _ h => nomatch h.1
  · rfl
  · (intro W hSW; (try dsimp only at hSW); go_split_ands; first | (go_simp; done) | (go_simp; with_reducible rfl))
  try simp only [Act.put, List.setIfInBounds_toArray, List.set_cons_zero, List.set_cons_succ]
  refine' wpAnyH_take (i := 1) (oi := _) (v := _) ?_ (by kernel_rfl) (by kernel_rfl) (by kernel_rfl) ?_ (Or.inl ⟨?_, ?_⟩) (by assumption) ?_
  rotate_left 2
  · (simp only [List.getElem?_toArray, List.getElem?_cons_succ, List.getElem?_cons_zero]; rfl)
  · first | exact fun _ _ _ h => h | exact fun _ _ _ h => nomatch h.1
  · rfl
  · (intro W hSW; (try dsimp only at hSW); go_split_ands; first | (go_simp; done) | (go_simp; with_reducible rfl))
  try simp only [Act.put, List.setIfInBounds_toArray, List.set_cons_zero, List.set_cons_succ]
  refine wpAnyH_ready (rs := [2]) (by kernel_rfl) (by simp) ?_
  refine' AllReadyH.cons (o := _) ?_ (fun K hK => ?_) AllReadyH.nil
  rotate_left 1
  · (simp only [List.getElem?_toArray, List.getElem?_cons_succ, List.getElem?_cons_zero]; rfl)
  go_simp
  have e0 := ((((((((((b0.other q2 0 (.int .i64 n)).other q2 1 (.int .i64 s0)).other q2 2 (.int .u32 g0)).other q2 3 (.int .i64 s)).other q2 4 (.int .u32 g)).other q2 5 (.int .i64 s2)).other q2 6 (.int .u32 g2)).other q2 7 (.int .i64 s3)).other q2 8 (.int .u32 g3)).other q2 9 (.bool h)).drew
  have e4 := ((((((((((b4.other q4 0 (.int .i64 n)).other q4 1 (.int .i64 s0)).other q4 2 (.int .u32 g0)).other q4 3 (.int .i64 s)).other q4 4 (.int .u32 g)).other q4 5 (.int .i64 s2)).other q4 6 (.int .u32 g2)).other q4 7 (.int .i64 s3)).other q4 8 (.int .u32 g3)).other q4 9 (.bool h)).drew
  have e3 := ((((((((((b3.other q6 0 (.int .i64 n)).other q6 1 (.int .i64 s0)).other q6 2 (.int .u32 g0)).other q6 3 (.int .i64 s)).other q6 4 (.int .u32 g)).other q6 5 (.int .i64 s2)).other q6 6 (.int .u32 g2)).other q6 7 (.int .i64 s3)).other q6 8 (.int .u32 g3)).other q6 9 (.bool h)).drew
  have e2 := ((((((((((b2.set 0 (.int .i64 n)).set 1 (.int .i64 s0)).set 2 (.int .u32 g0)).set 3 (.int .i64 s)).set 4 (.int .u32 g)).set 5 (.int .i64 s2)).set 6 (.int .u32 g2)).set 7 (.int .i64 s3)).set 8 (.int .u32 g3)).set 9 (.bool h)).drew
  have ecb : Below w.heap.size w ((((((((((W5.setCell ⟨w.heap.size + 1 + 1, 0, none⟩ (.int .i64 n)).setCell ⟨w.heap.size + 1 + 1, 1, none⟩ (.int .i64 s0)).setCell ⟨w.heap.size + 1 + 1, 2, none⟩ (.int .u32 g0)).setCell ⟨w.heap.size + 1 + 1, 3, none⟩ (.int .i64 s)).setCell ⟨w.heap.size + 1 + 1, 4, none⟩ (.int .u32 g)).setCell ⟨w.heap.size + 1 + 1, 5, none⟩ (.int .i64 s2)).setCell ⟨w.heap.size + 1 + 1, 6, none⟩ (.int .u32 g2)).setCell ⟨w.heap.size + 1 + 1, 7, none⟩ (.int .i64 s3)).setCell ⟨w.heap.size + 1 + 1, 8, none⟩ (.int .u32 g3)).setCell ⟨w.heap.size + 1 + 1, 9, none⟩ (.bool h)).drew := Below.drew (((((((((((hcb.setCell (p := ⟨w.heap.size + 1 + 1, 0, none⟩) (by simp; omega) _).setCell (p := ⟨w.heap.size + 1 + 1, 1, none⟩) (by simp; omega) _).setCell (p := ⟨w.heap.size + 1 + 1, 2, none⟩) (by simp; omega) _).setCell (p := ⟨w.heap.size + 1 + 1, 3, none⟩) (by simp; omega) _).setCell (p := ⟨w.heap.size + 1 + 1, 4, none⟩) (by simp; omega) _).setCell (p := ⟨w.heap.size + 1 + 1, 5, none⟩) (by simp; omega) _).setCell (p := ⟨w.heap.size + 1 + 1, 6, none⟩) (by simp; omega) _).setCell (p := ⟨w.heap.size + 1 + 1, 7, none⟩) (by simp; omega) _).setCell (p := ⟨w.heap.size + 1 + 1, 8, none⟩) (by simp; omega) _).setCell (p := ⟨w.heap.size + 1 + 1, 9, none⟩) (by simp; omega) _))
  refine hK.out _ _ ⟨e0.cell, e4.cell⟩ (fun hHeld => ?_)
  clear hK K
  simp only [ob0C, List.setIfInBounds_toArray, List.set_cons_succ, List.set_cons_zero] at e2
  clear b0 b2 b3 b4 y2 x2 y3 x3 hcb
  generalize hW : ((((((((((W5.setCell ⟨w.heap.size + 1 + 1, 0, none⟩ (.int .i64 n)).setCell ⟨w.heap.size + 1 + 1, 1, none⟩ (.int .i64 s0)).setCell ⟨w.heap.size + 1 + 1, 2, none⟩ (.int .u32 g0)).setCell ⟨w.heap.size + 1 + 1, 3, none⟩ (.int .i64 s)).setCell ⟨w.heap.size + 1 + 1, 4, none⟩ (.int .u32 g)).setCell ⟨w.heap.size + 1 + 1, 5, none⟩ (.int .i64 s2)).setCell ⟨w.heap.size + 1 + 1, 6, none⟩ (.int .u32 g2)).setCell ⟨w.heap.size + 1 + 1, 7, none⟩ (.int .i64 s3)).setCell ⟨w.heap.size + 1 + 1, 8, none⟩ (.int .u32 g3)).setCell ⟨w.heap.size + 1 + 1, 9, none⟩ (.bool h)).drew = W6 at *
  clear hW
  have y3 := e3.cell
  have x3 := e3.free
  refine wpAnyH_ready (rs := [3]) (by kernel_rfl) (by simp) ?_
  refine' AllReadyH.cons (o := _) ?_ (fun K hK => ?_) AllReadyH.nil
  rotate_left 1
  · (simp only [List.getElem?_toArray, List.getElem?_cons_succ, List.getElem?_cons_zero]; rfl)
  go_simp
  have i0 := ((e0.other q3 0 (.int .i64 s1)).other q3 1 (.int .u32 g1))
  have i4 := ((e4.other q5 0 (.int .i64 s1)).other q5 1 (.int .u32 g1))
  have i2 := ((e2.other q7 0 (.int .i64 s1)).other q7 1 (.int .u32 g1))
  have i3 := ((e3.set 0 (.int .i64 s1)).set 1 (.int .u32 g1))
  have icb : Below w.heap.size w ((W6.setCell ⟨w.heap.size + 1 + 1 + 1, 0, none⟩ (.int .i64 s1)).setCell ⟨w.heap.size + 1 + 1 + 1, 1, none⟩ (.int .u32 g1)) := ((ecb.setCell (p := ⟨w.heap.size + 1 + 1 + 1, 0, none⟩) (by simp; omega) _).setCell (p := ⟨w.heap.size + 1 + 1 + 1, 1, none⟩) (by simp; omega) _)
  refine hK.out _ _ ⟨i0.cell, i4.cell⟩ (fun hHeld => ?_)
  clear hK K
  simp only [refC, List.setIfInBounds_toArray, List.set_cons_succ, List.set_cons_zero] at i3
  clear e0 e2 e3 e4 y3 x3 ecb
  generalize hW : ((W6.setCell ⟨w.heap.size + 1 + 1 + 1, 0, none⟩ (.int .i64 s1)).setCell ⟨w.heap.size + 1 + 1 + 1, 1, none⟩ (.int .u32 g1)) = W7 at *
  clear hW
  refine' wpAnyH_take (i := 4) (oi := _) (v := _) ?_ (by kernel_rfl) (by kernel_rfl) (by kernel_rfl) ?_ (Or.inl ⟨?_, ?_⟩) (by assumption) ?_
  rotate_left 2
  · (simp only [List.getElem?_toArray, List.getElem?_cons_succ, List.getElem?_cons_zero]; rfl)
  · first | exact fun _ _ _ h => h | exact fun _ _ _ h => nomatch h.1
  · rfl
  · (intro W hSW; (try dsimp only at hSW); go_split_ands; first | (go_simp; done) | (go_simp; with_reducible rfl))
  try simp only [Act.put, List.setIfInBounds_toArray, List.set_cons_zero, List.set_cons_succ]
  refine wpAnyH_done (by kernel_rfl) ?_ _
  go_wp2_with fail
  have y2 := i2.cell
  have y3 := i3.cell
  refine bodyPost_ret (v := .tuple #[obV n s0 g0 s g s2 g2 s3 g3 h, refV s1 g1, .int .i64 0]) (by simp [results, Tryd.results21, go_sem, y2, y3]) rfl ⟨rfl, icb⟩
set_option maxHeartbeats 16000000 in
set_option maxRecDepth 20000 in
theorem fset_ok2 (n s0 g0 s1 g1 s2 g2 s3 g3 : Int) (h : Bool) (s g : Int) (w : World) (hk : ∀ w, Ret 13 #[obV n s0 g0 s1 g1 s2 g2 s3 g3 h] w (.int .i64 0)) (hw : ∀ w, Ret 31 #[refV s g] w (.bool false)) (hi : 2 < n) :
    Ret 21 #[obV n s0 g0 s1 g1 s2 g2 s3 g3 h, .int .i64 2, refV s g] w (.tuple #[obV n s0 g0 s1 g1 s g s3 g3 h, refV s2 g2, .int .i64 0]) := by
  have HK := Lib.hid hk
  have HW := Lib.hid hw
  clear hk hw
  have r0 : Row (w.alloc (.cells (obC n s0 g0 s1 g1 s2 g2 s3 g3 h) 27)) w.heap.size (obC n s0 g0 s1 g1 s2 g2 s3 g3 h) 27 := Row.new
  have r1 : Row ((w.alloc (.cells (obC n s0 g0 s1 g1 s2 g2 s3 g3 h) 27)).alloc (.cells (refC s g) 24)) (w.heap.size + 1) (refC s g) 24 := by simpa using Row.new (W := w.alloc (.cells (obC n s0 g0 s1 g1 s2 g2 s3 g3 h) 27)) (cs := refC s g) (t := 24)
  have r2 : Row (((w.alloc (.cells (obC n s0 g0 s1 g1 s2 g2 s3 g3 h) 27)).alloc (.cells (refC s g) 24)).alloc (.cells ob0C 27)) (w.heap.size + 1 + 1) ob0C 27 := by simpa using Row.new (W := (w.alloc (.cells (obC n s0 g0 s1 g1 s2 g2 s3 g3 h) 27)).alloc (.cells (refC s g) 24)) (cs := ob0C) (t := 27)
  have r3 : Row ((((w.alloc (.cells (obC n s0 g0 s1 g1 s2 g2 s3 g3 h) 27)).alloc (.cells (refC s g) 24)).alloc (.cells ob0C 27)).alloc (.cells (refC 0 0) 24)) (w.heap.size + 1 + 1 + 1) (refC 0 0) 24 := by simpa using Row.new (W := ((w.alloc (.cells (obC n s0 g0 s1 g1 s2 g2 s3 g3 h) 27)).alloc (.cells (refC s g) 24)).alloc (.cells ob0C 27)) (cs := refC 0 0) (t := 24)
  have R0 := ((r0.on (below_alloc _ (.cells (refC s g) 24))).on (below_alloc _ (.cells ob0C 27))).on (below_alloc _ (.cells (refC 0 0) 24))
  have R1 := (r1.on (below_alloc _ (.cells ob0C 27))).on (below_alloc _ (.cells (refC 0 0) 24))
  have R2 := r2.on (below_alloc _ (.cells (refC 0 0) 24))
  have HR := Lib.hid (And.intro R0 (And.intro R1 (And.intro R2 r3)))
  clear r0 r1 r2 r3 R0 R1 R2
  go_enter Tryd.func21, Tryd.ntmps21
  go_wp2_with fail
  refine Calls.mono (HK.out _) ?_
  rintro e w1 ⟨rfl, hb1⟩
  obtain ⟨a0, a1, a2, a3⟩ := HR.out
  replace a0 := a0.on hb1
  replace a1 := a1.on hb1
  replace a2 := a2.on hb1
  replace a3 := a3.on hb1
  have hc1 : Below w.heap.size w w1 := under hb1
  clear hb1 HR
  have c1 := a1.cell
  go_wp2_with fail
  refine Calls.mono (HW.out _) ?_
  rintro e w2 ⟨rfl, hb2⟩
  clear c1
  replace a0 := a0.on hb2
  replace a1 := a1.on hb2
  replace a2 := a2.on hb2
  replace a3 := a3.on hb2
  have hc2 : Below w.heap.size w w2 := chain hc1 hb2
  clear hb2 hc1
  have z0 := a0.lt
  have z1 := a1.lt
  have z2 := a2.lt
  have z3 := a3.lt
  have c0 := a0.cell
  have d0 := a0.free
  have c1 := a1.cell
  go_wp2_with fail
  clear c0 d0 c1 z0 z1
  have b0 := (a0.set 5 (.int .i64 s)).set 6 (.int .u32 g)
  simp only [obC, List.setIfInBounds_toArray, List.set_cons_succ, List.set_cons_zero] at b0
  have b2 := (a2.other (y := w.heap.size) (by omega) 5 (.int .i64 s)).other (y := w.heap.size) (by omega) 6 (.int .u32 g)
  have b3 := (a3.other (y := w.heap.size) (by omega) 5 (.int .i64 s)).other (y := w.heap.size) (by omega) 6 (.int .u32 g)
  have hcb : Below w.heap.size w ((w2.setCell ⟨w.heap.size, 5, none⟩ (.int .i64 s)).setCell ⟨w.heap.size, 6, none⟩ (.int .u32 g)) := (hc2.setCell (p := ⟨w.heap.size, 5, none⟩) (by simp) _).setCell (p := ⟨w.heap.size, 6, none⟩) (by simp) _
  have b4 : Row (((w2.setCell ⟨w.heap.size, 5, none⟩ (.int .i64 s)).setCell ⟨w.heap.size, 6, none⟩ (.int .u32 g)).alloc (.cells (refC s2 g2) 24)) w2.heap.size (refC s2 g2) 24 := by simpa using Row.new (W := (w2.setCell ⟨w.heap.size, 5, none⟩ (.int .i64 s)).setCell ⟨w.heap.size, 6, none⟩ (.int .u32 g)) (cs := refC s2 g2) (t := 24)
  replace b0 := b0.on (below_alloc _ (.cells (refC s2 g2) 24))
  replace b2 := b2.on (below_alloc _ (.cells (refC s2 g2) 24))
  replace b3 := b3.on (below_alloc _ (.cells (refC s2 g2) 24))
  replace hcb : Below w.heap.size w (((w2.setCell ⟨w.heap.size, 5, none⟩ (.int .i64 s)).setCell ⟨w.heap.size, 6, none⟩ (.int .u32 g)).alloc (.cells (refC s2 g2) 24)) := hcb.alloc (by simpa using hc2.size) _
  clear a0 a1 a2 a3 hc2
  generalize hW : (((w2.setCell ⟨w.heap.size, 5, none⟩ (.int .i64 s)).setCell ⟨w.heap.size, 6, none⟩ (.int .u32 g)).alloc (.cells (refC s2 g2) 24)) = W5 at *
  clear hW
  have q2 : w.heap.size + 1 + 1 ≠ w.heap.size := by omega
  have q3 : w.heap.size + 1 + 1 + 1 ≠ w.heap.size := by omega
  have q4 : w.heap.size + 1 + 1 ≠ w2.heap.size := by omega
  have q5 : w.heap.size + 1 + 1 + 1 ≠ w2.heap.size := by omega
  have q6 : w.heap.size + 1 + 1 ≠ w.heap.size + 1 + 1 + 1 := by omega
  have q7 : w.heap.size + 1 + 1 + 1 ≠ w.heap.size + 1 + 1 := by omega
  have y2 := b2.cell
  have x2 := b2.free
  have y3 := b3.cell
  have x3 := b3.free
  refine wp_region_held_drew (S := fun W' => (∀ j, W'.cell? ⟨w.heap.size, j, none⟩ = (obC n s0 g0 s1 g1 s g s3 g3 h)[j]?) ∧ (∀ j, W'.cell? ⟨w2.heap.size, j, none⟩ = (refC s2 g2)[j]?)) (by kernel_rfl) ?_ (fun hHeld => ?_)
  · exact ⟨b0.cell, b4.cell⟩
  refine' wpAnyH_take (i := 0) (oi := _) (v := _) ?_ (by kernel_rfl) (by kernel_rfl) (by kernel_rfl) ?_ (Or.inl ⟨?_, ?_⟩) (by assumption) ?_
  rotate_left 2
  · (simp only [List.getElem?_toArray, List.getElem?_cons_succ, List.getElem?_cons_zero]; rfl)
  · first | exact fun _ _ _ h => h | exact fun _ _ _ h => nomatch h.1
  · rfl
  · (intro W hSW; (try dsimp only at hSW); go_split_ands; first | (go_simp; done) | (go_simp; with_reducible rfl))
  try simp only [Act.put, List.setIfInBounds_toArray, List.set_cons_zero, List.set_cons_succ]
  refine' wpAnyH_take (i := 1) (oi := _) (v := _) ?_ (by kernel_rfl) (by kernel_rfl) (by kernel_rfl) ?_ (Or.inl ⟨?_, ?_⟩) (by assumption) ?_
  rotate_left 2
  · (simp only [List.getElem?_toArray, List.getElem?_cons_succ, List.getElem?_cons_zero]; rfl)
  · first | exact fun _ _ _ h => h | exact fun _ _ _ h => nomatch h.1
  · rfl
  · (intro W hSW; (try dsimp only at hSW); go_split_ands; first | (go_simp; done) | (go_simp; with_reducible rfl))
  try simp only [Act.put, List.setIfInBounds_toArray, List.set_cons_zero, List.set_cons_succ]
  refine wpAnyH_ready (rs := [2]) (by kernel_rfl) (by simp) ?_
  refine' AllReadyH.cons (o := _) ?_ (fun K hK => ?_) AllReadyH.nil
  rotate_left 1
  · (simp only [List.getElem?_toArray, List.getElem?_cons_succ, List.getElem?_cons_zero]; rfl)
  go_simp
  have e0 := ((((((((((b0.other q2 0 (.int .i64 n)).other q2 1 (.int .i64 s0)).other q2 2 (.int .u32 g0)).other q2 3 (.int .i64 s1)).other q2 4 (.int .u32 g1)).other q2 5 (.int .i64 s)).other q2 6 (.int .u32 g)).other q2 7 (.int .i64 s3)).other q2 8 (.int .u32 g3)).other q2 9 (.bool h)).drew
  have e4 := ((((((((((b4.other q4 0 (.int .i64 n)).other q4 1 (.int .i64 s0)).other q4 2 (.int .u32 g0)).other q4 3 (.int .i64 s1)).other q4 4 (.int .u32 g1)).other q4 5 (.int .i64 s)).other q4 6 (.int .u32 g)).other q4 7 (.int .i64 s3)).other q4 8 (.int .u32 g3)).other q4 9 (.bool h)).drew
  have e3 := ((((((((((b3.other q6 0 (.int .i64 n)).other q6 1 (.int .i64 s0)).other q6 2 (.int .u32 g0)).other q6 3 (.int .i64 s1)).other q6 4 (.int .u32 g1)).other q6 5 (.int .i64 s)).other q6 6 (.int .u32 g)).other q6 7 (.int .i64 s3)).other q6 8 (.int .u32 g3)).other q6 9 (.bool h)).drew
  have e2 := ((((((((((b2.set 0 (.int .i64 n)).set 1 (.int .i64 s0)).set 2 (.int .u32 g0)).set 3 (.int .i64 s1)).set 4 (.int .u32 g1)).set 5 (.int .i64 s)).set 6 (.int .u32 g)).set 7 (.int .i64 s3)).set 8 (.int .u32 g3)).set 9 (.bool h)).drew
  have ecb : Below w.heap.size w ((((((((((W5.setCell ⟨w.heap.size + 1 + 1, 0, none⟩ (.int .i64 n)).setCell ⟨w.heap.size + 1 + 1, 1, none⟩ (.int .i64 s0)).setCell ⟨w.heap.size + 1 + 1, 2, none⟩ (.int .u32 g0)).setCell ⟨w.heap.size + 1 + 1, 3, none⟩ (.int .i64 s1)).setCell ⟨w.heap.size + 1 + 1, 4, none⟩ (.int .u32 g1)).setCell ⟨w.heap.size + 1 + 1, 5, none⟩ (.int .i64 s)).setCell ⟨w.heap.size + 1 + 1, 6, none⟩ (.int .u32 g)).setCell ⟨w.heap.size + 1 + 1, 7, none⟩ (.int .i64 s3)).setCell ⟨w.heap.size + 1 + 1, 8, none⟩ (.int .u32 g3)).setCell ⟨w.heap.size + 1 + 1, 9, none⟩ (.bool h)).drew := Below.drew (((((((((((hcb.setCell (p := ⟨w.heap.size + 1 + 1, 0, none⟩) (by simp; omega) _).setCell (p := ⟨w.heap.size + 1 + 1, 1, none⟩) (by simp; omega) _).setCell (p := ⟨w.heap.size + 1 + 1, 2, none⟩) (by simp; omega) _).setCell (p := ⟨w.heap.size + 1 + 1, 3, none⟩) (by simp; omega) _).setCell (p := ⟨w.heap.size + 1 + 1, 4, none⟩) (by simp; omega) _).setCell (p := ⟨w.heap.size + 1 + 1, 5, none⟩) (by simp; omega) _).setCell (p := ⟨w.heap.size + 1 + 1, 6, none⟩) (by simp; omega) _).setCell (p := ⟨w.heap.size + 1 + 1, 7, none⟩) (by simp; omega) _).setCell (p := ⟨w.heap.size + 1 + 1, 8, none⟩) (by simp; omega) _).setCell (p := ⟨w.heap.size + 1 + 1, 9, none⟩) (by simp; omega) _))
  refine hK.out _ _ ⟨e0.cell, e4.cell⟩ (fun hHeld => ?_)
  clear hK K
  simp only [ob0C, List.setIfInBounds_toArray, List.set_cons_succ, List.set_cons_zero] at e2
  clear b0 b2 b3 b4 y2 x2 y3 x3 hcb
  generalize hW : ((((((((((W5.setCell ⟨w.heap.size + 1 + 1, 0, none⟩ (.int .i64 n)).setCell ⟨w.heap.size + 1 + 1, 1, none⟩ (.int .i64 s0)).setCell ⟨w.heap.size + 1 + 1, 2, none⟩ (.int .u32 g0)).setCell ⟨w.heap.size + 1 + 1, 3, none⟩ (.int .i64 s1)).setCell ⟨w.heap.size + 1 + 1, 4, none⟩ (.int .u32 g1)).setCell ⟨w.heap.size + 1 + 1, 5, none⟩ (.int .i64 s)).setCell ⟨w.heap.size + 1 + 1, 6, none⟩ (.int .u32 g)).setCell ⟨w.heap.size + 1 + 1, 7, none⟩ (.int .i64 s3)).setCell ⟨w.heap.size + 1 + 1, 8, none⟩ (.int .u32 g3)).setCell ⟨w.heap.size + 1 + 1, 9, none⟩ (.bool h)).drew = W6 at *
  clear hW
  have y3 := e3.cell
  have x3 := e3.free
  refine wpAnyH_ready (rs := [3]) (by kernel_rfl) (by simp) ?_
  refine' AllReadyH.cons (o := _) ?_ (fun K hK => ?_) AllReadyH.nil
  rotate_left 1
  · (simp only [List.getElem?_toArray, List.getElem?_cons_succ, List.getElem?_cons_zero]; rfl)
  go_simp
  have i0 := ((e0.other q3 0 (.int .i64 s2)).other q3 1 (.int .u32 g2))
  have i4 := ((e4.other q5 0 (.int .i64 s2)).other q5 1 (.int .u32 g2))
  have i2 := ((e2.other q7 0 (.int .i64 s2)).other q7 1 (.int .u32 g2))
  have i3 := ((e3.set 0 (.int .i64 s2)).set 1 (.int .u32 g2))
  have icb : Below w.heap.size w ((W6.setCell ⟨w.heap.size + 1 + 1 + 1, 0, none⟩ (.int .i64 s2)).setCell ⟨w.heap.size + 1 + 1 + 1, 1, none⟩ (.int .u32 g2)) := ((ecb.setCell (p := ⟨w.heap.size + 1 + 1 + 1, 0, none⟩) (by simp; omega) _).setCell (p := ⟨w.heap.size + 1 + 1 + 1, 1, none⟩) (by simp; omega) _)
  refine hK.out _ _ ⟨i0.cell, i4.cell⟩ (fun hHeld => ?_)
  clear hK K
  simp only [refC, List.setIfInBounds_toArray, List.set_cons_succ, List.set_cons_zero] at i3
  clear e0 e2 e3 e4 y3 x3 ecb
  generalize hW : ((W6.setCell ⟨w.heap.size + 1 + 1 + 1, 0, none⟩ (.int .i64 s2)).setCell ⟨w.heap.size + 1 + 1 + 1, 1, none⟩ (.int .u32 g2)) = W7 at *
  clear hW
  refine' wpAnyH_take (i := 4) (oi := _) (v := _) ?_ (by kernel_rfl) (by kernel_rfl) (by kernel_rfl) ?_ (Or.inl ⟨?_, ?_⟩) (by assumption) ?_
  rotate_left 2
  · (simp only [List.getElem?_toArray, List.getElem?_cons_succ, List.getElem?_cons_zero]; rfl)
  · first | exact fun _ _ _ h => h | exact fun _ _ _ h => nomatch h.1
  · rfl
  · (intro W hSW; (try dsimp only at hSW); go_split_ands; first | (go_simp; done) | (go_simp; with_reducible rfl))
  try simp only [Act.put, List.setIfInBounds_toArray, List.set_cons_zero, List.set_cons_succ]
  refine wpAnyH_done (by kernel_rfl) ?_ _
  go_wp2_with fail
  have y2 := i2.cell
  have y3 := i3.cell
  refine bodyPost_ret (v := .tuple #[obV n s0 g0 s1 g1 s g s3 g3 h, refV s2 g2, .int .i64 0]) (by simp [results, Tryd.results21, go_sem, y2, y3]) rfl ⟨rfl, icb⟩
set_option maxHeartbeats 16000000 in
set_option maxRecDepth 20000 in
theorem fset_ok3 (n s0 g0 s1 g1 s2 g2 s3 g3 : Int) (h : Bool) (s g : Int) (w : World) (hk : ∀ w, Ret 13 #[obV n s0 g0 s1 g1 s2 g2 s3 g3 h] w (.int .i64 0)) (hw : ∀ w, Ret 31 #[refV s g] w (.bool false)) (hi : 3 < n) :
    Ret 21 #[obV n s0 g0 s1 g1 s2 g2 s3 g3 h, .int .i64 3, refV s g] w (.tuple #[obV n s0 g0 s1 g1 s2 g2 s g h, refV s3 g3, .int .i64 0]) := by
  have HK := Lib.hid hk
  have HW := Lib.hid hw
  clear hk hw
  have r0 : Row (w.alloc (.cells (obC n s0 g0 s1 g1 s2 g2 s3 g3 h) 27)) w.heap.size (obC n s0 g0 s1 g1 s2 g2 s3 g3 h) 27 := Row.new
  have r1 : Row ((w.alloc (.cells (obC n s0 g0 s1 g1 s2 g2 s3 g3 h) 27)).alloc (.cells (refC s g) 24)) (w.heap.size + 1) (refC s g) 24 := by simpa using Row.new (W := w.alloc (.cells (obC n s0 g0 s1 g1 s2 g2 s3 g3 h) 27)) (cs := refC s g) (t := 24)
  have r2 : Row (((w.alloc (.cells (obC n s0 g0 s1 g1 s2 g2 s3 g3 h) 27)).alloc (.cells (refC s g) 24)).alloc (.cells ob0C 27)) (w.heap.size + 1 + 1) ob0C 27 := by simpa using Row.new (W := (w.alloc (.cells (obC n s0 g0 s1 g1 s2 g2 s3 g3 h) 27)).alloc (.cells (refC s g) 24)) (cs := ob0C) (t := 27)
  have r3 : Row ((((w.alloc (.cells (obC n s0 g0 s1 g1 s2 g2 s3 g3 h) 27)).alloc (.cells (refC s g) 24)).alloc (.cells ob0C 27)).alloc (.cells (refC 0 0) 24)) (w.heap.size + 1 + 1 + 1) (refC 0 0) 24 := by simpa using Row.new (W := ((w.alloc (.cells (obC n s0 g0 s1 g1 s2 g2 s3 g3 h) 27)).alloc (.cells (refC s g) 24)).alloc (.cells ob0C 27)) (cs := refC 0 0) (t := 24)
  have R0 := ((r0.on (below_alloc _ (.cells (refC s g) 24))).on (below_alloc _ (.cells ob0C 27))).on (below_alloc _ (.cells (refC 0 0) 24))
  have R1 := (r1.on (below_alloc _ (.cells ob0C 27))).on (below_alloc _ (.cells (refC 0 0) 24))
  have R2 := r2.on (below_alloc _ (.cells (refC 0 0) 24))
  have HR := Lib.hid (And.intro R0 (And.intro R1 (And.intro R2 r3)))
  clear r0 r1 r2 r3 R0 R1 R2
  go_enter Tryd.func21, Tryd.ntmps21
  go_wp2_with fail
  refine Calls.mono (HK.out _) ?_
  rintro e w1 ⟨rfl, hb1⟩
  obtain ⟨a0, a1, a2, a3⟩ := HR.out
  replace a0 := a0.on hb1
  replace a1 := a1.on hb1
  replace a2 := a2.on hb1
  replace a3 := a3.on hb1
  have hc1 : Below w.heap.size w w1 := under hb1
  clear hb1 HR
  have c1 := a1.cell
  go_wp2_with fail
  refine Calls.mono (HW.out _) ?_
  rintro e w2 ⟨rfl, hb2⟩
  clear c1
  replace a0 := a0.on hb2
  replace a1 := a1.on hb2
  replace a2 := a2.on hb2
  replace a3 := a3.on hb2
  have hc2 : Below w.heap.size w w2 := chain hc1 hb2
  clear hb2 hc1
  have z0 := a0.lt
  have z1 := a1.lt
  have z2 := a2.lt
  have z3 := a3.lt
  have c0 := a0.cell
  have d0 := a0.free
  have c1 := a1.cell
  go_wp2_with fail
  clear c0 d0 c1 z0 z1
  have b0 := (a0.set 7 (.int .i64 s)).set 8 (.int .u32 g)
  simp only [obC, List.setIfInBounds_toArray, List.set_cons_succ, List.set_cons_zero] at b0
  have b2 := (a2.other (y := w.heap.size) (by omega) 7 (.int .i64 s)).other (y := w.heap.size) (by omega) 8 (.int .u32 g)
  have b3 := (a3.other (y := w.heap.size) (by omega) 7 (.int .i64 s)).other (y := w.heap.size) (by omega) 8 (.int .u32 g)
  have hcb : Below w.heap.size w ((w2.setCell ⟨w.heap.size, 7, none⟩ (.int .i64 s)).setCell ⟨w.heap.size, 8, none⟩ (.int .u32 g)) := (hc2.setCell (p := ⟨w.heap.size, 7, none⟩) (by simp) _).setCell (p := ⟨w.heap.size, 8, none⟩) (by simp) _
  have b4 : Row (((w2.setCell ⟨w.heap.size, 7, none⟩ (.int .i64 s)).setCell ⟨w.heap.size, 8, none⟩ (.int .u32 g)).alloc (.cells (refC s3 g3) 24)) w2.heap.size (refC s3 g3) 24 := by simpa using Row.new (W := (w2.setCell ⟨w.heap.size, 7, none⟩ (.int .i64 s)).setCell ⟨w.heap.size, 8, none⟩ (.int .u32 g)) (cs := refC s3 g3) (t := 24)
  replace b0 := b0.on (below_alloc _ (.cells (refC s3 g3) 24))
  replace b2 := b2.on (below_alloc _ (.cells (refC s3 g3) 24))
  replace b3 := b3.on (below_alloc _ (.cells (refC s3 g3) 24))
  replace hcb : Below w.heap.size w (((w2.setCell ⟨w.heap.size, 7, none⟩ (.int .i64 s)).setCell ⟨w.heap.size, 8, none⟩ (.int .u32 g)).alloc (.cells (refC s3 g3) 24)) := hcb.alloc (by simpa using hc2.size) _
  clear a0 a1 a2 a3 hc2
  generalize hW : (((w2.setCell ⟨w.heap.size, 7, none⟩ (.int .i64 s)).setCell ⟨w.heap.size, 8, none⟩ (.int .u32 g)).alloc (.cells (refC s3 g3) 24)) = W5 at *
  clear hW
  have q2 : w.heap.size + 1 + 1 ≠ w.heap.size := by omega
  have q3 : w.heap.size + 1 + 1 + 1 ≠ w.heap.size := by omega
  have q4 : w.heap.size + 1 + 1 ≠ w2.heap.size := by omega
  have q5 : w.heap.size + 1 + 1 + 1 ≠ w2.heap.size := by omega
  have q6 : w.heap.size + 1 + 1 ≠ w.heap.size + 1 + 1 + 1 := by omega
  have q7 : w.heap.size + 1 + 1 + 1 ≠ w.heap.size + 1 + 1 := by omega
  have y2 := b2.cell
  have x2 := b2.free
  have y3 := b3.cell
  have x3 := b3.free
  refine wp_region_held_drew (S := fun W' => (∀ j, W'.cell? ⟨w.heap.size, j, none⟩ = (obC n s0 g0 s1 g1 s2 g2 s g h)[j]?) ∧ (∀ j, W'.cell? ⟨w2.heap.size, j, none⟩ = (refC s3 g3)[j]?)) (by kernel_rfl) ?_ (fun hHeld => ?_)
  · exact ⟨b0.cell, b4.cell⟩
  refine' wpAnyH_take (i := 0) (oi := _) (v := _) ?_ (by kernel_rfl) (by kernel_rfl) (by kernel_rfl) ?_ (Or.inl ⟨?_, ?_⟩) (by assumption) ?_
  rotate_left 2
  · (simp only [List.getElem?_toArray, List.getElem?_cons_succ, List.getElem?_cons_zero]; rfl)
  · first | exact fun _ _ _ h => h | exact fun _ _ _ h => nomatch h.1
  · rfl
  · (intro W hSW; (try dsimp only at hSW); go_split_ands; first | (go_simp; done) | (go_simp; with_reducible rfl))
  try simp only [Act.put, List.setIfInBounds_toArray, List.set_cons_zero, List.set_cons_succ]
  refine' wpAnyH_take (i := 1) (oi := _) (v := _) ?_ (by kernel_rfl) (by kernel_rfl) (by kernel_rfl) ?_ (Or.inl ⟨?_, ?_⟩) (by assumption) ?_
  rotate_left 2
  · (simp only [List.getElem?_toArray, List.getElem?_cons_succ, List.getElem?_cons_zero]; rfl)
  · first | exact fun _ _ _ h => h | exact fun _ _ _ h => nomatch h.1
  · rfl
  · (intro W hSW; (try dsimp only at hSW); go_split_ands; first | (go_simp; done) | (go_simp; with_reducible rfl))
  try simp only [Act.put, List.setIfInBounds_toArray, List.set_cons_zero, List.set_cons_succ]
  refine wpAnyH_ready (rs := [2]) (by kernel_rfl) (by simp) ?_
  refine' AllReadyH.cons (o := _) ?_ (fun K hK => ?_) AllReadyH.nil
  rotate_left 1
  · (simp only [List.getElem?_toArray, List.getElem?_cons_succ, List.getElem?_cons_zero]; rfl)
  go_simp
  have e0 := ((((((((((b0.other q2 0 (.int .i64 n)).other q2 1 (.int .i64 s0)).other q2 2 (.int .u32 g0)).other q2 3 (.int .i64 s1)).other q2 4 (.int .u32 g1)).other q2 5 (.int .i64 s2)).other q2 6 (.int .u32 g2)).other q2 7 (.int .i64 s)).other q2 8 (.int .u32 g)).other q2 9 (.bool h)).drew
  have e4 := ((((((((((b4.other q4 0 (.int .i64 n)).other q4 1 (.int .i64 s0)).other q4 2 (.int .u32 g0)).other q4 3 (.int .i64 s1)).other q4 4 (.int .u32 g1)).other q4 5 (.int .i64 s2)).other q4 6 (.int .u32 g2)).other q4 7 (.int .i64 s)).other q4 8 (.int .u32 g)).other q4 9 (.bool h)).drew
  have e3 := ((((((((((b3.other q6 0 (.int .i64 n)).other q6 1 (.int .i64 s0)).other q6 2 (.int .u32 g0)).other q6 3 (.int .i64 s1)).other q6 4 (.int .u32 g1)).other q6 5 (.int .i64 s2)).other q6 6 (.int .u32 g2)).other q6 7 (.int .i64 s)).other q6 8 (.int .u32 g)).other q6 9 (.bool h)).drew
  have e2 := ((((((((((b2.set 0 (.int .i64 n)).set 1 (.int .i64 s0)).set 2 (.int .u32 g0)).set 3 (.int .i64 s1)).set 4 (.int .u32 g1)).set 5 (.int .i64 s2)).set 6 (.int .u32 g2)).set 7 (.int .i64 s)).set 8 (.int .u32 g)).set 9 (.bool h)).drew
  have ecb : Below w.heap.size w ((((((((((W5.setCell ⟨w.heap.size + 1 + 1, 0, none⟩ (.int .i64 n)).setCell ⟨w.heap.size + 1 + 1, 1, none⟩ (.int .i64 s0)).setCell ⟨w.heap.size + 1 + 1, 2, none⟩ (.int .u32 g0)).setCell ⟨w.heap.size + 1 + 1, 3, none⟩ (.int .i64 s1)).setCell ⟨w.heap.size + 1 + 1, 4, none⟩ (.int .u32 g1)).setCell ⟨w.heap.size + 1 + 1, 5, none⟩ (.int .i64 s2)).setCell ⟨w.heap.size + 1 + 1, 6, none⟩ (.int .u32 g2)).setCell ⟨w.heap.size + 1 + 1, 7, none⟩ (.int .i64 s)).setCell ⟨w.heap.size + 1 + 1, 8, none⟩ (.int .u32 g)).setCell ⟨w.heap.size + 1 + 1, 9, none⟩ (.bool h)).drew := Below.drew (((((((((((hcb.setCell (p := ⟨w.heap.size + 1 + 1, 0, none⟩) (by simp; omega) _).setCell (p := ⟨w.heap.size + 1 + 1, 1, none⟩) (by simp; omega) _).setCell (p := ⟨w.heap.size + 1 + 1, 2, none⟩) (by simp; omega) _).setCell (p := ⟨w.heap.size + 1 + 1, 3, none⟩) (by simp; omega) _).setCell (p := ⟨w.heap.size + 1 + 1, 4, none⟩) (by simp; omega) _).setCell (p := ⟨w.heap.size + 1 + 1, 5, none⟩) (by simp; omega) _).setCell (p := ⟨w.heap.size + 1 + 1, 6, none⟩) (by simp; omega) _).setCell (p := ⟨w.heap.size + 1 + 1, 7, none⟩) (by simp; omega) _).setCell (p := ⟨w.heap.size + 1 + 1, 8, none⟩) (by simp; omega) _).setCell (p := ⟨w.heap.size + 1 + 1, 9, none⟩) (by simp; omega) _))
  refine hK.out _ _ ⟨e0.cell, e4.cell⟩ (fun hHeld => ?_)
  clear hK K
  simp only [ob0C, List.setIfInBounds_toArray, List.set_cons_succ, List.set_cons_zero] at e2
  clear b0 b2 b3 b4 y2 x2 y3 x3 hcb
  generalize hW : ((((((((((W5.setCell ⟨w.heap.size + 1 + 1, 0, none⟩ (.int .i64 n)).setCell ⟨w.heap.size + 1 + 1, 1, none⟩ (.int .i64 s0)).setCell ⟨w.heap.size + 1 + 1, 2, none⟩ (.int .u32 g0)).setCell ⟨w.heap.size + 1 + 1, 3, none⟩ (.int .i64 s1)).setCell ⟨w.heap.size + 1 + 1, 4, none⟩ (.int .u32 g1)).setCell ⟨w.heap.size + 1 + 1, 5, none⟩ (.int .i64 s2)).setCell ⟨w.heap.size + 1 + 1, 6, none⟩ (.int .u32 g2)).setCell ⟨w.heap.size + 1 + 1, 7, none⟩ (.int .i64 s)).setCell ⟨w.heap.size + 1 + 1, 8, none⟩ (.int .u32 g)).setCell ⟨w.heap.size + 1 + 1, 9, none⟩ (.bool h)).drew = W6 at *
  clear hW
  have y3 := e3.cell
  have x3 := e3.free
  refine wpAnyH_ready (rs := [3]) (by kernel_rfl) (by simp) ?_
  refine' AllReadyH.cons (o := _) ?_ (fun K hK => ?_) AllReadyH.nil
  rotate_left 1
  · (simp only [List.getElem?_toArray, List.getElem?_cons_succ, List.getElem?_cons_zero]; rfl)
  go_simp
  have i0 := ((e0.other q3 0 (.int .i64 s3)).other q3 1 (.int .u32 g3))
  have i4 := ((e4.other q5 0 (.int .i64 s3)).other q5 1 (.int .u32 g3))
  have i2 := ((e2.other q7 0 (.int .i64 s3)).other q7 1 (.int .u32 g3))
  have i3 := ((e3.set 0 (.int .i64 s3)).set 1 (.int .u32 g3))
  have icb : Below w.heap.size w ((W6.setCell ⟨w.heap.size + 1 + 1 + 1, 0, none⟩ (.int .i64 s3)).setCell ⟨w.heap.size + 1 + 1 + 1, 1, none⟩ (.int .u32 g3)) := ((ecb.setCell (p := ⟨w.heap.size + 1 + 1 + 1, 0, none⟩) (by simp; omega) _).setCell (p := ⟨w.heap.size + 1 + 1 + 1, 1, none⟩) (by simp; omega) _)
  refine hK.out _ _ ⟨i0.cell, i4.cell⟩ (fun hHeld => ?_)
  clear hK K
  simp only [refC, List.setIfInBounds_toArray, List.set_cons_succ, List.set_cons_zero] at i3
  clear e0 e2 e3 e4 y3 x3 ecb
  generalize hW : ((W6.setCell ⟨w.heap.size + 1 + 1 + 1, 0, none⟩ (.int .i64 s3)).setCell ⟨w.heap.size + 1 + 1 + 1, 1, none⟩ (.int .u32 g3)) = W7 at *
  clear hW
  refine' wpAnyH_take (i := 4) (oi := _) (v := _) ?_ (by kernel_rfl) (by kernel_rfl) (by kernel_rfl) ?_ (Or.inl ⟨?_, ?_⟩) (by assumption) ?_
  rotate_left 2
  · (simp only [List.getElem?_toArray, List.getElem?_cons_succ, List.getElem?_cons_zero]; rfl)
  · first | exact fun _ _ _ h => h | exact fun _ _ _ h => nomatch h.1
  · rfl
  · (intro W hSW; (try dsimp only at hSW); go_split_ands; first | (go_simp; done) | (go_simp; with_reducible rfl))
  try simp only [Act.put, List.setIfInBounds_toArray, List.set_cons_zero, List.set_cons_succ]
  refine wpAnyH_done (by kernel_rfl) ?_ _
  go_wp2_with fail
  have y2 := i2.cell
  have y3 := i3.cell
  refine bodyPost_ret (v := .tuple #[obV n s0 g0 s1 g1 s2 g2 s g h, refV s3 g3, .int .i64 0]) (by simp [results, Tryd.results21, go_sem, y2, y3]) rfl ⟨rfl, icb⟩
set_option maxHeartbeats 16000000 in
set_option maxRecDepth 20000 in
theorem rset_ok0 (n s0 g0 s1 g1 s2 g2 s3 g3 : Int) (h : Bool) (s g : Int) (w : World) (hk : ∀ w, Ret 14 #[obV n s0 g0 s1 g1 s2 g2 s3 g3 h] w (.int .i64 0)) (hw : ∀ w, Ret 32 #[refV s g] w (.bool false)) (hi : 0 < n) :
    Ret 22 #[obV n s0 g0 s1 g1 s2 g2 s3 g3 h, .int .i64 0, refV s g] w (.tuple #[obV n s g s1 g1 s2 g2 s3 g3 h, refV s0 g0, .int .i64 0]) := by
  have HK := Lib.hid hk
  have HW := Lib.hid hw
  clear hk hw
  have r0 : Row (w.alloc (.cells (obC n s0 g0 s1 g1 s2 g2 s3 g3 h) 31)) w.heap.size (obC n s0 g0 s1 g1 s2 g2 s3 g3 h) 31 := Row.new
  have r1 : Row ((w.alloc (.cells (obC n s0 g0 s1 g1 s2 g2 s3 g3 h) 31)).alloc (.cells (refC s g) 24)) (w.heap.size + 1) (refC s g) 24 := by simpa using Row.new (W := w.alloc (.cells (obC n s0 g0 s1 g1 s2 g2 s3 g3 h) 31)) (cs := refC s g) (t := 24)
  have r2 : Row (((w.alloc (.cells (obC n s0 g0 s1 g1 s2 g2 s3 g3 h) 31)).alloc (.cells (refC s g) 24)).alloc (.cells ob0C 31)) (w.heap.size + 1 + 1) ob0C 31 := by simpa using Row.new (W := (w.alloc (.cells (obC n s0 g0 s1 g1 s2 g2 s3 g3 h) 31)).alloc (.cells (refC s g) 24)) (cs := ob0C) (t := 31)
  have r3 : Row ((((w.alloc (.cells (obC n s0 g0 s1 g1 s2 g2 s3 g3 h) 31)).alloc (.cells (refC s g) 24)).alloc (.cells ob0C 31)).alloc (.cells (refC 0 0) 24)) (w.heap.size + 1 + 1 + 1) (refC 0 0) 24 := by simpa using Row.new (W := ((w.alloc (.cells (obC n s0 g0 s1 g1 s2 g2 s3 g3 h) 31)).alloc (.cells (refC s g) 24)).alloc (.cells ob0C 31)) (cs := refC 0 0) (t := 24)
  have R0 := ((r0.on (below_alloc _ (.cells (refC s g) 24))).on (below_alloc _ (.cells ob0C 31))).on (below_alloc _ (.cells (refC 0 0) 24))
  have R1 := (r1.on (below_alloc _ (.cells ob0C 31))).on (below_alloc _ (.cells (refC 0 0) 24))
  have R2 := r2.on (below_alloc _ (.cells (refC 0 0) 24))
  have HR := Lib.hid (And.intro R0 (And.intro R1 (And.intro R2 r3)))
  clear r0 r1 r2 r3 R0 R1 R2
  go_enter Tryd.func22, Tryd.ntmps22
  go_wp2_with fail
  refine Calls.mono (HK.out _) ?_
  rintro e w1 ⟨rfl, hb1⟩
  obtain ⟨a0, a1, a2, a3⟩ := HR.out
  replace a0 := a0.on hb1
  replace a1 := a1.on hb1
  replace a2 := a2.on hb1
  replace a3 := a3.on hb1
  have hc1 : Below w.heap.size w w1 := under hb1
  clear hb1 HR
  have c1 := a1.cell
  go_wp2_with fail
  refine Calls.mono (HW.out _) ?_
  rintro e w2 ⟨rfl, hb2⟩
  clear c1
  replace a0 := a0.on hb2
  replace a1 := a1.on hb2
  replace a2 := a2.on hb2
  replace a3 := a3.on hb2
  have hc2 : Below w.heap.size w w2 := chain hc1 hb2
  clear hb2 hc1
  have z0 := a0.lt
  have z1 := a1.lt
  have z2 := a2.lt
  have z3 := a3.lt
  have c0 := a0.cell
  have d0 := a0.free
  have c1 := a1.cell
  go_wp2_with fail
  clear c0 d0 c1 z0 z1
  have b0 := (a0.set 1 (.int .i64 s)).set 2 (.int .u32 g)
  simp only [obC, List.setIfInBounds_toArray, List.set_cons_succ, List.set_cons_zero] at b0
  have b2 := (a2.other (y := w.heap.size) (by omega) 1 (.int .i64 s)).other (y := w.heap.size) (by omega) 2 (.int .u32 g)
  have b3 := (a3.other (y := w.heap.size) (by omega) 1 (.int .i64 s)).other (y := w.heap.size) (by omega) 2 (.int .u32 g)
  have hcb : Below w.heap.size w ((w2.setCell ⟨w.heap.size, 1, none⟩ (.int .i64 s)).setCell ⟨w.heap.size, 2, none⟩ (.int .u32 g)) := (hc2.setCell (p := ⟨w.heap.size, 1, none⟩) (by simp) _).setCell (p := ⟨w.heap.size, 2, none⟩) (by simp) _
  have b4 : Row (((w2.setCell ⟨w.heap.size, 1, none⟩ (.int .i64 s)).setCell ⟨w.heap.size, 2, none⟩ (.int .u32 g)).alloc (.cells (refC s0 g0) 24)) w2.heap.size (refC s0 g0) 24 := by simpa using Row.new (W := (w2.setCell ⟨w.heap.size, 1, none⟩ (.int .i64 s)).setCell ⟨w.heap.size, 2, none⟩ (.int .u32 g)) (cs := refC s0 g0) (t := 24)
  replace b0 := b0.on (below_alloc _ (.cells (refC s0 g0) 24))
  replace b2 := b2.on (below_alloc _ (.cells (refC s0 g0) 24))
  replace b3 := b3.on (below_alloc _ (.cells (refC s0 g0) 24))
  replace hcb : Below w.heap.size w (((w2.setCell ⟨w.heap.size, 1, none⟩ (.int .i64 s)).setCell ⟨w.heap.size, 2, none⟩ (.int .u32 g)).alloc (.cells (refC s0 g0) 24)) := hcb.alloc (by simpa using hc2.size) _
  clear a0 a1 a2 a3 hc2
  generalize hW : (((w2.setCell ⟨w.heap.size, 1, none⟩ (.int .i64 s)).setCell ⟨w.heap.size, 2, none⟩ (.int .u32 g)).alloc (.cells (refC s0 g0) 24)) = W5 at *
  clear hW
  have q2 : w.heap.size + 1 + 1 ≠ w.heap.size := by omega
  have q3 : w.heap.size + 1 + 1 + 1 ≠ w.heap.size := by omega
  have q4 : w.heap.size + 1 + 1 ≠ w2.heap.size := by omega
  have q5 : w.heap.size + 1 + 1 + 1 ≠ w2.heap.size := by omega
  have q6 : w.heap.size + 1 + 1 ≠ w.heap.size + 1 + 1 + 1 := by omega
  have q7 : w.heap.size + 1 + 1 + 1 ≠ w.heap.size + 1 + 1 := by omega
  have y2 := b2.cell
  have x2 := b2.free
  have y3 := b3.cell
  have x3 := b3.free
  refine wp_region_held_drew (S := fun W' => (∀ j, W'.cell? ⟨w.heap.size, j, none⟩ = (obC n s g s1 g1 s2 g2 s3 g3 h)[j]?) ∧ (∀ j, W'.cell? ⟨w2.heap.size, j, none⟩ = (refC s0 g0)[j]?)) (by kernel_rfl) ?_ (fun hHeld => ?_)
  · exact ⟨b0.cell, b4.cell⟩
  refine' wpAnyH_take (i := 0) (oi := _) (v := _) ?_ (by kernel_rfl) (by kernel_rfl) (by kernel_rfl) ?_ (Or.inl ⟨?_, ?_⟩) (by assumption) ?_
  rotate_left 2
  · (simp only [List.getElem?_toArray, List.getElem?_cons_succ, List.getElem?_cons_zero]; rfl)
  · first | exact fun _ _ _ h => h | exact fun _ _ _ h => nomatch h.1
  · rfl
  · (intro W hSW; (try dsimp only at hSW); go_split_ands; first | (go_simp; done) | (go_simp; with_reducible rfl))
  try simp only [Act.put, List.setIfInBounds_toArray, List.set_cons_zero, List.set_cons_succ]
  refine' wpAnyH_take (i := 1) (oi := _) (v := _) ?_ (by kernel_rfl) (by kernel_rfl) (by kernel_rfl) ?_ (Or.inl ⟨?_, ?_⟩) (by assumption) ?_
  rotate_left 2
  · (simp only [List.getElem?_toArray, List.getElem?_cons_succ, List.getElem?_cons_zero]; rfl)
  · first | exact fun _ _ _ h => h | exact fun _ _ _ h => nomatch h.1
  · rfl
  · (intro W hSW; (try dsimp only at hSW); go_split_ands; first | (go_simp; done) | (go_simp; with_reducible rfl))
  try simp only [Act.put, List.setIfInBounds_toArray, List.set_cons_zero, List.set_cons_succ]
  refine wpAnyH_ready (rs := [2]) (by kernel_rfl) (by simp) ?_
  refine' AllReadyH.cons (o := _) ?_ (fun K hK => ?_) AllReadyH.nil
  rotate_left 1
  · (simp only [List.getElem?_toArray, List.getElem?_cons_succ, List.getElem?_cons_zero]; rfl)
  go_simp
  have e0 := ((((((((((b0.other q2 0 (.int .i64 n)).other q2 1 (.int .i64 s)).other q2 2 (.int .u32 g)).other q2 3 (.int .i64 s1)).other q2 4 (.int .u32 g1)).other q2 5 (.int .i64 s2)).other q2 6 (.int .u32 g2)).other q2 7 (.int .i64 s3)).other q2 8 (.int .u32 g3)).other q2 9 (.bool h)).drew
  have e4 := ((((((((((b4.other q4 0 (.int .i64 n)).other q4 1 (.int .i64 s)).other q4 2 (.int .u32 g)).other q4 3 (.int .i64 s1)).other q4 4 (.int .u32 g1)).other q4 5 (.int .i64 s2)).other q4 6 (.int .u32 g2)).other q4 7 (.int .i64 s3)).other q4 8 (.int .u32 g3)).other q4 9 (.bool h)).drew
  have e3 := ((((((((((b3.other q6 0 (.int .i64 n)).other q6 1 (.int .i64 s)).other q6 2 (.int .u32 g)).other q6 3 (.int .i64 s1)).other q6 4 (.int .u32 g1)).other q6 5 (.int .i64 s2)).other q6 6 (.int .u32 g2)).other q6 7 (.int .i64 s3)).other q6 8 (.int .u32 g3)).other q6 9 (.bool h)).drew
  have e2 := ((((((((((b2.set 0 (.int .i64 n)).set 1 (.int .i64 s)).set 2 (.int .u32 g)).set 3 (.int .i64 s1)).set 4 (.int .u32 g1)).set 5 (.int .i64 s2)).set 6 (.int .u32 g2)).set 7 (.int .i64 s3)).set 8 (.int .u32 g3)).set 9 (.bool h)).drew
  have ecb : Below w.heap.size w ((((((((((W5.setCell ⟨w.heap.size + 1 + 1, 0, none⟩ (.int .i64 n)).setCell ⟨w.heap.size + 1 + 1, 1, none⟩ (.int .i64 s)).setCell ⟨w.heap.size + 1 + 1, 2, none⟩ (.int .u32 g)).setCell ⟨w.heap.size + 1 + 1, 3, none⟩ (.int .i64 s1)).setCell ⟨w.heap.size + 1 + 1, 4, none⟩ (.int .u32 g1)).setCell ⟨w.heap.size + 1 + 1, 5, none⟩ (.int .i64 s2)).setCell ⟨w.heap.size + 1 + 1, 6, none⟩ (.int .u32 g2)).setCell ⟨w.heap.size + 1 + 1, 7, none⟩ (.int .i64 s3)).setCell ⟨w.heap.size + 1 + 1, 8, none⟩ (.int .u32 g3)).setCell ⟨w.heap.size + 1 + 1, 9, none⟩ (.bool h)).drew := Below.drew (((((((((((hcb.setCell (p := ⟨w.heap.size + 1 + 1, 0, none⟩) (by simp; omega) _).setCell (p := ⟨w.heap.size + 1 + 1, 1, none⟩) (by simp; omega) _).setCell (p := ⟨w.heap.size + 1 + 1, 2, none⟩) (by simp; omega) _).setCell (p := ⟨w.heap.size + 1 + 1, 3, none⟩) (by simp; omega) _).setCell (p := ⟨w.heap.size + 1 + 1, 4, none⟩) (by simp; omega) _).setCell (p := ⟨w.heap.size + 1 + 1, 5, none⟩) (by simp; omega) _).setCell (p := ⟨w.heap.size + 1 + 1, 6, none⟩) (by simp; omega) _).setCell (p := ⟨w.heap.size + 1 + 1, 7, none⟩) (by simp; omega) _).setCell (p := ⟨w.heap.size + 1 + 1, 8, none⟩) (by simp; omega) _).setCell (p := ⟨w.heap.size + 1 + 1, 9, none⟩) (by simp; omega) _))
  refine hK.out _ _ ⟨e0.cell, e4.cell⟩ (fun hHeld => ?_)
  clear hK K
  simp only [ob0C, List.setIfInBounds_toArray, List.set_cons_succ, List.set_cons_zero] at e2
  clear b0 b2 b3 b4 y2 x2 y3 x3 hcb
  generalize hW : ((((((((((W5.setCell ⟨w.heap.size + 1 + 1, 0, none⟩ (.int .i64 n)).setCell ⟨w.heap.size + 1 + 1, 1, none⟩ (.int .i64 s)).setCell ⟨w.heap.size + 1 + 1, 2, none⟩ (.int .u32 g)).setCell ⟨w.heap.size + 1 + 1, 3, none⟩ (.int .i64 s1)).setCell ⟨w.heap.size + 1 + 1, 4, none⟩ (.int .u32 g1)).setCell ⟨w.heap.size + 1 + 1, 5, none⟩ (.int .i64 s2)).setCell ⟨w.heap.size + 1 + 1, 6, none⟩ (.int .u32 g2)).setCell ⟨w.heap.size + 1 + 1, 7, none⟩ (.int .i64 s3)).setCell ⟨w.heap.size + 1 + 1, 8, none⟩ (.int .u32 g3)).setCell ⟨w.heap.size + 1 + 1, 9, none⟩ (.bool h)).drew = W6 at *
  clear hW
  have y3 := e3.cell
  have x3 := e3.free
  refine wpAnyH_ready (rs := [3]) (by kernel_rfl) (by simp) ?_
  refine' AllReadyH.cons (o := _) ?_ (fun K hK => ?_) AllReadyH.nil
  rotate_left 1
  · (simp only [List.getElem?_toArray, List.getElem?_cons_succ, List.getElem?_cons_zero]; rfl)
  go_simp
  have i0 := ((e0.other q3 0 (.int .i64 s0)).other q3 1 (.int .u32 g0))
  have i4 := ((e4.other q5 0 (.int .i64 s0)).other q5 1 (.int .u32 g0))
  have i2 := ((e2.other q7 0 (.int .i64 s0)).other q7 1 (.int .u32 g0))
  have i3 := ((e3.set 0 (.int .i64 s0)).set 1 (.int .u32 g0))
  have icb : Below w.heap.size w ((W6.setCell ⟨w.heap.size + 1 + 1 + 1, 0, none⟩ (.int .i64 s0)).setCell ⟨w.heap.size + 1 + 1 + 1, 1, none⟩ (.int .u32 g0)) := ((ecb.setCell (p := ⟨w.heap.size + 1 + 1 + 1, 0, none⟩) (by simp; omega) _).setCell (p := ⟨w.heap.size + 1 + 1 + 1, 1, none⟩) (by simp; omega) _)
  refine hK.out _ _ ⟨i0.cell, i4.cell⟩ (fun hHeld => ?_)
  clear hK K
  simp only [refC, List.setIfInBounds_toArray, List.set_cons_succ, List.set_cons_zero] at i3
  clear e0 e2 e3 e4 y3 x3 ecb
  generalize hW : ((W6.setCell ⟨w.heap.size + 1 + 1 + 1, 0, none⟩ (.int .i64 s0)).setCell ⟨w.heap.size + 1 + 1 + 1, 1, none⟩ (.int .u32 g0)) = W7 at *
  clear hW
  refine' wpAnyH_take (i := 4) (oi := _) (v := _) ?_ (by kernel_rfl) (by kernel_rfl) (by kernel_rfl) ?_ (Or.inl ⟨?_, ?_⟩) (by assumption) ?_
  rotate_left 2
  · (simp only [List.getElem?_toArray, List.getElem?_cons_succ, List.getElem?_cons_zero]; rfl)
  · first | exact fun _ _ _ h => h | exact fun _ _ _ h => nomatch h.1
  · rfl
  · (intro W hSW; (try dsimp only at hSW); go_split_ands; first | (go_simp; done) | (go_simp; with_reducible rfl))
  try simp only [Act.put, List.setIfInBounds_toArray, List.set_cons_zero, List.set_cons_succ]
  refine wpAnyH_done (by kernel_rfl) ?_ _
  go_wp2_with fail
  have y2 := i2.cell
  have y3 := i3.cell
  refine bodyPost_ret (v := .tuple #[obV n s g s1 g1 s2 g2 s3 g3 h, refV s0 g0, .int .i64 0]) (by simp [results, Tryd.results22, go_sem, y2, y3]) rfl ⟨rfl, icb⟩
set_option maxHeartbeats 16000000 in
set_option maxRecDepth 20000 in
theorem rset_ok1 (n s0 g0 s1 g1 s2 g2 s3 g3 : Int) (h : Bool) (s g : Int) (w : World) (hk : ∀ w, Ret 14 #[obV n s0 g0 s1 g1 s2 g2 s3 g3 h] w (.int .i64 0)) (hw : ∀ w, Ret 32 #[refV s g] w (.bool false)) (hi : 1 < n) :
    Ret 22 #[obV n s0 g0 s1 g1 s2 g2 s3 g3 h, .int .i64 1, refV s g] w (.tuple #[obV n s0 g0 s g s2 g2 s3 g3 h, refV s1 g1, .int .i64 0]) := by
  have HK := Lib.hid hk
  have HW := Lib.hid hw
  clear hk hw
  have r0 : Row (w.alloc (.cells (obC n s0 g0 s1 g1 s2 g2 s3 g3 h) 31)) w.heap.size (obC n s0 g0 s1 g1 s2 g2 s3 g3 h) 31 := Row.new
  have r1 : Row ((w.alloc (.cells (obC n s0 g0 s1 g1 s2 g2 s3 g3 h) 31)).alloc (.cells (refC s g) 24)) (w.heap.size + 1) (refC s g) 24 := by simpa using Row.new (W := w.alloc (.cells (obC n s0 g0 s1 g1 s2 g2 s3 g3 h) 31)) (cs := refC s g) (t := 24)
  have r2 : Row (((w.alloc (.cells (obC n s0 g0 s1 g1 s2 g2 s3 g3 h) 31)).alloc (.cells (refC s g) 24)).alloc (.cells ob0C 31)) (w.heap.size + 1 + 1) ob0C 31 := by simpa using Row.new (W := (w.alloc (.cells (obC n s0 g0 s1 g1 s2 g2 s3 g3 h) 31)).alloc (.cells (refC s g) 24)) (cs := ob0C) (t := 31)
  have r3 : Row ((((w.alloc (.cells (obC n s0 g0 s1 g1 s2 g2 s3 g3 h) 31)).alloc (.cells (refC s g) 24)).alloc (.cells ob0C 31)).alloc (.cells (refC 0 0) 24)) (w.heap.size + 1 + 1 + 1) (refC 0 0) 24 := by simpa using Row.new (W := ((w.alloc (.cells (obC n s0 g0 s1 g1 s2 g2 s3 g3 h) 31)).alloc (.cells (refC s g) 24)).alloc (.cells ob0C 31)) (cs := refC 0 0) (t := 24)
  have R0 := ((r0.on (below_alloc _ (.cells (refC s g) 24))).on (below_alloc _ (.cells ob0C 31))).on (below_alloc _ (.cells (refC 0 0) 24))
  have R1 := (r1.on (below_alloc _ (.cells ob0C 31))).on (below_alloc _ (.cells (refC 0 0) 24))
  have R2 := r2.on (below_alloc _ (.cells (refC 0 0) 24))
  have HR := Lib.hid (And.intro R0 (And.intro R1 (And.intro R2 r3)))
  clear r0 r1 r2 r3 R0 R1 R2
  go_enter Tryd.func22, Tryd.ntmps22
  go_wp2_with fail
  refine Calls.mono (HK.out _) ?_
  rintro e w1 ⟨rfl, hb1⟩
  obtain ⟨a0, a1, a2, a3⟩ := HR.out
  replace a0 := a0.on hb1
  replace a1 := a1.on hb1
  replace a2 := a2.on hb1
  replace a3 := a3.on hb1
  have hc1 : Below w.heap.size w w1 := under hb1
  clear hb1 HR
  have c1 := a1.cell
  go_wp2_with fail
  refine Calls.mono (HW.out _) ?_
  rintro e w2 ⟨rfl, hb2⟩
  clear c1
  replace a0 := a0.on hb2
  replace a1 := a1.on hb2
  replace a2 := a2.on hb2
  replace a3 := a3.on hb2
  have hc2 : Below w.heap.size w w2 := chain hc1 hb2
  clear hb2 hc1
  have z0 := a0.lt
  have z1 := a1.lt
  have z2 := a2.lt
  have z3 := a3.lt
  have c0 := a0.cell
  have d0 := a0.free
  have c1 := a1.cell
  go_wp2_with fail
  clear c0 d0 c1 z0 z1
  have b0 := (a0.set 3 (.int .i64 s)).set 4 (.int .u32 g)
  simp only [obC, List.setIfInBounds_toArray, List.set_cons_succ, List.set_cons_zero] at b0
  have b2 := (a2.other (y := w.heap.size) (by omega) 3 (.int .i64 s)).other (y := w.heap.size) (by omega) 4 (.int .u32 g)
  have b3 := (a3.other (y := w.heap.size) (by omega) 3 (.int .i64 s)).other (y := w.heap.size) (by omega) 4 (.int .u32 g)
  have hcb : Below w.heap.size w ((w2.setCell ⟨w.heap.size, 3, none⟩ (.int .i64 s)).setCell ⟨w.heap.size, 4, none⟩ (.int .u32 g)) := (hc2.setCell (p := ⟨w.heap.size, 3, none⟩) (by simp) _).setCell (p := ⟨w.heap.size, 4, none⟩) (by simp) _
  have b4 : Row (((w2.setCell ⟨w.heap.size, 3, none⟩ (.int .i64 s)).setCell ⟨w.heap.size, 4, none⟩ (.int .u32 g)).alloc (.cells (refC s1 g1) 24)) w2.heap.size (refC s1 g1) 24 := by simpa using Row.new (W := (w2.setCell ⟨w.heap.size, 3, none⟩ (.int .i64 s)).setCell ⟨w.heap.size, 4, none⟩ (.int .u32 g)) (cs := refC s1 g1) (t := 24)
  replace b0 := b0.on (below_alloc _ (.cells (refC s1 g1) 24))
  replace b2 := b2.on (below_alloc _ (.cells (refC s1 g1) 24))
  replace b3 := b3.on (below_alloc _ (.cells (refC s1 g1) 24))
  replace hcb : Below w.heap.size w (((w2.setCell ⟨w.heap.size, 3, none⟩ (.int .i64 s)).setCell ⟨w.heap.size, 4, none⟩ (.int .u32 g)).alloc (.cells (refC s1 g1) 24)) := hcb.alloc (by simpa using hc2.size) _
  clear a0 a1 a2 a3 hc2
  generalize hW : (((w2.setCell ⟨w.heap.size, 3, none⟩ (.int .i64 s)).setCell ⟨w.heap.size, 4, none⟩ (.int .u32 g)).alloc (.cells (refC s1 g1) 24)) = W5 at *
  clear hW
  have q2 : w.heap.size + 1 + 1 ≠ w.heap.size := by omega
  have q3 : w.heap.size + 1 + 1 + 1 ≠ w.heap.size := by omega
  have q4 : w.heap.size + 1 + 1 ≠ w2.heap.size := by omega
  have q5 : w.heap.size + 1 + 1 + 1 ≠ w2.heap.size := by omega
  have q6 : w.heap.size + 1 + 1 ≠ w.heap.size + 1 + 1 + 1 := by omega
  have q7 : w.heap.size + 1 + 1 + 1 ≠ w.heap.size + 1 + 1 := by omega
  have y2 := b2.cell
  have x2 := b2.free
  have y3 := b3.cell
  have x3 := b3.free
  refine wp_region_held_drew (S := fun W' => (∀ j, W'.cell? ⟨w.heap.size, j, none⟩ = (obC n s0 g0 s g s2 g2 s3 g3 h)[j]?) ∧ (∀ j, W'.cell? ⟨w2.heap.size, j, none⟩ = (refC s1 g1)[j]?)) (by kernel_rfl) ?_ (fun hHeld => ?_)
  · exact ⟨b0.cell, b4.cell⟩
  refine' wpAnyH_take (i := 0) (oi := _) (v := _) ?_ (by kernel_rfl) (by kernel_rfl) (by kernel_rfl) ?_ (Or.inl ⟨?_, ?_⟩) (by assumption) ?_
  rotate_left 2
  · (simp only [List.getElem?_toArray, List.getElem?_cons_succ, List.getElem?_cons_zero]; rfl)
  · first | exact fun _ _ _ h => h | exact fun _ _ _ h => nomatch h.1
  · rfl
  · (intro W hSW; (try dsimp only at hSW); go_split_ands; first | (go_simp; done) | (go_simp; with_reducible rfl))
  try simp only [Act.put, List.setIfInBounds_toArray, List.set_cons_zero, List.set_cons_succ]
  refine' wpAnyH_take (i := 1) (oi := _) (v := _) ?_ (by kernel_rfl) (by kernel_rfl) (by kernel_rfl) ?_ (Or.inl ⟨?_, ?_⟩) (by assumption) ?_
  rotate_left 2
  · (simp only [List.getElem?_toArray, List.getElem?_cons_succ, List.getElem?_cons_zero]; rfl)
  · first | exact fun _ _ _ h => h | exact fun _ _ _ h => nomatch h.1
  · rfl
  · (intro W hSW; (try dsimp only at hSW); go_split_ands; first | (go_simp; done) | (go_simp; with_reducible rfl))
  try simp only [Act.put, List.setIfInBounds_toArray, List.set_cons_zero, List.set_cons_succ]
  refine wpAnyH_ready (rs := [2]) (by kernel_rfl) (by simp) ?_
  refine' AllReadyH.cons (o := _) ?_ (fun K hK => ?_) AllReadyH.nil
  rotate_left 1
  · (simp only [List.getElem?_toArray, List.getElem?_cons_succ, List.getElem?_cons_zero]; rfl)
  go_simp
  have e0 := ((((((((((b0.other q2 0 (.int .i64 n)).other q2 1 (.int .i64 s0)).other q2 2 (.int .u32 g0)).other q2 3 (.int .i64 s)).other q2 4 (.int .u32 g)).other q2 5 (.int .i64 s2)).other q2 6 (.int .u32 g2)).other q2 7 (.int .i64 s3)).other q2 8 (.int .u32 g3)).other q2 9 (.bool h)).drew
  have e4 := ((((((((((b4.other q4 0 (.int .i64 n)).other q4 1 (.int .i64 s0)).other q4 2 (.int .u32 g0)).other q4 3 (.int .i64 s)).other q4 4 (.int .u32 g)).other q4 5 (.int .i64 s2)).other q4 6 (.int .u32 g2)).other q4 7 (.int .i64 s3)).other q4 8 (.int .u32 g3)).other q4 9 (.bool h)).drew
  have e3 := ((((((((((b3.other q6 0 (.int .i64 n)).other q6 1 (.int .i64 s0)).other q6 2 (.int .u32 g0)).other q6 3 (.int .i64 s)).other q6 4 (.int .u32 g)).other q6 5 (.int .i64 s2)).other q6 6 (.int .u32 g2)).other q6 7 (.int .i64 s3)).other q6 8 (.int .u32 g3)).other q6 9 (.bool h)).drew
  have e2 := ((((((((((b2.set 0 (.int .i64 n)).set 1 (.int .i64 s0)).set 2 (.int .u32 g0)).set 3 (.int .i64 s)).set 4 (.int .u32 g)).set 5 (.int .i64 s2)).set 6 (.int .u32 g2)).set 7 (.int .i64 s3)).set 8 (.int .u32 g3)).set 9 (.bool h)).drew
  have ecb : Below w.heap.size w ((((((((((W5.setCell ⟨w.heap.size + 1 + 1, 0, none⟩ (.int .i64 n)).setCell ⟨w.heap.size + 1 + 1, 1, none⟩ (.int .i64 s0)).setCell ⟨w.heap.size + 1 + 1, 2, none⟩ (.int .u32 g0)).setCell ⟨w.heap.size + 1 + 1, 3, none⟩ (.int .i64 s)).setCell ⟨w.heap.size + 1 + 1, 4, none⟩ (.int .u32 g)).setCell ⟨w.heap.size + 1 + 1, 5, none⟩ (.int .i64 s2)).setCell ⟨w.heap.size + 1 + 1, 6, none⟩ (.int .u32 g2)).setCell ⟨w.heap.size + 1 + 1, 7, none⟩ (.int .i64 s3)).setCell ⟨w.heap.size + 1 + 1, 8, none⟩ (.int .u32 g3)).setCell ⟨w.heap.size + 1 + 1, 9, none⟩ (.bool h)).drew := Below.drew (((((((((((hcb.setCell (p := ⟨w.heap.size + 1 + 1, 0, none⟩) (by simp; omega) _).setCell (p := ⟨w.heap.size + 1 + 1, 1, none⟩) (by simp; omega) _).setCell (p := ⟨w.heap.size + 1 + 1, 2, none⟩) (by simp; omega) _).setCell (p := ⟨w.heap.size + 1 + 1, 3, none⟩) (by simp; omega) _).setCell (p := ⟨w.heap.size + 1 + 1, 4, none⟩) (by simp; omega) _).setCell (p := ⟨w.heap.size + 1 + 1, 5, none⟩) (by simp; omega) _).setCell (p := ⟨w.heap.size + 1 + 1, 6, none⟩) (by simp; omega) _).setCell (p := ⟨w.heap.size + 1 + 1, 7, none⟩) (by simp; omega) _).setCell (p := ⟨w.heap.size + 1 + 1, 8, none⟩) (by simp; omega) _).setCell (p := ⟨w.heap.size + 1 + 1, 9, none⟩) (by simp; omega) _))
  refine hK.out _ _ ⟨e0.cell, e4.cell⟩ (fun hHeld => ?_)
  clear hK K
  simp only [ob0C, List.setIfInBounds_toArray, List.set_cons_succ, List.set_cons_zero] at e2
  clear b0 b2 b3 b4 y2 x2 y3 x3 hcb
  generalize hW : ((((((((((W5.setCell ⟨w.heap.size + 1 + 1, 0, none⟩ (.int .i64 n)).setCell ⟨w.heap.size + 1 + 1, 1, none⟩ (.int .i64 s0)).setCell ⟨w.heap.size + 1 + 1, 2, none⟩ (.int .u32 g0)).setCell ⟨w.heap.size + 1 + 1, 3, none⟩ (.int .i64 s)).setCell ⟨w.heap.size + 1 + 1, 4, none⟩ (.int .u32 g)).setCell ⟨w.heap.size + 1 + 1, 5, none⟩ (.int .i64 s2)).setCell ⟨w.heap.size + 1 + 1, 6, none⟩ (.int .u32 g2)).setCell ⟨w.heap.size + 1 + 1, 7, none⟩ (.int .i64 s3)).setCell ⟨w.heap.size + 1 + 1, 8, none⟩ (.int .u32 g3)).setCell ⟨w.heap.size + 1 + 1, 9, none⟩ (.bool h)).drew = W6 at *
  clear hW
  have y3 := e3.cell
  have x3 := e3.free
  refine wpAnyH_ready (rs := [3]) (by kernel_rfl) (by simp) ?_
  refine' AllReadyH.cons (o := _) ?_ (fun K hK => ?_) AllReadyH.nil
  rotate_left 1
  · (simp only [List.getElem?_toArray, List.getElem?_cons_succ, List.getElem?_cons_zero]; rfl)
  go_simp
  have i0 := ((e0.other q3 0 (.int .i64 s1)).other q3 1 (.int .u32 g1))
  have i4 := ((e4.other q5 0 (.int .i64 s1)).other q5 1 (.int .u32 g1))
  have i2 := ((e2.other q7 0 (.int .i64 s1)).other q7 1 (.int .u32 g1))
  have i3 := ((e3.set 0 (.int .i64 s1)).set 1 (.int .u32 g1))
  have icb : Below w.heap.size w ((W6.setCell ⟨w.heap.size + 1 + 1 + 1, 0, none⟩ (.int .i64 s1)).setCell ⟨w.heap.size + 1 + 1 + 1, 1, none⟩ (.int .u32 g1)) := ((ecb.setCell (p := ⟨w.heap.size + 1 + 1 + 1, 0, none⟩) (by simp; omega) _).setCell (p := ⟨w.heap.size + 1 + 1 + 1, 1, none⟩) (by simp; omega) _)
  refine hK.out _ _ ⟨i0.cell, i4.cell⟩ (fun hHeld => ?_)
  clear hK K
  simp only [refC, List.setIfInBounds_toArray, List.set_cons_succ, List.set_cons_zero] at i3
  clear e0 e2 e3 e4 y3 x3 ecb
  generalize hW : ((W6.setCell ⟨w.heap.size + 1 + 1 + 1, 0, none⟩ (.int .i64 s1)).setCell ⟨w.heap.size + 1 + 1 + 1, 1, none⟩ (.int .u32 g1)) = W7 at *
  clear hW
  refine' wpAnyH_take (i := 4) (oi := _) (v := _) ?_ (by kernel_rfl) (by kernel_rfl) (by kernel_rfl) ?_ (Or.inl ⟨?_, ?_⟩) (by assumption) ?_
  rotate_left 2
  · (simp only [List.getElem?_toArray, List.getElem?_cons_succ, List.getElem?_cons_zero]; rfl)
  · first | exact fun _ _ _ h => h | exact fun _ _ _ h => nomatch h.1
  · rfl
  · (intro W hSW; (try dsimp only at hSW); go_split_ands; first | (go_simp; done) | (go_simp; with_reducible rfl))
  try simp only [Act.put, List.setIfInBounds_toArray, List.set_cons_zero, List.set_cons_succ]
  refine wpAnyH_done (by kernel_rfl) ?_ _
  go_wp2_with fail
  have y2 := i2.cell
  have y3 := i3.cell
  refine bodyPost_ret (v := .tuple #[obV n s0 g0 s g s2 g2 s3 g3 h, refV s1 g1, .int .i64 0]) (by simp [results, Tryd.results22, go_sem, y2, y3]) rfl ⟨rfl, icb⟩
set_option maxHeartbeats 16000000 in
set_option maxRecDepth 20000 in
theorem rset_ok2 (n s0 g0 s1 g1 s2 g2 s3 g3 : Int) (h : Bool) (s g : Int) (w : World) (hk : ∀ w, Ret 14 #[obV n s0 g0 s1 g1 s2 g2 s3 g3 h] w (.int .i64 0)) (hw : ∀ w, Ret 32 #[refV s g] w (.bool false)) (hi : 2 < n) :
    Ret 22 #[obV n s0 g0 s1 g1 s2 g2 s3 g3 h, .int .i64 2, refV s g] w (.tuple #[obV n s0 g0 s1 g1 s g s3 g3 h, refV s2 g2, .int .i64 0]) := by
  have HK := Lib.hid hk
  have HW := Lib.hid hw
  clear hk hw
  have r0 : Row (w.alloc (.cells (obC n s0 g0 s1 g1 s2 g2 s3 g3 h) 31)) w.heap.size (obC n s0 g0 s1 g1 s2 g2 s3 g3 h) 31 := Row.new
  have r1 : Row ((w.alloc (.cells (obC n s0 g0 s1 g1 s2 g2 s3 g3 h) 31)).alloc (.cells (refC s g) 24)) (w.heap.size + 1) (refC s g) 24 := by simpa using Row.new (W := w.alloc (.cells (obC n s0 g0 s1 g1 s2 g2 s3 g3 h) 31)) (cs := refC s g) (t := 24)
  have r2 : Row (((w.alloc (.cells (obC n s0 g0 s1 g1 s2 g2 s3 g3 h) 31)).alloc (.cells (refC s g) 24)).alloc (.cells ob0C 31)) (w.heap.size + 1 + 1) ob0C 31 := by simpa using Row.new (W := (w.alloc (.cells (obC n s0 g0 s1 g1 s2 g2 s3 g3 h) 31)).alloc (.cells (refC s g) 24)) (cs := ob0C) (t := 31)
  have r3 : Row ((((w.alloc (.cells (obC n s0 g0 s1 g1 s2 g2 s3 g3 h) 31)).alloc (.cells (refC s g) 24)).alloc (.cells ob0C 31)).alloc (.cells (refC 0 0) 24)) (w.heap.size + 1 + 1 + 1) (refC 0 0) 24 := by simpa using Row.new (W := ((w.alloc (.cells (obC n s0 g0 s1 g1 s2 g2 s3 g3 h) 31)).alloc (.cells (refC s g) 24)).alloc (.cells ob0C 31)) (cs := refC 0 0) (t := 24)
  have R0 := ((r0.on (below_alloc _ (.cells (refC s g) 24))).on (below_alloc _ (.cells ob0C 31))).on (below_alloc _ (.cells (refC 0 0) 24))
  have R1 := (r1.on (below_alloc _ (.cells ob0C 31))).on (below_alloc _ (.cells (refC 0 0) 24))
  have R2 := r2.on (below_alloc _ (.cells (refC 0 0) 24))
  have HR := Lib.hid (And.intro R0 (And.intro R1 (And.intro R2 r3)))
  clear r0 r1 r2 r3 R0 R1 R2
  go_enter Tryd.func22, Tryd.ntmps22
  go_wp2_with fail
  refine Calls.mono (HK.out _) ?_
  rintro e w1 ⟨rfl, hb1⟩
  obtain ⟨a0, a1, a2, a3⟩ := HR.out
  replace a0 := a0.on hb1
  replace a1 := a1.on hb1
  replace a2 := a2.on hb1
  replace a3 := a3.on hb1
  have hc1 : Below w.heap.size w w1 := under hb1
  clear hb1 HR
  have c1 := a1.cell
  go_wp2_with fail
  refine Calls.mono (HW.out _) ?_
  rintro e w2 ⟨rfl, hb2⟩
  clear c1
  replace a0 := a0.on hb2
  replace a1 := a1.on hb2
  replace a2 := a2.on hb2
  replace a3 := a3.on hb2
  have hc2 : Below w.heap.size w w2 := chain hc1 hb2
  clear hb2 hc1
  have z0 := a0.lt
  have z1 := a1.lt
  have z2 := a2.lt
  have z3 := a3.lt
  have c0 := a0.cell
  have d0 := a0.free
  have c1 := a1.cell
  go_wp2_with fail
  clear c0 d0 c1 z0 z1
  have b0 := (a0.set 5 (.int .i64 s)).set 6 (.int .u32 g)
  simp only [obC, List.setIfInBounds_toArray, List.set_cons_succ, List.set_cons_zero] at b0
  have b2 := (a2.other (y := w.heap.size) (by omega) 5 (.int .i64 s)).other (y := w.heap.size) (by omega) 6 (.int .u32 g)
  have b3 := (a3.other (y := w.heap.size) (by omega) 5 (.int .i64 s)).other (y := w.heap.size) (by omega) 6 (.int .u32 g)
  have hcb : Below w.heap.size w ((w2.setCell ⟨w.heap.size, 5, none⟩ (.int .i64 s)).setCell ⟨w.heap.size, 6, none⟩ (.int .u32 g)) := (hc2.setCell (p := ⟨w.heap.size, 5, none⟩) (by simp) _).setCell (p := ⟨w.heap.size, 6, none⟩) (by simp) _
  have b4 : Row (((w2.setCell ⟨w.heap.size, 5, none⟩ (.int .i64 s)).setCell ⟨w.heap.size, 6, none⟩ (.int .u32 g)).alloc (.cells (refC s2 g2) 24)) w2.heap.size (refC s2 g2) 24 := by simpa using Row.new (W := (w2.setCell ⟨w.heap.size, 5, none⟩ (.int .i64 s)).setCell ⟨w.heap.size, 6, none⟩ (.int .u32 g)) (cs := refC s2 g2) (t := 24)
  replace b0 := b0.on (below_alloc _ (.cells (refC s2 g2) 24))
  replace b2 := b2.on (below_alloc _ (.cells (refC s2 g2) 24))
  replace b3 := b3.on (below_alloc _ (.cells (refC s2 g2) 24))
  replace hcb : Below w.heap.size w (((w2.setCell ⟨w.heap.size, 5, none⟩ (.int .i64 s)).setCell ⟨w.heap.size, 6, none⟩ (.int .u32 g)).alloc (.cells (refC s2 g2) 24)) := hcb.alloc (by simpa using hc2.size) _
  clear a0 a1 a2 a3 hc2
  generalize hW : (((w2.setCell ⟨w.heap.size, 5, none⟩ (.int .i64 s)).setCell ⟨w.heap.size, 6, none⟩ (.int .u32 g)).alloc (.cells (refC s2 g2) 24)) = W5 at *
  clear hW
  have q2 : w.heap.size + 1 + 1 ≠ w.heap.size := by omega
  have q3 : w.heap.size + 1 + 1 + 1 ≠ w.heap.size := by omega
  have q4 : w.heap.size + 1 + 1 ≠ w2.heap.size := by omega
  have q5 : w.heap.size + 1 + 1 + 1 ≠ w2.heap.size := by omega
  have q6 : w.heap.size + 1 + 1 ≠ w.heap.size + 1 + 1 + 1 := by omega
  have q7 : w.heap.size + 1 + 1 + 1 ≠ w.heap.size + 1 + 1 := by omega
  have y2 := b2.cell
  have x2 := b2.free
  have y3 := b3.cell
  have x3 := b3.free
  refine wp_region_held_drew (S := fun W' => (∀ j, W'.cell? ⟨w.heap.size, j, none⟩ = (obC n s0 g0 s1 g1 s g s3 g3 h)[j]?) ∧ (∀ j, W'.cell? ⟨w2.heap.size, j, none⟩ = (refC s2 g2)[j]?)) (by kernel_rfl) ?_ (fun hHeld => ?_)
  · exact ⟨b0.cell, b4.cell⟩
  refine' wpAnyH_take (i := 0) (oi := _) (v := _) ?_ (by kernel_rfl) (by kernel_rfl) (by kernel_rfl) ?_ (Or.inl ⟨?_, ?_⟩) (by assumption) ?_
  rotate_left 2
  · (simp only [List.getElem?_toArray, List.getElem?_cons_succ, List.getElem?_cons_zero]; rfl)
  · first | exact fun _ _ _ h => h | exact fun _ _ _ h => nomatch h.1
  · rfl
  · (intro W hSW; (try dsimp only at hSW); go_split_ands; first | (go_simp; done) | (go_simp; with_reducible rfl))
  try simp only [Act.put, List.setIfInBounds_toArray, List.set_cons_zero, List.set_cons_succ]
  refine' wpAnyH_take (i := 1) (oi := _) (v := _) ?_ (by kernel_rfl) (by kernel_rfl) (by kernel_rfl) ?_ (Or.inl ⟨?_, ?_⟩) (by assumption) ?_
  rotate_left 2
  · (simp only [List.getElem?_toArray, List.getElem?_cons_succ, List.getElem?_cons_zero]; rfl)
  · first | exact fun _ _ _ h => h | exact fun _ _ _ h => nomatch h.1
  · rfl
  · (intro W hSW; (try dsimp only at hSW); go_split_ands; first | (go_simp; done) | (go_simp; with_reducible rfl))
  try simp only [Act.put, List.setIfInBounds_toArray, List.set_cons_zero, List.set_cons_succ]
  refine wpAnyH_ready (rs := [2]) (by kernel_rfl) (by simp) ?_
  refine' AllReadyH.cons (o := _) ?_ (fun K hK => ?_) AllReadyH.nil
  rotate_left 1
  · (simp only [List.getElem?_toArray, List.getElem?_cons_succ, List.getElem?_cons_zero]; rfl)
  go_simp
  have e0 := ((((((((((b0.other q2 0 (.int .i64 n)).other q2 1 (.int .i64 s0)).other q2 2 (.int .u32 g0)).other q2 3 (.int .i64 s1)).other q2 4 (.int .u32 g1)).other q2 5 (.int .i64 s)).other q2 6 (.int .u32 g)).other q2 7 (.int .i64 s3)).other q2 8 (.int .u32 g3)).other q2 9 (.bool h)).drew
  have e4 := ((((((((((b4.other q4 0 (.int .i64 n)).other q4 1 (.int .i64 s0)).other q4 2 (.int .u32 g0)).other q4 3 (.int .i64 s1)).other q4 4 (.int .u32 g1)).other q4 5 (.int .i64 s)).other q4 6 (.int .u32 g)).other q4 7 (.int .i64 s3)).other q4 8 (.int .u32 g3)).other q4 9 (.bool h)).drew
  have e3 := ((((((((((b3.other q6 0 (.int .i64 n)).other q6 1 (.int .i64 s0)).other q6 2 (.int .u32 g0)).other q6 3 (.int .i64 s1)).other q6 4 (.int .u32 g1)).other q6 5 (.int .i64 s)).other q6 6 (.int .u32 g)).other q6 7 (.int .i64 s3)).other q6 8 (.int .u32 g3)).other q6 9 (.bool h)).drew
  have e2 := ((((((((((b2.set 0 (.int .i64 n)).set 1 (.int .i64 s0)).set 2 (.int .u32 g0)).set 3 (.int .i64 s1)).set 4 (.int .u32 g1)).set 5 (.int .i64 s)).set 6 (.int .u32 g)).set 7 (.int .i64 s3)).set 8 (.int .u32 g3)).set 9 (.bool h)).drew
  have ecb : Below w.heap.size w ((((((((((W5.setCell ⟨w.heap.size + 1 + 1, 0, none⟩ (.int .i64 n)).setCell ⟨w.heap.size + 1 + 1, 1, none⟩ (.int .i64 s0)).setCell ⟨w.heap.size + 1 + 1, 2, none⟩ (.int .u32 g0)).setCell ⟨w.heap.size + 1 + 1, 3, none⟩ (.int .i64 s1)).setCell ⟨w.heap.size + 1 + 1, 4, none⟩ (.int .u32 g1)).setCell ⟨w.heap.size + 1 + 1, 5, none⟩ (.int .i64 s)).setCell ⟨w.heap.size + 1 + 1, 6, none⟩ (.int .u32 g)).setCell ⟨w.heap.size + 1 + 1, 7, none⟩ (.int .i64 s3)).setCell ⟨w.heap.size + 1 + 1, 8, none⟩ (.int .u32 g3)).setCell ⟨w.heap.size + 1 + 1, 9, none⟩ (.bool h)).drew := Below.drew (((((((((((hcb.setCell (p := ⟨w.heap.size + 1 + 1, 0, none⟩) (by simp; omega) _).setCell (p := ⟨w.heap.size + 1 + 1, 1, none⟩) (by simp; omega) _).setCell (p := ⟨w.heap.size + 1 + 1, 2, none⟩) (by simp; omega) _).setCell (p := ⟨w.heap.size + 1 + 1, 3, none⟩) (by simp; omega) _).setCell (p := ⟨w.heap.size + 1 + 1, 4, none⟩) (by simp; omega) _).setCell (p := ⟨w.heap.size + 1 + 1, 5, none⟩) (by simp; omega) _).setCell (p := ⟨w.heap.size + 1 + 1, 6, none⟩) (by simp; omega) _).setCell (p := ⟨w.heap.size + 1 + 1, 7, none⟩) (by simp; omega) _).setCell (p := ⟨w.heap.size + 1 + 1, 8, none⟩) (by simp; omega) _).setCell (p := ⟨w.heap.size + 1 + 1, 9, none⟩) (by simp; omega) _))
  refine hK.out _ _ ⟨e0.cell, e4.cell⟩ (fun hHeld => ?_)
  clear hK K
  simp only [ob0C, List.setIfInBounds_toArray, List.set_cons_succ, List.set_cons_zero] at e2
  clear b0 b2 b3 b4 y2 x2 y3 x3 hcb
  generalize hW : ((((((((((W5.setCell ⟨w.heap.size + 1 + 1, 0, none⟩ (.int .i64 n)).setCell ⟨w.heap.size + 1 + 1, 1, none⟩ (.int .i64 s0)).setCell ⟨w.heap.size + 1 + 1, 2, none⟩ (.int .u32 g0)).setCell ⟨w.heap.size + 1 + 1, 3, none⟩ (.int .i64 s1)).setCell ⟨w.heap.size + 1 + 1, 4, none⟩ (.int .u32 g1)).setCell ⟨w.heap.size + 1 + 1, 5, none⟩ (.int .i64 s)).setCell ⟨w.heap.size + 1 + 1, 6, none⟩ (.int .u32 g)).setCell ⟨w.heap.size + 1 + 1, 7, none⟩ (.int .i64 s3)).setCell ⟨w.heap.size + 1 + 1, 8, none⟩ (.int .u32 g3)).setCell ⟨w.heap.size + 1 + 1, 9, none⟩ (.bool h)).drew = W6 at *
  clear hW
  have y3 := e3.cell
  have x3 := e3.free
  refine wpAnyH_ready (rs := [3]) (by kernel_rfl) (by simp) ?_
  refine' AllReadyH.cons (o := _) ?_ (fun K hK => ?_) AllReadyH.nil
  rotate_left 1
  · (simp only [List.getElem?_toArray, List.getElem?_cons_succ, List.getElem?_cons_zero]; rfl)
  go_simp
  have i0 := ((e0.other q3 0 (.int .i64 s2)).other q3 1 (.int .u32 g2))
  have i4 := ((e4.other q5 0 (.int .i64 s2)).other q5 1 (.int .u32 g2))
  have i2 := ((e2.other q7 0 (.int .i64 s2)).other q7 1 (.int .u32 g2))
  have i3 := ((e3.set 0 (.int .i64 s2)).set 1 (.int .u32 g2))
  have icb : Below w.heap.size w ((W6.setCell ⟨w.heap.size + 1 + 1 + 1, 0, none⟩ (.int .i64 s2)).setCell ⟨w.heap.size + 1 + 1 + 1, 1, none⟩ (.int .u32 g2)) := ((ecb.setCell (p := ⟨w.heap.size + 1 + 1 + 1, 0, none⟩) (by simp; omega) _).setCell (p := ⟨w.heap.size + 1 + 1 + 1, 1, none⟩) (by simp; omega) _)
  refine hK.out _ _ ⟨i0.cell, i4.cell⟩ (fun hHeld => ?_)
  clear hK K
  simp only [refC, List.setIfInBounds_toArray, List.set_cons_succ, List.set_cons_zero] at i3
  clear e0 e2 e3 e4 y3 x3 ecb
  generalize hW : ((W6.setCell ⟨w.heap.size + 1 + 1 + 1, 0, none⟩ (.int .i64 s2)).setCell ⟨w.heap.size + 1 + 1 + 1, 1, none⟩ (.int .u32 g2)) = W7 at *
  clear hW
  refine' wpAnyH_take (i := 4) (oi := _) (v := _) ?_ (by kernel_rfl) (by kernel_rfl) (by kernel_rfl) ?_ (Or.inl ⟨?_, ?_⟩) (by assumption) ?_
  rotate_left 2
  · (simp only [List.getElem?_toArray, List.getElem?_cons_succ, List.getElem?_cons_zero]; rfl)
  · first | exact fun _ _ _ h => h | exact fun _ _ _ h => nomatch h.1
  · rfl
  · (intro W hSW; (try dsimp only at hSW); go_split_ands; first | (go_simp; done) | (go_simp; with_reducible rfl))
  try simp only [Act.put, List.setIfInBounds_toArray, List.set_cons_zero, List.set_cons_succ]
  refine wpAnyH_done (by kernel_rfl) ?_ _
  go_wp2_with fail
  have y2 := i2.cell
  have y3 := i3.cell
  refine bodyPost_ret (v := .tuple #[obV n s0 g0 s1 g1 s g s3 g3 h, refV s2 g2, .int .i64 0]) (by simp [results, Tryd.results22, go_sem, y2, y3]) rfl ⟨rfl, icb⟩
set_option maxHeartbeats 16000000 in
set_option maxRecDepth 20000 in
theorem rset_ok3 (n s0 g0 s1 g1 s2 g2 s3 g3 : Int) (h : Bool) (s g : Int) (w : World) (hk : ∀ w, Ret 14 #[obV n s0 g0 s1 g1 s2 g2 s3 g3 h] w (.int .i64 0)) (hw : ∀ w, Ret 32 #[refV s g] w (.bool false)) (hi : 3 < n) :
    Ret 22 #[obV n s0 g0 s1 g1 s2 g2 s3 g3 h, .int .i64 3, refV s g] w (.tuple #[obV n s0 g0 s1 g1 s2 g2 s g h, refV s3 g3, .int .i64 0]) := by
  have HK := Lib.hid hk
  have HW := Lib.hid hw
  clear hk hw
  have r0 : Row (w.alloc (.cells (obC n s0 g0 s1 g1 s2 g2 s3 g3 h) 31)) w.heap.size (obC n s0 g0 s1 g1 s2 g2 s3 g3 h) 31 := Row.new
  have r1 : Row ((w.alloc (.cells (obC n s0 g0 s1 g1 s2 g2 s3 g3 h) 31)).alloc (.cells (refC s g) 24)) (w.heap.size + 1) (refC s g) 24 := by simpa using Row.new (W := w.alloc (.cells (obC n s0 g0 s1 g1 s2 g2 s3 g3 h) 31)) (cs := refC s g) (t := 24)
  have r2 : Row (((w.alloc (.cells (obC n s0 g0 s1 g1 s2 g2 s3 g3 h) 31)).alloc (.cells (refC s g) 24)).alloc (.cells ob0C 31)) (w.heap.size + 1 + 1) ob0C 31 := by simpa using Row.new (W := (w.alloc (.cells (obC n s0 g0 s1 g1 s2 g2 s3 g3 h) 31)).alloc (.cells (refC s g) 24)) (cs := ob0C) (t := 31)
  have r3 : Row ((((w.alloc (.cells (obC n s0 g0 s1 g1 s2 g2 s3 g3 h) 31)).alloc (.cells (refC s g) 24)).alloc (.cells ob0C 31)).alloc (.cells (refC 0 0) 24)) (w.heap.size + 1 + 1 + 1) (refC 0 0) 24 := by simpa using Row.new (W := ((w.alloc (.cells (obC n s0 g0 s1 g1 s2 g2 s3 g3 h) 31)).alloc (.cells (refC s g) 24)).alloc (.cells ob0C 31)) (cs := refC 0 0) (t := 24)
  have R0 := ((r0.on (below_alloc _ (.cells (refC s g) 24))).on (below_alloc _ (.cells ob0C 31))).on (below_alloc _ (.cells (refC 0 0) 24))
  have R1 := (r1.on (below_alloc _ (.cells ob0C 31))).on (below_alloc _ (.cells (refC 0 0) 24))
  have R2 := r2.on (below_alloc _ (.cells (refC 0 0) 24))
  have HR := Lib.hid (And.intro R0 (And.intro R1 (And.intro R2 r3)))
  clear r0 r1 r2 r3 R0 R1 R2
  go_enter Tryd.func22, Tryd.ntmps22
  go_wp2_with fail
  refine Calls.mono (HK.out _) ?_
  rintro e w1 ⟨rfl, hb1⟩
  obtain ⟨a0, a1, a2, a3⟩ := HR.out
  replace a0 := a0.on hb1
  replace a1 := a1.on hb1
  replace a2 := a2.on hb1
  replace a3 := a3.on hb1
  have hc1 : Below w.heap.size w w1 := under hb1
  clear hb1 HR
  have c1 := a1.cell
  go_wp2_with fail
  refine Calls.mono (HW.out _) ?_
  rintro e w2 ⟨rfl, hb2⟩
  clear c1
  replace a0 := a0.on hb2
  replace a1 := a1.on hb2
  replace a2 := a2.on hb2
  replace a3 := a3.on hb2
  have hc2 : Below w.heap.size w w2 := chain hc1 hb2
  clear hb2 hc1
  have z0 := a0.lt
  have z1 := a1.lt
  have z2 := a2.lt
  have z3 := a3.lt
  have c0 := a0.cell
  have d0 := a0.free
  have c1 := a1.cell
  go_wp2_with fail
  clear c0 d0 c1 z0 z1
  have b0 := (a0.set 7 (.int .i64 s)).set 8 (.int .u32 g)
  simp only [obC, List.setIfInBounds_toArray, List.set_cons_succ, List.set_cons_zero] at b0
  have b2 := (a2.other (y := w.heap.size) (by omega) 7 (.int .i64 s)).other (y := w.heap.size) (by omega) 8 (.int .u32 g)
  have b3 := (a3.other (y := w.heap.size) (by omega) 7 (.int .i64 s)).other (y := w.heap.size) (by omega) 8 (.int .u32 g)
  have hcb : Below w.heap.size w ((w2.setCell ⟨w.heap.size, 7, none⟩ (.int .i64 s)).setCell ⟨w.heap.size, 8, none⟩ (.int .u32 g)) := (hc2.setCell (p := ⟨w.heap.size, 7, none⟩) (by simp) _).setCell (p := ⟨w.heap.size, 8, none⟩) (by simp) _
  have b4 : Row (((w2.setCell ⟨w.heap.size, 7, none⟩ (.int .i64 s)).setCell ⟨w.heap.size, 8, none⟩ (.int .u32 g)).alloc (.cells (refC s3 g3) 24)) w2.heap.size (refC s3 g3) 24 := by simpa using Row.new (W := (w2.setCell ⟨w.heap.size, 7, none⟩ (.int .i64 s)).setCell ⟨w.heap.size, 8, none⟩ (.int .u32 g)) (cs := refC s3 g3) (t := 24)
  replace b0 := b0.on (below_alloc _ (.cells (refC s3 g3) 24))
  replace b2 := b2.on (below_alloc _ (.cells (refC s3 g3) 24))
  replace b3 := b3.on (below_alloc _ (.cells (refC s3 g3) 24))
  replace hcb : Below w.heap.size w (((w2.setCell ⟨w.heap.size, 7, none⟩ (.int .i64 s)).setCell ⟨w.heap.size, 8, none⟩ (.int .u32 g)).alloc (.cells (refC s3 g3) 24)) := hcb.alloc (by simpa using hc2.size) _
  clear a0 a1 a2 a3 hc2
  generalize hW : (((w2.setCell ⟨w.heap.size, 7, none⟩ (.int .i64 s)).setCell ⟨w.heap.size, 8, none⟩ (.int .u32 g)).alloc (.cells (refC s3 g3) 24)) = W5 at *
  clear hW
  have q2 : w.heap.size + 1 + 1 ≠ w.heap.size := by omega
  have q3 : w.heap.size + 1 + 1 + 1 ≠ w.heap.size := by omega
  have q4 : w.heap.size + 1 + 1 ≠ w2.heap.size := by omega
  have q5 : w.heap.size + 1 + 1 + 1 ≠ w2.heap.size := by omega
  have q6 : w.heap.size + 1 + 1 ≠ w.heap.size + 1 + 1 + 1 := by omega
  have q7 : w.heap.size + 1 + 1 + 1 ≠ w.heap.size + 1 + 1 := by omega
  have y2 := b2.cell
  have x2 := b2.free
  have y3 := b3.cell
  have x3 := b3.free
  refine wp_region_held_drew (S := fun W' => (∀ j, W'.cell? ⟨w.heap.size, j, none⟩ = (obC n s0 g0 s1 g1 s2 g2 s g h)[j]?) ∧ (∀ j, W'.cell? ⟨w2.heap.size, j, none⟩ = (refC s3 g3)[j]?)) (by kernel_rfl) ?_ (fun hHeld => ?_)
  · exact ⟨b0.cell, b4.cell⟩
  refine' wpAnyH_take (i := 0) (oi := _) (v := _) ?_ (by kernel_rfl) (by kernel_rfl) (by kernel_rfl) ?_ (Or.inl ⟨?_, ?_⟩) (by assumption) ?_
  rotate_left 2
  · (simp only [List.getElem?_toArray, List.getElem?_cons_succ, List.getElem?_cons_zero]; rfl)
  · first | exact fun _ _ _ h => h | exact fun _ _ _ h => nomatch h.1
  · rfl
  · (intro W hSW; (try dsimp only at hSW); go_split_ands; first | (go_simp; done) | (go_simp; with_reducible rfl))
  try simp only [Act.put, List.setIfInBounds_toArray, List.set_cons_zero, List.set_cons_succ]
  refine' wpAnyH_take (i := 1) (oi := _) (v := _) ?_ (by kernel_rfl) (by kernel_rfl) (by kernel_rfl) ?_ (Or.inl ⟨?_, ?_⟩) (by assumption) ?_
  rotate_left 2
  · (simp only [List.getElem?_toArray, List.getElem?_cons_succ, List.getElem?_cons_zero]; rfl)
  · first | exact fun _ _ _ h => h | exact fun _ _ _ h => nomatch h.1
  · rfl
  · (intro W hSW; (try dsimp only at hSW); go_split_ands; first | (go_simp; done) | (go_simp; with_reducible rfl))
  try simp only [Act.put, List.setIfInBounds_toArray, List.set_cons_zero, List.set_cons_succ]
  refine wpAnyH_ready (rs := [2]) (by kernel_rfl) (by simp) ?_
  refine' AllReadyH.cons (o := _) ?_ (fun K hK => ?_) AllReadyH.nil
  rotate_left 1
  · (simp only [List.getElem?_toArray, List.getElem?_cons_succ, List.getElem?_cons_zero]; rfl)
  go_simp
  have e0 := ((((((((((b0.other q2 0 (.int .i64 n)).other q2 1 (.int .i64 s0)).other q2 2 (.int .u32 g0)).other q2 3 (.int .i64 s1)).other q2 4 (.int .u32 g1)).other q2 5 (.int .i64 s2)).other q2 6 (.int .u32 g2)).other q2 7 (.int .i64 s)).other q2 8 (.int .u32 g)).other q2 9 (.bool h)).drew
  have e4 := ((((((((((b4.other q4 0 (.int .i64 n)).other q4 1 (.int .i64 s0)).other q4 2 (.int .u32 g0)).other q4 3 (.int .i64 s1)).other q4 4 (.int .u32 g1)).other q4 5 (.int .i64 s2)).other q4 6 (.int .u32 g2)).other q4 7 (.int .i64 s)).other q4 8 (.int .u32 g)).other q4 9 (.bool h)).drew
  have e3 := ((((((((((b3.other q6 0 (.int .i64 n)).other q6 1 (.int .i64 s0)).other q6 2 (.int .u32 g0)).other q6 3 (.int .i64 s1)).other q6 4 (.int .u32 g1)).other q6 5 (.int .i64 s2)).other q6 6 (.int .u32 g2)).other q6 7 (.int .i64 s)).other q6 8 (.int .u32 g)).other q6 9 (.bool h)).drew
  have e2 := ((((((((((b2.set 0 (.int .i64 n)).set 1 (.int .i64 s0)).set 2 (.int .u32 g0)).set 3 (.int .i64 s1)).set 4 (.int .u32 g1)).set 5 (.int .i64 s2)).set 6 (.int .u32 g2)).set 7 (.int .i64 s)).set 8 (.int .u32 g)).set 9 (.bool h)).drew
  have ecb : Below w.heap.size w ((((((((((W5.setCell ⟨w.heap.size + 1 + 1, 0, none⟩ (.int .i64 n)).setCell ⟨w.heap.size + 1 + 1, 1, none⟩ (.int .i64 s0)).setCell ⟨w.heap.size + 1 + 1, 2, none⟩ (.int .u32 g0)).setCell ⟨w.heap.size + 1 + 1, 3, none⟩ (.int .i64 s1)).setCell ⟨w.heap.size + 1 + 1, 4, none⟩ (.int .u32 g1)).setCell ⟨w.heap.size + 1 + 1, 5, none⟩ (.int .i64 s2)).setCell ⟨w.heap.size + 1 + 1, 6, none⟩ (.int .u32 g2)).setCell ⟨w.heap.size + 1 + 1, 7, none⟩ (.int .i64 s)).setCell ⟨w.heap.size + 1 + 1, 8, none⟩ (.int .u32 g)).setCell ⟨w.heap.size + 1 + 1, 9, none⟩ (.bool h)).drew := Below.drew (((((((((((hcb.setCell (p := ⟨w.heap.size + 1 + 1, 0, none⟩) (by simp; omega) _).setCell (p := ⟨w.heap.size + 1 + 1, 1, none⟩) (by simp; omega) _).setCell (p := ⟨w.heap.size + 1 + 1, 2, none⟩) (by simp; omega) _).setCell (p := ⟨w.heap.size + 1 + 1, 3, none⟩) (by simp; omega) _).setCell (p := ⟨w.heap.size + 1 + 1, 4, none⟩) (by simp; omega) _).setCell (p := ⟨w.heap.size + 1 + 1, 5, none⟩) (by simp; omega) _).setCell (p := ⟨w.heap.size + 1 + 1, 6, none⟩) (by simp; omega) _).setCell (p := ⟨w.heap.size + 1 + 1, 7, none⟩) (by simp; omega) _).setCell (p := ⟨w.heap.size + 1 + 1, 8, none⟩) (by simp; omega) _).setCell (p := ⟨w.heap.size + 1 + 1, 9, none⟩) (by simp; omega) _))
  refine hK.out _ _ ⟨e0.cell, e4.cell⟩ (fun hHeld => ?_)
  clear hK K
  simp only [ob0C, List.setIfInBounds_toArray, List.set_cons_succ, List.set_cons_zero] at e2
  clear b0 b2 b3 b4 y2 x2 y3 x3 hcb
  generalize hW : ((((((((((W5.setCell ⟨w.heap.size + 1 + 1, 0, none⟩ (.int .i64 n)).setCell ⟨w.heap.size + 1 + 1, 1, none⟩ (.int .i64 s0)).setCell ⟨w.heap.size + 1 + 1, 2, none⟩ (.int .u32 g0)).setCell ⟨w.heap.size + 1 + 1, 3, none⟩ (.int .i64 s1)).setCell ⟨w.heap.size + 1 + 1, 4, none⟩ (.int .u32 g1)).setCell ⟨w.heap.size + 1 + 1, 5, none⟩ (.int .i64 s2)).setCell ⟨w.heap.size + 1 + 1, 6, none⟩ (.int .u32 g2)).setCell ⟨w.heap.size + 1 + 1, 7, none⟩ (.int .i64 s)).setCell ⟨w.heap.size + 1 + 1, 8, none⟩ (.int .u32 g)).setCell ⟨w.heap.size + 1 + 1, 9, none⟩ (.bool h)).drew = W6 at *
  clear hW
  have y3 := e3.cell
  have x3 := e3.free
  refine wpAnyH_ready (rs := [3]) (by kernel_rfl) (by simp) ?_
  refine' AllReadyH.cons (o := _) ?_ (fun K hK => ?_) AllReadyH.nil
  rotate_left 1
  · (simp only [List.getElem?_toArray, List.getElem?_cons_succ, List.getElem?_cons_zero]; rfl)
  go_simp
  have i0 := ((e0.other q3 0 (.int .i64 s3)).other q3 1 (.int .u32 g3))
  have i4 := ((e4.other q5 0 (.int .i64 s3)).other q5 1 (.int .u32 g3))
  have i2 := ((e2.other q7 0 (.int .i64 s3)).other q7 1 (.int .u32 g3))
  have i3 := ((e3.set 0 (.int .i64 s3)).set 1 (.int .u32 g3))
  have icb : Below w.heap.size w ((W6.setCell ⟨w.heap.size + 1 + 1 + 1, 0, none⟩ (.int .i64 s3)).setCell ⟨w.heap.size + 1 + 1 + 1, 1, none⟩ (.int .u32 g3)) := ((ecb.setCell (p := ⟨w.heap.size + 1 + 1 + 1, 0, none⟩) (by simp; omega) _).setCell (p := ⟨w.heap.size + 1 + 1 + 1, 1, none⟩) (by simp; omega) _)
  refine hK.out _ _ ⟨i0.cell, i4.cell⟩ (fun hHeld => ?_)
  clear hK K
  simp only [refC, List.setIfInBounds_toArray, List.set_cons_succ, List.set_cons_zero] at i3
  clear e0 e2 e3 e4 y3 x3 ecb
  generalize hW : ((W6.setCell ⟨w.heap.size + 1 + 1 + 1, 0, none⟩ (.int .i64 s3)).setCell ⟨w.heap.size + 1 + 1 + 1, 1, none⟩ (.int .u32 g3)) = W7 at *
  clear hW
  refine' wpAnyH_take (i := 4) (oi := _) (v := _) ?_ (by kernel_rfl) (by kernel_rfl) (by kernel_rfl) ?_ (Or.inl ⟨?_, ?_⟩) (by assumption) ?_
  rotate_left 2
  · (simp only [List.getElem?_toArray, List.getElem?_cons_succ, List.getElem?_cons_zero]; rfl)
  · first | exact fun _ _ _ h => h | exact fun _ _ _ h => nomatch h.1
  · rfl
  · (intro W hSW; (try dsimp only at hSW); go_split_ands; first | (go_simp; done) | (go_simp; with_reducible rfl))
  try simp only [Act.put, List.setIfInBounds_toArray, List.set_cons_zero, List.set_cons_succ]
  refine wpAnyH_done (by kernel_rfl) ?_ _
  go_wp2_with fail
  have y2 := i2.cell
  have y3 := i3.cell
  refine bodyPost_ret (v := .tuple #[obV n s0 g0 s1 g1 s2 g2 s g h, refV s3 g3, .int .i64 0]) (by simp [results, Tryd.results22, go_sem, y2, y3]) rfl ⟨rfl, icb⟩
end Go.Proofs.YtpegkcmomkdoeaaDoor
