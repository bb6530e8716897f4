/- The reference of chapter 13: RefText, Text, ref. -/
import Derived.Test.YtpegkcmomkdoeaaDoorFieldA
import Derived.Test.YtpegkcmomkdoeaaDoorFieldRead
namespace Go.Proofs.YtpegkcmomkdoeaaDoor
open Go.RowKit
set_option linter.unusedVariables false
set_option linter.unusedSimpArgs false
theorem byt_mem (s : ByteArray) (pre : List UInt8) (c : UInt8) (post : List UInt8) (he : s.data.toList = pre ++ c :: post) (hm : c ∉ pre) (k : Nat) (h : k < pre.length) (hk : k < s.size) : s[k] ≠ c := by
  have e1 : s[k] = s.data.toList[k]'(by simpa using hk) := rfl
  intro e
  apply hm
  have e2 : pre[k] = c := by
    rw [← e, e1]
    have : (pre ++ c :: post)[k]'(by simp; omega) = pre[k] := List.getElem_append_left h
    rw [← this]
    congr 1
    exact he.symm
  rw [← e2]
  exact List.getElem_mem _
theorem byt_here (s : ByteArray) (pre : List UInt8) (c : UInt8) (post : List UInt8) (he : s.data.toList = pre ++ c :: post) (hk : pre.length < s.size) : s[pre.length] = c := by
  have e1 : s[pre.length] = s.data.toList[pre.length]'(by simpa using hk) := rfl
  rw [e1]
  have : (pre ++ c :: post)[pre.length]'(by simp) = c := by simp
  rw [← this]
  congr 1
theorem byt_no (s : ByteArray) (c : UInt8) (hm : c ∉ s.data.toList) (k : Nat) (hk : k < s.size) : s[k] ≠ c := by
  have e1 : s[k] = s.data.toList[k]'(by simpa using hk) := rfl
  intro e
  apply hm
  rw [← e, e1]
  exact List.getElem_mem _
theorem byt_ne {a c : UInt8} {m : Int} (hm : (c.toNat : Int) = m) (h : a ≠ c) : ((a.toNat : Int) == m) = false ∧ ((a.toNat : Int) != m) = true := by
  have e : ((a.toNat : Int) == m) = false := by
    rw [beq_eq_false_iff_ne, ← hm]
    intro e
    exact h (UInt8.toNat_inj.1 (by omega))
  exact ⟨e, by rw [bne, e]; rfl⟩
theorem byt_eq {a c : UInt8} {m : Int} (hm : (c.toNat : Int) = m) (h : a = c) : ((a.toNat : Int) == m) = true ∧ ((a.toNat : Int) != m) = false := by
  have e : ((a.toNat : Int) == m) = true := by rw [beq_iff_eq, h, hm]
  exact ⟨e, by rw [bne, e]; rfl⟩
set_option maxHeartbeats 4000000 in
theorem reftext_none (w : World) : Ret 38 #[refV 0 0] w (.string ⟨#[45]⟩) := by
  go_enter Tryd.func38, Tryd.ntmps38
  go_wp2_with fail
  go_returns
  exact ⟨rfl, by go_grown⟩
set_option maxHeartbeats 8000000 in
set_option maxRecDepth 20000 in
theorem reftext_ok (s g : Int) (w : World) (ho : rOk (s, g) = true) : Ret 38 #[refV s g] w (.string (rText (s, g))) := by
  obtain ⟨h0, h1, h2, h3⟩ := rOk_iff.1 ho
  simp only at h0 h1 h2 h3
  have hn := rOk_none ho
  have hq := ref_eql0 s g
  rw [hn] at hq
  have p1 := digits_size_le s.toNat (by omega)
  have p2 := digits_size_le g.toNat (by omega)
  have a1 := add_run (a := digits s.toNat) (b := ⟨#[46]⟩) rfl (by simp only [show (ByteArray.mk #[46]).size = 1 from rfl]; omega)
  have a2 := add_run (a := digits s.toNat ++ ⟨#[46]⟩) (b := digits g.toNat) rfl (by simp only [ByteArray.size_append, show (ByteArray.mk #[46]).size = 1 from rfl]; omega)
  have ht : rText (s, g) = digits s.toNat ++ ⟨#[46]⟩ ++ digits g.toNat := by unfold rText; rw [hn]; rfl
  have c1 := fun w => ref_Digits s w h0 (by omega)
  have c2 := fun w => ref_Digits g w (by omega) (by omega)
  have e1 : IntKind.u64.wrap s = s := by rw [IntKind.wrap_u64]; omega
  have e2 : IntKind.u64.wrap g = g := by rw [IntKind.wrap_u64]; omega
  rw [ht]
  have C1 := Lib.hid c1
  have C2 := Lib.hid c2
  clear ht c1 c2 hn ho
  go_enter Tryd.func38, Tryd.ntmps38
  go_wp2_with fail
  have r0 : Row (w.alloc (.cells (refC s g) 24)) w.heap.size (refC s g) 24 := Row.new
  have hb0 := below_alloc w (.cells (refC s g) 24)
  generalize hW : w.alloc (.cells (refC s g) 24) = W at *
  clear hW
  refine wp_region_held_drew (S := fun W' => ∀ j, W'.cell? ⟨w.heap.size, j, none⟩ = (refC s g)[j]?) (by kernel_rfl) r0.cell (fun hHeld => ?_)
  refine' wpAnyH_take (i := 0) (oi := _) (v := _) ?_ (by kernel_rfl) (by kernel_rfl) (by kernel_rfl) ?_ (Or.inl ⟨?_, ?_⟩) (by assumption) ?_
  rotate_left 2
  · (simp only [List.getElem?_toArray, List.getElem?_cons_succ, List.getElem?_cons_zero]; rfl)
  · first | exact fun _ _ _ h => h | exact fun _ _ _ h => nomatch h.1
  · rfl
  · (intro W hSW; (try dsimp only at hSW); go_split_ands; first | (go_simp; done) | (go_simp; with_reducible rfl))
  try simp only [Act.put, List.setIfInBounds_toArray, List.set_cons_zero, List.set_cons_succ]
  refine' wpAnyH_take (i := 1) (oi := _) (v := _) ?_ (by kernel_rfl) (by kernel_rfl) (by kernel_rfl) ?_ (Or.inl ⟨?_, ?_⟩) (by assumption) ?_
  rotate_left 2
  · (simp only [List.getElem?_toArray, List.getElem?_cons_succ, List.getElem?_cons_zero]; rfl)
  · first | exact fun _ _ _ h => h | exact fun _ _ _ h => nomatch h.1
  · rfl
  · (intro W hSW; (try dsimp only at hSW); go_split_ands; first | (go_simp; done) | (go_simp; with_reducible rfl))
  try simp only [Act.put, List.setIfInBounds_toArray, List.set_cons_zero, List.set_cons_succ]
  refine' wpAnyH_take (i := 2) (oi := _) (v := _) ?_ (by kernel_rfl) (by kernel_rfl) (by kernel_rfl) ?_ (Or.inl ⟨?_, ?_⟩) (by assumption) ?_
  rotate_left 2
  · (simp only [List.getElem?_toArray, List.getElem?_cons_succ, List.getElem?_cons_zero]; rfl)
  · first | exact fun _ _ _ h => h | exact fun _ _ _ h => nomatch h.1
  · rfl
  · (intro W hSW; (try dsimp only at hSW); go_split_ands; first | (go_simp; done) | (go_simp; with_reducible rfl))
  try simp only [Act.put, List.setIfInBounds_toArray, List.set_cons_zero, List.set_cons_succ]
  refine' wpAnyH_take (i := 5) (oi := _) (v := _) ?_ (by kernel_rfl) (by kernel_rfl) (by kernel_rfl) ?_ (Or.inl ⟨?_, ?_⟩) (by assumption) ?_
  rotate_left 2
  · (simp only [List.getElem?_toArray, List.getElem?_cons_succ, List.getElem?_cons_zero]; rfl)
  · first | exact fun _ _ _ h => h | exact fun _ _ _ h => nomatch h.1
  · rfl
  · (intro W hSW; (try dsimp only at hSW); go_split_ands; first | (go_simp; done) | (go_simp; with_reducible rfl))
  try simp only [Act.put, List.setIfInBounds_toArray, List.set_cons_zero, List.set_cons_succ]
  refine' wpAnyH_take (i := 6) (oi := _) (v := _) ?_ (by kernel_rfl) (by kernel_rfl) (by kernel_rfl) ?_ (Or.inl ⟨?_, ?_⟩) (by assumption) ?_
  rotate_left 2
  · (simp only [List.getElem?_toArray, List.getElem?_cons_succ, List.getElem?_cons_zero]; rfl)
  · first | exact fun _ _ _ h => h | exact fun _ _ _ h => nomatch h.1
  · rfl
  · (intro W hSW; (try dsimp only at hSW); go_split_ands; first | (go_simp; done) | (go_simp; with_reducible rfl))
  try simp only [Act.put, List.setIfInBounds_toArray, List.set_cons_zero, List.set_cons_succ]
  refine' wpAnyH_take (i := 7) (oi := _) (v := _) ?_ (by kernel_rfl) (by kernel_rfl) (by kernel_rfl) ?_ (Or.inl ⟨?_, ?_⟩) (by assumption) ?_
  rotate_left 2
  · (simp only [List.getElem?_toArray, List.getElem?_cons_succ, List.getElem?_cons_zero]; rfl)
  · first | exact fun _ _ _ h => h | exact fun _ _ _ h => nomatch h.1
  · rfl
  · (intro W hSW; (try dsimp only at hSW); go_split_ands; first | (go_simp; done) | (go_simp; with_reducible rfl))
  try simp only [Act.put, List.setIfInBounds_toArray, List.set_cons_zero, List.set_cons_succ]
  refine wpAnyH_ready (rs := [3]) (by kernel_rfl) (by simp) ?_
  refine' AllReadyH.cons (o := _) ?_ (fun K hK => ?_) AllReadyH.nil
  rotate_left 1
  · (simp only [List.getElem?_toArray, List.getElem?_cons_succ, List.getElem?_cons_zero]; rfl)
  go_simp
  refine (C1.out _).mono ?_
  rintro e w1 ⟨rfl, hb1⟩
  replace r0 := r0.drew.on hb1
  replace hb0 := chain hb0.drew hb1
  go_simp
  refine hK.out _ _ r0.cell (fun hHeld => ?_)
  clear hK K hb1
  refine' wpAnyH_take (i := 4) (oi := _) (v := _) ?_ (by kernel_rfl) (by kernel_rfl) (by kernel_rfl) ?_ (Or.inl ⟨?_, ?_⟩) (by assumption) ?_
  rotate_left 2
  · (simp only [List.getElem?_toArray, List.getElem?_cons_succ, List.getElem?_cons_zero]; rfl)
  · first | exact fun _ _ _ h => h | exact fun _ _ _ h => nomatch h.1
  · rfl
  · (intro W hSW; (try dsimp only at hSW); go_split_ands; first | (go_simp; done) | (go_simp; with_reducible rfl))
  try simp only [Act.put, List.setIfInBounds_toArray, List.set_cons_zero, List.set_cons_succ]
  refine wpAnyH_ready (rs := [8]) (by kernel_rfl) (by simp) ?_
  refine' AllReadyH.cons (o := _) ?_ (fun K hK => ?_) AllReadyH.nil
  rotate_left 1
  · (simp only [List.getElem?_toArray, List.getElem?_cons_succ, List.getElem?_cons_zero]; rfl)
  go_simp
  refine (C2.out _).mono ?_
  rintro e w2 ⟨rfl, hb2⟩
  replace r0 := r0.on hb2
  replace hb0 := chain hb0 hb2
  go_simp
  refine hK.out _ _ r0.cell (fun hHeld => ?_)
  clear hK K hb2
  refine' wpAnyH_take (i := 9) (oi := _) (v := _) ?_ (by kernel_rfl) (by kernel_rfl) (by kernel_rfl) ?_ (Or.inl ⟨?_, ?_⟩) (by assumption) ?_
  rotate_left 2
  · (simp only [List.getElem?_toArray, List.getElem?_cons_succ, List.getElem?_cons_zero]; rfl)
  · first | exact fun _ _ _ h => h | exact fun _ _ _ h => nomatch h.1
  · rfl
  · (intro W hSW; (try dsimp only at hSW); go_split_ands; first | (go_simp; done) | (go_simp; with_reducible rfl))
  try simp only [Act.put, List.setIfInBounds_toArray, List.set_cons_zero, List.set_cons_succ]
  refine' wpAnyH_take (i := 10) (oi := _) (v := _) ?_ (by kernel_rfl) (by kernel_rfl) (by kernel_rfl) ?_ (Or.inl ⟨?_, ?_⟩) (by assumption) ?_
  rotate_left 2
  · (simp only [List.getElem?_toArray, List.getElem?_cons_succ, List.getElem?_cons_zero]; rfl)
  · first | exact fun _ _ _ h => h | exact fun _ _ _ h => nomatch h.1
  · rfl
  · (intro W hSW; (try dsimp only at hSW); go_split_ands; first | (go_simp; done) | (go_simp; with_reducible rfl))
  try simp only [Act.put, List.setIfInBounds_toArray, List.set_cons_zero, List.set_cons_succ]
  refine wpAnyH_done (by kernel_rfl) ?_ _
  go_wp2_with fail
  go_returns
  exact ⟨rfl, hb0⟩
theorem reftext_c (r : Rf) (w : World) (h : rFit r = true) : Ret 38 #[rfV r] w (.string (rText r)) := by
  rcases rFit_cases h with rfl | ⟨_, ho⟩
  · exact (reftext_none w).to (by rw [rText_none rNone_0])
  · exact reftext_ok r.1 r.2 w ho
set_option maxHeartbeats 4000000 in
theorem rtext_bad (n s0 g0 s1 g1 s2 g2 s3 g3 : Int) (h : Bool) (w : World) (hk : ∀ w, Ret 14 #[obV n s0 g0 s1 g1 s2 g2 s3 g3 h] w (.int .i64 2)) : Ret 24 #[obV n s0 g0 s1 g1 s2 g2 s3 g3 h] w (.tuple #[.string ⟨#[]⟩, .int .i64 2]) := by
  have HK := Lib.hid hk
  clear hk
  go_enter Tryd.func24, Tryd.ntmps24
  go_wp2_with fail
  refine Calls.mono (HK.out _) ?_
  rintro e w1 ⟨rfl, hb1⟩
  go_wp2_with fail
  go_returns
  exact ⟨rfl, off_alloc hb1⟩
set_option maxHeartbeats 4000000 in
theorem rtext_han (n s0 g0 s1 g1 s2 g2 s3 g3 : Int) (w : World) (hk : ∀ w, Ret 14 #[obV n s0 g0 s1 g1 s2 g2 s3 g3 true] w (.int .i64 0)) : Ret 24 #[obV n s0 g0 s1 g1 s2 g2 s3 g3 true] w (.tuple #[.string ⟨#[104, 97, 110, 100, 108, 101]⟩, .int .i64 0]) := by
  have HK := Lib.hid hk
  have hc0 := Below.refl w.heap.size w
  clear hk
  go_enter Tryd.func24, Tryd.ntmps24
  go_wp2_with fail
  refine Calls.mono (HK.out _) ?_
  rintro e w1 ⟨rfl, hb1⟩
  obtain ⟨kk, ff⟩ := bcell hb1
  have hc1 : Below w.heap.size w w1 := under hb1
  have k1_0 : ∀ o, w1.cell? ⟨w.heap.size, o, none⟩ = _ := fun o => kk _ o (by first | assumption | omega | (simp; done) | (simp; omega))
  have f1_0 : ∀ o, w1.frozen? ⟨w.heap.size, o, none⟩ = _ := fun o => ff _ o (by first | assumption | omega | (simp; done) | (simp; omega))
  have z1_0 : w.heap.size < w1.heap.size := by have := hb1.size; (try simp at this); omega
  clear kk ff
  have hs1 := hc1.size
  clear hc0 hb1
  go_wp2_with fail
  go_returns
  exact ⟨rfl, hc1⟩
set_option maxHeartbeats 8000000 in
set_option maxRecDepth 20000 in
theorem rtext_0 (s0 g0 s1 g1 s2 g2 s3 g3 : Int) (T0 : ByteArray) (w : World) (hT : T0 = ⟨#[111, 98, 106, 101, 99, 116]⟩) (hk : ∀ w, Ret 14 #[obV 0 s0 g0 s1 g1 s2 g2 s3 g3 false] w (.int .i64 0)) : Ret 24 #[obV 0 s0 g0 s1 g1 s2 g2 s3 g3 false] w (.tuple #[.string T0, .int .i64 0]) := by
  subst hT
  have HK := Lib.hid hk

  have hc0 := Below.refl w.heap.size w
  clear hk
  go_enter Tryd.func24, Tryd.ntmps24
  go_wp2_with fail
  refine Calls.mono (HK.out _) ?_
  rintro e w1 ⟨rfl, hb1⟩
  obtain ⟨kk, ff⟩ := bcell hb1
  have hc1 : Below w.heap.size w w1 := under hb1
  have k1_0 : ∀ o, w1.cell? ⟨w.heap.size, o, none⟩ = _ := fun o => kk _ o (by first | assumption | omega | (simp; done) | (simp; omega))
  have f1_0 : ∀ o, w1.frozen? ⟨w.heap.size, o, none⟩ = _ := fun o => ff _ o (by first | assumption | omega | (simp; done) | (simp; omega))
  have z1_0 : w.heap.size < w1.heap.size := by have := hb1.size; (try simp at this); omega
  clear kk ff
  have hs1 := hc1.size
  clear hc0 hb1
  go_wp2_with fail
  refine wp_loop_rounds 1 ?_
  rw [rounds_succ]
  go_wp2_with fail
  go_returns
  exact ⟨rfl, hc1⟩
set_option maxHeartbeats 8000000 in
set_option maxRecDepth 20000 in
theorem rtext_1 (s0 g0 s1 g1 s2 g2 s3 g3 : Int) (T0 t0 A0 T1 : ByteArray) (w : World) (hT : T0 = ⟨#[111, 98, 106, 101, 99, 116]⟩) (ra0 : ∀ W, (Op.stringOp .add T0 ⟨#[32]⟩).run Tryd.prog W = .ok (.string A0) W) (rb0 : ∀ W, (Op.stringOp .add A0 t0).run Tryd.prog W = .ok (.string T1) W) (hr0 : ∀ w, Ret 38 #[refV s0 g0] w (.string t0)) (hk : ∀ w, Ret 14 #[obV 1 s0 g0 s1 g1 s2 g2 s3 g3 false] w (.int .i64 0)) : Ret 24 #[obV 1 s0 g0 s1 g1 s2 g2 s3 g3 false] w (.tuple #[.string T1, .int .i64 0]) := by
  subst hT
  have HK := Lib.hid hk
  have HR0 := Lib.hid hr0
  have hc0 := Below.refl w.heap.size w
  clear hk hr0
  go_enter Tryd.func24, Tryd.ntmps24
  go_wp2_with fail
  refine Calls.mono (HK.out _) ?_
  rintro e w1 ⟨rfl, hb1⟩
  obtain ⟨kk, ff⟩ := bcell hb1
  have hc1 : Below w.heap.size w w1 := under hb1
  have k1_0 : ∀ o, w1.cell? ⟨w.heap.size, o, none⟩ = _ := fun o => kk _ o (by first | assumption | omega | (simp; done) | (simp; omega))
  have f1_0 : ∀ o, w1.frozen? ⟨w.heap.size, o, none⟩ = _ := fun o => ff _ o (by first | assumption | omega | (simp; done) | (simp; omega))
  have z1_0 : w.heap.size < w1.heap.size := by have := hb1.size; (try simp at this); omega
  clear kk ff
  have hs1 := hc1.size
  clear hc0 hb1
  go_wp2_with fail
  refine wp_loop_rounds 2 ?_
  rw [rounds_succ]
  go_wp2_with fail
  refine Calls.mono (HR0.out _) ?_
  rintro e w2 ⟨rfl, hb2⟩
  obtain ⟨kk, ff⟩ := bcell hb2
  have hc2 : Below w.heap.size w w2 := under hb2
  have k2_0 : ∀ o, w2.cell? ⟨w.heap.size, o, none⟩ = _ := fun o => kk _ o (by first | assumption | omega | (simp; done) | (simp; omega))
  have f2_0 : ∀ o, w2.frozen? ⟨w.heap.size, o, none⟩ = _ := fun o => ff _ o (by first | assumption | omega | (simp; done) | (simp; omega))
  have z2_0 : w.heap.size < w2.heap.size := by have := hb2.size; (try simp at this); omega
  clear kk ff
  have hs2 := hc2.size
  clear hc1 hb2
  go_wp2_with fail
  rw [rounds_succ]
  go_wp2_with fail
  go_returns
  exact ⟨rfl, hc2⟩
set_option maxHeartbeats 8000000 in
set_option maxRecDepth 20000 in
theorem rtext_2 (s0 g0 s1 g1 s2 g2 s3 g3 : Int) (T0 t0 A0 T1 t1 A1 T2 : ByteArray) (w : World) (hT : T0 = ⟨#[111, 98, 106, 101, 99, 116]⟩) (ra0 : ∀ W, (Op.stringOp .add T0 ⟨#[32]⟩).run Tryd.prog W = .ok (.string A0) W) (rb0 : ∀ W, (Op.stringOp .add A0 t0).run Tryd.prog W = .ok (.string T1) W) (hr0 : ∀ w, Ret 38 #[refV s0 g0] w (.string t0)) (ra1 : ∀ W, (Op.stringOp .add T1 ⟨#[32]⟩).run Tryd.prog W = .ok (.string A1) W) (rb1 : ∀ W, (Op.stringOp .add A1 t1).run Tryd.prog W = .ok (.string T2) W) (hr1 : ∀ w, Ret 38 #[refV s1 g1] w (.string t1)) (hk : ∀ w, Ret 14 #[obV 2 s0 g0 s1 g1 s2 g2 s3 g3 false] w (.int .i64 0)) : Ret 24 #[obV 2 s0 g0 s1 g1 s2 g2 s3 g3 false] w (.tuple #[.string T2, .int .i64 0]) := by
  subst hT
  have HK := Lib.hid hk
  have HR0 := Lib.hid hr0
  have HR1 := Lib.hid hr1
  have hc0 := Below.refl w.heap.size w
  clear hk hr0 hr1
  go_enter Tryd.func24, Tryd.ntmps24
  go_wp2_with fail
  refine Calls.mono (HK.out _) ?_
  rintro e w1 ⟨rfl, hb1⟩
  obtain ⟨kk, ff⟩ := bcell hb1
  have hc1 : Below w.heap.size w w1 := under hb1
  have k1_0 : ∀ o, w1.cell? ⟨w.heap.size, o, none⟩ = _ := fun o => kk _ o (by first | assumption | omega | (simp; done) | (simp; omega))
  have f1_0 : ∀ o, w1.frozen? ⟨w.heap.size, o, none⟩ = _ := fun o => ff _ o (by first | assumption | omega | (simp; done) | (simp; omega))
  have z1_0 : w.heap.size < w1.heap.size := by have := hb1.size; (try simp at this); omega
  clear kk ff
  have hs1 := hc1.size
  clear hc0 hb1
  go_wp2_with fail
  refine wp_loop_rounds 3 ?_
  rw [rounds_succ]
  go_wp2_with fail
  refine Calls.mono (HR0.out _) ?_
  rintro e w2 ⟨rfl, hb2⟩
  obtain ⟨kk, ff⟩ := bcell hb2
  have hc2 : Below w.heap.size w w2 := under hb2
  have k2_0 : ∀ o, w2.cell? ⟨w.heap.size, o, none⟩ = _ := fun o => kk _ o (by first | assumption | omega | (simp; done) | (simp; omega))
  have f2_0 : ∀ o, w2.frozen? ⟨w.heap.size, o, none⟩ = _ := fun o => ff _ o (by first | assumption | omega | (simp; done) | (simp; omega))
  have z2_0 : w.heap.size < w2.heap.size := by have := hb2.size; (try simp at this); omega
  clear kk ff
  have hs2 := hc2.size
  clear hc1 hb2
  go_wp2_with fail
  rw [rounds_succ]
  go_wp2_with fail
  refine Calls.mono (HR1.out _) ?_
  rintro e w3 ⟨rfl, hb3⟩
  obtain ⟨kk, ff⟩ := bcell hb3
  have hc3 : Below w.heap.size w w3 := under hb3
  have k3_0 : ∀ o, w3.cell? ⟨w.heap.size, o, none⟩ = _ := fun o => kk _ o (by first | assumption | omega | (simp; done) | (simp; omega))
  have f3_0 : ∀ o, w3.frozen? ⟨w.heap.size, o, none⟩ = _ := fun o => ff _ o (by first | assumption | omega | (simp; done) | (simp; omega))
  have z3_0 : w.heap.size < w3.heap.size := by have := hb3.size; (try simp at this); omega
  clear kk ff
  have hs3 := hc3.size
  clear hc2 hb3
  go_wp2_with fail
  rw [rounds_succ]
  go_wp2_with fail
  go_returns
  exact ⟨rfl, hc3⟩
set_option maxHeartbeats 8000000 in
set_option maxRecDepth 20000 in
theorem rtext_3 (s0 g0 s1 g1 s2 g2 s3 g3 : Int) (T0 t0 A0 T1 t1 A1 T2 t2 A2 T3 : ByteArray) (w : World) (hT : T0 = ⟨#[111, 98, 106, 101, 99, 116]⟩) (ra0 : ∀ W, (Op.stringOp .add T0 ⟨#[32]⟩).run Tryd.prog W = .ok (.string A0) W) (rb0 : ∀ W, (Op.stringOp .add A0 t0).run Tryd.prog W = .ok (.string T1) W) (hr0 : ∀ w, Ret 38 #[refV s0 g0] w (.string t0)) (ra1 : ∀ W, (Op.stringOp .add T1 ⟨#[32]⟩).run Tryd.prog W = .ok (.string A1) W) (rb1 : ∀ W, (Op.stringOp .add A1 t1).run Tryd.prog W = .ok (.string T2) W) (hr1 : ∀ w, Ret 38 #[refV s1 g1] w (.string t1)) (ra2 : ∀ W, (Op.stringOp .add T2 ⟨#[32]⟩).run Tryd.prog W = .ok (.string A2) W) (rb2 : ∀ W, (Op.stringOp .add A2 t2).run Tryd.prog W = .ok (.string T3) W) (hr2 : ∀ w, Ret 38 #[refV s2 g2] w (.string t2)) (hk : ∀ w, Ret 14 #[obV 3 s0 g0 s1 g1 s2 g2 s3 g3 false] w (.int .i64 0)) : Ret 24 #[obV 3 s0 g0 s1 g1 s2 g2 s3 g3 false] w (.tuple #[.string T3, .int .i64 0]) := by
  subst hT
  have HK := Lib.hid hk
  have HR0 := Lib.hid hr0
  have HR1 := Lib.hid hr1
  have HR2 := Lib.hid hr2
  have hc0 := Below.refl w.heap.size w
  clear hk hr0 hr1 hr2
  go_enter Tryd.func24, Tryd.ntmps24
  go_wp2_with fail
  refine Calls.mono (HK.out _) ?_
  rintro e w1 ⟨rfl, hb1⟩
  obtain ⟨kk, ff⟩ := bcell hb1
  have hc1 : Below w.heap.size w w1 := under hb1
  have k1_0 : ∀ o, w1.cell? ⟨w.heap.size, o, none⟩ = _ := fun o => kk _ o (by first | assumption | omega | (simp; done) | (simp; omega))
  have f1_0 : ∀ o, w1.frozen? ⟨w.heap.size, o, none⟩ = _ := fun o => ff _ o (by first | assumption | omega | (simp; done) | (simp; omega))
  have z1_0 : w.heap.size < w1.heap.size := by have := hb1.size; (try simp at this); omega
  clear kk ff
  have hs1 := hc1.size
  clear hc0 hb1
  go_wp2_with fail
  refine wp_loop_rounds 4 ?_
  rw [rounds_succ]
  go_wp2_with fail
  refine Calls.mono (HR0.out _) ?_
  rintro e w2 ⟨rfl, hb2⟩
  obtain ⟨kk, ff⟩ := bcell hb2
  have hc2 : Below w.heap.size w w2 := under hb2
  have k2_0 : ∀ o, w2.cell? ⟨w.heap.size, o, none⟩ = _ := fun o => kk _ o (by first | assumption | omega | (simp; done) | (simp; omega))
  have f2_0 : ∀ o, w2.frozen? ⟨w.heap.size, o, none⟩ = _ := fun o => ff _ o (by first | assumption | omega | (simp; done) | (simp; omega))
  have z2_0 : w.heap.size < w2.heap.size := by have := hb2.size; (try simp at this); omega
  clear kk ff
  have hs2 := hc2.size
  clear hc1 hb2
  go_wp2_with fail
  rw [rounds_succ]
  go_wp2_with fail
  refine Calls.mono (HR1.out _) ?_
  rintro e w3 ⟨rfl, hb3⟩
  obtain ⟨kk, ff⟩ := bcell hb3
  have hc3 : Below w.heap.size w w3 := under hb3
  have k3_0 : ∀ o, w3.cell? ⟨w.heap.size, o, none⟩ = _ := fun o => kk _ o (by first | assumption | omega | (simp; done) | (simp; omega))
  have f3_0 : ∀ o, w3.frozen? ⟨w.heap.size, o, none⟩ = _ := fun o => ff _ o (by first | assumption | omega | (simp; done) | (simp; omega))
  have z3_0 : w.heap.size < w3.heap.size := by have := hb3.size; (try simp at this); omega
  clear kk ff
  have hs3 := hc3.size
  clear hc2 hb3
  go_wp2_with fail
  rw [rounds_succ]
  go_wp2_with fail
  refine Calls.mono (HR2.out _) ?_
  rintro e w4 ⟨rfl, hb4⟩
  obtain ⟨kk, ff⟩ := bcell hb4
  have hc4 : Below w.heap.size w w4 := under hb4
  have k4_0 : ∀ o, w4.cell? ⟨w.heap.size, o, none⟩ = _ := fun o => kk _ o (by first | assumption | omega | (simp; done) | (simp; omega))
  have f4_0 : ∀ o, w4.frozen? ⟨w.heap.size, o, none⟩ = _ := fun o => ff _ o (by first | assumption | omega | (simp; done) | (simp; omega))
  have z4_0 : w.heap.size < w4.heap.size := by have := hb4.size; (try simp at this); omega
  clear kk ff
  have hs4 := hc4.size
  clear hc3 hb4
  go_wp2_with fail
  rw [rounds_succ]
  go_wp2_with fail
  go_returns
  exact ⟨rfl, hc4⟩
set_option maxHeartbeats 8000000 in
set_option maxRecDepth 20000 in
theorem rtext_4 (s0 g0 s1 g1 s2 g2 s3 g3 : Int) (T0 t0 A0 T1 t1 A1 T2 t2 A2 T3 t3 A3 T4 : ByteArray) (w : World) (hT : T0 = ⟨#[111, 98, 106, 101, 99, 116]⟩) (ra0 : ∀ W, (Op.stringOp .add T0 ⟨#[32]⟩).run Tryd.prog W = .ok (.string A0) W) (rb0 : ∀ W, (Op.stringOp .add A0 t0).run Tryd.prog W = .ok (.string T1) W) (hr0 : ∀ w, Ret 38 #[refV s0 g0] w (.string t0)) (ra1 : ∀ W, (Op.stringOp .add T1 ⟨#[32]⟩).run Tryd.prog W = .ok (.string A1) W) (rb1 : ∀ W, (Op.stringOp .add A1 t1).run Tryd.prog W = .ok (.string T2) W) (hr1 : ∀ w, Ret 38 #[refV s1 g1] w (.string t1)) (ra2 : ∀ W, (Op.stringOp .add T2 ⟨#[32]⟩).run Tryd.prog W = .ok (.string A2) W) (rb2 : ∀ W, (Op.stringOp .add A2 t2).run Tryd.prog W = .ok (.string T3) W) (hr2 : ∀ w, Ret 38 #[refV s2 g2] w (.string t2)) (ra3 : ∀ W, (Op.stringOp .add T3 ⟨#[32]⟩).run Tryd.prog W = .ok (.string A3) W) (rb3 : ∀ W, (Op.stringOp .add A3 t3).run Tryd.prog W = .ok (.string T4) W) (hr3 : ∀ w, Ret 38 #[refV s3 g3] w (.string t3)) (hk : ∀ w, Ret 14 #[obV 4 s0 g0 s1 g1 s2 g2 s3 g3 false] w (.int .i64 0)) : Ret 24 #[obV 4 s0 g0 s1 g1 s2 g2 s3 g3 false] w (.tuple #[.string T4, .int .i64 0]) := by
  subst hT
  have HK := Lib.hid hk
  have HR0 := Lib.hid hr0
  have HR1 := Lib.hid hr1
  have HR2 := Lib.hid hr2
  have HR3 := Lib.hid hr3
  have hc0 := Below.refl w.heap.size w
  clear hk hr0 hr1 hr2 hr3
  go_enter Tryd.func24, Tryd.ntmps24
  go_wp2_with fail
  refine Calls.mono (HK.out _) ?_
  rintro e w1 ⟨rfl, hb1⟩
  obtain ⟨kk, ff⟩ := bcell hb1
  have hc1 : Below w.heap.size w w1 := under hb1
  have k1_0 : ∀ o, w1.cell? ⟨w.heap.size, o, none⟩ = _ := fun o => kk _ o (by first | assumption | omega | (simp; done) | (simp; omega))
  have f1_0 : ∀ o, w1.frozen? ⟨w.heap.size, o, none⟩ = _ := fun o => ff _ o (by first | assumption | omega | (simp; done) | (simp; omega))
  have z1_0 : w.heap.size < w1.heap.size := by have := hb1.size; (try simp at this); omega
  clear kk ff
  have hs1 := hc1.size
  clear hc0 hb1
  go_wp2_with fail
  refine wp_loop_rounds 5 ?_
  rw [rounds_succ]
  go_wp2_with fail
  refine Calls.mono (HR0.out _) ?_
  rintro e w2 ⟨rfl, hb2⟩
  obtain ⟨kk, ff⟩ := bcell hb2
  have hc2 : Below w.heap.size w w2 := under hb2
  have k2_0 : ∀ o, w2.cell? ⟨w.heap.size, o, none⟩ = _ := fun o => kk _ o (by first | assumption | omega | (simp; done) | (simp; omega))
  have f2_0 : ∀ o, w2.frozen? ⟨w.heap.size, o, none⟩ = _ := fun o => ff _ o (by first | assumption | omega | (simp; done) | (simp; omega))
  have z2_0 : w.heap.size < w2.heap.size := by have := hb2.size; (try simp at this); omega
  clear kk ff
  have hs2 := hc2.size
  clear hc1 hb2
  go_wp2_with fail
  rw [rounds_succ]
  go_wp2_with fail
  refine Calls.mono (HR1.out _) ?_
  rintro e w3 ⟨rfl, hb3⟩
  obtain ⟨kk, ff⟩ := bcell hb3
  have hc3 : Below w.heap.size w w3 := under hb3
  have k3_0 : ∀ o, w3.cell? ⟨w.heap.size, o, none⟩ = _ := fun o => kk _ o (by first | assumption | omega | (simp; done) | (simp; omega))
  have f3_0 : ∀ o, w3.frozen? ⟨w.heap.size, o, none⟩ = _ := fun o => ff _ o (by first | assumption | omega | (simp; done) | (simp; omega))
  have z3_0 : w.heap.size < w3.heap.size := by have := hb3.size; (try simp at this); omega
  clear kk ff
  have hs3 := hc3.size
  clear hc2 hb3
  go_wp2_with fail
  rw [rounds_succ]
  go_wp2_with fail
  refine Calls.mono (HR2.out _) ?_
  rintro e w4 ⟨rfl, hb4⟩
  obtain ⟨kk, ff⟩ := bcell hb4
  have hc4 : Below w.heap.size w w4 := under hb4
  have k4_0 : ∀ o, w4.cell? ⟨w.heap.size, o, none⟩ = _ := fun o => kk _ o (by first | assumption | omega | (simp; done) | (simp; omega))
  have f4_0 : ∀ o, w4.frozen? ⟨w.heap.size, o, none⟩ = _ := fun o => ff _ o (by first | assumption | omega | (simp; done) | (simp; omega))
  have z4_0 : w.heap.size < w4.heap.size := by have := hb4.size; (try simp at this); omega
  clear kk ff
  have hs4 := hc4.size
  clear hc3 hb4
  go_wp2_with fail
  rw [rounds_succ]
  go_wp2_with fail
  refine Calls.mono (HR3.out _) ?_
  rintro e w5 ⟨rfl, hb5⟩
  obtain ⟨kk, ff⟩ := bcell hb5
  have hc5 : Below w.heap.size w w5 := under hb5
  have k5_0 : ∀ o, w5.cell? ⟨w.heap.size, o, none⟩ = _ := fun o => kk _ o (by first | assumption | omega | (simp; done) | (simp; omega))
  have f5_0 : ∀ o, w5.frozen? ⟨w.heap.size, o, none⟩ = _ := fun o => ff _ o (by first | assumption | omega | (simp; done) | (simp; omega))
  have z5_0 : w.heap.size < w5.heap.size := by have := hb5.size; (try simp at this); omega
  clear kk ff
  have hs5 := hc5.size
  clear hc4 hb5
  go_wp2_with fail
  rw [rounds_succ]
  go_wp2_with fail
  go_returns
  exact ⟨rfl, hc5⟩
theorem rtext_c (n : Int) (a b c d : Rf) (h : Bool) (w : World) (ua : u32 a.2) (ub : u32 b.2) (uc : u32 c.2) (ud : u32 d.2) :
    Ret 24 #[obR n a b c d h] w (if oOk n a b c d h then .tuple #[.string (oText n a b c d h), .int .i64 0] else .tuple #[.string ⟨#[]⟩, .int .i64 2]) := by
  have hk := fun w => rcheck_c n a.1 a.2 b.1 b.2 c.1 c.2 d.1 d.2 h w ua ub uc ud
  unfold oErr at hk
  cases ho : oOk n a b c d h
  · rw [ho] at hk
    rw [if_neg (by simp)]
    exact rtext_bad n _ _ _ _ _ _ _ _ h w hk
  · rw [ho] at hk
    rw [if_pos rfl]
    obtain ⟨⟨n0, n1⟩, hn, f0, f1, f2, f3⟩ := oOk_iff.1 ho
    cases h with
    | true =>
      obtain rfl := hn rfl
      refine (rtext_han 0 _ _ _ _ _ _ _ _ w hk).to ?_
      rfl
    | false =>
      have l0 := (rL_len (fOk_fit f0)).1
      have l1 := (rL_len (fOk_fit f1)).1
      have l2 := (rL_len (fOk_fit f2)).1
      have l3 := (rL_len (fOk_fit f3)).1
      rw [← rText_list, len_bytes] at l0 l1 l2 l3
      have r0 := fun w => reftext_c a w (fOk_fit f0)
      have r1 := fun w => reftext_c b w (fOk_fit f1)
      have r2 := fun w => reftext_c c w (fOk_fit f2)
      have r3 := fun w => reftext_c d w (fOk_fit f3)
      have sp : (ByteArray.mk #[32]).size = 1 := rfl
      have so : (ByteArray.mk #[111, 98, 106, 101, 99, 116]).size = 6 := rfl
      have ha : ∀ A B : ByteArray, A.size + B.size ≤ 1000000 → ∀ W, (Op.stringOp .add A B).run Tryd.prog W = .ok (.string (A ++ B)) W := fun A B h => add_run rfl h
      rcases (by omega : n = 0 ∨ n = 1 ∨ n = 2 ∨ n = 3 ∨ n = 4) with rfl | rfl | rfl | rfl | rfl
      · refine (rtext_0 _ _ _ _ _ _ _ _ _ w rfl hk).to ?_
        refine congrArg (fun t => Value.tuple #[.string t, .int .i64 0]) (str_ext ?_)
        rw [oText_list, oL_fL]
        simp [fL, kindL, rText_list]
      · refine (rtext_1 _ _ _ _ _ _ _ _ _ _ _ _ w rfl (ha _ _ (by simp only [ByteArray.size_append, sp, so]; omega)) (ha _ _ (by simp only [ByteArray.size_append, sp, so]; omega)) r0 hk).to ?_
        refine congrArg (fun t => Value.tuple #[.string t, .int .i64 0]) (str_ext ?_)
        rw [oText_list, oL_fL]
        simp [fL, kindL, rText_list]
      · refine (rtext_2 _ _ _ _ _ _ _ _ _ _ _ _ _ _ _ w rfl (ha _ _ (by simp only [ByteArray.size_append, sp, so]; omega)) (ha _ _ (by simp only [ByteArray.size_append, sp, so]; omega)) r0 (ha _ _ (by simp only [ByteArray.size_append, sp, so]; omega)) (ha _ _ (by simp only [ByteArray.size_append, sp, so]; omega)) r1 hk).to ?_
        refine congrArg (fun t => Value.tuple #[.string t, .int .i64 0]) (str_ext ?_)
        rw [oText_list, oL_fL]
        simp [fL, kindL, rText_list]
      · refine (rtext_3 _ _ _ _ _ _ _ _ _ _ _ _ _ _ _ _ _ _ w rfl (ha _ _ (by simp only [ByteArray.size_append, sp, so]; omega)) (ha _ _ (by simp only [ByteArray.size_append, sp, so]; omega)) r0 (ha _ _ (by simp only [ByteArray.size_append, sp, so]; omega)) (ha _ _ (by simp only [ByteArray.size_append, sp, so]; omega)) r1 (ha _ _ (by simp only [ByteArray.size_append, sp, so]; omega)) (ha _ _ (by simp only [ByteArray.size_append, sp, so]; omega)) r2 hk).to ?_
        refine congrArg (fun t => Value.tuple #[.string t, .int .i64 0]) (str_ext ?_)
        rw [oText_list, oL_fL]
        simp [fL, kindL, rText_list]
      · refine (rtext_4 _ _ _ _ _ _ _ _ _ _ _ _ _ _ _ _ _ _ _ _ _ w rfl (ha _ _ (by simp only [ByteArray.size_append, sp, so]; omega)) (ha _ _ (by simp only [ByteArray.size_append, sp, so]; omega)) r0 (ha _ _ (by simp only [ByteArray.size_append, sp, so]; omega)) (ha _ _ (by simp only [ByteArray.size_append, sp, so]; omega)) r1 (ha _ _ (by simp only [ByteArray.size_append, sp, so]; omega)) (ha _ _ (by simp only [ByteArray.size_append, sp, so]; omega)) r2 (ha _ _ (by simp only [ByteArray.size_append, sp, so]; omega)) (ha _ _ (by simp only [ByteArray.size_append, sp, so]; omega)) r3 hk).to ?_
        refine congrArg (fun t => Value.tuple #[.string t, .int .i64 0]) (str_ext ?_)
        rw [oText_list, oL_fL]
        simp [fL, kindL, rText_list]
set_option maxHeartbeats 4000000 in
theorem ref_dash (w : World) : Ret 40 #[.string ⟨#[45]⟩] w (.tuple #[refV 0 0, .bool true]) := by
  go_enter Tryd.func40, Tryd.ntmps40
  go_wp2_with fail
  refine bodyPost_ret (v := .tuple #[refV 0 0, .bool true]) (by simp [results, Tryd.results40, go_sem]) rfl ⟨rfl, by go_grown⟩
set_option maxHeartbeats 8000000 in
set_option maxRecDepth 20000 in
theorem ref_no (s : ByteArray) (hs : s.size ≤ 100000) (hd : (s.toList == [45]) = false) (hn : (46 : UInt8) ∉ s.data.toList) (w : World) : Ret 40 #[.string s] w (.tuple #[refV 0 0, .bool false]) := by
  have hne := fun k hk => byt_ne (c := 46) (m := 46) rfl (byt_no s 46 hn k hk)
  have HN := Lib.hid hne
  clear hne hn
  go_enter Tryd.func40, Tryd.ntmps40
  go_wp2_with fail
  go_loop [4] (fun at_ => ∃ k : Nat, k ≤ s.size ∧ at_ = .int .i64 k) (fun at_ => s.size - (intOf at_).toNat)
  case atStart => exact ⟨0, Nat.zero_le _, rfl⟩
  case round =>
    obtain ⟨k, hk, rfl⟩ := hrel
    by_cases hlt : k < s.size
    · obtain ⟨e1, e2⟩ := HN.out k hlt
      go_wp2_with fail
      go_round
      case rel => exact ⟨k + 1, by omega, by go_num⟩
      case measure => simp [intOf]; omega
    · obtain rfl : k = s.size := by omega
      go_wp2_with fail
      refine bodyPost_ret (v := .tuple #[refV 0 0, .bool false]) (by simp [results, Tryd.results40, go_sem]) rfl ⟨rfl, by go_grown⟩
set_option maxHeartbeats 8000000 in
set_option maxRecDepth 20000 in
theorem ref_at (s : ByteArray) (hs : s.size ≤ 100000) (hd : (s.toList == [45]) = false) (pre post : List UInt8) (he : s.data.toList = pre ++ 46 :: post) (hc : (46 : UInt8) ∉ pre) (ok : Bool) (hok : ok = (numB pre && (isGen post && decide (numV pre < 256)))) (w : World) :
    Ret 40 #[.string s] w (.tuple #[refV (numV pre) (gParse post), .bool ok]) := by
  have hne := fun k h hk => byt_ne (c := 46) (m := 46) rfl (byt_mem s pre 46 post he hc k h hk)
  have hl : pre.length < s.size := by rw [← len_bytes, he]; simp
  have heq := byt_eq (c := 46) (m := 46) rfl (byt_here s pre 46 post he hl)
  have HN := Lib.hid hne
  have HQ := Lib.hid heq
  have sr : s.extract 0 pre.length = ⟨pre.toArray⟩ := by
    apply str_ext
    rw [Lib.extract_data, he]
    simp
  have sp : s.extract (pre.length + 1) s.size = ⟨post.toArray⟩ := by
    apply str_ext
    rw [Lib.extract_to_end, he]
    simp
  have hnr := ref_Number ⟨pre.toArray⟩
  have hnp := ref_Parse ⟨post.toArray⟩
  have o1 : (⟨pre.toArray⟩ : ByteArray).data.toList = pre := by simp
  have o2 : (⟨post.toArray⟩ : ByteArray).data.toList = post := by simp
  rw [o1] at hnr
  rw [o2] at hnp
  obtain ⟨a0, a1⟩ := numV_bound pre
  have hw : IntKind.i64.wrap (numV pre) = numV pre := by rw [IntKind.wrap_i64]; omega
  have hpe : gParseE post = if isGen post then 0 else 9 := rfl
  rw [hpe] at hnp
  generalize numV pre = a at *
  generalize gParse post = g at *
  generalize numB pre = p at *
  generalize isGen post = q at *
  have HF := Lib.hid hok
  have HR := Lib.hid hnr
  have HP := Lib.hid hnp
  have hc0 := Below.refl w.heap.size w
  clear hne hc he heq hnr hnp hok hpe o1 o2
  generalize pre.length = n at *
  go_enter Tryd.func40, Tryd.ntmps40
  go_wp2_with fail
  go_loop [4] (fun at_ => ∃ k : Nat, k ≤ n ∧ at_ = .int .i64 k) (fun at_ => n - (intOf at_).toNat)
  case atStart => exact ⟨0, Nat.zero_le _, rfl⟩
  case round =>
    obtain ⟨k, hk, rfl⟩ := hrel
    by_cases hlt : k < n
    · have hls : k < s.size := by omega
      obtain ⟨e1, e2⟩ := HN.out k hlt hls
      go_wp2_with fail
      go_round
      case rel => exact ⟨k + 1, by omega, by go_num⟩
      case measure => simp [intOf]; omega
    · obtain rfl : k = n := by omega
      obtain ⟨e1, e2⟩ := HQ.out
      go_wp2_with fail
      refine Calls.mono (HR.out _) ?_
      rintro e w1 ⟨rfl, hb1⟩
      obtain ⟨kk, ff⟩ := bcell hb1
      have hc1 : Below w.heap.size w w1 := under hb1
      have k1_0 : ∀ o, w1.cell? ⟨w.heap.size, o, none⟩ = _ := fun o => kk _ o (by first | assumption | omega | (simp; done) | (simp; omega))
      have f1_0 : ∀ o, w1.frozen? ⟨w.heap.size, o, none⟩ = _ := fun o => ff _ o (by first | assumption | omega | (simp; done) | (simp; omega))
      have z1_0 : w.heap.size < w1.heap.size := by have := hb1.size; (try simp at this); omega
      clear kk ff
      have hs1 := hc1.size
      clear hc0 hb1
      have HF1 := HF.out
      cases p
      · have hv : ok = false := HF.out
        have HV := Lib.hid hv
        obtain ⟨ge, hge⟩ : ∃ ge : Int, (if q = true then (0 : Int) else 9) = ge := ⟨_, rfl⟩
        rw [hge] at HP
        have HP2 := Lib.hid HP.out
        clear hv HF1 hge HP
        go_wp2_with fail
        refine Calls.mono (HP2.out _) ?_
        rintro e w2 ⟨rfl, hb2⟩
        obtain ⟨kk, ff⟩ := bcell hb2
        have hc2 : Below w.heap.size w w2 := under hb2
        have k2_0 : ∀ o, w2.cell? ⟨w.heap.size, o, none⟩ = _ := fun o => kk _ o (by first | assumption | omega | (simp; done) | (simp; omega))
        have f2_0 : ∀ o, w2.frozen? ⟨w.heap.size, o, none⟩ = _ := fun o => ff _ o (by first | assumption | omega | (simp; done) | (simp; omega))
        have z2_0 : w.heap.size < w2.heap.size := by have := hb2.size; (try simp at this); omega
        clear kk ff
        have hs2 := hc2.size
        clear hc1 hb2
        go_wp2_with fail
        refine bodyPost_ret (v := .tuple #[refV a g, .bool false]) (by simp [results, Tryd.results40, go_sem, k2_0, k1_0]) rfl ⟨by rw [HV.out], by go_grown⟩
      · cases q
        · have hv : ok = false := HF.out
          have HV := Lib.hid hv
          rw [if_neg (by simp)] at HP
          have HP2 := Lib.hid HP.out
          clear hv HF1 HP
          go_wp2_with fail
          refine Calls.mono (HP2.out _) ?_
          rintro e w2 ⟨rfl, hb2⟩
          obtain ⟨kk, ff⟩ := bcell hb2
          have hc2 : Below w.heap.size w w2 := under hb2
          have k2_0 : ∀ o, w2.cell? ⟨w.heap.size, o, none⟩ = _ := fun o => kk _ o (by first | assumption | omega | (simp; done) | (simp; omega))
          have f2_0 : ∀ o, w2.frozen? ⟨w.heap.size, o, none⟩ = _ := fun o => ff _ o (by first | assumption | omega | (simp; done) | (simp; omega))
          have z2_0 : w.heap.size < w2.heap.size := by have := hb2.size; (try simp at this); omega
          clear kk ff
          have hs2 := hc2.size
          clear hc1 hb2
          go_wp2_with fail
          refine bodyPost_ret (v := .tuple #[refV a g, .bool false]) (by simp [results, Tryd.results40, go_sem, k2_0, k1_0]) rfl ⟨by rw [HV.out], by go_grown⟩
        · have hv : ok = decide (a < 256) := HF.out
          have HV := Lib.hid hv
          rw [if_pos rfl] at HP
          have HP2 := Lib.hid HP.out
          clear hv HF1 HP
          by_cases h256 : a < 256
          · have hd2 : decide (a < 256) = true := decide_eq_true h256
            have hv2 : ok = true := HV.out.trans hd2
            have HV2 := Lib.hid hv2
            clear hv2
            go_wp2_with fail
            refine Calls.mono (HP2.out _) ?_
            rintro e w2 ⟨rfl, hb2⟩
            obtain ⟨kk, ff⟩ := bcell hb2
            have hc2 : Below w.heap.size w w2 := under hb2
            have k2_0 : ∀ o, w2.cell? ⟨w.heap.size, o, none⟩ = _ := fun o => kk _ o (by first | assumption | omega | (simp; done) | (simp; omega))
            have f2_0 : ∀ o, w2.frozen? ⟨w.heap.size, o, none⟩ = _ := fun o => ff _ o (by first | assumption | omega | (simp; done) | (simp; omega))
            have z2_0 : w.heap.size < w2.heap.size := by have := hb2.size; (try simp at this); omega
            clear kk ff
            have hs2 := hc2.size
            clear hc1 hb2
            go_wp2_with fail
            refine bodyPost_ret (v := .tuple #[refV a g, .bool true]) (by simp [results, Tryd.results40, go_sem, k2_0, k1_0]) rfl ⟨by rw [HV2.out], by go_grown⟩
          · have hd2 : decide (a < 256) = false := decide_eq_false h256
            have hv2 : ok = false := HV.out.trans hd2
            have HV2 := Lib.hid hv2
            clear hv2
            go_wp2_with fail
            refine Calls.mono (HP2.out _) ?_
            rintro e w2 ⟨rfl, hb2⟩
            obtain ⟨kk, ff⟩ := bcell hb2
            have hc2 : Below w.heap.size w w2 := under hb2
            have k2_0 : ∀ o, w2.cell? ⟨w.heap.size, o, none⟩ = _ := fun o => kk _ o (by first | assumption | omega | (simp; done) | (simp; omega))
            have f2_0 : ∀ o, w2.frozen? ⟨w.heap.size, o, none⟩ = _ := fun o => ff _ o (by first | assumption | omega | (simp; done) | (simp; omega))
            have z2_0 : w.heap.size < w2.heap.size := by have := hb2.size; (try simp at this); omega
            clear kk ff
            have hs2 := hc2.size
            clear hc1 hb2
            go_wp2_with fail
            refine bodyPost_ret (v := .tuple #[refV a g, .bool false]) (by simp [results, Tryd.results40, go_sem, k2_0, k1_0]) rfl ⟨by rw [HV2.out], by go_grown⟩
end Go.Proofs.YtpegkcmomkdoeaaDoor
