/- The pair of tables: open (chapter 37). -/
import Derived.Test.YtkjpdciccablpaaGreatDoorL5a
import Derived.Test.YtkjpdciccablpaaGreatDoorL0a
namespace Go.Proofs.YtkjpdciccablpaaGreatDoor
open Go.RowKit
set_option linter.unusedVariables false
set_option linter.unusedSimpArgs false
set_option maxHeartbeats 16000000
set_option maxRecDepth 20000
theorem popen_c {W : World} {F : Nat → Prop} {p : Nat} {sl : List SlotR} {rs : List RS} {n i : Nat} {s : SlotR} (h : Tab W F p sl rs) (hn : rs.length = n) (h60 : n < 60) (hf : 0 < freeN sl) (hi : firstF sl = i) (hs : sl[i]? = some s) :
    Calls Tryz.prog 29 #[ptr p, .agg #[.int .i64 1, .int .i64 n, .int .u32 1], .string tagB, .agg #[.int .i64 n, .int .u32 1]] W fun e w' => e = .returned (.tuple #[dV 1 i s.gen, .int .i64 0]) ∧ Tab w' (fun b => F b ∨ FreshL W w' b) p (sl.set i ⟨some n, s.gen⟩) (rs ++ [⟨1, 0, 0⟩]) ∧ But F W w' := by
  obtain ⟨z, m, cs, v, h⟩ := h
  subst hn
  subst hi
  refine (topen_c h h60 hf).mono ?_
  rintro e V ⟨s', h1, h2, rfl, h3, h4⟩
  rw [hs] at h1
  cases h1
  exact ⟨rfl, h3, h4⟩
theorem rpopen_c {W : World} {F : Nat → Prop} {p : Nat} {sl : List SlotR} {rs : List RS} {n i : Nat} {s : SlotR} (h : RTab W F p sl rs) (hn : rs.length = n) (h60 : n < 60) (hf : 0 < freeN sl) (hi : firstF sl = i) (hs : sl[i]? = some s) :
    Calls Tryz.prog 30 #[ptr p, .agg #[.int .i64 1, .int .i64 n, .int .u32 1], .string tagB, .agg #[.int .i64 n, .int .u32 1]] W fun e w' => e = .returned (.tuple #[dV 1 i s.gen, .int .i64 0]) ∧ RTab w' (fun b => F b ∨ FreshL W w' b) p (sl.set i ⟨some n, s.gen⟩) (rs ++ [⟨1, 0, 0⟩]) ∧ But F W w' := by
  obtain ⟨z, vs, vl, vr, h⟩ := h
  subst hn
  subst hi
  have hl := firstF_lt hf
  have hfr := firstF_free hl
  have hs2 : isFree s = true := by
    rw [List.getElem?_eq_getElem hl] at hs
    cases hs
    unfold isFree
    rw [hfr]
    rfl
  exact rtopen_c h h60 hs hs2 (fun j x hj hx => by
    obtain ⟨h1, rfl⟩ := List.getElem?_eq_some_iff.1 hx
    have := firstF_before hj h1
    unfold isFree
    cases ho : sl[j].own with
    | none => rw [ho] at this; cases this
    | some k => rfl) hf
theorem de_oneC (i : Nat) (g : Int) : ∀ u ∈ (#[.int .i64 1, .int .i64 i, .int .u32 g] : Array Value).toList, u.oneCell' = true := by
  intro u hu
  simp only [List.mem_cons, List.not_mem_nil, or_false] at hu
  rcases hu with rfl | rfl | rfl <;> rfl
theorem popen {w : World} {F : Nat → Prop} {pp B : Nat} {T : TabR} (h : Pair w F pp T) (hG : GoodT B T) (hn60 : T.rs.length < 60) : Calls Tryz.prog 16 #[ptr pp] w fun e w' => e = .returned (.bool true) ∧ Pair w' (fun b => F b ∨ FreshL w w' b) pp (openT T) ∧ But F w w' := by
  obtain ⟨F1, F2, p1, p2, vd, vs, h⟩ := h
  have hf : 0 < freeN T.sl := by have := hG.free; omega
  obtain ⟨i, hi⟩ : ∃ i, firstF T.sl = i := ⟨_, rfl⟩
  obtain ⟨s, hs⟩ : ∃ s, T.sl[i]? = some s := ⟨_, List.getElem?_eq_getElem (by rw [← hi]; exact firstF_lt hf)⟩
  obtain ⟨ast, cst, hvs⟩ := h.stlen
  obtain ⟨n, hnn⟩ : ∃ n, T.rs.length = n := ⟨_, rfl⟩
  have HO : RowKit.Hid (openT T = ⟨T.sl.set i ⟨some n, s.gen⟩, T.rs ++ [⟨1, 0, 0⟩], T.ds ++ [(i, s.gen)]⟩) := Lib.hid (by
    unfold openT
    rw [hi, hs, hnn]
    rfl)
  have CO := Lib.hid (fun W (ht : Tab W F1 p1 T.sl T.rs) => popen_c ht hnn (by omega) hf hi hs)
  have CR := Lib.hid (fun W (ht : RTab W F2 p2 T.sl T.rs) => rpopen_c ht hnn (by omega) hf hi hs)
  have HN := Lib.hid hnn
  rw [hnn] at hvs hn60
  subst hvs
  have HP := Lib.hid h
  have hdl : T.ds.length = n := by rw [hG.len, hnn]
  have HDL := Lib.hid hdl
  have rp := h.row
  clear hf hi hs h hG hnn hdl
  have hc := Below.refl w.heap.size w
  have m1 : (n : Int) % 64 = n := by omega
  have m2 : (n : Int) / 64 = 0 := by omega
  have m3 : (n : Int) % 256 = n := by omega
  have y1 := rp.cell
  have z1 := rp.lt
  go_enter Tryz.func16, Tryz.ntmps16
  go_upto_region 4 with fail
  have hs1 : (w.alloc (.cells #[.int .i64 1, .int .i64 n, .int .u32 1] 83)).heap.size = w.heap.size + 1 := by simp
  have hb1 := below_alloc w (.cells #[.int .i64 1, .int .i64 n, .int .u32 1] 83)
  have r4V := Row.new (W := w) (cs := #[.int .i64 1, .int .i64 n, .int .u32 1]) (t := 83)
  generalize w.alloc _ = V1 at *
  have hb2 := below_alloc V1 (.cells #[.int .i64 n, .int .u32 1] RefT)
  have r5V := Row.new (W := V1) (cs := #[.int .i64 n, .int .u32 1]) (t := RefT)
  rw [hs1] at r5V
  replace r4V := r4V.on hb2
  have hcV := chain hb1 hb2
  clear hb1 hb2 hs1 hc y1 z1
  generalize V1.alloc _ = V at *
  have hpw := HP.out.fin pp HP.out.ip
  have hVs := r5V.lt
  have hcs := hcV.size
  go_cut [6, 7] (fun s6 s7 wx => ∃ a6 F1', s6 = ptr a6 ∧ s7 = .int .i64 0 ∧ Row wx a6 #[.int .i64 1, .int .i64 i, .int .u32 s.gen] DeT ∧ Tab wx F1' p1 (T.sl.set i ⟨some n, s.gen⟩) (T.rs ++ [⟨1, 0, 0⟩]) ∧ (∀ b, F1' b → F1 b ∨ V.heap.size ≤ b) ∧ ¬ F1' a6 ∧ V.heap.size ≤ a6 ∧ a6 < wx.heap.size ∧ But F1 V wx)
  case first =>
    have hTT := HP.out.t1.on hcV
    have rpV := rp.on hcV
    have nFp := HP.out.n1p
    have hFw : ∀ b, F1 b → b < w.heap.size := fun b hb => HP.out.fin b (HP.out.i1 b hb)
    have hc0 := hcV
    have hT := hTT
    have rp := rpV
    have r4 := r4V
    have r5 := r5V
    refine wp_region_held_drew (S := fun W' => (∀ j, W'.cell? ⟨pp, j, none⟩ = (#[ptr p1, ptr p2, vd, .slice ast n cst] : Array Value)[j]?) ∧ (∀ j, W'.cell? ⟨w.heap.size, j, none⟩ = (#[.int .i64 1, .int .i64 n, .int .u32 1] : Array Value)[j]?) ∧ (∀ j, W'.cell? ⟨w.heap.size + 1, j, none⟩ = (#[.int .i64 n, .int .u32 1] : Array Value)[j]?)) (by kernel_rfl) ⟨rp.cell, r4.cell, r5.cell⟩ (fun hHeld => ?_)
    replace rp := rp.drew
    replace r4 := r4.drew
    replace r5 := r5.drew
    have hbV := (But.refl F1 V).drew
    have hTX := hT.on ((Below.refl V.heap.size V).drew)
    clear hT
    generalize V.drew = X at *
    refine' wpAnyH_take (i := 0) (oi := _) (v := _) ?_ (by kernel_rfl) (by kernel_rfl) (by kernel_rfl) ?_ (Or.inl ⟨?_, ?_⟩) (by assumption) ?_
    rotate_left 2
    · (simp only [List.getElem?_toArray, List.getElem?_cons_succ, List.getElem?_cons_zero]; rfl)
    · first | exact fun _ _ _ h => h | exact fun _ _ _ h => nomatch h.1
    · rfl
    · (intro W hSW; (try dsimp only at hSW); go_split_ands; first | (go_simp; done) | (go_simp; with_reducible rfl))
    try simp only [Act.put, List.setIfInBounds_toArray, List.set_cons_zero, List.set_cons_succ]
    refine' wpAnyH_take (i := 1) (oi := _) (v := _) ?_ (by kernel_rfl) (by kernel_rfl) (by kernel_rfl) ?_ (Or.inl ⟨?_, ?_⟩) (by assumption) ?_
    rotate_left 2
    · (simp only [List.getElem?_toArray, List.getElem?_cons_succ, List.getElem?_cons_zero]; rfl)
    · first | exact fun _ _ _ h => h | exact fun _ _ _ h => nomatch h.1
    · rfl
    · (intro W hSW; (try dsimp only at hSW); go_split_ands; first | (go_simp; done) | (go_simp; with_reducible rfl))
    try simp only [Act.put, List.setIfInBounds_toArray, List.set_cons_zero, List.set_cons_succ]
    refine' wpAnyH_take (i := 2) (oi := _) (v := _) ?_ (by kernel_rfl) (by kernel_rfl) (by kernel_rfl) ?_ (Or.inl ⟨?_, ?_⟩) (by assumption) ?_
    rotate_left 2
    · (simp only [List.getElem?_toArray, List.getElem?_cons_succ, List.getElem?_cons_zero]; rfl)
    · first | exact fun _ _ _ h => h | exact fun _ _ _ h => nomatch h.1
    · rfl
    · (intro W hSW; (try dsimp only at hSW); go_split_ands; first | (go_simp; done) | (go_simp; with_reducible rfl))
    try simp only [Act.put, List.setIfInBounds_toArray, List.set_cons_zero, List.set_cons_succ]
    refine' wpAnyH_take (i := 3) (oi := _) (v := _) ?_ (by kernel_rfl) (by kernel_rfl) (by kernel_rfl) ?_ (Or.inl ⟨?_, ?_⟩) (by assumption) ?_
    rotate_left 2
    · (simp only [List.getElem?_toArray, List.getElem?_cons_succ, List.getElem?_cons_zero]; rfl)
    · first | exact fun _ _ _ h => h | exact fun _ _ _ h => nomatch h.1
    · rfl
    · (intro W hSW; (try dsimp only at hSW); go_split_ands; first | (go_simp; done) | (go_simp; with_reducible rfl))
    try simp only [Act.put, List.setIfInBounds_toArray, List.set_cons_zero, List.set_cons_succ]
    refine' wpAnyH_take (i := 4) (oi := _) (v := _) ?_ (by kernel_rfl) (by kernel_rfl) (by kernel_rfl) ?_ (Or.inl ⟨?_, ?_⟩) (by assumption) ?_
    rotate_left 2
    · (simp only [List.getElem?_toArray, List.getElem?_cons_succ, List.getElem?_cons_zero]; rfl)
    · first | exact fun _ _ _ h => h | exact fun _ _ _ h => nomatch h.1
    · rfl
    · (intro W hSW; (try dsimp only at hSW); go_split_ands; first | (go_simp; done) | (go_simp; with_reducible rfl))
    try simp only [Act.put, List.setIfInBounds_toArray, List.set_cons_zero, List.set_cons_succ]
    refine' wpAnyH_take (i := 5) (oi := _) (v := _) ?_ (by kernel_rfl) (by kernel_rfl) (by kernel_rfl) ?_ (Or.inl ⟨?_, ?_⟩) (by assumption) ?_
    rotate_left 2
    · (simp only [List.getElem?_toArray, List.getElem?_cons_succ, List.getElem?_cons_zero]; rfl)
    · first | exact fun _ _ _ h => h | exact fun _ _ _ h => nomatch h.1
    · rfl
    · (intro W hSW; (try dsimp only at hSW); go_split_ands; first | (go_simp; done) | (go_simp; with_reducible rfl))
    try simp only [Act.put, List.setIfInBounds_toArray, List.set_cons_zero, List.set_cons_succ]
    clear hHeld
    refine wpAnyH_ready (rs := [6, 10]) (by kernel_rfl) (by simp) ?_
    refine' AllReadyH.cons (o := _) (by simp only [List.getElem?_toArray, List.getElem?_cons_succ, List.getElem?_cons_zero]; rfl) (fun K hK => ?_) (AllReadyH.cons (o := _) (by simp only [List.getElem?_toArray, List.getElem?_cons_succ, List.getElem?_cons_zero]; rfl) (fun K hK => ?_) AllReadyH.nil)
    · go_simp
      refine (CO.out _ hTX).mono ?_
      rintro e W1 ⟨rfl, hT1, hb1⟩
      go_simp
      replace rp := hb1.row rp nFp
      replace r4 := hb1.row r4 (fun h => by have := hFw _ h; omega)
      replace r5 := hb1.row r5 (fun h => by have := hFw _ h; omega)
      have hszb := hbV.size
      replace hbV := hbV.trans hb1 (fun _ _ h => h)
      have hF1 : ∀ b, (F1 b ∨ FreshL X W1 b) → F1 b ∨ V.heap.size ≤ b := fun b hb => hb.imp id (fun h => Nat.le_trans hszb h.1)
      clear hb1 hszb
      refine hK.out _ _ ⟨rp.cell, r4.cell, r5.cell⟩ (fun hHeld => ?_)
      clear hK K
      refine' wpAnyH_take (i := 7) (oi := _) (v := _) ?_ (by kernel_rfl) (by kernel_rfl) (by kernel_rfl) ?_ (Or.inl ⟨?_, ?_⟩) (by assumption) ?_
      rotate_left 2
      · (simp only [List.getElem?_toArray, List.getElem?_cons_succ, List.getElem?_cons_zero]; rfl)
      · first | exact fun _ _ _ h => h | exact fun _ _ _ h => nomatch h.1
      · rfl
      · (intro W hSW; (try dsimp only at hSW); go_split_ands; first | (go_simp; done) | (go_simp; with_reducible rfl))
      try simp only [Act.put, List.setIfInBounds_toArray, List.set_cons_zero, List.set_cons_succ]
      refine' wpAnyH_take (i := 8) (oi := _) (v := _) ?_ (by kernel_rfl) (by kernel_rfl) (by kernel_rfl) ?_ (Or.inl ⟨?_, ?_⟩) (by assumption) ?_
      rotate_left 2
      · (simp only [List.getElem?_toArray, List.getElem?_cons_succ, List.getElem?_cons_zero]; rfl)
      · first | exact fun _ _ _ h => h | exact fun _ _ _ h => nomatch h.1
      · rfl
      · (intro W hSW; (try dsimp only at hSW); go_split_ands; first | (go_simp; done) | (go_simp; with_reducible rfl))
      try simp only [Act.put, List.setIfInBounds_toArray, List.set_cons_zero, List.set_cons_succ]
      refine' wpAnyH_take (i := 9) (oi := _) (v := _) ?_ (by kernel_rfl) (by kernel_rfl) (by kernel_rfl) ?_ (Or.inl ⟨?_, ?_⟩) (by assumption) ?_
      rotate_left 2
      · (simp only [List.getElem?_toArray, List.getElem?_cons_succ, List.getElem?_cons_zero]; rfl)
      · first | exact fun _ _ _ h => h | exact fun _ _ _ h => nomatch h.1
      · rfl
      · (intro W hSW; (try dsimp only at hSW); go_split_ands; first | (go_simp; done) | (go_simp; with_reducible rfl))
      try simp only [Act.put, List.setIfInBounds_toArray, List.set_cons_zero, List.set_cons_succ]
      clear hHeld
      refine wpAnyH_ready (rs := [10]) (by kernel_rfl) (by simp) ?_
      refine' AllReadyH.cons (o := _) (by simp only [List.getElem?_toArray, List.getElem?_cons_succ, List.getElem?_cons_zero]; rfl) (fun K hK => ?_) AllReadyH.nil
      go_simp
      have hn := below_alloc W1 (.cells #[.int .i64 0, .int .i64 0, .int .u32 0] DeT)
      have r6 := Row.new (W := W1) (cs := #[.int .i64 0, .int .i64 0, .int .u32 0]) (t := DeT)
      have ha6 : V.heap.size ≤ W1.heap.size := hbV.size
      have hlt6 := r6.lt
      replace rp := rp.on hn
      replace r4 := r4.on hn
      replace r5 := r5.on hn
      replace hbV := hbV.on hn
      have hfinT := hT1.fin
      replace hT1 := hT1.on hn
      have hF1a : ¬ (F1 W1.heap.size ∨ FreshL X W1 W1.heap.size) := fun h => by have := hfinT _ h; omega
      clear hfinT
      clear hn
      generalize W1.alloc _ = W2 at *
      generalize W1.heap.size = a6 at *
      refine hK.out _ _ ⟨rp.cell, r4.cell, r5.cell⟩ (fun hHeld => ?_)
      clear hK K hHeld
      have y6 := r6.cell
      have u6 := r6.free
      have z6 := r6.lt
      refine wpAnyH_ready (rs := [11]) (by kernel_rfl) (by simp) ?_
      refine' AllReadyH.cons (o := _) (by simp only [List.getElem?_toArray, List.getElem?_cons_succ, List.getElem?_cons_zero]; rfl) (fun K hK => ?_) AllReadyH.nil
      go_simp
      clear y6 u6 z6
      replace rp := ((rp.other (show a6 ≠ pp by omega) 0 (.int .i64 1)).other (show a6 ≠ pp by omega) 1 (.int .i64 i)).other (show a6 ≠ pp by omega) 2 (.int .u32 s.gen)
      replace r4 := ((r4.other (show a6 ≠ w.heap.size by omega) 0 (.int .i64 1)).other (show a6 ≠ w.heap.size by omega) 1 (.int .i64 i)).other (show a6 ≠ w.heap.size by omega) 2 (.int .u32 s.gen)
      replace r5 := ((r5.other (show a6 ≠ w.heap.size + 1 by omega) 0 (.int .i64 1)).other (show a6 ≠ w.heap.size + 1 by omega) 1 (.int .i64 i)).other (show a6 ≠ w.heap.size + 1 by omega) 2 (.int .u32 s.gen)
      replace r6 := ((r6.set 0 (.int .i64 1)).set 1 (.int .i64 i)).set 2 (.int .u32 s.gen)
      simp only [List.setIfInBounds_toArray, List.set_cons_zero, List.set_cons_succ] at r6
      have hnV : a6 < V.heap.size → F1 a6 := fun h => absurd h (by omega)
      replace hbV := ((hbV.setCell hnV 0 (.int .i64 1)).setCell hnV 1 (.int .i64 i)).setCell hnV 2 (.int .u32 s.gen)
      have hbW : But (fun b => b = a6) W2 (((W2.setCell ⟨a6, 0, none⟩ (.int .i64 1)).setCell ⟨a6, 1, none⟩ (.int .i64 i)).setCell ⟨a6, 2, none⟩ (.int .u32 s.gen)) := (((But.refl (fun b => b = a6) W2).setCell (y := a6) (fun _ => rfl) 0 (.int .i64 1)).setCell (y := a6) (fun _ => rfl) 1 (.int .i64 i)).setCell (y := a6) (fun _ => rfl) 2 (.int .u32 s.gen)
      replace hT1 := hT1.but hbW (fun b hb h => hF1a (by rw [← h]; exact hb))
      clear hbW hnV
      generalize World.setCell _ _ _ = Z at *
      refine hK.out _ _ ⟨rp.cell, r4.cell, r5.cell⟩ (fun hHeld => ?_)
      clear hK K
      refine' wpAnyH_take (i := 12) (oi := _) (v := _) ?_ (by kernel_rfl) (by kernel_rfl) (by kernel_rfl) ?_ (Or.inl ⟨?_, ?_⟩) (by assumption) ?_
      rotate_left 2
      · (simp only [List.getElem?_toArray, List.getElem?_cons_succ, List.getElem?_cons_zero]; rfl)
      · first | exact fun _ _ _ h => h | exact fun _ _ _ h => nomatch h.1
      · rfl
      · (intro W hSW; (try dsimp only at hSW); go_split_ands; first | (go_simp; done) | (go_simp; with_reducible rfl))
      try simp only [Act.put, List.setIfInBounds_toArray, List.set_cons_zero, List.set_cons_succ]
      clear hHeld
      refine wpAnyH_done (by kernel_rfl) ?_ _
      go_wp2_with fail
      go_meet
      exact ⟨a6, (fun b => F1 b ∨ FreshL X W1 b), rfl, rfl, r6, hT1, hF1, hF1a, by omega, r6.lt, hbV⟩
    · go_simp
      have hn := below_alloc X (.cells #[.int .i64 0, .int .i64 0, .int .u32 0] DeT)
      have r6 := Row.new (W := X) (cs := #[.int .i64 0, .int .i64 0, .int .u32 0]) (t := DeT)
      have ha6 : V.heap.size ≤ X.heap.size := hbV.size
      have hlt6 := r6.lt
      replace rp := rp.on hn
      replace r4 := r4.on hn
      replace r5 := r5.on hn
      replace hbV := hbV.on hn
      replace hTX := hTX.on hn
      clear hn
      generalize X.alloc _ = W1 at *
      generalize X.heap.size = a6 at *
      refine hK.out _ _ ⟨rp.cell, r4.cell, r5.cell⟩ (fun hHeld => ?_)
      clear hK K hHeld
      refine wpAnyH_ready (rs := [6]) (by kernel_rfl) (by simp) ?_
      refine' AllReadyH.cons (o := _) (by simp only [List.getElem?_toArray, List.getElem?_cons_succ, List.getElem?_cons_zero]; rfl) (fun K hK => ?_) AllReadyH.nil
      go_simp
      refine (CO.out _ hTX).mono ?_
      rintro e W2 ⟨rfl, hT1, hb1⟩
      go_simp
      replace rp := hb1.row rp nFp
      replace r4 := hb1.row r4 (fun h => by have := hFw _ h; omega)
      replace r5 := hb1.row r5 (fun h => by have := hFw _ h; omega)
      replace r6 := hb1.row r6 (fun h => by have := hFw _ h; omega)
      have hszb := hbV.size
      replace hbV := hbV.trans hb1 (fun _ _ h => h)
      have hF1 : ∀ b, (F1 b ∨ FreshL W1 W2 b) → F1 b ∨ V.heap.size ≤ b := fun b hb => hb.imp id (fun h => Nat.le_trans hszb h.1)
      have hF1a : ¬ (F1 a6 ∨ FreshL W1 W2 a6) := fun h => by
        rcases h with h | h
        · have := hFw _ h; omega
        · have := h.1; omega
      clear hb1 hszb
      refine hK.out _ _ ⟨rp.cell, r4.cell, r5.cell⟩ (fun hHeld => ?_)
      clear hK K
      refine' wpAnyH_take (i := 7) (oi := _) (v := _) ?_ (by kernel_rfl) (by kernel_rfl) (by kernel_rfl) ?_ (Or.inl ⟨?_, ?_⟩) (by assumption) ?_
      rotate_left 2
      · (simp only [List.getElem?_toArray, List.getElem?_cons_succ, List.getElem?_cons_zero]; rfl)
      · first | exact fun _ _ _ h => h | exact fun _ _ _ h => nomatch h.1
      · rfl
      · (intro W hSW; (try dsimp only at hSW); go_split_ands; first | (go_simp; done) | (go_simp; with_reducible rfl))
      try simp only [Act.put, List.setIfInBounds_toArray, List.set_cons_zero, List.set_cons_succ]
      refine' wpAnyH_take (i := 8) (oi := _) (v := _) ?_ (by kernel_rfl) (by kernel_rfl) (by kernel_rfl) ?_ (Or.inl ⟨?_, ?_⟩) (by assumption) ?_
      rotate_left 2
      · (simp only [List.getElem?_toArray, List.getElem?_cons_succ, List.getElem?_cons_zero]; rfl)
      · first | exact fun _ _ _ h => h | exact fun _ _ _ h => nomatch h.1
      · rfl
      · (intro W hSW; (try dsimp only at hSW); go_split_ands; first | (go_simp; done) | (go_simp; with_reducible rfl))
      try simp only [Act.put, List.setIfInBounds_toArray, List.set_cons_zero, List.set_cons_succ]
      refine' wpAnyH_take (i := 9) (oi := _) (v := _) ?_ (by kernel_rfl) (by kernel_rfl) (by kernel_rfl) ?_ (Or.inl ⟨?_, ?_⟩) (by assumption) ?_
      rotate_left 2
      · (simp only [List.getElem?_toArray, List.getElem?_cons_succ, List.getElem?_cons_zero]; rfl)
      · first | exact fun _ _ _ h => h | exact fun _ _ _ h => nomatch h.1
      · rfl
      · (intro W hSW; (try dsimp only at hSW); go_split_ands; first | (go_simp; done) | (go_simp; with_reducible rfl))
      try simp only [Act.put, List.setIfInBounds_toArray, List.set_cons_zero, List.set_cons_succ]
      clear hHeld
      have y6 := r6.cell
      have u6 := r6.free
      have z6 := r6.lt
      refine wpAnyH_ready (rs := [11]) (by kernel_rfl) (by simp) ?_
      refine' AllReadyH.cons (o := _) (by simp only [List.getElem?_toArray, List.getElem?_cons_succ, List.getElem?_cons_zero]; rfl) (fun K hK => ?_) AllReadyH.nil
      go_simp
      clear y6 u6 z6
      replace rp := ((rp.other (show a6 ≠ pp by omega) 0 (.int .i64 1)).other (show a6 ≠ pp by omega) 1 (.int .i64 i)).other (show a6 ≠ pp by omega) 2 (.int .u32 s.gen)
      replace r4 := ((r4.other (show a6 ≠ w.heap.size by omega) 0 (.int .i64 1)).other (show a6 ≠ w.heap.size by omega) 1 (.int .i64 i)).other (show a6 ≠ w.heap.size by omega) 2 (.int .u32 s.gen)
      replace r5 := ((r5.other (show a6 ≠ w.heap.size + 1 by omega) 0 (.int .i64 1)).other (show a6 ≠ w.heap.size + 1 by omega) 1 (.int .i64 i)).other (show a6 ≠ w.heap.size + 1 by omega) 2 (.int .u32 s.gen)
      replace r6 := ((r6.set 0 (.int .i64 1)).set 1 (.int .i64 i)).set 2 (.int .u32 s.gen)
      simp only [List.setIfInBounds_toArray, List.set_cons_zero, List.set_cons_succ] at r6
      have hnV : a6 < V.heap.size → F1 a6 := fun h => absurd h (by omega)
      replace hbV := ((hbV.setCell hnV 0 (.int .i64 1)).setCell hnV 1 (.int .i64 i)).setCell hnV 2 (.int .u32 s.gen)
      have hbW : But (fun b => b = a6) W2 (((W2.setCell ⟨a6, 0, none⟩ (.int .i64 1)).setCell ⟨a6, 1, none⟩ (.int .i64 i)).setCell ⟨a6, 2, none⟩ (.int .u32 s.gen)) := (((But.refl (fun b => b = a6) W2).setCell (y := a6) (fun _ => rfl) 0 (.int .i64 1)).setCell (y := a6) (fun _ => rfl) 1 (.int .i64 i)).setCell (y := a6) (fun _ => rfl) 2 (.int .u32 s.gen)
      replace hT1 := hT1.but hbW (fun b hb h => hF1a (by rw [← h]; exact hb))
      clear hbW hnV
      generalize World.setCell _ _ _ = Z at *
      refine hK.out _ _ ⟨rp.cell, r4.cell, r5.cell⟩ (fun hHeld => ?_)
      clear hK K
      refine' wpAnyH_take (i := 12) (oi := _) (v := _) ?_ (by kernel_rfl) (by kernel_rfl) (by kernel_rfl) ?_ (Or.inl ⟨?_, ?_⟩) (by assumption) ?_
      rotate_left 2
      · (simp only [List.getElem?_toArray, List.getElem?_cons_succ, List.getElem?_cons_zero]; rfl)
      · first | exact fun _ _ _ h => h | exact fun _ _ _ h => nomatch h.1
      · rfl
      · (intro W hSW; (try dsimp only at hSW); go_split_ands; first | (go_simp; done) | (go_simp; with_reducible rfl))
      try simp only [Act.put, List.setIfInBounds_toArray, List.set_cons_zero, List.set_cons_succ]
      clear hHeld
      refine wpAnyH_done (by kernel_rfl) ?_ _
      go_wp2_with fail
      go_meet
      exact ⟨a6, (fun b => F1 b ∨ FreshL W1 W2 b), rfl, rfl, r6, hT1, hF1, hF1a, by omega, r6.lt, hbV⟩
  case rest =>
    obtain ⟨a6, F1', rfl, rfl, r6, hT1, hF1, hF1a, ha6, ha6x, hbV⟩ := hcut
    have hFw1 : ∀ b, F1 b → b < w.heap.size := fun b hb => HP.out.fin b (HP.out.i1 b hb)
    have hFw : ∀ b, F2 b → b < w.heap.size := fun b hb => HP.out.fin b (HP.out.i2 b hb)
    have rpV := hbV.row (rp.on hcV) HP.out.n1p
    replace r4V := hbV.row r4V (fun h => by have := hFw1 _ h; omega)
    replace r5V := hbV.row r5V (fun h => by have := hFw1 _ h; omega)
    have hTT := (HP.out.t2.on hcV).but hbV (fun b hb h => HP.out.n12 b h hb)
    have hds5 : OwnsC DeT 3 0 wc vd (deL T.ds) := (HP.out.ds.on hcV).via (fun k hk => hbV.block k (Nat.lt_of_lt_of_le (HP.out.ds.lt k hk).2 hcV.size) (HP.out.nd k hk).1)
    have hst5 : OwnsC IntT 1 0 wc (.slice ast n cst) (stL T.rs) := (HP.out.st.on hcV).via (fun k hk => hbV.block k (Nat.lt_of_lt_of_le (HP.out.st.lt k hk).2 hcV.size) (HP.out.ns k hk).1)
    have hbw := (but_of F1 hcV).trans hbV (fun _ _ h => h)
    have hsV5 := hbV.size
    clear hbV hcV
    generalize wc = V5 at *
    go_upto_region 5 with fail
    go_cut [9] (fun s9 wx => ∃ F2', s9 = .int .i64 0 ∧ RTab wx F2' p2 (T.sl.set i ⟨some n, s.gen⟩) (T.rs ++ [⟨1, 0, 0⟩]) ∧ (∀ b, F2' b → F2 b ∨ V5.heap.size ≤ b) ∧ But F2 V5 wx)
    case first =>
      have nFp := HP.out.n2p
      have hcV := True.intro
      have ha6h := ha6x
      clear ha6 ha6x r6 hT1
      have hc0 := hcV
      have hT := hTT
      have rp := rpV
      have r4 := r4V
      have r5 := r5V
      refine wp_region_held_drew (S := fun W' => (∀ j, W'.cell? ⟨pp, j, none⟩ = (#[ptr p1, ptr p2, vd, .slice ast n cst] : Array Value)[j]?) ∧ (∀ j, W'.cell? ⟨w.heap.size, j, none⟩ = (#[.int .i64 1, .int .i64 n, .int .u32 1] : Array Value)[j]?) ∧ (∀ j, W'.cell? ⟨w.heap.size + 1, j, none⟩ = (#[.int .i64 n, .int .u32 1] : Array Value)[j]?)) (by kernel_rfl) ⟨rp.cell, r4.cell, r5.cell⟩ (fun hHeld => ?_)
      replace rp := rp.drew
      replace r4 := r4.drew
      replace r5 := r5.drew
      have hbV := (But.refl F2 V5).drew
      have hTX := hT.on ((Below.refl V5.heap.size V5).drew)
      clear hT
      generalize V5.drew = X at *
      refine' wpAnyH_take (i := 0) (oi := _) (v := _) ?_ (by kernel_rfl) (by kernel_rfl) (by kernel_rfl) ?_ (Or.inl ⟨?_, ?_⟩) (by assumption) ?_
      rotate_left 2
      · (simp only [List.getElem?_toArray, List.getElem?_cons_succ, List.getElem?_cons_zero]; rfl)
      · first | exact fun _ _ _ h => h | exact fun _ _ _ h => nomatch h.1
      · rfl
      · (intro W hSW; (try dsimp only at hSW); go_split_ands; first | (go_simp; done) | (go_simp; with_reducible rfl))
      try simp only [Act.put, List.setIfInBounds_toArray, List.set_cons_zero, List.set_cons_succ]
      refine' wpAnyH_take (i := 1) (oi := _) (v := _) ?_ (by kernel_rfl) (by kernel_rfl) (by kernel_rfl) ?_ (Or.inl ⟨?_, ?_⟩) (by assumption) ?_
      rotate_left 2
      · (simp only [List.getElem?_toArray, List.getElem?_cons_succ, List.getElem?_cons_zero]; rfl)
      · first | exact fun _ _ _ h => h | exact fun _ _ _ h => nomatch h.1
      · rfl
      · (intro W hSW; (try dsimp only at hSW); go_split_ands; first | (go_simp; done) | (go_simp; with_reducible rfl))
      try simp only [Act.put, List.setIfInBounds_toArray, List.set_cons_zero, List.set_cons_succ]
      refine' wpAnyH_take (i := 2) (oi := _) (v := _) ?_ (by kernel_rfl) (by kernel_rfl) (by kernel_rfl) ?_ (Or.inl ⟨?_, ?_⟩) (by assumption) ?_
      rotate_left 2
      · (simp only [List.getElem?_toArray, List.getElem?_cons_succ, List.getElem?_cons_zero]; rfl)
      · first | exact fun _ _ _ h => h | exact fun _ _ _ h => nomatch h.1
      · rfl
      · (intro W hSW; (try dsimp only at hSW); go_split_ands; first | (go_simp; done) | (go_simp; with_reducible rfl))
      try simp only [Act.put, List.setIfInBounds_toArray, List.set_cons_zero, List.set_cons_succ]
      refine' wpAnyH_take (i := 3) (oi := _) (v := _) ?_ (by kernel_rfl) (by kernel_rfl) (by kernel_rfl) ?_ (Or.inl ⟨?_, ?_⟩) (by assumption) ?_
      rotate_left 2
      · (simp only [List.getElem?_toArray, List.getElem?_cons_succ, List.getElem?_cons_zero]; rfl)
      · first | exact fun _ _ _ h => h | exact fun _ _ _ h => nomatch h.1
      · rfl
      · (intro W hSW; (try dsimp only at hSW); go_split_ands; first | (go_simp; done) | (go_simp; with_reducible rfl))
      try simp only [Act.put, List.setIfInBounds_toArray, List.set_cons_zero, List.set_cons_succ]
      refine' wpAnyH_take (i := 4) (oi := _) (v := _) ?_ (by kernel_rfl) (by kernel_rfl) (by kernel_rfl) ?_ (Or.inl ⟨?_, ?_⟩) (by assumption) ?_
      rotate_left 2
      · (simp only [List.getElem?_toArray, List.getElem?_cons_succ, List.getElem?_cons_zero]; rfl)
      · first | exact fun _ _ _ h => h | exact fun _ _ _ h => nomatch h.1
      · rfl
      · (intro W hSW; (try dsimp only at hSW); go_split_ands; first | (go_simp; done) | (go_simp; with_reducible rfl))
      try simp only [Act.put, List.setIfInBounds_toArray, List.set_cons_zero, List.set_cons_succ]
      refine' wpAnyH_take (i := 5) (oi := _) (v := _) ?_ (by kernel_rfl) (by kernel_rfl) (by kernel_rfl) ?_ (Or.inl ⟨?_, ?_⟩) (by assumption) ?_
      rotate_left 2
      · (simp only [List.getElem?_toArray, List.getElem?_cons_succ, List.getElem?_cons_zero]; rfl)
      · first | exact fun _ _ _ h => h | exact fun _ _ _ h => nomatch h.1
      · rfl
      · (intro W hSW; (try dsimp only at hSW); go_split_ands; first | (go_simp; done) | (go_simp; with_reducible rfl))
      try simp only [Act.put, List.setIfInBounds_toArray, List.set_cons_zero, List.set_cons_succ]
      clear hHeld
      refine wpAnyH_ready (rs := [6, 10]) (by kernel_rfl) (by simp) ?_
      refine' AllReadyH.cons (o := _) (by simp only [List.getElem?_toArray, List.getElem?_cons_succ, List.getElem?_cons_zero]; rfl) (fun K hK => ?_) (AllReadyH.cons (o := _) (by simp only [List.getElem?_toArray, List.getElem?_cons_succ, List.getElem?_cons_zero]; rfl) (fun K hK => ?_) AllReadyH.nil)
      · go_simp
        refine (CR.out _ hTX).mono ?_
        rintro e W1 ⟨rfl, hT1, hb1⟩
        go_simp
        replace rp := hb1.row rp nFp
        replace r4 := hb1.row r4 (fun h => by have := hFw _ h; omega)
        replace r5 := hb1.row r5 (fun h => by have := hFw _ h; omega)
        have hszb := hbV.size
        replace hbV := hbV.trans hb1 (fun _ _ h => h)
        have hF1 : ∀ b, (F2 b ∨ FreshL X W1 b) → F2 b ∨ V5.heap.size ≤ b := fun b hb => hb.imp id (fun h => Nat.le_trans hszb h.1)
        clear hb1 hszb
        refine hK.out _ _ ⟨rp.cell, r4.cell, r5.cell⟩ (fun hHeld => ?_)
        clear hK K
        refine' wpAnyH_take (i := 7) (oi := _) (v := _) ?_ (by kernel_rfl) (by kernel_rfl) (by kernel_rfl) ?_ (Or.inl ⟨?_, ?_⟩) (by assumption) ?_
        rotate_left 2
        · (simp only [List.getElem?_toArray, List.getElem?_cons_succ, List.getElem?_cons_zero]; rfl)
        · first | exact fun _ _ _ h => h | exact fun _ _ _ h => nomatch h.1
        · rfl
        · (intro W hSW; (try dsimp only at hSW); go_split_ands; first | (go_simp; done) | (go_simp; with_reducible rfl))
        try simp only [Act.put, List.setIfInBounds_toArray, List.set_cons_zero, List.set_cons_succ]
        refine' wpAnyH_take (i := 8) (oi := _) (v := _) ?_ (by kernel_rfl) (by kernel_rfl) (by kernel_rfl) ?_ (Or.inl ⟨?_, ?_⟩) (by assumption) ?_
        rotate_left 2
        · (simp only [List.getElem?_toArray, List.getElem?_cons_succ, List.getElem?_cons_zero]; rfl)
        · first | exact fun _ _ _ h => h | exact fun _ _ _ h => nomatch h.1
        · rfl
        · (intro W hSW; (try dsimp only at hSW); go_split_ands; first | (go_simp; done) | (go_simp; with_reducible rfl))
        try simp only [Act.put, List.setIfInBounds_toArray, List.set_cons_zero, List.set_cons_succ]
        refine' wpAnyH_take (i := 9) (oi := _) (v := _) ?_ (by kernel_rfl) (by kernel_rfl) (by kernel_rfl) ?_ (Or.inl ⟨?_, ?_⟩) (by assumption) ?_
        rotate_left 2
        · (simp only [List.getElem?_toArray, List.getElem?_cons_succ, List.getElem?_cons_zero]; rfl)
        · first | exact fun _ _ _ h => h | exact fun _ _ _ h => nomatch h.1
        · rfl
        · (intro W hSW; (try dsimp only at hSW); go_split_ands; first | (go_simp; done) | (go_simp; with_reducible rfl))
        try simp only [Act.put, List.setIfInBounds_toArray, List.set_cons_zero, List.set_cons_succ]
        clear hHeld
        refine wpAnyH_ready (rs := [10]) (by kernel_rfl) (by simp) ?_
        refine' AllReadyH.cons (o := _) (by simp only [List.getElem?_toArray, List.getElem?_cons_succ, List.getElem?_cons_zero]; rfl) (fun K hK => ?_) AllReadyH.nil
        go_simp
        have hn := below_alloc W1 (.cells #[.int .i64 0, .int .i64 0, .int .u32 0] DeT)
        have r6 := Row.new (W := W1) (cs := #[.int .i64 0, .int .i64 0, .int .u32 0]) (t := DeT)
        have ha6 : V5.heap.size ≤ W1.heap.size := hbV.size
        have hlt6 := r6.lt
        replace rp := rp.on hn
        replace r4 := r4.on hn
        replace r5 := r5.on hn
        replace hbV := hbV.on hn
        have hfinT := hT1.fin
        replace hT1 := hT1.on hn
        have hF1a : ¬ (F2 W1.heap.size ∨ FreshL X W1 W1.heap.size) := fun h => by have := hfinT _ h; omega
        clear hfinT
        clear hn
        generalize W1.alloc _ = W2 at *
        generalize W1.heap.size = a6 at *
        refine hK.out _ _ ⟨rp.cell, r4.cell, r5.cell⟩ (fun hHeld => ?_)
        clear hK K hHeld
        have y6 := r6.cell
        have u6 := r6.free
        have z6 := r6.lt
        refine wpAnyH_ready (rs := [11]) (by kernel_rfl) (by simp) ?_
        refine' AllReadyH.cons (o := _) (by simp only [List.getElem?_toArray, List.getElem?_cons_succ, List.getElem?_cons_zero]; rfl) (fun K hK => ?_) AllReadyH.nil
        go_simp
        clear y6 u6 z6
        replace rp := ((rp.other (show a6 ≠ pp by omega) 0 (.int .i64 1)).other (show a6 ≠ pp by omega) 1 (.int .i64 i)).other (show a6 ≠ pp by omega) 2 (.int .u32 s.gen)
        replace r4 := ((r4.other (show a6 ≠ w.heap.size by omega) 0 (.int .i64 1)).other (show a6 ≠ w.heap.size by omega) 1 (.int .i64 i)).other (show a6 ≠ w.heap.size by omega) 2 (.int .u32 s.gen)
        replace r5 := ((r5.other (show a6 ≠ w.heap.size + 1 by omega) 0 (.int .i64 1)).other (show a6 ≠ w.heap.size + 1 by omega) 1 (.int .i64 i)).other (show a6 ≠ w.heap.size + 1 by omega) 2 (.int .u32 s.gen)
        replace r6 := ((r6.set 0 (.int .i64 1)).set 1 (.int .i64 i)).set 2 (.int .u32 s.gen)
        simp only [List.setIfInBounds_toArray, List.set_cons_zero, List.set_cons_succ] at r6
        have hnV : a6 < V5.heap.size → F2 a6 := fun h => absurd h (by omega)
        replace hbV := ((hbV.setCell hnV 0 (.int .i64 1)).setCell hnV 1 (.int .i64 i)).setCell hnV 2 (.int .u32 s.gen)
        have hbW : But (fun b => b = a6) W2 (((W2.setCell ⟨a6, 0, none⟩ (.int .i64 1)).setCell ⟨a6, 1, none⟩ (.int .i64 i)).setCell ⟨a6, 2, none⟩ (.int .u32 s.gen)) := (((But.refl (fun b => b = a6) W2).setCell (y := a6) (fun _ => rfl) 0 (.int .i64 1)).setCell (y := a6) (fun _ => rfl) 1 (.int .i64 i)).setCell (y := a6) (fun _ => rfl) 2 (.int .u32 s.gen)
        replace hT1 := hT1.but hbW (fun b hb h => hF1a (by rw [← h]; exact hb))
        clear hbW hnV
        generalize World.setCell _ _ _ = Z at *
        refine hK.out _ _ ⟨rp.cell, r4.cell, r5.cell⟩ (fun hHeld => ?_)
        clear hK K
        refine' wpAnyH_take (i := 12) (oi := _) (v := _) ?_ (by kernel_rfl) (by kernel_rfl) (by kernel_rfl) ?_ (Or.inl ⟨?_, ?_⟩) (by assumption) ?_
        rotate_left 2
        · (simp only [List.getElem?_toArray, List.getElem?_cons_succ, List.getElem?_cons_zero]; rfl)
        · first | exact fun _ _ _ h => h | exact fun _ _ _ h => nomatch h.1
        · rfl
        · (intro W hSW; (try dsimp only at hSW); go_split_ands; first | (go_simp; done) | (go_simp; with_reducible rfl))
        try simp only [Act.put, List.setIfInBounds_toArray, List.set_cons_zero, List.set_cons_succ]
        clear hHeld
        refine wpAnyH_done (by kernel_rfl) ?_ _
        go_wp2_with fail
        go_meet
        exact ⟨(fun b => F2 b ∨ FreshL X W1 b), rfl, hT1, hF1, hbV⟩
      · go_simp
        have hn := below_alloc X (.cells #[.int .i64 0, .int .i64 0, .int .u32 0] DeT)
        have r6 := Row.new (W := X) (cs := #[.int .i64 0, .int .i64 0, .int .u32 0]) (t := DeT)
        have ha6 : V5.heap.size ≤ X.heap.size := hbV.size
        have hlt6 := r6.lt
        replace rp := rp.on hn
        replace r4 := r4.on hn
        replace r5 := r5.on hn
        replace hbV := hbV.on hn
        replace hTX := hTX.on hn
        clear hn
        generalize X.alloc _ = W1 at *
        generalize X.heap.size = a6 at *
        refine hK.out _ _ ⟨rp.cell, r4.cell, r5.cell⟩ (fun hHeld => ?_)
        clear hK K hHeld
        refine wpAnyH_ready (rs := [6]) (by kernel_rfl) (by simp) ?_
        refine' AllReadyH.cons (o := _) (by simp only [List.getElem?_toArray, List.getElem?_cons_succ, List.getElem?_cons_zero]; rfl) (fun K hK => ?_) AllReadyH.nil
        go_simp
        refine (CR.out _ hTX).mono ?_
        rintro e W2 ⟨rfl, hT1, hb1⟩
        go_simp
        replace rp := hb1.row rp nFp
        replace r4 := hb1.row r4 (fun h => by have := hFw _ h; omega)
        replace r5 := hb1.row r5 (fun h => by have := hFw _ h; omega)
        replace r6 := hb1.row r6 (fun h => by have := hFw _ h; omega)
        have hszb := hbV.size
        replace hbV := hbV.trans hb1 (fun _ _ h => h)
        have hF1 : ∀ b, (F2 b ∨ FreshL W1 W2 b) → F2 b ∨ V5.heap.size ≤ b := fun b hb => hb.imp id (fun h => Nat.le_trans hszb h.1)
        have hF1a : ¬ (F2 a6 ∨ FreshL W1 W2 a6) := fun h => by
          rcases h with h | h
          · have := hFw _ h; omega
          · have := h.1; omega
        clear hb1 hszb
        refine hK.out _ _ ⟨rp.cell, r4.cell, r5.cell⟩ (fun hHeld => ?_)
        clear hK K
        refine' wpAnyH_take (i := 7) (oi := _) (v := _) ?_ (by kernel_rfl) (by kernel_rfl) (by kernel_rfl) ?_ (Or.inl ⟨?_, ?_⟩) (by assumption) ?_
        rotate_left 2
        · (simp only [List.getElem?_toArray, List.getElem?_cons_succ, List.getElem?_cons_zero]; rfl)
        · first | exact fun _ _ _ h => h | exact fun _ _ _ h => nomatch h.1
        · rfl
        · (intro W hSW; (try dsimp only at hSW); go_split_ands; first | (go_simp; done) | (go_simp; with_reducible rfl))
        try simp only [Act.put, List.setIfInBounds_toArray, List.set_cons_zero, List.set_cons_succ]
        refine' wpAnyH_take (i := 8) (oi := _) (v := _) ?_ (by kernel_rfl) (by kernel_rfl) (by kernel_rfl) ?_ (Or.inl ⟨?_, ?_⟩) (by assumption) ?_
        rotate_left 2
        · (simp only [List.getElem?_toArray, List.getElem?_cons_succ, List.getElem?_cons_zero]; rfl)
        · first | exact fun _ _ _ h => h | exact fun _ _ _ h => nomatch h.1
        · rfl
        · (intro W hSW; (try dsimp only at hSW); go_split_ands; first | (go_simp; done) | (go_simp; with_reducible rfl))
        try simp only [Act.put, List.setIfInBounds_toArray, List.set_cons_zero, List.set_cons_succ]
        refine' wpAnyH_take (i := 9) (oi := _) (v := _) ?_ (by kernel_rfl) (by kernel_rfl) (by kernel_rfl) ?_ (Or.inl ⟨?_, ?_⟩) (by assumption) ?_
        rotate_left 2
        · (simp only [List.getElem?_toArray, List.getElem?_cons_succ, List.getElem?_cons_zero]; rfl)
        · first | exact fun _ _ _ h => h | exact fun _ _ _ h => nomatch h.1
        · rfl
        · (intro W hSW; (try dsimp only at hSW); go_split_ands; first | (go_simp; done) | (go_simp; with_reducible rfl))
        try simp only [Act.put, List.setIfInBounds_toArray, List.set_cons_zero, List.set_cons_succ]
        clear hHeld
        have y6 := r6.cell
        have u6 := r6.free
        have z6 := r6.lt
        refine wpAnyH_ready (rs := [11]) (by kernel_rfl) (by simp) ?_
        refine' AllReadyH.cons (o := _) (by simp only [List.getElem?_toArray, List.getElem?_cons_succ, List.getElem?_cons_zero]; rfl) (fun K hK => ?_) AllReadyH.nil
        go_simp
        clear y6 u6 z6
        replace rp := ((rp.other (show a6 ≠ pp by omega) 0 (.int .i64 1)).other (show a6 ≠ pp by omega) 1 (.int .i64 i)).other (show a6 ≠ pp by omega) 2 (.int .u32 s.gen)
        replace r4 := ((r4.other (show a6 ≠ w.heap.size by omega) 0 (.int .i64 1)).other (show a6 ≠ w.heap.size by omega) 1 (.int .i64 i)).other (show a6 ≠ w.heap.size by omega) 2 (.int .u32 s.gen)
        replace r5 := ((r5.other (show a6 ≠ w.heap.size + 1 by omega) 0 (.int .i64 1)).other (show a6 ≠ w.heap.size + 1 by omega) 1 (.int .i64 i)).other (show a6 ≠ w.heap.size + 1 by omega) 2 (.int .u32 s.gen)
        replace r6 := ((r6.set 0 (.int .i64 1)).set 1 (.int .i64 i)).set 2 (.int .u32 s.gen)
        simp only [List.setIfInBounds_toArray, List.set_cons_zero, List.set_cons_succ] at r6
        have hnV : a6 < V5.heap.size → F2 a6 := fun h => absurd h (by omega)
        replace hbV := ((hbV.setCell hnV 0 (.int .i64 1)).setCell hnV 1 (.int .i64 i)).setCell hnV 2 (.int .u32 s.gen)
        have hbW : But (fun b => b = a6) W2 (((W2.setCell ⟨a6, 0, none⟩ (.int .i64 1)).setCell ⟨a6, 1, none⟩ (.int .i64 i)).setCell ⟨a6, 2, none⟩ (.int .u32 s.gen)) := (((But.refl (fun b => b = a6) W2).setCell (y := a6) (fun _ => rfl) 0 (.int .i64 1)).setCell (y := a6) (fun _ => rfl) 1 (.int .i64 i)).setCell (y := a6) (fun _ => rfl) 2 (.int .u32 s.gen)
        replace hT1 := hT1.but hbW (fun b hb h => hF1a (by rw [← h]; exact hb))
        clear hbW hnV
        generalize World.setCell _ _ _ = Z at *
        refine hK.out _ _ ⟨rp.cell, r4.cell, r5.cell⟩ (fun hHeld => ?_)
        clear hK K
        refine' wpAnyH_take (i := 12) (oi := _) (v := _) ?_ (by kernel_rfl) (by kernel_rfl) (by kernel_rfl) ?_ (Or.inl ⟨?_, ?_⟩) (by assumption) ?_
        rotate_left 2
        · (simp only [List.getElem?_toArray, List.getElem?_cons_succ, List.getElem?_cons_zero]; rfl)
        · first | exact fun _ _ _ h => h | exact fun _ _ _ h => nomatch h.1
        · rfl
        · (intro W hSW; (try dsimp only at hSW); go_split_ands; first | (go_simp; done) | (go_simp; with_reducible rfl))
        try simp only [Act.put, List.setIfInBounds_toArray, List.set_cons_zero, List.set_cons_succ]
        clear hHeld
        refine wpAnyH_done (by kernel_rfl) ?_ _
        go_wp2_with fail
        go_meet
        exact ⟨(fun b => F2 b ∨ FreshL W1 W2 b), rfl, hT1, hF1, hbV⟩
    case rest =>
      obtain ⟨F2', rfl, hT2, hF2, hbV⟩ := hcut
      replace rpV := hbV.row rpV HP.out.n2p
      replace r6 := hbV.row r6 (fun h => by have := hFw _ h; omega)
      have hT1c := hT1.but hbV (fun b hb h => by
        rcases hF1 b hb with h1 | h1
        · exact HP.out.n12 b h1 h
        · have := hFw b h; omega)
      have hds : OwnsC DeT 3 0 wc vd (deL T.ds) := hds5.via (fun k hk => hbV.block k (hds5.lt k hk).2 (HP.out.nd k hk).2)
      have hst : OwnsC IntT 1 0 wc (.slice ast n cst) (stL T.rs) := hst5.via (fun k hk => hbV.block k (hst5.lt k hk).2 (HP.out.ns k hk).2)
      have hbw2 := (hbw.wide (G := F) HP.out.i1).trans hbV (fun b _ h => HP.out.i2 b h)
      have hs6 := hbV.size
      have hfin1 := hT1.fin
      clear hbV hds5 hst5 hT1 r4V r5V hTT
      generalize wc = V6 at *
      go_upto_region 6 with fail
      go_cut [] (fun wx => ∃ v8 v14, Row wx pp #[ptr p1, ptr p2, v8, v14] PairT ∧ OwnsC DeT 3 0 wx v8 (deL (T.ds ++ [(i, s.gen)])) ∧ OwnsC IntT 1 0 wx v14 (stL (T.rs ++ [⟨1, 0, 0⟩])) ∧ (∀ g, v8.ownBlock = some g → vd.ownBlock = some g ∨ V6.heap.size ≤ g) ∧ (∀ g, v14.ownBlock = some g → (Value.slice ast n cst).ownBlock = some g ∨ V6.heap.size ≤ g) ∧ But (fun b => (vd.ownBlock = some b ∨ (Value.slice ast n cst).ownBlock = some b) ∨ b = pp) V6 wx)
      case first =>
        obtain ⟨i0, hi0, hz0, hz1, hz2⟩ := info_parts descT_info
        have HI0 := Lib.hid hi0
        have HZ0 := Lib.hid hz0
        have HZ1 := Lib.hid hz1
        have HZ2 := Lib.hid hz2
        clear hi0 hz0 hz1 hz2
        obtain ⟨j0, hi0, hz0, hz1, hz2⟩ := info_parts int_infoT
        have HJ0 := Lib.hid hi0
        have HJ1 := Lib.hid hz0
        have HJ2 := Lib.hid hz1
        have HJ3 := Lib.hid hz2
        clear hi0 hz0 hz1 hz2
        refine region_late 20 (S := fun W' => W'.cell? ⟨pp, 3, none⟩ = some (.slice ast n cst) ∧ (∀ j, W'.cell? ⟨a6, j, none⟩ = (#[.int .i64 1, .int .i64 i, .int .u32 s.gen] : Array Value)[j]?)) (by kernel_rfl) ⟨(rpV.cell 3).trans rfl, r6.cell⟩ (fun hHeld => ?_)
        have hbX0 := (But.refl (fun b => vd.ownBlock = some b ∨ (Value.slice ast n cst).ownBlock = some b) V6).drew
        replace rpV := rpV.drew
        replace r6 := r6.drew
        replace hds : OwnsC DeT 3 0 V6.drew vd (deL T.ds) := hds
        replace hst : OwnsC IntT 1 0 V6.drew (.slice ast n cst) (stL T.rs) := hst
        have hVX : V6.drew.heap.size = V6.heap.size := rfl
        have hdL : ∀ g, vd.ownBlock = some g → g < w.heap.size := fun g hg => (HP.out.ds.lt g hg).2
        have hsL : ∀ g, (Value.slice ast n cst).ownBlock = some g → g < w.heap.size := fun g hg => (HP.out.st.lt g hg).2
        have hl8 : (deL T.ds).length + [(#[.int .i64 1, .int .i64 i, .int .u32 s.gen] : Array Value).toList].length = n + 1 := by rw [deL_len, HDL.out]; rfl
        have hl14 : (stL T.rs).length + [(#[.int .i64 1] : Array Value).toList].length = n + 1 := by rw [stL_len, HN.out]; rfl
        have HQ8 := Lib.hid (show deL T.ds ++ [(#[.int .i64 1, .int .i64 i, .int .u32 s.gen] : Array Value).toList] = deL (T.ds ++ [(i, s.gen)]) by simp [deL, deC])
        have HQ14 := Lib.hid (show stL T.rs ++ [(#[.int .i64 1] : Array Value).toList] = stL (T.rs ++ [⟨1, 0, 0⟩]) by simp [stL])
        have hXw : w.heap.size ≤ V6.drew.heap.size := Nat.le_trans (Nat.le_trans hcs hsV5) hs6
        obtain ⟨X, hXe⟩ : ∃ X, V6.drew = X := ⟨_, rfl⟩
        obtain ⟨B6, hB6⟩ : ∃ B, X.heap.size = B := ⟨_, rfl⟩
        have hV6s := Lib.hid (show V6.heap.size = B6 by rw [← hB6, ← hXe]; rfl)
        have HBS := Lib.hid (fun W (hb : But (fun b => vd.ownBlock = some b ∨ (Value.slice ast n cst).ownBlock = some b) X W) => (show B6 ≤ W.heap.size by rw [← hB6]; exact hb.size))
        have HB6 : RowKit.Hid (∀ Z, But (fun b => (vd.ownBlock = some b ∨ (Value.slice ast n cst).ownBlock = some b) ∨ b = pp) X Z → But (fun b => (vd.ownBlock = some b ∨ (Value.slice ast n cst).ownBlock = some b) ∨ b = pp) V6 Z) := Lib.hid (fun Z hb => by
          rw [← hXe] at hb
          exact ⟨hb.os, hb.tape, hb.output, hb.size, hb.block⟩)
        rw [hXe] at rpV r6 hds hst hHeld hXw ⊢
        rw [hB6] at hXw
        clear hbX0 hVX hXe hB6
        have hbX := But.refl (fun b => vd.ownBlock = some b ∨ (Value.slice ast n cst).ownBlock = some b) X
        have hpn : ¬ (vd.ownBlock = some pp ∨ (Value.slice ast n cst).ownBlock = some pp) := fun h => by
          rcases h with h | h
          · exact hds.ne_row rpV (by decide) h
          · exact hst.ne_row rpV (by decide) h
        have hqn : ¬ (vd.ownBlock = some a6 ∨ (Value.slice ast n cst).ownBlock = some a6) := fun h => by
          rcases h with h | h
          · have := hdL a6 h; omega
          · have := hsL a6 h; omega
        have HRP := Lib.hid (fun W (hb : But (fun b => vd.ownBlock = some b ∨ (Value.slice ast n cst).ownBlock = some b) X W) => hb.row rpV hpn)
        have HR6 := Lib.hid (fun W (hb : But (fun b => vd.ownBlock = some b ∨ (Value.slice ast n cst).ownBlock = some b) X W) => hb.row r6 hqn)
        have hap6 : a6 ≠ pp := by omega
        clear rpV r6
        refine' anyM_take (i := 0) (oi := _) (v := _) ?_ (by kernel_rfl) (by kernel_rfl) (by kernel_rfl) (by kernel_rfl) (by kernel_rfl) ?_ (Or.inl ⟨?_, ?_⟩) (by assumption) ?_
        rotate_left 2
        · (simp only [List.getElem?_toArray, List.getElem?_cons_succ, List.getElem?_cons_zero]; rfl)
        · first | exact fun _ _ _ h => h | exact fun _ _ _ h => nomatch h.1
        · rfl
        · (intro W hSW; (try dsimp only at hSW); go_split_ands; first | (go_simp; done) | (go_simp; with_reducible rfl))
        try simp only [Act.put, List.setIfInBounds_toArray, List.set_cons_zero, List.set_cons_succ]
        refine' anyM_take (i := 1) (oi := _) (v := _) ?_ (by kernel_rfl) (by kernel_rfl) (by kernel_rfl) (by kernel_rfl) (by kernel_rfl) ?_ (Or.inl ⟨?_, ?_⟩) (by assumption) ?_
        rotate_left 2
        · (simp only [List.getElem?_toArray, List.getElem?_cons_succ, List.getElem?_cons_zero]; rfl)
        · first | exact fun _ _ _ h => h | exact fun _ _ _ h => nomatch h.1
        · rfl
        · (intro W hSW; (try dsimp only at hSW); go_split_ands; first | (go_simp; done) | (go_simp; with_reducible rfl))
        try simp only [Act.put, List.setIfInBounds_toArray, List.set_cons_zero, List.set_cons_succ]
        refine' anyM_take (i := 2) (oi := _) (v := _) ?_ (by kernel_rfl) (by kernel_rfl) (by kernel_rfl) (by kernel_rfl) (by kernel_rfl) ?_ (Or.inl ⟨?_, ?_⟩) (by assumption) ?_
        rotate_left 2
        · (simp only [List.getElem?_toArray, List.getElem?_cons_succ, List.getElem?_cons_zero]; rfl)
        · first | exact fun _ _ _ h => h | exact fun _ _ _ h => nomatch h.1
        · rfl
        · (intro W hSW; (try dsimp only at hSW); go_split_ands; first | (go_simp; done) | (go_simp; with_reducible rfl))
        try simp only [Act.put, List.setIfInBounds_toArray, List.set_cons_zero, List.set_cons_succ]
        refine' anyM_take (i := 3) (oi := _) (v := _) ?_ (by kernel_rfl) (by kernel_rfl) (by kernel_rfl) (by kernel_rfl) (by kernel_rfl) ?_ (Or.inl ⟨?_, ?_⟩) (by assumption) ?_
        rotate_left 2
        · (simp only [List.getElem?_toArray, List.getElem?_cons_succ, List.getElem?_cons_zero]; rfl)
        · first | exact fun _ _ _ h => h | exact fun _ _ _ h => nomatch h.1
        · rfl
        · (intro W hSW; (try dsimp only at hSW); go_split_ands; first | (go_simp; done) | (go_simp; with_reducible rfl))
        try simp only [Act.put, List.setIfInBounds_toArray, List.set_cons_zero, List.set_cons_succ]
        refine' anyM_take (i := 4) (oi := _) (v := _) ?_ (by kernel_rfl) (by kernel_rfl) (by kernel_rfl) (by kernel_rfl) (by kernel_rfl) ?_ (Or.inl ⟨?_, ?_⟩) (by assumption) ?_
        rotate_left 2
        · (simp only [List.getElem?_toArray, List.getElem?_cons_succ, List.getElem?_cons_zero]; rfl)
        · first | exact fun _ _ _ h => h | exact fun _ _ _ h => nomatch h.1
        · rfl
        · (intro W hSW; (try dsimp only at hSW); go_split_ands; first | (go_simp; done) | (go_simp; with_reducible rfl))
        try simp only [Act.put, List.setIfInBounds_toArray, List.set_cons_zero, List.set_cons_succ]
        refine' anyM_take (i := 6) (oi := _) (v := _) ?_ (by kernel_rfl) (by kernel_rfl) (by kernel_rfl) (by kernel_rfl) (by kernel_rfl) ?_ (Or.inl ⟨?_, ?_⟩) (by assumption) ?_
        rotate_left 2
        · (simp only [List.getElem?_toArray, List.getElem?_cons_succ, List.getElem?_cons_zero]; rfl)
        · first | exact fun _ _ _ h => h | exact fun _ _ _ h => nomatch h.1
        · rfl
        · (intro W hSW; (try dsimp only at hSW); go_split_ands; first | (go_simp; done) | (go_simp; with_reducible rfl))
        try simp only [Act.put, List.setIfInBounds_toArray, List.set_cons_zero, List.set_cons_succ]
        refine' anyM_take (i := 9) (oi := _) (v := _) ?_ (by kernel_rfl) (by kernel_rfl) (by kernel_rfl) (by kernel_rfl) (by kernel_rfl) ?_ (Or.inl ⟨?_, ?_⟩) (by assumption) ?_
        rotate_left 2
        · (simp only [List.getElem?_toArray, List.getElem?_cons_succ, List.getElem?_cons_zero]; rfl)
        · first | exact fun _ _ _ h => h | exact fun _ _ _ h => nomatch h.1
        · rfl
        · (intro W hSW; (try dsimp only at hSW); go_split_ands; first | (go_simp; done) | (go_simp; with_reducible rfl))
        try simp only [Act.put, List.setIfInBounds_toArray, List.set_cons_zero, List.set_cons_succ]
        refine' anyM_take (i := 10) (oi := _) (v := _) ?_ (by kernel_rfl) (by kernel_rfl) (by kernel_rfl) (by kernel_rfl) (by kernel_rfl) ?_ (Or.inl ⟨?_, ?_⟩) (by assumption) ?_
        rotate_left 2
        · (simp only [List.getElem?_toArray, List.getElem?_cons_succ, List.getElem?_cons_zero]; rfl)
        · first | exact fun _ _ _ h => h | exact fun _ _ _ h => nomatch h.1
        · rfl
        · (intro W hSW; (try dsimp only at hSW); go_split_ands; first | (go_simp; done) | (go_simp; with_reducible rfl))
        try simp only [Act.put, List.setIfInBounds_toArray, List.set_cons_zero, List.set_cons_succ]
        refine' anyM_take (i := 11) (oi := _) (v := _) ?_ (by kernel_rfl) (by kernel_rfl) (by kernel_rfl) (by kernel_rfl) (by kernel_rfl) ?_ (Or.inl ⟨?_, ?_⟩) (by assumption) ?_
        rotate_left 2
        · (simp only [List.getElem?_toArray, List.getElem?_cons_succ, List.getElem?_cons_zero]; rfl)
        · first | exact fun _ _ _ h => h | exact fun _ _ _ h => nomatch h.1
        · rfl
        · (intro W hSW; (try dsimp only at hSW); go_split_ands; first | (go_simp; done) | (go_simp; with_reducible rfl))
        try simp only [Act.put, List.setIfInBounds_toArray, List.set_cons_zero, List.set_cons_succ]
        refine' anyM_take (i := 12) (oi := _) (v := _) ?_ (by kernel_rfl) (by kernel_rfl) (by kernel_rfl) (by kernel_rfl) (by kernel_rfl) ?_ (Or.inl ⟨?_, ?_⟩) (by assumption) ?_
        rotate_left 2
        · (simp only [List.getElem?_toArray, List.getElem?_cons_succ, List.getElem?_cons_zero]; rfl)
        · first | exact fun _ _ _ h => h | exact fun _ _ _ h => nomatch h.1
        · rfl
        · (intro W hSW; (try dsimp only at hSW); go_split_ands; first | (go_simp; done) | (go_simp; with_reducible rfl))
        try simp only [Act.put, List.setIfInBounds_toArray, List.set_cons_zero, List.set_cons_succ]
        clear hHeld
        refine anyM_ready (rs := [5, 7, 13]) (by kernel_rfl) (by simp) ?_
        refine' ReadyM.cons (o := _) (by simp only [List.getElem?_toArray, List.getElem?_cons_succ, List.getElem?_cons_zero]; rfl) (fun K hK => ?_) (ReadyM.cons (o := _) (by simp only [List.getElem?_toArray, List.getElem?_cons_succ, List.getElem?_cons_zero]; rfl) (fun K hK => ?_) (ReadyM.cons (o := _) (by simp only [List.getElem?_toArray, List.getElem?_cons_succ, List.getElem?_cons_zero]; rfl) (fun K hK => ?_) ReadyM.nil))
        · have y5 := (HRP.out _ hbX).cell
          have z5 := (HRP.out _ hbX).lt
          go_simp
          clear y5 z5
          refine hK.out _ _ (fun _ => ⟨((HRP.out _ hbX).cell 3).trans rfl, (HR6.out _ hbX).cell⟩) (fun hHeld0 => ?_)
          have hHeld := hHeld0 (by decide)
          clear hHeld0 hK K
          refine anyM_ready (rs := [7, 13]) (by kernel_rfl) (by simp) ?_
          refine' ReadyM.cons (o := _) (by simp only [List.getElem?_toArray, List.getElem?_cons_succ, List.getElem?_cons_zero]; rfl) (fun K hK => ?_) (ReadyM.cons (o := _) (by simp only [List.getElem?_toArray, List.getElem?_cons_succ, List.getElem?_cons_zero]; rfl) (fun K hK => ?_) ReadyM.nil)
          · go_simp
            have hn := below_alloc X (.cells #[.int .i64 1, .int .i64 i, .int .u32 s.gen] DeT)
            have hit7 := src_row (t := DeT) (k := 3) X #[.int .i64 1, .int .i64 i, .int .u32 s.gen] rfl (fun u hu => de_oneC _ _ u hu)
            have ha7 : X.heap.size < (X.alloc (.cells #[.int .i64 1, .int .i64 i, .int .u32 s.gen] DeT)).heap.size := by simp
            have hb7 : B6 ≤ X.heap.size := HBS.out _ hbX
            replace hds := hds.on hn
            replace hst := hst.on hn
            replace hbX := hbX.on hn
            clear hn
            generalize X.alloc _ = W2 at *
            generalize X.heap.size = aI7 at *
            refine hK.out _ _ (fun _ => ⟨((HRP.out _ hbX).cell 3).trans rfl, (HR6.out _ hbX).cell⟩) (fun hHeld0 => ?_)
            have hHeld := hHeld0 (by decide)
            clear hHeld0 hK K
            refine anyM_ready (rs := [8, 13]) (by kernel_rfl) (by simp) ?_
            refine' ReadyM.cons (o := _) (by simp only [List.getElem?_toArray, List.getElem?_cons_succ, List.getElem?_cons_zero]; rfl) (fun K hK => ?_) (ReadyM.cons (o := _) (by simp only [List.getElem?_toArray, List.getElem?_cons_succ, List.getElem?_cons_zero]; rfl) (fun K hK => ?_) ReadyM.nil)
            · refine step_app2 rfl (.tmp 50) (.tmp 52) 37 rfl (b := 0) Tryz.underlying37 HI0.out HZ0.out HZ1.out HZ2.out rfl (by decide) rfl rfl hds hit7 (by rw [hl8]; omega) (by decide) (Nat.zero_le _) ?_
              rw [hl8]
              intro a8 c8 W3 h8 hgrow hat8
              have hw8 := HBS.out _ hbX
              replace hst := hst.via (fun k hk => hgrow.block k (hst.lt k hk).2 (fun e => hst.ne_own hds (by decide) e.symm hk))
              replace hbX := hbX.grown hgrow (fun k hk _ => .inl hk)
              replace hat8 : ∀ g, (Value.slice a8 (n + 1) c8).ownBlock = some g → vd.ownBlock = some g ∨ B6 ≤ g := fun g hg => (hat8 g hg).imp id (fun h => Nat.le_trans hw8 h)
              clear hgrow hds hit7 hw8
              go_simp
              refine hK.out _ _ (fun _ => ⟨((HRP.out _ hbX).cell 3).trans rfl, (HR6.out _ hbX).cell⟩) (fun hHeld0 => ?_)
              have hHeld := hHeld0 (by decide)
              clear hHeld0 hK K
              refine anyM_ready (rs := [13]) (by kernel_rfl) (by simp) ?_
              refine' ReadyM.cons (o := _) (by simp only [List.getElem?_toArray, List.getElem?_cons_succ, List.getElem?_cons_zero]; rfl) (fun K hK => ?_) ReadyM.nil
              go_simp
              have hn := below_alloc W3 (.cells #[.int .i64 1] IntT)
              have hit13 := src_row (t := IntT) (k := 1) W3 #[.int .i64 1] rfl (fun u hu => by rw [List.mem_singleton.1 hu]; rfl)
              have ha13 : W3.heap.size < (W3.alloc (.cells #[.int .i64 1] IntT)).heap.size := by simp
              have hb13 : B6 ≤ W3.heap.size := HBS.out _ hbX
              replace h8 := h8.on hn
              replace hst := hst.on hn
              replace hbX := hbX.on hn
              clear hn
              generalize W3.alloc _ = W4 at *
              generalize W3.heap.size = aI13 at *
              refine hK.out _ _ (fun _ => ⟨((HRP.out _ hbX).cell 3).trans rfl, (HR6.out _ hbX).cell⟩) (fun hHeld0 => ?_)
              have hHeld := hHeld0 (by decide)
              clear hHeld0 hK K
              refine anyM_ready (rs := [14]) (by kernel_rfl) (by simp) ?_
              refine' ReadyM.cons (o := _) (by simp only [List.getElem?_toArray, List.getElem?_cons_succ, List.getElem?_cons_zero]; rfl) (fun K hK => ?_) ReadyM.nil
              refine step_app2 rfl (.tmp 57) (.tmp 58) 38 rfl (b := 0) Tryz.underlying38 HJ0.out HJ1.out HJ2.out HJ3.out rfl (by decide) rfl rfl hst hit13 (by rw [hl14]; omega) (by decide) (Nat.zero_le _) ?_
              rw [hl14]
              intro a14 c14 W5 h14 hgrow hat14
              have hw8 := HBS.out _ hbX
              replace h8 := h8.via (fun k hk => hgrow.block k (h8.lt k hk).2 (fun e => h8.ne_own hst (by decide) e.symm hk))
              replace hbX := hbX.grown hgrow (fun k hk _ => .inr hk)
              replace hat14 : ∀ g, (Value.slice a14 (n + 1) c14).ownBlock = some g → (Value.slice ast n cst).ownBlock = some g ∨ B6 ≤ g := fun g hg => (hat14 g hg).imp id (fun h => Nat.le_trans hw8 h)
              clear hgrow hst hit13 hw8
              go_simp
              refine hK.out _ _ (fun _ => ⟨((HRP.out _ hbX).cell 3).trans rfl, (HR6.out _ hbX).cell⟩) (fun hHeld0 => ?_)
              have hHeld := hHeld0 (by decide)
              clear hHeld0 hK K
              refine' anyM_take (i := 15) (oi := _) (v := _) ?_ (by kernel_rfl) (by kernel_rfl) (by kernel_rfl) (by kernel_rfl) (by kernel_rfl) ?_ (Or.inl ⟨?_, ?_⟩) (by assumption) ?_
              rotate_left 2
              · (simp only [List.getElem?_toArray, List.getElem?_cons_succ, List.getElem?_cons_zero]; rfl)
              · first | exact fun _ _ _ h => h | exact fun _ _ _ h => nomatch h.1
              · rfl
              · (intro W hSW; (try dsimp only at hSW); go_split_ands; first | (go_simp; done) | (go_simp; with_reducible rfl))
              try simp only [Act.put, List.setIfInBounds_toArray, List.set_cons_zero, List.set_cons_succ]
              refine' anyM_take (i := 16) (oi := _) (v := _) ?_ (by kernel_rfl) (by kernel_rfl) (by kernel_rfl) (by kernel_rfl) (by kernel_rfl) ?_ (Or.inl ⟨?_, ?_⟩) (by assumption) ?_
              rotate_left 2
              · (simp only [List.getElem?_toArray, List.getElem?_cons_succ, List.getElem?_cons_zero]; rfl)
              · first | exact fun _ _ _ h => h | exact fun _ _ _ h => nomatch h.1
              · rfl
              · (intro W hSW; (try dsimp only at hSW); go_split_ands; first | (go_simp; done) | (go_simp; with_reducible rfl))
              try simp only [Act.put, List.setIfInBounds_toArray, List.set_cons_zero, List.set_cons_succ]
              clear hHeld
              have yp := (HRP.out _ hbX).cell
              have up := (HRP.out _ hbX).free
              have zp := (HRP.out _ hbX).lt
              refine anyM_ready (rs := [17]) (by kernel_rfl) (by simp) ?_
              refine' ReadyM.cons (o := _) (by simp only [List.getElem?_toArray, List.getElem?_cons_succ, List.getElem?_cons_zero]; rfl) (fun K hK => ?_) ReadyM.nil
              go_simp
              clear yp up zp
              have rp1 := (HRP.out _ hbX).set 2 (.slice a8 (n + 1) c8)
              simp only [List.setIfInBounds_toArray, List.set_cons_zero, List.set_cons_succ] at rp1
              have r61 := (HR6.out _ hbX).other hap6.symm 2 (.slice a8 (n + 1) c8)
              replace h8 := h8.other (h8.ne_row (HRP.out _ hbX) (by decide)) 2 (.slice a8 (n + 1) c8)
              replace h14 := h14.other (h14.ne_row (HRP.out _ hbX) (by decide)) 2 (.slice a8 (n + 1) c8)
              have hbY := (hbX.wide (G := fun b => (vd.ownBlock = some b ∨ (Value.slice ast n cst).ownBlock = some b) ∨ b = pp) (fun k hk => .inl hk)).setCell (y := pp) (fun _ => .inr rfl) 2 (.slice a8 (n + 1) c8)
              clear hbX
              generalize World.setCell _ _ _ = Y at *
              refine hK.out _ _ (fun _ => ⟨(rp1.cell 3).trans rfl, r61.cell⟩) (fun hHeld0 => ?_)
              have hHeld := hHeld0 (by decide)
              clear hHeld0 hK K
              refine' anyM_take (i := 18) (oi := _) (v := _) ?_ (by kernel_rfl) (by kernel_rfl) (by kernel_rfl) (by kernel_rfl) (by kernel_rfl) ?_ (Or.inl ⟨?_, ?_⟩) (by assumption) ?_
              rotate_left 2
              · (simp only [List.getElem?_toArray, List.getElem?_cons_succ, List.getElem?_cons_zero]; rfl)
              · first | exact fun _ _ _ h => h | exact fun _ _ _ h => nomatch h.1
              · rfl
              · (intro W hSW; (try dsimp only at hSW); go_split_ands; first | (go_simp; done) | (go_simp; with_reducible rfl))
              try simp only [Act.put, List.setIfInBounds_toArray, List.set_cons_zero, List.set_cons_succ]
              refine' anyM_take (i := 19) (oi := _) (v := _) ?_ (by kernel_rfl) (by kernel_rfl) (by kernel_rfl) (by kernel_rfl) (by kernel_rfl) ?_ (Or.inl ⟨?_, ?_⟩) (by assumption) ?_
              rotate_left 2
              · (simp only [List.getElem?_toArray, List.getElem?_cons_succ, List.getElem?_cons_zero]; rfl)
              · first | exact fun _ _ _ h => h | exact fun _ _ _ h => nomatch h.1
              · rfl
              · (intro W hSW; (try dsimp only at hSW); go_split_ands; first | (go_simp; done) | (go_simp; with_reducible rfl))
              try simp only [Act.put, List.setIfInBounds_toArray, List.set_cons_zero, List.set_cons_succ]
              clear hHeld
              have yp := rp1.cell
              have up := rp1.free
              have zp := rp1.lt
              refine anyM_ready (rs := [20]) (by kernel_rfl) (by simp) ?_
              refine' ReadyM.cons (o := _) (by simp only [List.getElem?_toArray, List.getElem?_cons_succ, List.getElem?_cons_zero]; rfl) (fun K hK => ?_) ReadyM.nil
              go_simp
              clear yp up zp
              refine hK.out _ _ (fun h => absurd rfl h) (fun _ => ?_)
              clear hK K
              refine anyM_done (by kernel_rfl) ?_ _
              have rp2 := rp1.set 3 (.slice a14 (n + 1) c14)
              simp only [List.setIfInBounds_toArray, List.set_cons_zero, List.set_cons_succ] at rp2
              replace h8 := h8.other (h8.ne_row rp1 (by decide)) 3 (.slice a14 (n + 1) c14)
              replace h14 := h14.other (h14.ne_row rp1 (by decide)) 3 (.slice a14 (n + 1) c14)
              replace hbY := hbY.setCell (y := pp) (fun _ => .inr rfl) 3 (.slice a14 (n + 1) c14)
              clear rp1 r61
              generalize World.setCell _ _ _ = Z at *
              go_wp2_with fail
              go_meet
              rw [HQ8.out] at h8
              rw [HQ14.out] at h14
              exact ⟨_, _, rp2, h8, h14, fun g hg => by rw [hV6s.out]; exact hat8 g hg, fun g hg => by rw [hV6s.out]; exact hat14 g hg, HB6.out _ hbY⟩
            · go_simp
              have hn := below_alloc W2 (.cells #[.int .i64 1] IntT)
              have hit13 := src_row (t := IntT) (k := 1) W2 #[.int .i64 1] rfl (fun u hu => by rw [List.mem_singleton.1 hu]; rfl)
              have ha13 : W2.heap.size < (W2.alloc (.cells #[.int .i64 1] IntT)).heap.size := by simp
              have hb13 : B6 ≤ W2.heap.size := HBS.out _ hbX
              replace hit7 := hit7.keep (fun g hg => hn.block g (by have : aI7 = g := Option.some.inj hg; omega))
              replace ha7 := Nat.lt_of_lt_of_le ha7 hn.size
              replace hds := hds.on hn
              replace hst := hst.on hn
              replace hbX := hbX.on hn
              clear hn
              generalize W2.alloc _ = W3 at *
              generalize W2.heap.size = aI13 at *
              refine hK.out _ _ (fun _ => ⟨((HRP.out _ hbX).cell 3).trans rfl, (HR6.out _ hbX).cell⟩) (fun hHeld0 => ?_)
              have hHeld := hHeld0 (by decide)
              clear hHeld0 hK K
              refine anyM_ready (rs := [8]) (by kernel_rfl) (by simp) ?_
              refine' ReadyM.cons (o := _) (by simp only [List.getElem?_toArray, List.getElem?_cons_succ, List.getElem?_cons_zero]; rfl) (fun K hK => ?_) ReadyM.nil
              refine step_app2 rfl (.tmp 50) (.tmp 52) 37 rfl (b := 0) Tryz.underlying37 HI0.out HZ0.out HZ1.out HZ2.out rfl (by decide) rfl rfl hds hit7 (by rw [hl8]; omega) (by decide) (Nat.zero_le _) ?_
              rw [hl8]
              intro a8 c8 W4 h8 hgrow hat8
              have hw8 := HBS.out _ hbX
              replace hst := hst.via (fun k hk => hgrow.block k (hst.lt k hk).2 (fun e => hst.ne_own hds (by decide) e.symm hk))
              replace hit13 := hit13.keep (fun g hg => hgrow.block g (by have : aI13 = g := Option.some.inj hg; omega) (fun e => by have h1 : aI13 = g := Option.some.inj hg; have h2 := hdL g e.symm; omega))
              replace ha13 := Nat.lt_of_lt_of_le ha13 hgrow.size
              replace hbX := hbX.grown hgrow (fun k hk _ => .inl hk)
              replace hat8 : ∀ g, (Value.slice a8 (n + 1) c8).ownBlock = some g → vd.ownBlock = some g ∨ B6 ≤ g := fun g hg => (hat8 g hg).imp id (fun h => Nat.le_trans hw8 h)
              clear hgrow hds hit7 hw8
              go_simp
              refine hK.out _ _ (fun _ => ⟨((HRP.out _ hbX).cell 3).trans rfl, (HR6.out _ hbX).cell⟩) (fun hHeld0 => ?_)
              have hHeld := hHeld0 (by decide)
              clear hHeld0 hK K
              refine anyM_ready (rs := [14]) (by kernel_rfl) (by simp) ?_
              refine' ReadyM.cons (o := _) (by simp only [List.getElem?_toArray, List.getElem?_cons_succ, List.getElem?_cons_zero]; rfl) (fun K hK => ?_) ReadyM.nil
              refine step_app2 rfl (.tmp 57) (.tmp 58) 38 rfl (b := 0) Tryz.underlying38 HJ0.out HJ1.out HJ2.out HJ3.out rfl (by decide) rfl rfl hst hit13 (by rw [hl14]; omega) (by decide) (Nat.zero_le _) ?_
              rw [hl14]
              intro a14 c14 W5 h14 hgrow hat14
              have hw8 := HBS.out _ hbX
              replace h8 := h8.via (fun k hk => hgrow.block k (h8.lt k hk).2 (fun e => h8.ne_own hst (by decide) e.symm hk))
              replace hbX := hbX.grown hgrow (fun k hk _ => .inr hk)
              replace hat14 : ∀ g, (Value.slice a14 (n + 1) c14).ownBlock = some g → (Value.slice ast n cst).ownBlock = some g ∨ B6 ≤ g := fun g hg => (hat14 g hg).imp id (fun h => Nat.le_trans hw8 h)
              clear hgrow hst hit13 hw8
              go_simp
              refine hK.out _ _ (fun _ => ⟨((HRP.out _ hbX).cell 3).trans rfl, (HR6.out _ hbX).cell⟩) (fun hHeld0 => ?_)
              have hHeld := hHeld0 (by decide)
              clear hHeld0 hK K
              refine' anyM_take (i := 15) (oi := _) (v := _) ?_ (by kernel_rfl) (by kernel_rfl) (by kernel_rfl) (by kernel_rfl) (by kernel_rfl) ?_ (Or.inl ⟨?_, ?_⟩) (by assumption) ?_
              rotate_left 2
              · (simp only [List.getElem?_toArray, List.getElem?_cons_succ, List.getElem?_cons_zero]; rfl)
              · first | exact fun _ _ _ h => h | exact fun _ _ _ h => nomatch h.1
              · rfl
              · (intro W hSW; (try dsimp only at hSW); go_split_ands; first | (go_simp; done) | (go_simp; with_reducible rfl))
              try simp only [Act.put, List.setIfInBounds_toArray, List.set_cons_zero, List.set_cons_succ]
              refine' anyM_take (i := 16) (oi := _) (v := _) ?_ (by kernel_rfl) (by kernel_rfl) (by kernel_rfl) (by kernel_rfl) (by kernel_rfl) ?_ (Or.inl ⟨?_, ?_⟩) (by assumption) ?_
              rotate_left 2
              · (simp only [List.getElem?_toArray, List.getElem?_cons_succ, List.getElem?_cons_zero]; rfl)
              · first | exact fun _ _ _ h => h | exact fun _ _ _ h => nomatch h.1
              · rfl
              · (intro W hSW; (try dsimp only at hSW); go_split_ands; first | (go_simp; done) | (go_simp; with_reducible rfl))
              try simp only [Act.put, List.setIfInBounds_toArray, List.set_cons_zero, List.set_cons_succ]
              clear hHeld
              have yp := (HRP.out _ hbX).cell
              have up := (HRP.out _ hbX).free
              have zp := (HRP.out _ hbX).lt
              refine anyM_ready (rs := [17]) (by kernel_rfl) (by simp) ?_
              refine' ReadyM.cons (o := _) (by simp only [List.getElem?_toArray, List.getElem?_cons_succ, List.getElem?_cons_zero]; rfl) (fun K hK => ?_) ReadyM.nil
              go_simp
              clear yp up zp
              have rp1 := (HRP.out _ hbX).set 2 (.slice a8 (n + 1) c8)
              simp only [List.setIfInBounds_toArray, List.set_cons_zero, List.set_cons_succ] at rp1
              have r61 := (HR6.out _ hbX).other hap6.symm 2 (.slice a8 (n + 1) c8)
              replace h8 := h8.other (h8.ne_row (HRP.out _ hbX) (by decide)) 2 (.slice a8 (n + 1) c8)
              replace h14 := h14.other (h14.ne_row (HRP.out _ hbX) (by decide)) 2 (.slice a8 (n + 1) c8)
              have hbY := (hbX.wide (G := fun b => (vd.ownBlock = some b ∨ (Value.slice ast n cst).ownBlock = some b) ∨ b = pp) (fun k hk => .inl hk)).setCell (y := pp) (fun _ => .inr rfl) 2 (.slice a8 (n + 1) c8)
              clear hbX
              generalize World.setCell _ _ _ = Y at *
              refine hK.out _ _ (fun _ => ⟨(rp1.cell 3).trans rfl, r61.cell⟩) (fun hHeld0 => ?_)
              have hHeld := hHeld0 (by decide)
              clear hHeld0 hK K
              refine' anyM_take (i := 18) (oi := _) (v := _) ?_ (by kernel_rfl) (by kernel_rfl) (by kernel_rfl) (by kernel_rfl) (by kernel_rfl) ?_ (Or.inl ⟨?_, ?_⟩) (by assumption) ?_
              rotate_left 2
              · (simp only [List.getElem?_toArray, List.getElem?_cons_succ, List.getElem?_cons_zero]; rfl)
              · first | exact fun _ _ _ h => h | exact fun _ _ _ h => nomatch h.1
              · rfl
              · (intro W hSW; (try dsimp only at hSW); go_split_ands; first | (go_simp; done) | (go_simp; with_reducible rfl))
              try simp only [Act.put, List.setIfInBounds_toArray, List.set_cons_zero, List.set_cons_succ]
              refine' anyM_take (i := 19) (oi := _) (v := _) ?_ (by kernel_rfl) (by kernel_rfl) (by kernel_rfl) (by kernel_rfl) (by kernel_rfl) ?_ (Or.inl ⟨?_, ?_⟩) (by assumption) ?_
              rotate_left 2
              · (simp only [List.getElem?_toArray, List.getElem?_cons_succ, List.getElem?_cons_zero]; rfl)
              · first | exact fun _ _ _ h => h | exact fun _ _ _ h => nomatch h.1
              · rfl
              · (intro W hSW; (try dsimp only at hSW); go_split_ands; first | (go_simp; done) | (go_simp; with_reducible rfl))
              try simp only [Act.put, List.setIfInBounds_toArray, List.set_cons_zero, List.set_cons_succ]
              clear hHeld
              have yp := rp1.cell
              have up := rp1.free
              have zp := rp1.lt
              refine anyM_ready (rs := [20]) (by kernel_rfl) (by simp) ?_
              refine' ReadyM.cons (o := _) (by simp only [List.getElem?_toArray, List.getElem?_cons_succ, List.getElem?_cons_zero]; rfl) (fun K hK => ?_) ReadyM.nil
              go_simp
              clear yp up zp
              refine hK.out _ _ (fun h => absurd rfl h) (fun _ => ?_)
              clear hK K
              refine anyM_done (by kernel_rfl) ?_ _
              have rp2 := rp1.set 3 (.slice a14 (n + 1) c14)
              simp only [List.setIfInBounds_toArray, List.set_cons_zero, List.set_cons_succ] at rp2
              replace h8 := h8.other (h8.ne_row rp1 (by decide)) 3 (.slice a14 (n + 1) c14)
              replace h14 := h14.other (h14.ne_row rp1 (by decide)) 3 (.slice a14 (n + 1) c14)
              replace hbY := hbY.setCell (y := pp) (fun _ => .inr rfl) 3 (.slice a14 (n + 1) c14)
              clear rp1 r61
              generalize World.setCell _ _ _ = Z at *
              go_wp2_with fail
              go_meet
              rw [HQ8.out] at h8
              rw [HQ14.out] at h14
              exact ⟨_, _, rp2, h8, h14, fun g hg => by rw [hV6s.out]; exact hat8 g hg, fun g hg => by rw [hV6s.out]; exact hat14 g hg, HB6.out _ hbY⟩
          · go_simp
            have hn := below_alloc X (.cells #[.int .i64 1] IntT)
            have hit13 := src_row (t := IntT) (k := 1) X #[.int .i64 1] rfl (fun u hu => by rw [List.mem_singleton.1 hu]; rfl)
            have ha13 : X.heap.size < (X.alloc (.cells #[.int .i64 1] IntT)).heap.size := by simp
            have hb13 : B6 ≤ X.heap.size := HBS.out _ hbX
            replace hds := hds.on hn
            replace hst := hst.on hn
            replace hbX := hbX.on hn
            clear hn
            generalize X.alloc _ = W2 at *
            generalize X.heap.size = aI13 at *
            refine hK.out _ _ (fun _ => ⟨((HRP.out _ hbX).cell 3).trans rfl, (HR6.out _ hbX).cell⟩) (fun hHeld0 => ?_)
            have hHeld := hHeld0 (by decide)
            clear hHeld0 hK K
            refine anyM_ready (rs := [7]) (by kernel_rfl) (by simp) ?_
            refine' ReadyM.cons (o := _) (by simp only [List.getElem?_toArray, List.getElem?_cons_succ, List.getElem?_cons_zero]; rfl) (fun K hK => ?_) ReadyM.nil
            go_simp
            have hn := below_alloc W2 (.cells #[.int .i64 1, .int .i64 i, .int .u32 s.gen] DeT)
            have hit7 := src_row (t := DeT) (k := 3) W2 #[.int .i64 1, .int .i64 i, .int .u32 s.gen] rfl (fun u hu => de_oneC _ _ u hu)
            have ha7 : W2.heap.size < (W2.alloc (.cells #[.int .i64 1, .int .i64 i, .int .u32 s.gen] DeT)).heap.size := by simp
            have hb7 : B6 ≤ W2.heap.size := HBS.out _ hbX
            replace hit13 := hit13.keep (fun g hg => hn.block g (by have : aI13 = g := Option.some.inj hg; omega))
            replace ha13 := Nat.lt_of_lt_of_le ha13 hn.size
            replace hds := hds.on hn
            replace hst := hst.on hn
            replace hbX := hbX.on hn
            clear hn
            generalize W2.alloc _ = W3 at *
            generalize W2.heap.size = aI7 at *
            refine hK.out _ _ (fun _ => ⟨((HRP.out _ hbX).cell 3).trans rfl, (HR6.out _ hbX).cell⟩) (fun hHeld0 => ?_)
            have hHeld := hHeld0 (by decide)
            clear hHeld0 hK K
            refine anyM_ready (rs := [8]) (by kernel_rfl) (by simp) ?_
            refine' ReadyM.cons (o := _) (by simp only [List.getElem?_toArray, List.getElem?_cons_succ, List.getElem?_cons_zero]; rfl) (fun K hK => ?_) ReadyM.nil
            refine step_app2 rfl (.tmp 50) (.tmp 52) 37 rfl (b := 0) Tryz.underlying37 HI0.out HZ0.out HZ1.out HZ2.out rfl (by decide) rfl rfl hds hit7 (by rw [hl8]; omega) (by decide) (Nat.zero_le _) ?_
            rw [hl8]
            intro a8 c8 W4 h8 hgrow hat8
            have hw8 := HBS.out _ hbX
            replace hst := hst.via (fun k hk => hgrow.block k (hst.lt k hk).2 (fun e => hst.ne_own hds (by decide) e.symm hk))
            replace hit13 := hit13.keep (fun g hg => hgrow.block g (by have : aI13 = g := Option.some.inj hg; omega) (fun e => by have h1 : aI13 = g := Option.some.inj hg; have h2 := hdL g e.symm; omega))
            replace ha13 := Nat.lt_of_lt_of_le ha13 hgrow.size
            replace hbX := hbX.grown hgrow (fun k hk _ => .inl hk)
            replace hat8 : ∀ g, (Value.slice a8 (n + 1) c8).ownBlock = some g → vd.ownBlock = some g ∨ B6 ≤ g := fun g hg => (hat8 g hg).imp id (fun h => Nat.le_trans hw8 h)
            clear hgrow hds hit7 hw8
            go_simp
            refine hK.out _ _ (fun _ => ⟨((HRP.out _ hbX).cell 3).trans rfl, (HR6.out _ hbX).cell⟩) (fun hHeld0 => ?_)
            have hHeld := hHeld0 (by decide)
            clear hHeld0 hK K
            refine anyM_ready (rs := [14]) (by kernel_rfl) (by simp) ?_
            refine' ReadyM.cons (o := _) (by simp only [List.getElem?_toArray, List.getElem?_cons_succ, List.getElem?_cons_zero]; rfl) (fun K hK => ?_) ReadyM.nil
            refine step_app2 rfl (.tmp 57) (.tmp 58) 38 rfl (b := 0) Tryz.underlying38 HJ0.out HJ1.out HJ2.out HJ3.out rfl (by decide) rfl rfl hst hit13 (by rw [hl14]; omega) (by decide) (Nat.zero_le _) ?_
            rw [hl14]
            intro a14 c14 W5 h14 hgrow hat14
            have hw8 := HBS.out _ hbX
            replace h8 := h8.via (fun k hk => hgrow.block k (h8.lt k hk).2 (fun e => h8.ne_own hst (by decide) e.symm hk))
            replace hbX := hbX.grown hgrow (fun k hk _ => .inr hk)
            replace hat14 : ∀ g, (Value.slice a14 (n + 1) c14).ownBlock = some g → (Value.slice ast n cst).ownBlock = some g ∨ B6 ≤ g := fun g hg => (hat14 g hg).imp id (fun h => Nat.le_trans hw8 h)
            clear hgrow hst hit13 hw8
            go_simp
            refine hK.out _ _ (fun _ => ⟨((HRP.out _ hbX).cell 3).trans rfl, (HR6.out _ hbX).cell⟩) (fun hHeld0 => ?_)
            have hHeld := hHeld0 (by decide)
            clear hHeld0 hK K
            refine' anyM_take (i := 15) (oi := _) (v := _) ?_ (by kernel_rfl) (by kernel_rfl) (by kernel_rfl) (by kernel_rfl) (by kernel_rfl) ?_ (Or.inl ⟨?_, ?_⟩) (by assumption) ?_
            rotate_left 2
            · (simp only [List.getElem?_toArray, List.getElem?_cons_succ, List.getElem?_cons_zero]; rfl)
            · first | exact fun _ _ _ h => h | exact fun _ _ _ h => nomatch h.1
            · rfl
            · (intro W hSW; (try dsimp only at hSW); go_split_ands; first | (go_simp; done) | (go_simp; with_reducible rfl))
            try simp only [Act.put, List.setIfInBounds_toArray, List.set_cons_zero, List.set_cons_succ]
            refine' anyM_take (i := 16) (oi := _) (v := _) ?_ (by kernel_rfl) (by kernel_rfl) (by kernel_rfl) (by kernel_rfl) (by kernel_rfl) ?_ (Or.inl ⟨?_, ?_⟩) (by assumption) ?_
            rotate_left 2
            · (simp only [List.getElem?_toArray, List.getElem?_cons_succ, List.getElem?_cons_zero]; rfl)
            · first | exact fun _ _ _ h => h | exact fun _ _ _ h => nomatch h.1
            · rfl
            · (intro W hSW; (try dsimp only at hSW); go_split_ands; first | (go_simp; done) | (go_simp; with_reducible rfl))
            try simp only [Act.put, List.setIfInBounds_toArray, List.set_cons_zero, List.set_cons_succ]
            clear hHeld
            have yp := (HRP.out _ hbX).cell
            have up := (HRP.out _ hbX).free
            have zp := (HRP.out _ hbX).lt
            refine anyM_ready (rs := [17]) (by kernel_rfl) (by simp) ?_
            refine' ReadyM.cons (o := _) (by simp only [List.getElem?_toArray, List.getElem?_cons_succ, List.getElem?_cons_zero]; rfl) (fun K hK => ?_) ReadyM.nil
            go_simp
            clear yp up zp
            have rp1 := (HRP.out _ hbX).set 2 (.slice a8 (n + 1) c8)
            simp only [List.setIfInBounds_toArray, List.set_cons_zero, List.set_cons_succ] at rp1
            have r61 := (HR6.out _ hbX).other hap6.symm 2 (.slice a8 (n + 1) c8)
            replace h8 := h8.other (h8.ne_row (HRP.out _ hbX) (by decide)) 2 (.slice a8 (n + 1) c8)
            replace h14 := h14.other (h14.ne_row (HRP.out _ hbX) (by decide)) 2 (.slice a8 (n + 1) c8)
            have hbY := (hbX.wide (G := fun b => (vd.ownBlock = some b ∨ (Value.slice ast n cst).ownBlock = some b) ∨ b = pp) (fun k hk => .inl hk)).setCell (y := pp) (fun _ => .inr rfl) 2 (.slice a8 (n + 1) c8)
            clear hbX
            generalize World.setCell _ _ _ = Y at *
            refine hK.out _ _ (fun _ => ⟨(rp1.cell 3).trans rfl, r61.cell⟩) (fun hHeld0 => ?_)
            have hHeld := hHeld0 (by decide)
            clear hHeld0 hK K
            refine' anyM_take (i := 18) (oi := _) (v := _) ?_ (by kernel_rfl) (by kernel_rfl) (by kernel_rfl) (by kernel_rfl) (by kernel_rfl) ?_ (Or.inl ⟨?_, ?_⟩) (by assumption) ?_
            rotate_left 2
            · (simp only [List.getElem?_toArray, List.getElem?_cons_succ, List.getElem?_cons_zero]; rfl)
            · first | exact fun _ _ _ h => h | exact fun _ _ _ h => nomatch h.1
            · rfl
            · (intro W hSW; (try dsimp only at hSW); go_split_ands; first | (go_simp; done) | (go_simp; with_reducible rfl))
            try simp only [Act.put, List.setIfInBounds_toArray, List.set_cons_zero, List.set_cons_succ]
            refine' anyM_take (i := 19) (oi := _) (v := _) ?_ (by kernel_rfl) (by kernel_rfl) (by kernel_rfl) (by kernel_rfl) (by kernel_rfl) ?_ (Or.inl ⟨?_, ?_⟩) (by assumption) ?_
            rotate_left 2
            · (simp only [List.getElem?_toArray, List.getElem?_cons_succ, List.getElem?_cons_zero]; rfl)
            · first | exact fun _ _ _ h => h | exact fun _ _ _ h => nomatch h.1
            · rfl
            · (intro W hSW; (try dsimp only at hSW); go_split_ands; first | (go_simp; done) | (go_simp; with_reducible rfl))
            try simp only [Act.put, List.setIfInBounds_toArray, List.set_cons_zero, List.set_cons_succ]
            clear hHeld
            have yp := rp1.cell
            have up := rp1.free
            have zp := rp1.lt
            refine anyM_ready (rs := [20]) (by kernel_rfl) (by simp) ?_
            refine' ReadyM.cons (o := _) (by simp only [List.getElem?_toArray, List.getElem?_cons_succ, List.getElem?_cons_zero]; rfl) (fun K hK => ?_) ReadyM.nil
            go_simp
            clear yp up zp
            refine hK.out _ _ (fun h => absurd rfl h) (fun _ => ?_)
            clear hK K
            refine anyM_done (by kernel_rfl) ?_ _
            have rp2 := rp1.set 3 (.slice a14 (n + 1) c14)
            simp only [List.setIfInBounds_toArray, List.set_cons_zero, List.set_cons_succ] at rp2
            replace h8 := h8.other (h8.ne_row rp1 (by decide)) 3 (.slice a14 (n + 1) c14)
            replace h14 := h14.other (h14.ne_row rp1 (by decide)) 3 (.slice a14 (n + 1) c14)
            replace hbY := hbY.setCell (y := pp) (fun _ => .inr rfl) 3 (.slice a14 (n + 1) c14)
            clear rp1 r61
            generalize World.setCell _ _ _ = Z at *
            go_wp2_with fail
            go_meet
            rw [HQ8.out] at h8
            rw [HQ14.out] at h14
            exact ⟨_, _, rp2, h8, h14, fun g hg => by rw [hV6s.out]; exact hat8 g hg, fun g hg => by rw [hV6s.out]; exact hat14 g hg, HB6.out _ hbY⟩
        · go_simp
          have hn := below_alloc X (.cells #[.int .i64 1, .int .i64 i, .int .u32 s.gen] DeT)
          have hit7 := src_row (t := DeT) (k := 3) X #[.int .i64 1, .int .i64 i, .int .u32 s.gen] rfl (fun u hu => de_oneC _ _ u hu)
          have ha7 : X.heap.size < (X.alloc (.cells #[.int .i64 1, .int .i64 i, .int .u32 s.gen] DeT)).heap.size := by simp
          have hb7 : B6 ≤ X.heap.size := HBS.out _ hbX
          replace hds := hds.on hn
          replace hst := hst.on hn
          replace hbX := hbX.on hn
          clear hn
          generalize X.alloc _ = W1 at *
          generalize X.heap.size = aI7 at *
          refine hK.out _ _ (fun _ => ⟨((HRP.out _ hbX).cell 3).trans rfl, (HR6.out _ hbX).cell⟩) (fun hHeld0 => ?_)
          have hHeld := hHeld0 (by decide)
          clear hHeld0 hK K
          refine anyM_ready (rs := [5, 13]) (by kernel_rfl) (by simp) ?_
          refine' ReadyM.cons (o := _) (by simp only [List.getElem?_toArray, List.getElem?_cons_succ, List.getElem?_cons_zero]; rfl) (fun K hK => ?_) (ReadyM.cons (o := _) (by simp only [List.getElem?_toArray, List.getElem?_cons_succ, List.getElem?_cons_zero]; rfl) (fun K hK => ?_) ReadyM.nil)
          · have y5 := (HRP.out _ hbX).cell
            have z5 := (HRP.out _ hbX).lt
            go_simp
            clear y5 z5
            refine hK.out _ _ (fun _ => ⟨((HRP.out _ hbX).cell 3).trans rfl, (HR6.out _ hbX).cell⟩) (fun hHeld0 => ?_)
            have hHeld := hHeld0 (by decide)
            clear hHeld0 hK K
            refine anyM_ready (rs := [8, 13]) (by kernel_rfl) (by simp) ?_
            refine' ReadyM.cons (o := _) (by simp only [List.getElem?_toArray, List.getElem?_cons_succ, List.getElem?_cons_zero]; rfl) (fun K hK => ?_) (ReadyM.cons (o := _) (by simp only [List.getElem?_toArray, List.getElem?_cons_succ, List.getElem?_cons_zero]; rfl) (fun K hK => ?_) ReadyM.nil)
            · refine step_app2 rfl (.tmp 50) (.tmp 52) 37 rfl (b := 0) Tryz.underlying37 HI0.out HZ0.out HZ1.out HZ2.out rfl (by decide) rfl rfl hds hit7 (by rw [hl8]; omega) (by decide) (Nat.zero_le _) ?_
              rw [hl8]
              intro a8 c8 W3 h8 hgrow hat8
              have hw8 := HBS.out _ hbX
              replace hst := hst.via (fun k hk => hgrow.block k (hst.lt k hk).2 (fun e => hst.ne_own hds (by decide) e.symm hk))
              replace hbX := hbX.grown hgrow (fun k hk _ => .inl hk)
              replace hat8 : ∀ g, (Value.slice a8 (n + 1) c8).ownBlock = some g → vd.ownBlock = some g ∨ B6 ≤ g := fun g hg => (hat8 g hg).imp id (fun h => Nat.le_trans hw8 h)
              clear hgrow hds hit7 hw8
              go_simp
              refine hK.out _ _ (fun _ => ⟨((HRP.out _ hbX).cell 3).trans rfl, (HR6.out _ hbX).cell⟩) (fun hHeld0 => ?_)
              have hHeld := hHeld0 (by decide)
              clear hHeld0 hK K
              refine anyM_ready (rs := [13]) (by kernel_rfl) (by simp) ?_
              refine' ReadyM.cons (o := _) (by simp only [List.getElem?_toArray, List.getElem?_cons_succ, List.getElem?_cons_zero]; rfl) (fun K hK => ?_) ReadyM.nil
              go_simp
              have hn := below_alloc W3 (.cells #[.int .i64 1] IntT)
              have hit13 := src_row (t := IntT) (k := 1) W3 #[.int .i64 1] rfl (fun u hu => by rw [List.mem_singleton.1 hu]; rfl)
              have ha13 : W3.heap.size < (W3.alloc (.cells #[.int .i64 1] IntT)).heap.size := by simp
              have hb13 : B6 ≤ W3.heap.size := HBS.out _ hbX
              replace h8 := h8.on hn
              replace hst := hst.on hn
              replace hbX := hbX.on hn
              clear hn
              generalize W3.alloc _ = W4 at *
              generalize W3.heap.size = aI13 at *
              refine hK.out _ _ (fun _ => ⟨((HRP.out _ hbX).cell 3).trans rfl, (HR6.out _ hbX).cell⟩) (fun hHeld0 => ?_)
              have hHeld := hHeld0 (by decide)
              clear hHeld0 hK K
              refine anyM_ready (rs := [14]) (by kernel_rfl) (by simp) ?_
              refine' ReadyM.cons (o := _) (by simp only [List.getElem?_toArray, List.getElem?_cons_succ, List.getElem?_cons_zero]; rfl) (fun K hK => ?_) ReadyM.nil
              refine step_app2 rfl (.tmp 57) (.tmp 58) 38 rfl (b := 0) Tryz.underlying38 HJ0.out HJ1.out HJ2.out HJ3.out rfl (by decide) rfl rfl hst hit13 (by rw [hl14]; omega) (by decide) (Nat.zero_le _) ?_
              rw [hl14]
              intro a14 c14 W5 h14 hgrow hat14
              have hw8 := HBS.out _ hbX
              replace h8 := h8.via (fun k hk => hgrow.block k (h8.lt k hk).2 (fun e => h8.ne_own hst (by decide) e.symm hk))
              replace hbX := hbX.grown hgrow (fun k hk _ => .inr hk)
              replace hat14 : ∀ g, (Value.slice a14 (n + 1) c14).ownBlock = some g → (Value.slice ast n cst).ownBlock = some g ∨ B6 ≤ g := fun g hg => (hat14 g hg).imp id (fun h => Nat.le_trans hw8 h)
              clear hgrow hst hit13 hw8
              go_simp
              refine hK.out _ _ (fun _ => ⟨((HRP.out _ hbX).cell 3).trans rfl, (HR6.out _ hbX).cell⟩) (fun hHeld0 => ?_)
              have hHeld := hHeld0 (by decide)
              clear hHeld0 hK K
              refine' anyM_take (i := 15) (oi := _) (v := _) ?_ (by kernel_rfl) (by kernel_rfl) (by kernel_rfl) (by kernel_rfl) (by kernel_rfl) ?_ (Or.inl ⟨?_, ?_⟩) (by assumption) ?_
              rotate_left 2
              · (simp only [List.getElem?_toArray, List.getElem?_cons_succ, List.getElem?_cons_zero]; rfl)
              · first | exact fun _ _ _ h => h | exact fun _ _ _ h => nomatch h.1
              · rfl
              · (intro W hSW; (try dsimp only at hSW); go_split_ands; first | (go_simp; done) | (go_simp; with_reducible rfl))
              try simp only [Act.put, List.setIfInBounds_toArray, List.set_cons_zero, List.set_cons_succ]
              refine' anyM_take (i := 16) (oi := _) (v := _) ?_ (by kernel_rfl) (by kernel_rfl) (by kernel_rfl) (by kernel_rfl) (by kernel_rfl) ?_ (Or.inl ⟨?_, ?_⟩) (by assumption) ?_
              rotate_left 2
              · (simp only [List.getElem?_toArray, List.getElem?_cons_succ, List.getElem?_cons_zero]; rfl)
              · first | exact fun _ _ _ h => h | exact fun _ _ _ h => nomatch h.1
              · rfl
              · (intro W hSW; (try dsimp only at hSW); go_split_ands; first | (go_simp; done) | (go_simp; with_reducible rfl))
              try simp only [Act.put, List.setIfInBounds_toArray, List.set_cons_zero, List.set_cons_succ]
              clear hHeld
              have yp := (HRP.out _ hbX).cell
              have up := (HRP.out _ hbX).free
              have zp := (HRP.out _ hbX).lt
              refine anyM_ready (rs := [17]) (by kernel_rfl) (by simp) ?_
              refine' ReadyM.cons (o := _) (by simp only [List.getElem?_toArray, List.getElem?_cons_succ, List.getElem?_cons_zero]; rfl) (fun K hK => ?_) ReadyM.nil
              go_simp
              clear yp up zp
              have rp1 := (HRP.out _ hbX).set 2 (.slice a8 (n + 1) c8)
              simp only [List.setIfInBounds_toArray, List.set_cons_zero, List.set_cons_succ] at rp1
              have r61 := (HR6.out _ hbX).other hap6.symm 2 (.slice a8 (n + 1) c8)
              replace h8 := h8.other (h8.ne_row (HRP.out _ hbX) (by decide)) 2 (.slice a8 (n + 1) c8)
              replace h14 := h14.other (h14.ne_row (HRP.out _ hbX) (by decide)) 2 (.slice a8 (n + 1) c8)
              have hbY := (hbX.wide (G := fun b => (vd.ownBlock = some b ∨ (Value.slice ast n cst).ownBlock = some b) ∨ b = pp) (fun k hk => .inl hk)).setCell (y := pp) (fun _ => .inr rfl) 2 (.slice a8 (n + 1) c8)
              clear hbX
              generalize World.setCell _ _ _ = Y at *
              refine hK.out _ _ (fun _ => ⟨(rp1.cell 3).trans rfl, r61.cell⟩) (fun hHeld0 => ?_)
              have hHeld := hHeld0 (by decide)
              clear hHeld0 hK K
              refine' anyM_take (i := 18) (oi := _) (v := _) ?_ (by kernel_rfl) (by kernel_rfl) (by kernel_rfl) (by kernel_rfl) (by kernel_rfl) ?_ (Or.inl ⟨?_, ?_⟩) (by assumption) ?_
              rotate_left 2
              · (simp only [List.getElem?_toArray, List.getElem?_cons_succ, List.getElem?_cons_zero]; rfl)
              · first | exact fun _ _ _ h => h | exact fun _ _ _ h => nomatch h.1
              · rfl
              · (intro W hSW; (try dsimp only at hSW); go_split_ands; first | (go_simp; done) | (go_simp; with_reducible rfl))
              try simp only [Act.put, List.setIfInBounds_toArray, List.set_cons_zero, List.set_cons_succ]
              refine' anyM_take (i := 19) (oi := _) (v := _) ?_ (by kernel_rfl) (by kernel_rfl) (by kernel_rfl) (by kernel_rfl) (by kernel_rfl) ?_ (Or.inl ⟨?_, ?_⟩) (by assumption) ?_
              rotate_left 2
              · (simp only [List.getElem?_toArray, List.getElem?_cons_succ, List.getElem?_cons_zero]; rfl)
              · first | exact fun _ _ _ h => h | exact fun _ _ _ h => nomatch h.1
              · rfl
              · (intro W hSW; (try dsimp only at hSW); go_split_ands; first | (go_simp; done) | (go_simp; with_reducible rfl))
              try simp only [Act.put, List.setIfInBounds_toArray, List.set_cons_zero, List.set_cons_succ]
              clear hHeld
              have yp := rp1.cell
              have up := rp1.free
              have zp := rp1.lt
              refine anyM_ready (rs := [20]) (by kernel_rfl) (by simp) ?_
              refine' ReadyM.cons (o := _) (by simp only [List.getElem?_toArray, List.getElem?_cons_succ, List.getElem?_cons_zero]; rfl) (fun K hK => ?_) ReadyM.nil
              go_simp
              clear yp up zp
              refine hK.out _ _ (fun h => absurd rfl h) (fun _ => ?_)
              clear hK K
              refine anyM_done (by kernel_rfl) ?_ _
              have rp2 := rp1.set 3 (.slice a14 (n + 1) c14)
              simp only [List.setIfInBounds_toArray, List.set_cons_zero, List.set_cons_succ] at rp2
              replace h8 := h8.other (h8.ne_row rp1 (by decide)) 3 (.slice a14 (n + 1) c14)
              replace h14 := h14.other (h14.ne_row rp1 (by decide)) 3 (.slice a14 (n + 1) c14)
              replace hbY := hbY.setCell (y := pp) (fun _ => .inr rfl) 3 (.slice a14 (n + 1) c14)
              clear rp1 r61
              generalize World.setCell _ _ _ = Z at *
              go_wp2_with fail
              go_meet
              rw [HQ8.out] at h8
              rw [HQ14.out] at h14
              exact ⟨_, _, rp2, h8, h14, fun g hg => by rw [hV6s.out]; exact hat8 g hg, fun g hg => by rw [hV6s.out]; exact hat14 g hg, HB6.out _ hbY⟩
            · go_simp
              have hn := below_alloc W1 (.cells #[.int .i64 1] IntT)
              have hit13 := src_row (t := IntT) (k := 1) W1 #[.int .i64 1] rfl (fun u hu => by rw [List.mem_singleton.1 hu]; rfl)
              have ha13 : W1.heap.size < (W1.alloc (.cells #[.int .i64 1] IntT)).heap.size := by simp
              have hb13 : B6 ≤ W1.heap.size := HBS.out _ hbX
              replace hit7 := hit7.keep (fun g hg => hn.block g (by have : aI7 = g := Option.some.inj hg; omega))
              replace ha7 := Nat.lt_of_lt_of_le ha7 hn.size
              replace hds := hds.on hn
              replace hst := hst.on hn
              replace hbX := hbX.on hn
              clear hn
              generalize W1.alloc _ = W3 at *
              generalize W1.heap.size = aI13 at *
              refine hK.out _ _ (fun _ => ⟨((HRP.out _ hbX).cell 3).trans rfl, (HR6.out _ hbX).cell⟩) (fun hHeld0 => ?_)
              have hHeld := hHeld0 (by decide)
              clear hHeld0 hK K
              refine anyM_ready (rs := [8]) (by kernel_rfl) (by simp) ?_
              refine' ReadyM.cons (o := _) (by simp only [List.getElem?_toArray, List.getElem?_cons_succ, List.getElem?_cons_zero]; rfl) (fun K hK => ?_) ReadyM.nil
              refine step_app2 rfl (.tmp 50) (.tmp 52) 37 rfl (b := 0) Tryz.underlying37 HI0.out HZ0.out HZ1.out HZ2.out rfl (by decide) rfl rfl hds hit7 (by rw [hl8]; omega) (by decide) (Nat.zero_le _) ?_
              rw [hl8]
              intro a8 c8 W4 h8 hgrow hat8
              have hw8 := HBS.out _ hbX
              replace hst := hst.via (fun k hk => hgrow.block k (hst.lt k hk).2 (fun e => hst.ne_own hds (by decide) e.symm hk))
              replace hit13 := hit13.keep (fun g hg => hgrow.block g (by have : aI13 = g := Option.some.inj hg; omega) (fun e => by have h1 : aI13 = g := Option.some.inj hg; have h2 := hdL g e.symm; omega))
              replace ha13 := Nat.lt_of_lt_of_le ha13 hgrow.size
              replace hbX := hbX.grown hgrow (fun k hk _ => .inl hk)
              replace hat8 : ∀ g, (Value.slice a8 (n + 1) c8).ownBlock = some g → vd.ownBlock = some g ∨ B6 ≤ g := fun g hg => (hat8 g hg).imp id (fun h => Nat.le_trans hw8 h)
              clear hgrow hds hit7 hw8
              go_simp
              refine hK.out _ _ (fun _ => ⟨((HRP.out _ hbX).cell 3).trans rfl, (HR6.out _ hbX).cell⟩) (fun hHeld0 => ?_)
              have hHeld := hHeld0 (by decide)
              clear hHeld0 hK K
              refine anyM_ready (rs := [14]) (by kernel_rfl) (by simp) ?_
              refine' ReadyM.cons (o := _) (by simp only [List.getElem?_toArray, List.getElem?_cons_succ, List.getElem?_cons_zero]; rfl) (fun K hK => ?_) ReadyM.nil
              refine step_app2 rfl (.tmp 57) (.tmp 58) 38 rfl (b := 0) Tryz.underlying38 HJ0.out HJ1.out HJ2.out HJ3.out rfl (by decide) rfl rfl hst hit13 (by rw [hl14]; omega) (by decide) (Nat.zero_le _) ?_
              rw [hl14]
              intro a14 c14 W5 h14 hgrow hat14
              have hw8 := HBS.out _ hbX
              replace h8 := h8.via (fun k hk => hgrow.block k (h8.lt k hk).2 (fun e => h8.ne_own hst (by decide) e.symm hk))
              replace hbX := hbX.grown hgrow (fun k hk _ => .inr hk)
              replace hat14 : ∀ g, (Value.slice a14 (n + 1) c14).ownBlock = some g → (Value.slice ast n cst).ownBlock = some g ∨ B6 ≤ g := fun g hg => (hat14 g hg).imp id (fun h => Nat.le_trans hw8 h)
              clear hgrow hst hit13 hw8
              go_simp
              refine hK.out _ _ (fun _ => ⟨((HRP.out _ hbX).cell 3).trans rfl, (HR6.out _ hbX).cell⟩) (fun hHeld0 => ?_)
              have hHeld := hHeld0 (by decide)
              clear hHeld0 hK K
              refine' anyM_take (i := 15) (oi := _) (v := _) ?_ (by kernel_rfl) (by kernel_rfl) (by kernel_rfl) (by kernel_rfl) (by kernel_rfl) ?_ (Or.inl ⟨?_, ?_⟩) (by assumption) ?_
              rotate_left 2
              · (simp only [List.getElem?_toArray, List.getElem?_cons_succ, List.getElem?_cons_zero]; rfl)
              · first | exact fun _ _ _ h => h | exact fun _ _ _ h => nomatch h.1
              · rfl
              · (intro W hSW; (try dsimp only at hSW); go_split_ands; first | (go_simp; done) | (go_simp; with_reducible rfl))
              try simp only [Act.put, List.setIfInBounds_toArray, List.set_cons_zero, List.set_cons_succ]
              refine' anyM_take (i := 16) (oi := _) (v := _) ?_ (by kernel_rfl) (by kernel_rfl) (by kernel_rfl) (by kernel_rfl) (by kernel_rfl) ?_ (Or.inl ⟨?_, ?_⟩) (by assumption) ?_
              rotate_left 2
              · (simp only [List.getElem?_toArray, List.getElem?_cons_succ, List.getElem?_cons_zero]; rfl)
              · first | exact fun _ _ _ h => h | exact fun _ _ _ h => nomatch h.1
              · rfl
              · (intro W hSW; (try dsimp only at hSW); go_split_ands; first | (go_simp; done) | (go_simp; with_reducible rfl))
              try simp only [Act.put, List.setIfInBounds_toArray, List.set_cons_zero, List.set_cons_succ]
              clear hHeld
              have yp := (HRP.out _ hbX).cell
              have up := (HRP.out _ hbX).free
              have zp := (HRP.out _ hbX).lt
              refine anyM_ready (rs := [17]) (by kernel_rfl) (by simp) ?_
              refine' ReadyM.cons (o := _) (by simp only [List.getElem?_toArray, List.getElem?_cons_succ, List.getElem?_cons_zero]; rfl) (fun K hK => ?_) ReadyM.nil
              go_simp
              clear yp up zp
              have rp1 := (HRP.out _ hbX).set 2 (.slice a8 (n + 1) c8)
              simp only [List.setIfInBounds_toArray, List.set_cons_zero, List.set_cons_succ] at rp1
              have r61 := (HR6.out _ hbX).other hap6.symm 2 (.slice a8 (n + 1) c8)
              replace h8 := h8.other (h8.ne_row (HRP.out _ hbX) (by decide)) 2 (.slice a8 (n + 1) c8)
              replace h14 := h14.other (h14.ne_row (HRP.out _ hbX) (by decide)) 2 (.slice a8 (n + 1) c8)
              have hbY := (hbX.wide (G := fun b => (vd.ownBlock = some b ∨ (Value.slice ast n cst).ownBlock = some b) ∨ b = pp) (fun k hk => .inl hk)).setCell (y := pp) (fun _ => .inr rfl) 2 (.slice a8 (n + 1) c8)
              clear hbX
              generalize World.setCell _ _ _ = Y at *
              refine hK.out _ _ (fun _ => ⟨(rp1.cell 3).trans rfl, r61.cell⟩) (fun hHeld0 => ?_)
              have hHeld := hHeld0 (by decide)
              clear hHeld0 hK K
              refine' anyM_take (i := 18) (oi := _) (v := _) ?_ (by kernel_rfl) (by kernel_rfl) (by kernel_rfl) (by kernel_rfl) (by kernel_rfl) ?_ (Or.inl ⟨?_, ?_⟩) (by assumption) ?_
              rotate_left 2
              · (simp only [List.getElem?_toArray, List.getElem?_cons_succ, List.getElem?_cons_zero]; rfl)
              · first | exact fun _ _ _ h => h | exact fun _ _ _ h => nomatch h.1
              · rfl
              · (intro W hSW; (try dsimp only at hSW); go_split_ands; first | (go_simp; done) | (go_simp; with_reducible rfl))
              try simp only [Act.put, List.setIfInBounds_toArray, List.set_cons_zero, List.set_cons_succ]
              refine' anyM_take (i := 19) (oi := _) (v := _) ?_ (by kernel_rfl) (by kernel_rfl) (by kernel_rfl) (by kernel_rfl) (by kernel_rfl) ?_ (Or.inl ⟨?_, ?_⟩) (by assumption) ?_
              rotate_left 2
              · (simp only [List.getElem?_toArray, List.getElem?_cons_succ, List.getElem?_cons_zero]; rfl)
              · first | exact fun _ _ _ h => h | exact fun _ _ _ h => nomatch h.1
              · rfl
              · (intro W hSW; (try dsimp only at hSW); go_split_ands; first | (go_simp; done) | (go_simp; with_reducible rfl))
              try simp only [Act.put, List.setIfInBounds_toArray, List.set_cons_zero, List.set_cons_succ]
              clear hHeld
              have yp := rp1.cell
              have up := rp1.free
              have zp := rp1.lt
              refine anyM_ready (rs := [20]) (by kernel_rfl) (by simp) ?_
              refine' ReadyM.cons (o := _) (by simp only [List.getElem?_toArray, List.getElem?_cons_succ, List.getElem?_cons_zero]; rfl) (fun K hK => ?_) ReadyM.nil
              go_simp
              clear yp up zp
              refine hK.out _ _ (fun h => absurd rfl h) (fun _ => ?_)
              clear hK K
              refine anyM_done (by kernel_rfl) ?_ _
              have rp2 := rp1.set 3 (.slice a14 (n + 1) c14)
              simp only [List.setIfInBounds_toArray, List.set_cons_zero, List.set_cons_succ] at rp2
              replace h8 := h8.other (h8.ne_row rp1 (by decide)) 3 (.slice a14 (n + 1) c14)
              replace h14 := h14.other (h14.ne_row rp1 (by decide)) 3 (.slice a14 (n + 1) c14)
              replace hbY := hbY.setCell (y := pp) (fun _ => .inr rfl) 3 (.slice a14 (n + 1) c14)
              clear rp1 r61
              generalize World.setCell _ _ _ = Z at *
              go_wp2_with fail
              go_meet
              rw [HQ8.out] at h8
              rw [HQ14.out] at h14
              exact ⟨_, _, rp2, h8, h14, fun g hg => by rw [hV6s.out]; exact hat8 g hg, fun g hg => by rw [hV6s.out]; exact hat14 g hg, HB6.out _ hbY⟩
          · go_simp
            have hn := below_alloc W1 (.cells #[.int .i64 1] IntT)
            have hit13 := src_row (t := IntT) (k := 1) W1 #[.int .i64 1] rfl (fun u hu => by rw [List.mem_singleton.1 hu]; rfl)
            have ha13 : W1.heap.size < (W1.alloc (.cells #[.int .i64 1] IntT)).heap.size := by simp
            have hb13 : B6 ≤ W1.heap.size := HBS.out _ hbX
            replace hit7 := hit7.keep (fun g hg => hn.block g (by have : aI7 = g := Option.some.inj hg; omega))
            replace ha7 := Nat.lt_of_lt_of_le ha7 hn.size
            replace hds := hds.on hn
            replace hst := hst.on hn
            replace hbX := hbX.on hn
            clear hn
            generalize W1.alloc _ = W2 at *
            generalize W1.heap.size = aI13 at *
            refine hK.out _ _ (fun _ => ⟨((HRP.out _ hbX).cell 3).trans rfl, (HR6.out _ hbX).cell⟩) (fun hHeld0 => ?_)
            have hHeld := hHeld0 (by decide)
            clear hHeld0 hK K
            refine anyM_ready (rs := [5]) (by kernel_rfl) (by simp) ?_
            refine' ReadyM.cons (o := _) (by simp only [List.getElem?_toArray, List.getElem?_cons_succ, List.getElem?_cons_zero]; rfl) (fun K hK => ?_) ReadyM.nil
            have y5 := (HRP.out _ hbX).cell
            have z5 := (HRP.out _ hbX).lt
            go_simp
            clear y5 z5
            refine hK.out _ _ (fun _ => ⟨((HRP.out _ hbX).cell 3).trans rfl, (HR6.out _ hbX).cell⟩) (fun hHeld0 => ?_)
            have hHeld := hHeld0 (by decide)
            clear hHeld0 hK K
            refine anyM_ready (rs := [8]) (by kernel_rfl) (by simp) ?_
            refine' ReadyM.cons (o := _) (by simp only [List.getElem?_toArray, List.getElem?_cons_succ, List.getElem?_cons_zero]; rfl) (fun K hK => ?_) ReadyM.nil
            refine step_app2 rfl (.tmp 50) (.tmp 52) 37 rfl (b := 0) Tryz.underlying37 HI0.out HZ0.out HZ1.out HZ2.out rfl (by decide) rfl rfl hds hit7 (by rw [hl8]; omega) (by decide) (Nat.zero_le _) ?_
            rw [hl8]
            intro a8 c8 W4 h8 hgrow hat8
            have hw8 := HBS.out _ hbX
            replace hst := hst.via (fun k hk => hgrow.block k (hst.lt k hk).2 (fun e => hst.ne_own hds (by decide) e.symm hk))
            replace hit13 := hit13.keep (fun g hg => hgrow.block g (by have : aI13 = g := Option.some.inj hg; omega) (fun e => by have h1 : aI13 = g := Option.some.inj hg; have h2 := hdL g e.symm; omega))
            replace ha13 := Nat.lt_of_lt_of_le ha13 hgrow.size
            replace hbX := hbX.grown hgrow (fun k hk _ => .inl hk)
            replace hat8 : ∀ g, (Value.slice a8 (n + 1) c8).ownBlock = some g → vd.ownBlock = some g ∨ B6 ≤ g := fun g hg => (hat8 g hg).imp id (fun h => Nat.le_trans hw8 h)
            clear hgrow hds hit7 hw8
            go_simp
            refine hK.out _ _ (fun _ => ⟨((HRP.out _ hbX).cell 3).trans rfl, (HR6.out _ hbX).cell⟩) (fun hHeld0 => ?_)
            have hHeld := hHeld0 (by decide)
            clear hHeld0 hK K
            refine anyM_ready (rs := [14]) (by kernel_rfl) (by simp) ?_
            refine' ReadyM.cons (o := _) (by simp only [List.getElem?_toArray, List.getElem?_cons_succ, List.getElem?_cons_zero]; rfl) (fun K hK => ?_) ReadyM.nil
            refine step_app2 rfl (.tmp 57) (.tmp 58) 38 rfl (b := 0) Tryz.underlying38 HJ0.out HJ1.out HJ2.out HJ3.out rfl (by decide) rfl rfl hst hit13 (by rw [hl14]; omega) (by decide) (Nat.zero_le _) ?_
            rw [hl14]
            intro a14 c14 W5 h14 hgrow hat14
            have hw8 := HBS.out _ hbX
            replace h8 := h8.via (fun k hk => hgrow.block k (h8.lt k hk).2 (fun e => h8.ne_own hst (by decide) e.symm hk))
            replace hbX := hbX.grown hgrow (fun k hk _ => .inr hk)
            replace hat14 : ∀ g, (Value.slice a14 (n + 1) c14).ownBlock = some g → (Value.slice ast n cst).ownBlock = some g ∨ B6 ≤ g := fun g hg => (hat14 g hg).imp id (fun h => Nat.le_trans hw8 h)
            clear hgrow hst hit13 hw8
            go_simp
            refine hK.out _ _ (fun _ => ⟨((HRP.out _ hbX).cell 3).trans rfl, (HR6.out _ hbX).cell⟩) (fun hHeld0 => ?_)
            have hHeld := hHeld0 (by decide)
            clear hHeld0 hK K
            refine' anyM_take (i := 15) (oi := _) (v := _) ?_ (by kernel_rfl) (by kernel_rfl) (by kernel_rfl) (by kernel_rfl) (by kernel_rfl) ?_ (Or.inl ⟨?_, ?_⟩) (by assumption) ?_
            rotate_left 2
            · (simp only [List.getElem?_toArray, List.getElem?_cons_succ, List.getElem?_cons_zero]; rfl)
            · first | exact fun _ _ _ h => h | exact fun _ _ _ h => nomatch h.1
            · rfl
            · (intro W hSW; (try dsimp only at hSW); go_split_ands; first | (go_simp; done) | (go_simp; with_reducible rfl))
            try simp only [Act.put, List.setIfInBounds_toArray, List.set_cons_zero, List.set_cons_succ]
            refine' anyM_take (i := 16) (oi := _) (v := _) ?_ (by kernel_rfl) (by kernel_rfl) (by kernel_rfl) (by kernel_rfl) (by kernel_rfl) ?_ (Or.inl ⟨?_, ?_⟩) (by assumption) ?_
            rotate_left 2
            · (simp only [List.getElem?_toArray, List.getElem?_cons_succ, List.getElem?_cons_zero]; rfl)
            · first | exact fun _ _ _ h => h | exact fun _ _ _ h => nomatch h.1
            · rfl
            · (intro W hSW; (try dsimp only at hSW); go_split_ands; first | (go_simp; done) | (go_simp; with_reducible rfl))
            try simp only [Act.put, List.setIfInBounds_toArray, List.set_cons_zero, List.set_cons_succ]
            clear hHeld
            have yp := (HRP.out _ hbX).cell
            have up := (HRP.out _ hbX).free
            have zp := (HRP.out _ hbX).lt
            refine anyM_ready (rs := [17]) (by kernel_rfl) (by simp) ?_
            refine' ReadyM.cons (o := _) (by simp only [List.getElem?_toArray, List.getElem?_cons_succ, List.getElem?_cons_zero]; rfl) (fun K hK => ?_) ReadyM.nil
            go_simp
            clear yp up zp
            have rp1 := (HRP.out _ hbX).set 2 (.slice a8 (n + 1) c8)
            simp only [List.setIfInBounds_toArray, List.set_cons_zero, List.set_cons_succ] at rp1
            have r61 := (HR6.out _ hbX).other hap6.symm 2 (.slice a8 (n + 1) c8)
            replace h8 := h8.other (h8.ne_row (HRP.out _ hbX) (by decide)) 2 (.slice a8 (n + 1) c8)
            replace h14 := h14.other (h14.ne_row (HRP.out _ hbX) (by decide)) 2 (.slice a8 (n + 1) c8)
            have hbY := (hbX.wide (G := fun b => (vd.ownBlock = some b ∨ (Value.slice ast n cst).ownBlock = some b) ∨ b = pp) (fun k hk => .inl hk)).setCell (y := pp) (fun _ => .inr rfl) 2 (.slice a8 (n + 1) c8)
            clear hbX
            generalize World.setCell _ _ _ = Y at *
            refine hK.out _ _ (fun _ => ⟨(rp1.cell 3).trans rfl, r61.cell⟩) (fun hHeld0 => ?_)
            have hHeld := hHeld0 (by decide)
            clear hHeld0 hK K
            refine' anyM_take (i := 18) (oi := _) (v := _) ?_ (by kernel_rfl) (by kernel_rfl) (by kernel_rfl) (by kernel_rfl) (by kernel_rfl) ?_ (Or.inl ⟨?_, ?_⟩) (by assumption) ?_
            rotate_left 2
            · (simp only [List.getElem?_toArray, List.getElem?_cons_succ, List.getElem?_cons_zero]; rfl)
            · first | exact fun _ _ _ h => h | exact fun _ _ _ h => nomatch h.1
            · rfl
            · (intro W hSW; (try dsimp only at hSW); go_split_ands; first | (go_simp; done) | (go_simp; with_reducible rfl))
            try simp only [Act.put, List.setIfInBounds_toArray, List.set_cons_zero, List.set_cons_succ]
            refine' anyM_take (i := 19) (oi := _) (v := _) ?_ (by kernel_rfl) (by kernel_rfl) (by kernel_rfl) (by kernel_rfl) (by kernel_rfl) ?_ (Or.inl ⟨?_, ?_⟩) (by assumption) ?_
            rotate_left 2
            · (simp only [List.getElem?_toArray, List.getElem?_cons_succ, List.getElem?_cons_zero]; rfl)
            · first | exact fun _ _ _ h => h | exact fun _ _ _ h => nomatch h.1
            · rfl
            · (intro W hSW; (try dsimp only at hSW); go_split_ands; first | (go_simp; done) | (go_simp; with_reducible rfl))
            try simp only [Act.put, List.setIfInBounds_toArray, List.set_cons_zero, List.set_cons_succ]
            clear hHeld
            have yp := rp1.cell
            have up := rp1.free
            have zp := rp1.lt
            refine anyM_ready (rs := [20]) (by kernel_rfl) (by simp) ?_
            refine' ReadyM.cons (o := _) (by simp only [List.getElem?_toArray, List.getElem?_cons_succ, List.getElem?_cons_zero]; rfl) (fun K hK => ?_) ReadyM.nil
            go_simp
            clear yp up zp
            refine hK.out _ _ (fun h => absurd rfl h) (fun _ => ?_)
            clear hK K
            refine anyM_done (by kernel_rfl) ?_ _
            have rp2 := rp1.set 3 (.slice a14 (n + 1) c14)
            simp only [List.setIfInBounds_toArray, List.set_cons_zero, List.set_cons_succ] at rp2
            replace h8 := h8.other (h8.ne_row rp1 (by decide)) 3 (.slice a14 (n + 1) c14)
            replace h14 := h14.other (h14.ne_row rp1 (by decide)) 3 (.slice a14 (n + 1) c14)
            replace hbY := hbY.setCell (y := pp) (fun _ => .inr rfl) 3 (.slice a14 (n + 1) c14)
            clear rp1 r61
            generalize World.setCell _ _ _ = Z at *
            go_wp2_with fail
            go_meet
            rw [HQ8.out] at h8
            rw [HQ14.out] at h14
            exact ⟨_, _, rp2, h8, h14, fun g hg => by rw [hV6s.out]; exact hat8 g hg, fun g hg => by rw [hV6s.out]; exact hat14 g hg, HB6.out _ hbY⟩
        · go_simp
          have hn := below_alloc X (.cells #[.int .i64 1] IntT)
          have hit13 := src_row (t := IntT) (k := 1) X #[.int .i64 1] rfl (fun u hu => by rw [List.mem_singleton.1 hu]; rfl)
          have ha13 : X.heap.size < (X.alloc (.cells #[.int .i64 1] IntT)).heap.size := by simp
          have hb13 : B6 ≤ X.heap.size := HBS.out _ hbX
          replace hds := hds.on hn
          replace hst := hst.on hn
          replace hbX := hbX.on hn
          clear hn
          generalize X.alloc _ = W1 at *
          generalize X.heap.size = aI13 at *
          refine hK.out _ _ (fun _ => ⟨((HRP.out _ hbX).cell 3).trans rfl, (HR6.out _ hbX).cell⟩) (fun hHeld0 => ?_)
          have hHeld := hHeld0 (by decide)
          clear hHeld0 hK K
          refine anyM_ready (rs := [5, 7]) (by kernel_rfl) (by simp) ?_
          refine' ReadyM.cons (o := _) (by simp only [List.getElem?_toArray, List.getElem?_cons_succ, List.getElem?_cons_zero]; rfl) (fun K hK => ?_) (ReadyM.cons (o := _) (by simp only [List.getElem?_toArray, List.getElem?_cons_succ, List.getElem?_cons_zero]; rfl) (fun K hK => ?_) ReadyM.nil)
          · have y5 := (HRP.out _ hbX).cell
            have z5 := (HRP.out _ hbX).lt
            go_simp
            clear y5 z5
            refine hK.out _ _ (fun _ => ⟨((HRP.out _ hbX).cell 3).trans rfl, (HR6.out _ hbX).cell⟩) (fun hHeld0 => ?_)
            have hHeld := hHeld0 (by decide)
            clear hHeld0 hK K
            refine anyM_ready (rs := [7]) (by kernel_rfl) (by simp) ?_
            refine' ReadyM.cons (o := _) (by simp only [List.getElem?_toArray, List.getElem?_cons_succ, List.getElem?_cons_zero]; rfl) (fun K hK => ?_) ReadyM.nil
            go_simp
            have hn := below_alloc W1 (.cells #[.int .i64 1, .int .i64 i, .int .u32 s.gen] DeT)
            have hit7 := src_row (t := DeT) (k := 3) W1 #[.int .i64 1, .int .i64 i, .int .u32 s.gen] rfl (fun u hu => de_oneC _ _ u hu)
            have ha7 : W1.heap.size < (W1.alloc (.cells #[.int .i64 1, .int .i64 i, .int .u32 s.gen] DeT)).heap.size := by simp
            have hb7 : B6 ≤ W1.heap.size := HBS.out _ hbX
            replace hit13 := hit13.keep (fun g hg => hn.block g (by have : aI13 = g := Option.some.inj hg; omega))
            replace ha13 := Nat.lt_of_lt_of_le ha13 hn.size
            replace hds := hds.on hn
            replace hst := hst.on hn
            replace hbX := hbX.on hn
            clear hn
            generalize W1.alloc _ = W3 at *
            generalize W1.heap.size = aI7 at *
            refine hK.out _ _ (fun _ => ⟨((HRP.out _ hbX).cell 3).trans rfl, (HR6.out _ hbX).cell⟩) (fun hHeld0 => ?_)
            have hHeld := hHeld0 (by decide)
            clear hHeld0 hK K
            refine anyM_ready (rs := [8]) (by kernel_rfl) (by simp) ?_
            refine' ReadyM.cons (o := _) (by simp only [List.getElem?_toArray, List.getElem?_cons_succ, List.getElem?_cons_zero]; rfl) (fun K hK => ?_) ReadyM.nil
            refine step_app2 rfl (.tmp 50) (.tmp 52) 37 rfl (b := 0) Tryz.underlying37 HI0.out HZ0.out HZ1.out HZ2.out rfl (by decide) rfl rfl hds hit7 (by rw [hl8]; omega) (by decide) (Nat.zero_le _) ?_
            rw [hl8]
            intro a8 c8 W4 h8 hgrow hat8
            have hw8 := HBS.out _ hbX
            replace hst := hst.via (fun k hk => hgrow.block k (hst.lt k hk).2 (fun e => hst.ne_own hds (by decide) e.symm hk))
            replace hit13 := hit13.keep (fun g hg => hgrow.block g (by have : aI13 = g := Option.some.inj hg; omega) (fun e => by have h1 : aI13 = g := Option.some.inj hg; have h2 := hdL g e.symm; omega))
            replace ha13 := Nat.lt_of_lt_of_le ha13 hgrow.size
            replace hbX := hbX.grown hgrow (fun k hk _ => .inl hk)
            replace hat8 : ∀ g, (Value.slice a8 (n + 1) c8).ownBlock = some g → vd.ownBlock = some g ∨ B6 ≤ g := fun g hg => (hat8 g hg).imp id (fun h => Nat.le_trans hw8 h)
            clear hgrow hds hit7 hw8
            go_simp
            refine hK.out _ _ (fun _ => ⟨((HRP.out _ hbX).cell 3).trans rfl, (HR6.out _ hbX).cell⟩) (fun hHeld0 => ?_)
            have hHeld := hHeld0 (by decide)
            clear hHeld0 hK K
            refine anyM_ready (rs := [14]) (by kernel_rfl) (by simp) ?_
            refine' ReadyM.cons (o := _) (by simp only [List.getElem?_toArray, List.getElem?_cons_succ, List.getElem?_cons_zero]; rfl) (fun K hK => ?_) ReadyM.nil
            refine step_app2 rfl (.tmp 57) (.tmp 58) 38 rfl (b := 0) Tryz.underlying38 HJ0.out HJ1.out HJ2.out HJ3.out rfl (by decide) rfl rfl hst hit13 (by rw [hl14]; omega) (by decide) (Nat.zero_le _) ?_
            rw [hl14]
            intro a14 c14 W5 h14 hgrow hat14
            have hw8 := HBS.out _ hbX
            replace h8 := h8.via (fun k hk => hgrow.block k (h8.lt k hk).2 (fun e => h8.ne_own hst (by decide) e.symm hk))
            replace hbX := hbX.grown hgrow (fun k hk _ => .inr hk)
            replace hat14 : ∀ g, (Value.slice a14 (n + 1) c14).ownBlock = some g → (Value.slice ast n cst).ownBlock = some g ∨ B6 ≤ g := fun g hg => (hat14 g hg).imp id (fun h => Nat.le_trans hw8 h)
            clear hgrow hst hit13 hw8
            go_simp
            refine hK.out _ _ (fun _ => ⟨((HRP.out _ hbX).cell 3).trans rfl, (HR6.out _ hbX).cell⟩) (fun hHeld0 => ?_)
            have hHeld := hHeld0 (by decide)
            clear hHeld0 hK K
            refine' anyM_take (i := 15) (oi := _) (v := _) ?_ (by kernel_rfl) (by kernel_rfl) (by kernel_rfl) (by kernel_rfl) (by kernel_rfl) ?_ (Or.inl ⟨?_, ?_⟩) (by assumption) ?_
            rotate_left 2
            · (simp only [List.getElem?_toArray, List.getElem?_cons_succ, List.getElem?_cons_zero]; rfl)
            · first | exact fun _ _ _ h => h | exact fun _ _ _ h => nomatch h.1
            · rfl
            · (intro W hSW; (try dsimp only at hSW); go_split_ands; first | (go_simp; done) | (go_simp; with_reducible rfl))
            try simp only [Act.put, List.setIfInBounds_toArray, List.set_cons_zero, List.set_cons_succ]
            refine' anyM_take (i := 16) (oi := _) (v := _) ?_ (by kernel_rfl) (by kernel_rfl) (by kernel_rfl) (by kernel_rfl) (by kernel_rfl) ?_ (Or.inl ⟨?_, ?_⟩) (by assumption) ?_
            rotate_left 2
            · (simp only [List.getElem?_toArray, List.getElem?_cons_succ, List.getElem?_cons_zero]; rfl)
            · first | exact fun _ _ _ h => h | exact fun _ _ _ h => nomatch h.1
            · rfl
            · (intro W hSW; (try dsimp only at hSW); go_split_ands; first | (go_simp; done) | (go_simp; with_reducible rfl))
            try simp only [Act.put, List.setIfInBounds_toArray, List.set_cons_zero, List.set_cons_succ]
            clear hHeld
            have yp := (HRP.out _ hbX).cell
            have up := (HRP.out _ hbX).free
            have zp := (HRP.out _ hbX).lt
            refine anyM_ready (rs := [17]) (by kernel_rfl) (by simp) ?_
            refine' ReadyM.cons (o := _) (by simp only [List.getElem?_toArray, List.getElem?_cons_succ, List.getElem?_cons_zero]; rfl) (fun K hK => ?_) ReadyM.nil
            go_simp
            clear yp up zp
            have rp1 := (HRP.out _ hbX).set 2 (.slice a8 (n + 1) c8)
            simp only [List.setIfInBounds_toArray, List.set_cons_zero, List.set_cons_succ] at rp1
            have r61 := (HR6.out _ hbX).other hap6.symm 2 (.slice a8 (n + 1) c8)
            replace h8 := h8.other (h8.ne_row (HRP.out _ hbX) (by decide)) 2 (.slice a8 (n + 1) c8)
            replace h14 := h14.other (h14.ne_row (HRP.out _ hbX) (by decide)) 2 (.slice a8 (n + 1) c8)
            have hbY := (hbX.wide (G := fun b => (vd.ownBlock = some b ∨ (Value.slice ast n cst).ownBlock = some b) ∨ b = pp) (fun k hk => .inl hk)).setCell (y := pp) (fun _ => .inr rfl) 2 (.slice a8 (n + 1) c8)
            clear hbX
            generalize World.setCell _ _ _ = Y at *
            refine hK.out _ _ (fun _ => ⟨(rp1.cell 3).trans rfl, r61.cell⟩) (fun hHeld0 => ?_)
            have hHeld := hHeld0 (by decide)
            clear hHeld0 hK K
            refine' anyM_take (i := 18) (oi := _) (v := _) ?_ (by kernel_rfl) (by kernel_rfl) (by kernel_rfl) (by kernel_rfl) (by kernel_rfl) ?_ (Or.inl ⟨?_, ?_⟩) (by assumption) ?_
            rotate_left 2
            · (simp only [List.getElem?_toArray, List.getElem?_cons_succ, List.getElem?_cons_zero]; rfl)
            · first | exact fun _ _ _ h => h | exact fun _ _ _ h => nomatch h.1
            · rfl
            · (intro W hSW; (try dsimp only at hSW); go_split_ands; first | (go_simp; done) | (go_simp; with_reducible rfl))
            try simp only [Act.put, List.setIfInBounds_toArray, List.set_cons_zero, List.set_cons_succ]
            refine' anyM_take (i := 19) (oi := _) (v := _) ?_ (by kernel_rfl) (by kernel_rfl) (by kernel_rfl) (by kernel_rfl) (by kernel_rfl) ?_ (Or.inl ⟨?_, ?_⟩) (by assumption) ?_
            rotate_left 2
            · (simp only [List.getElem?_toArray, List.getElem?_cons_succ, List.getElem?_cons_zero]; rfl)
            · first | exact fun _ _ _ h => h | exact fun _ _ _ h => nomatch h.1
            · rfl
            · (intro W hSW; (try dsimp only at hSW); go_split_ands; first | (go_simp; done) | (go_simp; with_reducible rfl))
            try simp only [Act.put, List.setIfInBounds_toArray, List.set_cons_zero, List.set_cons_succ]
            clear hHeld
            have yp := rp1.cell
            have up := rp1.free
            have zp := rp1.lt
            refine anyM_ready (rs := [20]) (by kernel_rfl) (by simp) ?_
            refine' ReadyM.cons (o := _) (by simp only [List.getElem?_toArray, List.getElem?_cons_succ, List.getElem?_cons_zero]; rfl) (fun K hK => ?_) ReadyM.nil
            go_simp
            clear yp up zp
            refine hK.out _ _ (fun h => absurd rfl h) (fun _ => ?_)
            clear hK K
            refine anyM_done (by kernel_rfl) ?_ _
            have rp2 := rp1.set 3 (.slice a14 (n + 1) c14)
            simp only [List.setIfInBounds_toArray, List.set_cons_zero, List.set_cons_succ] at rp2
            replace h8 := h8.other (h8.ne_row rp1 (by decide)) 3 (.slice a14 (n + 1) c14)
            replace h14 := h14.other (h14.ne_row rp1 (by decide)) 3 (.slice a14 (n + 1) c14)
            replace hbY := hbY.setCell (y := pp) (fun _ => .inr rfl) 3 (.slice a14 (n + 1) c14)
            clear rp1 r61
            generalize World.setCell _ _ _ = Z at *
            go_wp2_with fail
            go_meet
            rw [HQ8.out] at h8
            rw [HQ14.out] at h14
            exact ⟨_, _, rp2, h8, h14, fun g hg => by rw [hV6s.out]; exact hat8 g hg, fun g hg => by rw [hV6s.out]; exact hat14 g hg, HB6.out _ hbY⟩
          · go_simp
            have hn := below_alloc W1 (.cells #[.int .i64 1, .int .i64 i, .int .u32 s.gen] DeT)
            have hit7 := src_row (t := DeT) (k := 3) W1 #[.int .i64 1, .int .i64 i, .int .u32 s.gen] rfl (fun u hu => de_oneC _ _ u hu)
            have ha7 : W1.heap.size < (W1.alloc (.cells #[.int .i64 1, .int .i64 i, .int .u32 s.gen] DeT)).heap.size := by simp
            have hb7 : B6 ≤ W1.heap.size := HBS.out _ hbX
            replace hit13 := hit13.keep (fun g hg => hn.block g (by have : aI13 = g := Option.some.inj hg; omega))
            replace ha13 := Nat.lt_of_lt_of_le ha13 hn.size
            replace hds := hds.on hn
            replace hst := hst.on hn
            replace hbX := hbX.on hn
            clear hn
            generalize W1.alloc _ = W2 at *
            generalize W1.heap.size = aI7 at *
            refine hK.out _ _ (fun _ => ⟨((HRP.out _ hbX).cell 3).trans rfl, (HR6.out _ hbX).cell⟩) (fun hHeld0 => ?_)
            have hHeld := hHeld0 (by decide)
            clear hHeld0 hK K
            refine anyM_ready (rs := [5]) (by kernel_rfl) (by simp) ?_
            refine' ReadyM.cons (o := _) (by simp only [List.getElem?_toArray, List.getElem?_cons_succ, List.getElem?_cons_zero]; rfl) (fun K hK => ?_) ReadyM.nil
            have y5 := (HRP.out _ hbX).cell
            have z5 := (HRP.out _ hbX).lt
            go_simp
            clear y5 z5
            refine hK.out _ _ (fun _ => ⟨((HRP.out _ hbX).cell 3).trans rfl, (HR6.out _ hbX).cell⟩) (fun hHeld0 => ?_)
            have hHeld := hHeld0 (by decide)
            clear hHeld0 hK K
            refine anyM_ready (rs := [8]) (by kernel_rfl) (by simp) ?_
            refine' ReadyM.cons (o := _) (by simp only [List.getElem?_toArray, List.getElem?_cons_succ, List.getElem?_cons_zero]; rfl) (fun K hK => ?_) ReadyM.nil
            refine step_app2 rfl (.tmp 50) (.tmp 52) 37 rfl (b := 0) Tryz.underlying37 HI0.out HZ0.out HZ1.out HZ2.out rfl (by decide) rfl rfl hds hit7 (by rw [hl8]; omega) (by decide) (Nat.zero_le _) ?_
            rw [hl8]
            intro a8 c8 W4 h8 hgrow hat8
            have hw8 := HBS.out _ hbX
            replace hst := hst.via (fun k hk => hgrow.block k (hst.lt k hk).2 (fun e => hst.ne_own hds (by decide) e.symm hk))
            replace hit13 := hit13.keep (fun g hg => hgrow.block g (by have : aI13 = g := Option.some.inj hg; omega) (fun e => by have h1 : aI13 = g := Option.some.inj hg; have h2 := hdL g e.symm; omega))
            replace ha13 := Nat.lt_of_lt_of_le ha13 hgrow.size
            replace hbX := hbX.grown hgrow (fun k hk _ => .inl hk)
            replace hat8 : ∀ g, (Value.slice a8 (n + 1) c8).ownBlock = some g → vd.ownBlock = some g ∨ B6 ≤ g := fun g hg => (hat8 g hg).imp id (fun h => Nat.le_trans hw8 h)
            clear hgrow hds hit7 hw8
            go_simp
            refine hK.out _ _ (fun _ => ⟨((HRP.out _ hbX).cell 3).trans rfl, (HR6.out _ hbX).cell⟩) (fun hHeld0 => ?_)
            have hHeld := hHeld0 (by decide)
            clear hHeld0 hK K
            refine anyM_ready (rs := [14]) (by kernel_rfl) (by simp) ?_
            refine' ReadyM.cons (o := _) (by simp only [List.getElem?_toArray, List.getElem?_cons_succ, List.getElem?_cons_zero]; rfl) (fun K hK => ?_) ReadyM.nil
            refine step_app2 rfl (.tmp 57) (.tmp 58) 38 rfl (b := 0) Tryz.underlying38 HJ0.out HJ1.out HJ2.out HJ3.out rfl (by decide) rfl rfl hst hit13 (by rw [hl14]; omega) (by decide) (Nat.zero_le _) ?_
            rw [hl14]
            intro a14 c14 W5 h14 hgrow hat14
            have hw8 := HBS.out _ hbX
            replace h8 := h8.via (fun k hk => hgrow.block k (h8.lt k hk).2 (fun e => h8.ne_own hst (by decide) e.symm hk))
            replace hbX := hbX.grown hgrow (fun k hk _ => .inr hk)
            replace hat14 : ∀ g, (Value.slice a14 (n + 1) c14).ownBlock = some g → (Value.slice ast n cst).ownBlock = some g ∨ B6 ≤ g := fun g hg => (hat14 g hg).imp id (fun h => Nat.le_trans hw8 h)
            clear hgrow hst hit13 hw8
            go_simp
            refine hK.out _ _ (fun _ => ⟨((HRP.out _ hbX).cell 3).trans rfl, (HR6.out _ hbX).cell⟩) (fun hHeld0 => ?_)
            have hHeld := hHeld0 (by decide)
            clear hHeld0 hK K
            refine' anyM_take (i := 15) (oi := _) (v := _) ?_ (by kernel_rfl) (by kernel_rfl) (by kernel_rfl) (by kernel_rfl) (by kernel_rfl) ?_ (Or.inl ⟨?_, ?_⟩) (by assumption) ?_
            rotate_left 2
            · (simp only [List.getElem?_toArray, List.getElem?_cons_succ, List.getElem?_cons_zero]; rfl)
            · first | exact fun _ _ _ h => h | exact fun _ _ _ h => nomatch h.1
            · rfl
            · (intro W hSW; (try dsimp only at hSW); go_split_ands; first | (go_simp; done) | (go_simp; with_reducible rfl))
            try simp only [Act.put, List.setIfInBounds_toArray, List.set_cons_zero, List.set_cons_succ]
            refine' anyM_take (i := 16) (oi := _) (v := _) ?_ (by kernel_rfl) (by kernel_rfl) (by kernel_rfl) (by kernel_rfl) (by kernel_rfl) ?_ (Or.inl ⟨?_, ?_⟩) (by assumption) ?_
            rotate_left 2
            · (simp only [List.getElem?_toArray, List.getElem?_cons_succ, List.getElem?_cons_zero]; rfl)
            · first | exact fun _ _ _ h => h | exact fun _ _ _ h => nomatch h.1
            · rfl
            · (intro W hSW; (try dsimp only at hSW); go_split_ands; first | (go_simp; done) | (go_simp; with_reducible rfl))
            try simp only [Act.put, List.setIfInBounds_toArray, List.set_cons_zero, List.set_cons_succ]
            clear hHeld
            have yp := (HRP.out _ hbX).cell
            have up := (HRP.out _ hbX).free
            have zp := (HRP.out _ hbX).lt
            refine anyM_ready (rs := [17]) (by kernel_rfl) (by simp) ?_
            refine' ReadyM.cons (o := _) (by simp only [List.getElem?_toArray, List.getElem?_cons_succ, List.getElem?_cons_zero]; rfl) (fun K hK => ?_) ReadyM.nil
            go_simp
            clear yp up zp
            have rp1 := (HRP.out _ hbX).set 2 (.slice a8 (n + 1) c8)
            simp only [List.setIfInBounds_toArray, List.set_cons_zero, List.set_cons_succ] at rp1
            have r61 := (HR6.out _ hbX).other hap6.symm 2 (.slice a8 (n + 1) c8)
            replace h8 := h8.other (h8.ne_row (HRP.out _ hbX) (by decide)) 2 (.slice a8 (n + 1) c8)
            replace h14 := h14.other (h14.ne_row (HRP.out _ hbX) (by decide)) 2 (.slice a8 (n + 1) c8)
            have hbY := (hbX.wide (G := fun b => (vd.ownBlock = some b ∨ (Value.slice ast n cst).ownBlock = some b) ∨ b = pp) (fun k hk => .inl hk)).setCell (y := pp) (fun _ => .inr rfl) 2 (.slice a8 (n + 1) c8)
            clear hbX
            generalize World.setCell _ _ _ = Y at *
            refine hK.out _ _ (fun _ => ⟨(rp1.cell 3).trans rfl, r61.cell⟩) (fun hHeld0 => ?_)
            have hHeld := hHeld0 (by decide)
            clear hHeld0 hK K
            refine' anyM_take (i := 18) (oi := _) (v := _) ?_ (by kernel_rfl) (by kernel_rfl) (by kernel_rfl) (by kernel_rfl) (by kernel_rfl) ?_ (Or.inl ⟨?_, ?_⟩) (by assumption) ?_
            rotate_left 2
            · (simp only [List.getElem?_toArray, List.getElem?_cons_succ, List.getElem?_cons_zero]; rfl)
            · first | exact fun _ _ _ h => h | exact fun _ _ _ h => nomatch h.1
            · rfl
            · (intro W hSW; (try dsimp only at hSW); go_split_ands; first | (go_simp; done) | (go_simp; with_reducible rfl))
            try simp only [Act.put, List.setIfInBounds_toArray, List.set_cons_zero, List.set_cons_succ]
            refine' anyM_take (i := 19) (oi := _) (v := _) ?_ (by kernel_rfl) (by kernel_rfl) (by kernel_rfl) (by kernel_rfl) (by kernel_rfl) ?_ (Or.inl ⟨?_, ?_⟩) (by assumption) ?_
            rotate_left 2
            · (simp only [List.getElem?_toArray, List.getElem?_cons_succ, List.getElem?_cons_zero]; rfl)
            · first | exact fun _ _ _ h => h | exact fun _ _ _ h => nomatch h.1
            · rfl
            · (intro W hSW; (try dsimp only at hSW); go_split_ands; first | (go_simp; done) | (go_simp; with_reducible rfl))
            try simp only [Act.put, List.setIfInBounds_toArray, List.set_cons_zero, List.set_cons_succ]
            clear hHeld
            have yp := rp1.cell
            have up := rp1.free
            have zp := rp1.lt
            refine anyM_ready (rs := [20]) (by kernel_rfl) (by simp) ?_
            refine' ReadyM.cons (o := _) (by simp only [List.getElem?_toArray, List.getElem?_cons_succ, List.getElem?_cons_zero]; rfl) (fun K hK => ?_) ReadyM.nil
            go_simp
            clear yp up zp
            refine hK.out _ _ (fun h => absurd rfl h) (fun _ => ?_)
            clear hK K
            refine anyM_done (by kernel_rfl) ?_ _
            have rp2 := rp1.set 3 (.slice a14 (n + 1) c14)
            simp only [List.setIfInBounds_toArray, List.set_cons_zero, List.set_cons_succ] at rp2
            replace h8 := h8.other (h8.ne_row rp1 (by decide)) 3 (.slice a14 (n + 1) c14)
            replace h14 := h14.other (h14.ne_row rp1 (by decide)) 3 (.slice a14 (n + 1) c14)
            replace hbY := hbY.setCell (y := pp) (fun _ => .inr rfl) 3 (.slice a14 (n + 1) c14)
            clear rp1 r61
            generalize World.setCell _ _ _ = Z at *
            go_wp2_with fail
            go_meet
            rw [HQ8.out] at h8
            rw [HQ14.out] at h14
            exact ⟨_, _, rp2, h8, h14, fun g hg => by rw [hV6s.out]; exact hat8 g hg, fun g hg => by rw [hV6s.out]; exact hat14 g hg, HB6.out _ hbY⟩
      case rest =>
        obtain ⟨v8, v14, rp6, h8, h14, ha8, ha14, hb6⟩ := hcut
        have hfin2 := hT2.fin
        have hdL : ∀ g, vd.ownBlock = some g → g < w.heap.size := fun g hg => (HP.out.ds.lt g hg).2
        have hsL : ∀ g, (Value.slice ast n cst).ownBlock = some g → g < w.heap.size := fun g hg => (HP.out.st.lt g hg).2
        have q1 := hT1c.but hb6 (fun b hb h => by
          have h1 := hF1 b hb
          rcases h1 with h1 | h1
          · rcases h with (h | h) | h
            · exact (HP.out.nd b h).1 h1
            · exact (HP.out.ns b h).1 h1
            · exact HP.out.n1p (by rw [← h]; exact h1)
          · rcases h with (h | h) | h
            · have := hdL b h; omega
            · have := hsL b h; omega
            · omega)
        have q2 := hT2.but hb6 (fun b hb h => by
          have h1 := hF2 b hb
          rcases h1 with h1 | h1
          · rcases h with (h | h) | h
            · exact (HP.out.nd b h).2 h1
            · exact (HP.out.ns b h).2 h1
            · exact HP.out.n2p (by rw [← h]; exact h1)
          · rcases h with (h | h) | h
            · have := hdL b h; omega
            · have := hsL b h; omega
            · omega)
        have hbZ : But F w wc := hbw2.trans hb6 (fun b hb h => by
          rcases h with (h | h) | h
          · exact HP.out.id b h
          · exact HP.out.is b h
          · rw [h]; exact HP.out.ip)
        have s1 := hb6.size
        have hP : Pair wc (fun b => F b ∨ FreshL w wc b) pp (openT T) := by
          rw [HO.out]
          refine ⟨F1', F2', p1, p2, v8, v14, {
            row := rp6
            t1 := q1
            t2 := q2
            ds := h8
            st := h14
            i1 := fun b hb => (hF1 b hb).imp (HP.out.i1 b) (fun h => ⟨by omega, q1.fin b hb⟩)
            i2 := fun b hb => (hF2 b hb).imp (HP.out.i2 b) (fun h => ⟨by omega, q2.fin b hb⟩)
            ip := .inl HP.out.ip
            id := fun b hb => (ha8 b hb).imp (HP.out.id b) (fun h => ⟨by omega, (h8.lt b hb).2⟩)
            is := fun b hb => (ha14 b hb).imp (HP.out.is b) (fun h => ⟨by omega, (h14.lt b hb).2⟩)
            fin := fun b hb => by
              rcases hb with hb | hb
              · exact Nat.lt_of_lt_of_le (HP.out.fin b hb) hbZ.size
              · exact hb.2
            n12 := fun b hb1 hb2 => by
              have h0 := hfin1 b hb1
              rcases hF1 b hb1 with h1 | h1
              · rcases hF2 b hb2 with h2 | h2
                · exact HP.out.n12 b h1 h2
                · omega
              · rcases hF2 b hb2 with h2 | h2
                · have := hFw b h2; omega
                · omega
            n1p := fun h => by
              rcases hF1 _ h with h1 | h1
              · exact HP.out.n1p h1
              · omega
            n2p := fun h => by
              rcases hF2 _ h with h1 | h1
              · exact HP.out.n2p h1
              · omega
            nd := fun b hb => by
              rcases ha8 b hb with h | h
              · have h0 := hdL b h
                refine ⟨fun h1 => ?_, fun h1 => ?_⟩
                · rcases hF1 b h1 with h2 | h2
                  · exact (HP.out.nd b h).1 h2
                  · omega
                · rcases hF2 b h1 with h2 | h2
                  · exact (HP.out.nd b h).2 h2
                  · omega
              · exact ⟨fun h1 => by have := hfin1 b h1; omega, fun h1 => by have := hfin2 b h1; omega⟩
            ns := fun b hb => by
              rcases ha14 b hb with h | h
              · have h0 := hsL b h
                refine ⟨fun h1 => ?_, fun h1 => ?_⟩
                · rcases hF1 b h1 with h2 | h2
                  · exact (HP.out.ns b h).1 h2
                  · omega
                · rcases hF2 b h1 with h2 | h2
                  · exact (HP.out.ns b h).2 h2
                  · omega
              · exact ⟨fun h1 => by have := hfin1 b h1; omega, fun h1 => by have := hfin2 b h1; omega⟩ }⟩
        have HPP := Lib.hid hP
        have HBZ := Lib.hid hbZ
        clear hP hbZ q1 q2 rp6 h8 h14 ha8 ha14 hb6 hT1c hT2 hds hst hF1 hF2 rpV r6 hbw hbw2
        go_wp2_with fail
        go_returns
        exact ⟨rfl, HPP.out, HBZ.out⟩
end Go.Proofs.YtkjpdciccablpaaGreatDoor
