/- The reference's Text: its walks. -/
import Derived.Test.YtgckfiadnmjonaaGreatDoorL3a
import Derived.Test.YtgckfiadnmjonaaGreatDoorHRes1
namespace Go.Proofs.YtgckfiadnmjonaaGreatDoor
open Go.RowKit
set_option linter.unusedVariables false
set_option linter.unusedSimpArgs false
abbrev Cat (a b c : ByteArray) : Prop := ∀ W, (Op.stringOp .add a b).run Tryz.prog W = .ok (.string c) W
abbrev spB : ByteArray := ⟨#[32]⟩

set_option maxHeartbeats 8000000 in
set_option maxRecDepth 20000 in
theorem rtext_1 (k i g wy tr nx : Int) (tag O Q A0 A1 E0 E1 : ByteArray) (w : World)
    (c1 : ∀ w, Ret 13 #[rV k i g 1 wy tr nx tag] w (.int .i64 0))
    (c2 : ∀ w, Ret 43 #[.agg #[.int .i64 k, .int .i64 i, .int .u32 g]] w (.tuple #[.string O, .int .i64 0]))
    (c3 : ∀ w, Ret 44 #[.string tag] w (.tuple #[.string Q, .int .i64 0]))
    (a0 : Cat O spB A0) (a1 : Cat A0 sLive A1) (e0 : Cat A1 spB E0) (e1 : Cat E0 Q E1) :
    Ret 19 #[rV k i g 1 wy tr nx tag] w (.tuple #[.string E1, .int .i64 0]) := by
  have C1 := Lib.hid c1
  clear c1
  have C2 := Lib.hid c2
  clear c2
  have C3 := Lib.hid c3
  clear c3
  go_enter Tryz.func19, Tryz.ntmps19
  go_wp2_with fail
  have r1 := Row.new (W := w) (cs := (rC k i g 1 wy tr nx tag)) (t := 28)
  have hc := (Below.refl w.heap.size w).alloc (Nat.le_refl _) (.cells (rC k i g 1 wy tr nx tag) 28)
  generalize w.alloc (.cells (rC k i g 1 wy tr nx tag) 28) = W at *
  generalize hp1 : w.heap.size = p1 at r1
  refine Calls.mono (C1.out _) ?_
  rintro e w1 ⟨rfl, hb⟩
  replace r1 := r1.on hb
  replace hc := chain hc hb
  clear hb
  have y0 := r1.cell
  have y1 := r1.lt
  go_wp2_with fail
  clear y0 y1
  refine Calls.mono (C2.out _) ?_
  rintro e w2 ⟨rfl, hb⟩
  replace r1 := r1.on hb
  replace hc := chain hc hb
  clear hb
  have y0 := r1.cell
  have y1 := r1.lt
  go_wp2_with fail
  clear y0 y1
  refine Calls.mono (C3.out _) ?_
  rintro e w3 ⟨rfl, hb⟩
  replace r1 := r1.on hb
  replace hc := chain hc hb
  clear hb
  replace hc := hc.alloc hc.size (.cells #[.string sLive, .string sClos, .string sRele, .string sQuar] 9)
  have y0 := r1.cell
  have y1 := r1.lt
  go_wp2_with fail
  go_returns
  exact ⟨rfl, by first | exact hc | (rw [← hp1]; exact hc)⟩

set_option maxHeartbeats 8000000 in
set_option maxRecDepth 20000 in
theorem rtext_2_1 (k i g tr nx : Int) (tag O Q A0 A1 B0 B1 B2 B3 C0 C1 E0 E1 D D2 : ByteArray) (w : World)
    (c1 : ∀ w, Ret 13 #[rV k i g 2 1 tr nx tag] w (.int .i64 0))
    (c2 : ∀ w, Ret 43 #[.agg #[.int .i64 k, .int .i64 i, .int .u32 g]] w (.tuple #[.string O, .int .i64 0]))
    (c3 : ∀ w, Ret 44 #[.string tag] w (.tuple #[.string Q, .int .i64 0]))
    (a0 : Cat O spB A0) (a1 : Cat A0 sClos A1) (b0 : Cat A1 spB B0) (b1 : Cat B0 sClose B1) (b2 : Cat B1 spB B2) (b3 : Cat B2 D B3) (d0 : Cat B3 spB C0) (d1 : Cat C0 D2 C1) (e0 : Cat C1 spB E0) (e1 : Cat E0 Q E1) (c4 : ∀ w, Ret 45 #[.int .i64 tr] w (.string D)) (c5 : ∀ w, Ret 45 #[.int .i64 nx] w (.string D2)) :
    Ret 19 #[rV k i g 2 1 tr nx tag] w (.tuple #[.string E1, .int .i64 0]) := by
  have wl : IntKind.i64.wrap 0 = 0 := by decide
  have C1 := Lib.hid c1
  clear c1
  have C2 := Lib.hid c2
  clear c2
  have C3 := Lib.hid c3
  clear c3
  have C4 := Lib.hid c4
  clear c4
  have C5 := Lib.hid c5
  clear c5
  go_enter Tryz.func19, Tryz.ntmps19
  go_wp2_with fail
  have r1 := Row.new (W := w) (cs := (rC k i g 2 1 tr nx tag)) (t := 28)
  have hc := (Below.refl w.heap.size w).alloc (Nat.le_refl _) (.cells (rC k i g 2 1 tr nx tag) 28)
  generalize w.alloc (.cells (rC k i g 2 1 tr nx tag) 28) = W at *
  generalize hp1 : w.heap.size = p1 at r1
  refine Calls.mono (C1.out _) ?_
  rintro e w1 ⟨rfl, hb⟩
  replace r1 := r1.on hb
  replace hc := chain hc hb
  clear hb
  have y0 := r1.cell
  have y1 := r1.lt
  go_wp2_with fail
  clear y0 y1
  refine Calls.mono (C2.out _) ?_
  rintro e w2 ⟨rfl, hb⟩
  replace r1 := r1.on hb
  replace hc := chain hc hb
  clear hb
  have y0 := r1.cell
  have y1 := r1.lt
  go_wp2_with fail
  clear y0 y1
  refine Calls.mono (C3.out _) ?_
  rintro e w3 ⟨rfl, hb⟩
  replace r1 := r1.on hb
  replace hc := chain hc hb
  clear hb
  have y0 := r1.cell
  have y1 := r1.lt
  go_upto_region 8 with fail
  clear y0 y1
  replace r1 := r1.on (below_alloc w3 (.cells #[.string sLive, .string sClos, .string sRele, .string sQuar] 9))
  replace hc := hc.alloc hc.size (.cells #[.string sLive, .string sClos, .string sRele, .string sQuar] 9)
  generalize w3.alloc (.cells #[.string sLive, .string sClos, .string sRele, .string sQuar] 9) = X0 at *
  go_cut [9] (fun v wx => v = .string B3 ∧ Row wx p1 (rC k i g 2 1 tr nx tag) 28 ∧ Below w.heap.size w wx)
  case first =>
    refine wp_region_held_drew (S := fun W' => (∀ j, W'.cell? ⟨p1, j, none⟩ = (rC k i g 2 1 tr nx tag)[j]?)) (by kernel_rfl) r1.cell (fun hHeld => ?_)
    replace r1 := r1.drew
    replace hc := hc.drew
    generalize X0.drew = X1 at *
    refine' wpAnyH_take (i := 0) (oi := _) (v := _) ?_ (by kernel_rfl) (by kernel_rfl) (by kernel_rfl) ?_ (Or.inl ⟨?_, ?_⟩) (by assumption) ?_
    rotate_left 2
    · (simp only [List.getElem?_toArray, List.getElem?_cons_succ, List.getElem?_cons_zero]; rfl)
    · first | exact fun _ _ _ h => h | exact fun _ _ _ h => nomatch h.1
    · rfl
    · (intro W hSW; (try dsimp only at hSW); go_split_ands; first | (go_simp; done) | (go_simp; with_reducible rfl))
    try simp only [Act.put, List.setIfInBounds_toArray, List.set_cons_zero, List.set_cons_succ]
    refine' wpAnyH_take (i := 1) (oi := _) (v := _) ?_ (by kernel_rfl) (by kernel_rfl) (by kernel_rfl) ?_ (Or.inl ⟨?_, ?_⟩) (by assumption) ?_
    rotate_left 2
    · (simp only [List.getElem?_toArray, List.getElem?_cons_succ, List.getElem?_cons_zero]; rfl)
    · first | exact fun _ _ _ h => h | exact fun _ _ _ h => nomatch h.1
    · rfl
    · (intro W hSW; (try dsimp only at hSW); go_split_ands; first | (go_simp; done) | (go_simp; with_reducible rfl))
    try simp only [Act.put, List.setIfInBounds_toArray, List.set_cons_zero, List.set_cons_succ]
    refine' wpAnyH_take (i := 3) (oi := _) (v := _) ?_ (by kernel_rfl) (by kernel_rfl) (by kernel_rfl) ?_ (Or.inl ⟨?_, ?_⟩) (by assumption) ?_
    rotate_left 2
    · (simp only [List.getElem?_toArray, List.getElem?_cons_succ, List.getElem?_cons_zero]; rfl)
    · first | exact fun _ _ _ h => h | exact fun _ _ _ h => nomatch h.1
    · rfl
    · (intro W hSW; (try dsimp only at hSW); go_split_ands; first | (go_simp; done) | (go_simp; with_reducible rfl))
    try simp only [Act.put, List.setIfInBounds_toArray, List.set_cons_zero, List.set_cons_succ]
    refine' wpAnyH_take (i := 4) (oi := _) (v := _) ?_ (by kernel_rfl) (by kernel_rfl) (by kernel_rfl) ?_ (Or.inl ⟨?_, ?_⟩) (by assumption) ?_
    rotate_left 2
    · (simp only [List.getElem?_toArray, List.getElem?_cons_succ, List.getElem?_cons_zero]; rfl)
    · first | exact fun _ _ _ h => h | exact fun _ _ _ h => nomatch h.1
    · rfl
    · (intro W hSW; (try dsimp only at hSW); go_split_ands; first | (go_simp; done) | (go_simp; with_reducible rfl))
    try simp only [Act.put, List.setIfInBounds_toArray, List.set_cons_zero, List.set_cons_succ]
    refine' wpAnyH_take (i := 5) (oi := _) (v := _) ?_ (by kernel_rfl) (by kernel_rfl) (by kernel_rfl) ?_ (Or.inl ⟨?_, ?_⟩) (by assumption) ?_
    rotate_left 2
    · (simp only [List.getElem?_toArray, List.getElem?_cons_succ, List.getElem?_cons_zero]; rfl)
    · first | exact fun _ _ _ h => h | exact fun _ _ _ h => nomatch h.1
    · rfl
    · (intro W hSW; (try dsimp only at hSW); go_split_ands; first | (go_simp; done) | (go_simp; with_reducible rfl))
    try simp only [Act.put, List.setIfInBounds_toArray, List.set_cons_zero, List.set_cons_succ]
    refine' wpAnyH_take (i := 10) (oi := _) (v := _) ?_ (by kernel_rfl) (by kernel_rfl) (by kernel_rfl) ?_ (Or.inl ⟨?_, ?_⟩) (by assumption) ?_
    rotate_left 2
    · (simp only [List.getElem?_toArray, List.getElem?_cons_succ, List.getElem?_cons_zero]; rfl)
    · first | exact fun _ _ _ h => h | exact fun _ _ _ h => nomatch h.1
    · rfl
    · (intro W hSW; (try dsimp only at hSW); go_split_ands; first | (go_simp; done) | (go_simp; with_reducible rfl))
    try simp only [Act.put, List.setIfInBounds_toArray, List.set_cons_zero, List.set_cons_succ]
    refine' wpAnyH_take (i := 11) (oi := _) (v := _) ?_ (by kernel_rfl) (by kernel_rfl) (by kernel_rfl) ?_ (Or.inl ⟨?_, ?_⟩) (by assumption) ?_
    rotate_left 2
    · (simp only [List.getElem?_toArray, List.getElem?_cons_succ, List.getElem?_cons_zero]; rfl)
    · first | exact fun _ _ _ h => h | exact fun _ _ _ h => nomatch h.1
    · rfl
    · (intro W hSW; (try dsimp only at hSW); go_split_ands; first | (go_simp; done) | (go_simp; with_reducible rfl))
    try simp only [Act.put, List.setIfInBounds_toArray, List.set_cons_zero, List.set_cons_succ]
    clear hHeld
    refine wpAnyH_ready (rs := [2, 12]) (by kernel_rfl) (by simp) ?_
    refine' AllReadyH.cons (o := _) (by simp only [List.getElem?_toArray, List.getElem?_cons_succ, List.getElem?_cons_zero]; rfl) (fun K hK => ?_) (AllReadyH.cons (o := _) (by simp only [List.getElem?_toArray, List.getElem?_cons_succ, List.getElem?_cons_zero]; rfl) (fun K hK => ?_) AllReadyH.nil)
    · go_simp
      have hn := below_alloc X1 (.cells #[.string sClose, .string sExpi, .string sColl] 9)
      have r2 := Row.new (W := X1) (cs := #[.string sClose, .string sExpi, .string sColl]) (t := 9)
      replace r1 := r1.on hn
      replace hc := chain hc hn
      clear hn
      generalize X1.alloc (.cells #[.string sClose, .string sExpi, .string sColl] 9) = X2 at *
      generalize X1.heap.size = a2 at *
      refine hK.out _ _ r1.cell (fun _ => ?_)
      clear hK K
      refine wpAnyH_more (S' := fun W' => (∀ j, W'.cell? ⟨p1, j, none⟩ = (rC k i g 2 1 tr nx tag)[j]?) ∧ (∀ j, W'.cell? ⟨a2, j, none⟩ = (#[.string sClose, .string sExpi, .string sColl] : Array Value)[j]?)) (fun _ h => h.1) ⟨r1.cell, r2.cell⟩ (fun hHeld => ?_)
      refine' wpAnyH_take (i := 6) (oi := _) (v := _) ?_ (by kernel_rfl) (by kernel_rfl) (by kernel_rfl) ?_ (Or.inl ⟨?_, ?_⟩) (by assumption) ?_
      rotate_left 2
      · (simp only [List.getElem?_toArray, List.getElem?_cons_succ, List.getElem?_cons_zero]; rfl)
      · first | exact fun _ _ _ h => h | exact fun _ _ _ h => nomatch h.1
      · rfl
      · (intro W hSW; (try dsimp only at hSW); go_split_ands; first | (go_simp; done) | (go_simp; with_reducible rfl))
      try simp only [Act.put, List.setIfInBounds_toArray, List.set_cons_zero, List.set_cons_succ]
      refine' wpAnyH_take (i := 7) (oi := _) (v := _) ?_ (by kernel_rfl) (by kernel_rfl) (by kernel_rfl) ?_ (Or.inl ⟨?_, ?_⟩) (by assumption) ?_
      rotate_left 2
      · (simp only [List.getElem?_toArray, List.getElem?_cons_succ, List.getElem?_cons_zero]; rfl)
      · first | exact fun _ _ _ h => h | exact fun _ _ _ h => nomatch h.1
      · rfl
      · (intro W hSW; (try dsimp only at hSW); go_split_ands; first | (go_simp; done) | (go_simp; with_reducible rfl))
      try simp only [Act.put, List.setIfInBounds_toArray, List.set_cons_zero, List.set_cons_succ]
      refine' wpAnyH_take (i := 8) (oi := _) (v := _) ?_ (by kernel_rfl) (by kernel_rfl) (by kernel_rfl) ?_ (Or.inl ⟨?_, ?_⟩) (by assumption) ?_
      rotate_left 2
      · (simp only [List.getElem?_toArray, List.getElem?_cons_succ, List.getElem?_cons_zero]; rfl)
      · first | exact fun _ _ _ h => h | exact fun _ _ _ h => nomatch h.1
      · rfl
      · (intro W hSW; (try dsimp only at hSW); go_split_ands; first | (go_simp; done) | (go_simp; with_reducible rfl))
      try simp only [Act.put, List.setIfInBounds_toArray, List.set_cons_zero, List.set_cons_succ]
      refine' wpAnyH_take (i := 9) (oi := _) (v := _) ?_ (by kernel_rfl) (by kernel_rfl) (by kernel_rfl) ?_ (Or.inl ⟨?_, ?_⟩) (by assumption) ?_
      rotate_left 2
      · (simp only [List.getElem?_toArray, List.getElem?_cons_succ, List.getElem?_cons_zero]; rfl)
      · first | exact fun _ _ _ h => h | exact fun _ _ _ h => nomatch h.1
      · rfl
      · (intro W hSW; (try dsimp only at hSW); go_split_ands; first | (go_simp; done) | (go_simp; with_reducible rfl))
      try simp only [Act.put, List.setIfInBounds_toArray, List.set_cons_zero, List.set_cons_succ]
      clear hHeld
      refine wpAnyH_ready (rs := [12]) (by kernel_rfl) (by simp) ?_
      refine' AllReadyH.cons (o := _) (by simp only [List.getElem?_toArray, List.getElem?_cons_succ, List.getElem?_cons_zero]; rfl) (fun K hK => ?_) AllReadyH.nil
      go_simp
      refine Calls.mono (C4.out _) ?_
      rintro e X3 ⟨rfl, hn⟩
      replace r1 := r1.on hn
      replace r2 := r2.on hn
      replace hc := chain hc hn
      clear hn
      go_simp
      refine hK.out _ _ ⟨r1.cell, r2.cell⟩ (fun hHeld => ?_)
      clear hK K
      refine' wpAnyH_take (i := 13) (oi := _) (v := _) ?_ (by kernel_rfl) (by kernel_rfl) (by kernel_rfl) ?_ (Or.inl ⟨?_, ?_⟩) (by assumption) ?_
      rotate_left 2
      · (simp only [List.getElem?_toArray, List.getElem?_cons_succ, List.getElem?_cons_zero]; rfl)
      · first | exact fun _ _ _ h => h | exact fun _ _ _ h => nomatch h.1
      · rfl
      · (intro W hSW; (try dsimp only at hSW); go_split_ands; first | (go_simp; done) | (go_simp; with_reducible rfl))
      try simp only [Act.put, List.setIfInBounds_toArray, List.set_cons_zero, List.set_cons_succ]
      refine' wpAnyH_take (i := 14) (oi := _) (v := _) ?_ (by kernel_rfl) (by kernel_rfl) (by kernel_rfl) ?_ (Or.inl ⟨?_, ?_⟩) (by assumption) ?_
      rotate_left 2
      · (simp only [List.getElem?_toArray, List.getElem?_cons_succ, List.getElem?_cons_zero]; rfl)
      · first | exact fun _ _ _ h => h | exact fun _ _ _ h => nomatch h.1
      · rfl
      · (intro W hSW; (try dsimp only at hSW); go_split_ands; first | (go_simp; done) | (go_simp; with_reducible rfl))
      try simp only [Act.put, List.setIfInBounds_toArray, List.set_cons_zero, List.set_cons_succ]
      refine wpAnyH_done (by kernel_rfl) ?_ _
      go_wp2_with fail
      go_meet
      exact ⟨rfl, r1, hc⟩
    · go_simp
      refine Calls.mono (C4.out _) ?_
      rintro e X3 ⟨rfl, hn⟩
      replace r1 := r1.on hn
      replace hc := chain hc hn
      clear hn
      go_simp
      refine hK.out _ _ r1.cell (fun hHeld => ?_)
      clear hK K hHeld
      refine wpAnyH_ready (rs := [2]) (by kernel_rfl) (by simp) ?_
      refine' AllReadyH.cons (o := _) (by simp only [List.getElem?_toArray, List.getElem?_cons_succ, List.getElem?_cons_zero]; rfl) (fun K hK => ?_) AllReadyH.nil
      go_simp
      have hn := below_alloc X3 (.cells #[.string sClose, .string sExpi, .string sColl] 9)
      have r2 := Row.new (W := X3) (cs := #[.string sClose, .string sExpi, .string sColl]) (t := 9)
      replace r1 := r1.on hn
      replace hc := chain hc hn
      clear hn
      generalize X3.alloc (.cells #[.string sClose, .string sExpi, .string sColl] 9) = X4 at *
      generalize X3.heap.size = a2 at *
      refine hK.out _ _ r1.cell (fun _ => ?_)
      clear hK K
      refine wpAnyH_more (S' := fun W' => (∀ j, W'.cell? ⟨p1, j, none⟩ = (rC k i g 2 1 tr nx tag)[j]?) ∧ (∀ j, W'.cell? ⟨a2, j, none⟩ = (#[.string sClose, .string sExpi, .string sColl] : Array Value)[j]?)) (fun _ h => h.1) ⟨r1.cell, r2.cell⟩ (fun hHeld => ?_)
      refine' wpAnyH_take (i := 6) (oi := _) (v := _) ?_ (by kernel_rfl) (by kernel_rfl) (by kernel_rfl) ?_ (Or.inl ⟨?_, ?_⟩) (by assumption) ?_
      rotate_left 2
      · (simp only [List.getElem?_toArray, List.getElem?_cons_succ, List.getElem?_cons_zero]; rfl)
      · first | exact fun _ _ _ h => h | exact fun _ _ _ h => nomatch h.1
      · rfl
      · (intro W hSW; (try dsimp only at hSW); go_split_ands; first | (go_simp; done) | (go_simp; with_reducible rfl))
      try simp only [Act.put, List.setIfInBounds_toArray, List.set_cons_zero, List.set_cons_succ]
      refine' wpAnyH_take (i := 7) (oi := _) (v := _) ?_ (by kernel_rfl) (by kernel_rfl) (by kernel_rfl) ?_ (Or.inl ⟨?_, ?_⟩) (by assumption) ?_
      rotate_left 2
      · (simp only [List.getElem?_toArray, List.getElem?_cons_succ, List.getElem?_cons_zero]; rfl)
      · first | exact fun _ _ _ h => h | exact fun _ _ _ h => nomatch h.1
      · rfl
      · (intro W hSW; (try dsimp only at hSW); go_split_ands; first | (go_simp; done) | (go_simp; with_reducible rfl))
      try simp only [Act.put, List.setIfInBounds_toArray, List.set_cons_zero, List.set_cons_succ]
      refine' wpAnyH_take (i := 8) (oi := _) (v := _) ?_ (by kernel_rfl) (by kernel_rfl) (by kernel_rfl) ?_ (Or.inl ⟨?_, ?_⟩) (by assumption) ?_
      rotate_left 2
      · (simp only [List.getElem?_toArray, List.getElem?_cons_succ, List.getElem?_cons_zero]; rfl)
      · first | exact fun _ _ _ h => h | exact fun _ _ _ h => nomatch h.1
      · rfl
      · (intro W hSW; (try dsimp only at hSW); go_split_ands; first | (go_simp; done) | (go_simp; with_reducible rfl))
      try simp only [Act.put, List.setIfInBounds_toArray, List.set_cons_zero, List.set_cons_succ]
      refine' wpAnyH_take (i := 9) (oi := _) (v := _) ?_ (by kernel_rfl) (by kernel_rfl) (by kernel_rfl) ?_ (Or.inl ⟨?_, ?_⟩) (by assumption) ?_
      rotate_left 2
      · (simp only [List.getElem?_toArray, List.getElem?_cons_succ, List.getElem?_cons_zero]; rfl)
      · first | exact fun _ _ _ h => h | exact fun _ _ _ h => nomatch h.1
      · rfl
      · (intro W hSW; (try dsimp only at hSW); go_split_ands; first | (go_simp; done) | (go_simp; with_reducible rfl))
      try simp only [Act.put, List.setIfInBounds_toArray, List.set_cons_zero, List.set_cons_succ]
      refine' wpAnyH_take (i := 13) (oi := _) (v := _) ?_ (by kernel_rfl) (by kernel_rfl) (by kernel_rfl) ?_ (Or.inl ⟨?_, ?_⟩) (by assumption) ?_
      rotate_left 2
      · (simp only [List.getElem?_toArray, List.getElem?_cons_succ, List.getElem?_cons_zero]; rfl)
      · first | exact fun _ _ _ h => h | exact fun _ _ _ h => nomatch h.1
      · rfl
      · (intro W hSW; (try dsimp only at hSW); go_split_ands; first | (go_simp; done) | (go_simp; with_reducible rfl))
      try simp only [Act.put, List.setIfInBounds_toArray, List.set_cons_zero, List.set_cons_succ]
      refine' wpAnyH_take (i := 14) (oi := _) (v := _) ?_ (by kernel_rfl) (by kernel_rfl) (by kernel_rfl) ?_ (Or.inl ⟨?_, ?_⟩) (by assumption) ?_
      rotate_left 2
      · (simp only [List.getElem?_toArray, List.getElem?_cons_succ, List.getElem?_cons_zero]; rfl)
      · first | exact fun _ _ _ h => h | exact fun _ _ _ h => nomatch h.1
      · rfl
      · (intro W hSW; (try dsimp only at hSW); go_split_ands; first | (go_simp; done) | (go_simp; with_reducible rfl))
      try simp only [Act.put, List.setIfInBounds_toArray, List.set_cons_zero, List.set_cons_succ]
      refine wpAnyH_done (by kernel_rfl) ?_ _
      go_wp2_with fail
      go_meet
      exact ⟨rfl, r1, hc⟩
  case rest =>
    clear r1 hc
    obtain ⟨rfl, r1, hc⟩ := hcut
    have y0 := r1.cell
    have y1 := r1.lt
    go_wp2_with fail
    clear y0 y1
    refine Calls.mono (C5.out _) ?_
    rintro e w5 ⟨rfl, hb⟩
    replace r1 := r1.on hb
    replace hc := chain hc hb
    clear hb
    have y0 := r1.cell
    have y1 := r1.lt
    go_wp2_with fail
    go_returns
    exact ⟨rfl, by first | exact hc | (rw [← hp1]; exact hc)⟩

set_option maxHeartbeats 8000000 in
set_option maxRecDepth 20000 in
theorem rtext_2_2 (k i g tr nx : Int) (tag O Q A0 A1 B0 B1 B2 B3 C0 C1 E0 E1 D D2 : ByteArray) (w : World)
    (c1 : ∀ w, Ret 13 #[rV k i g 2 2 tr nx tag] w (.int .i64 0))
    (c2 : ∀ w, Ret 43 #[.agg #[.int .i64 k, .int .i64 i, .int .u32 g]] w (.tuple #[.string O, .int .i64 0]))
    (c3 : ∀ w, Ret 44 #[.string tag] w (.tuple #[.string Q, .int .i64 0]))
    (a0 : Cat O spB A0) (a1 : Cat A0 sClos A1) (b0 : Cat A1 spB B0) (b1 : Cat B0 sExpi B1) (b2 : Cat B1 spB B2) (b3 : Cat B2 D B3) (d0 : Cat B3 spB C0) (d1 : Cat C0 D2 C1) (e0 : Cat C1 spB E0) (e1 : Cat E0 Q E1) (c4 : ∀ w, Ret 45 #[.int .i64 tr] w (.string D)) (c5 : ∀ w, Ret 45 #[.int .i64 nx] w (.string D2)) :
    Ret 19 #[rV k i g 2 2 tr nx tag] w (.tuple #[.string E1, .int .i64 0]) := by
  have wl : IntKind.i64.wrap 1 = 1 := by decide
  have C1 := Lib.hid c1
  clear c1
  have C2 := Lib.hid c2
  clear c2
  have C3 := Lib.hid c3
  clear c3
  have C4 := Lib.hid c4
  clear c4
  have C5 := Lib.hid c5
  clear c5
  go_enter Tryz.func19, Tryz.ntmps19
  go_wp2_with fail
  have r1 := Row.new (W := w) (cs := (rC k i g 2 2 tr nx tag)) (t := 28)
  have hc := (Below.refl w.heap.size w).alloc (Nat.le_refl _) (.cells (rC k i g 2 2 tr nx tag) 28)
  generalize w.alloc (.cells (rC k i g 2 2 tr nx tag) 28) = W at *
  generalize hp1 : w.heap.size = p1 at r1
  refine Calls.mono (C1.out _) ?_
  rintro e w1 ⟨rfl, hb⟩
  replace r1 := r1.on hb
  replace hc := chain hc hb
  clear hb
  have y0 := r1.cell
  have y1 := r1.lt
  go_wp2_with fail
  clear y0 y1
  refine Calls.mono (C2.out _) ?_
  rintro e w2 ⟨rfl, hb⟩
  replace r1 := r1.on hb
  replace hc := chain hc hb
  clear hb
  have y0 := r1.cell
  have y1 := r1.lt
  go_wp2_with fail
  clear y0 y1
  refine Calls.mono (C3.out _) ?_
  rintro e w3 ⟨rfl, hb⟩
  replace r1 := r1.on hb
  replace hc := chain hc hb
  clear hb
  have y0 := r1.cell
  have y1 := r1.lt
  go_upto_region 8 with fail
  clear y0 y1
  replace r1 := r1.on (below_alloc w3 (.cells #[.string sLive, .string sClos, .string sRele, .string sQuar] 9))
  replace hc := hc.alloc hc.size (.cells #[.string sLive, .string sClos, .string sRele, .string sQuar] 9)
  generalize w3.alloc (.cells #[.string sLive, .string sClos, .string sRele, .string sQuar] 9) = X0 at *
  go_cut [9] (fun v wx => v = .string B3 ∧ Row wx p1 (rC k i g 2 2 tr nx tag) 28 ∧ Below w.heap.size w wx)
  case first =>
    refine wp_region_held_drew (S := fun W' => (∀ j, W'.cell? ⟨p1, j, none⟩ = (rC k i g 2 2 tr nx tag)[j]?)) (by kernel_rfl) r1.cell (fun hHeld => ?_)
    replace r1 := r1.drew
    replace hc := hc.drew
    generalize X0.drew = X1 at *
    refine' wpAnyH_take (i := 0) (oi := _) (v := _) ?_ (by kernel_rfl) (by kernel_rfl) (by kernel_rfl) ?_ (Or.inl ⟨?_, ?_⟩) (by assumption) ?_
    rotate_left 2
    · (simp only [List.getElem?_toArray, List.getElem?_cons_succ, List.getElem?_cons_zero]; rfl)
    · first | exact fun _ _ _ h => h | exact fun _ _ _ h => nomatch h.1
    · rfl
    · (intro W hSW; (try dsimp only at hSW); go_split_ands; first | (go_simp; done) | (go_simp; with_reducible rfl))
    try simp only [Act.put, List.setIfInBounds_toArray, List.set_cons_zero, List.set_cons_succ]
    refine' wpAnyH_take (i := 1) (oi := _) (v := _) ?_ (by kernel_rfl) (by kernel_rfl) (by kernel_rfl) ?_ (Or.inl ⟨?_, ?_⟩) (by assumption) ?_
    rotate_left 2
    · (simp only [List.getElem?_toArray, List.getElem?_cons_succ, List.getElem?_cons_zero]; rfl)
    · first | exact fun _ _ _ h => h | exact fun _ _ _ h => nomatch h.1
    · rfl
    · (intro W hSW; (try dsimp only at hSW); go_split_ands; first | (go_simp; done) | (go_simp; with_reducible rfl))
    try simp only [Act.put, List.setIfInBounds_toArray, List.set_cons_zero, List.set_cons_succ]
    refine' wpAnyH_take (i := 3) (oi := _) (v := _) ?_ (by kernel_rfl) (by kernel_rfl) (by kernel_rfl) ?_ (Or.inl ⟨?_, ?_⟩) (by assumption) ?_
    rotate_left 2
    · (simp only [List.getElem?_toArray, List.getElem?_cons_succ, List.getElem?_cons_zero]; rfl)
    · first | exact fun _ _ _ h => h | exact fun _ _ _ h => nomatch h.1
    · rfl
    · (intro W hSW; (try dsimp only at hSW); go_split_ands; first | (go_simp; done) | (go_simp; with_reducible rfl))
    try simp only [Act.put, List.setIfInBounds_toArray, List.set_cons_zero, List.set_cons_succ]
    refine' wpAnyH_take (i := 4) (oi := _) (v := _) ?_ (by kernel_rfl) (by kernel_rfl) (by kernel_rfl) ?_ (Or.inl ⟨?_, ?_⟩) (by assumption) ?_
    rotate_left 2
    · (simp only [List.getElem?_toArray, List.getElem?_cons_succ, List.getElem?_cons_zero]; rfl)
    · first | exact fun _ _ _ h => h | exact fun _ _ _ h => nomatch h.1
    · rfl
    · (intro W hSW; (try dsimp only at hSW); go_split_ands; first | (go_simp; done) | (go_simp; with_reducible rfl))
    try simp only [Act.put, List.setIfInBounds_toArray, List.set_cons_zero, List.set_cons_succ]
    refine' wpAnyH_take (i := 5) (oi := _) (v := _) ?_ (by kernel_rfl) (by kernel_rfl) (by kernel_rfl) ?_ (Or.inl ⟨?_, ?_⟩) (by assumption) ?_
    rotate_left 2
    · (simp only [List.getElem?_toArray, List.getElem?_cons_succ, List.getElem?_cons_zero]; rfl)
    · first | exact fun _ _ _ h => h | exact fun _ _ _ h => nomatch h.1
    · rfl
    · (intro W hSW; (try dsimp only at hSW); go_split_ands; first | (go_simp; done) | (go_simp; with_reducible rfl))
    try simp only [Act.put, List.setIfInBounds_toArray, List.set_cons_zero, List.set_cons_succ]
    refine' wpAnyH_take (i := 10) (oi := _) (v := _) ?_ (by kernel_rfl) (by kernel_rfl) (by kernel_rfl) ?_ (Or.inl ⟨?_, ?_⟩) (by assumption) ?_
    rotate_left 2
    · (simp only [List.getElem?_toArray, List.getElem?_cons_succ, List.getElem?_cons_zero]; rfl)
    · first | exact fun _ _ _ h => h | exact fun _ _ _ h => nomatch h.1
    · rfl
    · (intro W hSW; (try dsimp only at hSW); go_split_ands; first | (go_simp; done) | (go_simp; with_reducible rfl))
    try simp only [Act.put, List.setIfInBounds_toArray, List.set_cons_zero, List.set_cons_succ]
    refine' wpAnyH_take (i := 11) (oi := _) (v := _) ?_ (by kernel_rfl) (by kernel_rfl) (by kernel_rfl) ?_ (Or.inl ⟨?_, ?_⟩) (by assumption) ?_
    rotate_left 2
    · (simp only [List.getElem?_toArray, List.getElem?_cons_succ, List.getElem?_cons_zero]; rfl)
    · first | exact fun _ _ _ h => h | exact fun _ _ _ h => nomatch h.1
    · rfl
    · (intro W hSW; (try dsimp only at hSW); go_split_ands; first | (go_simp; done) | (go_simp; with_reducible rfl))
    try simp only [Act.put, List.setIfInBounds_toArray, List.set_cons_zero, List.set_cons_succ]
    clear hHeld
    refine wpAnyH_ready (rs := [2, 12]) (by kernel_rfl) (by simp) ?_
    refine' AllReadyH.cons (o := _) (by simp only [List.getElem?_toArray, List.getElem?_cons_succ, List.getElem?_cons_zero]; rfl) (fun K hK => ?_) (AllReadyH.cons (o := _) (by simp only [List.getElem?_toArray, List.getElem?_cons_succ, List.getElem?_cons_zero]; rfl) (fun K hK => ?_) AllReadyH.nil)
    · go_simp
      have hn := below_alloc X1 (.cells #[.string sClose, .string sExpi, .string sColl] 9)
      have r2 := Row.new (W := X1) (cs := #[.string sClose, .string sExpi, .string sColl]) (t := 9)
      replace r1 := r1.on hn
      replace hc := chain hc hn
      clear hn
      generalize X1.alloc (.cells #[.string sClose, .string sExpi, .string sColl] 9) = X2 at *
      generalize X1.heap.size = a2 at *
      refine hK.out _ _ r1.cell (fun _ => ?_)
      clear hK K
      refine wpAnyH_more (S' := fun W' => (∀ j, W'.cell? ⟨p1, j, none⟩ = (rC k i g 2 2 tr nx tag)[j]?) ∧ (∀ j, W'.cell? ⟨a2, j, none⟩ = (#[.string sClose, .string sExpi, .string sColl] : Array Value)[j]?)) (fun _ h => h.1) ⟨r1.cell, r2.cell⟩ (fun hHeld => ?_)
      refine' wpAnyH_take (i := 6) (oi := _) (v := _) ?_ (by kernel_rfl) (by kernel_rfl) (by kernel_rfl) ?_ (Or.inl ⟨?_, ?_⟩) (by assumption) ?_
      rotate_left 2
      · (simp only [List.getElem?_toArray, List.getElem?_cons_succ, List.getElem?_cons_zero]; rfl)
      · first | exact fun _ _ _ h => h | exact fun _ _ _ h => nomatch h.1
      · rfl
      · (intro W hSW; (try dsimp only at hSW); go_split_ands; first | (go_simp; done) | (go_simp; with_reducible rfl))
      try simp only [Act.put, List.setIfInBounds_toArray, List.set_cons_zero, List.set_cons_succ]
      refine' wpAnyH_take (i := 7) (oi := _) (v := _) ?_ (by kernel_rfl) (by kernel_rfl) (by kernel_rfl) ?_ (Or.inl ⟨?_, ?_⟩) (by assumption) ?_
      rotate_left 2
      · (simp only [List.getElem?_toArray, List.getElem?_cons_succ, List.getElem?_cons_zero]; rfl)
      · first | exact fun _ _ _ h => h | exact fun _ _ _ h => nomatch h.1
      · rfl
      · (intro W hSW; (try dsimp only at hSW); go_split_ands; first | (go_simp; done) | (go_simp; with_reducible rfl))
      try simp only [Act.put, List.setIfInBounds_toArray, List.set_cons_zero, List.set_cons_succ]
      refine' wpAnyH_take (i := 8) (oi := _) (v := _) ?_ (by kernel_rfl) (by kernel_rfl) (by kernel_rfl) ?_ (Or.inl ⟨?_, ?_⟩) (by assumption) ?_
      rotate_left 2
      · (simp only [List.getElem?_toArray, List.getElem?_cons_succ, List.getElem?_cons_zero]; rfl)
      · first | exact fun _ _ _ h => h | exact fun _ _ _ h => nomatch h.1
      · rfl
      · (intro W hSW; (try dsimp only at hSW); go_split_ands; first | (go_simp; done) | (go_simp; with_reducible rfl))
      try simp only [Act.put, List.setIfInBounds_toArray, List.set_cons_zero, List.set_cons_succ]
      refine' wpAnyH_take (i := 9) (oi := _) (v := _) ?_ (by kernel_rfl) (by kernel_rfl) (by kernel_rfl) ?_ (Or.inl ⟨?_, ?_⟩) (by assumption) ?_
      rotate_left 2
      · (simp only [List.getElem?_toArray, List.getElem?_cons_succ, List.getElem?_cons_zero]; rfl)
      · first | exact fun _ _ _ h => h | exact fun _ _ _ h => nomatch h.1
      · rfl
      · (intro W hSW; (try dsimp only at hSW); go_split_ands; first | (go_simp; done) | (go_simp; with_reducible rfl))
      try simp only [Act.put, List.setIfInBounds_toArray, List.set_cons_zero, List.set_cons_succ]
      clear hHeld
      refine wpAnyH_ready (rs := [12]) (by kernel_rfl) (by simp) ?_
      refine' AllReadyH.cons (o := _) (by simp only [List.getElem?_toArray, List.getElem?_cons_succ, List.getElem?_cons_zero]; rfl) (fun K hK => ?_) AllReadyH.nil
      go_simp
      refine Calls.mono (C4.out _) ?_
      rintro e X3 ⟨rfl, hn⟩
      replace r1 := r1.on hn
      replace r2 := r2.on hn
      replace hc := chain hc hn
      clear hn
      go_simp
      refine hK.out _ _ ⟨r1.cell, r2.cell⟩ (fun hHeld => ?_)
      clear hK K
      refine' wpAnyH_take (i := 13) (oi := _) (v := _) ?_ (by kernel_rfl) (by kernel_rfl) (by kernel_rfl) ?_ (Or.inl ⟨?_, ?_⟩) (by assumption) ?_
      rotate_left 2
      · (simp only [List.getElem?_toArray, List.getElem?_cons_succ, List.getElem?_cons_zero]; rfl)
      · first | exact fun _ _ _ h => h | exact fun _ _ _ h => nomatch h.1
      · rfl
      · (intro W hSW; (try dsimp only at hSW); go_split_ands; first | (go_simp; done) | (go_simp; with_reducible rfl))
      try simp only [Act.put, List.setIfInBounds_toArray, List.set_cons_zero, List.set_cons_succ]
      refine' wpAnyH_take (i := 14) (oi := _) (v := _) ?_ (by kernel_rfl) (by kernel_rfl) (by kernel_rfl) ?_ (Or.inl ⟨?_, ?_⟩) (by assumption) ?_
      rotate_left 2
      · (simp only [List.getElem?_toArray, List.getElem?_cons_succ, List.getElem?_cons_zero]; rfl)
      · first | exact fun _ _ _ h => h | exact fun _ _ _ h => nomatch h.1
      · rfl
      · (intro W hSW; (try dsimp only at hSW); go_split_ands; first | (go_simp; done) | (go_simp; with_reducible rfl))
      try simp only [Act.put, List.setIfInBounds_toArray, List.set_cons_zero, List.set_cons_succ]
      refine wpAnyH_done (by kernel_rfl) ?_ _
      go_wp2_with fail
      go_meet
      exact ⟨rfl, r1, hc⟩
    · go_simp
      refine Calls.mono (C4.out _) ?_
      rintro e X3 ⟨rfl, hn⟩
      replace r1 := r1.on hn
      replace hc := chain hc hn
      clear hn
      go_simp
      refine hK.out _ _ r1.cell (fun hHeld => ?_)
      clear hK K hHeld
      refine wpAnyH_ready (rs := [2]) (by kernel_rfl) (by simp) ?_
      refine' AllReadyH.cons (o := _) (by simp only [List.getElem?_toArray, List.getElem?_cons_succ, List.getElem?_cons_zero]; rfl) (fun K hK => ?_) AllReadyH.nil
      go_simp
      have hn := below_alloc X3 (.cells #[.string sClose, .string sExpi, .string sColl] 9)
      have r2 := Row.new (W := X3) (cs := #[.string sClose, .string sExpi, .string sColl]) (t := 9)
      replace r1 := r1.on hn
      replace hc := chain hc hn
      clear hn
      generalize X3.alloc (.cells #[.string sClose, .string sExpi, .string sColl] 9) = X4 at *
      generalize X3.heap.size = a2 at *
      refine hK.out _ _ r1.cell (fun _ => ?_)
      clear hK K
      refine wpAnyH_more (S' := fun W' => (∀ j, W'.cell? ⟨p1, j, none⟩ = (rC k i g 2 2 tr nx tag)[j]?) ∧ (∀ j, W'.cell? ⟨a2, j, none⟩ = (#[.string sClose, .string sExpi, .string sColl] : Array Value)[j]?)) (fun _ h => h.1) ⟨r1.cell, r2.cell⟩ (fun hHeld => ?_)
      refine' wpAnyH_take (i := 6) (oi := _) (v := _) ?_ (by kernel_rfl) (by kernel_rfl) (by kernel_rfl) ?_ (Or.inl ⟨?_, ?_⟩) (by assumption) ?_
      rotate_left 2
      · (simp only [List.getElem?_toArray, List.getElem?_cons_succ, List.getElem?_cons_zero]; rfl)
      · first | exact fun _ _ _ h => h | exact fun _ _ _ h => nomatch h.1
      · rfl
      · (intro W hSW; (try dsimp only at hSW); go_split_ands; first | (go_simp; done) | (go_simp; with_reducible rfl))
      try simp only [Act.put, List.setIfInBounds_toArray, List.set_cons_zero, List.set_cons_succ]
      refine' wpAnyH_take (i := 7) (oi := _) (v := _) ?_ (by kernel_rfl) (by kernel_rfl) (by kernel_rfl) ?_ (Or.inl ⟨?_, ?_⟩) (by assumption) ?_
      rotate_left 2
      · (simp only [List.getElem?_toArray, List.getElem?_cons_succ, List.getElem?_cons_zero]; rfl)
      · first | exact fun _ _ _ h => h | exact fun _ _ _ h => nomatch h.1
      · rfl
      · (intro W hSW; (try dsimp only at hSW); go_split_ands; first | (go_simp; done) | (go_simp; with_reducible rfl))
      try simp only [Act.put, List.setIfInBounds_toArray, List.set_cons_zero, List.set_cons_succ]
      refine' wpAnyH_take (i := 8) (oi := _) (v := _) ?_ (by kernel_rfl) (by kernel_rfl) (by kernel_rfl) ?_ (Or.inl ⟨?_, ?_⟩) (by assumption) ?_
      rotate_left 2
      · (simp only [List.getElem?_toArray, List.getElem?_cons_succ, List.getElem?_cons_zero]; rfl)
      · first | exact fun _ _ _ h => h | exact fun _ _ _ h => nomatch h.1
      · rfl
      · (intro W hSW; (try dsimp only at hSW); go_split_ands; first | (go_simp; done) | (go_simp; with_reducible rfl))
      try simp only [Act.put, List.setIfInBounds_toArray, List.set_cons_zero, List.set_cons_succ]
      refine' wpAnyH_take (i := 9) (oi := _) (v := _) ?_ (by kernel_rfl) (by kernel_rfl) (by kernel_rfl) ?_ (Or.inl ⟨?_, ?_⟩) (by assumption) ?_
      rotate_left 2
      · (simp only [List.getElem?_toArray, List.getElem?_cons_succ, List.getElem?_cons_zero]; rfl)
      · first | exact fun _ _ _ h => h | exact fun _ _ _ h => nomatch h.1
      · rfl
      · (intro W hSW; (try dsimp only at hSW); go_split_ands; first | (go_simp; done) | (go_simp; with_reducible rfl))
      try simp only [Act.put, List.setIfInBounds_toArray, List.set_cons_zero, List.set_cons_succ]
      refine' wpAnyH_take (i := 13) (oi := _) (v := _) ?_ (by kernel_rfl) (by kernel_rfl) (by kernel_rfl) ?_ (Or.inl ⟨?_, ?_⟩) (by assumption) ?_
      rotate_left 2
      · (simp only [List.getElem?_toArray, List.getElem?_cons_succ, List.getElem?_cons_zero]; rfl)
      · first | exact fun _ _ _ h => h | exact fun _ _ _ h => nomatch h.1
      · rfl
      · (intro W hSW; (try dsimp only at hSW); go_split_ands; first | (go_simp; done) | (go_simp; with_reducible rfl))
      try simp only [Act.put, List.setIfInBounds_toArray, List.set_cons_zero, List.set_cons_succ]
      refine' wpAnyH_take (i := 14) (oi := _) (v := _) ?_ (by kernel_rfl) (by kernel_rfl) (by kernel_rfl) ?_ (Or.inl ⟨?_, ?_⟩) (by assumption) ?_
      rotate_left 2
      · (simp only [List.getElem?_toArray, List.getElem?_cons_succ, List.getElem?_cons_zero]; rfl)
      · first | exact fun _ _ _ h => h | exact fun _ _ _ h => nomatch h.1
      · rfl
      · (intro W hSW; (try dsimp only at hSW); go_split_ands; first | (go_simp; done) | (go_simp; with_reducible rfl))
      try simp only [Act.put, List.setIfInBounds_toArray, List.set_cons_zero, List.set_cons_succ]
      refine wpAnyH_done (by kernel_rfl) ?_ _
      go_wp2_with fail
      go_meet
      exact ⟨rfl, r1, hc⟩
  case rest =>
    clear r1 hc
    obtain ⟨rfl, r1, hc⟩ := hcut
    have y0 := r1.cell
    have y1 := r1.lt
    go_wp2_with fail
    clear y0 y1
    refine Calls.mono (C5.out _) ?_
    rintro e w5 ⟨rfl, hb⟩
    replace r1 := r1.on hb
    replace hc := chain hc hb
    clear hb
    have y0 := r1.cell
    have y1 := r1.lt
    go_wp2_with fail
    go_returns
    exact ⟨rfl, by first | exact hc | (rw [← hp1]; exact hc)⟩

set_option maxHeartbeats 8000000 in
set_option maxRecDepth 20000 in
theorem rtext_2_3 (k i g tr nx : Int) (tag O Q A0 A1 B0 B1 B2 B3 C0 C1 E0 E1 D D2 : ByteArray) (w : World)
    (c1 : ∀ w, Ret 13 #[rV k i g 2 3 tr nx tag] w (.int .i64 0))
    (c2 : ∀ w, Ret 43 #[.agg #[.int .i64 k, .int .i64 i, .int .u32 g]] w (.tuple #[.string O, .int .i64 0]))
    (c3 : ∀ w, Ret 44 #[.string tag] w (.tuple #[.string Q, .int .i64 0]))
    (a0 : Cat O spB A0) (a1 : Cat A0 sClos A1) (b0 : Cat A1 spB B0) (b1 : Cat B0 sColl B1) (b2 : Cat B1 spB B2) (b3 : Cat B2 D B3) (d0 : Cat B3 spB C0) (d1 : Cat C0 D2 C1) (e0 : Cat C1 spB E0) (e1 : Cat E0 Q E1) (c4 : ∀ w, Ret 45 #[.int .i64 tr] w (.string D)) (c5 : ∀ w, Ret 45 #[.int .i64 nx] w (.string D2)) :
    Ret 19 #[rV k i g 2 3 tr nx tag] w (.tuple #[.string E1, .int .i64 0]) := by
  have wl : IntKind.i64.wrap 2 = 2 := by decide
  have C1 := Lib.hid c1
  clear c1
  have C2 := Lib.hid c2
  clear c2
  have C3 := Lib.hid c3
  clear c3
  have C4 := Lib.hid c4
  clear c4
  have C5 := Lib.hid c5
  clear c5
  go_enter Tryz.func19, Tryz.ntmps19
  go_wp2_with fail
  have r1 := Row.new (W := w) (cs := (rC k i g 2 3 tr nx tag)) (t := 28)
  have hc := (Below.refl w.heap.size w).alloc (Nat.le_refl _) (.cells (rC k i g 2 3 tr nx tag) 28)
  generalize w.alloc (.cells (rC k i g 2 3 tr nx tag) 28) = W at *
  generalize hp1 : w.heap.size = p1 at r1
  refine Calls.mono (C1.out _) ?_
  rintro e w1 ⟨rfl, hb⟩
  replace r1 := r1.on hb
  replace hc := chain hc hb
  clear hb
  have y0 := r1.cell
  have y1 := r1.lt
  go_wp2_with fail
  clear y0 y1
  refine Calls.mono (C2.out _) ?_
  rintro e w2 ⟨rfl, hb⟩
  replace r1 := r1.on hb
  replace hc := chain hc hb
  clear hb
  have y0 := r1.cell
  have y1 := r1.lt
  go_wp2_with fail
  clear y0 y1
  refine Calls.mono (C3.out _) ?_
  rintro e w3 ⟨rfl, hb⟩
  replace r1 := r1.on hb
  replace hc := chain hc hb
  clear hb
  have y0 := r1.cell
  have y1 := r1.lt
  go_upto_region 8 with fail
  clear y0 y1
  replace r1 := r1.on (below_alloc w3 (.cells #[.string sLive, .string sClos, .string sRele, .string sQuar] 9))
  replace hc := hc.alloc hc.size (.cells #[.string sLive, .string sClos, .string sRele, .string sQuar] 9)
  generalize w3.alloc (.cells #[.string sLive, .string sClos, .string sRele, .string sQuar] 9) = X0 at *
  go_cut [9] (fun v wx => v = .string B3 ∧ Row wx p1 (rC k i g 2 3 tr nx tag) 28 ∧ Below w.heap.size w wx)
  case first =>
    refine wp_region_held_drew (S := fun W' => (∀ j, W'.cell? ⟨p1, j, none⟩ = (rC k i g 2 3 tr nx tag)[j]?)) (by kernel_rfl) r1.cell (fun hHeld => ?_)
    replace r1 := r1.drew
    replace hc := hc.drew
    generalize X0.drew = X1 at *
    refine' wpAnyH_take (i := 0) (oi := _) (v := _) ?_ (by kernel_rfl) (by kernel_rfl) (by kernel_rfl) ?_ (Or.inl ⟨?_, ?_⟩) (by assumption) ?_
    rotate_left 2
    · (simp only [List.getElem?_toArray, List.getElem?_cons_succ, List.getElem?_cons_zero]; rfl)
    · first | exact fun _ _ _ h => h | exact fun _ _ _ h => nomatch h.1
    · rfl
    · (intro W hSW; (try dsimp only at hSW); go_split_ands; first | (go_simp; done) | (go_simp; with_reducible rfl))
    try simp only [Act.put, List.setIfInBounds_toArray, List.set_cons_zero, List.set_cons_succ]
    refine' wpAnyH_take (i := 1) (oi := _) (v := _) ?_ (by kernel_rfl) (by kernel_rfl) (by kernel_rfl) ?_ (Or.inl ⟨?_, ?_⟩) (by assumption) ?_
    rotate_left 2
    · (simp only [List.getElem?_toArray, List.getElem?_cons_succ, List.getElem?_cons_zero]; rfl)
    · first | exact fun _ _ _ h => h | exact fun _ _ _ h => nomatch h.1
    · rfl
    · (intro W hSW; (try dsimp only at hSW); go_split_ands; first | (go_simp; done) | (go_simp; with_reducible rfl))
    try simp only [Act.put, List.setIfInBounds_toArray, List.set_cons_zero, List.set_cons_succ]
    refine' wpAnyH_take (i := 3) (oi := _) (v := _) ?_ (by kernel_rfl) (by kernel_rfl) (by kernel_rfl) ?_ (Or.inl ⟨?_, ?_⟩) (by assumption) ?_
    rotate_left 2
    · (simp only [List.getElem?_toArray, List.getElem?_cons_succ, List.getElem?_cons_zero]; rfl)
    · first | exact fun _ _ _ h => h | exact fun _ _ _ h => nomatch h.1
    · rfl
    · (intro W hSW; (try dsimp only at hSW); go_split_ands; first | (go_simp; done) | (go_simp; with_reducible rfl))
    try simp only [Act.put, List.setIfInBounds_toArray, List.set_cons_zero, List.set_cons_succ]
    refine' wpAnyH_take (i := 4) (oi := _) (v := _) ?_ (by kernel_rfl) (by kernel_rfl) (by kernel_rfl) ?_ (Or.inl ⟨?_, ?_⟩) (by assumption) ?_
    rotate_left 2
    · (simp only [List.getElem?_toArray, List.getElem?_cons_succ, List.getElem?_cons_zero]; rfl)
    · first | exact fun _ _ _ h => h | exact fun _ _ _ h => nomatch h.1
    · rfl
    · (intro W hSW; (try dsimp only at hSW); go_split_ands; first | (go_simp; done) | (go_simp; with_reducible rfl))
    try simp only [Act.put, List.setIfInBounds_toArray, List.set_cons_zero, List.set_cons_succ]
    refine' wpAnyH_take (i := 5) (oi := _) (v := _) ?_ (by kernel_rfl) (by kernel_rfl) (by kernel_rfl) ?_ (Or.inl ⟨?_, ?_⟩) (by assumption) ?_
    rotate_left 2
    · (simp only [List.getElem?_toArray, List.getElem?_cons_succ, List.getElem?_cons_zero]; rfl)
    · first | exact fun _ _ _ h => h | exact fun _ _ _ h => nomatch h.1
    · rfl
    · (intro W hSW; (try dsimp only at hSW); go_split_ands; first | (go_simp; done) | (go_simp; with_reducible rfl))
    try simp only [Act.put, List.setIfInBounds_toArray, List.set_cons_zero, List.set_cons_succ]
    refine' wpAnyH_take (i := 10) (oi := _) (v := _) ?_ (by kernel_rfl) (by kernel_rfl) (by kernel_rfl) ?_ (Or.inl ⟨?_, ?_⟩) (by assumption) ?_
    rotate_left 2
    · (simp only [List.getElem?_toArray, List.getElem?_cons_succ, List.getElem?_cons_zero]; rfl)
    · first | exact fun _ _ _ h => h | exact fun _ _ _ h => nomatch h.1
    · rfl
    · (intro W hSW; (try dsimp only at hSW); go_split_ands; first | (go_simp; done) | (go_simp; with_reducible rfl))
    try simp only [Act.put, List.setIfInBounds_toArray, List.set_cons_zero, List.set_cons_succ]
    refine' wpAnyH_take (i := 11) (oi := _) (v := _) ?_ (by kernel_rfl) (by kernel_rfl) (by kernel_rfl) ?_ (Or.inl ⟨?_, ?_⟩) (by assumption) ?_
    rotate_left 2
    · (simp only [List.getElem?_toArray, List.getElem?_cons_succ, List.getElem?_cons_zero]; rfl)
    · first | exact fun _ _ _ h => h | exact fun _ _ _ h => nomatch h.1
    · rfl
    · (intro W hSW; (try dsimp only at hSW); go_split_ands; first | (go_simp; done) | (go_simp; with_reducible rfl))
    try simp only [Act.put, List.setIfInBounds_toArray, List.set_cons_zero, List.set_cons_succ]
    clear hHeld
    refine wpAnyH_ready (rs := [2, 12]) (by kernel_rfl) (by simp) ?_
    refine' AllReadyH.cons (o := _) (by simp only [List.getElem?_toArray, List.getElem?_cons_succ, List.getElem?_cons_zero]; rfl) (fun K hK => ?_) (AllReadyH.cons (o := _) (by simp only [List.getElem?_toArray, List.getElem?_cons_succ, List.getElem?_cons_zero]; rfl) (fun K hK => ?_) AllReadyH.nil)
    · go_simp
      have hn := below_alloc X1 (.cells #[.string sClose, .string sExpi, .string sColl] 9)
      have r2 := Row.new (W := X1) (cs := #[.string sClose, .string sExpi, .string sColl]) (t := 9)
      replace r1 := r1.on hn
      replace hc := chain hc hn
      clear hn
      generalize X1.alloc (.cells #[.string sClose, .string sExpi, .string sColl] 9) = X2 at *
      generalize X1.heap.size = a2 at *
      refine hK.out _ _ r1.cell (fun _ => ?_)
      clear hK K
      refine wpAnyH_more (S' := fun W' => (∀ j, W'.cell? ⟨p1, j, none⟩ = (rC k i g 2 3 tr nx tag)[j]?) ∧ (∀ j, W'.cell? ⟨a2, j, none⟩ = (#[.string sClose, .string sExpi, .string sColl] : Array Value)[j]?)) (fun _ h => h.1) ⟨r1.cell, r2.cell⟩ (fun hHeld => ?_)
      refine' wpAnyH_take (i := 6) (oi := _) (v := _) ?_ (by kernel_rfl) (by kernel_rfl) (by kernel_rfl) ?_ (Or.inl ⟨?_, ?_⟩) (by assumption) ?_
      rotate_left 2
      · (simp only [List.getElem?_toArray, List.getElem?_cons_succ, List.getElem?_cons_zero]; rfl)
      · first | exact fun _ _ _ h => h | exact fun _ _ _ h => nomatch h.1
      · rfl
      · (intro W hSW; (try dsimp only at hSW); go_split_ands; first | (go_simp; done) | (go_simp; with_reducible rfl))
      try simp only [Act.put, List.setIfInBounds_toArray, List.set_cons_zero, List.set_cons_succ]
      refine' wpAnyH_take (i := 7) (oi := _) (v := _) ?_ (by kernel_rfl) (by kernel_rfl) (by kernel_rfl) ?_ (Or.inl ⟨?_, ?_⟩) (by assumption) ?_
      rotate_left 2
      · (simp only [List.getElem?_toArray, List.getElem?_cons_succ, List.getElem?_cons_zero]; rfl)
      · first | exact fun _ _ _ h => h | exact fun _ _ _ h => nomatch h.1
      · rfl
      · (intro W hSW; (try dsimp only at hSW); go_split_ands; first | (go_simp; done) | (go_simp; with_reducible rfl))
      try simp only [Act.put, List.setIfInBounds_toArray, List.set_cons_zero, List.set_cons_succ]
      refine' wpAnyH_take (i := 8) (oi := _) (v := _) ?_ (by kernel_rfl) (by kernel_rfl) (by kernel_rfl) ?_ (Or.inl ⟨?_, ?_⟩) (by assumption) ?_
      rotate_left 2
      · (simp only [List.getElem?_toArray, List.getElem?_cons_succ, List.getElem?_cons_zero]; rfl)
      · first | exact fun _ _ _ h => h | exact fun _ _ _ h => nomatch h.1
      · rfl
      · (intro W hSW; (try dsimp only at hSW); go_split_ands; first | (go_simp; done) | (go_simp; with_reducible rfl))
      try simp only [Act.put, List.setIfInBounds_toArray, List.set_cons_zero, List.set_cons_succ]
      refine' wpAnyH_take (i := 9) (oi := _) (v := _) ?_ (by kernel_rfl) (by kernel_rfl) (by kernel_rfl) ?_ (Or.inl ⟨?_, ?_⟩) (by assumption) ?_
      rotate_left 2
      · (simp only [List.getElem?_toArray, List.getElem?_cons_succ, List.getElem?_cons_zero]; rfl)
      · first | exact fun _ _ _ h => h | exact fun _ _ _ h => nomatch h.1
      · rfl
      · (intro W hSW; (try dsimp only at hSW); go_split_ands; first | (go_simp; done) | (go_simp; with_reducible rfl))
      try simp only [Act.put, List.setIfInBounds_toArray, List.set_cons_zero, List.set_cons_succ]
      clear hHeld
      refine wpAnyH_ready (rs := [12]) (by kernel_rfl) (by simp) ?_
      refine' AllReadyH.cons (o := _) (by simp only [List.getElem?_toArray, List.getElem?_cons_succ, List.getElem?_cons_zero]; rfl) (fun K hK => ?_) AllReadyH.nil
      go_simp
      refine Calls.mono (C4.out _) ?_
      rintro e X3 ⟨rfl, hn⟩
      replace r1 := r1.on hn
      replace r2 := r2.on hn
      replace hc := chain hc hn
      clear hn
      go_simp
      refine hK.out _ _ ⟨r1.cell, r2.cell⟩ (fun hHeld => ?_)
      clear hK K
      refine' wpAnyH_take (i := 13) (oi := _) (v := _) ?_ (by kernel_rfl) (by kernel_rfl) (by kernel_rfl) ?_ (Or.inl ⟨?_, ?_⟩) (by assumption) ?_
      rotate_left 2
      · (simp only [List.getElem?_toArray, List.getElem?_cons_succ, List.getElem?_cons_zero]; rfl)
      · first | exact fun _ _ _ h => h | exact fun _ _ _ h => nomatch h.1
      · rfl
      · (intro W hSW; (try dsimp only at hSW); go_split_ands; first | (go_simp; done) | (go_simp; with_reducible rfl))
      try simp only [Act.put, List.setIfInBounds_toArray, List.set_cons_zero, List.set_cons_succ]
      refine' wpAnyH_take (i := 14) (oi := _) (v := _) ?_ (by kernel_rfl) (by kernel_rfl) (by kernel_rfl) ?_ (Or.inl ⟨?_, ?_⟩) (by assumption) ?_
      rotate_left 2
      · (simp only [List.getElem?_toArray, List.getElem?_cons_succ, List.getElem?_cons_zero]; rfl)
      · first | exact fun _ _ _ h => h | exact fun _ _ _ h => nomatch h.1
      · rfl
      · (intro W hSW; (try dsimp only at hSW); go_split_ands; first | (go_simp; done) | (go_simp; with_reducible rfl))
      try simp only [Act.put, List.setIfInBounds_toArray, List.set_cons_zero, List.set_cons_succ]
      refine wpAnyH_done (by kernel_rfl) ?_ _
      go_wp2_with fail
      go_meet
      exact ⟨rfl, r1, hc⟩
    · go_simp
      refine Calls.mono (C4.out _) ?_
      rintro e X3 ⟨rfl, hn⟩
      replace r1 := r1.on hn
      replace hc := chain hc hn
      clear hn
      go_simp
      refine hK.out _ _ r1.cell (fun hHeld => ?_)
      clear hK K hHeld
      refine wpAnyH_ready (rs := [2]) (by kernel_rfl) (by simp) ?_
      refine' AllReadyH.cons (o := _) (by simp only [List.getElem?_toArray, List.getElem?_cons_succ, List.getElem?_cons_zero]; rfl) (fun K hK => ?_) AllReadyH.nil
      go_simp
      have hn := below_alloc X3 (.cells #[.string sClose, .string sExpi, .string sColl] 9)
      have r2 := Row.new (W := X3) (cs := #[.string sClose, .string sExpi, .string sColl]) (t := 9)
      replace r1 := r1.on hn
      replace hc := chain hc hn
      clear hn
      generalize X3.alloc (.cells #[.string sClose, .string sExpi, .string sColl] 9) = X4 at *
      generalize X3.heap.size = a2 at *
      refine hK.out _ _ r1.cell (fun _ => ?_)
      clear hK K
      refine wpAnyH_more (S' := fun W' => (∀ j, W'.cell? ⟨p1, j, none⟩ = (rC k i g 2 3 tr nx tag)[j]?) ∧ (∀ j, W'.cell? ⟨a2, j, none⟩ = (#[.string sClose, .string sExpi, .string sColl] : Array Value)[j]?)) (fun _ h => h.1) ⟨r1.cell, r2.cell⟩ (fun hHeld => ?_)
      refine' wpAnyH_take (i := 6) (oi := _) (v := _) ?_ (by kernel_rfl) (by kernel_rfl) (by kernel_rfl) ?_ (Or.inl ⟨?_, ?_⟩) (by assumption) ?_
      rotate_left 2
      · (simp only [List.getElem?_toArray, List.getElem?_cons_succ, List.getElem?_cons_zero]; rfl)
      · first | exact fun _ _ _ h => h | exact fun _ _ _ h => nomatch h.1
      · rfl
      · (intro W hSW; (try dsimp only at hSW); go_split_ands; first | (go_simp; done) | (go_simp; with_reducible rfl))
      try simp only [Act.put, List.setIfInBounds_toArray, List.set_cons_zero, List.set_cons_succ]
      refine' wpAnyH_take (i := 7) (oi := _) (v := _) ?_ (by kernel_rfl) (by kernel_rfl) (by kernel_rfl) ?_ (Or.inl ⟨?_, ?_⟩) (by assumption) ?_
      rotate_left 2
      · (simp only [List.getElem?_toArray, List.getElem?_cons_succ, List.getElem?_cons_zero]; rfl)
      · first | exact fun _ _ _ h => h | exact fun _ _ _ h => nomatch h.1
      · rfl
      · (intro W hSW; (try dsimp only at hSW); go_split_ands; first | (go_simp; done) | (go_simp; with_reducible rfl))
      try simp only [Act.put, List.setIfInBounds_toArray, List.set_cons_zero, List.set_cons_succ]
      refine' wpAnyH_take (i := 8) (oi := _) (v := _) ?_ (by kernel_rfl) (by kernel_rfl) (by kernel_rfl) ?_ (Or.inl ⟨?_, ?_⟩) (by assumption) ?_
      rotate_left 2
      · (simp only [List.getElem?_toArray, List.getElem?_cons_succ, List.getElem?_cons_zero]; rfl)
      · first | exact fun _ _ _ h => h | exact fun _ _ _ h => nomatch h.1
      · rfl
      · (intro W hSW; (try dsimp only at hSW); go_split_ands; first | (go_simp; done) | (go_simp; with_reducible rfl))
      try simp only [Act.put, List.setIfInBounds_toArray, List.set_cons_zero, List.set_cons_succ]
      refine' wpAnyH_take (i := 9) (oi := _) (v := _) ?_ (by kernel_rfl) (by kernel_rfl) (by kernel_rfl) ?_ (Or.inl ⟨?_, ?_⟩) (by assumption) ?_
      rotate_left 2
      · (simp only [List.getElem?_toArray, List.getElem?_cons_succ, List.getElem?_cons_zero]; rfl)
      · first | exact fun _ _ _ h => h | exact fun _ _ _ h => nomatch h.1
      · rfl
      · (intro W hSW; (try dsimp only at hSW); go_split_ands; first | (go_simp; done) | (go_simp; with_reducible rfl))
      try simp only [Act.put, List.setIfInBounds_toArray, List.set_cons_zero, List.set_cons_succ]
      refine' wpAnyH_take (i := 13) (oi := _) (v := _) ?_ (by kernel_rfl) (by kernel_rfl) (by kernel_rfl) ?_ (Or.inl ⟨?_, ?_⟩) (by assumption) ?_
      rotate_left 2
      · (simp only [List.getElem?_toArray, List.getElem?_cons_succ, List.getElem?_cons_zero]; rfl)
      · first | exact fun _ _ _ h => h | exact fun _ _ _ h => nomatch h.1
      · rfl
      · (intro W hSW; (try dsimp only at hSW); go_split_ands; first | (go_simp; done) | (go_simp; with_reducible rfl))
      try simp only [Act.put, List.setIfInBounds_toArray, List.set_cons_zero, List.set_cons_succ]
      refine' wpAnyH_take (i := 14) (oi := _) (v := _) ?_ (by kernel_rfl) (by kernel_rfl) (by kernel_rfl) ?_ (Or.inl ⟨?_, ?_⟩) (by assumption) ?_
      rotate_left 2
      · (simp only [List.getElem?_toArray, List.getElem?_cons_succ, List.getElem?_cons_zero]; rfl)
      · first | exact fun _ _ _ h => h | exact fun _ _ _ h => nomatch h.1
      · rfl
      · (intro W hSW; (try dsimp only at hSW); go_split_ands; first | (go_simp; done) | (go_simp; with_reducible rfl))
      try simp only [Act.put, List.setIfInBounds_toArray, List.set_cons_zero, List.set_cons_succ]
      refine wpAnyH_done (by kernel_rfl) ?_ _
      go_wp2_with fail
      go_meet
      exact ⟨rfl, r1, hc⟩
  case rest =>
    clear r1 hc
    obtain ⟨rfl, r1, hc⟩ := hcut
    have y0 := r1.cell
    have y1 := r1.lt
    go_wp2_with fail
    clear y0 y1
    refine Calls.mono (C5.out _) ?_
    rintro e w5 ⟨rfl, hb⟩
    replace r1 := r1.on hb
    replace hc := chain hc hb
    clear hb
    have y0 := r1.cell
    have y1 := r1.lt
    go_wp2_with fail
    go_returns
    exact ⟨rfl, by first | exact hc | (rw [← hp1]; exact hc)⟩

set_option maxHeartbeats 8000000 in
set_option maxRecDepth 20000 in
theorem rtext_3_1 (k i g tr nx : Int) (tag O Q A0 A1 B0 B1 B2 B3 E0 E1 D : ByteArray) (w : World)
    (c1 : ∀ w, Ret 13 #[rV k i g 3 1 tr nx tag] w (.int .i64 0))
    (c2 : ∀ w, Ret 43 #[.agg #[.int .i64 k, .int .i64 i, .int .u32 g]] w (.tuple #[.string O, .int .i64 0]))
    (c3 : ∀ w, Ret 44 #[.string tag] w (.tuple #[.string Q, .int .i64 0]))
    (a0 : Cat O spB A0) (a1 : Cat A0 sRele A1) (b0 : Cat A1 spB B0) (b1 : Cat B0 sClose B1) (b2 : Cat B1 spB B2) (b3 : Cat B2 D B3) (e0 : Cat B3 spB E0) (e1 : Cat E0 Q E1) (c4 : ∀ w, Ret 45 #[.int .i64 tr] w (.string D)) :
    Ret 19 #[rV k i g 3 1 tr nx tag] w (.tuple #[.string E1, .int .i64 0]) := by
  have wl : IntKind.i64.wrap 0 = 0 := by decide
  have C1 := Lib.hid c1
  clear c1
  have C2 := Lib.hid c2
  clear c2
  have C3 := Lib.hid c3
  clear c3
  have C4 := Lib.hid c4
  clear c4
  go_enter Tryz.func19, Tryz.ntmps19
  go_wp2_with fail
  have r1 := Row.new (W := w) (cs := (rC k i g 3 1 tr nx tag)) (t := 28)
  have hc := (Below.refl w.heap.size w).alloc (Nat.le_refl _) (.cells (rC k i g 3 1 tr nx tag) 28)
  generalize w.alloc (.cells (rC k i g 3 1 tr nx tag) 28) = W at *
  generalize hp1 : w.heap.size = p1 at r1
  refine Calls.mono (C1.out _) ?_
  rintro e w1 ⟨rfl, hb⟩
  replace r1 := r1.on hb
  replace hc := chain hc hb
  clear hb
  have y0 := r1.cell
  have y1 := r1.lt
  go_wp2_with fail
  clear y0 y1
  refine Calls.mono (C2.out _) ?_
  rintro e w2 ⟨rfl, hb⟩
  replace r1 := r1.on hb
  replace hc := chain hc hb
  clear hb
  have y0 := r1.cell
  have y1 := r1.lt
  go_wp2_with fail
  clear y0 y1
  refine Calls.mono (C3.out _) ?_
  rintro e w3 ⟨rfl, hb⟩
  replace r1 := r1.on hb
  replace hc := chain hc hb
  clear hb
  have y0 := r1.cell
  have y1 := r1.lt
  go_upto_region 8 with fail
  clear y0 y1
  replace r1 := r1.on (below_alloc w3 (.cells #[.string sLive, .string sClos, .string sRele, .string sQuar] 9))
  replace hc := hc.alloc hc.size (.cells #[.string sLive, .string sClos, .string sRele, .string sQuar] 9)
  generalize w3.alloc (.cells #[.string sLive, .string sClos, .string sRele, .string sQuar] 9) = X0 at *
  go_cut [9] (fun v wx => v = .string B3 ∧ Row wx p1 (rC k i g 3 1 tr nx tag) 28 ∧ Below w.heap.size w wx)
  case first =>
    refine wp_region_held_drew (S := fun W' => (∀ j, W'.cell? ⟨p1, j, none⟩ = (rC k i g 3 1 tr nx tag)[j]?)) (by kernel_rfl) r1.cell (fun hHeld => ?_)
    replace r1 := r1.drew
    replace hc := hc.drew
    generalize X0.drew = X1 at *
    refine' wpAnyH_take (i := 0) (oi := _) (v := _) ?_ (by kernel_rfl) (by kernel_rfl) (by kernel_rfl) ?_ (Or.inl ⟨?_, ?_⟩) (by assumption) ?_
    rotate_left 2
    · (simp only [List.getElem?_toArray, List.getElem?_cons_succ, List.getElem?_cons_zero]; rfl)
    · first | exact fun _ _ _ h => h | exact fun _ _ _ h => nomatch h.1
    · rfl
    · (intro W hSW; (try dsimp only at hSW); go_split_ands; first | (go_simp; done) | (go_simp; with_reducible rfl))
    try simp only [Act.put, List.setIfInBounds_toArray, List.set_cons_zero, List.set_cons_succ]
    refine' wpAnyH_take (i := 1) (oi := _) (v := _) ?_ (by kernel_rfl) (by kernel_rfl) (by kernel_rfl) ?_ (Or.inl ⟨?_, ?_⟩) (by assumption) ?_
    rotate_left 2
    · (simp only [List.getElem?_toArray, List.getElem?_cons_succ, List.getElem?_cons_zero]; rfl)
    · first | exact fun _ _ _ h => h | exact fun _ _ _ h => nomatch h.1
    · rfl
    · (intro W hSW; (try dsimp only at hSW); go_split_ands; first | (go_simp; done) | (go_simp; with_reducible rfl))
    try simp only [Act.put, List.setIfInBounds_toArray, List.set_cons_zero, List.set_cons_succ]
    refine' wpAnyH_take (i := 3) (oi := _) (v := _) ?_ (by kernel_rfl) (by kernel_rfl) (by kernel_rfl) ?_ (Or.inl ⟨?_, ?_⟩) (by assumption) ?_
    rotate_left 2
    · (simp only [List.getElem?_toArray, List.getElem?_cons_succ, List.getElem?_cons_zero]; rfl)
    · first | exact fun _ _ _ h => h | exact fun _ _ _ h => nomatch h.1
    · rfl
    · (intro W hSW; (try dsimp only at hSW); go_split_ands; first | (go_simp; done) | (go_simp; with_reducible rfl))
    try simp only [Act.put, List.setIfInBounds_toArray, List.set_cons_zero, List.set_cons_succ]
    refine' wpAnyH_take (i := 4) (oi := _) (v := _) ?_ (by kernel_rfl) (by kernel_rfl) (by kernel_rfl) ?_ (Or.inl ⟨?_, ?_⟩) (by assumption) ?_
    rotate_left 2
    · (simp only [List.getElem?_toArray, List.getElem?_cons_succ, List.getElem?_cons_zero]; rfl)
    · first | exact fun _ _ _ h => h | exact fun _ _ _ h => nomatch h.1
    · rfl
    · (intro W hSW; (try dsimp only at hSW); go_split_ands; first | (go_simp; done) | (go_simp; with_reducible rfl))
    try simp only [Act.put, List.setIfInBounds_toArray, List.set_cons_zero, List.set_cons_succ]
    refine' wpAnyH_take (i := 5) (oi := _) (v := _) ?_ (by kernel_rfl) (by kernel_rfl) (by kernel_rfl) ?_ (Or.inl ⟨?_, ?_⟩) (by assumption) ?_
    rotate_left 2
    · (simp only [List.getElem?_toArray, List.getElem?_cons_succ, List.getElem?_cons_zero]; rfl)
    · first | exact fun _ _ _ h => h | exact fun _ _ _ h => nomatch h.1
    · rfl
    · (intro W hSW; (try dsimp only at hSW); go_split_ands; first | (go_simp; done) | (go_simp; with_reducible rfl))
    try simp only [Act.put, List.setIfInBounds_toArray, List.set_cons_zero, List.set_cons_succ]
    refine' wpAnyH_take (i := 10) (oi := _) (v := _) ?_ (by kernel_rfl) (by kernel_rfl) (by kernel_rfl) ?_ (Or.inl ⟨?_, ?_⟩) (by assumption) ?_
    rotate_left 2
    · (simp only [List.getElem?_toArray, List.getElem?_cons_succ, List.getElem?_cons_zero]; rfl)
    · first | exact fun _ _ _ h => h | exact fun _ _ _ h => nomatch h.1
    · rfl
    · (intro W hSW; (try dsimp only at hSW); go_split_ands; first | (go_simp; done) | (go_simp; with_reducible rfl))
    try simp only [Act.put, List.setIfInBounds_toArray, List.set_cons_zero, List.set_cons_succ]
    refine' wpAnyH_take (i := 11) (oi := _) (v := _) ?_ (by kernel_rfl) (by kernel_rfl) (by kernel_rfl) ?_ (Or.inl ⟨?_, ?_⟩) (by assumption) ?_
    rotate_left 2
    · (simp only [List.getElem?_toArray, List.getElem?_cons_succ, List.getElem?_cons_zero]; rfl)
    · first | exact fun _ _ _ h => h | exact fun _ _ _ h => nomatch h.1
    · rfl
    · (intro W hSW; (try dsimp only at hSW); go_split_ands; first | (go_simp; done) | (go_simp; with_reducible rfl))
    try simp only [Act.put, List.setIfInBounds_toArray, List.set_cons_zero, List.set_cons_succ]
    clear hHeld
    refine wpAnyH_ready (rs := [2, 12]) (by kernel_rfl) (by simp) ?_
    refine' AllReadyH.cons (o := _) (by simp only [List.getElem?_toArray, List.getElem?_cons_succ, List.getElem?_cons_zero]; rfl) (fun K hK => ?_) (AllReadyH.cons (o := _) (by simp only [List.getElem?_toArray, List.getElem?_cons_succ, List.getElem?_cons_zero]; rfl) (fun K hK => ?_) AllReadyH.nil)
    · go_simp
      have hn := below_alloc X1 (.cells #[.string sClose, .string sExpi, .string sColl] 9)
      have r2 := Row.new (W := X1) (cs := #[.string sClose, .string sExpi, .string sColl]) (t := 9)
      replace r1 := r1.on hn
      replace hc := chain hc hn
      clear hn
      generalize X1.alloc (.cells #[.string sClose, .string sExpi, .string sColl] 9) = X2 at *
      generalize X1.heap.size = a2 at *
      refine hK.out _ _ r1.cell (fun _ => ?_)
      clear hK K
      refine wpAnyH_more (S' := fun W' => (∀ j, W'.cell? ⟨p1, j, none⟩ = (rC k i g 3 1 tr nx tag)[j]?) ∧ (∀ j, W'.cell? ⟨a2, j, none⟩ = (#[.string sClose, .string sExpi, .string sColl] : Array Value)[j]?)) (fun _ h => h.1) ⟨r1.cell, r2.cell⟩ (fun hHeld => ?_)
      refine' wpAnyH_take (i := 6) (oi := _) (v := _) ?_ (by kernel_rfl) (by kernel_rfl) (by kernel_rfl) ?_ (Or.inl ⟨?_, ?_⟩) (by assumption) ?_
      rotate_left 2
      · (simp only [List.getElem?_toArray, List.getElem?_cons_succ, List.getElem?_cons_zero]; rfl)
      · first | exact fun _ _ _ h => h | exact fun _ _ _ h => nomatch h.1
      · rfl
      · (intro W hSW; (try dsimp only at hSW); go_split_ands; first | (go_simp; done) | (go_simp; with_reducible rfl))
      try simp only [Act.put, List.setIfInBounds_toArray, List.set_cons_zero, List.set_cons_succ]
      refine' wpAnyH_take (i := 7) (oi := _) (v := _) ?_ (by kernel_rfl) (by kernel_rfl) (by kernel_rfl) ?_ (Or.inl ⟨?_, ?_⟩) (by assumption) ?_
      rotate_left 2
      · (simp only [List.getElem?_toArray, List.getElem?_cons_succ, List.getElem?_cons_zero]; rfl)
      · first | exact fun _ _ _ h => h | exact fun _ _ _ h => nomatch h.1
      · rfl
      · (intro W hSW; (try dsimp only at hSW); go_split_ands; first | (go_simp; done) | (go_simp; with_reducible rfl))
      try simp only [Act.put, List.setIfInBounds_toArray, List.set_cons_zero, List.set_cons_succ]
      refine' wpAnyH_take (i := 8) (oi := _) (v := _) ?_ (by kernel_rfl) (by kernel_rfl) (by kernel_rfl) ?_ (Or.inl ⟨?_, ?_⟩) (by assumption) ?_
      rotate_left 2
      · (simp only [List.getElem?_toArray, List.getElem?_cons_succ, List.getElem?_cons_zero]; rfl)
      · first | exact fun _ _ _ h => h | exact fun _ _ _ h => nomatch h.1
      · rfl
      · (intro W hSW; (try dsimp only at hSW); go_split_ands; first | (go_simp; done) | (go_simp; with_reducible rfl))
      try simp only [Act.put, List.setIfInBounds_toArray, List.set_cons_zero, List.set_cons_succ]
      refine' wpAnyH_take (i := 9) (oi := _) (v := _) ?_ (by kernel_rfl) (by kernel_rfl) (by kernel_rfl) ?_ (Or.inl ⟨?_, ?_⟩) (by assumption) ?_
      rotate_left 2
      · (simp only [List.getElem?_toArray, List.getElem?_cons_succ, List.getElem?_cons_zero]; rfl)
      · first | exact fun _ _ _ h => h | exact fun _ _ _ h => nomatch h.1
      · rfl
      · (intro W hSW; (try dsimp only at hSW); go_split_ands; first | (go_simp; done) | (go_simp; with_reducible rfl))
      try simp only [Act.put, List.setIfInBounds_toArray, List.set_cons_zero, List.set_cons_succ]
      clear hHeld
      refine wpAnyH_ready (rs := [12]) (by kernel_rfl) (by simp) ?_
      refine' AllReadyH.cons (o := _) (by simp only [List.getElem?_toArray, List.getElem?_cons_succ, List.getElem?_cons_zero]; rfl) (fun K hK => ?_) AllReadyH.nil
      go_simp
      refine Calls.mono (C4.out _) ?_
      rintro e X3 ⟨rfl, hn⟩
      replace r1 := r1.on hn
      replace r2 := r2.on hn
      replace hc := chain hc hn
      clear hn
      go_simp
      refine hK.out _ _ ⟨r1.cell, r2.cell⟩ (fun hHeld => ?_)
      clear hK K
      refine' wpAnyH_take (i := 13) (oi := _) (v := _) ?_ (by kernel_rfl) (by kernel_rfl) (by kernel_rfl) ?_ (Or.inl ⟨?_, ?_⟩) (by assumption) ?_
      rotate_left 2
      · (simp only [List.getElem?_toArray, List.getElem?_cons_succ, List.getElem?_cons_zero]; rfl)
      · first | exact fun _ _ _ h => h | exact fun _ _ _ h => nomatch h.1
      · rfl
      · (intro W hSW; (try dsimp only at hSW); go_split_ands; first | (go_simp; done) | (go_simp; with_reducible rfl))
      try simp only [Act.put, List.setIfInBounds_toArray, List.set_cons_zero, List.set_cons_succ]
      refine' wpAnyH_take (i := 14) (oi := _) (v := _) ?_ (by kernel_rfl) (by kernel_rfl) (by kernel_rfl) ?_ (Or.inl ⟨?_, ?_⟩) (by assumption) ?_
      rotate_left 2
      · (simp only [List.getElem?_toArray, List.getElem?_cons_succ, List.getElem?_cons_zero]; rfl)
      · first | exact fun _ _ _ h => h | exact fun _ _ _ h => nomatch h.1
      · rfl
      · (intro W hSW; (try dsimp only at hSW); go_split_ands; first | (go_simp; done) | (go_simp; with_reducible rfl))
      try simp only [Act.put, List.setIfInBounds_toArray, List.set_cons_zero, List.set_cons_succ]
      refine wpAnyH_done (by kernel_rfl) ?_ _
      go_wp2_with fail
      go_meet
      exact ⟨rfl, r1, hc⟩
    · go_simp
      refine Calls.mono (C4.out _) ?_
      rintro e X3 ⟨rfl, hn⟩
      replace r1 := r1.on hn
      replace hc := chain hc hn
      clear hn
      go_simp
      refine hK.out _ _ r1.cell (fun hHeld => ?_)
      clear hK K hHeld
      refine wpAnyH_ready (rs := [2]) (by kernel_rfl) (by simp) ?_
      refine' AllReadyH.cons (o := _) (by simp only [List.getElem?_toArray, List.getElem?_cons_succ, List.getElem?_cons_zero]; rfl) (fun K hK => ?_) AllReadyH.nil
      go_simp
      have hn := below_alloc X3 (.cells #[.string sClose, .string sExpi, .string sColl] 9)
      have r2 := Row.new (W := X3) (cs := #[.string sClose, .string sExpi, .string sColl]) (t := 9)
      replace r1 := r1.on hn
      replace hc := chain hc hn
      clear hn
      generalize X3.alloc (.cells #[.string sClose, .string sExpi, .string sColl] 9) = X4 at *
      generalize X3.heap.size = a2 at *
      refine hK.out _ _ r1.cell (fun _ => ?_)
      clear hK K
      refine wpAnyH_more (S' := fun W' => (∀ j, W'.cell? ⟨p1, j, none⟩ = (rC k i g 3 1 tr nx tag)[j]?) ∧ (∀ j, W'.cell? ⟨a2, j, none⟩ = (#[.string sClose, .string sExpi, .string sColl] : Array Value)[j]?)) (fun _ h => h.1) ⟨r1.cell, r2.cell⟩ (fun hHeld => ?_)
      refine' wpAnyH_take (i := 6) (oi := _) (v := _) ?_ (by kernel_rfl) (by kernel_rfl) (by kernel_rfl) ?_ (Or.inl ⟨?_, ?_⟩) (by assumption) ?_
      rotate_left 2
      · (simp only [List.getElem?_toArray, List.getElem?_cons_succ, List.getElem?_cons_zero]; rfl)
      · first | exact fun _ _ _ h => h | exact fun _ _ _ h => nomatch h.1
      · rfl
      · (intro W hSW; (try dsimp only at hSW); go_split_ands; first | (go_simp; done) | (go_simp; with_reducible rfl))
      try simp only [Act.put, List.setIfInBounds_toArray, List.set_cons_zero, List.set_cons_succ]
      refine' wpAnyH_take (i := 7) (oi := _) (v := _) ?_ (by kernel_rfl) (by kernel_rfl) (by kernel_rfl) ?_ (Or.inl ⟨?_, ?_⟩) (by assumption) ?_
      rotate_left 2
      · (simp only [List.getElem?_toArray, List.getElem?_cons_succ, List.getElem?_cons_zero]; rfl)
      · first | exact fun _ _ _ h => h | exact fun _ _ _ h => nomatch h.1
      · rfl
      · (intro W hSW; (try dsimp only at hSW); go_split_ands; first | (go_simp; done) | (go_simp; with_reducible rfl))
      try simp only [Act.put, List.setIfInBounds_toArray, List.set_cons_zero, List.set_cons_succ]
      refine' wpAnyH_take (i := 8) (oi := _) (v := _) ?_ (by kernel_rfl) (by kernel_rfl) (by kernel_rfl) ?_ (Or.inl ⟨?_, ?_⟩) (by assumption) ?_
      rotate_left 2
      · (simp only [List.getElem?_toArray, List.getElem?_cons_succ, List.getElem?_cons_zero]; rfl)
      · first | exact fun _ _ _ h => h | exact fun _ _ _ h => nomatch h.1
      · rfl
      · (intro W hSW; (try dsimp only at hSW); go_split_ands; first | (go_simp; done) | (go_simp; with_reducible rfl))
      try simp only [Act.put, List.setIfInBounds_toArray, List.set_cons_zero, List.set_cons_succ]
      refine' wpAnyH_take (i := 9) (oi := _) (v := _) ?_ (by kernel_rfl) (by kernel_rfl) (by kernel_rfl) ?_ (Or.inl ⟨?_, ?_⟩) (by assumption) ?_
      rotate_left 2
      · (simp only [List.getElem?_toArray, List.getElem?_cons_succ, List.getElem?_cons_zero]; rfl)
      · first | exact fun _ _ _ h => h | exact fun _ _ _ h => nomatch h.1
      · rfl
      · (intro W hSW; (try dsimp only at hSW); go_split_ands; first | (go_simp; done) | (go_simp; with_reducible rfl))
      try simp only [Act.put, List.setIfInBounds_toArray, List.set_cons_zero, List.set_cons_succ]
      refine' wpAnyH_take (i := 13) (oi := _) (v := _) ?_ (by kernel_rfl) (by kernel_rfl) (by kernel_rfl) ?_ (Or.inl ⟨?_, ?_⟩) (by assumption) ?_
      rotate_left 2
      · (simp only [List.getElem?_toArray, List.getElem?_cons_succ, List.getElem?_cons_zero]; rfl)
      · first | exact fun _ _ _ h => h | exact fun _ _ _ h => nomatch h.1
      · rfl
      · (intro W hSW; (try dsimp only at hSW); go_split_ands; first | (go_simp; done) | (go_simp; with_reducible rfl))
      try simp only [Act.put, List.setIfInBounds_toArray, List.set_cons_zero, List.set_cons_succ]
      refine' wpAnyH_take (i := 14) (oi := _) (v := _) ?_ (by kernel_rfl) (by kernel_rfl) (by kernel_rfl) ?_ (Or.inl ⟨?_, ?_⟩) (by assumption) ?_
      rotate_left 2
      · (simp only [List.getElem?_toArray, List.getElem?_cons_succ, List.getElem?_cons_zero]; rfl)
      · first | exact fun _ _ _ h => h | exact fun _ _ _ h => nomatch h.1
      · rfl
      · (intro W hSW; (try dsimp only at hSW); go_split_ands; first | (go_simp; done) | (go_simp; with_reducible rfl))
      try simp only [Act.put, List.setIfInBounds_toArray, List.set_cons_zero, List.set_cons_succ]
      refine wpAnyH_done (by kernel_rfl) ?_ _
      go_wp2_with fail
      go_meet
      exact ⟨rfl, r1, hc⟩
  case rest =>
    clear r1 hc
    obtain ⟨rfl, r1, hc⟩ := hcut
    have y0 := r1.cell
    have y1 := r1.lt
    go_wp2_with fail
    go_returns
    exact ⟨rfl, by first | exact hc | (rw [← hp1]; exact hc)⟩

set_option maxHeartbeats 8000000 in
set_option maxRecDepth 20000 in
theorem rtext_3_2 (k i g tr nx : Int) (tag O Q A0 A1 B0 B1 B2 B3 E0 E1 D : ByteArray) (w : World)
    (c1 : ∀ w, Ret 13 #[rV k i g 3 2 tr nx tag] w (.int .i64 0))
    (c2 : ∀ w, Ret 43 #[.agg #[.int .i64 k, .int .i64 i, .int .u32 g]] w (.tuple #[.string O, .int .i64 0]))
    (c3 : ∀ w, Ret 44 #[.string tag] w (.tuple #[.string Q, .int .i64 0]))
    (a0 : Cat O spB A0) (a1 : Cat A0 sRele A1) (b0 : Cat A1 spB B0) (b1 : Cat B0 sExpi B1) (b2 : Cat B1 spB B2) (b3 : Cat B2 D B3) (e0 : Cat B3 spB E0) (e1 : Cat E0 Q E1) (c4 : ∀ w, Ret 45 #[.int .i64 tr] w (.string D)) :
    Ret 19 #[rV k i g 3 2 tr nx tag] w (.tuple #[.string E1, .int .i64 0]) := by
  have wl : IntKind.i64.wrap 1 = 1 := by decide
  have C1 := Lib.hid c1
  clear c1
  have C2 := Lib.hid c2
  clear c2
  have C3 := Lib.hid c3
  clear c3
  have C4 := Lib.hid c4
  clear c4
  go_enter Tryz.func19, Tryz.ntmps19
  go_wp2_with fail
  have r1 := Row.new (W := w) (cs := (rC k i g 3 2 tr nx tag)) (t := 28)
  have hc := (Below.refl w.heap.size w).alloc (Nat.le_refl _) (.cells (rC k i g 3 2 tr nx tag) 28)
  generalize w.alloc (.cells (rC k i g 3 2 tr nx tag) 28) = W at *
  generalize hp1 : w.heap.size = p1 at r1
  refine Calls.mono (C1.out _) ?_
  rintro e w1 ⟨rfl, hb⟩
  replace r1 := r1.on hb
  replace hc := chain hc hb
  clear hb
  have y0 := r1.cell
  have y1 := r1.lt
  go_wp2_with fail
  clear y0 y1
  refine Calls.mono (C2.out _) ?_
  rintro e w2 ⟨rfl, hb⟩
  replace r1 := r1.on hb
  replace hc := chain hc hb
  clear hb
  have y0 := r1.cell
  have y1 := r1.lt
  go_wp2_with fail
  clear y0 y1
  refine Calls.mono (C3.out _) ?_
  rintro e w3 ⟨rfl, hb⟩
  replace r1 := r1.on hb
  replace hc := chain hc hb
  clear hb
  have y0 := r1.cell
  have y1 := r1.lt
  go_upto_region 8 with fail
  clear y0 y1
  replace r1 := r1.on (below_alloc w3 (.cells #[.string sLive, .string sClos, .string sRele, .string sQuar] 9))
  replace hc := hc.alloc hc.size (.cells #[.string sLive, .string sClos, .string sRele, .string sQuar] 9)
  generalize w3.alloc (.cells #[.string sLive, .string sClos, .string sRele, .string sQuar] 9) = X0 at *
  go_cut [9] (fun v wx => v = .string B3 ∧ Row wx p1 (rC k i g 3 2 tr nx tag) 28 ∧ Below w.heap.size w wx)
  case first =>
    refine wp_region_held_drew (S := fun W' => (∀ j, W'.cell? ⟨p1, j, none⟩ = (rC k i g 3 2 tr nx tag)[j]?)) (by kernel_rfl) r1.cell (fun hHeld => ?_)
    replace r1 := r1.drew
    replace hc := hc.drew
    generalize X0.drew = X1 at *
    refine' wpAnyH_take (i := 0) (oi := _) (v := _) ?_ (by kernel_rfl) (by kernel_rfl) (by kernel_rfl) ?_ (Or.inl ⟨?_, ?_⟩) (by assumption) ?_
    rotate_left 2
    · (simp only [List.getElem?_toArray, List.getElem?_cons_succ, List.getElem?_cons_zero]; rfl)
    · first | exact fun _ _ _ h => h | exact fun _ _ _ h => nomatch h.1
    · rfl
    · (intro W hSW; (try dsimp only at hSW); go_split_ands; first | (go_simp; done) | (go_simp; with_reducible rfl))
    try simp only [Act.put, List.setIfInBounds_toArray, List.set_cons_zero, List.set_cons_succ]
    refine' wpAnyH_take (i := 1) (oi := _) (v := _) ?_ (by kernel_rfl) (by kernel_rfl) (by kernel_rfl) ?_ (Or.inl ⟨?_, ?_⟩) (by assumption) ?_
    rotate_left 2
    · (simp only [List.getElem?_toArray, List.getElem?_cons_succ, List.getElem?_cons_zero]; rfl)
    · first | exact fun _ _ _ h => h | exact fun _ _ _ h => nomatch h.1
    · rfl
    · (intro W hSW; (try dsimp only at hSW); go_split_ands; first | (go_simp; done) | (go_simp; with_reducible rfl))
    try simp only [Act.put, List.setIfInBounds_toArray, List.set_cons_zero, List.set_cons_succ]
    refine' wpAnyH_take (i := 3) (oi := _) (v := _) ?_ (by kernel_rfl) (by kernel_rfl) (by kernel_rfl) ?_ (Or.inl ⟨?_, ?_⟩) (by assumption) ?_
    rotate_left 2
    · (simp only [List.getElem?_toArray, List.getElem?_cons_succ, List.getElem?_cons_zero]; rfl)
    · first | exact fun _ _ _ h => h | exact fun _ _ _ h => nomatch h.1
    · rfl
    · (intro W hSW; (try dsimp only at hSW); go_split_ands; first | (go_simp; done) | (go_simp; with_reducible rfl))
    try simp only [Act.put, List.setIfInBounds_toArray, List.set_cons_zero, List.set_cons_succ]
    refine' wpAnyH_take (i := 4) (oi := _) (v := _) ?_ (by kernel_rfl) (by kernel_rfl) (by kernel_rfl) ?_ (Or.inl ⟨?_, ?_⟩) (by assumption) ?_
    rotate_left 2
    · (simp only [List.getElem?_toArray, List.getElem?_cons_succ, List.getElem?_cons_zero]; rfl)
    · first | exact fun _ _ _ h => h | exact fun _ _ _ h => nomatch h.1
    · rfl
    · (intro W hSW; (try dsimp only at hSW); go_split_ands; first | (go_simp; done) | (go_simp; with_reducible rfl))
    try simp only [Act.put, List.setIfInBounds_toArray, List.set_cons_zero, List.set_cons_succ]
    refine' wpAnyH_take (i := 5) (oi := _) (v := _) ?_ (by kernel_rfl) (by kernel_rfl) (by kernel_rfl) ?_ (Or.inl ⟨?_, ?_⟩) (by assumption) ?_
    rotate_left 2
    · (simp only [List.getElem?_toArray, List.getElem?_cons_succ, List.getElem?_cons_zero]; rfl)
    · first | exact fun _ _ _ h => h | exact fun _ _ _ h => nomatch h.1
    · rfl
    · (intro W hSW; (try dsimp only at hSW); go_split_ands; first | (go_simp; done) | (go_simp; with_reducible rfl))
    try simp only [Act.put, List.setIfInBounds_toArray, List.set_cons_zero, List.set_cons_succ]
    refine' wpAnyH_take (i := 10) (oi := _) (v := _) ?_ (by kernel_rfl) (by kernel_rfl) (by kernel_rfl) ?_ (Or.inl ⟨?_, ?_⟩) (by assumption) ?_
    rotate_left 2
    · (simp only [List.getElem?_toArray, List.getElem?_cons_succ, List.getElem?_cons_zero]; rfl)
    · first | exact fun _ _ _ h => h | exact fun _ _ _ h => nomatch h.1
    · rfl
    · (intro W hSW; (try dsimp only at hSW); go_split_ands; first | (go_simp; done) | (go_simp; with_reducible rfl))
    try simp only [Act.put, List.setIfInBounds_toArray, List.set_cons_zero, List.set_cons_succ]
    refine' wpAnyH_take (i := 11) (oi := _) (v := _) ?_ (by kernel_rfl) (by kernel_rfl) (by kernel_rfl) ?_ (Or.inl ⟨?_, ?_⟩) (by assumption) ?_
    rotate_left 2
    · (simp only [List.getElem?_toArray, List.getElem?_cons_succ, List.getElem?_cons_zero]; rfl)
    · first | exact fun _ _ _ h => h | exact fun _ _ _ h => nomatch h.1
    · rfl
    · (intro W hSW; (try dsimp only at hSW); go_split_ands; first | (go_simp; done) | (go_simp; with_reducible rfl))
    try simp only [Act.put, List.setIfInBounds_toArray, List.set_cons_zero, List.set_cons_succ]
    clear hHeld
    refine wpAnyH_ready (rs := [2, 12]) (by kernel_rfl) (by simp) ?_
    refine' AllReadyH.cons (o := _) (by simp only [List.getElem?_toArray, List.getElem?_cons_succ, List.getElem?_cons_zero]; rfl) (fun K hK => ?_) (AllReadyH.cons (o := _) (by simp only [List.getElem?_toArray, List.getElem?_cons_succ, List.getElem?_cons_zero]; rfl) (fun K hK => ?_) AllReadyH.nil)
    · go_simp
      have hn := below_alloc X1 (.cells #[.string sClose, .string sExpi, .string sColl] 9)
      have r2 := Row.new (W := X1) (cs := #[.string sClose, .string sExpi, .string sColl]) (t := 9)
      replace r1 := r1.on hn
      replace hc := chain hc hn
      clear hn
      generalize X1.alloc (.cells #[.string sClose, .string sExpi, .string sColl] 9) = X2 at *
      generalize X1.heap.size = a2 at *
      refine hK.out _ _ r1.cell (fun _ => ?_)
      clear hK K
      refine wpAnyH_more (S' := fun W' => (∀ j, W'.cell? ⟨p1, j, none⟩ = (rC k i g 3 2 tr nx tag)[j]?) ∧ (∀ j, W'.cell? ⟨a2, j, none⟩ = (#[.string sClose, .string sExpi, .string sColl] : Array Value)[j]?)) (fun _ h => h.1) ⟨r1.cell, r2.cell⟩ (fun hHeld => ?_)
      refine' wpAnyH_take (i := 6) (oi := _) (v := _) ?_ (by kernel_rfl) (by kernel_rfl) (by kernel_rfl) ?_ (Or.inl ⟨?_, ?_⟩) (by assumption) ?_
      rotate_left 2
      · (simp only [List.getElem?_toArray, List.getElem?_cons_succ, List.getElem?_cons_zero]; rfl)
      · first | exact fun _ _ _ h => h | exact fun _ _ _ h => nomatch h.1
      · rfl
      · (intro W hSW; (try dsimp only at hSW); go_split_ands; first | (go_simp; done) | (go_simp; with_reducible rfl))
      try simp only [Act.put, List.setIfInBounds_toArray, List.set_cons_zero, List.set_cons_succ]
      refine' wpAnyH_take (i := 7) (oi := _) (v := _) ?_ (by kernel_rfl) (by kernel_rfl) (by kernel_rfl) ?_ (Or.inl ⟨?_, ?_⟩) (by assumption) ?_
      rotate_left 2
      · (simp only [List.getElem?_toArray, List.getElem?_cons_succ, List.getElem?_cons_zero]; rfl)
      · first | exact fun _ _ _ h => h | exact fun _ _ _ h => nomatch h.1
      · rfl
      · (intro W hSW; (try dsimp only at hSW); go_split_ands; first | (go_simp; done) | (go_simp; with_reducible rfl))
      try simp only [Act.put, List.setIfInBounds_toArray, List.set_cons_zero, List.set_cons_succ]
      refine' wpAnyH_take (i := 8) (oi := _) (v := _) ?_ (by kernel_rfl) (by kernel_rfl) (by kernel_rfl) ?_ (Or.inl ⟨?_, ?_⟩) (by assumption) ?_
      rotate_left 2
      · (simp only [List.getElem?_toArray, List.getElem?_cons_succ, List.getElem?_cons_zero]; rfl)
      · first | exact fun _ _ _ h => h | exact fun _ _ _ h => nomatch h.1
      · rfl
      · (intro W hSW; (try dsimp only at hSW); go_split_ands; first | (go_simp; done) | (go_simp; with_reducible rfl))
      try simp only [Act.put, List.setIfInBounds_toArray, List.set_cons_zero, List.set_cons_succ]
      refine' wpAnyH_take (i := 9) (oi := _) (v := _) ?_ (by kernel_rfl) (by kernel_rfl) (by kernel_rfl) ?_ (Or.inl ⟨?_, ?_⟩) (by assumption) ?_
      rotate_left 2
      · (simp only [List.getElem?_toArray, List.getElem?_cons_succ, List.getElem?_cons_zero]; rfl)
      · first | exact fun _ _ _ h => h | exact fun _ _ _ h => nomatch h.1
      · rfl
      · (intro W hSW; (try dsimp only at hSW); go_split_ands; first | (go_simp; done) | (go_simp; with_reducible rfl))
      try simp only [Act.put, List.setIfInBounds_toArray, List.set_cons_zero, List.set_cons_succ]
      clear hHeld
      refine wpAnyH_ready (rs := [12]) (by kernel_rfl) (by simp) ?_
      refine' AllReadyH.cons (o := _) (by simp only [List.getElem?_toArray, List.getElem?_cons_succ, List.getElem?_cons_zero]; rfl) (fun K hK => ?_) AllReadyH.nil
      go_simp
      refine Calls.mono (C4.out _) ?_
      rintro e X3 ⟨rfl, hn⟩
      replace r1 := r1.on hn
      replace r2 := r2.on hn
      replace hc := chain hc hn
      clear hn
      go_simp
      refine hK.out _ _ ⟨r1.cell, r2.cell⟩ (fun hHeld => ?_)
      clear hK K
      refine' wpAnyH_take (i := 13) (oi := _) (v := _) ?_ (by kernel_rfl) (by kernel_rfl) (by kernel_rfl) ?_ (Or.inl ⟨?_, ?_⟩) (by assumption) ?_
      rotate_left 2
      · (simp only [List.getElem?_toArray, List.getElem?_cons_succ, List.getElem?_cons_zero]; rfl)
      · first | exact fun _ _ _ h => h | exact fun _ _ _ h => nomatch h.1
      · rfl
      · (intro W hSW; (try dsimp only at hSW); go_split_ands; first | (go_simp; done) | (go_simp; with_reducible rfl))
      try simp only [Act.put, List.setIfInBounds_toArray, List.set_cons_zero, List.set_cons_succ]
      refine' wpAnyH_take (i := 14) (oi := _) (v := _) ?_ (by kernel_rfl) (by kernel_rfl) (by kernel_rfl) ?_ (Or.inl ⟨?_, ?_⟩) (by assumption) ?_
      rotate_left 2
      · (simp only [List.getElem?_toArray, List.getElem?_cons_succ, List.getElem?_cons_zero]; rfl)
      · first | exact fun _ _ _ h => h | exact fun _ _ _ h => nomatch h.1
      · rfl
      · (intro W hSW; (try dsimp only at hSW); go_split_ands; first | (go_simp; done) | (go_simp; with_reducible rfl))
      try simp only [Act.put, List.setIfInBounds_toArray, List.set_cons_zero, List.set_cons_succ]
      refine wpAnyH_done (by kernel_rfl) ?_ _
      go_wp2_with fail
      go_meet
      exact ⟨rfl, r1, hc⟩
    · go_simp
      refine Calls.mono (C4.out _) ?_
      rintro e X3 ⟨rfl, hn⟩
      replace r1 := r1.on hn
      replace hc := chain hc hn
      clear hn
      go_simp
      refine hK.out _ _ r1.cell (fun hHeld => ?_)
      clear hK K hHeld
      refine wpAnyH_ready (rs := [2]) (by kernel_rfl) (by simp) ?_
      refine' AllReadyH.cons (o := _) (by simp only [List.getElem?_toArray, List.getElem?_cons_succ, List.getElem?_cons_zero]; rfl) (fun K hK => ?_) AllReadyH.nil
      go_simp
      have hn := below_alloc X3 (.cells #[.string sClose, .string sExpi, .string sColl] 9)
      have r2 := Row.new (W := X3) (cs := #[.string sClose, .string sExpi, .string sColl]) (t := 9)
      replace r1 := r1.on hn
      replace hc := chain hc hn
      clear hn
      generalize X3.alloc (.cells #[.string sClose, .string sExpi, .string sColl] 9) = X4 at *
      generalize X3.heap.size = a2 at *
      refine hK.out _ _ r1.cell (fun _ => ?_)
      clear hK K
      refine wpAnyH_more (S' := fun W' => (∀ j, W'.cell? ⟨p1, j, none⟩ = (rC k i g 3 2 tr nx tag)[j]?) ∧ (∀ j, W'.cell? ⟨a2, j, none⟩ = (#[.string sClose, .string sExpi, .string sColl] : Array Value)[j]?)) (fun _ h => h.1) ⟨r1.cell, r2.cell⟩ (fun hHeld => ?_)
      refine' wpAnyH_take (i := 6) (oi := _) (v := _) ?_ (by kernel_rfl) (by kernel_rfl) (by kernel_rfl) ?_ (Or.inl ⟨?_, ?_⟩) (by assumption) ?_
      rotate_left 2
      · (simp only [List.getElem?_toArray, List.getElem?_cons_succ, List.getElem?_cons_zero]; rfl)
      · first | exact fun _ _ _ h => h | exact fun _ _ _ h => nomatch h.1
      · rfl
      · (intro W hSW; (try dsimp only at hSW); go_split_ands; first | (go_simp; done) | (go_simp; with_reducible rfl))
      try simp only [Act.put, List.setIfInBounds_toArray, List.set_cons_zero, List.set_cons_succ]
      refine' wpAnyH_take (i := 7) (oi := _) (v := _) ?_ (by kernel_rfl) (by kernel_rfl) (by kernel_rfl) ?_ (Or.inl ⟨?_, ?_⟩) (by assumption) ?_
      rotate_left 2
      · (simp only [List.getElem?_toArray, List.getElem?_cons_succ, List.getElem?_cons_zero]; rfl)
      · first | exact fun _ _ _ h => h | exact fun _ _ _ h => nomatch h.1
      · rfl
      · (intro W hSW; (try dsimp only at hSW); go_split_ands; first | (go_simp; done) | (go_simp; with_reducible rfl))
      try simp only [Act.put, List.setIfInBounds_toArray, List.set_cons_zero, List.set_cons_succ]
      refine' wpAnyH_take (i := 8) (oi := _) (v := _) ?_ (by kernel_rfl) (by kernel_rfl) (by kernel_rfl) ?_ (Or.inl ⟨?_, ?_⟩) (by assumption) ?_
      rotate_left 2
      · (simp only [List.getElem?_toArray, List.getElem?_cons_succ, List.getElem?_cons_zero]; rfl)
      · first | exact fun _ _ _ h => h | exact fun _ _ _ h => nomatch h.1
      · rfl
      · (intro W hSW; (try dsimp only at hSW); go_split_ands; first | (go_simp; done) | (go_simp; with_reducible rfl))
      try simp only [Act.put, List.setIfInBounds_toArray, List.set_cons_zero, List.set_cons_succ]
      refine' wpAnyH_take (i := 9) (oi := _) (v := _) ?_ (by kernel_rfl) (by kernel_rfl) (by kernel_rfl) ?_ (Or.inl ⟨?_, ?_⟩) (by assumption) ?_
      rotate_left 2
      · (simp only [List.getElem?_toArray, List.getElem?_cons_succ, List.getElem?_cons_zero]; rfl)
      · first | exact fun _ _ _ h => h | exact fun _ _ _ h => nomatch h.1
      · rfl
      · (intro W hSW; (try dsimp only at hSW); go_split_ands; first | (go_simp; done) | (go_simp; with_reducible rfl))
      try simp only [Act.put, List.setIfInBounds_toArray, List.set_cons_zero, List.set_cons_succ]
      refine' wpAnyH_take (i := 13) (oi := _) (v := _) ?_ (by kernel_rfl) (by kernel_rfl) (by kernel_rfl) ?_ (Or.inl ⟨?_, ?_⟩) (by assumption) ?_
      rotate_left 2
      · (simp only [List.getElem?_toArray, List.getElem?_cons_succ, List.getElem?_cons_zero]; rfl)
      · first | exact fun _ _ _ h => h | exact fun _ _ _ h => nomatch h.1
      · rfl
      · (intro W hSW; (try dsimp only at hSW); go_split_ands; first | (go_simp; done) | (go_simp; with_reducible rfl))
      try simp only [Act.put, List.setIfInBounds_toArray, List.set_cons_zero, List.set_cons_succ]
      refine' wpAnyH_take (i := 14) (oi := _) (v := _) ?_ (by kernel_rfl) (by kernel_rfl) (by kernel_rfl) ?_ (Or.inl ⟨?_, ?_⟩) (by assumption) ?_
      rotate_left 2
      · (simp only [List.getElem?_toArray, List.getElem?_cons_succ, List.getElem?_cons_zero]; rfl)
      · first | exact fun _ _ _ h => h | exact fun _ _ _ h => nomatch h.1
      · rfl
      · (intro W hSW; (try dsimp only at hSW); go_split_ands; first | (go_simp; done) | (go_simp; with_reducible rfl))
      try simp only [Act.put, List.setIfInBounds_toArray, List.set_cons_zero, List.set_cons_succ]
      refine wpAnyH_done (by kernel_rfl) ?_ _
      go_wp2_with fail
      go_meet
      exact ⟨rfl, r1, hc⟩
  case rest =>
    clear r1 hc
    obtain ⟨rfl, r1, hc⟩ := hcut
    have y0 := r1.cell
    have y1 := r1.lt
    go_wp2_with fail
    go_returns
    exact ⟨rfl, by first | exact hc | (rw [← hp1]; exact hc)⟩

set_option maxHeartbeats 8000000 in
set_option maxRecDepth 20000 in
theorem rtext_3_3 (k i g tr nx : Int) (tag O Q A0 A1 B0 B1 B2 B3 E0 E1 D : ByteArray) (w : World)
    (c1 : ∀ w, Ret 13 #[rV k i g 3 3 tr nx tag] w (.int .i64 0))
    (c2 : ∀ w, Ret 43 #[.agg #[.int .i64 k, .int .i64 i, .int .u32 g]] w (.tuple #[.string O, .int .i64 0]))
    (c3 : ∀ w, Ret 44 #[.string tag] w (.tuple #[.string Q, .int .i64 0]))
    (a0 : Cat O spB A0) (a1 : Cat A0 sRele A1) (b0 : Cat A1 spB B0) (b1 : Cat B0 sColl B1) (b2 : Cat B1 spB B2) (b3 : Cat B2 D B3) (e0 : Cat B3 spB E0) (e1 : Cat E0 Q E1) (c4 : ∀ w, Ret 45 #[.int .i64 tr] w (.string D)) :
    Ret 19 #[rV k i g 3 3 tr nx tag] w (.tuple #[.string E1, .int .i64 0]) := by
  have wl : IntKind.i64.wrap 2 = 2 := by decide
  have C1 := Lib.hid c1
  clear c1
  have C2 := Lib.hid c2
  clear c2
  have C3 := Lib.hid c3
  clear c3
  have C4 := Lib.hid c4
  clear c4
  go_enter Tryz.func19, Tryz.ntmps19
  go_wp2_with fail
  have r1 := Row.new (W := w) (cs := (rC k i g 3 3 tr nx tag)) (t := 28)
  have hc := (Below.refl w.heap.size w).alloc (Nat.le_refl _) (.cells (rC k i g 3 3 tr nx tag) 28)
  generalize w.alloc (.cells (rC k i g 3 3 tr nx tag) 28) = W at *
  generalize hp1 : w.heap.size = p1 at r1
  refine Calls.mono (C1.out _) ?_
  rintro e w1 ⟨rfl, hb⟩
  replace r1 := r1.on hb
  replace hc := chain hc hb
  clear hb
  have y0 := r1.cell
  have y1 := r1.lt
  go_wp2_with fail
  clear y0 y1
  refine Calls.mono (C2.out _) ?_
  rintro e w2 ⟨rfl, hb⟩
  replace r1 := r1.on hb
  replace hc := chain hc hb
  clear hb
  have y0 := r1.cell
  have y1 := r1.lt
  go_wp2_with fail
  clear y0 y1
  refine Calls.mono (C3.out _) ?_
  rintro e w3 ⟨rfl, hb⟩
  replace r1 := r1.on hb
  replace hc := chain hc hb
  clear hb
  have y0 := r1.cell
  have y1 := r1.lt
  go_upto_region 8 with fail
  clear y0 y1
  replace r1 := r1.on (below_alloc w3 (.cells #[.string sLive, .string sClos, .string sRele, .string sQuar] 9))
  replace hc := hc.alloc hc.size (.cells #[.string sLive, .string sClos, .string sRele, .string sQuar] 9)
  generalize w3.alloc (.cells #[.string sLive, .string sClos, .string sRele, .string sQuar] 9) = X0 at *
  go_cut [9] (fun v wx => v = .string B3 ∧ Row wx p1 (rC k i g 3 3 tr nx tag) 28 ∧ Below w.heap.size w wx)
  case first =>
    refine wp_region_held_drew (S := fun W' => (∀ j, W'.cell? ⟨p1, j, none⟩ = (rC k i g 3 3 tr nx tag)[j]?)) (by kernel_rfl) r1.cell (fun hHeld => ?_)
    replace r1 := r1.drew
    replace hc := hc.drew
    generalize X0.drew = X1 at *
    refine' wpAnyH_take (i := 0) (oi := _) (v := _) ?_ (by kernel_rfl) (by kernel_rfl) (by kernel_rfl) ?_ (Or.inl ⟨?_, ?_⟩) (by assumption) ?_
    rotate_left 2
    · (simp only [List.getElem?_toArray, List.getElem?_cons_succ, List.getElem?_cons_zero]; rfl)
    · first | exact fun _ _ _ h => h | exact fun _ _ _ h => nomatch h.1
    · rfl
    · (intro W hSW; (try dsimp only at hSW); go_split_ands; first | (go_simp; done) | (go_simp; with_reducible rfl))
    try simp only [Act.put, List.setIfInBounds_toArray, List.set_cons_zero, List.set_cons_succ]
    refine' wpAnyH_take (i := 1) (oi := _) (v := _) ?_ (by kernel_rfl) (by kernel_rfl) (by kernel_rfl) ?_ (Or.inl ⟨?_, ?_⟩) (by assumption) ?_
    rotate_left 2
    · (simp only [List.getElem?_toArray, List.getElem?_cons_succ, List.getElem?_cons_zero]; rfl)
    · first | exact fun _ _ _ h => h | exact fun _ _ _ h => nomatch h.1
    · rfl
    · (intro W hSW; (try dsimp only at hSW); go_split_ands; first | (go_simp; done) | (go_simp; with_reducible rfl))
    try simp only [Act.put, List.setIfInBounds_toArray, List.set_cons_zero, List.set_cons_succ]
    refine' wpAnyH_take (i := 3) (oi := _) (v := _) ?_ (by kernel_rfl) (by kernel_rfl) (by kernel_rfl) ?_ (Or.inl ⟨?_, ?_⟩) (by assumption) ?_
    rotate_left 2
    · (simp only [List.getElem?_toArray, List.getElem?_cons_succ, List.getElem?_cons_zero]; rfl)
    · first | exact fun _ _ _ h => h | exact fun _ _ _ h => nomatch h.1
    · rfl
    · (intro W hSW; (try dsimp only at hSW); go_split_ands; first | (go_simp; done) | (go_simp; with_reducible rfl))
    try simp only [Act.put, List.setIfInBounds_toArray, List.set_cons_zero, List.set_cons_succ]
    refine' wpAnyH_take (i := 4) (oi := _) (v := _) ?_ (by kernel_rfl) (by kernel_rfl) (by kernel_rfl) ?_ (Or.inl ⟨?_, ?_⟩) (by assumption) ?_
    rotate_left 2
    · (simp only [List.getElem?_toArray, List.getElem?_cons_succ, List.getElem?_cons_zero]; rfl)
    · first | exact fun _ _ _ h => h | exact fun _ _ _ h => nomatch h.1
    · rfl
    · (intro W hSW; (try dsimp only at hSW); go_split_ands; first | (go_simp; done) | (go_simp; with_reducible rfl))
    try simp only [Act.put, List.setIfInBounds_toArray, List.set_cons_zero, List.set_cons_succ]
    refine' wpAnyH_take (i := 5) (oi := _) (v := _) ?_ (by kernel_rfl) (by kernel_rfl) (by kernel_rfl) ?_ (Or.inl ⟨?_, ?_⟩) (by assumption) ?_
    rotate_left 2
    · (simp only [List.getElem?_toArray, List.getElem?_cons_succ, List.getElem?_cons_zero]; rfl)
    · first | exact fun _ _ _ h => h | exact fun _ _ _ h => nomatch h.1
    · rfl
    · (intro W hSW; (try dsimp only at hSW); go_split_ands; first | (go_simp; done) | (go_simp; with_reducible rfl))
    try simp only [Act.put, List.setIfInBounds_toArray, List.set_cons_zero, List.set_cons_succ]
    refine' wpAnyH_take (i := 10) (oi := _) (v := _) ?_ (by kernel_rfl) (by kernel_rfl) (by kernel_rfl) ?_ (Or.inl ⟨?_, ?_⟩) (by assumption) ?_
    rotate_left 2
    · (simp only [List.getElem?_toArray, List.getElem?_cons_succ, List.getElem?_cons_zero]; rfl)
    · first | exact fun _ _ _ h => h | exact fun _ _ _ h => nomatch h.1
    · rfl
    · (intro W hSW; (try dsimp only at hSW); go_split_ands; first | (go_simp; done) | (go_simp; with_reducible rfl))
    try simp only [Act.put, List.setIfInBounds_toArray, List.set_cons_zero, List.set_cons_succ]
    refine' wpAnyH_take (i := 11) (oi := _) (v := _) ?_ (by kernel_rfl) (by kernel_rfl) (by kernel_rfl) ?_ (Or.inl ⟨?_, ?_⟩) (by assumption) ?_
    rotate_left 2
    · (simp only [List.getElem?_toArray, List.getElem?_cons_succ, List.getElem?_cons_zero]; rfl)
    · first | exact fun _ _ _ h => h | exact fun _ _ _ h => nomatch h.1
    · rfl
    · (intro W hSW; (try dsimp only at hSW); go_split_ands; first | (go_simp; done) | (go_simp; with_reducible rfl))
    try simp only [Act.put, List.setIfInBounds_toArray, List.set_cons_zero, List.set_cons_succ]
    clear hHeld
    refine wpAnyH_ready (rs := [2, 12]) (by kernel_rfl) (by simp) ?_
    refine' AllReadyH.cons (o := _) (by simp only [List.getElem?_toArray, List.getElem?_cons_succ, List.getElem?_cons_zero]; rfl) (fun K hK => ?_) (AllReadyH.cons (o := _) (by simp only [List.getElem?_toArray, List.getElem?_cons_succ, List.getElem?_cons_zero]; rfl) (fun K hK => ?_) AllReadyH.nil)
    · go_simp
      have hn := below_alloc X1 (.cells #[.string sClose, .string sExpi, .string sColl] 9)
      have r2 := Row.new (W := X1) (cs := #[.string sClose, .string sExpi, .string sColl]) (t := 9)
      replace r1 := r1.on hn
      replace hc := chain hc hn
      clear hn
      generalize X1.alloc (.cells #[.string sClose, .string sExpi, .string sColl] 9) = X2 at *
      generalize X1.heap.size = a2 at *
      refine hK.out _ _ r1.cell (fun _ => ?_)
      clear hK K
      refine wpAnyH_more (S' := fun W' => (∀ j, W'.cell? ⟨p1, j, none⟩ = (rC k i g 3 3 tr nx tag)[j]?) ∧ (∀ j, W'.cell? ⟨a2, j, none⟩ = (#[.string sClose, .string sExpi, .string sColl] : Array Value)[j]?)) (fun _ h => h.1) ⟨r1.cell, r2.cell⟩ (fun hHeld => ?_)
      refine' wpAnyH_take (i := 6) (oi := _) (v := _) ?_ (by kernel_rfl) (by kernel_rfl) (by kernel_rfl) ?_ (Or.inl ⟨?_, ?_⟩) (by assumption) ?_
      rotate_left 2
      · (simp only [List.getElem?_toArray, List.getElem?_cons_succ, List.getElem?_cons_zero]; rfl)
      · first | exact fun _ _ _ h => h | exact fun _ _ _ h => nomatch h.1
      · rfl
      · (intro W hSW; (try dsimp only at hSW); go_split_ands; first | (go_simp; done) | (go_simp; with_reducible rfl))
      try simp only [Act.put, List.setIfInBounds_toArray, List.set_cons_zero, List.set_cons_succ]
      refine' wpAnyH_take (i := 7) (oi := _) (v := _) ?_ (by kernel_rfl) (by kernel_rfl) (by kernel_rfl) ?_ (Or.inl ⟨?_, ?_⟩) (by assumption) ?_
      rotate_left 2
      · (simp only [List.getElem?_toArray, List.getElem?_cons_succ, List.getElem?_cons_zero]; rfl)
      · first | exact fun _ _ _ h => h | exact fun _ _ _ h => nomatch h.1
      · rfl
      · (intro W hSW; (try dsimp only at hSW); go_split_ands; first | (go_simp; done) | (go_simp; with_reducible rfl))
      try simp only [Act.put, List.setIfInBounds_toArray, List.set_cons_zero, List.set_cons_succ]
      refine' wpAnyH_take (i := 8) (oi := _) (v := _) ?_ (by kernel_rfl) (by kernel_rfl) (by kernel_rfl) ?_ (Or.inl ⟨?_, ?_⟩) (by assumption) ?_
      rotate_left 2
      · (simp only [List.getElem?_toArray, List.getElem?_cons_succ, List.getElem?_cons_zero]; rfl)
      · first | exact fun _ _ _ h => h | exact fun _ _ _ h => nomatch h.1
      · rfl
      · (intro W hSW; (try dsimp only at hSW); go_split_ands; first | (go_simp; done) | (go_simp; with_reducible rfl))
      try simp only [Act.put, List.setIfInBounds_toArray, List.set_cons_zero, List.set_cons_succ]
      refine' wpAnyH_take (i := 9) (oi := _) (v := _) ?_ (by kernel_rfl) (by kernel_rfl) (by kernel_rfl) ?_ (Or.inl ⟨?_, ?_⟩) (by assumption) ?_
      rotate_left 2
      · (simp only [List.getElem?_toArray, List.getElem?_cons_succ, List.getElem?_cons_zero]; rfl)
      · first | exact fun _ _ _ h => h | exact fun _ _ _ h => nomatch h.1
      · rfl
      · (intro W hSW; (try dsimp only at hSW); go_split_ands; first | (go_simp; done) | (go_simp; with_reducible rfl))
      try simp only [Act.put, List.setIfInBounds_toArray, List.set_cons_zero, List.set_cons_succ]
      clear hHeld
      refine wpAnyH_ready (rs := [12]) (by kernel_rfl) (by simp) ?_
      refine' AllReadyH.cons (o := _) (by simp only [List.getElem?_toArray, List.getElem?_cons_succ, List.getElem?_cons_zero]; rfl) (fun K hK => ?_) AllReadyH.nil
      go_simp
      refine Calls.mono (C4.out _) ?_
      rintro e X3 ⟨rfl, hn⟩
      replace r1 := r1.on hn
      replace r2 := r2.on hn
      replace hc := chain hc hn
      clear hn
      go_simp
      refine hK.out _ _ ⟨r1.cell, r2.cell⟩ (fun hHeld => ?_)
      clear hK K
      refine' wpAnyH_take (i := 13) (oi := _) (v := _) ?_ (by kernel_rfl) (by kernel_rfl) (by kernel_rfl) ?_ (Or.inl ⟨?_, ?_⟩) (by assumption) ?_
      rotate_left 2
      · (simp only [List.getElem?_toArray, List.getElem?_cons_succ, List.getElem?_cons_zero]; rfl)
      · first | exact fun _ _ _ h => h | exact fun _ _ _ h => nomatch h.1
      · rfl
      · (intro W hSW; (try dsimp only at hSW); go_split_ands; first | (go_simp; done) | (go_simp; with_reducible rfl))
      try simp only [Act.put, List.setIfInBounds_toArray, List.set_cons_zero, List.set_cons_succ]
      refine' wpAnyH_take (i := 14) (oi := _) (v := _) ?_ (by kernel_rfl) (by kernel_rfl) (by kernel_rfl) ?_ (Or.inl ⟨?_, ?_⟩) (by assumption) ?_
      rotate_left 2
      · (simp only [List.getElem?_toArray, List.getElem?_cons_succ, List.getElem?_cons_zero]; rfl)
      · first | exact fun _ _ _ h => h | exact fun _ _ _ h => nomatch h.1
      · rfl
      · (intro W hSW; (try dsimp only at hSW); go_split_ands; first | (go_simp; done) | (go_simp; with_reducible rfl))
      try simp only [Act.put, List.setIfInBounds_toArray, List.set_cons_zero, List.set_cons_succ]
      refine wpAnyH_done (by kernel_rfl) ?_ _
      go_wp2_with fail
      go_meet
      exact ⟨rfl, r1, hc⟩
    · go_simp
      refine Calls.mono (C4.out _) ?_
      rintro e X3 ⟨rfl, hn⟩
      replace r1 := r1.on hn
      replace hc := chain hc hn
      clear hn
      go_simp
      refine hK.out _ _ r1.cell (fun hHeld => ?_)
      clear hK K hHeld
      refine wpAnyH_ready (rs := [2]) (by kernel_rfl) (by simp) ?_
      refine' AllReadyH.cons (o := _) (by simp only [List.getElem?_toArray, List.getElem?_cons_succ, List.getElem?_cons_zero]; rfl) (fun K hK => ?_) AllReadyH.nil
      go_simp
      have hn := below_alloc X3 (.cells #[.string sClose, .string sExpi, .string sColl] 9)
      have r2 := Row.new (W := X3) (cs := #[.string sClose, .string sExpi, .string sColl]) (t := 9)
      replace r1 := r1.on hn
      replace hc := chain hc hn
      clear hn
      generalize X3.alloc (.cells #[.string sClose, .string sExpi, .string sColl] 9) = X4 at *
      generalize X3.heap.size = a2 at *
      refine hK.out _ _ r1.cell (fun _ => ?_)
      clear hK K
      refine wpAnyH_more (S' := fun W' => (∀ j, W'.cell? ⟨p1, j, none⟩ = (rC k i g 3 3 tr nx tag)[j]?) ∧ (∀ j, W'.cell? ⟨a2, j, none⟩ = (#[.string sClose, .string sExpi, .string sColl] : Array Value)[j]?)) (fun _ h => h.1) ⟨r1.cell, r2.cell⟩ (fun hHeld => ?_)
      refine' wpAnyH_take (i := 6) (oi := _) (v := _) ?_ (by kernel_rfl) (by kernel_rfl) (by kernel_rfl) ?_ (Or.inl ⟨?_, ?_⟩) (by assumption) ?_
      rotate_left 2
      · (simp only [List.getElem?_toArray, List.getElem?_cons_succ, List.getElem?_cons_zero]; rfl)
      · first | exact fun _ _ _ h => h | exact fun _ _ _ h => nomatch h.1
      · rfl
      · (intro W hSW; (try dsimp only at hSW); go_split_ands; first | (go_simp; done) | (go_simp; with_reducible rfl))
      try simp only [Act.put, List.setIfInBounds_toArray, List.set_cons_zero, List.set_cons_succ]
      refine' wpAnyH_take (i := 7) (oi := _) (v := _) ?_ (by kernel_rfl) (by kernel_rfl) (by kernel_rfl) ?_ (Or.inl ⟨?_, ?_⟩) (by assumption) ?_
      rotate_left 2
      · (simp only [List.getElem?_toArray, List.getElem?_cons_succ, List.getElem?_cons_zero]; rfl)
      · first | exact fun _ _ _ h => h | exact fun _ _ _ h => nomatch h.1
      · rfl
      · (intro W hSW; (try dsimp only at hSW); go_split_ands; first | (go_simp; done) | (go_simp; with_reducible rfl))
      try simp only [Act.put, List.setIfInBounds_toArray, List.set_cons_zero, List.set_cons_succ]
      refine' wpAnyH_take (i := 8) (oi := _) (v := _) ?_ (by kernel_rfl) (by kernel_rfl) (by kernel_rfl) ?_ (Or.inl ⟨?_, ?_⟩) (by assumption) ?_
      rotate_left 2
      · (simp only [List.getElem?_toArray, List.getElem?_cons_succ, List.getElem?_cons_zero]; rfl)
      · first | exact fun _ _ _ h => h | exact fun _ _ _ h => nomatch h.1
      · rfl
      · (intro W hSW; (try dsimp only at hSW); go_split_ands; first | (go_simp; done) | (go_simp; with_reducible rfl))
      try simp only [Act.put, List.setIfInBounds_toArray, List.set_cons_zero, List.set_cons_succ]
      refine' wpAnyH_take (i := 9) (oi := _) (v := _) ?_ (by kernel_rfl) (by kernel_rfl) (by kernel_rfl) ?_ (Or.inl ⟨?_, ?_⟩) (by assumption) ?_
      rotate_left 2
      · (simp only [List.getElem?_toArray, List.getElem?_cons_succ, List.getElem?_cons_zero]; rfl)
      · first | exact fun _ _ _ h => h | exact fun _ _ _ h => nomatch h.1
      · rfl
      · (intro W hSW; (try dsimp only at hSW); go_split_ands; first | (go_simp; done) | (go_simp; with_reducible rfl))
      try simp only [Act.put, List.setIfInBounds_toArray, List.set_cons_zero, List.set_cons_succ]
      refine' wpAnyH_take (i := 13) (oi := _) (v := _) ?_ (by kernel_rfl) (by kernel_rfl) (by kernel_rfl) ?_ (Or.inl ⟨?_, ?_⟩) (by assumption) ?_
      rotate_left 2
      · (simp only [List.getElem?_toArray, List.getElem?_cons_succ, List.getElem?_cons_zero]; rfl)
      · first | exact fun _ _ _ h => h | exact fun _ _ _ h => nomatch h.1
      · rfl
      · (intro W hSW; (try dsimp only at hSW); go_split_ands; first | (go_simp; done) | (go_simp; with_reducible rfl))
      try simp only [Act.put, List.setIfInBounds_toArray, List.set_cons_zero, List.set_cons_succ]
      refine' wpAnyH_take (i := 14) (oi := _) (v := _) ?_ (by kernel_rfl) (by kernel_rfl) (by kernel_rfl) ?_ (Or.inl ⟨?_, ?_⟩) (by assumption) ?_
      rotate_left 2
      · (simp only [List.getElem?_toArray, List.getElem?_cons_succ, List.getElem?_cons_zero]; rfl)
      · first | exact fun _ _ _ h => h | exact fun _ _ _ h => nomatch h.1
      · rfl
      · (intro W hSW; (try dsimp only at hSW); go_split_ands; first | (go_simp; done) | (go_simp; with_reducible rfl))
      try simp only [Act.put, List.setIfInBounds_toArray, List.set_cons_zero, List.set_cons_succ]
      refine wpAnyH_done (by kernel_rfl) ?_ _
      go_wp2_with fail
      go_meet
      exact ⟨rfl, r1, hc⟩
  case rest =>
    clear r1 hc
    obtain ⟨rfl, r1, hc⟩ := hcut
    have y0 := r1.cell
    have y1 := r1.lt
    go_wp2_with fail
    go_returns
    exact ⟨rfl, by first | exact hc | (rw [← hp1]; exact hc)⟩

set_option maxHeartbeats 8000000 in
set_option maxRecDepth 20000 in
theorem rtext_4_1 (k i g tr nx : Int) (tag O Q A0 A1 B0 B1 B2 B3 E0 E1 D : ByteArray) (w : World)
    (c1 : ∀ w, Ret 13 #[rV k i g 4 1 tr nx tag] w (.int .i64 0))
    (c2 : ∀ w, Ret 43 #[.agg #[.int .i64 k, .int .i64 i, .int .u32 g]] w (.tuple #[.string O, .int .i64 0]))
    (c3 : ∀ w, Ret 44 #[.string tag] w (.tuple #[.string Q, .int .i64 0]))
    (a0 : Cat O spB A0) (a1 : Cat A0 sQuar A1) (b0 : Cat A1 spB B0) (b1 : Cat B0 sClose B1) (b2 : Cat B1 spB B2) (b3 : Cat B2 D B3) (e0 : Cat B3 spB E0) (e1 : Cat E0 Q E1) (c4 : ∀ w, Ret 45 #[.int .i64 tr] w (.string D)) :
    Ret 19 #[rV k i g 4 1 tr nx tag] w (.tuple #[.string E1, .int .i64 0]) := by
  have wl : IntKind.i64.wrap 0 = 0 := by decide
  have C1 := Lib.hid c1
  clear c1
  have C2 := Lib.hid c2
  clear c2
  have C3 := Lib.hid c3
  clear c3
  have C4 := Lib.hid c4
  clear c4
  go_enter Tryz.func19, Tryz.ntmps19
  go_wp2_with fail
  have r1 := Row.new (W := w) (cs := (rC k i g 4 1 tr nx tag)) (t := 28)
  have hc := (Below.refl w.heap.size w).alloc (Nat.le_refl _) (.cells (rC k i g 4 1 tr nx tag) 28)
  generalize w.alloc (.cells (rC k i g 4 1 tr nx tag) 28) = W at *
  generalize hp1 : w.heap.size = p1 at r1
  refine Calls.mono (C1.out _) ?_
  rintro e w1 ⟨rfl, hb⟩
  replace r1 := r1.on hb
  replace hc := chain hc hb
  clear hb
  have y0 := r1.cell
  have y1 := r1.lt
  go_wp2_with fail
  clear y0 y1
  refine Calls.mono (C2.out _) ?_
  rintro e w2 ⟨rfl, hb⟩
  replace r1 := r1.on hb
  replace hc := chain hc hb
  clear hb
  have y0 := r1.cell
  have y1 := r1.lt
  go_wp2_with fail
  clear y0 y1
  refine Calls.mono (C3.out _) ?_
  rintro e w3 ⟨rfl, hb⟩
  replace r1 := r1.on hb
  replace hc := chain hc hb
  clear hb
  have y0 := r1.cell
  have y1 := r1.lt
  go_upto_region 8 with fail
  clear y0 y1
  replace r1 := r1.on (below_alloc w3 (.cells #[.string sLive, .string sClos, .string sRele, .string sQuar] 9))
  replace hc := hc.alloc hc.size (.cells #[.string sLive, .string sClos, .string sRele, .string sQuar] 9)
  generalize w3.alloc (.cells #[.string sLive, .string sClos, .string sRele, .string sQuar] 9) = X0 at *
  go_cut [9] (fun v wx => v = .string B3 ∧ Row wx p1 (rC k i g 4 1 tr nx tag) 28 ∧ Below w.heap.size w wx)
  case first =>
    refine wp_region_held_drew (S := fun W' => (∀ j, W'.cell? ⟨p1, j, none⟩ = (rC k i g 4 1 tr nx tag)[j]?)) (by kernel_rfl) r1.cell (fun hHeld => ?_)
    replace r1 := r1.drew
    replace hc := hc.drew
    generalize X0.drew = X1 at *
    refine' wpAnyH_take (i := 0) (oi := _) (v := _) ?_ (by kernel_rfl) (by kernel_rfl) (by kernel_rfl) ?_ (Or.inl ⟨?_, ?_⟩) (by assumption) ?_
    rotate_left 2
    · (simp only [List.getElem?_toArray, List.getElem?_cons_succ, List.getElem?_cons_zero]; rfl)
    · first | exact fun _ _ _ h => h | exact fun _ _ _ h => nomatch h.1
    · rfl
    · (intro W hSW; (try dsimp only at hSW); go_split_ands; first | (go_simp; done) | (go_simp; with_reducible rfl))
    try simp only [Act.put, List.setIfInBounds_toArray, List.set_cons_zero, List.set_cons_succ]
    refine' wpAnyH_take (i := 1) (oi := _) (v := _) ?_ (by kernel_rfl) (by kernel_rfl) (by kernel_rfl) ?_ (Or.inl ⟨?_, ?_⟩) (by assumption) ?_
    rotate_left 2
    · (simp only [List.getElem?_toArray, List.getElem?_cons_succ, List.getElem?_cons_zero]; rfl)
    · first | exact fun _ _ _ h => h | exact fun _ _ _ h => nomatch h.1
    · rfl
    · (intro W hSW; (try dsimp only at hSW); go_split_ands; first | (go_simp; done) | (go_simp; with_reducible rfl))
    try simp only [Act.put, List.setIfInBounds_toArray, List.set_cons_zero, List.set_cons_succ]
    refine' wpAnyH_take (i := 3) (oi := _) (v := _) ?_ (by kernel_rfl) (by kernel_rfl) (by kernel_rfl) ?_ (Or.inl ⟨?_, ?_⟩) (by assumption) ?_
    rotate_left 2
    · (simp only [List.getElem?_toArray, List.getElem?_cons_succ, List.getElem?_cons_zero]; rfl)
    · first | exact fun _ _ _ h => h | exact fun _ _ _ h => nomatch h.1
    · rfl
    · (intro W hSW; (try dsimp only at hSW); go_split_ands; first | (go_simp; done) | (go_simp; with_reducible rfl))
    try simp only [Act.put, List.setIfInBounds_toArray, List.set_cons_zero, List.set_cons_succ]
    refine' wpAnyH_take (i := 4) (oi := _) (v := _) ?_ (by kernel_rfl) (by kernel_rfl) (by kernel_rfl) ?_ (Or.inl ⟨?_, ?_⟩) (by assumption) ?_
    rotate_left 2
    · (simp only [List.getElem?_toArray, List.getElem?_cons_succ, List.getElem?_cons_zero]; rfl)
    · first | exact fun _ _ _ h => h | exact fun _ _ _ h => nomatch h.1
    · rfl
    · (intro W hSW; (try dsimp only at hSW); go_split_ands; first | (go_simp; done) | (go_simp; with_reducible rfl))
    try simp only [Act.put, List.setIfInBounds_toArray, List.set_cons_zero, List.set_cons_succ]
    refine' wpAnyH_take (i := 5) (oi := _) (v := _) ?_ (by kernel_rfl) (by kernel_rfl) (by kernel_rfl) ?_ (Or.inl ⟨?_, ?_⟩) (by assumption) ?_
    rotate_left 2
    · (simp only [List.getElem?_toArray, List.getElem?_cons_succ, List.getElem?_cons_zero]; rfl)
    · first | exact fun _ _ _ h => h | exact fun _ _ _ h => nomatch h.1
    · rfl
    · (intro W hSW; (try dsimp only at hSW); go_split_ands; first | (go_simp; done) | (go_simp; with_reducible rfl))
    try simp only [Act.put, List.setIfInBounds_toArray, List.set_cons_zero, List.set_cons_succ]
    refine' wpAnyH_take (i := 10) (oi := _) (v := _) ?_ (by kernel_rfl) (by kernel_rfl) (by kernel_rfl) ?_ (Or.inl ⟨?_, ?_⟩) (by assumption) ?_
    rotate_left 2
    · (simp only [List.getElem?_toArray, List.getElem?_cons_succ, List.getElem?_cons_zero]; rfl)
    · first | exact fun _ _ _ h => h | exact fun _ _ _ h => nomatch h.1
    · rfl
    · (intro W hSW; (try dsimp only at hSW); go_split_ands; first | (go_simp; done) | (go_simp; with_reducible rfl))
    try simp only [Act.put, List.setIfInBounds_toArray, List.set_cons_zero, List.set_cons_succ]
    refine' wpAnyH_take (i := 11) (oi := _) (v := _) ?_ (by kernel_rfl) (by kernel_rfl) (by kernel_rfl) ?_ (Or.inl ⟨?_, ?_⟩) (by assumption) ?_
    rotate_left 2
    · (simp only [List.getElem?_toArray, List.getElem?_cons_succ, List.getElem?_cons_zero]; rfl)
    · first | exact fun _ _ _ h => h | exact fun _ _ _ h => nomatch h.1
    · rfl
    · (intro W hSW; (try dsimp only at hSW); go_split_ands; first | (go_simp; done) | (go_simp; with_reducible rfl))
    try simp only [Act.put, List.setIfInBounds_toArray, List.set_cons_zero, List.set_cons_succ]
    clear hHeld
    refine wpAnyH_ready (rs := [2, 12]) (by kernel_rfl) (by simp) ?_
    refine' AllReadyH.cons (o := _) (by simp only [List.getElem?_toArray, List.getElem?_cons_succ, List.getElem?_cons_zero]; rfl) (fun K hK => ?_) (AllReadyH.cons (o := _) (by simp only [List.getElem?_toArray, List.getElem?_cons_succ, List.getElem?_cons_zero]; rfl) (fun K hK => ?_) AllReadyH.nil)
    · go_simp
      have hn := below_alloc X1 (.cells #[.string sClose, .string sExpi, .string sColl] 9)
      have r2 := Row.new (W := X1) (cs := #[.string sClose, .string sExpi, .string sColl]) (t := 9)
      replace r1 := r1.on hn
      replace hc := chain hc hn
      clear hn
      generalize X1.alloc (.cells #[.string sClose, .string sExpi, .string sColl] 9) = X2 at *
      generalize X1.heap.size = a2 at *
      refine hK.out _ _ r1.cell (fun _ => ?_)
      clear hK K
      refine wpAnyH_more (S' := fun W' => (∀ j, W'.cell? ⟨p1, j, none⟩ = (rC k i g 4 1 tr nx tag)[j]?) ∧ (∀ j, W'.cell? ⟨a2, j, none⟩ = (#[.string sClose, .string sExpi, .string sColl] : Array Value)[j]?)) (fun _ h => h.1) ⟨r1.cell, r2.cell⟩ (fun hHeld => ?_)
      refine' wpAnyH_take (i := 6) (oi := _) (v := _) ?_ (by kernel_rfl) (by kernel_rfl) (by kernel_rfl) ?_ (Or.inl ⟨?_, ?_⟩) (by assumption) ?_
      rotate_left 2
      · (simp only [List.getElem?_toArray, List.getElem?_cons_succ, List.getElem?_cons_zero]; rfl)
      · first | exact fun _ _ _ h => h | exact fun _ _ _ h => nomatch h.1
      · rfl
      · (intro W hSW; (try dsimp only at hSW); go_split_ands; first | (go_simp; done) | (go_simp; with_reducible rfl))
      try simp only [Act.put, List.setIfInBounds_toArray, List.set_cons_zero, List.set_cons_succ]
      refine' wpAnyH_take (i := 7) (oi := _) (v := _) ?_ (by kernel_rfl) (by kernel_rfl) (by kernel_rfl) ?_ (Or.inl ⟨?_, ?_⟩) (by assumption) ?_
      rotate_left 2
      · (simp only [List.getElem?_toArray, List.getElem?_cons_succ, List.getElem?_cons_zero]; rfl)
      · first | exact fun _ _ _ h => h | exact fun _ _ _ h => nomatch h.1
      · rfl
      · (intro W hSW; (try dsimp only at hSW); go_split_ands; first | (go_simp; done) | (go_simp; with_reducible rfl))
      try simp only [Act.put, List.setIfInBounds_toArray, List.set_cons_zero, List.set_cons_succ]
      refine' wpAnyH_take (i := 8) (oi := _) (v := _) ?_ (by kernel_rfl) (by kernel_rfl) (by kernel_rfl) ?_ (Or.inl ⟨?_, ?_⟩) (by assumption) ?_
      rotate_left 2
      · (simp only [List.getElem?_toArray, List.getElem?_cons_succ, List.getElem?_cons_zero]; rfl)
      · first | exact fun _ _ _ h => h | exact fun _ _ _ h => nomatch h.1
      · rfl
      · (intro W hSW; (try dsimp only at hSW); go_split_ands; first | (go_simp; done) | (go_simp; with_reducible rfl))
      try simp only [Act.put, List.setIfInBounds_toArray, List.set_cons_zero, List.set_cons_succ]
      refine' wpAnyH_take (i := 9) (oi := _) (v := _) ?_ (by kernel_rfl) (by kernel_rfl) (by kernel_rfl) ?_ (Or.inl ⟨?_, ?_⟩) (by assumption) ?_
      rotate_left 2
      · (simp only [List.getElem?_toArray, List.getElem?_cons_succ, List.getElem?_cons_zero]; rfl)
      · first | exact fun _ _ _ h => h | exact fun _ _ _ h => nomatch h.1
      · rfl
      · (intro W hSW; (try dsimp only at hSW); go_split_ands; first | (go_simp; done) | (go_simp; with_reducible rfl))
      try simp only [Act.put, List.setIfInBounds_toArray, List.set_cons_zero, List.set_cons_succ]
      clear hHeld
      refine wpAnyH_ready (rs := [12]) (by kernel_rfl) (by simp) ?_
      refine' AllReadyH.cons (o := _) (by simp only [List.getElem?_toArray, List.getElem?_cons_succ, List.getElem?_cons_zero]; rfl) (fun K hK => ?_) AllReadyH.nil
      go_simp
      refine Calls.mono (C4.out _) ?_
      rintro e X3 ⟨rfl, hn⟩
      replace r1 := r1.on hn
      replace r2 := r2.on hn
      replace hc := chain hc hn
      clear hn
      go_simp
      refine hK.out _ _ ⟨r1.cell, r2.cell⟩ (fun hHeld => ?_)
      clear hK K
      refine' wpAnyH_take (i := 13) (oi := _) (v := _) ?_ (by kernel_rfl) (by kernel_rfl) (by kernel_rfl) ?_ (Or.inl ⟨?_, ?_⟩) (by assumption) ?_
      rotate_left 2
      · (simp only [List.getElem?_toArray, List.getElem?_cons_succ, List.getElem?_cons_zero]; rfl)
      · first | exact fun _ _ _ h => h | exact fun _ _ _ h => nomatch h.1
      · rfl
      · (intro W hSW; (try dsimp only at hSW); go_split_ands; first | (go_simp; done) | (go_simp; with_reducible rfl))
      try simp only [Act.put, List.setIfInBounds_toArray, List.set_cons_zero, List.set_cons_succ]
      refine' wpAnyH_take (i := 14) (oi := _) (v := _) ?_ (by kernel_rfl) (by kernel_rfl) (by kernel_rfl) ?_ (Or.inl ⟨?_, ?_⟩) (by assumption) ?_
      rotate_left 2
      · (simp only [List.getElem?_toArray, List.getElem?_cons_succ, List.getElem?_cons_zero]; rfl)
      · first | exact fun _ _ _ h => h | exact fun _ _ _ h => nomatch h.1
      · rfl
      · (intro W hSW; (try dsimp only at hSW); go_split_ands; first | (go_simp; done) | (go_simp; with_reducible rfl))
      try simp only [Act.put, List.setIfInBounds_toArray, List.set_cons_zero, List.set_cons_succ]
      refine wpAnyH_done (by kernel_rfl) ?_ _
      go_wp2_with fail
      go_meet
      exact ⟨rfl, r1, hc⟩
    · go_simp
      refine Calls.mono (C4.out _) ?_
      rintro e X3 ⟨rfl, hn⟩
      replace r1 := r1.on hn
      replace hc := chain hc hn
      clear hn
      go_simp
      refine hK.out _ _ r1.cell (fun hHeld => ?_)
      clear hK K hHeld
      refine wpAnyH_ready (rs := [2]) (by kernel_rfl) (by simp) ?_
      refine' AllReadyH.cons (o := _) (by simp only [List.getElem?_toArray, List.getElem?_cons_succ, List.getElem?_cons_zero]; rfl) (fun K hK => ?_) AllReadyH.nil
      go_simp
      have hn := below_alloc X3 (.cells #[.string sClose, .string sExpi, .string sColl] 9)
      have r2 := Row.new (W := X3) (cs := #[.string sClose, .string sExpi, .string sColl]) (t := 9)
      replace r1 := r1.on hn
      replace hc := chain hc hn
      clear hn
      generalize X3.alloc (.cells #[.string sClose, .string sExpi, .string sColl] 9) = X4 at *
      generalize X3.heap.size = a2 at *
      refine hK.out _ _ r1.cell (fun _ => ?_)
      clear hK K
      refine wpAnyH_more (S' := fun W' => (∀ j, W'.cell? ⟨p1, j, none⟩ = (rC k i g 4 1 tr nx tag)[j]?) ∧ (∀ j, W'.cell? ⟨a2, j, none⟩ = (#[.string sClose, .string sExpi, .string sColl] : Array Value)[j]?)) (fun _ h => h.1) ⟨r1.cell, r2.cell⟩ (fun hHeld => ?_)
      refine' wpAnyH_take (i := 6) (oi := _) (v := _) ?_ (by kernel_rfl) (by kernel_rfl) (by kernel_rfl) ?_ (Or.inl ⟨?_, ?_⟩) (by assumption) ?_
      rotate_left 2
      · (simp only [List.getElem?_toArray, List.getElem?_cons_succ, List.getElem?_cons_zero]; rfl)
      · first | exact fun _ _ _ h => h | exact fun _ _ _ h => nomatch h.1
      · rfl
      · (intro W hSW; (try dsimp only at hSW); go_split_ands; first | (go_simp; done) | (go_simp; with_reducible rfl))
      try simp only [Act.put, List.setIfInBounds_toArray, List.set_cons_zero, List.set_cons_succ]
      refine' wpAnyH_take (i := 7) (oi := _) (v := _) ?_ (by kernel_rfl) (by kernel_rfl) (by kernel_rfl) ?_ (Or.inl ⟨?_, ?_⟩) (by assumption) ?_
      rotate_left 2
      · (simp only [List.getElem?_toArray, List.getElem?_cons_succ, List.getElem?_cons_zero]; rfl)
      · first | exact fun _ _ _ h => h | exact fun _ _ _ h => nomatch h.1
      · rfl
      · (intro W hSW; (try dsimp only at hSW); go_split_ands; first | (go_simp; done) | (go_simp; with_reducible rfl))
      try simp only [Act.put, List.setIfInBounds_toArray, List.set_cons_zero, List.set_cons_succ]
      refine' wpAnyH_take (i := 8) (oi := _) (v := _) ?_ (by kernel_rfl) (by kernel_rfl) (by kernel_rfl) ?_ (Or.inl ⟨?_, ?_⟩) (by assumption) ?_
      rotate_left 2
      · (simp only [List.getElem?_toArray, List.getElem?_cons_succ, List.getElem?_cons_zero]; rfl)
      · first | exact fun _ _ _ h => h | exact fun _ _ _ h => nomatch h.1
      · rfl
      · (intro W hSW; (try dsimp only at hSW); go_split_ands; first | (go_simp; done) | (go_simp; with_reducible rfl))
      try simp only [Act.put, List.setIfInBounds_toArray, List.set_cons_zero, List.set_cons_succ]
      refine' wpAnyH_take (i := 9) (oi := _) (v := _) ?_ (by kernel_rfl) (by kernel_rfl) (by kernel_rfl) ?_ (Or.inl ⟨?_, ?_⟩) (by assumption) ?_
      rotate_left 2
      · (simp only [List.getElem?_toArray, List.getElem?_cons_succ, List.getElem?_cons_zero]; rfl)
      · first | exact fun _ _ _ h => h | exact fun _ _ _ h => nomatch h.1
      · rfl
      · (intro W hSW; (try dsimp only at hSW); go_split_ands; first | (go_simp; done) | (go_simp; with_reducible rfl))
      try simp only [Act.put, List.setIfInBounds_toArray, List.set_cons_zero, List.set_cons_succ]
      refine' wpAnyH_take (i := 13) (oi := _) (v := _) ?_ (by kernel_rfl) (by kernel_rfl) (by kernel_rfl) ?_ (Or.inl ⟨?_, ?_⟩) (by assumption) ?_
      rotate_left 2
      · (simp only [List.getElem?_toArray, List.getElem?_cons_succ, List.getElem?_cons_zero]; rfl)
      · first | exact fun _ _ _ h => h | exact fun _ _ _ h => nomatch h.1
      · rfl
      · (intro W hSW; (try dsimp only at hSW); go_split_ands; first | (go_simp; done) | (go_simp; with_reducible rfl))
      try simp only [Act.put, List.setIfInBounds_toArray, List.set_cons_zero, List.set_cons_succ]
      refine' wpAnyH_take (i := 14) (oi := _) (v := _) ?_ (by kernel_rfl) (by kernel_rfl) (by kernel_rfl) ?_ (Or.inl ⟨?_, ?_⟩) (by assumption) ?_
      rotate_left 2
      · (simp only [List.getElem?_toArray, List.getElem?_cons_succ, List.getElem?_cons_zero]; rfl)
      · first | exact fun _ _ _ h => h | exact fun _ _ _ h => nomatch h.1
      · rfl
      · (intro W hSW; (try dsimp only at hSW); go_split_ands; first | (go_simp; done) | (go_simp; with_reducible rfl))
      try simp only [Act.put, List.setIfInBounds_toArray, List.set_cons_zero, List.set_cons_succ]
      refine wpAnyH_done (by kernel_rfl) ?_ _
      go_wp2_with fail
      go_meet
      exact ⟨rfl, r1, hc⟩
  case rest =>
    clear r1 hc
    obtain ⟨rfl, r1, hc⟩ := hcut
    have y0 := r1.cell
    have y1 := r1.lt
    go_wp2_with fail
    go_returns
    exact ⟨rfl, by first | exact hc | (rw [← hp1]; exact hc)⟩

set_option maxHeartbeats 8000000 in
set_option maxRecDepth 20000 in
theorem rtext_4_2 (k i g tr nx : Int) (tag O Q A0 A1 B0 B1 B2 B3 E0 E1 D : ByteArray) (w : World)
    (c1 : ∀ w, Ret 13 #[rV k i g 4 2 tr nx tag] w (.int .i64 0))
    (c2 : ∀ w, Ret 43 #[.agg #[.int .i64 k, .int .i64 i, .int .u32 g]] w (.tuple #[.string O, .int .i64 0]))
    (c3 : ∀ w, Ret 44 #[.string tag] w (.tuple #[.string Q, .int .i64 0]))
    (a0 : Cat O spB A0) (a1 : Cat A0 sQuar A1) (b0 : Cat A1 spB B0) (b1 : Cat B0 sExpi B1) (b2 : Cat B1 spB B2) (b3 : Cat B2 D B3) (e0 : Cat B3 spB E0) (e1 : Cat E0 Q E1) (c4 : ∀ w, Ret 45 #[.int .i64 tr] w (.string D)) :
    Ret 19 #[rV k i g 4 2 tr nx tag] w (.tuple #[.string E1, .int .i64 0]) := by
  have wl : IntKind.i64.wrap 1 = 1 := by decide
  have C1 := Lib.hid c1
  clear c1
  have C2 := Lib.hid c2
  clear c2
  have C3 := Lib.hid c3
  clear c3
  have C4 := Lib.hid c4
  clear c4
  go_enter Tryz.func19, Tryz.ntmps19
  go_wp2_with fail
  have r1 := Row.new (W := w) (cs := (rC k i g 4 2 tr nx tag)) (t := 28)
  have hc := (Below.refl w.heap.size w).alloc (Nat.le_refl _) (.cells (rC k i g 4 2 tr nx tag) 28)
  generalize w.alloc (.cells (rC k i g 4 2 tr nx tag) 28) = W at *
  generalize hp1 : w.heap.size = p1 at r1
  refine Calls.mono (C1.out _) ?_
  rintro e w1 ⟨rfl, hb⟩
  replace r1 := r1.on hb
  replace hc := chain hc hb
  clear hb
  have y0 := r1.cell
  have y1 := r1.lt
  go_wp2_with fail
  clear y0 y1
  refine Calls.mono (C2.out _) ?_
  rintro e w2 ⟨rfl, hb⟩
  replace r1 := r1.on hb
  replace hc := chain hc hb
  clear hb
  have y0 := r1.cell
  have y1 := r1.lt
  go_wp2_with fail
  clear y0 y1
  refine Calls.mono (C3.out _) ?_
  rintro e w3 ⟨rfl, hb⟩
  replace r1 := r1.on hb
  replace hc := chain hc hb
  clear hb
  have y0 := r1.cell
  have y1 := r1.lt
  go_upto_region 8 with fail
  clear y0 y1
  replace r1 := r1.on (below_alloc w3 (.cells #[.string sLive, .string sClos, .string sRele, .string sQuar] 9))
  replace hc := hc.alloc hc.size (.cells #[.string sLive, .string sClos, .string sRele, .string sQuar] 9)
  generalize w3.alloc (.cells #[.string sLive, .string sClos, .string sRele, .string sQuar] 9) = X0 at *
  go_cut [9] (fun v wx => v = .string B3 ∧ Row wx p1 (rC k i g 4 2 tr nx tag) 28 ∧ Below w.heap.size w wx)
  case first =>
    refine wp_region_held_drew (S := fun W' => (∀ j, W'.cell? ⟨p1, j, none⟩ = (rC k i g 4 2 tr nx tag)[j]?)) (by kernel_rfl) r1.cell (fun hHeld => ?_)
    replace r1 := r1.drew
    replace hc := hc.drew
    generalize X0.drew = X1 at *
    refine' wpAnyH_take (i := 0) (oi := _) (v := _) ?_ (by kernel_rfl) (by kernel_rfl) (by kernel_rfl) ?_ (Or.inl ⟨?_, ?_⟩) (by assumption) ?_
    rotate_left 2
    · (simp only [List.getElem?_toArray, List.getElem?_cons_succ, List.getElem?_cons_zero]; rfl)
    · first | exact fun _ _ _ h => h | exact fun _ _ _ h => nomatch h.1
    · rfl
    · (intro W hSW; (try dsimp only at hSW); go_split_ands; first | (go_simp; done) | (go_simp; with_reducible rfl))
    try simp only [Act.put, List.setIfInBounds_toArray, List.set_cons_zero, List.set_cons_succ]
    refine' wpAnyH_take (i := 1) (oi := _) (v := _) ?_ (by kernel_rfl) (by kernel_rfl) (by kernel_rfl) ?_ (Or.inl ⟨?_, ?_⟩) (by assumption) ?_
    rotate_left 2
    · (simp only [List.getElem?_toArray, List.getElem?_cons_succ, List.getElem?_cons_zero]; rfl)
    · first | exact fun _ _ _ h => h | exact fun _ _ _ h => nomatch h.1
    · rfl
    · (intro W hSW; (try dsimp only at hSW); go_split_ands; first | (go_simp; done) | (go_simp; with_reducible rfl))
    try simp only [Act.put, List.setIfInBounds_toArray, List.set_cons_zero, List.set_cons_succ]
    refine' wpAnyH_take (i := 3) (oi := _) (v := _) ?_ (by kernel_rfl) (by kernel_rfl) (by kernel_rfl) ?_ (Or.inl ⟨?_, ?_⟩) (by assumption) ?_
    rotate_left 2
    · (simp only [List.getElem?_toArray, List.getElem?_cons_succ, List.getElem?_cons_zero]; rfl)
    · first | exact fun _ _ _ h => h | exact fun _ _ _ h => nomatch h.1
    · rfl
    · (intro W hSW; (try dsimp only at hSW); go_split_ands; first | (go_simp; done) | (go_simp; with_reducible rfl))
    try simp only [Act.put, List.setIfInBounds_toArray, List.set_cons_zero, List.set_cons_succ]
    refine' wpAnyH_take (i := 4) (oi := _) (v := _) ?_ (by kernel_rfl) (by kernel_rfl) (by kernel_rfl) ?_ (Or.inl ⟨?_, ?_⟩) (by assumption) ?_
    rotate_left 2
    · (simp only [List.getElem?_toArray, List.getElem?_cons_succ, List.getElem?_cons_zero]; rfl)
    · first | exact fun _ _ _ h => h | exact fun _ _ _ h => nomatch h.1
    · rfl
    · (intro W hSW; (try dsimp only at hSW); go_split_ands; first | (go_simp; done) | (go_simp; with_reducible rfl))
    try simp only [Act.put, List.setIfInBounds_toArray, List.set_cons_zero, List.set_cons_succ]
    refine' wpAnyH_take (i := 5) (oi := _) (v := _) ?_ (by kernel_rfl) (by kernel_rfl) (by kernel_rfl) ?_ (Or.inl ⟨?_, ?_⟩) (by assumption) ?_
    rotate_left 2
    · (simp only [List.getElem?_toArray, List.getElem?_cons_succ, List.getElem?_cons_zero]; rfl)
    · first | exact fun _ _ _ h => h | exact fun _ _ _ h => nomatch h.1
    · rfl
    · (intro W hSW; (try dsimp only at hSW); go_split_ands; first | (go_simp; done) | (go_simp; with_reducible rfl))
    try simp only [Act.put, List.setIfInBounds_toArray, List.set_cons_zero, List.set_cons_succ]
    refine' wpAnyH_take (i := 10) (oi := _) (v := _) ?_ (by kernel_rfl) (by kernel_rfl) (by kernel_rfl) ?_ (Or.inl ⟨?_, ?_⟩) (by assumption) ?_
    rotate_left 2
    · (simp only [List.getElem?_toArray, List.getElem?_cons_succ, List.getElem?_cons_zero]; rfl)
    · first | exact fun _ _ _ h => h | exact fun _ _ _ h => nomatch h.1
    · rfl
    · (intro W hSW; (try dsimp only at hSW); go_split_ands; first | (go_simp; done) | (go_simp; with_reducible rfl))
    try simp only [Act.put, List.setIfInBounds_toArray, List.set_cons_zero, List.set_cons_succ]
    refine' wpAnyH_take (i := 11) (oi := _) (v := _) ?_ (by kernel_rfl) (by kernel_rfl) (by kernel_rfl) ?_ (Or.inl ⟨?_, ?_⟩) (by assumption) ?_
    rotate_left 2
    · (simp only [List.getElem?_toArray, List.getElem?_cons_succ, List.getElem?_cons_zero]; rfl)
    · first | exact fun _ _ _ h => h | exact fun _ _ _ h => nomatch h.1
    · rfl
    · (intro W hSW; (try dsimp only at hSW); go_split_ands; first | (go_simp; done) | (go_simp; with_reducible rfl))
    try simp only [Act.put, List.setIfInBounds_toArray, List.set_cons_zero, List.set_cons_succ]
    clear hHeld
    refine wpAnyH_ready (rs := [2, 12]) (by kernel_rfl) (by simp) ?_
    refine' AllReadyH.cons (o := _) (by simp only [List.getElem?_toArray, List.getElem?_cons_succ, List.getElem?_cons_zero]; rfl) (fun K hK => ?_) (AllReadyH.cons (o := _) (by simp only [List.getElem?_toArray, List.getElem?_cons_succ, List.getElem?_cons_zero]; rfl) (fun K hK => ?_) AllReadyH.nil)
    · go_simp
      have hn := below_alloc X1 (.cells #[.string sClose, .string sExpi, .string sColl] 9)
      have r2 := Row.new (W := X1) (cs := #[.string sClose, .string sExpi, .string sColl]) (t := 9)
      replace r1 := r1.on hn
      replace hc := chain hc hn
      clear hn
      generalize X1.alloc (.cells #[.string sClose, .string sExpi, .string sColl] 9) = X2 at *
      generalize X1.heap.size = a2 at *
      refine hK.out _ _ r1.cell (fun _ => ?_)
      clear hK K
      refine wpAnyH_more (S' := fun W' => (∀ j, W'.cell? ⟨p1, j, none⟩ = (rC k i g 4 2 tr nx tag)[j]?) ∧ (∀ j, W'.cell? ⟨a2, j, none⟩ = (#[.string sClose, .string sExpi, .string sColl] : Array Value)[j]?)) (fun _ h => h.1) ⟨r1.cell, r2.cell⟩ (fun hHeld => ?_)
      refine' wpAnyH_take (i := 6) (oi := _) (v := _) ?_ (by kernel_rfl) (by kernel_rfl) (by kernel_rfl) ?_ (Or.inl ⟨?_, ?_⟩) (by assumption) ?_
      rotate_left 2
      · (simp only [List.getElem?_toArray, List.getElem?_cons_succ, List.getElem?_cons_zero]; rfl)
      · first | exact fun _ _ _ h => h | exact fun _ _ _ h => nomatch h.1
      · rfl
      · (intro W hSW; (try dsimp only at hSW); go_split_ands; first | (go_simp; done) | (go_simp; with_reducible rfl))
      try simp only [Act.put, List.setIfInBounds_toArray, List.set_cons_zero, List.set_cons_succ]
      refine' wpAnyH_take (i := 7) (oi := _) (v := _) ?_ (by kernel_rfl) (by kernel_rfl) (by kernel_rfl) ?_ (Or.inl ⟨?_, ?_⟩) (by assumption) ?_
      rotate_left 2
      · (simp only [List.getElem?_toArray, List.getElem?_cons_succ, List.getElem?_cons_zero]; rfl)
      · first | exact fun _ _ _ h => h | exact fun _ _ _ h => nomatch h.1
      · rfl
      · (intro W hSW; (try dsimp only at hSW); go_split_ands; first | (go_simp; done) | (go_simp; with_reducible rfl))
      try simp only [Act.put, List.setIfInBounds_toArray, List.set_cons_zero, List.set_cons_succ]
      refine' wpAnyH_take (i := 8) (oi := _) (v := _) ?_ (by kernel_rfl) (by kernel_rfl) (by kernel_rfl) ?_ (Or.inl ⟨?_, ?_⟩) (by assumption) ?_
      rotate_left 2
      · (simp only [List.getElem?_toArray, List.getElem?_cons_succ, List.getElem?_cons_zero]; rfl)
      · first | exact fun _ _ _ h => h | exact fun _ _ _ h => nomatch h.1
      · rfl
      · (intro W hSW; (try dsimp only at hSW); go_split_ands; first | (go_simp; done) | (go_simp; with_reducible rfl))
      try simp only [Act.put, List.setIfInBounds_toArray, List.set_cons_zero, List.set_cons_succ]
      refine' wpAnyH_take (i := 9) (oi := _) (v := _) ?_ (by kernel_rfl) (by kernel_rfl) (by kernel_rfl) ?_ (Or.inl ⟨?_, ?_⟩) (by assumption) ?_
      rotate_left 2
      · (simp only [List.getElem?_toArray, List.getElem?_cons_succ, List.getElem?_cons_zero]; rfl)
      · first | exact fun _ _ _ h => h | exact fun _ _ _ h => nomatch h.1
      · rfl
      · (intro W hSW; (try dsimp only at hSW); go_split_ands; first | (go_simp; done) | (go_simp; with_reducible rfl))
      try simp only [Act.put, List.setIfInBounds_toArray, List.set_cons_zero, List.set_cons_succ]
      clear hHeld
      refine wpAnyH_ready (rs := [12]) (by kernel_rfl) (by simp) ?_
      refine' AllReadyH.cons (o := _) (by simp only [List.getElem?_toArray, List.getElem?_cons_succ, List.getElem?_cons_zero]; rfl) (fun K hK => ?_) AllReadyH.nil
      go_simp
      refine Calls.mono (C4.out _) ?_
      rintro e X3 ⟨rfl, hn⟩
      replace r1 := r1.on hn
      replace r2 := r2.on hn
      replace hc := chain hc hn
      clear hn
      go_simp
      refine hK.out _ _ ⟨r1.cell, r2.cell⟩ (fun hHeld => ?_)
      clear hK K
      refine' wpAnyH_take (i := 13) (oi := _) (v := _) ?_ (by kernel_rfl) (by kernel_rfl) (by kernel_rfl) ?_ (Or.inl ⟨?_, ?_⟩) (by assumption) ?_
      rotate_left 2
      · (simp only [List.getElem?_toArray, List.getElem?_cons_succ, List.getElem?_cons_zero]; rfl)
      · first | exact fun _ _ _ h => h | exact fun _ _ _ h => nomatch h.1
      · rfl
      · (intro W hSW; (try dsimp only at hSW); go_split_ands; first | (go_simp; done) | (go_simp; with_reducible rfl))
      try simp only [Act.put, List.setIfInBounds_toArray, List.set_cons_zero, List.set_cons_succ]
      refine' wpAnyH_take (i := 14) (oi := _) (v := _) ?_ (by kernel_rfl) (by kernel_rfl) (by kernel_rfl) ?_ (Or.inl ⟨?_, ?_⟩) (by assumption) ?_
      rotate_left 2
      · (simp only [List.getElem?_toArray, List.getElem?_cons_succ, List.getElem?_cons_zero]; rfl)
      · first | exact fun _ _ _ h => h | exact fun _ _ _ h => nomatch h.1
      · rfl
      · (intro W hSW; (try dsimp only at hSW); go_split_ands; first | (go_simp; done) | (go_simp; with_reducible rfl))
      try simp only [Act.put, List.setIfInBounds_toArray, List.set_cons_zero, List.set_cons_succ]
      refine wpAnyH_done (by kernel_rfl) ?_ _
      go_wp2_with fail
      go_meet
      exact ⟨rfl, r1, hc⟩
    · go_simp
      refine Calls.mono (C4.out _) ?_
      rintro e X3 ⟨rfl, hn⟩
      replace r1 := r1.on hn
      replace hc := chain hc hn
      clear hn
      go_simp
      refine hK.out _ _ r1.cell (fun hHeld => ?_)
      clear hK K hHeld
      refine wpAnyH_ready (rs := [2]) (by kernel_rfl) (by simp) ?_
      refine' AllReadyH.cons (o := _) (by simp only [List.getElem?_toArray, List.getElem?_cons_succ, List.getElem?_cons_zero]; rfl) (fun K hK => ?_) AllReadyH.nil
      go_simp
      have hn := below_alloc X3 (.cells #[.string sClose, .string sExpi, .string sColl] 9)
      have r2 := Row.new (W := X3) (cs := #[.string sClose, .string sExpi, .string sColl]) (t := 9)
      replace r1 := r1.on hn
      replace hc := chain hc hn
      clear hn
      generalize X3.alloc (.cells #[.string sClose, .string sExpi, .string sColl] 9) = X4 at *
      generalize X3.heap.size = a2 at *
      refine hK.out _ _ r1.cell (fun _ => ?_)
      clear hK K
      refine wpAnyH_more (S' := fun W' => (∀ j, W'.cell? ⟨p1, j, none⟩ = (rC k i g 4 2 tr nx tag)[j]?) ∧ (∀ j, W'.cell? ⟨a2, j, none⟩ = (#[.string sClose, .string sExpi, .string sColl] : Array Value)[j]?)) (fun _ h => h.1) ⟨r1.cell, r2.cell⟩ (fun hHeld => ?_)
      refine' wpAnyH_take (i := 6) (oi := _) (v := _) ?_ (by kernel_rfl) (by kernel_rfl) (by kernel_rfl) ?_ (Or.inl ⟨?_, ?_⟩) (by assumption) ?_
      rotate_left 2
      · (simp only [List.getElem?_toArray, List.getElem?_cons_succ, List.getElem?_cons_zero]; rfl)
      · first | exact fun _ _ _ h => h | exact fun _ _ _ h => nomatch h.1
      · rfl
      · (intro W hSW; (try dsimp only at hSW); go_split_ands; first | (go_simp; done) | (go_simp; with_reducible rfl))
      try simp only [Act.put, List.setIfInBounds_toArray, List.set_cons_zero, List.set_cons_succ]
      refine' wpAnyH_take (i := 7) (oi := _) (v := _) ?_ (by kernel_rfl) (by kernel_rfl) (by kernel_rfl) ?_ (Or.inl ⟨?_, ?_⟩) (by assumption) ?_
      rotate_left 2
      · (simp only [List.getElem?_toArray, List.getElem?_cons_succ, List.getElem?_cons_zero]; rfl)
      · first | exact fun _ _ _ h => h | exact fun _ _ _ h => nomatch h.1
      · rfl
      · (intro W hSW; (try dsimp only at hSW); go_split_ands; first | (go_simp; done) | (go_simp; with_reducible rfl))
      try simp only [Act.put, List.setIfInBounds_toArray, List.set_cons_zero, List.set_cons_succ]
      refine' wpAnyH_take (i := 8) (oi := _) (v := _) ?_ (by kernel_rfl) (by kernel_rfl) (by kernel_rfl) ?_ (Or.inl ⟨?_, ?_⟩) (by assumption) ?_
      rotate_left 2
      · (simp only [List.getElem?_toArray, List.getElem?_cons_succ, List.getElem?_cons_zero]; rfl)
      · first | exact fun _ _ _ h => h | exact fun _ _ _ h => nomatch h.1
      · rfl
      · (intro W hSW; (try dsimp only at hSW); go_split_ands; first | (go_simp; done) | (go_simp; with_reducible rfl))
      try simp only [Act.put, List.setIfInBounds_toArray, List.set_cons_zero, List.set_cons_succ]
      refine' wpAnyH_take (i := 9) (oi := _) (v := _) ?_ (by kernel_rfl) (by kernel_rfl) (by kernel_rfl) ?_ (Or.inl ⟨?_, ?_⟩) (by assumption) ?_
      rotate_left 2
      · (simp only [List.getElem?_toArray, List.getElem?_cons_succ, List.getElem?_cons_zero]; rfl)
      · first | exact fun _ _ _ h => h | exact fun _ _ _ h => nomatch h.1
      · rfl
      · (intro W hSW; (try dsimp only at hSW); go_split_ands; first | (go_simp; done) | (go_simp; with_reducible rfl))
      try simp only [Act.put, List.setIfInBounds_toArray, List.set_cons_zero, List.set_cons_succ]
      refine' wpAnyH_take (i := 13) (oi := _) (v := _) ?_ (by kernel_rfl) (by kernel_rfl) (by kernel_rfl) ?_ (Or.inl ⟨?_, ?_⟩) (by assumption) ?_
      rotate_left 2
      · (simp only [List.getElem?_toArray, List.getElem?_cons_succ, List.getElem?_cons_zero]; rfl)
      · first | exact fun _ _ _ h => h | exact fun _ _ _ h => nomatch h.1
      · rfl
      · (intro W hSW; (try dsimp only at hSW); go_split_ands; first | (go_simp; done) | (go_simp; with_reducible rfl))
      try simp only [Act.put, List.setIfInBounds_toArray, List.set_cons_zero, List.set_cons_succ]
      refine' wpAnyH_take (i := 14) (oi := _) (v := _) ?_ (by kernel_rfl) (by kernel_rfl) (by kernel_rfl) ?_ (Or.inl ⟨?_, ?_⟩) (by assumption) ?_
      rotate_left 2
      · (simp only [List.getElem?_toArray, List.getElem?_cons_succ, List.getElem?_cons_zero]; rfl)
      · first | exact fun _ _ _ h => h | exact fun _ _ _ h => nomatch h.1
      · rfl
      · (intro W hSW; (try dsimp only at hSW); go_split_ands; first | (go_simp; done) | (go_simp; with_reducible rfl))
      try simp only [Act.put, List.setIfInBounds_toArray, List.set_cons_zero, List.set_cons_succ]
      refine wpAnyH_done (by kernel_rfl) ?_ _
      go_wp2_with fail
      go_meet
      exact ⟨rfl, r1, hc⟩
  case rest =>
    clear r1 hc
    obtain ⟨rfl, r1, hc⟩ := hcut
    have y0 := r1.cell
    have y1 := r1.lt
    go_wp2_with fail
    go_returns
    exact ⟨rfl, by first | exact hc | (rw [← hp1]; exact hc)⟩

set_option maxHeartbeats 8000000 in
set_option maxRecDepth 20000 in
theorem rtext_4_3 (k i g tr nx : Int) (tag O Q A0 A1 B0 B1 B2 B3 E0 E1 D : ByteArray) (w : World)
    (c1 : ∀ w, Ret 13 #[rV k i g 4 3 tr nx tag] w (.int .i64 0))
    (c2 : ∀ w, Ret 43 #[.agg #[.int .i64 k, .int .i64 i, .int .u32 g]] w (.tuple #[.string O, .int .i64 0]))
    (c3 : ∀ w, Ret 44 #[.string tag] w (.tuple #[.string Q, .int .i64 0]))
    (a0 : Cat O spB A0) (a1 : Cat A0 sQuar A1) (b0 : Cat A1 spB B0) (b1 : Cat B0 sColl B1) (b2 : Cat B1 spB B2) (b3 : Cat B2 D B3) (e0 : Cat B3 spB E0) (e1 : Cat E0 Q E1) (c4 : ∀ w, Ret 45 #[.int .i64 tr] w (.string D)) :
    Ret 19 #[rV k i g 4 3 tr nx tag] w (.tuple #[.string E1, .int .i64 0]) := by
  have wl : IntKind.i64.wrap 2 = 2 := by decide
  have C1 := Lib.hid c1
  clear c1
  have C2 := Lib.hid c2
  clear c2
  have C3 := Lib.hid c3
  clear c3
  have C4 := Lib.hid c4
  clear c4
  go_enter Tryz.func19, Tryz.ntmps19
  go_wp2_with fail
  have r1 := Row.new (W := w) (cs := (rC k i g 4 3 tr nx tag)) (t := 28)
  have hc := (Below.refl w.heap.size w).alloc (Nat.le_refl _) (.cells (rC k i g 4 3 tr nx tag) 28)
  generalize w.alloc (.cells (rC k i g 4 3 tr nx tag) 28) = W at *
  generalize hp1 : w.heap.size = p1 at r1
  refine Calls.mono (C1.out _) ?_
  rintro e w1 ⟨rfl, hb⟩
  replace r1 := r1.on hb
  replace hc := chain hc hb
  clear hb
  have y0 := r1.cell
  have y1 := r1.lt
  go_wp2_with fail
  clear y0 y1
  refine Calls.mono (C2.out _) ?_
  rintro e w2 ⟨rfl, hb⟩
  replace r1 := r1.on hb
  replace hc := chain hc hb
  clear hb
  have y0 := r1.cell
  have y1 := r1.lt
  go_wp2_with fail
  clear y0 y1
  refine Calls.mono (C3.out _) ?_
  rintro e w3 ⟨rfl, hb⟩
  replace r1 := r1.on hb
  replace hc := chain hc hb
  clear hb
  have y0 := r1.cell
  have y1 := r1.lt
  go_upto_region 8 with fail
  clear y0 y1
  replace r1 := r1.on (below_alloc w3 (.cells #[.string sLive, .string sClos, .string sRele, .string sQuar] 9))
  replace hc := hc.alloc hc.size (.cells #[.string sLive, .string sClos, .string sRele, .string sQuar] 9)
  generalize w3.alloc (.cells #[.string sLive, .string sClos, .string sRele, .string sQuar] 9) = X0 at *
  go_cut [9] (fun v wx => v = .string B3 ∧ Row wx p1 (rC k i g 4 3 tr nx tag) 28 ∧ Below w.heap.size w wx)
  case first =>
    refine wp_region_held_drew (S := fun W' => (∀ j, W'.cell? ⟨p1, j, none⟩ = (rC k i g 4 3 tr nx tag)[j]?)) (by kernel_rfl) r1.cell (fun hHeld => ?_)
    replace r1 := r1.drew
    replace hc := hc.drew
    generalize X0.drew = X1 at *
    refine' wpAnyH_take (i := 0) (oi := _) (v := _) ?_ (by kernel_rfl) (by kernel_rfl) (by kernel_rfl) ?_ (Or.inl ⟨?_, ?_⟩) (by assumption) ?_
    rotate_left 2
    · (simp only [List.getElem?_toArray, List.getElem?_cons_succ, List.getElem?_cons_zero]; rfl)
    · first | exact fun _ _ _ h => h | exact fun _ _ _ h => nomatch h.1
    · rfl
    · (intro W hSW; (try dsimp only at hSW); go_split_ands; first | (go_simp; done) | (go_simp; with_reducible rfl))
    try simp only [Act.put, List.setIfInBounds_toArray, List.set_cons_zero, List.set_cons_succ]
    refine' wpAnyH_take (i := 1) (oi := _) (v := _) ?_ (by kernel_rfl) (by kernel_rfl) (by kernel_rfl) ?_ (Or.inl ⟨?_, ?_⟩) (by assumption) ?_
    rotate_left 2
    · (simp only [List.getElem?_toArray, List.getElem?_cons_succ, List.getElem?_cons_zero]; rfl)
    · first | exact fun _ _ _ h => h | exact fun _ _ _ h => nomatch h.1
    · rfl
    · (intro W hSW; (try dsimp only at hSW); go_split_ands; first | (go_simp; done) | (go_simp; with_reducible rfl))
    try simp only [Act.put, List.setIfInBounds_toArray, List.set_cons_zero, List.set_cons_succ]
    refine' wpAnyH_take (i := 3) (oi := _) (v := _) ?_ (by kernel_rfl) (by kernel_rfl) (by kernel_rfl) ?_ (Or.inl ⟨?_, ?_⟩) (by assumption) ?_
    rotate_left 2
    · (simp only [List.getElem?_toArray, List.getElem?_cons_succ, List.getElem?_cons_zero]; rfl)
    · first | exact fun _ _ _ h => h | exact fun _ _ _ h => nomatch h.1
    · rfl
    · (intro W hSW; (try dsimp only at hSW); go_split_ands; first | (go_simp; done) | (go_simp; with_reducible rfl))
    try simp only [Act.put, List.setIfInBounds_toArray, List.set_cons_zero, List.set_cons_succ]
    refine' wpAnyH_take (i := 4) (oi := _) (v := _) ?_ (by kernel_rfl) (by kernel_rfl) (by kernel_rfl) ?_ (Or.inl ⟨?_, ?_⟩) (by assumption) ?_
    rotate_left 2
    · (simp only [List.getElem?_toArray, List.getElem?_cons_succ, List.getElem?_cons_zero]; rfl)
    · first | exact fun _ _ _ h => h | exact fun _ _ _ h => nomatch h.1
    · rfl
    · (intro W hSW; (try dsimp only at hSW); go_split_ands; first | (go_simp; done) | (go_simp; with_reducible rfl))
    try simp only [Act.put, List.setIfInBounds_toArray, List.set_cons_zero, List.set_cons_succ]
    refine' wpAnyH_take (i := 5) (oi := _) (v := _) ?_ (by kernel_rfl) (by kernel_rfl) (by kernel_rfl) ?_ (Or.inl ⟨?_, ?_⟩) (by assumption) ?_
    rotate_left 2
    · (simp only [List.getElem?_toArray, List.getElem?_cons_succ, List.getElem?_cons_zero]; rfl)
    · first | exact fun _ _ _ h => h | exact fun _ _ _ h => nomatch h.1
    · rfl
    · (intro W hSW; (try dsimp only at hSW); go_split_ands; first | (go_simp; done) | (go_simp; with_reducible rfl))
    try simp only [Act.put, List.setIfInBounds_toArray, List.set_cons_zero, List.set_cons_succ]
    refine' wpAnyH_take (i := 10) (oi := _) (v := _) ?_ (by kernel_rfl) (by kernel_rfl) (by kernel_rfl) ?_ (Or.inl ⟨?_, ?_⟩) (by assumption) ?_
    rotate_left 2
    · (simp only [List.getElem?_toArray, List.getElem?_cons_succ, List.getElem?_cons_zero]; rfl)
    · first | exact fun _ _ _ h => h | exact fun _ _ _ h => nomatch h.1
    · rfl
    · (intro W hSW; (try dsimp only at hSW); go_split_ands; first | (go_simp; done) | (go_simp; with_reducible rfl))
    try simp only [Act.put, List.setIfInBounds_toArray, List.set_cons_zero, List.set_cons_succ]
    refine' wpAnyH_take (i := 11) (oi := _) (v := _) ?_ (by kernel_rfl) (by kernel_rfl) (by kernel_rfl) ?_ (Or.inl ⟨?_, ?_⟩) (by assumption) ?_
    rotate_left 2
    · (simp only [List.getElem?_toArray, List.getElem?_cons_succ, List.getElem?_cons_zero]; rfl)
    · first | exact fun _ _ _ h => h | exact fun _ _ _ h => nomatch h.1
    · rfl
    · (intro W hSW; (try dsimp only at hSW); go_split_ands; first | (go_simp; done) | (go_simp; with_reducible rfl))
    try simp only [Act.put, List.setIfInBounds_toArray, List.set_cons_zero, List.set_cons_succ]
    clear hHeld
    refine wpAnyH_ready (rs := [2, 12]) (by kernel_rfl) (by simp) ?_
    refine' AllReadyH.cons (o := _) (by simp only [List.getElem?_toArray, List.getElem?_cons_succ, List.getElem?_cons_zero]; rfl) (fun K hK => ?_) (AllReadyH.cons (o := _) (by simp only [List.getElem?_toArray, List.getElem?_cons_succ, List.getElem?_cons_zero]; rfl) (fun K hK => ?_) AllReadyH.nil)
    · go_simp
      have hn := below_alloc X1 (.cells #[.string sClose, .string sExpi, .string sColl] 9)
      have r2 := Row.new (W := X1) (cs := #[.string sClose, .string sExpi, .string sColl]) (t := 9)
      replace r1 := r1.on hn
      replace hc := chain hc hn
      clear hn
      generalize X1.alloc (.cells #[.string sClose, .string sExpi, .string sColl] 9) = X2 at *
      generalize X1.heap.size = a2 at *
      refine hK.out _ _ r1.cell (fun _ => ?_)
      clear hK K
      refine wpAnyH_more (S' := fun W' => (∀ j, W'.cell? ⟨p1, j, none⟩ = (rC k i g 4 3 tr nx tag)[j]?) ∧ (∀ j, W'.cell? ⟨a2, j, none⟩ = (#[.string sClose, .string sExpi, .string sColl] : Array Value)[j]?)) (fun _ h => h.1) ⟨r1.cell, r2.cell⟩ (fun hHeld => ?_)
      refine' wpAnyH_take (i := 6) (oi := _) (v := _) ?_ (by kernel_rfl) (by kernel_rfl) (by kernel_rfl) ?_ (Or.inl ⟨?_, ?_⟩) (by assumption) ?_
      rotate_left 2
      · (simp only [List.getElem?_toArray, List.getElem?_cons_succ, List.getElem?_cons_zero]; rfl)
      · first | exact fun _ _ _ h => h | exact fun _ _ _ h => nomatch h.1
      · rfl
      · (intro W hSW; (try dsimp only at hSW); go_split_ands; first | (go_simp; done) | (go_simp; with_reducible rfl))
      try simp only [Act.put, List.setIfInBounds_toArray, List.set_cons_zero, List.set_cons_succ]
      refine' wpAnyH_take (i := 7) (oi := _) (v := _) ?_ (by kernel_rfl) (by kernel_rfl) (by kernel_rfl) ?_ (Or.inl ⟨?_, ?_⟩) (by assumption) ?_
      rotate_left 2
      · (simp only [List.getElem?_toArray, List.getElem?_cons_succ, List.getElem?_cons_zero]; rfl)
      · first | exact fun _ _ _ h => h | exact fun _ _ _ h => nomatch h.1
      · rfl
      · (intro W hSW; (try dsimp only at hSW); go_split_ands; first | (go_simp; done) | (go_simp; with_reducible rfl))
      try simp only [Act.put, List.setIfInBounds_toArray, List.set_cons_zero, List.set_cons_succ]
      refine' wpAnyH_take (i := 8) (oi := _) (v := _) ?_ (by kernel_rfl) (by kernel_rfl) (by kernel_rfl) ?_ (Or.inl ⟨?_, ?_⟩) (by assumption) ?_
      rotate_left 2
      · (simp only [List.getElem?_toArray, List.getElem?_cons_succ, List.getElem?_cons_zero]; rfl)
      · first | exact fun _ _ _ h => h | exact fun _ _ _ h => nomatch h.1
      · rfl
      · (intro W hSW; (try dsimp only at hSW); go_split_ands; first | (go_simp; done) | (go_simp; with_reducible rfl))
      try simp only [Act.put, List.setIfInBounds_toArray, List.set_cons_zero, List.set_cons_succ]
      refine' wpAnyH_take (i := 9) (oi := _) (v := _) ?_ (by kernel_rfl) (by kernel_rfl) (by kernel_rfl) ?_ (Or.inl ⟨?_, ?_⟩) (by assumption) ?_
      rotate_left 2
      · (simp only [List.getElem?_toArray, List.getElem?_cons_succ, List.getElem?_cons_zero]; rfl)
      · first | exact fun _ _ _ h => h | exact fun _ _ _ h => nomatch h.1
      · rfl
      · (intro W hSW; (try dsimp only at hSW); go_split_ands; first | (go_simp; done) | (go_simp; with_reducible rfl))
      try simp only [Act.put, List.setIfInBounds_toArray, List.set_cons_zero, List.set_cons_succ]
      clear hHeld
      refine wpAnyH_ready (rs := [12]) (by kernel_rfl) (by simp) ?_
      refine' AllReadyH.cons (o := _) (by simp only [List.getElem?_toArray, List.getElem?_cons_succ, List.getElem?_cons_zero]; rfl) (fun K hK => ?_) AllReadyH.nil
      go_simp
      refine Calls.mono (C4.out _) ?_
      rintro e X3 ⟨rfl, hn⟩
      replace r1 := r1.on hn
      replace r2 := r2.on hn
      replace hc := chain hc hn
      clear hn
      go_simp
      refine hK.out _ _ ⟨r1.cell, r2.cell⟩ (fun hHeld => ?_)
      clear hK K
      refine' wpAnyH_take (i := 13) (oi := _) (v := _) ?_ (by kernel_rfl) (by kernel_rfl) (by kernel_rfl) ?_ (Or.inl ⟨?_, ?_⟩) (by assumption) ?_
      rotate_left 2
      · (simp only [List.getElem?_toArray, List.getElem?_cons_succ, List.getElem?_cons_zero]; rfl)
      · first | exact fun _ _ _ h => h | exact fun _ _ _ h => nomatch h.1
      · rfl
      · (intro W hSW; (try dsimp only at hSW); go_split_ands; first | (go_simp; done) | (go_simp; with_reducible rfl))
      try simp only [Act.put, List.setIfInBounds_toArray, List.set_cons_zero, List.set_cons_succ]
      refine' wpAnyH_take (i := 14) (oi := _) (v := _) ?_ (by kernel_rfl) (by kernel_rfl) (by kernel_rfl) ?_ (Or.inl ⟨?_, ?_⟩) (by assumption) ?_
      rotate_left 2
      · (simp only [List.getElem?_toArray, List.getElem?_cons_succ, List.getElem?_cons_zero]; rfl)
      · first | exact fun _ _ _ h => h | exact fun _ _ _ h => nomatch h.1
      · rfl
      · (intro W hSW; (try dsimp only at hSW); go_split_ands; first | (go_simp; done) | (go_simp; with_reducible rfl))
      try simp only [Act.put, List.setIfInBounds_toArray, List.set_cons_zero, List.set_cons_succ]
      refine wpAnyH_done (by kernel_rfl) ?_ _
      go_wp2_with fail
      go_meet
      exact ⟨rfl, r1, hc⟩
    · go_simp
      refine Calls.mono (C4.out _) ?_
      rintro e X3 ⟨rfl, hn⟩
      replace r1 := r1.on hn
      replace hc := chain hc hn
      clear hn
      go_simp
      refine hK.out _ _ r1.cell (fun hHeld => ?_)
      clear hK K hHeld
      refine wpAnyH_ready (rs := [2]) (by kernel_rfl) (by simp) ?_
      refine' AllReadyH.cons (o := _) (by simp only [List.getElem?_toArray, List.getElem?_cons_succ, List.getElem?_cons_zero]; rfl) (fun K hK => ?_) AllReadyH.nil
      go_simp
      have hn := below_alloc X3 (.cells #[.string sClose, .string sExpi, .string sColl] 9)
      have r2 := Row.new (W := X3) (cs := #[.string sClose, .string sExpi, .string sColl]) (t := 9)
      replace r1 := r1.on hn
      replace hc := chain hc hn
      clear hn
      generalize X3.alloc (.cells #[.string sClose, .string sExpi, .string sColl] 9) = X4 at *
      generalize X3.heap.size = a2 at *
      refine hK.out _ _ r1.cell (fun _ => ?_)
      clear hK K
      refine wpAnyH_more (S' := fun W' => (∀ j, W'.cell? ⟨p1, j, none⟩ = (rC k i g 4 3 tr nx tag)[j]?) ∧ (∀ j, W'.cell? ⟨a2, j, none⟩ = (#[.string sClose, .string sExpi, .string sColl] : Array Value)[j]?)) (fun _ h => h.1) ⟨r1.cell, r2.cell⟩ (fun hHeld => ?_)
      refine' wpAnyH_take (i := 6) (oi := _) (v := _) ?_ (by kernel_rfl) (by kernel_rfl) (by kernel_rfl) ?_ (Or.inl ⟨?_, ?_⟩) (by assumption) ?_
      rotate_left 2
      · (simp only [List.getElem?_toArray, List.getElem?_cons_succ, List.getElem?_cons_zero]; rfl)
      · first | exact fun _ _ _ h => h | exact fun _ _ _ h => nomatch h.1
      · rfl
      · (intro W hSW; (try dsimp only at hSW); go_split_ands; first | (go_simp; done) | (go_simp; with_reducible rfl))
      try simp only [Act.put, List.setIfInBounds_toArray, List.set_cons_zero, List.set_cons_succ]
      refine' wpAnyH_take (i := 7) (oi := _) (v := _) ?_ (by kernel_rfl) (by kernel_rfl) (by kernel_rfl) ?_ (Or.inl ⟨?_, ?_⟩) (by assumption) ?_
      rotate_left 2
      · (simp only [List.getElem?_toArray, List.getElem?_cons_succ, List.getElem?_cons_zero]; rfl)
      · first | exact fun _ _ _ h => h | exact fun _ _ _ h => nomatch h.1
      · rfl
      · (intro W hSW; (try dsimp only at hSW); go_split_ands; first | (go_simp; done) | (go_simp; with_reducible rfl))
      try simp only [Act.put, List.setIfInBounds_toArray, List.set_cons_zero, List.set_cons_succ]
      refine' wpAnyH_take (i := 8) (oi := _) (v := _) ?_ (by kernel_rfl) (by kernel_rfl) (by kernel_rfl) ?_ (Or.inl ⟨?_, ?_⟩) (by assumption) ?_
      rotate_left 2
      · (simp only [List.getElem?_toArray, List.getElem?_cons_succ, List.getElem?_cons_zero]; rfl)
      · first | exact fun _ _ _ h => h | exact fun _ _ _ h => nomatch h.1
      · rfl
      · (intro W hSW; (try dsimp only at hSW); go_split_ands; first | (go_simp; done) | (go_simp; with_reducible rfl))
      try simp only [Act.put, List.setIfInBounds_toArray, List.set_cons_zero, List.set_cons_succ]
      refine' wpAnyH_take (i := 9) (oi := _) (v := _) ?_ (by kernel_rfl) (by kernel_rfl) (by kernel_rfl) ?_ (Or.inl ⟨?_, ?_⟩) (by assumption) ?_
      rotate_left 2
      · (simp only [List.getElem?_toArray, List.getElem?_cons_succ, List.getElem?_cons_zero]; rfl)
      · first | exact fun _ _ _ h => h | exact fun _ _ _ h => nomatch h.1
      · rfl
      · (intro W hSW; (try dsimp only at hSW); go_split_ands; first | (go_simp; done) | (go_simp; with_reducible rfl))
      try simp only [Act.put, List.setIfInBounds_toArray, List.set_cons_zero, List.set_cons_succ]
      refine' wpAnyH_take (i := 13) (oi := _) (v := _) ?_ (by kernel_rfl) (by kernel_rfl) (by kernel_rfl) ?_ (Or.inl ⟨?_, ?_⟩) (by assumption) ?_
      rotate_left 2
      · (simp only [List.getElem?_toArray, List.getElem?_cons_succ, List.getElem?_cons_zero]; rfl)
      · first | exact fun _ _ _ h => h | exact fun _ _ _ h => nomatch h.1
      · rfl
      · (intro W hSW; (try dsimp only at hSW); go_split_ands; first | (go_simp; done) | (go_simp; with_reducible rfl))
      try simp only [Act.put, List.setIfInBounds_toArray, List.set_cons_zero, List.set_cons_succ]
      refine' wpAnyH_take (i := 14) (oi := _) (v := _) ?_ (by kernel_rfl) (by kernel_rfl) (by kernel_rfl) ?_ (Or.inl ⟨?_, ?_⟩) (by assumption) ?_
      rotate_left 2
      · (simp only [List.getElem?_toArray, List.getElem?_cons_succ, List.getElem?_cons_zero]; rfl)
      · first | exact fun _ _ _ h => h | exact fun _ _ _ h => nomatch h.1
      · rfl
      · (intro W hSW; (try dsimp only at hSW); go_split_ands; first | (go_simp; done) | (go_simp; with_reducible rfl))
      try simp only [Act.put, List.setIfInBounds_toArray, List.set_cons_zero, List.set_cons_succ]
      refine wpAnyH_done (by kernel_rfl) ?_ _
      go_wp2_with fail
      go_meet
      exact ⟨rfl, r1, hc⟩
  case rest =>
    clear r1 hc
    obtain ⟨rfl, r1, hc⟩ := hcut
    have y0 := r1.cell
    have y1 := r1.lt
    go_wp2_with fail
    go_returns
    exact ⟨rfl, by first | exact hc | (rw [← hp1]; exact hc)⟩

end Go.Proofs.YtgckfiadnmjonaaGreatDoor
