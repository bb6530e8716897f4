/- The program's small functions on resources, and possible: their contracts. -/
import Derived.Test.YtkjpdciccablpaaGreatDoorL0a
import Derived.Deep.DeepCutAuto
namespace Go.Proofs.YtkjpdciccablpaaGreatDoor
open Go.RowKit
set_option linter.unusedVariables false
set_option linter.unusedSimpArgs false
theorem Row.drew {W : World} {x : Nat} {cs : Array Value} {t : TypeId} (h : Row W x cs t) : Row W.drew x cs t := ⟨h.eq⟩

theorem in_c (n a b : Int) (w : World) : Ret 71 #[.int .i64 n, .int .i64 a, .int .i64 b] w (.bool (inB n a b)) := by
  unfold inB
  by_cases h : a ≤ n
  · rw [decide_eq_true h]
    go_enter Tryz.func71, Tryz.ntmps71
    go_wp2_with fail
    go_returns
    exact ⟨rfl, Below.refl _ _⟩
  · rw [decide_eq_false h]
    go_enter Tryz.func71, Tryz.ntmps71
    go_wp2_with fail
    go_returns
    exact ⟨rfl, Below.refl _ _⟩
theorem isTime_c (n : Int) (w : World) : Ret 72 #[.int .i64 n] w (.bool (isT n)) := by
  have c := fun w => in_c n 0 1099511627776 w
  rw [show inB n 0 1099511627776 = isT n from rfl] at c
  have C := Lib.hid c
  clear c
  go_enter Tryz.func72, Tryz.ntmps72
  go_wp2_with fail
  refine Calls.mono (C.out _) ?_
  rintro e w1 ⟨rfl, hb⟩
  go_wp2_with fail
  go_returns
  exact ⟨rfl, hb⟩
abbrev sLive : ByteArray := ⟨#[108, 105, 118, 101]⟩
abbrev sClos : ByteArray := ⟨#[99, 108, 111, 115, 105, 110, 103]⟩
abbrev sRele : ByteArray := ⟨#[114, 101, 108, 101, 97, 115, 101, 100]⟩
abbrev sQuar : ByteArray := ⟨#[113, 117, 97, 114, 97, 110, 116, 105, 110, 101]⟩
abbrev shapesV : Value := .agg #[.string ⟨#[]⟩, .int .i64 0, .bool false, .string sLive, .int .i64 0, .bool false, .string sClos, .int .i64 3, .bool true, .string sRele, .int .i64 3, .bool false, .string sQuar, .int .i64 3, .bool false]
set_option maxHeartbeats 4000000 in
set_option maxRecDepth 20000 in
theorem shapes_c (w : World) : Ret 111 #[] w shapesV := by
  go_enter Tryz.func111, Tryz.ntmps111
  go_wp2_with fail
  go_returns
  exact ⟨rfl, by go_grown⟩
abbrev sClose : ByteArray := ⟨#[99, 108, 111, 115, 101]⟩
abbrev sExpi : ByteArray := ⟨#[101, 120, 112, 105, 114, 121]⟩
abbrev sColl : ByteArray := ⟨#[99, 111, 108, 108, 101, 99, 116]⟩
abbrev reasonsV : Value := .agg #[.string ⟨#[]⟩, .string sClose, .string sExpi, .string sColl]
theorem shIdx0 : ∀ w, (Instr.index 190 shapesV (.int .i64 0)).run Tryz.prog w = .ok (.agg #[.string ⟨#[]⟩, .int .i64 0, .bool false]) w := fun _ => by kernel_rfl
theorem shIdx1 : ∀ w, (Instr.index 190 shapesV (.int .i64 1)).run Tryz.prog w = .ok (.agg #[.string sLive, .int .i64 0, .bool false]) w := fun _ => by kernel_rfl
theorem shIdx2 : ∀ w, (Instr.index 190 shapesV (.int .i64 2)).run Tryz.prog w = .ok (.agg #[.string sClos, .int .i64 3, .bool true]) w := fun _ => by kernel_rfl
theorem shIdx3 : ∀ w, (Instr.index 190 shapesV (.int .i64 3)).run Tryz.prog w = .ok (.agg #[.string sRele, .int .i64 3, .bool false]) w := fun _ => by kernel_rfl
theorem shIdx4 : ∀ w, (Instr.index 190 shapesV (.int .i64 4)).run Tryz.prog w = .ok (.agg #[.string sQuar, .int .i64 3, .bool false]) w := fun _ => by kernel_rfl
set_option maxHeartbeats 4000000 in
set_option maxRecDepth 20000 in
theorem poss_d (k i g st wy tr nx : Int) (tag : ByteArray) (w : World) (g0 : 0 ≤ g) (g1 : g ≤ 4294967295) (hd : dOk 64 k i g = false ∨ inB st 1 4 = false) : Ret 96 #[rV k i g st wy tr nx tag] w (.bool false) := by
  have c := fun w => o_check k i g w g0 g1
  by_cases hk : dOk 64 k i g = false
  · rw [dErr_bad hk] at c
    have C := Lib.hid c
    clear c
    go_enter Tryz.func96, Tryz.ntmps96
    go_wp2_with fail
    refine Calls.mono (C.out _) ?_
    rintro e w1 ⟨rfl, hb⟩
    go_wp2_with fail
    go_returns
    exact ⟨rfl, under hb⟩
  · have hk2 : dOk 64 k i g = true := by cases h : dOk 64 k i g; exact absurd h hk; rfl
    rw [dErr_ok hk2] at c
    have C := Lib.hid c
    clear c
    have hs := hd.resolve_left hk
    have hst : st < 1 ∨ 4 < st := by
      rcases Int.lt_or_le st 1 with h | h
      · exact .inl h
      · rcases Int.lt_or_le 4 st with h' | h'
        · exact .inr h'
        · rw [inB_iff.2 ⟨h, h'⟩] at hs
          cases hs
    rcases hst with h | h
    · have p1 : decide (st < 1) = true := decide_eq_true h
      go_enter Tryz.func96, Tryz.ntmps96
      go_wp2_with fail
      refine Calls.mono (C.out _) ?_
      rintro e w1 ⟨rfl, hb⟩
      have y := (Row.new (W := w) (cs := rC k i g st wy tr nx tag) (t := 91)).on hb
      have y0 := y.cell
      have y1 := y.lt
      go_wp2_with fail
      go_returns
      exact ⟨rfl, under hb⟩
    · have p1 : decide (st < 1) = false := decide_eq_false (by omega)
      have p2 : decide ((4 : Int) < st) = true := decide_eq_true h
      go_enter Tryz.func96, Tryz.ntmps96
      go_wp2_with fail
      refine Calls.mono (C.out _) ?_
      rintro e w1 ⟨rfl, hb⟩
      have y := (Row.new (W := w) (cs := rC k i g st wy tr nx tag) (t := 91)).on hb
      have y0 := y.cell
      have y1 := y.lt
      go_wp2_with fail
      go_returns
      exact ⟨rfl, under hb⟩
set_option maxHeartbeats 8000000 in
set_option maxRecDepth 20000 in
theorem poss_a (k i g st wy tr nx : Int) (tag nm : ByteArray) (wc least : Int) (go : Bool) (w : World) (g0 : 0 ≤ g) (g1 : g ≤ 4294967295) (hd : dOk 64 k i g = true) (hst : 1 ≤ st ∧ st ≤ 4) (hm : min wc 1 = least) (hl : least = 0 ∨ least = 1)
    (hix : ∀ w, (Instr.index 190 shapesV (.int .i64 st)).run Tryz.prog w = .ok (.agg #[.string nm, .int .i64 wc, .bool go]) w) (hA : inB wy least wc = false) :
    Ret 96 #[rV k i g st wy tr nx tag] w (.bool false) := by
  have c := fun w => o_check k i g w g0 g1
  rw [dErr_ok hd] at c
  have C := Lib.hid c
  have c2 := fun w => in_c wy least wc w
  rw [hA] at c2
  have C2 := Lib.hid c2
  clear c c2
  have p1 : decide (st < 1) = false := decide_eq_false (by omega)
  have p2 : decide ((4 : Int) < st) = false := decide_eq_false (by omega)
  have wl : IntKind.i64.wrap (10000 * least) = 10000 * least := IntWalk.i64_in _ ⟨by omega, by omega⟩
  clear hl
  go_enter Tryz.func96, Tryz.ntmps96
  go_wp2_with fail
  refine Calls.mono (C.out _) ?_
  rintro e w1 ⟨rfl, hb⟩
  have r1 := (Row.new (W := w) (cs := rC k i g st wy tr nx tag) (t := 91)).on hb
  have hc : Below w.heap.size w w1 := under hb
  clear hb
  have y0 := r1.cell
  have y1 := r1.lt
  go_wp2_with fail
  clear y0 y1
  generalize hp1 : w.heap.size = p1' at r1
  have hpw : w.heap.size ≤ w.heap.size := Nat.le_refl _
  go_cut [3] (fun v wx => ∃ x2, v = .pointer (some ⟨x2, 0, none⟩) ∧ Row wx p1' (rC k i g st wy tr nx tag) 91 ∧ Row wx x2 #[.string nm, .int .i64 wc, .bool go] 189 ∧ Below w.heap.size w wx)
  case first =>
    subst hp1
    refine wp_region_held_drew (S := fun W' => (∀ j, W'.cell? ⟨w.heap.size, j, none⟩ = (rC k i g st wy tr nx tag)[j]?)) (by kernel_rfl) r1.cell (fun hHeld => ?_)
    replace r1 := r1.drew
    replace hc := hc.drew
    generalize w1.drew = W_0 at *
    refine' wpAnyH_take (i := 1) (oi := _) (v := _) ?_ (by kernel_rfl) (by kernel_rfl) (by kernel_rfl) ?_ (Or.inl ⟨?_, ?_⟩) (by assumption) ?_
    rotate_left 2
    · (simp only [List.getElem?_toArray, List.getElem?_cons_succ, List.getElem?_cons_zero]; rfl)
    · first | exact fun _ _ _ h => h | exact fun _ _ _ h => nomatch h.1
    · rfl
    · (intro W hSW; (try dsimp only at hSW); go_split_ands; first | (go_simp; done) | (go_simp; with_reducible rfl))
    try simp only [Act.put, List.setIfInBounds_toArray, List.set_cons_zero, List.set_cons_succ]
    refine' wpAnyH_take (i := 2) (oi := _) (v := _) ?_ (by kernel_rfl) (by kernel_rfl) (by kernel_rfl) ?_ (Or.inl ⟨?_, ?_⟩) (by assumption) ?_
    rotate_left 2
    · (simp only [List.getElem?_toArray, List.getElem?_cons_succ, List.getElem?_cons_zero]; rfl)
    · first | exact fun _ _ _ h => h | exact fun _ _ _ h => nomatch h.1
    · rfl
    · (intro W hSW; (try dsimp only at hSW); go_split_ands; first | (go_simp; done) | (go_simp; with_reducible rfl))
    try simp only [Act.put, List.setIfInBounds_toArray, List.set_cons_zero, List.set_cons_succ]
    clear hHeld
    refine wpAnyH_ready (rs := [0, 4]) (by kernel_rfl) (by simp) ?_
    refine' AllReadyH.cons (o := _) (by simp only [List.getElem?_toArray, List.getElem?_cons_succ, List.getElem?_cons_zero]; rfl) (fun K hK => ?_) (AllReadyH.cons (o := _) (by simp only [List.getElem?_toArray, List.getElem?_cons_succ, List.getElem?_cons_zero]; rfl) (fun K hK => ?_) AllReadyH.nil)
    · go_simp
      refine Calls.mono (shapes_c _) ?_
      rintro e W_1 ⟨rfl, hn⟩
      replace r1 := r1.on hn
      replace hc := chain hc hn
      clear hn
      go_simp
      refine hK.out _ _ r1.cell (fun hHeld => ?_)
      clear hK K
      refine' wpAnyH_take (i := 3) (oi := _) (v := _) ?_ (by kernel_rfl) (by kernel_rfl) (by kernel_rfl) ?_ (Or.inl ⟨?_, ?_⟩) (by assumption) ?_
      rotate_left 2
      · (simp only [List.getElem?_toArray, List.getElem?_cons_succ, List.getElem?_cons_zero]; rfl)
      · first | exact fun _ _ _ h => h | exact fun _ _ _ h => nomatch h.1
      · rfl
      · (intro W hSW; (try dsimp only at hSW); go_split_ands; first | (go_simp; done) | (go_simp; with_reducible rfl))
      try simp only [Act.put, List.setIfInBounds_toArray, List.set_cons_zero, List.set_cons_succ]
      clear hHeld
      refine wpAnyH_ready (rs := [4]) (by kernel_rfl) (by simp) ?_
      refine' AllReadyH.cons (o := _) ?_ (fun K hK => ?_) AllReadyH.nil
      rotate_left 1
      · (simp only [List.getElem?_toArray, List.getElem?_cons_succ, List.getElem?_cons_zero]; rfl)
      go_simp
      have hn := below_alloc W_1 (.cells #[.string ⟨#[]⟩, .int .i64 0, .bool false] 189)
      have r2 := Row.new (W := W_1) (cs := #[.string ⟨#[]⟩, .int .i64 0, .bool false]) (t := 189)
      have hxy : W_1.heap.size ≠ w.heap.size := Nat.ne_of_gt r1.lt
      have hx2 : w.heap.size ≤ W_1.heap.size := hc.size
      replace r1 := r1.on hn
      replace hc := chain hc hn
      clear hn
      generalize W_1.alloc (.cells #[.string ⟨#[]⟩, .int .i64 0, .bool false] 189) = W_2 at *
      generalize W_1.heap.size = x2 at *
      refine hK.out _ _ r1.cell (fun _ => ?_)
      clear hK K
      have y0 := r2.cell
      have y1 := r2.free
      have y2 := r2.lt
      refine wpAnyH_ready (rs := [5]) (by kernel_rfl) (by simp) ?_
      refine' AllReadyH.cons (o := _) ?_ (fun K hK => ?_) AllReadyH.nil
      rotate_left 1
      · (simp only [List.getElem?_toArray, List.getElem?_cons_succ, List.getElem?_cons_zero]; rfl)
      go_simp
      clear y0 y1 y2
      replace r1 := ((r1.other hxy 0 (.string nm)).other hxy 1 (.int .i64 wc)).other hxy 2 (.bool go)
      replace r2 := ((r2.set 0 (.string nm)).set 1 (.int .i64 wc)).set 2 (.bool go)
      replace hc := ((hc.setCell (p := ⟨x2, 0, none⟩) hx2 (.string nm)).setCell (p := ⟨x2, 1, none⟩) hx2 (.int .i64 wc)).setCell (p := ⟨x2, 2, none⟩) hx2 (.bool go)
      simp only [List.setIfInBounds_toArray, List.set_cons_zero, List.set_cons_succ] at r2
      generalize hW : World.setCell _ _ _ = V at *
      clear hW
      refine hK.out _ _ r1.cell (fun _ => ?_)
      clear hK K
      refine wpAnyH_done (by kernel_rfl) ?_ _
      go_wp2_with fail
      go_meet
      exact ⟨_, rfl, r1, r2, hc⟩
    · go_simp
      have hn := below_alloc W_0 (.cells #[.string ⟨#[]⟩, .int .i64 0, .bool false] 189)
      have r2 := Row.new (W := W_0) (cs := #[.string ⟨#[]⟩, .int .i64 0, .bool false]) (t := 189)
      have hxy : W_0.heap.size ≠ w.heap.size := Nat.ne_of_gt r1.lt
      have hx2 : w.heap.size ≤ W_0.heap.size := hc.size
      replace r1 := r1.on hn
      replace hc := chain hc hn
      clear hn
      generalize W_0.alloc (.cells #[.string ⟨#[]⟩, .int .i64 0, .bool false] 189) = W_2 at *
      generalize W_0.heap.size = x2 at *
      refine hK.out _ _ r1.cell (fun _ => ?_)
      clear hK K
      refine wpAnyH_ready (rs := [0]) (by kernel_rfl) (by simp) ?_
      refine' AllReadyH.cons (o := _) ?_ (fun K hK => ?_) AllReadyH.nil
      rotate_left 1
      · (simp only [List.getElem?_toArray, List.getElem?_cons_succ, List.getElem?_cons_zero]; rfl)
      go_simp
      refine Calls.mono (shapes_c _) ?_
      rintro e W_3 ⟨rfl, hn⟩
      replace r1 := r1.on hn
      replace r2 := r2.on hn
      replace hc := chain hc hn
      clear hn
      go_simp
      refine hK.out _ _ r1.cell (fun _ => ?_)
      clear hK K
      refine' wpAnyH_take (i := 3) (oi := _) (v := _) ?_ (by kernel_rfl) (by kernel_rfl) (by kernel_rfl) ?_ (Or.inl ⟨?_, ?_⟩) (by assumption) ?_
      rotate_left 2
      · (simp only [List.getElem?_toArray, List.getElem?_cons_succ, List.getElem?_cons_zero]; rfl)
      · first | exact fun _ _ _ h => h | exact fun _ _ _ h => nomatch h.1
      · rfl
      · (intro W hSW; (try dsimp only at hSW); go_split_ands; first | (go_simp; done) | (go_simp; with_reducible rfl))
      try simp only [Act.put, List.setIfInBounds_toArray, List.set_cons_zero, List.set_cons_succ]
      have y0 := r2.cell
      have y1 := r2.free
      have y2 := r2.lt
      refine wpAnyH_ready (rs := [5]) (by kernel_rfl) (by simp) ?_
      refine' AllReadyH.cons (o := _) ?_ (fun K hK => ?_) AllReadyH.nil
      rotate_left 1
      · (simp only [List.getElem?_toArray, List.getElem?_cons_succ, List.getElem?_cons_zero]; rfl)
      go_simp
      clear y0 y1 y2
      replace r1 := ((r1.other hxy 0 (.string nm)).other hxy 1 (.int .i64 wc)).other hxy 2 (.bool go)
      replace r2 := ((r2.set 0 (.string nm)).set 1 (.int .i64 wc)).set 2 (.bool go)
      replace hc := ((hc.setCell (p := ⟨x2, 0, none⟩) hx2 (.string nm)).setCell (p := ⟨x2, 1, none⟩) hx2 (.int .i64 wc)).setCell (p := ⟨x2, 2, none⟩) hx2 (.bool go)
      simp only [List.setIfInBounds_toArray, List.set_cons_zero, List.set_cons_succ] at r2
      generalize hW : World.setCell _ _ _ = V at *
      clear hW
      refine hK.out _ _ r1.cell (fun _ => ?_)
      clear hK K
      refine wpAnyH_done (by kernel_rfl) ?_ _
      go_wp2_with fail
      go_meet
      exact ⟨_, rfl, r1, r2, hc⟩
  case rest =>
    clear r1 hc
    obtain ⟨x2, rfl, r1, r2, hc⟩ := hcut
    have y0 := r1.cell
    have y1 := r1.lt
    have y2 := r2.cell
    have y3 := r2.lt
    go_wp2_with fail
    clear y0 y1 y2 y3
    refine Calls.mono (C2.out _) ?_
    rintro e w2 ⟨rfl, hb⟩
    replace r1 := r1.on hb
    replace r2 := r2.on hb
    replace hc := chain hc hb
    clear hb
    have y0 := r1.cell
    have y1 := r1.lt
    have y2 := r2.cell
    have y3 := r2.lt
    go_wp2_with fail
    go_returns
    exact ⟨rfl, hc⟩
set_option maxHeartbeats 8000000 in
set_option maxRecDepth 20000 in
theorem poss_b (k i g st wy tr nx : Int) (tag nm : ByteArray) (wc least : Int) (go : Bool) (w : World) (g0 : 0 ≤ g) (g1 : g ≤ 4294967295) (hd : dOk 64 k i g = true) (hst : 1 ≤ st ∧ st ≤ 4) (hm : min wc 1 = least) (hl : least = 0 ∨ least = 1)
    (hix : ∀ w, (Instr.index 190 shapesV (.int .i64 st)).run Tryz.prog w = .ok (.agg #[.string nm, .int .i64 wc, .bool go]) w) (hA : inB wy least wc = true) (hB : inB tr 0 (10000 * least) = false) :
    Ret 96 #[rV k i g st wy tr nx tag] w (.bool false) := by
  have c := fun w => o_check k i g w g0 g1
  rw [dErr_ok hd] at c
  have C := Lib.hid c
  have c2 := fun w => in_c wy least wc w
  rw [hA] at c2
  have C2 := Lib.hid c2
  clear c c2
  have c3 := fun w => in_c tr 0 (10000 * least) w
  rw [hB] at c3
  have C3 := Lib.hid c3
  clear c3
  have p1 : decide (st < 1) = false := decide_eq_false (by omega)
  have p2 : decide ((4 : Int) < st) = false := decide_eq_false (by omega)
  have wl : IntKind.i64.wrap (10000 * least) = 10000 * least := IntWalk.i64_in _ ⟨by omega, by omega⟩
  clear hl
  go_enter Tryz.func96, Tryz.ntmps96
  go_wp2_with fail
  refine Calls.mono (C.out _) ?_
  rintro e w1 ⟨rfl, hb⟩
  have r1 := (Row.new (W := w) (cs := rC k i g st wy tr nx tag) (t := 91)).on hb
  have hc : Below w.heap.size w w1 := under hb
  clear hb
  have y0 := r1.cell
  have y1 := r1.lt
  go_wp2_with fail
  clear y0 y1
  generalize hp1 : w.heap.size = p1' at r1
  have hpw : w.heap.size ≤ w.heap.size := Nat.le_refl _
  go_cut [3] (fun v wx => ∃ x2, v = .pointer (some ⟨x2, 0, none⟩) ∧ Row wx p1' (rC k i g st wy tr nx tag) 91 ∧ Row wx x2 #[.string nm, .int .i64 wc, .bool go] 189 ∧ Below w.heap.size w wx)
  case first =>
    subst hp1
    refine wp_region_held_drew (S := fun W' => (∀ j, W'.cell? ⟨w.heap.size, j, none⟩ = (rC k i g st wy tr nx tag)[j]?)) (by kernel_rfl) r1.cell (fun hHeld => ?_)
    replace r1 := r1.drew
    replace hc := hc.drew
    generalize w1.drew = W_0 at *
    refine' wpAnyH_take (i := 1) (oi := _) (v := _) ?_ (by kernel_rfl) (by kernel_rfl) (by kernel_rfl) ?_ (Or.inl ⟨?_, ?_⟩) (by assumption) ?_
    rotate_left 2
    · (simp only [List.getElem?_toArray, List.getElem?_cons_succ, List.getElem?_cons_zero]; rfl)
    · first | exact fun _ _ _ h => h | exact fun _ _ _ h => nomatch h.1
    · rfl
    · (intro W hSW; (try dsimp only at hSW); go_split_ands; first | (go_simp; done) | (go_simp; with_reducible rfl))
    try simp only [Act.put, List.setIfInBounds_toArray, List.set_cons_zero, List.set_cons_succ]
    refine' wpAnyH_take (i := 2) (oi := _) (v := _) ?_ (by kernel_rfl) (by kernel_rfl) (by kernel_rfl) ?_ (Or.inl ⟨?_, ?_⟩) (by assumption) ?_
    rotate_left 2
    · (simp only [List.getElem?_toArray, List.getElem?_cons_succ, List.getElem?_cons_zero]; rfl)
    · first | exact fun _ _ _ h => h | exact fun _ _ _ h => nomatch h.1
    · rfl
    · (intro W hSW; (try dsimp only at hSW); go_split_ands; first | (go_simp; done) | (go_simp; with_reducible rfl))
    try simp only [Act.put, List.setIfInBounds_toArray, List.set_cons_zero, List.set_cons_succ]
    clear hHeld
    refine wpAnyH_ready (rs := [0, 4]) (by kernel_rfl) (by simp) ?_
    refine' AllReadyH.cons (o := _) (by simp only [List.getElem?_toArray, List.getElem?_cons_succ, List.getElem?_cons_zero]; rfl) (fun K hK => ?_) (AllReadyH.cons (o := _) (by simp only [List.getElem?_toArray, List.getElem?_cons_succ, List.getElem?_cons_zero]; rfl) (fun K hK => ?_) AllReadyH.nil)
    · go_simp
      refine Calls.mono (shapes_c _) ?_
      rintro e W_1 ⟨rfl, hn⟩
      replace r1 := r1.on hn
      replace hc := chain hc hn
      clear hn
      go_simp
      refine hK.out _ _ r1.cell (fun hHeld => ?_)
      clear hK K
      refine' wpAnyH_take (i := 3) (oi := _) (v := _) ?_ (by kernel_rfl) (by kernel_rfl) (by kernel_rfl) ?_ (Or.inl ⟨?_, ?_⟩) (by assumption) ?_
      rotate_left 2
      · (simp only [List.getElem?_toArray, List.getElem?_cons_succ, List.getElem?_cons_zero]; rfl)
      · first | exact fun _ _ _ h => h | exact fun _ _ _ h => nomatch h.1
      · rfl
      · (intro W hSW; (try dsimp only at hSW); go_split_ands; first | (go_simp; done) | (go_simp; with_reducible rfl))
      try simp only [Act.put, List.setIfInBounds_toArray, List.set_cons_zero, List.set_cons_succ]
      clear hHeld
      refine wpAnyH_ready (rs := [4]) (by kernel_rfl) (by simp) ?_
      refine' AllReadyH.cons (o := _) ?_ (fun K hK => ?_) AllReadyH.nil
      rotate_left 1
      · (simp only [List.getElem?_toArray, List.getElem?_cons_succ, List.getElem?_cons_zero]; rfl)
      go_simp
      have hn := below_alloc W_1 (.cells #[.string ⟨#[]⟩, .int .i64 0, .bool false] 189)
      have r2 := Row.new (W := W_1) (cs := #[.string ⟨#[]⟩, .int .i64 0, .bool false]) (t := 189)
      have hxy : W_1.heap.size ≠ w.heap.size := Nat.ne_of_gt r1.lt
      have hx2 : w.heap.size ≤ W_1.heap.size := hc.size
      replace r1 := r1.on hn
      replace hc := chain hc hn
      clear hn
      generalize W_1.alloc (.cells #[.string ⟨#[]⟩, .int .i64 0, .bool false] 189) = W_2 at *
      generalize W_1.heap.size = x2 at *
      refine hK.out _ _ r1.cell (fun _ => ?_)
      clear hK K
      have y0 := r2.cell
      have y1 := r2.free
      have y2 := r2.lt
      refine wpAnyH_ready (rs := [5]) (by kernel_rfl) (by simp) ?_
      refine' AllReadyH.cons (o := _) ?_ (fun K hK => ?_) AllReadyH.nil
      rotate_left 1
      · (simp only [List.getElem?_toArray, List.getElem?_cons_succ, List.getElem?_cons_zero]; rfl)
      go_simp
      clear y0 y1 y2
      replace r1 := ((r1.other hxy 0 (.string nm)).other hxy 1 (.int .i64 wc)).other hxy 2 (.bool go)
      replace r2 := ((r2.set 0 (.string nm)).set 1 (.int .i64 wc)).set 2 (.bool go)
      replace hc := ((hc.setCell (p := ⟨x2, 0, none⟩) hx2 (.string nm)).setCell (p := ⟨x2, 1, none⟩) hx2 (.int .i64 wc)).setCell (p := ⟨x2, 2, none⟩) hx2 (.bool go)
      simp only [List.setIfInBounds_toArray, List.set_cons_zero, List.set_cons_succ] at r2
      generalize hW : World.setCell _ _ _ = V at *
      clear hW
      refine hK.out _ _ r1.cell (fun _ => ?_)
      clear hK K
      refine wpAnyH_done (by kernel_rfl) ?_ _
      go_wp2_with fail
      go_meet
      exact ⟨_, rfl, r1, r2, hc⟩
    · go_simp
      have hn := below_alloc W_0 (.cells #[.string ⟨#[]⟩, .int .i64 0, .bool false] 189)
      have r2 := Row.new (W := W_0) (cs := #[.string ⟨#[]⟩, .int .i64 0, .bool false]) (t := 189)
      have hxy : W_0.heap.size ≠ w.heap.size := Nat.ne_of_gt r1.lt
      have hx2 : w.heap.size ≤ W_0.heap.size := hc.size
      replace r1 := r1.on hn
      replace hc := chain hc hn
      clear hn
      generalize W_0.alloc (.cells #[.string ⟨#[]⟩, .int .i64 0, .bool false] 189) = W_2 at *
      generalize W_0.heap.size = x2 at *
      refine hK.out _ _ r1.cell (fun _ => ?_)
      clear hK K
      refine wpAnyH_ready (rs := [0]) (by kernel_rfl) (by simp) ?_
      refine' AllReadyH.cons (o := _) ?_ (fun K hK => ?_) AllReadyH.nil
      rotate_left 1
      · (simp only [List.getElem?_toArray, List.getElem?_cons_succ, List.getElem?_cons_zero]; rfl)
      go_simp
      refine Calls.mono (shapes_c _) ?_
      rintro e W_3 ⟨rfl, hn⟩
      replace r1 := r1.on hn
      replace r2 := r2.on hn
      replace hc := chain hc hn
      clear hn
      go_simp
      refine hK.out _ _ r1.cell (fun _ => ?_)
      clear hK K
      refine' wpAnyH_take (i := 3) (oi := _) (v := _) ?_ (by kernel_rfl) (by kernel_rfl) (by kernel_rfl) ?_ (Or.inl ⟨?_, ?_⟩) (by assumption) ?_
      rotate_left 2
      · (simp only [List.getElem?_toArray, List.getElem?_cons_succ, List.getElem?_cons_zero]; rfl)
      · first | exact fun _ _ _ h => h | exact fun _ _ _ h => nomatch h.1
      · rfl
      · (intro W hSW; (try dsimp only at hSW); go_split_ands; first | (go_simp; done) | (go_simp; with_reducible rfl))
      try simp only [Act.put, List.setIfInBounds_toArray, List.set_cons_zero, List.set_cons_succ]
      have y0 := r2.cell
      have y1 := r2.free
      have y2 := r2.lt
      refine wpAnyH_ready (rs := [5]) (by kernel_rfl) (by simp) ?_
      refine' AllReadyH.cons (o := _) ?_ (fun K hK => ?_) AllReadyH.nil
      rotate_left 1
      · (simp only [List.getElem?_toArray, List.getElem?_cons_succ, List.getElem?_cons_zero]; rfl)
      go_simp
      clear y0 y1 y2
      replace r1 := ((r1.other hxy 0 (.string nm)).other hxy 1 (.int .i64 wc)).other hxy 2 (.bool go)
      replace r2 := ((r2.set 0 (.string nm)).set 1 (.int .i64 wc)).set 2 (.bool go)
      replace hc := ((hc.setCell (p := ⟨x2, 0, none⟩) hx2 (.string nm)).setCell (p := ⟨x2, 1, none⟩) hx2 (.int .i64 wc)).setCell (p := ⟨x2, 2, none⟩) hx2 (.bool go)
      simp only [List.setIfInBounds_toArray, List.set_cons_zero, List.set_cons_succ] at r2
      generalize hW : World.setCell _ _ _ = V at *
      clear hW
      refine hK.out _ _ r1.cell (fun _ => ?_)
      clear hK K
      refine wpAnyH_done (by kernel_rfl) ?_ _
      go_wp2_with fail
      go_meet
      exact ⟨_, rfl, r1, r2, hc⟩
  case rest =>
    clear r1 hc
    obtain ⟨x2, rfl, r1, r2, hc⟩ := hcut
    have y0 := r1.cell
    have y1 := r1.lt
    have y2 := r2.cell
    have y3 := r2.lt
    go_wp2_with fail
    clear y0 y1 y2 y3
    refine Calls.mono (C2.out _) ?_
    rintro e w2 ⟨rfl, hb⟩
    replace r1 := r1.on hb
    replace r2 := r2.on hb
    replace hc := chain hc hb
    clear hb
    have y0 := r1.cell
    have y1 := r1.lt
    have y2 := r2.cell
    have y3 := r2.lt
    go_wp2_with fail
    clear y0 y1 y2 y3
    refine Calls.mono (C3.out _) ?_
    rintro e w3 ⟨rfl, hb⟩
    replace r1 := r1.on hb
    replace r2 := r2.on hb
    replace hc := chain hc hb
    clear hb
    have y0 := r1.cell
    have y1 := r1.lt
    have y2 := r2.cell
    have y3 := r2.lt
    go_wp2_with fail
    go_returns
    exact ⟨rfl, hc⟩
set_option maxHeartbeats 8000000 in
set_option maxRecDepth 20000 in
theorem poss_c (k i g st wy tr nx : Int) (tag nm : ByteArray) (wc least : Int) (go : Bool) (w : World) (g0 : 0 ≤ g) (g1 : g ≤ 4294967295) (hd : dOk 64 k i g = true) (hst : 1 ≤ st ∧ st ≤ 4) (hm : min wc 1 = least) (hl : least = 0 ∨ least = 1)
    (hix : ∀ w, (Instr.index 190 shapesV (.int .i64 st)).run Tryz.prog w = .ok (.agg #[.string nm, .int .i64 wc, .bool go]) w) (hA : inB wy least wc = true) (hB : inB tr 0 (10000 * least) = true) (hT : isT nx = false) :
    Ret 96 #[rV k i g st wy tr nx tag] w (.bool false) := by
  have c := fun w => o_check k i g w g0 g1
  rw [dErr_ok hd] at c
  have C := Lib.hid c
  have c2 := fun w => in_c wy least wc w
  rw [hA] at c2
  have C2 := Lib.hid c2
  clear c c2
  have c3 := fun w => in_c tr 0 (10000 * least) w
  rw [hB] at c3
  have C3 := Lib.hid c3
  clear c3
  have c4 := fun w => isTime_c nx w
  rw [hT] at c4
  have C4 := Lib.hid c4
  clear c4
  have p1 : decide (st < 1) = false := decide_eq_false (by omega)
  have p2 : decide ((4 : Int) < st) = false := decide_eq_false (by omega)
  have wl : IntKind.i64.wrap (10000 * least) = 10000 * least := IntWalk.i64_in _ ⟨by omega, by omega⟩
  clear hl
  go_enter Tryz.func96, Tryz.ntmps96
  go_wp2_with fail
  refine Calls.mono (C.out _) ?_
  rintro e w1 ⟨rfl, hb⟩
  have r1 := (Row.new (W := w) (cs := rC k i g st wy tr nx tag) (t := 91)).on hb
  have hc : Below w.heap.size w w1 := under hb
  clear hb
  have y0 := r1.cell
  have y1 := r1.lt
  go_wp2_with fail
  clear y0 y1
  generalize hp1 : w.heap.size = p1' at r1
  have hpw : w.heap.size ≤ w.heap.size := Nat.le_refl _
  go_cut [3] (fun v wx => ∃ x2, v = .pointer (some ⟨x2, 0, none⟩) ∧ Row wx p1' (rC k i g st wy tr nx tag) 91 ∧ Row wx x2 #[.string nm, .int .i64 wc, .bool go] 189 ∧ Below w.heap.size w wx)
  case first =>
    subst hp1
    refine wp_region_held_drew (S := fun W' => (∀ j, W'.cell? ⟨w.heap.size, j, none⟩ = (rC k i g st wy tr nx tag)[j]?)) (by kernel_rfl) r1.cell (fun hHeld => ?_)
    replace r1 := r1.drew
    replace hc := hc.drew
    generalize w1.drew = W_0 at *
    refine' wpAnyH_take (i := 1) (oi := _) (v := _) ?_ (by kernel_rfl) (by kernel_rfl) (by kernel_rfl) ?_ (Or.inl ⟨?_, ?_⟩) (by assumption) ?_
    rotate_left 2
    · (simp only [List.getElem?_toArray, List.getElem?_cons_succ, List.getElem?_cons_zero]; rfl)
    · first | exact fun _ _ _ h => h | exact fun _ _ _ h => nomatch h.1
    · rfl
    · (intro W hSW; (try dsimp only at hSW); go_split_ands; first | (go_simp; done) | (go_simp; with_reducible rfl))
    try simp only [Act.put, List.setIfInBounds_toArray, List.set_cons_zero, List.set_cons_succ]
    refine' wpAnyH_take (i := 2) (oi := _) (v := _) ?_ (by kernel_rfl) (by kernel_rfl) (by kernel_rfl) ?_ (Or.inl ⟨?_, ?_⟩) (by assumption) ?_
    rotate_left 2
    · (simp only [List.getElem?_toArray, List.getElem?_cons_succ, List.getElem?_cons_zero]; rfl)
    · first | exact fun _ _ _ h => h | exact fun _ _ _ h => nomatch h.1
    · rfl
    · (intro W hSW; (try dsimp only at hSW); go_split_ands; first | (go_simp; done) | (go_simp; with_reducible rfl))
    try simp only [Act.put, List.setIfInBounds_toArray, List.set_cons_zero, List.set_cons_succ]
    clear hHeld
    refine wpAnyH_ready (rs := [0, 4]) (by kernel_rfl) (by simp) ?_
    refine' AllReadyH.cons (o := _) (by simp only [List.getElem?_toArray, List.getElem?_cons_succ, List.getElem?_cons_zero]; rfl) (fun K hK => ?_) (AllReadyH.cons (o := _) (by simp only [List.getElem?_toArray, List.getElem?_cons_succ, List.getElem?_cons_zero]; rfl) (fun K hK => ?_) AllReadyH.nil)
    · go_simp
      refine Calls.mono (shapes_c _) ?_
      rintro e W_1 ⟨rfl, hn⟩
      replace r1 := r1.on hn
      replace hc := chain hc hn
      clear hn
      go_simp
      refine hK.out _ _ r1.cell (fun hHeld => ?_)
      clear hK K
      refine' wpAnyH_take (i := 3) (oi := _) (v := _) ?_ (by kernel_rfl) (by kernel_rfl) (by kernel_rfl) ?_ (Or.inl ⟨?_, ?_⟩) (by assumption) ?_
      rotate_left 2
      · (simp only [List.getElem?_toArray, List.getElem?_cons_succ, List.getElem?_cons_zero]; rfl)
      · first | exact fun _ _ _ h => h | exact fun _ _ _ h => nomatch h.1
      · rfl
      · (intro W hSW; (try dsimp only at hSW); go_split_ands; first | (go_simp; done) | (go_simp; with_reducible rfl))
      try simp only [Act.put, List.setIfInBounds_toArray, List.set_cons_zero, List.set_cons_succ]
      clear hHeld
      refine wpAnyH_ready (rs := [4]) (by kernel_rfl) (by simp) ?_
      refine' AllReadyH.cons (o := _) ?_ (fun K hK => ?_) AllReadyH.nil
      rotate_left 1
      · (simp only [List.getElem?_toArray, List.getElem?_cons_succ, List.getElem?_cons_zero]; rfl)
      go_simp
      have hn := below_alloc W_1 (.cells #[.string ⟨#[]⟩, .int .i64 0, .bool false] 189)
      have r2 := Row.new (W := W_1) (cs := #[.string ⟨#[]⟩, .int .i64 0, .bool false]) (t := 189)
      have hxy : W_1.heap.size ≠ w.heap.size := Nat.ne_of_gt r1.lt
      have hx2 : w.heap.size ≤ W_1.heap.size := hc.size
      replace r1 := r1.on hn
      replace hc := chain hc hn
      clear hn
      generalize W_1.alloc (.cells #[.string ⟨#[]⟩, .int .i64 0, .bool false] 189) = W_2 at *
      generalize W_1.heap.size = x2 at *
      refine hK.out _ _ r1.cell (fun _ => ?_)
      clear hK K
      have y0 := r2.cell
      have y1 := r2.free
      have y2 := r2.lt
      refine wpAnyH_ready (rs := [5]) (by kernel_rfl) (by simp) ?_
      refine' AllReadyH.cons (o := _) ?_ (fun K hK => ?_) AllReadyH.nil
      rotate_left 1
      · (simp only [List.getElem?_toArray, List.getElem?_cons_succ, List.getElem?_cons_zero]; rfl)
      go_simp
      clear y0 y1 y2
      replace r1 := ((r1.other hxy 0 (.string nm)).other hxy 1 (.int .i64 wc)).other hxy 2 (.bool go)
      replace r2 := ((r2.set 0 (.string nm)).set 1 (.int .i64 wc)).set 2 (.bool go)
      replace hc := ((hc.setCell (p := ⟨x2, 0, none⟩) hx2 (.string nm)).setCell (p := ⟨x2, 1, none⟩) hx2 (.int .i64 wc)).setCell (p := ⟨x2, 2, none⟩) hx2 (.bool go)
      simp only [List.setIfInBounds_toArray, List.set_cons_zero, List.set_cons_succ] at r2
      generalize hW : World.setCell _ _ _ = V at *
      clear hW
      refine hK.out _ _ r1.cell (fun _ => ?_)
      clear hK K
      refine wpAnyH_done (by kernel_rfl) ?_ _
      go_wp2_with fail
      go_meet
      exact ⟨_, rfl, r1, r2, hc⟩
    · go_simp
      have hn := below_alloc W_0 (.cells #[.string ⟨#[]⟩, .int .i64 0, .bool false] 189)
      have r2 := Row.new (W := W_0) (cs := #[.string ⟨#[]⟩, .int .i64 0, .bool false]) (t := 189)
      have hxy : W_0.heap.size ≠ w.heap.size := Nat.ne_of_gt r1.lt
      have hx2 : w.heap.size ≤ W_0.heap.size := hc.size
      replace r1 := r1.on hn
      replace hc := chain hc hn
      clear hn
      generalize W_0.alloc (.cells #[.string ⟨#[]⟩, .int .i64 0, .bool false] 189) = W_2 at *
      generalize W_0.heap.size = x2 at *
      refine hK.out _ _ r1.cell (fun _ => ?_)
      clear hK K
      refine wpAnyH_ready (rs := [0]) (by kernel_rfl) (by simp) ?_
      refine' AllReadyH.cons (o := _) ?_ (fun K hK => ?_) AllReadyH.nil
      rotate_left 1
      · (simp only [List.getElem?_toArray, List.getElem?_cons_succ, List.getElem?_cons_zero]; rfl)
      go_simp
      refine Calls.mono (shapes_c _) ?_
      rintro e W_3 ⟨rfl, hn⟩
      replace r1 := r1.on hn
      replace r2 := r2.on hn
      replace hc := chain hc hn
      clear hn
      go_simp
      refine hK.out _ _ r1.cell (fun _ => ?_)
      clear hK K
      refine' wpAnyH_take (i := 3) (oi := _) (v := _) ?_ (by kernel_rfl) (by kernel_rfl) (by kernel_rfl) ?_ (Or.inl ⟨?_, ?_⟩) (by assumption) ?_
      rotate_left 2
      · (simp only [List.getElem?_toArray, List.getElem?_cons_succ, List.getElem?_cons_zero]; rfl)
      · first | exact fun _ _ _ h => h | exact fun _ _ _ h => nomatch h.1
      · rfl
      · (intro W hSW; (try dsimp only at hSW); go_split_ands; first | (go_simp; done) | (go_simp; with_reducible rfl))
      try simp only [Act.put, List.setIfInBounds_toArray, List.set_cons_zero, List.set_cons_succ]
      have y0 := r2.cell
      have y1 := r2.free
      have y2 := r2.lt
      refine wpAnyH_ready (rs := [5]) (by kernel_rfl) (by simp) ?_
      refine' AllReadyH.cons (o := _) ?_ (fun K hK => ?_) AllReadyH.nil
      rotate_left 1
      · (simp only [List.getElem?_toArray, List.getElem?_cons_succ, List.getElem?_cons_zero]; rfl)
      go_simp
      clear y0 y1 y2
      replace r1 := ((r1.other hxy 0 (.string nm)).other hxy 1 (.int .i64 wc)).other hxy 2 (.bool go)
      replace r2 := ((r2.set 0 (.string nm)).set 1 (.int .i64 wc)).set 2 (.bool go)
      replace hc := ((hc.setCell (p := ⟨x2, 0, none⟩) hx2 (.string nm)).setCell (p := ⟨x2, 1, none⟩) hx2 (.int .i64 wc)).setCell (p := ⟨x2, 2, none⟩) hx2 (.bool go)
      simp only [List.setIfInBounds_toArray, List.set_cons_zero, List.set_cons_succ] at r2
      generalize hW : World.setCell _ _ _ = V at *
      clear hW
      refine hK.out _ _ r1.cell (fun _ => ?_)
      clear hK K
      refine wpAnyH_done (by kernel_rfl) ?_ _
      go_wp2_with fail
      go_meet
      exact ⟨_, rfl, r1, r2, hc⟩
  case rest =>
    clear r1 hc
    obtain ⟨x2, rfl, r1, r2, hc⟩ := hcut
    have y0 := r1.cell
    have y1 := r1.lt
    have y2 := r2.cell
    have y3 := r2.lt
    go_wp2_with fail
    clear y0 y1 y2 y3
    refine Calls.mono (C2.out _) ?_
    rintro e w2 ⟨rfl, hb⟩
    replace r1 := r1.on hb
    replace r2 := r2.on hb
    replace hc := chain hc hb
    clear hb
    have y0 := r1.cell
    have y1 := r1.lt
    have y2 := r2.cell
    have y3 := r2.lt
    go_wp2_with fail
    clear y0 y1 y2 y3
    refine Calls.mono (C3.out _) ?_
    rintro e w3 ⟨rfl, hb⟩
    replace r1 := r1.on hb
    replace r2 := r2.on hb
    replace hc := chain hc hb
    clear hb
    have y0 := r1.cell
    have y1 := r1.lt
    have y2 := r2.cell
    have y3 := r2.lt
    go_wp2_with fail
    clear y0 y1 y2 y3
    refine Calls.mono (C4.out _) ?_
    rintro e w4 ⟨rfl, hb⟩
    replace r1 := r1.on hb
    replace r2 := r2.on hb
    replace hc := chain hc hb
    clear hb
    have y0 := r1.cell
    have y1 := r1.lt
    have y2 := r2.cell
    have y3 := r2.lt
    go_wp2_with fail
    go_returns
    exact ⟨rfl, hc⟩
set_option maxHeartbeats 8000000 in
set_option maxRecDepth 20000 in
theorem poss_d2 (k i g st wy tr nx : Int) (tag nm : ByteArray) (wc least : Int) (go : Bool) (w : World) (g0 : 0 ≤ g) (g1 : g ≤ 4294967295) (hd : dOk 64 k i g = true) (hst : 1 ≤ st ∧ st ≤ 4) (hm : min wc 1 = least) (hl : least = 0 ∨ least = 1)
    (hix : ∀ w, (Instr.index 190 shapesV (.int .i64 st)).run Tryz.prog w = .ok (.agg #[.string nm, .int .i64 wc, .bool go]) w) (hA : inB wy least wc = true) (hB : inB tr 0 (10000 * least) = true) (hT : isT nx = true) :
    Ret 96 #[rV k i g st wy tr nx tag] w (.bool (go || decide (nx = 0))) := by
  have c := fun w => o_check k i g w g0 g1
  rw [dErr_ok hd] at c
  have C := Lib.hid c
  have c2 := fun w => in_c wy least wc w
  rw [hA] at c2
  have C2 := Lib.hid c2
  clear c c2
  have c3 := fun w => in_c tr 0 (10000 * least) w
  rw [hB] at c3
  have C3 := Lib.hid c3
  clear c3
  have c4 := fun w => isTime_c nx w
  rw [hT] at c4
  have C4 := Lib.hid c4
  clear c4
  have hz : (nx == 0) = decide (nx = 0) := by
    by_cases h : nx = 0
    · rw [decide_eq_true h, h]; rfl
    · rw [decide_eq_false h, beq_eq_false_iff_ne]; exact h
  have p1 : decide (st < 1) = false := decide_eq_false (by omega)
  have p2 : decide ((4 : Int) < st) = false := decide_eq_false (by omega)
  have wl : IntKind.i64.wrap (10000 * least) = 10000 * least := IntWalk.i64_in _ ⟨by omega, by omega⟩
  clear hl
  go_enter Tryz.func96, Tryz.ntmps96
  go_wp2_with fail
  refine Calls.mono (C.out _) ?_
  rintro e w1 ⟨rfl, hb⟩
  have r1 := (Row.new (W := w) (cs := rC k i g st wy tr nx tag) (t := 91)).on hb
  have hc : Below w.heap.size w w1 := under hb
  clear hb
  have y0 := r1.cell
  have y1 := r1.lt
  go_wp2_with fail
  clear y0 y1
  generalize hp1 : w.heap.size = p1' at r1
  have hpw : w.heap.size ≤ w.heap.size := Nat.le_refl _
  go_cut [3] (fun v wx => ∃ x2, v = .pointer (some ⟨x2, 0, none⟩) ∧ Row wx p1' (rC k i g st wy tr nx tag) 91 ∧ Row wx x2 #[.string nm, .int .i64 wc, .bool go] 189 ∧ Below w.heap.size w wx)
  case first =>
    subst hp1
    refine wp_region_held_drew (S := fun W' => (∀ j, W'.cell? ⟨w.heap.size, j, none⟩ = (rC k i g st wy tr nx tag)[j]?)) (by kernel_rfl) r1.cell (fun hHeld => ?_)
    replace r1 := r1.drew
    replace hc := hc.drew
    generalize w1.drew = W_0 at *
    refine' wpAnyH_take (i := 1) (oi := _) (v := _) ?_ (by kernel_rfl) (by kernel_rfl) (by kernel_rfl) ?_ (Or.inl ⟨?_, ?_⟩) (by assumption) ?_
    rotate_left 2
    · (simp only [List.getElem?_toArray, List.getElem?_cons_succ, List.getElem?_cons_zero]; rfl)
    · first | exact fun _ _ _ h => h | exact fun _ _ _ h => nomatch h.1
    · rfl
    · (intro W hSW; (try dsimp only at hSW); go_split_ands; first | (go_simp; done) | (go_simp; with_reducible rfl))
    try simp only [Act.put, List.setIfInBounds_toArray, List.set_cons_zero, List.set_cons_succ]
    refine' wpAnyH_take (i := 2) (oi := _) (v := _) ?_ (by kernel_rfl) (by kernel_rfl) (by kernel_rfl) ?_ (Or.inl ⟨?_, ?_⟩) (by assumption) ?_
    rotate_left 2
    · (simp only [List.getElem?_toArray, List.getElem?_cons_succ, List.getElem?_cons_zero]; rfl)
    · first | exact fun _ _ _ h => h | exact fun _ _ _ h => nomatch h.1
    · rfl
    · (intro W hSW; (try dsimp only at hSW); go_split_ands; first | (go_simp; done) | (go_simp; with_reducible rfl))
    try simp only [Act.put, List.setIfInBounds_toArray, List.set_cons_zero, List.set_cons_succ]
    clear hHeld
    refine wpAnyH_ready (rs := [0, 4]) (by kernel_rfl) (by simp) ?_
    refine' AllReadyH.cons (o := _) (by simp only [List.getElem?_toArray, List.getElem?_cons_succ, List.getElem?_cons_zero]; rfl) (fun K hK => ?_) (AllReadyH.cons (o := _) (by simp only [List.getElem?_toArray, List.getElem?_cons_succ, List.getElem?_cons_zero]; rfl) (fun K hK => ?_) AllReadyH.nil)
    · go_simp
      refine Calls.mono (shapes_c _) ?_
      rintro e W_1 ⟨rfl, hn⟩
      replace r1 := r1.on hn
      replace hc := chain hc hn
      clear hn
      go_simp
      refine hK.out _ _ r1.cell (fun hHeld => ?_)
      clear hK K
      refine' wpAnyH_take (i := 3) (oi := _) (v := _) ?_ (by kernel_rfl) (by kernel_rfl) (by kernel_rfl) ?_ (Or.inl ⟨?_, ?_⟩) (by assumption) ?_
      rotate_left 2
      · (simp only [List.getElem?_toArray, List.getElem?_cons_succ, List.getElem?_cons_zero]; rfl)
      · first | exact fun _ _ _ h => h | exact fun _ _ _ h => nomatch h.1
      · rfl
      · (intro W hSW; (try dsimp only at hSW); go_split_ands; first | (go_simp; done) | (go_simp; with_reducible rfl))
      try simp only [Act.put, List.setIfInBounds_toArray, List.set_cons_zero, List.set_cons_succ]
      clear hHeld
      refine wpAnyH_ready (rs := [4]) (by kernel_rfl) (by simp) ?_
      refine' AllReadyH.cons (o := _) ?_ (fun K hK => ?_) AllReadyH.nil
      rotate_left 1
      · (simp only [List.getElem?_toArray, List.getElem?_cons_succ, List.getElem?_cons_zero]; rfl)
      go_simp
      have hn := below_alloc W_1 (.cells #[.string ⟨#[]⟩, .int .i64 0, .bool false] 189)
      have r2 := Row.new (W := W_1) (cs := #[.string ⟨#[]⟩, .int .i64 0, .bool false]) (t := 189)
      have hxy : W_1.heap.size ≠ w.heap.size := Nat.ne_of_gt r1.lt
      have hx2 : w.heap.size ≤ W_1.heap.size := hc.size
      replace r1 := r1.on hn
      replace hc := chain hc hn
      clear hn
      generalize W_1.alloc (.cells #[.string ⟨#[]⟩, .int .i64 0, .bool false] 189) = W_2 at *
      generalize W_1.heap.size = x2 at *
      refine hK.out _ _ r1.cell (fun _ => ?_)
      clear hK K
      have y0 := r2.cell
      have y1 := r2.free
      have y2 := r2.lt
      refine wpAnyH_ready (rs := [5]) (by kernel_rfl) (by simp) ?_
      refine' AllReadyH.cons (o := _) ?_ (fun K hK => ?_) AllReadyH.nil
      rotate_left 1
      · (simp only [List.getElem?_toArray, List.getElem?_cons_succ, List.getElem?_cons_zero]; rfl)
      go_simp
      clear y0 y1 y2
      replace r1 := ((r1.other hxy 0 (.string nm)).other hxy 1 (.int .i64 wc)).other hxy 2 (.bool go)
      replace r2 := ((r2.set 0 (.string nm)).set 1 (.int .i64 wc)).set 2 (.bool go)
      replace hc := ((hc.setCell (p := ⟨x2, 0, none⟩) hx2 (.string nm)).setCell (p := ⟨x2, 1, none⟩) hx2 (.int .i64 wc)).setCell (p := ⟨x2, 2, none⟩) hx2 (.bool go)
      simp only [List.setIfInBounds_toArray, List.set_cons_zero, List.set_cons_succ] at r2
      generalize hW : World.setCell _ _ _ = V at *
      clear hW
      refine hK.out _ _ r1.cell (fun _ => ?_)
      clear hK K
      refine wpAnyH_done (by kernel_rfl) ?_ _
      go_wp2_with fail
      go_meet
      exact ⟨_, rfl, r1, r2, hc⟩
    · go_simp
      have hn := below_alloc W_0 (.cells #[.string ⟨#[]⟩, .int .i64 0, .bool false] 189)
      have r2 := Row.new (W := W_0) (cs := #[.string ⟨#[]⟩, .int .i64 0, .bool false]) (t := 189)
      have hxy : W_0.heap.size ≠ w.heap.size := Nat.ne_of_gt r1.lt
      have hx2 : w.heap.size ≤ W_0.heap.size := hc.size
      replace r1 := r1.on hn
      replace hc := chain hc hn
      clear hn
      generalize W_0.alloc (.cells #[.string ⟨#[]⟩, .int .i64 0, .bool false] 189) = W_2 at *
      generalize W_0.heap.size = x2 at *
      refine hK.out _ _ r1.cell (fun _ => ?_)
      clear hK K
      refine wpAnyH_ready (rs := [0]) (by kernel_rfl) (by simp) ?_
      refine' AllReadyH.cons (o := _) ?_ (fun K hK => ?_) AllReadyH.nil
      rotate_left 1
      · (simp only [List.getElem?_toArray, List.getElem?_cons_succ, List.getElem?_cons_zero]; rfl)
      go_simp
      refine Calls.mono (shapes_c _) ?_
      rintro e W_3 ⟨rfl, hn⟩
      replace r1 := r1.on hn
      replace r2 := r2.on hn
      replace hc := chain hc hn
      clear hn
      go_simp
      refine hK.out _ _ r1.cell (fun _ => ?_)
      clear hK K
      refine' wpAnyH_take (i := 3) (oi := _) (v := _) ?_ (by kernel_rfl) (by kernel_rfl) (by kernel_rfl) ?_ (Or.inl ⟨?_, ?_⟩) (by assumption) ?_
      rotate_left 2
      · (simp only [List.getElem?_toArray, List.getElem?_cons_succ, List.getElem?_cons_zero]; rfl)
      · first | exact fun _ _ _ h => h | exact fun _ _ _ h => nomatch h.1
      · rfl
      · (intro W hSW; (try dsimp only at hSW); go_split_ands; first | (go_simp; done) | (go_simp; with_reducible rfl))
      try simp only [Act.put, List.setIfInBounds_toArray, List.set_cons_zero, List.set_cons_succ]
      have y0 := r2.cell
      have y1 := r2.free
      have y2 := r2.lt
      refine wpAnyH_ready (rs := [5]) (by kernel_rfl) (by simp) ?_
      refine' AllReadyH.cons (o := _) ?_ (fun K hK => ?_) AllReadyH.nil
      rotate_left 1
      · (simp only [List.getElem?_toArray, List.getElem?_cons_succ, List.getElem?_cons_zero]; rfl)
      go_simp
      clear y0 y1 y2
      replace r1 := ((r1.other hxy 0 (.string nm)).other hxy 1 (.int .i64 wc)).other hxy 2 (.bool go)
      replace r2 := ((r2.set 0 (.string nm)).set 1 (.int .i64 wc)).set 2 (.bool go)
      replace hc := ((hc.setCell (p := ⟨x2, 0, none⟩) hx2 (.string nm)).setCell (p := ⟨x2, 1, none⟩) hx2 (.int .i64 wc)).setCell (p := ⟨x2, 2, none⟩) hx2 (.bool go)
      simp only [List.setIfInBounds_toArray, List.set_cons_zero, List.set_cons_succ] at r2
      generalize hW : World.setCell _ _ _ = V at *
      clear hW
      refine hK.out _ _ r1.cell (fun _ => ?_)
      clear hK K
      refine wpAnyH_done (by kernel_rfl) ?_ _
      go_wp2_with fail
      go_meet
      exact ⟨_, rfl, r1, r2, hc⟩
  case rest =>
    clear r1 hc
    obtain ⟨x2, rfl, r1, r2, hc⟩ := hcut
    have y0 := r1.cell
    have y1 := r1.lt
    have y2 := r2.cell
    have y3 := r2.lt
    go_wp2_with fail
    clear y0 y1 y2 y3
    refine Calls.mono (C2.out _) ?_
    rintro e w2 ⟨rfl, hb⟩
    replace r1 := r1.on hb
    replace r2 := r2.on hb
    replace hc := chain hc hb
    clear hb
    have y0 := r1.cell
    have y1 := r1.lt
    have y2 := r2.cell
    have y3 := r2.lt
    go_wp2_with fail
    clear y0 y1 y2 y3
    refine Calls.mono (C3.out _) ?_
    rintro e w3 ⟨rfl, hb⟩
    replace r1 := r1.on hb
    replace r2 := r2.on hb
    replace hc := chain hc hb
    clear hb
    have y0 := r1.cell
    have y1 := r1.lt
    have y2 := r2.cell
    have y3 := r2.lt
    go_wp2_with fail
    clear y0 y1 y2 y3
    refine Calls.mono (C4.out _) ?_
    rintro e w4 ⟨rfl, hb⟩
    replace r1 := r1.on hb
    replace r2 := r2.on hb
    replace hc := chain hc hb
    clear hb
    cases go
    all_goals
      have y0 := r1.cell
      have y1 := r1.lt
      have y2 := r2.cell
      have y3 := r2.lt
      go_wp2_with fail
      go_returns
      exact ⟨rfl, hc⟩
theorem poss_c2 (k i g st wy tr nx : Int) (tag : ByteArray) (w : World) (g0 : 0 ≤ g) (g1 : g ≤ 4294967295) : Ret 96 #[rV k i g st wy tr nx tag] w (.bool (pOk k i g st wy tr nx)) := by
  cases hd : dOk 64 k i g with
  | false =>
    rw [pOk_d hd]
    exact poss_d k i g st wy tr nx tag w g0 g1 (.inl hd)
  | true =>
    cases hs : inB st 1 4 with
    | false =>
      rw [pOk_st hs]
      exact poss_d k i g st wy tr nx tag w g0 g1 (.inr hs)
    | true =>
      have hst := inB_iff.1 hs
      have key : ∀ (nm : ByteArray) (wc least : Int) (go : Bool), min wc 1 = least → (least = 0 ∨ least = 1) → (∀ w, (Instr.index 190 shapesV (.int .i64 st)).run Tryz.prog w = .ok (.agg #[.string nm, .int .i64 wc, .bool go]) w) →
          Ret 96 #[rV k i g st wy tr nx tag] w (.bool (inB wy least wc && (inB tr 0 (10000 * least) && (isT nx && (go || decide (nx = 0)))))) := by
        intro nm wc least go h1 h2 h4
        cases hA : inB wy least wc with
        | false => exact poss_a k i g st wy tr nx tag nm wc least go w g0 g1 hd hst h1 h2 h4 hA
        | true =>
          cases hB : inB tr 0 (10000 * least) with
          | false => exact poss_b k i g st wy tr nx tag nm wc least go w g0 g1 hd hst h1 h2 h4 hA hB
          | true =>
            cases hT : isT nx with
            | false => exact poss_c k i g st wy tr nx tag nm wc least go w g0 g1 hd hst h1 h2 h4 hA hB hT
            | true => exact poss_d2 k i g st wy tr nx tag nm wc least go w g0 g1 hd hst h1 h2 h4 hA hB hT
      rcases (by omega : st = 1 ∨ st = 2 ∨ st = 3 ∨ st = 4) with rfl | rfl | rfl | rfl
      · rw [pOk_1 hd]
        have := key sLive 0 0 false (by decide) (by decide) shIdx1
        simpa using this
      · rw [pOk_2 hd]
        have := key sClos 3 1 true (by decide) (by decide) shIdx2
        simpa using this
      · rw [pOk_34 hd (.inl rfl)]
        have := key sRele 3 1 false (by decide) (by decide) shIdx3
        simpa using this
      · rw [pOk_34 hd (.inr rfl)]
        have := key sQuar 3 1 false (by decide) (by decide) shIdx4
        simpa using this
end Go.Proofs.YtkjpdciccablpaaGreatDoor
