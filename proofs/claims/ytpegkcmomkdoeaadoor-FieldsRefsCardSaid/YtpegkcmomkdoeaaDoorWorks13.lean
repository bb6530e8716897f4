/- The chapter's examples hold: 'works' of the statements of chapter 13. -/
import Derived.Test.YtpegkcmomkdoeaaDoorFieldQ
import Derived.Test.YtpegkcmomkdoeaaDoorFieldR2
namespace Go.Proofs.YtpegkcmomkdoeaaDoor
open Go.RowKit
open Go.Lib (decDigits)
set_option linter.unusedVariables false
set_option linter.unusedSimpArgs false

theorem decS (n : Nat) (h : n < 10) : decDigits n = [UInt8.ofNat (48 + n)] := by rw [decDigits_step, if_pos h]
abbrev wkS : ByteArray := ⟨#[111, 98, 106, 101, 99, 116, 32, 45, 32, 51, 46, 55]⟩
theorem wk_text : oL 2 (0, 0) (3, 7) (0, 0) (0, 0) false = wkS.data.toList := by
  have h : rL (3, 7) = [51, 46, 55] := by
    rw [rL_ok (by decide)]
    simp only [show (3 : Int).toNat = 3 from rfl, show (7 : Int).toNat = 7 from rfl]
    rw [decS 3 (by decide), decS 7 (by decide)]
    rfl
  unfold oL oWords
  simp only [show (2 : Int).toNat = 2 from rfl, List.take, List.map, h, rL_none]
  rfl
theorem wk1 (w : World) : Ret 11 #[.int .i64 2, .bool false] w (.tuple #[obV 2 0 0 0 0 0 0 0 0 false, .int .i64 0]) := (fnew_c 2 false w).to rfl
theorem wk2 (w : World) : Ret 11 #[.int .i64 1, .bool true] w (.tuple #[ob0, .int .i64 2]) := (fnew_c 1 true w).to rfl
theorem wk3 (w : World) : Ret 21 #[obV 2 0 0 0 0 0 0 0 0 false, .int .i64 1, refV 3 7] w (.tuple #[obV 2 0 0 3 7 0 0 0 0 false, refV 0 0, .int .i64 0]) := (fset_c 2 (0, 0) (0, 0) (0, 0) (0, 0) false 1 (3, 7) w).to rfl
theorem wk4 (w : World) : Ret 19 #[obV 2 0 0 3 7 0 0 0 0 false, .int .i64 1] w (.tuple #[refV 3 7, .int .i64 0]) := (fget_c 2 (0, 0) (3, 7) (0, 0) (0, 0) false 1 w).to rfl
theorem wk5 (w : World) : Ret 19 #[obV 2 0 0 3 7 0 0 0 0 false, .int .i64 2] w (.tuple #[refV 0 0, .int .i64 3]) := (fget_c 2 (0, 0) (3, 7) (0, 0) (0, 0) false 2 w).to rfl
theorem wk6 (w : World) : Ret 21 #[obV 2 0 0 3 7 0 0 0 0 false, .int .i64 1, refV 0 0] w (.tuple #[obV 2 0 0 0 0 0 0 0 0 false, refV 3 7, .int .i64 0]) := (fset_c 2 (0, 0) (3, 7) (0, 0) (0, 0) false 1 (0, 0) w).to rfl
theorem wk7 (w : World) (hE : Env w) : Ret 23 #[obV 2 0 0 3 7 0 0 0 0 false] w (.tuple #[.string wkS, .int .i64 0]) := by
  have h := ftext_c 2 (0, 0) (3, 7) (0, 0) (0, 0) false w hE
  rw [if_pos (by decide)] at h
  rw [show oText 2 (0, 0) (3, 7) (0, 0) (0, 0) false = wkS from str_ext (by rw [oText_list, wk_text])] at h
  exact h
theorem wk8 (w : World) (hE : EnvP w) : Ret 25 #[.string wkS] w (.tuple #[obV 2 0 0 3 7 0 0 0 0 false, .int .i64 0]) := by
  have h := fparse_c wkS (by decide) w hE
  rw [parV_is (s := wkS) ⟨by decide, wk_text.symm⟩] at h
  exact h
theorem wk9 (w : World) (hE : EnvP w) : Ret 25 #[.string ⟨#[111, 98, 106, 101, 99, 116, 32, 48, 46, 48]⟩] w (.tuple #[ob0, .int .i64 9]) := by
  have h := fparse_c ⟨#[111, 98, 106, 101, 99, 116, 32, 48, 46, 48]⟩ (by decide) w hE
  rw [parV_not (s := ⟨#[111, 98, 106, 101, 99, 116, 32, 48, 46, 48]⟩) (fun n a b c d k hi => by
    have e := oL_cut n a b c d k
    rw [← hi.eq] at e
    have e2 : cutAll 32 (⟨#[111, 98, 106, 101, 99, 116, 32, 48, 46, 48]⟩ : ByteArray).data.toList = [[111, 98, 106, 101, 99, 116], [48, 46, 48]] := by decide
    rw [e2] at e
    obtain ⟨⟨n0, n1⟩, -, f0, -⟩ := oOk_iff.1 hi.ok
    have hl := congrArg List.length e
    rw [oWords_len n0 n1] at hl
    simp at hl
    obtain rfl : n = 1 := by omega
    unfold oWords at e
    injection e with _ e3
    simp at e3
    rcases rFit_cases (fOk_fit f0) with rfl | ⟨_, ho⟩
    · rw [rL_none] at e3; simp at e3
    · rw [rL_ok ho] at e3
      obtain ⟨_, h2⟩ := split_unique (a := [48]) (b := [48]) (c := 46) (by decide) (not_mem_dec rfl) e3
      have h3 := congrArg (valFrom 0) h2
      rw [val_decDigits] at h3
      rw [rOk_iff] at ho
      have h4 : valFrom 0 [48] = 0 := by decide
      omega)] at h
  exact h
set_option maxHeartbeats 16000000 in
set_option maxRecDepth 100000 in
theorem works (w : World) (hE : EnvP w) : Ret 18 #[] w (.bool true) := by
  have hc := Below.refl w.heap.size w
  go_enter Tryd.func18, Tryd.ntmps18
  go_wp2_with fail
  refine Calls.mono (wk1 _) ?_
  rintro e w1 ⟨rfl, hb⟩
  replace hE := hE.on hb
  replace hc := chain hc hb
  clear hb
  go_wp2_with fail
  replace hE := hE.alloc (.cells (obC 2 0 0 0 0 0 0 0 0 false) 27)
  replace hc := hc.alloc hc.size (.cells (obC 2 0 0 0 0 0 0 0 0 false) 27)
  have rA : Row (w1.alloc (.cells (obC 2 0 0 0 0 0 0 0 0 false) 27)) w1.heap.size (obC 2 0 0 0 0 0 0 0 0 false) 27 := Row.new
  refine Calls.mono (wk2 _) ?_
  rintro e w2 ⟨rfl, hb⟩
  replace rA := rA.on hb
  replace hE := hE.on hb
  replace hc := chain hc hb
  clear hb
  have yA := rA.cell
  have zA := rA.lt
  go_wp2_with fail
  replace rA := rA.on (below_alloc w2 (.cells (ob0C) 27))
  replace hE := hE.alloc (.cells (ob0C) 27)
  replace hc := hc.alloc hc.size (.cells (ob0C) 27)
  refine Calls.mono (wk3 _) ?_
  rintro e w3 ⟨rfl, hb⟩
  clear yA zA
  replace rA := rA.on hb
  replace hE := hE.on hb
  replace hc := chain hc hb
  clear hb
  have yA := rA.cell
  have zA := rA.lt
  go_wp2_with fail
  replace rA := rA.on (below_alloc w3 (.cells (obC 2 0 0 3 7 0 0 0 0 false) 27))
  replace hE := hE.alloc (.cells (obC 2 0 0 3 7 0 0 0 0 false) 27)
  replace hc := hc.alloc hc.size (.cells (obC 2 0 0 3 7 0 0 0 0 false) 27)
  have rO : Row (w3.alloc (.cells (obC 2 0 0 3 7 0 0 0 0 false) 27)) w3.heap.size (obC 2 0 0 3 7 0 0 0 0 false) 27 := Row.new
  replace rA := rA.on (below_alloc (w3.alloc (.cells (obC 2 0 0 3 7 0 0 0 0 false) 27)) (.cells (refC 0 0) 24))
  replace rO := rO.on (below_alloc (w3.alloc (.cells (obC 2 0 0 3 7 0 0 0 0 false) 27)) (.cells (refC 0 0) 24))
  replace hE := hE.alloc (.cells (refC 0 0) 24)
  replace hc := hc.alloc hc.size (.cells (refC 0 0) 24)
  have rP : Row ((w3.alloc (.cells (obC 2 0 0 3 7 0 0 0 0 false) 27)).alloc (.cells (refC 0 0) 24)) (w3.alloc (.cells (obC 2 0 0 3 7 0 0 0 0 false) 27)).heap.size (refC 0 0) 24 := Row.new
  refine Calls.mono (wk4 _) ?_
  rintro e w4 ⟨rfl, hb⟩
  clear yA zA
  replace rA := rA.on hb
  replace rO := rO.on hb
  replace rP := rP.on hb
  replace hE := hE.on hb
  replace hc := chain hc hb
  clear hb
  have yA := rA.cell
  have zA := rA.lt
  have yO := rO.cell
  have zO := rO.lt
  have yP := rP.cell
  have zP := rP.lt
  go_wp2_with fail
  replace rA := rA.on (below_alloc w4 (.cells (refC 3 7) 24))
  replace rO := rO.on (below_alloc w4 (.cells (refC 3 7) 24))
  replace rP := rP.on (below_alloc w4 (.cells (refC 3 7) 24))
  replace hE := hE.alloc (.cells (refC 3 7) 24)
  replace hc := hc.alloc hc.size (.cells (refC 3 7) 24)
  have rQ : Row (w4.alloc (.cells (refC 3 7) 24)) w4.heap.size (refC 3 7) 24 := Row.new
  refine Calls.mono (wk5 _) ?_
  rintro e w5 ⟨rfl, hb⟩
  clear yA zA yO zO yP zP
  replace rA := rA.on hb
  replace rO := rO.on hb
  replace rP := rP.on hb
  replace rQ := rQ.on hb
  replace hE := hE.on hb
  replace hc := chain hc hb
  clear hb
  have yA := rA.cell
  have zA := rA.lt
  have yO := rO.cell
  have zO := rO.lt
  have yP := rP.cell
  have zP := rP.lt
  have yQ := rQ.cell
  have zQ := rQ.lt
  go_wp2_with fail
  replace rA := rA.on (below_alloc w5 (.cells (refC 0 0) 24))
  replace rO := rO.on (below_alloc w5 (.cells (refC 0 0) 24))
  replace rP := rP.on (below_alloc w5 (.cells (refC 0 0) 24))
  replace rQ := rQ.on (below_alloc w5 (.cells (refC 0 0) 24))
  replace hE := hE.alloc (.cells (refC 0 0) 24)
  replace hc := hc.alloc hc.size (.cells (refC 0 0) 24)
  refine Calls.mono (wk6 _) ?_
  rintro e w6 ⟨rfl, hb⟩
  clear yA zA yO zO yP zP yQ zQ
  replace rA := rA.on hb
  replace rO := rO.on hb
  replace rP := rP.on hb
  replace rQ := rQ.on hb
  replace hE := hE.on hb
  replace hc := chain hc hb
  clear hb
  have yA := rA.cell
  have zA := rA.lt
  have yO := rO.cell
  have zO := rO.lt
  have yP := rP.cell
  have zP := rP.lt
  have yQ := rQ.cell
  have zQ := rQ.lt
  go_wp2_with fail
  replace rA := rA.on (below_alloc w6 (.cells (obC 2 0 0 0 0 0 0 0 0 false) 27))
  replace rO := rO.on (below_alloc w6 (.cells (obC 2 0 0 0 0 0 0 0 0 false) 27))
  replace rP := rP.on (below_alloc w6 (.cells (obC 2 0 0 0 0 0 0 0 0 false) 27))
  replace rQ := rQ.on (below_alloc w6 (.cells (obC 2 0 0 0 0 0 0 0 0 false) 27))
  replace hE := hE.alloc (.cells (obC 2 0 0 0 0 0 0 0 0 false) 27)
  replace hc := hc.alloc hc.size (.cells (obC 2 0 0 0 0 0 0 0 0 false) 27)
  have rR : Row (w6.alloc (.cells (obC 2 0 0 0 0 0 0 0 0 false) 27)) w6.heap.size (obC 2 0 0 0 0 0 0 0 0 false) 27 := Row.new
  replace rA := rA.on (below_alloc (w6.alloc (.cells (obC 2 0 0 0 0 0 0 0 0 false) 27)) (.cells (refC 3 7) 24))
  replace rO := rO.on (below_alloc (w6.alloc (.cells (obC 2 0 0 0 0 0 0 0 0 false) 27)) (.cells (refC 3 7) 24))
  replace rP := rP.on (below_alloc (w6.alloc (.cells (obC 2 0 0 0 0 0 0 0 0 false) 27)) (.cells (refC 3 7) 24))
  replace rQ := rQ.on (below_alloc (w6.alloc (.cells (obC 2 0 0 0 0 0 0 0 0 false) 27)) (.cells (refC 3 7) 24))
  replace rR := rR.on (below_alloc (w6.alloc (.cells (obC 2 0 0 0 0 0 0 0 0 false) 27)) (.cells (refC 3 7) 24))
  replace hE := hE.alloc (.cells (refC 3 7) 24)
  replace hc := hc.alloc hc.size (.cells (refC 3 7) 24)
  have rT : Row ((w6.alloc (.cells (obC 2 0 0 0 0 0 0 0 0 false) 27)).alloc (.cells (refC 3 7) 24)) (w6.alloc (.cells (obC 2 0 0 0 0 0 0 0 0 false) 27)).heap.size (refC 3 7) 24 := Row.new
  refine Calls.mono (wk7 _ hE.toEnv) ?_
  rintro e w7 ⟨rfl, hb⟩
  clear yA zA yO zO yP zP yQ zQ
  replace rA := rA.on hb
  replace rO := rO.on hb
  replace rP := rP.on hb
  replace rQ := rQ.on hb
  replace rR := rR.on hb
  replace rT := rT.on hb
  replace hE := hE.on hb
  replace hc := chain hc hb
  clear hb
  have yA := rA.cell
  have zA := rA.lt
  have yO := rO.cell
  have zO := rO.lt
  have yP := rP.cell
  have zP := rP.lt
  have yQ := rQ.cell
  have zQ := rQ.lt
  have yR := rR.cell
  have zR := rR.lt
  have yT := rT.cell
  have zT := rT.lt
  go_wp2_with fail
  refine Calls.mono (wk8 _ hE) ?_
  rintro e w8 ⟨rfl, hb⟩
  clear yA zA yO zO yP zP yQ zQ yR zR yT zT
  replace rA := rA.on hb
  replace rO := rO.on hb
  replace rP := rP.on hb
  replace rQ := rQ.on hb
  replace rR := rR.on hb
  replace rT := rT.on hb
  replace hE := hE.on hb
  replace hc := chain hc hb
  clear hb
  have yA := rA.cell
  have zA := rA.lt
  have yO := rO.cell
  have zO := rO.lt
  have yP := rP.cell
  have zP := rP.lt
  have yQ := rQ.cell
  have zQ := rQ.lt
  have yR := rR.cell
  have zR := rR.lt
  have yT := rT.cell
  have zT := rT.lt
  go_wp2_with fail
  replace rA := rA.on (below_alloc w8 (.cells (obC 2 0 0 3 7 0 0 0 0 false) 27))
  replace rO := rO.on (below_alloc w8 (.cells (obC 2 0 0 3 7 0 0 0 0 false) 27))
  replace rP := rP.on (below_alloc w8 (.cells (obC 2 0 0 3 7 0 0 0 0 false) 27))
  replace rQ := rQ.on (below_alloc w8 (.cells (obC 2 0 0 3 7 0 0 0 0 false) 27))
  replace rR := rR.on (below_alloc w8 (.cells (obC 2 0 0 3 7 0 0 0 0 false) 27))
  replace rT := rT.on (below_alloc w8 (.cells (obC 2 0 0 3 7 0 0 0 0 false) 27))
  replace hE := hE.alloc (.cells (obC 2 0 0 3 7 0 0 0 0 false) 27)
  replace hc := hc.alloc hc.size (.cells (obC 2 0 0 3 7 0 0 0 0 false) 27)
  have rU : Row (w8.alloc (.cells (obC 2 0 0 3 7 0 0 0 0 false) 27)) w8.heap.size (obC 2 0 0 3 7 0 0 0 0 false) 27 := Row.new
  refine Calls.mono (wk9 _ hE) ?_
  rintro e w9 ⟨rfl, hb⟩
  clear yA zA yO zO yP zP yQ zQ yR zR yT zT
  replace rA := rA.on hb
  replace rO := rO.on hb
  replace rP := rP.on hb
  replace rQ := rQ.on hb
  replace rR := rR.on hb
  replace rT := rT.on hb
  replace rU := rU.on hb
  replace hE := hE.on hb
  replace hc := chain hc hb
  clear hb
  have yA := rA.cell
  have zA := rA.lt
  have yO := rO.cell
  have zO := rO.lt
  have yP := rP.cell
  have zP := rP.lt
  have yQ := rQ.cell
  have zQ := rQ.lt
  have yR := rR.cell
  have zR := rR.lt
  have yT := rT.cell
  have zT := rT.lt
  have yU := rU.cell
  have zU := rU.lt
  go_wp2_with fail
  replace rA := rA.on (below_alloc w9 (.cells (ob0C) 27))
  replace rO := rO.on (below_alloc w9 (.cells (ob0C) 27))
  replace rP := rP.on (below_alloc w9 (.cells (ob0C) 27))
  replace rQ := rQ.on (below_alloc w9 (.cells (ob0C) 27))
  replace rR := rR.on (below_alloc w9 (.cells (ob0C) 27))
  replace rT := rT.on (below_alloc w9 (.cells (ob0C) 27))
  replace rU := rU.on (below_alloc w9 (.cells (ob0C) 27))
  replace hE := hE.alloc (.cells (ob0C) 27)
  replace hc := hc.alloc hc.size (.cells (ob0C) 27)
  clear yA zA yO zO yP zP yQ zQ yR zR yT zT yU zU
  generalize (w9.alloc (.cells (ob0C) 27)) = W at *
  rw [World.size_alloc] at rP
  generalize w3.heap.size + 1 = xP at *
  rw [World.size_alloc] at rT
  generalize w6.heap.size + 1 = xT at *
  generalize w1.heap.size = xA at *
  generalize w3.heap.size = xO at *
  generalize w4.heap.size = xQ at *
  generalize w6.heap.size = xR at *
  generalize w8.heap.size = xU at *
  refine wp_region_held_drew (S := fun W' => (∀ j, W'.cell? ⟨xA, j, none⟩ = (obC 2 0 0 0 0 0 0 0 0 false)[j]?) ∧ (∀ j, W'.cell? ⟨xO, j, none⟩ = (obC 2 0 0 3 7 0 0 0 0 false)[j]?) ∧ (∀ j, W'.cell? ⟨xP, j, none⟩ = (refC 0 0)[j]?) ∧ (∀ j, W'.cell? ⟨xQ, j, none⟩ = (refC 3 7)[j]?) ∧ (∀ j, W'.cell? ⟨xR, j, none⟩ = (obC 2 0 0 0 0 0 0 0 0 false)[j]?) ∧ (∀ j, W'.cell? ⟨xT, j, none⟩ = (refC 3 7)[j]?) ∧ (∀ j, W'.cell? ⟨xU, j, none⟩ = (obC 2 0 0 3 7 0 0 0 0 false)[j]?)) (by kernel_rfl) ⟨rA.cell, rO.cell, rP.cell, rQ.cell, rR.cell, rT.cell, rU.cell⟩ (fun hHeld => ?_)
  replace hc := hc.drew
  replace hE := hE.drew
  replace rA := rA.drew
  replace rO := rO.drew
  replace rP := rP.drew
  replace rQ := rQ.drew
  replace rR := rR.drew
  replace rT := rT.drew
  replace rU := rU.drew
  generalize W.drew = V at *
  have hqO := eq_objF 2 (0, 0) (0, 0) (0, 0) (0, 0) false 2 (0, 0) (0, 0) (0, 0) (0, 0) false
  rw [eqO_same] at hqO
  have hqP := eq_objF 2 (0, 0) (3, 7) (0, 0) (0, 0) false 2 (0, 0) (3, 7) (0, 0) (0, 0) false
  rw [eqO_same] at hqP
  refine' wpAnyH_take (i := 0) (oi := _) (v := _) ?_ (by kernel_rfl) (by kernel_rfl) (by kernel_rfl) ?_ (Or.inl ⟨?_, ?_⟩) (by assumption) ?_
  rotate_left 2
  · (simp only [List.getElem?_toArray, List.getElem?_cons_succ, List.getElem?_cons_zero]; rfl)
  · first | exact fun _ _ _ h => h | exact fun _ _ _ h => nomatch h.1
  · rfl
  · (intro W hSW; (try dsimp only at hSW); go_split_ands; first | (go_simp; done) | (go_simp; with_reducible rfl))
  try simp only [Act.put, List.setIfInBounds_toArray, List.set_cons_zero, List.set_cons_succ]
  refine' wpAnyH_take (i := 1) (oi := _) (v := _) ?_ (by kernel_rfl) (by kernel_rfl) (by kernel_rfl) ?_ (Or.inl ⟨?_, ?_⟩) (by assumption) ?_
  rotate_left 2
  · (simp only [List.getElem?_toArray, List.getElem?_cons_succ, List.getElem?_cons_zero]; rfl)
  · first | exact fun _ _ _ h => h | exact fun _ _ _ h => nomatch h.1
  · rfl
  · (intro W hSW; (try dsimp only at hSW); go_split_ands; first | (go_simp; done) | (go_simp; with_reducible rfl))
  try simp only [Act.put, List.setIfInBounds_toArray, List.set_cons_zero, List.set_cons_succ]
  refine' wpAnyH_take (i := 2) (oi := _) (v := _) ?_ (by kernel_rfl) (by kernel_rfl) (by kernel_rfl) ?_ (Or.inl ⟨?_, ?_⟩) (by assumption) ?_
  rotate_left 2
  · (simp only [List.getElem?_toArray, List.getElem?_cons_succ, List.getElem?_cons_zero]; rfl)
  · first | exact fun _ _ _ h => h | exact fun _ _ _ h => nomatch h.1
  · rfl
  · (intro W hSW; (try dsimp only at hSW); go_split_ands; first | (go_simp; done) | (go_simp; with_reducible rfl))
  try simp only [Act.put, List.setIfInBounds_toArray, List.set_cons_zero, List.set_cons_succ]
  refine' wpAnyH_take (i := 3) (oi := _) (v := _) ?_ (by kernel_rfl) (by kernel_rfl) (by kernel_rfl) ?_ (Or.inl ⟨?_, ?_⟩) (by assumption) ?_
  rotate_left 2
  · (simp only [List.getElem?_toArray, List.getElem?_cons_succ, List.getElem?_cons_zero]; rfl)
  · first | exact fun _ _ _ h => h | exact fun _ _ _ h => nomatch h.1
  · rfl
  · (intro W hSW; (try dsimp only at hSW); go_split_ands; first | (go_simp; done) | (go_simp; with_reducible rfl))
  try simp only [Act.put, List.setIfInBounds_toArray, List.set_cons_zero, List.set_cons_succ]
  refine' wpAnyH_take (i := 4) (oi := _) (v := _) ?_ (by kernel_rfl) (by kernel_rfl) (by kernel_rfl) ?_ (Or.inl ⟨?_, ?_⟩) (by assumption) ?_
  rotate_left 2
  · (simp only [List.getElem?_toArray, List.getElem?_cons_succ, List.getElem?_cons_zero]; rfl)
  · first | exact fun _ _ _ h => h | exact fun _ _ _ h => nomatch h.1
  · rfl
  · (intro W hSW; (try dsimp only at hSW); go_split_ands; first | (go_simp; done) | (go_simp; with_reducible rfl))
  try simp only [Act.put, List.setIfInBounds_toArray, List.set_cons_zero, List.set_cons_succ]
  refine' wpAnyH_take (i := 5) (oi := _) (v := _) ?_ (by kernel_rfl) (by kernel_rfl) (by kernel_rfl) ?_ (Or.inl ⟨?_, ?_⟩) (by assumption) ?_
  rotate_left 2
  · (simp only [List.getElem?_toArray, List.getElem?_cons_succ, List.getElem?_cons_zero]; rfl)
  · first | exact fun _ _ _ h => h | exact fun _ _ _ h => nomatch h.1
  · rfl
  · (intro W hSW; (try dsimp only at hSW); go_split_ands; first | (go_simp; done) | (go_simp; with_reducible rfl))
  try simp only [Act.put, List.setIfInBounds_toArray, List.set_cons_zero, List.set_cons_succ]
  refine' wpAnyH_take (i := 6) (oi := _) (v := _) ?_ (by kernel_rfl) (by kernel_rfl) (by kernel_rfl) ?_ (Or.inl ⟨?_, ?_⟩) (by assumption) ?_
  rotate_left 2
  · (simp only [List.getElem?_toArray, List.getElem?_cons_succ, List.getElem?_cons_zero]; rfl)
  · first | exact fun _ _ _ h => h | exact fun _ _ _ h => nomatch h.1
  · rfl
  · (intro W hSW; (try dsimp only at hSW); go_split_ands; first | (go_simp; done) | (go_simp; with_reducible rfl))
  try simp only [Act.put, List.setIfInBounds_toArray, List.set_cons_zero, List.set_cons_succ]
  refine' wpAnyH_take (i := 7) (oi := _) (v := _) ?_ (by kernel_rfl) (by kernel_rfl) (by kernel_rfl) ?_ (Or.inl ⟨?_, ?_⟩) (by assumption) ?_
  rotate_left 2
  · (simp only [List.getElem?_toArray, List.getElem?_cons_succ, List.getElem?_cons_zero]; rfl)
  · first | exact fun _ _ _ h => h | exact fun _ _ _ h => nomatch h.1
  · rfl
  · (intro W hSW; (try dsimp only at hSW); go_split_ands; first | (go_simp; done) | (go_simp; with_reducible rfl))
  try simp only [Act.put, List.setIfInBounds_toArray, List.set_cons_zero, List.set_cons_succ]
  refine' wpAnyH_take (i := 8) (oi := _) (v := _) ?_ (by kernel_rfl) (by kernel_rfl) (by kernel_rfl) ?_ (Or.inl ⟨?_, ?_⟩) (by assumption) ?_
  rotate_left 2
  · (simp only [List.getElem?_toArray, List.getElem?_cons_succ, List.getElem?_cons_zero]; rfl)
  · first | exact fun _ _ _ h => h | exact fun _ _ _ h => nomatch h.1
  · rfl
  · (intro W hSW; (try dsimp only at hSW); go_split_ands; first | (go_simp; done) | (go_simp; with_reducible rfl))
  try simp only [Act.put, List.setIfInBounds_toArray, List.set_cons_zero, List.set_cons_succ]
  refine' wpAnyH_take (i := 9) (oi := _) (v := _) ?_ (by kernel_rfl) (by kernel_rfl) (by kernel_rfl) ?_ (Or.inl ⟨?_, ?_⟩) (by assumption) ?_
  rotate_left 2
  · (simp only [List.getElem?_toArray, List.getElem?_cons_succ, List.getElem?_cons_zero]; rfl)
  · first | exact fun _ _ _ h => h | exact fun _ _ _ h => nomatch h.1
  · rfl
  · (intro W hSW; (try dsimp only at hSW); go_split_ands; first | (go_simp; done) | (go_simp; with_reducible rfl))
  try simp only [Act.put, List.setIfInBounds_toArray, List.set_cons_zero, List.set_cons_succ]
  refine' wpAnyH_take (i := 10) (oi := _) (v := _) ?_ (by kernel_rfl) (by kernel_rfl) (by kernel_rfl) ?_ (Or.inl ⟨?_, ?_⟩) (by assumption) ?_
  rotate_left 2
  · (simp only [List.getElem?_toArray, List.getElem?_cons_succ, List.getElem?_cons_zero]; rfl)
  · first | exact fun _ _ _ h => h | exact fun _ _ _ h => nomatch h.1
  · rfl
  · (intro W hSW; (try dsimp only at hSW); go_split_ands; first | (go_simp; done) | (go_simp; with_reducible rfl))
  try simp only [Act.put, List.setIfInBounds_toArray, List.set_cons_zero, List.set_cons_succ]
  refine' wpAnyH_take (i := 11) (oi := _) (v := _) ?_ (by kernel_rfl) (by kernel_rfl) (by kernel_rfl) ?_ (Or.inl ⟨?_, ?_⟩) (by assumption) ?_
  rotate_left 2
  · (simp only [List.getElem?_toArray, List.getElem?_cons_succ, List.getElem?_cons_zero]; rfl)
  · first | exact fun _ _ _ h => h | exact fun _ _ _ h => nomatch h.1
  · rfl
  · (intro W hSW; (try dsimp only at hSW); go_split_ands; first | (go_simp; done) | (go_simp; with_reducible rfl))
  try simp only [Act.put, List.setIfInBounds_toArray, List.set_cons_zero, List.set_cons_succ]
  refine' wpAnyH_take (i := 12) (oi := _) (v := _) ?_ (by kernel_rfl) (by kernel_rfl) (by kernel_rfl) ?_ (Or.inl ⟨?_, ?_⟩) (by assumption) ?_
  rotate_left 2
  · (simp only [List.getElem?_toArray, List.getElem?_cons_succ, List.getElem?_cons_zero]; rfl)
  · first | exact fun _ _ _ h => h | exact fun _ _ _ h => nomatch h.1
  · rfl
  · (intro W hSW; (try dsimp only at hSW); go_split_ands; first | (go_simp; done) | (go_simp; with_reducible rfl))
  try simp only [Act.put, List.setIfInBounds_toArray, List.set_cons_zero, List.set_cons_succ]
  refine' wpAnyH_take (i := 13) (oi := _) (v := _) ?_ (by kernel_rfl) (by kernel_rfl) (by kernel_rfl) ?_ (Or.inl ⟨?_, ?_⟩) (by assumption) ?_
  rotate_left 2
  · (simp only [List.getElem?_toArray, List.getElem?_cons_succ, List.getElem?_cons_zero]; rfl)
  · first | exact fun _ _ _ h => h | exact fun _ _ _ h => nomatch h.1
  · rfl
  · (intro W hSW; (try dsimp only at hSW); go_split_ands; first | (go_simp; done) | (go_simp; with_reducible rfl))
  try simp only [Act.put, List.setIfInBounds_toArray, List.set_cons_zero, List.set_cons_succ]
  refine' wpAnyH_take (i := 14) (oi := _) (v := _) ?_ (by kernel_rfl) (by kernel_rfl) (by kernel_rfl) ?_ (Or.inl ⟨?_, ?_⟩) (by assumption) ?_
  rotate_left 2
  · (simp only [List.getElem?_toArray, List.getElem?_cons_succ, List.getElem?_cons_zero]; rfl)
  · first | exact fun _ _ _ h => h | exact fun _ _ _ h => nomatch h.1
  · rfl
  · (intro W hSW; (try dsimp only at hSW); go_split_ands; first | (go_simp; done) | (go_simp; with_reducible rfl))
  try simp only [Act.put, List.setIfInBounds_toArray, List.set_cons_zero, List.set_cons_succ]
  refine' wpAnyH_take (i := 15) (oi := _) (v := _) ?_ (by kernel_rfl) (by kernel_rfl) (by kernel_rfl) ?_ (Or.inl ⟨?_, ?_⟩) (by assumption) ?_
  rotate_left 2
  · (simp only [List.getElem?_toArray, List.getElem?_cons_succ, List.getElem?_cons_zero]; rfl)
  · first | exact fun _ _ _ h => h | exact fun _ _ _ h => nomatch h.1
  · rfl
  · (intro W hSW; (try dsimp only at hSW); go_split_ands; first | (go_simp; done) | (go_simp; with_reducible rfl))
  try simp only [Act.put, List.setIfInBounds_toArray, List.set_cons_zero, List.set_cons_succ]
  refine' wpAnyH_take (i := 16) (oi := _) (v := _) ?_ (by kernel_rfl) (by kernel_rfl) (by kernel_rfl) ?_ (Or.inl ⟨?_, ?_⟩) (by assumption) ?_
  rotate_left 2
  · (simp only [List.getElem?_toArray, List.getElem?_cons_succ, List.getElem?_cons_zero]; rfl)
  · first | exact fun _ _ _ h => h | exact fun _ _ _ h => nomatch h.1
  · rfl
  · (intro W hSW; (try dsimp only at hSW); go_split_ands; first | (go_simp; done) | (go_simp; with_reducible rfl))
  try simp only [Act.put, List.setIfInBounds_toArray, List.set_cons_zero, List.set_cons_succ]
  refine' wpAnyH_take (i := 17) (oi := _) (v := _) ?_ (by kernel_rfl) (by kernel_rfl) (by kernel_rfl) ?_ (Or.inl ⟨?_, ?_⟩) (by assumption) ?_
  rotate_left 2
  · (simp only [List.getElem?_toArray, List.getElem?_cons_succ, List.getElem?_cons_zero]; rfl)
  · first | exact fun _ _ _ h => h | exact fun _ _ _ h => nomatch h.1
  · rfl
  · (intro W hSW; (try dsimp only at hSW); go_split_ands; first | (go_simp; done) | (go_simp; with_reducible rfl))
  try simp only [Act.put, List.setIfInBounds_toArray, List.set_cons_zero, List.set_cons_succ]
  refine' wpAnyH_take (i := 18) (oi := _) (v := _) ?_ (by kernel_rfl) (by kernel_rfl) (by kernel_rfl) ?_ (Or.inl ⟨?_, ?_⟩) (by assumption) ?_
  rotate_left 2
  · (simp only [List.getElem?_toArray, List.getElem?_cons_succ, List.getElem?_cons_zero]; rfl)
  · first | exact fun _ _ _ h => h | exact fun _ _ _ h => nomatch h.1
  · rfl
  · (intro W hSW; (try dsimp only at hSW); go_split_ands; first | (go_simp; done) | (go_simp; with_reducible rfl))
  try simp only [Act.put, List.setIfInBounds_toArray, List.set_cons_zero, List.set_cons_succ]
  refine' wpAnyH_take (i := 19) (oi := _) (v := _) ?_ (by kernel_rfl) (by kernel_rfl) (by kernel_rfl) ?_ (Or.inl ⟨?_, ?_⟩) (by assumption) ?_
  rotate_left 2
  · (simp only [List.getElem?_toArray, List.getElem?_cons_succ, List.getElem?_cons_zero]; rfl)
  · first | exact fun _ _ _ h => h | exact fun _ _ _ h => nomatch h.1
  · rfl
  · (intro W hSW; (try dsimp only at hSW); go_split_ands; first | (go_simp; done) | (go_simp; with_reducible rfl))
  try simp only [Act.put, List.setIfInBounds_toArray, List.set_cons_zero, List.set_cons_succ]
  refine' wpAnyH_take (i := 20) (oi := _) (v := _) ?_ (by kernel_rfl) (by kernel_rfl) (by kernel_rfl) ?_ (Or.inl ⟨?_, ?_⟩) (by assumption) ?_
  rotate_left 2
  · (simp only [List.getElem?_toArray, List.getElem?_cons_succ, List.getElem?_cons_zero]; rfl)
  · first | exact fun _ _ _ h => h | exact fun _ _ _ h => nomatch h.1
  · rfl
  · (intro W hSW; (try dsimp only at hSW); go_split_ands; first | (go_simp; done) | (go_simp; with_reducible rfl))
  try simp only [Act.put, List.setIfInBounds_toArray, List.set_cons_zero, List.set_cons_succ]
  refine' wpAnyH_take (i := 21) (oi := _) (v := _) ?_ (by kernel_rfl) (by kernel_rfl) (by kernel_rfl) ?_ (Or.inl ⟨?_, ?_⟩) (by assumption) ?_
  rotate_left 2
  · (simp only [List.getElem?_toArray, List.getElem?_cons_succ, List.getElem?_cons_zero]; rfl)
  · first | exact fun _ _ _ h => h | exact fun _ _ _ h => nomatch h.1
  · rfl
  · (intro W hSW; (try dsimp only at hSW); go_split_ands; first | (go_simp; done) | (go_simp; with_reducible rfl))
  try simp only [Act.put, List.setIfInBounds_toArray, List.set_cons_zero, List.set_cons_succ]
  refine' wpAnyH_take (i := 22) (oi := _) (v := _) ?_ (by kernel_rfl) (by kernel_rfl) (by kernel_rfl) ?_ (Or.inl ⟨?_, ?_⟩) (by assumption) ?_
  rotate_left 2
  · (simp only [List.getElem?_toArray, List.getElem?_cons_succ, List.getElem?_cons_zero]; rfl)
  · first | exact fun _ _ _ h => h | exact fun _ _ _ h => nomatch h.1
  · rfl
  · (intro W hSW; (try dsimp only at hSW); go_split_ands; first | (go_simp; done) | (go_simp; with_reducible rfl))
  try simp only [Act.put, List.setIfInBounds_toArray, List.set_cons_zero, List.set_cons_succ]
  refine' wpAnyH_take (i := 23) (oi := _) (v := _) ?_ (by kernel_rfl) (by kernel_rfl) (by kernel_rfl) ?_ (Or.inl ⟨?_, ?_⟩) (by assumption) ?_
  rotate_left 2
  · (simp only [List.getElem?_toArray, List.getElem?_cons_succ, List.getElem?_cons_zero]; rfl)
  · first | exact fun _ _ _ h => h | exact fun _ _ _ h => nomatch h.1
  · rfl
  · (intro W hSW; (try dsimp only at hSW); go_split_ands; first | (go_simp; done) | (go_simp; with_reducible rfl))
  try simp only [Act.put, List.setIfInBounds_toArray, List.set_cons_zero, List.set_cons_succ]
  refine' wpAnyH_take (i := 24) (oi := _) (v := _) ?_ (by kernel_rfl) (by kernel_rfl) (by kernel_rfl) ?_ (Or.inl ⟨?_, ?_⟩) (by assumption) ?_
  rotate_left 2
  · (simp only [List.getElem?_toArray, List.getElem?_cons_succ, List.getElem?_cons_zero]; rfl)
  · first | exact fun _ _ _ h => h | exact fun _ _ _ h => nomatch h.1
  · rfl
  · (intro W hSW; (try dsimp only at hSW); go_split_ands; first | (go_simp; done) | (go_simp; with_reducible rfl))
  try simp only [Act.put, List.setIfInBounds_toArray, List.set_cons_zero, List.set_cons_succ]
  refine' wpAnyH_take (i := 25) (oi := _) (v := _) ?_ (by kernel_rfl) (by kernel_rfl) (by kernel_rfl) ?_ (Or.inl ⟨?_, ?_⟩) (by assumption) ?_
  rotate_left 2
  · (simp only [List.getElem?_toArray, List.getElem?_cons_succ, List.getElem?_cons_zero]; rfl)
  · first | exact fun _ _ _ h => h | exact fun _ _ _ h => nomatch h.1
  · rfl
  · (intro W hSW; (try dsimp only at hSW); go_split_ands; first | (go_simp; done) | (go_simp; with_reducible rfl))
  try simp only [Act.put, List.setIfInBounds_toArray, List.set_cons_zero, List.set_cons_succ]
  refine' wpAnyH_take (i := 26) (oi := _) (v := _) ?_ (by kernel_rfl) (by kernel_rfl) (by kernel_rfl) ?_ (Or.inl ⟨?_, ?_⟩) (by assumption) ?_
  rotate_left 2
  · (simp only [List.getElem?_toArray, List.getElem?_cons_succ, List.getElem?_cons_zero]; rfl)
  · first | exact fun _ _ _ h => h | exact fun _ _ _ h => nomatch h.1
  · rfl
  · (intro W hSW; (try dsimp only at hSW); go_split_ands; first | (go_simp; done) | (go_simp; with_reducible rfl))
  try simp only [Act.put, List.setIfInBounds_toArray, List.set_cons_zero, List.set_cons_succ]
  refine' wpAnyH_take (i := 27) (oi := _) (v := _) ?_ (by kernel_rfl) (by kernel_rfl) (by kernel_rfl) ?_ (Or.inl ⟨?_, ?_⟩) (by assumption) ?_
  rotate_left 2
  · (simp only [List.getElem?_toArray, List.getElem?_cons_succ, List.getElem?_cons_zero]; rfl)
  · first | exact fun _ _ _ h => h | exact fun _ _ _ h => nomatch h.1
  · rfl
  · (intro W hSW; (try dsimp only at hSW); go_split_ands; first | (go_simp; done) | (go_simp; with_reducible rfl))
  try simp only [Act.put, List.setIfInBounds_toArray, List.set_cons_zero, List.set_cons_succ]
  refine' wpAnyH_take (i := 28) (oi := _) (v := _) ?_ (by kernel_rfl) (by kernel_rfl) (by kernel_rfl) ?_ (Or.inl ⟨?_, ?_⟩) (by assumption) ?_
  rotate_left 2
  · (simp only [List.getElem?_toArray, List.getElem?_cons_succ, List.getElem?_cons_zero]; rfl)
  · first | exact fun _ _ _ h => h | exact fun _ _ _ h => nomatch h.1
  · rfl
  · (intro W hSW; (try dsimp only at hSW); go_split_ands; first | (go_simp; done) | (go_simp; with_reducible rfl))
  try simp only [Act.put, List.setIfInBounds_toArray, List.set_cons_zero, List.set_cons_succ]
  refine' wpAnyH_take (i := 29) (oi := _) (v := _) ?_ (by kernel_rfl) (by kernel_rfl) (by kernel_rfl) ?_ (Or.inl ⟨?_, ?_⟩) (by assumption) ?_
  rotate_left 2
  · (simp only [List.getElem?_toArray, List.getElem?_cons_succ, List.getElem?_cons_zero]; rfl)
  · first | exact fun _ _ _ h => h | exact fun _ _ _ h => nomatch h.1
  · rfl
  · (intro W hSW; (try dsimp only at hSW); go_split_ands; first | (go_simp; done) | (go_simp; with_reducible rfl))
  try simp only [Act.put, List.setIfInBounds_toArray, List.set_cons_zero, List.set_cons_succ]
  refine' wpAnyH_take (i := 30) (oi := _) (v := _) ?_ (by kernel_rfl) (by kernel_rfl) (by kernel_rfl) ?_ (Or.inl ⟨?_, ?_⟩) (by assumption) ?_
  rotate_left 2
  · (simp only [List.getElem?_toArray, List.getElem?_cons_succ, List.getElem?_cons_zero]; rfl)
  · first | exact fun _ _ _ h => h | exact fun _ _ _ h => nomatch h.1
  · rfl
  · (intro W hSW; (try dsimp only at hSW); go_split_ands; first | (go_simp; done) | (go_simp; with_reducible rfl))
  try simp only [Act.put, List.setIfInBounds_toArray, List.set_cons_zero, List.set_cons_succ]
  refine' wpAnyH_take (i := 31) (oi := _) (v := _) ?_ (by kernel_rfl) (by kernel_rfl) (by kernel_rfl) ?_ (Or.inl ⟨?_, ?_⟩) (by assumption) ?_
  rotate_left 2
  · (simp only [List.getElem?_toArray, List.getElem?_cons_succ, List.getElem?_cons_zero]; rfl)
  · first | exact fun _ _ _ h => h | exact fun _ _ _ h => nomatch h.1
  · rfl
  · (intro W hSW; (try dsimp only at hSW); go_split_ands; first | (go_simp; done) | (go_simp; with_reducible rfl))
  try simp only [Act.put, List.setIfInBounds_toArray, List.set_cons_zero, List.set_cons_succ]
  refine' wpAnyH_take (i := 32) (oi := _) (v := _) ?_ (by kernel_rfl) (by kernel_rfl) (by kernel_rfl) ?_ (Or.inl ⟨?_, ?_⟩) (by assumption) ?_
  rotate_left 2
  · (simp only [List.getElem?_toArray, List.getElem?_cons_succ, List.getElem?_cons_zero]; rfl)
  · first | exact fun _ _ _ h => h | exact fun _ _ _ h => nomatch h.1
  · rfl
  · (intro W hSW; (try dsimp only at hSW); go_split_ands; first | (go_simp; done) | (go_simp; with_reducible rfl))
  try simp only [Act.put, List.setIfInBounds_toArray, List.set_cons_zero, List.set_cons_succ]
  refine' wpAnyH_take (i := 33) (oi := _) (v := _) ?_ (by kernel_rfl) (by kernel_rfl) (by kernel_rfl) ?_ (Or.inl ⟨?_, ?_⟩) (by assumption) ?_
  rotate_left 2
  · (simp only [List.getElem?_toArray, List.getElem?_cons_succ, List.getElem?_cons_zero]; rfl)
  · first | exact fun _ _ _ h => h | exact fun _ _ _ h => nomatch h.1
  · rfl
  · (intro W hSW; (try dsimp only at hSW); go_split_ands; first | (go_simp; done) | (go_simp; with_reducible rfl))
  try simp only [Act.put, List.setIfInBounds_toArray, List.set_cons_zero, List.set_cons_succ]
  refine' wpAnyH_take (i := 34) (oi := _) (v := _) ?_ (by kernel_rfl) (by kernel_rfl) (by kernel_rfl) ?_ (Or.inl ⟨?_, ?_⟩) (by assumption) ?_
  rotate_left 2
  · (simp only [List.getElem?_toArray, List.getElem?_cons_succ, List.getElem?_cons_zero]; rfl)
  · first | exact fun _ _ _ h => h | exact fun _ _ _ h => nomatch h.1
  · rfl
  · (intro W hSW; (try dsimp only at hSW); go_split_ands; first | (go_simp; done) | (go_simp; with_reducible rfl))
  try simp only [Act.put, List.setIfInBounds_toArray, List.set_cons_zero, List.set_cons_succ]
  refine' wpAnyH_take (i := 35) (oi := _) (v := _) ?_ (by kernel_rfl) (by kernel_rfl) (by kernel_rfl) ?_ (Or.inl ⟨?_, ?_⟩) (by assumption) ?_
  rotate_left 2
  · (simp only [List.getElem?_toArray, List.getElem?_cons_succ, List.getElem?_cons_zero]; rfl)
  · first | exact fun _ _ _ h => h | exact fun _ _ _ h => nomatch h.1
  · rfl
  · (intro W hSW; (try dsimp only at hSW); go_split_ands; first | (go_simp; done) | (go_simp; with_reducible rfl))
  try simp only [Act.put, List.setIfInBounds_toArray, List.set_cons_zero, List.set_cons_succ]
  refine' wpAnyH_take (i := 36) (oi := _) (v := _) ?_ (by kernel_rfl) (by kernel_rfl) (by kernel_rfl) ?_ (Or.inl ⟨?_, ?_⟩) (by assumption) ?_
  rotate_left 2
  · (simp only [List.getElem?_toArray, List.getElem?_cons_succ, List.getElem?_cons_zero]; rfl)
  · first | exact fun _ _ _ h => h | exact fun _ _ _ h => nomatch h.1
  · rfl
  · (intro W hSW; (try dsimp only at hSW); go_split_ands; first | (go_simp; done) | (go_simp; with_reducible rfl))
  try simp only [Act.put, List.setIfInBounds_toArray, List.set_cons_zero, List.set_cons_succ]
  refine' wpAnyH_take (i := 37) (oi := _) (v := _) ?_ (by kernel_rfl) (by kernel_rfl) (by kernel_rfl) ?_ (Or.inl ⟨?_, ?_⟩) (by assumption) ?_
  rotate_left 2
  · (simp only [List.getElem?_toArray, List.getElem?_cons_succ, List.getElem?_cons_zero]; rfl)
  · first | exact fun _ _ _ h => h | exact fun _ _ _ h => nomatch h.1
  · rfl
  · (intro W hSW; (try dsimp only at hSW); go_split_ands; first | (go_simp; done) | (go_simp; with_reducible rfl))
  try simp only [Act.put, List.setIfInBounds_toArray, List.set_cons_zero, List.set_cons_succ]
  refine' wpAnyH_take (i := 38) (oi := _) (v := _) ?_ (by kernel_rfl) (by kernel_rfl) (by kernel_rfl) ?_ (Or.inl ⟨?_, ?_⟩) (by assumption) ?_
  rotate_left 2
  · (simp only [List.getElem?_toArray, List.getElem?_cons_succ, List.getElem?_cons_zero]; rfl)
  · first | exact fun _ _ _ h => h | exact fun _ _ _ h => nomatch h.1
  · rfl
  · (intro W hSW; (try dsimp only at hSW); go_split_ands; first | (go_simp; done) | (go_simp; with_reducible rfl))
  try simp only [Act.put, List.setIfInBounds_toArray, List.set_cons_zero, List.set_cons_succ]
  refine' wpAnyH_take (i := 39) (oi := _) (v := _) ?_ (by kernel_rfl) (by kernel_rfl) (by kernel_rfl) ?_ (Or.inl ⟨?_, ?_⟩) (by assumption) ?_
  rotate_left 2
  · (simp only [List.getElem?_toArray, List.getElem?_cons_succ, List.getElem?_cons_zero]; rfl)
  · first | exact fun _ _ _ h => h | exact fun _ _ _ h => nomatch h.1
  · rfl
  · (intro W hSW; (try dsimp only at hSW); go_split_ands; first | (go_simp; done) | (go_simp; with_reducible rfl))
  try simp only [Act.put, List.setIfInBounds_toArray, List.set_cons_zero, List.set_cons_succ]
  refine' wpAnyH_take (i := 40) (oi := _) (v := _) ?_ (by kernel_rfl) (by kernel_rfl) (by kernel_rfl) ?_ (Or.inl ⟨?_, ?_⟩) (by assumption) ?_
  rotate_left 2
  · (simp only [List.getElem?_toArray, List.getElem?_cons_succ, List.getElem?_cons_zero]; rfl)
  · first | exact fun _ _ _ h => h | exact fun _ _ _ h => nomatch h.1
  · rfl
  · (intro W hSW; (try dsimp only at hSW); go_split_ands; first | (go_simp; done) | (go_simp; with_reducible rfl))
  try simp only [Act.put, List.setIfInBounds_toArray, List.set_cons_zero, List.set_cons_succ]
  refine' wpAnyH_take (i := 41) (oi := _) (v := _) ?_ (by kernel_rfl) (by kernel_rfl) (by kernel_rfl) ?_ (Or.inl ⟨?_, ?_⟩) (by assumption) ?_
  rotate_left 2
  · (simp only [List.getElem?_toArray, List.getElem?_cons_succ, List.getElem?_cons_zero]; rfl)
  · first | exact fun _ _ _ h => h | exact fun _ _ _ h => nomatch h.1
  · rfl
  · (intro W hSW; (try dsimp only at hSW); go_split_ands; first | (go_simp; done) | (go_simp; with_reducible rfl))
  try simp only [Act.put, List.setIfInBounds_toArray, List.set_cons_zero, List.set_cons_succ]
  refine' wpAnyH_take (i := 42) (oi := _) (v := _) ?_ (by kernel_rfl) (by kernel_rfl) (by kernel_rfl) ?_ (Or.inl ⟨?_, ?_⟩) (by assumption) ?_
  rotate_left 2
  · (simp only [List.getElem?_toArray, List.getElem?_cons_succ, List.getElem?_cons_zero]; rfl)
  · first | exact fun _ _ _ h => h | exact fun _ _ _ h => nomatch h.1
  · rfl
  · (intro W hSW; (try dsimp only at hSW); go_split_ands; first | (go_simp; done) | (go_simp; with_reducible rfl))
  try simp only [Act.put, List.setIfInBounds_toArray, List.set_cons_zero, List.set_cons_succ]
  refine' wpAnyH_take (i := 43) (oi := _) (v := _) ?_ (by kernel_rfl) (by kernel_rfl) (by kernel_rfl) ?_ (Or.inl ⟨?_, ?_⟩) (by assumption) ?_
  rotate_left 2
  · (simp only [List.getElem?_toArray, List.getElem?_cons_succ, List.getElem?_cons_zero]; rfl)
  · first | exact fun _ _ _ h => h | exact fun _ _ _ h => nomatch h.1
  · rfl
  · (intro W hSW; (try dsimp only at hSW); go_split_ands; first | (go_simp; done) | (go_simp; with_reducible rfl))
  try simp only [Act.put, List.setIfInBounds_toArray, List.set_cons_zero, List.set_cons_succ]
  refine' wpAnyH_take (i := 44) (oi := _) (v := _) ?_ (by kernel_rfl) (by kernel_rfl) (by kernel_rfl) ?_ (Or.inl ⟨?_, ?_⟩) (by assumption) ?_
  rotate_left 2
  · (simp only [List.getElem?_toArray, List.getElem?_cons_succ, List.getElem?_cons_zero]; rfl)
  · first | exact fun _ _ _ h => h | exact fun _ _ _ h => nomatch h.1
  · rfl
  · (intro W hSW; (try dsimp only at hSW); go_split_ands; first | (go_simp; done) | (go_simp; with_reducible rfl))
  try simp only [Act.put, List.setIfInBounds_toArray, List.set_cons_zero, List.set_cons_succ]
  refine' wpAnyH_take (i := 45) (oi := _) (v := _) ?_ (by kernel_rfl) (by kernel_rfl) (by kernel_rfl) ?_ (Or.inl ⟨?_, ?_⟩) (by assumption) ?_
  rotate_left 2
  · (simp only [List.getElem?_toArray, List.getElem?_cons_succ, List.getElem?_cons_zero]; rfl)
  · first | exact fun _ _ _ h => h | exact fun _ _ _ h => nomatch h.1
  · rfl
  · (intro W hSW; (try dsimp only at hSW); go_split_ands; first | (go_simp; done) | (go_simp; with_reducible rfl))
  try simp only [Act.put, List.setIfInBounds_toArray, List.set_cons_zero, List.set_cons_succ]
  refine' wpAnyH_take (i := 46) (oi := _) (v := _) ?_ (by kernel_rfl) (by kernel_rfl) (by kernel_rfl) ?_ (Or.inl ⟨?_, ?_⟩) (by assumption) ?_
  rotate_left 2
  · (simp only [List.getElem?_toArray, List.getElem?_cons_succ, List.getElem?_cons_zero]; rfl)
  · first | exact fun _ _ _ h => h | exact fun _ _ _ h => nomatch h.1
  · rfl
  · (intro W hSW; (try dsimp only at hSW); go_split_ands; first | (go_simp; done) | (go_simp; with_reducible rfl))
  try simp only [Act.put, List.setIfInBounds_toArray, List.set_cons_zero, List.set_cons_succ]
  refine' wpAnyH_take (i := 47) (oi := _) (v := _) ?_ (by kernel_rfl) (by kernel_rfl) (by kernel_rfl) ?_ (Or.inl ⟨?_, ?_⟩) (by assumption) ?_
  rotate_left 2
  · (simp only [List.getElem?_toArray, List.getElem?_cons_succ, List.getElem?_cons_zero]; rfl)
  · first | exact fun _ _ _ h => h | exact fun _ _ _ h => nomatch h.1
  · rfl
  · (intro W hSW; (try dsimp only at hSW); go_split_ands; first | (go_simp; done) | (go_simp; with_reducible rfl))
  try simp only [Act.put, List.setIfInBounds_toArray, List.set_cons_zero, List.set_cons_succ]
  refine' wpAnyH_take (i := 48) (oi := _) (v := _) ?_ (by kernel_rfl) (by kernel_rfl) (by kernel_rfl) ?_ (Or.inl ⟨?_, ?_⟩) (by assumption) ?_
  rotate_left 2
  · (simp only [List.getElem?_toArray, List.getElem?_cons_succ, List.getElem?_cons_zero]; rfl)
  · first | exact fun _ _ _ h => h | exact fun _ _ _ h => nomatch h.1
  · rfl
  · (intro W hSW; (try dsimp only at hSW); go_split_ands; first | (go_simp; done) | (go_simp; with_reducible rfl))
  try simp only [Act.put, List.setIfInBounds_toArray, List.set_cons_zero, List.set_cons_succ]
  refine' wpAnyH_take (i := 49) (oi := _) (v := _) ?_ (by kernel_rfl) (by kernel_rfl) (by kernel_rfl) ?_ (Or.inl ⟨?_, ?_⟩) (by assumption) ?_
  rotate_left 2
  · (simp only [List.getElem?_toArray, List.getElem?_cons_succ, List.getElem?_cons_zero]; rfl)
  · first | exact fun _ _ _ h => h | exact fun _ _ _ h => nomatch h.1
  · rfl
  · (intro W hSW; (try dsimp only at hSW); go_split_ands; first | (go_simp; done) | (go_simp; with_reducible rfl))
  try simp only [Act.put, List.setIfInBounds_toArray, List.set_cons_zero, List.set_cons_succ]
  refine' wpAnyH_take (i := 50) (oi := _) (v := _) ?_ (by kernel_rfl) (by kernel_rfl) (by kernel_rfl) ?_ (Or.inl ⟨?_, ?_⟩) (by assumption) ?_
  rotate_left 2
  · (simp only [List.getElem?_toArray, List.getElem?_cons_succ, List.getElem?_cons_zero]; rfl)
  · first | exact fun _ _ _ h => h | exact fun _ _ _ h => nomatch h.1
  · rfl
  · (intro W hSW; (try dsimp only at hSW); go_split_ands; first | (go_simp; done) | (go_simp; with_reducible rfl))
  try simp only [Act.put, List.setIfInBounds_toArray, List.set_cons_zero, List.set_cons_succ]
  refine' wpAnyH_take (i := 51) (oi := _) (v := _) ?_ (by kernel_rfl) (by kernel_rfl) (by kernel_rfl) ?_ (Or.inl ⟨?_, ?_⟩) (by assumption) ?_
  rotate_left 2
  · (simp only [List.getElem?_toArray, List.getElem?_cons_succ, List.getElem?_cons_zero]; rfl)
  · first | exact fun _ _ _ h => h | exact fun _ _ _ h => nomatch h.1
  · rfl
  · (intro W hSW; (try dsimp only at hSW); go_split_ands; first | (go_simp; done) | (go_simp; with_reducible rfl))
  try simp only [Act.put, List.setIfInBounds_toArray, List.set_cons_zero, List.set_cons_succ]
  refine' wpAnyH_take (i := 52) (oi := _) (v := _) ?_ (by kernel_rfl) (by kernel_rfl) (by kernel_rfl) ?_ (Or.inl ⟨?_, ?_⟩) (by assumption) ?_
  rotate_left 2
  · (simp only [List.getElem?_toArray, List.getElem?_cons_succ, List.getElem?_cons_zero]; rfl)
  · first | exact fun _ _ _ h => h | exact fun _ _ _ h => nomatch h.1
  · rfl
  · (intro W hSW; (try dsimp only at hSW); go_split_ands; first | (go_simp; done) | (go_simp; with_reducible rfl))
  try simp only [Act.put, List.setIfInBounds_toArray, List.set_cons_zero, List.set_cons_succ]
  refine' wpAnyH_take (i := 53) (oi := _) (v := _) ?_ (by kernel_rfl) (by kernel_rfl) (by kernel_rfl) ?_ (Or.inl ⟨?_, ?_⟩) (by assumption) ?_
  rotate_left 2
  · (simp only [List.getElem?_toArray, List.getElem?_cons_succ, List.getElem?_cons_zero]; rfl)
  · first | exact fun _ _ _ h => h | exact fun _ _ _ h => nomatch h.1
  · rfl
  · (intro W hSW; (try dsimp only at hSW); go_split_ands; first | (go_simp; done) | (go_simp; with_reducible rfl))
  try simp only [Act.put, List.setIfInBounds_toArray, List.set_cons_zero, List.set_cons_succ]
  refine' wpAnyH_take (i := 54) (oi := _) (v := _) ?_ (by kernel_rfl) (by kernel_rfl) (by kernel_rfl) ?_ (Or.inl ⟨?_, ?_⟩) (by assumption) ?_
  rotate_left 2
  · (simp only [List.getElem?_toArray, List.getElem?_cons_succ, List.getElem?_cons_zero]; rfl)
  · first | exact fun _ _ _ h => h | exact fun _ _ _ h => nomatch h.1
  · rfl
  · (intro W hSW; (try dsimp only at hSW); go_split_ands; first | (go_simp; done) | (go_simp; with_reducible rfl))
  try simp only [Act.put, List.setIfInBounds_toArray, List.set_cons_zero, List.set_cons_succ]
  refine' wpAnyH_take (i := 55) (oi := _) (v := _) ?_ (by kernel_rfl) (by kernel_rfl) (by kernel_rfl) ?_ (Or.inl ⟨?_, ?_⟩) (by assumption) ?_
  rotate_left 2
  · (simp only [List.getElem?_toArray, List.getElem?_cons_succ, List.getElem?_cons_zero]; rfl)
  · first | exact fun _ _ _ h => h | exact fun _ _ _ h => nomatch h.1
  · rfl
  · (intro W hSW; (try dsimp only at hSW); go_split_ands; first | (go_simp; done) | (go_simp; with_reducible rfl))
  try simp only [Act.put, List.setIfInBounds_toArray, List.set_cons_zero, List.set_cons_succ]
  refine' wpAnyH_take (i := 56) (oi := _) (v := _) ?_ (by kernel_rfl) (by kernel_rfl) (by kernel_rfl) ?_ (Or.inl ⟨?_, ?_⟩) (by assumption) ?_
  rotate_left 2
  · (simp only [List.getElem?_toArray, List.getElem?_cons_succ, List.getElem?_cons_zero]; rfl)
  · first | exact fun _ _ _ h => h | exact fun _ _ _ h => nomatch h.1
  · rfl
  · (intro W hSW; (try dsimp only at hSW); go_split_ands; first | (go_simp; done) | (go_simp; with_reducible rfl))
  try simp only [Act.put, List.setIfInBounds_toArray, List.set_cons_zero, List.set_cons_succ]
  refine' wpAnyH_take (i := 57) (oi := _) (v := _) ?_ (by kernel_rfl) (by kernel_rfl) (by kernel_rfl) ?_ (Or.inl ⟨?_, ?_⟩) (by assumption) ?_
  rotate_left 2
  · (simp only [List.getElem?_toArray, List.getElem?_cons_succ, List.getElem?_cons_zero]; rfl)
  · first | exact fun _ _ _ h => h | exact fun _ _ _ h => nomatch h.1
  · rfl
  · (intro W hSW; (try dsimp only at hSW); go_split_ands; first | (go_simp; done) | (go_simp; with_reducible rfl))
  try simp only [Act.put, List.setIfInBounds_toArray, List.set_cons_zero, List.set_cons_succ]
  refine' wpAnyH_take (i := 58) (oi := _) (v := _) ?_ (by kernel_rfl) (by kernel_rfl) (by kernel_rfl) ?_ (Or.inl ⟨?_, ?_⟩) (by assumption) ?_
  rotate_left 2
  · (simp only [List.getElem?_toArray, List.getElem?_cons_succ, List.getElem?_cons_zero]; rfl)
  · first | exact fun _ _ _ h => h | exact fun _ _ _ h => nomatch h.1
  · rfl
  · (intro W hSW; (try dsimp only at hSW); go_split_ands; first | (go_simp; done) | (go_simp; with_reducible rfl))
  try simp only [Act.put, List.setIfInBounds_toArray, List.set_cons_zero, List.set_cons_succ]
  refine' wpAnyH_take (i := 59) (oi := _) (v := _) ?_ (by kernel_rfl) (by kernel_rfl) (by kernel_rfl) ?_ (Or.inl ⟨?_, ?_⟩) (by assumption) ?_
  rotate_left 2
  · (simp only [List.getElem?_toArray, List.getElem?_cons_succ, List.getElem?_cons_zero]; rfl)
  · first | exact fun _ _ _ h => h | exact fun _ _ _ h => nomatch h.1
  · rfl
  · (intro W hSW; (try dsimp only at hSW); go_split_ands; first | (go_simp; done) | (go_simp; with_reducible rfl))
  try simp only [Act.put, List.setIfInBounds_toArray, List.set_cons_zero, List.set_cons_succ]
  refine' wpAnyH_take (i := 60) (oi := _) (v := _) ?_ (by kernel_rfl) (by kernel_rfl) (by kernel_rfl) ?_ (Or.inl ⟨?_, ?_⟩) (by assumption) ?_
  rotate_left 2
  · (simp only [List.getElem?_toArray, List.getElem?_cons_succ, List.getElem?_cons_zero]; rfl)
  · first | exact fun _ _ _ h => h | exact fun _ _ _ h => nomatch h.1
  · rfl
  · (intro W hSW; (try dsimp only at hSW); go_split_ands; first | (go_simp; done) | (go_simp; with_reducible rfl))
  try simp only [Act.put, List.setIfInBounds_toArray, List.set_cons_zero, List.set_cons_succ]
  refine' wpAnyH_take (i := 61) (oi := _) (v := _) ?_ (by kernel_rfl) (by kernel_rfl) (by kernel_rfl) ?_ (Or.inl ⟨?_, ?_⟩) (by assumption) ?_
  rotate_left 2
  · (simp only [List.getElem?_toArray, List.getElem?_cons_succ, List.getElem?_cons_zero]; rfl)
  · first | exact fun _ _ _ h => h | exact fun _ _ _ h => nomatch h.1
  · rfl
  · (intro W hSW; (try dsimp only at hSW); go_split_ands; first | (go_simp; done) | (go_simp; with_reducible rfl))
  try simp only [Act.put, List.setIfInBounds_toArray, List.set_cons_zero, List.set_cons_succ]
  refine' wpAnyH_take (i := 62) (oi := _) (v := _) ?_ (by kernel_rfl) (by kernel_rfl) (by kernel_rfl) ?_ (Or.inl ⟨?_, ?_⟩) (by assumption) ?_
  rotate_left 2
  · (simp only [List.getElem?_toArray, List.getElem?_cons_succ, List.getElem?_cons_zero]; rfl)
  · first | exact fun _ _ _ h => h | exact fun _ _ _ h => nomatch h.1
  · rfl
  · (intro W hSW; (try dsimp only at hSW); go_split_ands; first | (go_simp; done) | (go_simp; with_reducible rfl))
  try simp only [Act.put, List.setIfInBounds_toArray, List.set_cons_zero, List.set_cons_succ]
  refine' wpAnyH_take (i := 63) (oi := _) (v := _) ?_ (by kernel_rfl) (by kernel_rfl) (by kernel_rfl) ?_ (Or.inl ⟨?_, ?_⟩) (by assumption) ?_
  rotate_left 2
  · (simp only [List.getElem?_toArray, List.getElem?_cons_succ, List.getElem?_cons_zero]; rfl)
  · first | exact fun _ _ _ h => h | exact fun _ _ _ h => nomatch h.1
  · rfl
  · (intro W hSW; (try dsimp only at hSW); go_split_ands; first | (go_simp; done) | (go_simp; with_reducible rfl))
  try simp only [Act.put, List.setIfInBounds_toArray, List.set_cons_zero, List.set_cons_succ]
  refine' wpAnyH_take (i := 64) (oi := _) (v := _) ?_ (by kernel_rfl) (by kernel_rfl) (by kernel_rfl) ?_ (Or.inl ⟨?_, ?_⟩) (by assumption) ?_
  rotate_left 2
  · (simp only [List.getElem?_toArray, List.getElem?_cons_succ, List.getElem?_cons_zero]; rfl)
  · first | exact fun _ _ _ h => h | exact fun _ _ _ h => nomatch h.1
  · rfl
  · (intro W hSW; (try dsimp only at hSW); go_split_ands; first | (go_simp; done) | (go_simp; with_reducible rfl))
  try simp only [Act.put, List.setIfInBounds_toArray, List.set_cons_zero, List.set_cons_succ]
  refine' wpAnyH_take (i := 66) (oi := _) (v := _) ?_ (by kernel_rfl) (by kernel_rfl) (by kernel_rfl) ?_ (Or.inl ⟨?_, ?_⟩) (by assumption) ?_
  rotate_left 2
  · (simp only [List.getElem?_toArray, List.getElem?_cons_succ, List.getElem?_cons_zero]; rfl)
  · first | exact fun _ _ _ h => h | exact fun _ _ _ h => nomatch h.1
  · rfl
  · (intro W hSW; (try dsimp only at hSW); go_split_ands; first | (go_simp; done) | (go_simp; with_reducible rfl))
  try simp only [Act.put, List.setIfInBounds_toArray, List.set_cons_zero, List.set_cons_succ]
  refine wpAnyH_ready (rs := [65, 67]) (by kernel_rfl) (by simp) ?_
  refine AllReadyH.cons (o := ?o1) ?l1 (fun K hK => ?m1) (AllReadyH.cons (o := ?o2) ?l2 (fun K hK => ?m2) AllReadyH.nil)
  case l1 => (simp only [List.getElem?_toArray, List.getElem?_cons_succ, List.getElem?_cons_zero]; rfl)
  case l2 => (simp only [List.getElem?_toArray, List.getElem?_cons_succ, List.getElem?_cons_zero]; rfl)
  case' m1 =>
    go_simp
    refine (frefs_c 2 0 0 3 7 0 0 0 0 false _).mono ?_
    rintro e w10 ⟨v, rfl, ho, hb⟩
    replace rA := rA.on hb
    replace rO := rO.on hb
    replace rP := rP.on hb
    replace rQ := rQ.on hb
    replace rR := rR.on hb
    replace rT := rT.on hb
    replace rU := rU.on hb
    replace hc := chain hc hb
    replace hE := hE.on hb
    go_simp
    refine hK.out _ _ ⟨rA.cell, rO.cell, rP.cell, rQ.cell, rR.cell, rT.cell, rU.cell⟩ (fun _ => ?_)
    clear hK K
    generalize w10 = V at *
    refine wpAnyH_ready (rs := [67]) (by kernel_rfl) (by simp) ?_
    refine' AllReadyH.cons (o := _) ?_ (fun K hK => ?_) AllReadyH.nil
    rotate_left 1
    · (simp only [List.getElem?_toArray, List.getElem?_cons_succ, List.getElem?_cons_zero]; rfl)
    go_simp
    have hb := below_alloc V (.cells #[.int .i64 3, .int .u32 7] 24)
    have rN : Row (V.alloc (.cells #[.int .i64 3, .int .u32 7] 24)) V.heap.size #[.int .i64 3, .int .u32 7] 24 := Row.new
    replace rA := rA.on hb
    replace rO := rO.on hb
    replace rP := rP.on hb
    replace rQ := rQ.on hb
    replace rR := rR.on hb
    replace rT := rT.on hb
    replace rU := rU.on hb
    replace hc := chain hc hb
    replace hE := hE.on hb
    replace ho := ho.on hb
    generalize V.alloc (.cells #[.int .i64 3, .int .u32 7] 24) = V1 at *
    generalize V.heap.size = xN at rN ⊢
    refine hK.out _ _ ⟨rA.cell, rO.cell, rP.cell, rQ.cell, rR.cell, rT.cell, rU.cell⟩ (fun _ => ?_)
    clear hK K
  case' m2 =>
    go_simp
    have hb := below_alloc V (.cells #[.int .i64 3, .int .u32 7] 24)
    have rN : Row (V.alloc (.cells #[.int .i64 3, .int .u32 7] 24)) V.heap.size #[.int .i64 3, .int .u32 7] 24 := Row.new
    replace rA := rA.on hb
    replace rO := rO.on hb
    replace rP := rP.on hb
    replace rQ := rQ.on hb
    replace rR := rR.on hb
    replace rT := rT.on hb
    replace rU := rU.on hb
    replace hc := chain hc hb
    replace hE := hE.on hb
    generalize V.alloc (.cells #[.int .i64 3, .int .u32 7] 24) = V1 at *
    generalize V.heap.size = xN at rN ⊢
    refine hK.out _ _ ⟨rA.cell, rO.cell, rP.cell, rQ.cell, rR.cell, rT.cell, rU.cell⟩ (fun _ => ?_)
    clear hK K
    refine wpAnyH_ready (rs := [65]) (by kernel_rfl) (by simp) ?_
    refine' AllReadyH.cons (o := _) ?_ (fun K hK => ?_) AllReadyH.nil
    rotate_left 1
    · (simp only [List.getElem?_toArray, List.getElem?_cons_succ, List.getElem?_cons_zero]; rfl)
    go_simp
    refine (frefs_c 2 0 0 3 7 0 0 0 0 false _).mono ?_
    rintro e w10 ⟨v, rfl, ho, hb⟩
    replace rA := rA.on hb
    replace rO := rO.on hb
    replace rP := rP.on hb
    replace rQ := rQ.on hb
    replace rR := rR.on hb
    replace rT := rT.on hb
    replace rU := rU.on hb
    replace hc := chain hc hb
    replace hE := hE.on hb
    go_simp
    refine hK.out _ _ ⟨rA.cell, rO.cell, rP.cell, rQ.cell, rR.cell, rT.cell, rU.cell⟩ (fun _ => ?_)
    replace rN := rN.on hb
    clear hK K
  all_goals
    refine wpAnyH_ready (rs := [68]) (by kernel_rfl) (by simp) ?_
    refine' AllReadyH.cons (o := _) ?_ (fun K hK => ?_) AllReadyH.nil
    rotate_left 1
    · (simp only [List.getElem?_toArray, List.getElem?_cons_succ, List.getElem?_cons_zero]; rfl)
    go_simp
    refine (equal_c _ _ [(3, 7)] [(3, 7)] _ (OwnsR.holds ho) (.inr ⟨xN, 0, 1, rfl, fun j r hj => by
      match j, hj with
      | 0, hj => simp at hj; subst hj; exact ⟨rN.cell 0, rN.cell 1⟩⟩) (by simp) (by simp)).mono ?_
    rintro e w11 ⟨rfl, hb11⟩
    replace rA := rA.on hb11
    replace rO := rO.on hb11
    replace rP := rP.on hb11
    replace rQ := rQ.on hb11
    replace rR := rR.on hb11
    replace rT := rT.on hb11
    replace rU := rU.on hb11
    replace hc := chain hc hb11
    replace hE := hE.on hb11
    go_simp
    refine hK.out _ _ ⟨rA.cell, rO.cell, rP.cell, rQ.cell, rR.cell, rT.cell, rU.cell⟩ (fun _ => ?_)
    clear hK K
    refine' wpAnyH_take (i := 69) (oi := _) (v := _) ?_ (by kernel_rfl) (by kernel_rfl) (by kernel_rfl) ?_ (Or.inl ⟨?_, ?_⟩) (by assumption) ?_
    rotate_left 2
    · (simp only [List.getElem?_toArray, List.getElem?_cons_succ, List.getElem?_cons_zero]; rfl)
    · first | exact fun _ _ _ h => h | exact fun _ _ _ h => nomatch h.1
    · rfl
    · (intro W hSW; (try dsimp only at hSW); go_split_ands; first | (go_simp; done) | (go_simp; with_reducible rfl))
    try simp only [Act.put, List.setIfInBounds_toArray, List.set_cons_zero, List.set_cons_succ]
    refine' wpAnyH_take (i := 70) (oi := _) (v := _) ?_ (by kernel_rfl) (by kernel_rfl) (by kernel_rfl) ?_ (Or.inl ⟨?_, ?_⟩) (by assumption) ?_
    rotate_left 2
    · (simp only [List.getElem?_toArray, List.getElem?_cons_succ, List.getElem?_cons_zero]; rfl)
    · first | exact fun _ _ _ h => h | exact fun _ _ _ h => nomatch h.1
    · rfl
    · (intro W hSW; (try dsimp only at hSW); go_split_ands; first | (go_simp; done) | (go_simp; with_reducible rfl))
    try simp only [Act.put, List.setIfInBounds_toArray, List.set_cons_zero, List.set_cons_succ]
    refine wpAnyH_done (by kernel_rfl) ?_ _
    go_wp2_with fail
    go_returns
    exact ⟨rfl, hc⟩
end Go.Proofs.YtpegkcmomkdoeaaDoor
