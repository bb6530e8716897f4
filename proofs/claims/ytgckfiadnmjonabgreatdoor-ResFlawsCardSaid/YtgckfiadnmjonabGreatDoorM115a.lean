/- The statement ResFlaws, walked. -/
import Derived.Test.YtgckfiadnmjonabGreatDoorL5a
import Derived.Deep.DeepCutAuto
import Derived.Deep.CutBlock
namespace Go.Proofs.YtgckfiadnmjonabGreatDoor
open Go.RowKit
set_option linter.unusedVariables false
set_option linter.unusedSimpArgs false
set_option maxHeartbeats 40000000
set_option maxRecDepth 20000
theorem close_arg {k i g st wy tr nx why now : Int} {tag : ByteArray} (h : rErr k i g st wy tr nx tag = 0) (ha : (inB why 1 3 && isT now) = false) : closeV k i g st wy tr nx tag why now = .tuple #[r0V, .int .i64 2] := by
  have : chkE k i g st wy tr nx tag (inB why 1 3 && isT now) 1 = 2 := by
    unfold chkE
    rw [if_neg (by omega), ha, if_pos rfl]
  unfold closeV
  rw [this, if_neg (by decide)]
theorem tried_arg {k i g st wy tr nx answer now wait : Int} {tag : ByteArray} (h : rErr k i g st wy tr nx tag = 0) (ha : triedA answer now wait = false) : triedV k i g st wy tr nx tag answer now wait = .tuple #[r0V, .int .i64 2] := by
  have : chkE k i g st wy tr nx tag (triedA answer now wait) 2 = 2 := by
    unfold chkE
    rw [if_neg (by omega), ha, if_pos rfl]
  unfold triedV
  rw [this, if_neg (by decide)]
theorem due_arg {k i g st wy tr nx now : Int} {tag : ByteArray} (h : rErr k i g st wy tr nx tag = 0) (ha : isT now = false) : dueV k i g st wy tr nx tag now = .tuple #[.bool false, .int .i64 2] := by
  have : chkE k i g st wy tr nx tag (isT now) st = 2 := by
    unfold chkE
    rw [if_neg (by omega), ha, if_pos rfl]
  unfold dueV
  rw [this, if_neg (by decide)]
theorem bad_chk {k i g st wy tr nx e : Int} {tag : ByteArray} (h : rErr k i g st wy tr nx tag = e) (he : e ≠ 0) (al : Bool) (want : Int) : chkE k i g st wy tr nx tag al want = e := by
  unfold chkE
  rw [h, if_pos he]
theorem bad_close {k i g st wy tr nx e why now : Int} {tag : ByteArray} (h : rErr k i g st wy tr nx tag = e) (he : e ≠ 0) : closeV k i g st wy tr nx tag why now = .tuple #[r0V, .int .i64 e] := by
  unfold closeV
  rw [bad_chk h he, if_neg he]
theorem bad_tried {k i g st wy tr nx e a now wait : Int} {tag : ByteArray} (h : rErr k i g st wy tr nx tag = e) (he : e ≠ 0) : triedV k i g st wy tr nx tag a now wait = .tuple #[r0V, .int .i64 e] := by
  unfold triedV
  rw [bad_chk h he, if_neg he]
theorem bad_due {k i g st wy tr nx e now : Int} {tag : ByteArray} (h : rErr k i g st wy tr nx tag = e) (he : e ≠ 0) : dueV k i g st wy tr nx tag now = .tuple #[.bool false, .int .i64 e] := by
  unfold dueV
  rw [bad_chk h he, if_neg he]
theorem bad_over {k i g st wy tr nx e : Int} {tag : ByteArray} (h : rErr k i g st wy tr nx tag = e) (he : e ≠ 0) : overV k i g st wy tr nx tag = .tuple #[.bool false, .int .i64 e] := by
  unfold overV
  rw [h, if_neg he]
theorem bad_text {k i g st wy tr nx e : Int} {tag : ByteArray} (h : rErr k i g st wy tr nx tag = e) (he : e ≠ 0) : textV k i g st wy tr nx tag = .tuple #[.string ⟨#[]⟩, .int .i64 e] := by
  unfold textV
  rw [h, if_neg he]
theorem rErr_two {k i g st wy tr nx : Int} {tag : ByteArray} (h : pOk k i g st wy tr nx = false) : rErr k i g st wy tr nx tag = 2 := by
  unfold rErr
  rw [h]
  rfl
theorem flaws_walk (kind id name what : Int) (w : World) (hE : EnvP w) (k0 : 0 ≤ kind) (k1 : kind ≤ 255) (i0 : 0 ≤ id) (i1 : id ≤ 255) (n0 : 0 ≤ name) (n1 : name ≤ 255) (h0 : 0 ≤ what) (h1 : what ≤ 255) :
    Ret 4 #[.int .u8 kind, .int .u8 id, .int .u8 name, .int .u8 what] w (.bool true) := by
  have c1 := fun w => start_c kind id name 1 k0 k1 i0 i1 n0 n1 (by omega) (by omega) w
  have hd : dOk 64 (sK kind) (sI id) (sG 1) = true := by rw [dOk_iff]; unfold sK sI sG; omega
  have hG : 0 ≤ sG 1 ∧ sG 1 ≤ 4294967295 := by unfold sG; omega
  have hT := tagS_ok name
  have hTs := tagS_size name
  have hr0 := start_ok _ _ _ name hd
  generalize sK kind = kk at *
  generalize sI id = ii at *
  generalize sG 1 = gg at *
  generalize tagS name = tt at *
  have hc0 := ok_2 (k := kk) (i := ii) (g := gg) (wy := 1) (tr := 0) (nx := 5) hd hT (by omega) (by omega) (by omega)
  have c2 := fun w => close_c kk ii gg 1 0 0 0 1 5 tt w hG.1 hG.2 (by omega)
  rw [close_live hr0 (by omega) (by omega)] at c2
  have C1 := Lib.hid c1
  have C2 := Lib.hid c2
  have HE := Lib.hid hE
  clear c1 c2 hE
  have hc := Below.refl w.heap.size w
  have em : what.tmod 12 = what % 12 := Int.tmod_eq_emod_of_nonneg h0
  go_enter Tryz.func4, Tryz.ntmps4
  go_wp2_with fail
  refine Calls.mono (C1.out _) ?_
  rintro e V1 ⟨rfl, hn⟩
  replace hc := chain hc hn
  clear hn
  go_upto_region 2 with fail
  have r9 := Row.new (W := V1) (cs := (rC kk ii gg 1 0 0 0 tt)) (t := 27)
  have hn := below_alloc V1 (.cells (rC kk ii gg 1 0 0 0 tt) 27)
  have wr9 : w.heap.size ≤ V1.heap.size := hc.size
  replace hc := chain hc hn
  clear hn
  generalize V1.alloc (.cells (rC kk ii gg 1 0 0 0 tt) 27) = V2 at r9 hc ⊢
  generalize V1.heap.size = b9 at *
  have yr9 := r9.cell
  have zr9 := r9.lt
  go_wp2_with fail
  refine Calls.mono (C2.out _) ?_
  rintro e V3 ⟨rfl, hn⟩
  clear yr9 zr9
  replace r9 := r9.on hn
  replace hc := chain hc hn
  clear hn
  have yr9 := r9.cell
  have zr9 := r9.lt
  go_upto_region 3 with fail
  clear yr9 zr9
  have r11 := Row.new (W := V3) (cs := (rC kk ii gg 2 1 0 5 tt)) (t := 27)
  have hn := below_alloc V3 (.cells (rC kk ii gg 2 1 0 5 tt) 27)
  have nr9_r11 : b9 ≠ V3.heap.size := Nat.ne_of_lt r9.lt
  have wr11 : w.heap.size ≤ V3.heap.size := hc.size
  replace r9 := r9.on hn
  replace hc := chain hc hn
  clear hn
  generalize V3.alloc (.cells (rC kk ii gg 2 1 0 5 tt) 27) = V4 at r9 r11 hc ⊢
  generalize V3.heap.size = b11 at *
  have yr9 := r9.cell
  have zr9 := r9.lt
  have yr11 := r11.cell
  have zr11 := r11.lt
  go_upto_region 7 with fail
  clear yr9 yr11 zr9 zr11
  have r14 := Row.new (W := V4) (cs := (rC kk ii gg 2 1 0 5 tt)) (t := 27)
  have hn := below_alloc V4 (.cells (rC kk ii gg 2 1 0 5 tt) 27)
  have nr9_r14 : b9 ≠ V4.heap.size := Nat.ne_of_lt r9.lt
  have nr11_r14 : b11 ≠ V4.heap.size := Nat.ne_of_lt r11.lt
  have wr14 : w.heap.size ≤ V4.heap.size := hc.size
  replace r9 := r9.on hn
  replace r11 := r11.on hn
  replace hc := chain hc hn
  clear hn
  generalize V4.alloc (.cells (rC kk ii gg 2 1 0 5 tt) 27) = V5 at r9 r11 r14 hc ⊢
  generalize V4.heap.size = b14 at *
  go_upto_block 0 with (fail)
  clear em
  have hm : 0 ≤ what % 12 ∧ what % 12 ≤ 11 := by omega
  generalize what % 12 = m at *
  go_cut [13] (fun v wx => ∃ (x1 x2 x3 x4 x5 x6 x7 : Int) (x8 : ByteArray) (e : Int), v = .int .i64 e ∧ Row wx b9 (rC kk ii gg 1 0 0 0 tt) 27 ∧ Row wx b11 (rC kk ii gg 2 1 0 5 tt) 27 ∧ Row wx b14 (rC x1 x2 x3 x4 x5 x6 x7 x8) 27 ∧ Below w.heap.size w wx ∧ rErr x1 x2 x3 x4 x5 x6 x7 x8 = e ∧ e ≠ 0 ∧ (0 ≤ x3 ∧ x3 ≤ 4294967295) ∧ x8.size ≤ 5)
  case first =>
    rcases (show m = 0 ∨ m = 1 ∨ m = 2 ∨ m = 3 ∨ m = 4 ∨ m = 5 ∨ m = 6 ∨ m = 7 ∨ m = 8 ∨ m = 9 ∨ m = 10 ∨ m = 11 by omega) with rfl | rfl | rfl | rfl | rfl | rfl | rfl | rfl | rfl | rfl | rfl | rfl
    · have yr9 := r9.cell
      have zr9 := r9.lt
      have yr11 := r11.cell
      have zr11 := r11.lt
      have yr14 := r14.cell
      have zr14 := r14.lt
      have ur14 := r14.free
      go_wp2_with fail
      skip
      clear yr9 yr11 yr14 zr9 zr11 zr14 ur14
      replace r9 := (r9.other nr9_r14.symm 3 (.int .i64 0))
      replace r11 := (r11.other nr11_r14.symm 3 (.int .i64 0))
      replace r14 := (r14.set 3 (.int .i64 0))
      simp only [List.setIfInBounds_toArray, List.set_cons_zero, List.set_cons_succ] at r14
      replace hc := (hc.setCell (p := ⟨b14, 3, none⟩) wr14 (.int .i64 0))
      generalize hW : World.setCell _ _ _ = V6 at *
      clear hW
      go_meet
      exact ⟨kk, ii, gg, 0, 1, 0, 5, tt, 2, rfl, r9, r11, r14, hc, rErr_two (pOk_st rfl), by decide, by omega, hTs⟩
    · have yr9 := r9.cell
      have zr9 := r9.lt
      have yr11 := r11.cell
      have zr11 := r11.lt
      have yr14 := r14.cell
      have zr14 := r14.lt
      have ur14 := r14.free
      go_wp2_with fail
      skip
      clear yr9 yr11 yr14 zr9 zr11 zr14 ur14
      replace r9 := (r9.other nr9_r14.symm 3 (.int .i64 5))
      replace r11 := (r11.other nr11_r14.symm 3 (.int .i64 5))
      replace r14 := (r14.set 3 (.int .i64 5))
      simp only [List.setIfInBounds_toArray, List.set_cons_zero, List.set_cons_succ] at r14
      replace hc := (hc.setCell (p := ⟨b14, 3, none⟩) wr14 (.int .i64 5))
      generalize hW : World.setCell _ _ _ = V6 at *
      clear hW
      go_meet
      exact ⟨kk, ii, gg, 5, 1, 0, 5, tt, 2, rfl, r9, r11, r14, hc, rErr_two (pOk_st rfl), by decide, by omega, hTs⟩
    · have yr9 := r9.cell
      have zr9 := r9.lt
      have yr11 := r11.cell
      have zr11 := r11.lt
      have yr14 := r14.cell
      have zr14 := r14.lt
      have ur14 := r14.free
      go_wp2_with fail
      skip
      clear yr9 yr11 yr14 zr9 zr11 zr14 ur14
      replace r9 := (r9.other nr9_r14.symm 4 (.int .i64 0))
      replace r11 := (r11.other nr11_r14.symm 4 (.int .i64 0))
      replace r14 := (r14.set 4 (.int .i64 0))
      simp only [List.setIfInBounds_toArray, List.set_cons_zero, List.set_cons_succ] at r14
      replace hc := (hc.setCell (p := ⟨b14, 4, none⟩) wr14 (.int .i64 0))
      generalize hW : World.setCell _ _ _ = V6 at *
      clear hW
      go_meet
      exact ⟨kk, ii, gg, 2, 0, 0, 5, tt, 2, rfl, r9, r11, r14, hc, rErr_two (by rw [pOk_2 hd]; rfl), by decide, by omega, hTs⟩
    · have yr9 := r9.cell
      have zr9 := r9.lt
      have yr11 := r11.cell
      have zr11 := r11.lt
      have yr14 := r14.cell
      have zr14 := r14.lt
      have ur14 := r14.free
      go_wp2_with fail
      skip
      clear yr9 yr11 yr14 zr9 zr11 zr14 ur14
      replace r9 := (r9.other nr9_r14.symm 4 (.int .i64 4))
      replace r11 := (r11.other nr11_r14.symm 4 (.int .i64 4))
      replace r14 := (r14.set 4 (.int .i64 4))
      simp only [List.setIfInBounds_toArray, List.set_cons_zero, List.set_cons_succ] at r14
      replace hc := (hc.setCell (p := ⟨b14, 4, none⟩) wr14 (.int .i64 4))
      generalize hW : World.setCell _ _ _ = V6 at *
      clear hW
      go_meet
      exact ⟨kk, ii, gg, 2, 4, 0, 5, tt, 2, rfl, r9, r11, r14, hc, rErr_two (by rw [pOk_2 hd]; rfl), by decide, by omega, hTs⟩
    · have yr9 := r9.cell
      have zr9 := r9.lt
      have yr11 := r11.cell
      have zr11 := r11.lt
      have yr14 := r14.cell
      have zr14 := r14.lt
      have ur14 := r14.free
      go_wp2_with fail
      skip
      clear yr9 yr11 yr14 zr9 zr11 zr14 ur14
      replace r9 := (r9.other nr9_r14.symm 5 (.int .i64 (-1)))
      replace r11 := (r11.other nr11_r14.symm 5 (.int .i64 (-1)))
      replace r14 := (r14.set 5 (.int .i64 (-1)))
      simp only [List.setIfInBounds_toArray, List.set_cons_zero, List.set_cons_succ] at r14
      replace hc := (hc.setCell (p := ⟨b14, 5, none⟩) wr14 (.int .i64 (-1)))
      generalize hW : World.setCell _ _ _ = V6 at *
      clear hW
      go_meet
      exact ⟨kk, ii, gg, 2, 1, (-1), 5, tt, 2, rfl, r9, r11, r14, hc, rErr_two (by rw [pOk_2 hd]; rfl), by decide, by omega, hTs⟩
    · have yr9 := r9.cell
      have zr9 := r9.lt
      have yr11 := r11.cell
      have zr11 := r11.lt
      have yr14 := r14.cell
      have zr14 := r14.lt
      have ur14 := r14.free
      go_wp2_with fail
      skip
      clear yr9 yr11 yr14 zr9 zr11 zr14 ur14
      replace r9 := (r9.other nr9_r14.symm 5 (.int .i64 10001))
      replace r11 := (r11.other nr11_r14.symm 5 (.int .i64 10001))
      replace r14 := (r14.set 5 (.int .i64 10001))
      simp only [List.setIfInBounds_toArray, List.set_cons_zero, List.set_cons_succ] at r14
      replace hc := (hc.setCell (p := ⟨b14, 5, none⟩) wr14 (.int .i64 10001))
      generalize hW : World.setCell _ _ _ = V6 at *
      clear hW
      go_meet
      exact ⟨kk, ii, gg, 2, 1, 10001, 5, tt, 2, rfl, r9, r11, r14, hc, rErr_two (by rw [pOk_2 hd]; rfl), by decide, by omega, hTs⟩
    · have yr9 := r9.cell
      have zr9 := r9.lt
      have yr11 := r11.cell
      have zr11 := r11.lt
      have yr14 := r14.cell
      have zr14 := r14.lt
      have ur14 := r14.free
      go_wp2_with fail
      skip
      clear yr9 yr11 yr14 zr9 zr11 zr14 ur14
      replace r9 := (r9.other nr9_r14.symm 6 (.int .i64 (-1)))
      replace r11 := (r11.other nr11_r14.symm 6 (.int .i64 (-1)))
      replace r14 := (r14.set 6 (.int .i64 (-1)))
      simp only [List.setIfInBounds_toArray, List.set_cons_zero, List.set_cons_succ] at r14
      replace hc := (hc.setCell (p := ⟨b14, 6, none⟩) wr14 (.int .i64 (-1)))
      generalize hW : World.setCell _ _ _ = V6 at *
      clear hW
      go_meet
      exact ⟨kk, ii, gg, 2, 1, 0, (-1), tt, 2, rfl, r9, r11, r14, hc, rErr_two (by rw [pOk_2 hd]; rfl), by decide, by omega, hTs⟩
    · have yr9 := r9.cell
      have zr9 := r9.lt
      have yr11 := r11.cell
      have zr11 := r11.lt
      have yr14 := r14.cell
      have zr14 := r14.lt
      have ur14 := r14.free
      go_wp2_with fail
      skip
      clear yr9 yr11 yr14 zr9 zr11 zr14 ur14
      replace r9 := (r9.other nr9_r14.symm 6 (.int .i64 1099511627777))
      replace r11 := (r11.other nr11_r14.symm 6 (.int .i64 1099511627777))
      replace r14 := (r14.set 6 (.int .i64 1099511627777))
      simp only [List.setIfInBounds_toArray, List.set_cons_zero, List.set_cons_succ] at r14
      replace hc := (hc.setCell (p := ⟨b14, 6, none⟩) wr14 (.int .i64 1099511627777))
      generalize hW : World.setCell _ _ _ = V6 at *
      clear hW
      go_meet
      exact ⟨kk, ii, gg, 2, 1, 0, 1099511627777, tt, 2, rfl, r9, r11, r14, hc, rErr_two (by rw [pOk_2 hd]; rfl), by decide, by omega, hTs⟩
    · have yr9 := r9.cell
      have zr9 := r9.lt
      have yr11 := r11.cell
      have zr11 := r11.lt
      have yr14 := r14.cell
      have zr14 := r14.lt
      have ur14 := r14.free
      go_wp2_with fail
      skip
      clear yr9 yr11 yr14 zr9 zr11 zr14 ur14
      replace r9 := (r9.other nr9_r14.symm 3 (.int .i64 3))
      replace r11 := (r11.other nr11_r14.symm 3 (.int .i64 3))
      replace r14 := (r14.set 3 (.int .i64 3))
      simp only [List.setIfInBounds_toArray, List.set_cons_zero, List.set_cons_succ] at r14
      replace hc := (hc.setCell (p := ⟨b14, 3, none⟩) wr14 (.int .i64 3))
      generalize hW : World.setCell _ _ _ = V6 at *
      clear hW
      go_meet
      exact ⟨kk, ii, gg, 3, 1, 0, 5, tt, 2, rfl, r9, r11, r14, hc, rErr_two (by rw [pOk_34 hd (.inl rfl)]; rfl), by decide, by omega, hTs⟩
    · have yr9 := r9.cell
      have zr9 := r9.lt
      have yr11 := r11.cell
      have zr11 := r11.lt
      have yr14 := r14.cell
      have zr14 := r14.lt
      have ur14 := r14.free
      go_wp2_with fail
      skip
      clear yr9 yr11 yr14 zr9 zr11 zr14 ur14
      replace r9 := (r9.other nr9_r14.symm 2 (.int .u32 0))
      replace r11 := (r11.other nr11_r14.symm 2 (.int .u32 0))
      replace r14 := (r14.set 2 (.int .u32 0))
      simp only [List.setIfInBounds_toArray, List.set_cons_zero, List.set_cons_succ] at r14
      replace hc := (hc.setCell (p := ⟨b14, 2, none⟩) wr14 (.int .u32 0))
      generalize hW : World.setCell _ _ _ = V6 at *
      clear hW
      go_meet
      exact ⟨kk, ii, 0, 2, 1, 0, 5, tt, 2, rfl, r9, r11, r14, hc, rErr_two (pOk_d (by unfold dOk; simp)), by decide, by omega, hTs⟩
    · have yr9 := r9.cell
      have zr9 := r9.lt
      have yr11 := r11.cell
      have zr11 := r11.lt
      have yr14 := r14.cell
      have zr14 := r14.lt
      have ur14 := r14.free
      go_wp2_with fail
      skip
      clear yr9 yr11 yr14 zr9 zr11 zr14 ur14
      replace r9 := (r9.other nr9_r14.symm 3 (.int .i64 1))
      replace r11 := (r11.other nr11_r14.symm 3 (.int .i64 1))
      replace r14 := (r14.set 3 (.int .i64 1))
      simp only [List.setIfInBounds_toArray, List.set_cons_zero, List.set_cons_succ] at r14
      replace hc := (hc.setCell (p := ⟨b14, 3, none⟩) wr14 (.int .i64 1))
      generalize hW : World.setCell _ _ _ = V6 at *
      clear hW
      go_meet
      exact ⟨kk, ii, gg, 1, 1, 0, 5, tt, 2, rfl, r9, r11, r14, hc, rErr_two (by rw [pOk_1 hd]; rfl), by decide, by omega, hTs⟩
    · have yr9 := r9.cell
      have zr9 := r9.lt
      have yr11 := r11.cell
      have zr11 := r11.lt
      have yr14 := r14.cell
      have zr14 := r14.lt
      have ur14 := r14.free
      go_wp2_with fail
      skip
      clear yr9 yr11 yr14 zr9 zr11 zr14 ur14
      replace r9 := (r9.other nr9_r14.symm 7 (.string ⟨#[]⟩))
      replace r11 := (r11.other nr11_r14.symm 7 (.string ⟨#[]⟩))
      replace r14 := (r14.set 7 (.string ⟨#[]⟩))
      simp only [List.setIfInBounds_toArray, List.set_cons_zero, List.set_cons_succ] at r14
      replace hc := (hc.setCell (p := ⟨b14, 7, none⟩) wr14 (.string ⟨#[]⟩))
      generalize hW : World.setCell _ _ _ = V6 at *
      clear hW
      go_meet
      exact ⟨kk, ii, gg, 2, 1, 0, 5, ⟨#[]⟩, 16, rfl, r9, r11, r14, hc, by unfold rErr; rw [show pOk kk ii gg 2 1 0 5 = true by rw [pOk_2 hd]; rfl]; rfl, by decide, by omega, by decide⟩
  obtain ⟨x1, x2, x3, x4, x5, x6, x7, x8, e, rfl, r9, r11, r14, hc, hx, hne, hg, hz8⟩ := hcut
  have d1 := fun w => close_c x1 x2 x3 x4 x5 x6 x7 0 (-1) x8 w hg.1 hg.2 (by omega)
  rw [bad_close hx hne] at d1
  have D1 := Lib.hid d1
  clear d1
  have d2 := fun w => tried_c x1 x2 x3 x4 x5 x6 x7 0 (-1) 0 x8 w hg.1 hg.2 (by omega)
  rw [bad_tried hx hne] at d2
  have D2 := Lib.hid d2
  clear d2
  have d3 := fun w => due_c x1 x2 x3 x4 x5 x6 x7 (-1) x8 w hg.1 hg.2 (by omega)
  rw [bad_due hx hne] at d3
  have D3 := Lib.hid d3
  clear d3
  have d4 := fun w => over_c x1 x2 x3 x4 x5 x6 x7 x8 w hg.1 hg.2 (by omega)
  rw [bad_over hx hne] at d4
  have D4 := Lib.hid d4
  clear d4
  have d5 := fun w hE => text_c x1 x2 x3 x4 x5 x6 x7 x8 w hE hg.1 hg.2 (by omega)
  rw [bad_text hx hne] at d5
  have D5 := Lib.hid d5
  clear d5
  have d6 := fun w => rerr_c x1 x2 x3 x4 x5 x6 x7 x8 w hg.1 hg.2 (by omega)
  rw [hx] at d6
  have D6 := Lib.hid d6
  clear d6
  have ee : (e != e) = false := by simp
  clear hx hne
  have yr9 := r9.cell
  have zr9 := r9.lt
  have yr11 := r11.cell
  have zr11 := r11.lt
  have yr14 := r14.cell
  have zr14 := r14.lt
  go_wp2_with fail
  refine Calls.mono (D1.out _) ?_
  rintro e V6 ⟨rfl, hn⟩
  clear yr9 yr11 yr14 zr9 zr11 zr14
  replace r9 := r9.on hn
  replace r11 := r11.on hn
  replace r14 := r14.on hn
  replace hc := chain hc hn
  clear hn
  have yr9 := r9.cell
  have zr9 := r9.lt
  have yr11 := r11.cell
  have zr11 := r11.lt
  have yr14 := r14.cell
  have zr14 := r14.lt
  go_upto_region 32 with fail
  clear yr9 yr11 yr14 zr9 zr11 zr14
  have r15 := Row.new (W := V6) (cs := (rC 0 0 0 0 0 0 0 ⟨#[]⟩)) (t := 27)
  have hn := below_alloc V6 (.cells (rC 0 0 0 0 0 0 0 ⟨#[]⟩) 27)
  have nr9_r15 : b9 ≠ V6.heap.size := Nat.ne_of_lt r9.lt
  have nr11_r15 : b11 ≠ V6.heap.size := Nat.ne_of_lt r11.lt
  have nr14_r15 : b14 ≠ V6.heap.size := Nat.ne_of_lt r14.lt
  have wr15 : w.heap.size ≤ V6.heap.size := hc.size
  replace r9 := r9.on hn
  replace r11 := r11.on hn
  replace r14 := r14.on hn
  replace hc := chain hc hn
  clear hn
  generalize V6.alloc (.cells (rC 0 0 0 0 0 0 0 ⟨#[]⟩) 27) = V7 at r9 r11 r14 r15 hc ⊢
  generalize V6.heap.size = b15 at *
  have yr9 := r9.cell
  have zr9 := r9.lt
  have yr11 := r11.cell
  have zr11 := r11.lt
  have yr14 := r14.cell
  have zr14 := r14.lt
  have yr15 := r15.cell
  have zr15 := r15.lt
  go_wp2_with fail
  refine Calls.mono (D2.out _) ?_
  rintro e V8 ⟨rfl, hn⟩
  clear yr9 yr11 yr14 yr15 zr9 zr11 zr14 zr15
  replace r9 := r9.on hn
  replace r11 := r11.on hn
  replace r14 := r14.on hn
  replace r15 := r15.on hn
  replace hc := chain hc hn
  clear hn
  have yr9 := r9.cell
  have zr9 := r9.lt
  have yr11 := r11.cell
  have zr11 := r11.lt
  have yr14 := r14.cell
  have zr14 := r14.lt
  have yr15 := r15.cell
  have zr15 := r15.lt
  go_upto_region 33 with fail
  clear yr9 yr11 yr14 yr15 zr9 zr11 zr14 zr15
  have r17 := Row.new (W := V8) (cs := (rC 0 0 0 0 0 0 0 ⟨#[]⟩)) (t := 27)
  have hn := below_alloc V8 (.cells (rC 0 0 0 0 0 0 0 ⟨#[]⟩) 27)
  have nr9_r17 : b9 ≠ V8.heap.size := Nat.ne_of_lt r9.lt
  have nr11_r17 : b11 ≠ V8.heap.size := Nat.ne_of_lt r11.lt
  have nr14_r17 : b14 ≠ V8.heap.size := Nat.ne_of_lt r14.lt
  have nr15_r17 : b15 ≠ V8.heap.size := Nat.ne_of_lt r15.lt
  have wr17 : w.heap.size ≤ V8.heap.size := hc.size
  replace r9 := r9.on hn
  replace r11 := r11.on hn
  replace r14 := r14.on hn
  replace r15 := r15.on hn
  replace hc := chain hc hn
  clear hn
  generalize V8.alloc (.cells (rC 0 0 0 0 0 0 0 ⟨#[]⟩) 27) = V9 at r9 r11 r14 r15 r17 hc ⊢
  generalize V8.heap.size = b17 at *
  have yr9 := r9.cell
  have zr9 := r9.lt
  have yr11 := r11.cell
  have zr11 := r11.lt
  have yr14 := r14.cell
  have zr14 := r14.lt
  have yr15 := r15.cell
  have zr15 := r15.lt
  have yr17 := r17.cell
  have zr17 := r17.lt
  go_wp2_with fail
  refine Calls.mono (D3.out _) ?_
  rintro e V10 ⟨rfl, hn⟩
  clear yr9 yr11 yr14 yr15 yr17 zr9 zr11 zr14 zr15 zr17
  replace r9 := r9.on hn
  replace r11 := r11.on hn
  replace r14 := r14.on hn
  replace r15 := r15.on hn
  replace r17 := r17.on hn
  replace hc := chain hc hn
  clear hn
  have yr9 := r9.cell
  have zr9 := r9.lt
  have yr11 := r11.cell
  have zr11 := r11.lt
  have yr14 := r14.cell
  have zr14 := r14.lt
  have yr15 := r15.cell
  have zr15 := r15.lt
  have yr17 := r17.cell
  have zr17 := r17.lt
  go_wp2_with fail
  refine Calls.mono (D4.out _) ?_
  rintro e V11 ⟨rfl, hn⟩
  clear yr9 yr11 yr14 yr15 yr17 zr9 zr11 zr14 zr15 zr17
  replace r9 := r9.on hn
  replace r11 := r11.on hn
  replace r14 := r14.on hn
  replace r15 := r15.on hn
  replace r17 := r17.on hn
  replace hc := chain hc hn
  clear hn
  have yr9 := r9.cell
  have zr9 := r9.lt
  have yr11 := r11.cell
  have zr11 := r11.lt
  have yr14 := r14.cell
  have zr14 := r14.lt
  have yr15 := r15.cell
  have zr15 := r15.lt
  have yr17 := r17.cell
  have zr17 := r17.lt
  go_wp2_with fail
  refine Calls.mono (D5.out _ (HE.out.on hc).toEnv) ?_
  rintro e V12 ⟨rfl, hn⟩
  clear yr9 yr11 yr14 yr15 yr17 zr9 zr11 zr14 zr15 zr17
  replace r9 := r9.on hn
  replace r11 := r11.on hn
  replace r14 := r14.on hn
  replace r15 := r15.on hn
  replace r17 := r17.on hn
  replace hc := chain hc hn
  clear hn
  have yr9 := r9.cell
  have zr9 := r9.lt
  have yr11 := r11.cell
  have zr11 := r11.lt
  have yr14 := r14.cell
  have zr14 := r14.lt
  have yr15 := r15.cell
  have zr15 := r15.lt
  have yr17 := r17.cell
  have zr17 := r17.lt
  go_wp2_with fail
  refine Calls.mono (D6.out _) ?_
  rintro e V13 ⟨rfl, hn⟩
  clear yr9 yr11 yr14 yr15 yr17 zr9 zr11 zr14 zr15 zr17
  replace r9 := r9.on hn
  replace r11 := r11.on hn
  replace r14 := r14.on hn
  replace r15 := r15.on hn
  replace r17 := r17.on hn
  replace hc := chain hc hn
  clear hn
  clear D1 D2 D3 D4 D5 D6
  have yr9 := r9.cell
  have zr9 := r9.lt
  have yr11 := r11.cell
  have zr11 := r11.lt
  have yr14 := r14.cell
  have zr14 := r14.lt
  have yr15 := r15.cell
  have zr15 := r15.lt
  have yr17 := r17.cell
  have zr17 := r17.lt
  go_upto_region 39 with fail
  clear yr9 yr11 yr14 yr15 yr17 zr9 zr11 zr14 zr15 zr17
  have rs := Row.new (W := V13) (cs := #[.int .i64 0, .int .i64 4, .int .i64 (-1)]) (t := 3)
  have hn := below_alloc V13 (.cells #[.int .i64 0, .int .i64 4, .int .i64 (-1)] 3)
  have nr9_rs : b9 ≠ V13.heap.size := Nat.ne_of_lt r9.lt
  have nr11_rs : b11 ≠ V13.heap.size := Nat.ne_of_lt r11.lt
  have nr14_rs : b14 ≠ V13.heap.size := Nat.ne_of_lt r14.lt
  have nr15_rs : b15 ≠ V13.heap.size := Nat.ne_of_lt r15.lt
  have nr17_rs : b17 ≠ V13.heap.size := Nat.ne_of_lt r17.lt
  have wrs : w.heap.size ≤ V13.heap.size := hc.size
  replace r9 := r9.on hn
  replace r11 := r11.on hn
  replace r14 := r14.on hn
  replace r15 := r15.on hn
  replace r17 := r17.on hn
  replace hc := chain hc hn
  clear hn
  generalize V13.alloc (.cells #[.int .i64 0, .int .i64 4, .int .i64 (-1)] 3) = V14 at r9 r11 r14 r15 r17 rs hc ⊢
  generalize V13.heap.size = bs at *
  clear ee
  have cz := fun w => close_c kk ii gg 2 1 0 5 0 5 tt w hG.1 hG.2 (by omega)
  rw [close_arg hc0 rfl] at cz
  have Cz := Lib.hid cz
  clear cz
  have tz := fun w => tried_c kk ii gg 1 0 0 0 0 5 1 tt w hG.1 hG.2 (by omega)
  rw [tried_arg hr0 rfl] at tz
  have Tz := Lib.hid tz
  clear tz
  have cf := fun w => close_c kk ii gg 2 1 0 5 4 5 tt w hG.1 hG.2 (by omega)
  rw [close_arg hc0 rfl] at cf
  have Cf := Lib.hid cf
  clear cf
  have tf := fun w => tried_c kk ii gg 1 0 0 0 4 5 1 tt w hG.1 hG.2 (by omega)
  rw [tried_arg hr0 rfl] at tf
  have Tf := Lib.hid tf
  clear tf
  have cm := fun w => close_c kk ii gg 2 1 0 5 (-1) 5 tt w hG.1 hG.2 (by omega)
  rw [close_arg hc0 rfl] at cm
  have Cm := Lib.hid cm
  clear cm
  have tm := fun w => tried_c kk ii gg 1 0 0 0 (-1) 5 1 tt w hG.1 hG.2 (by omega)
  rw [tried_arg hr0 rfl] at tm
  have Tm := Lib.hid tm
  clear tm
  refine wp_loop_rounds 4 ?_
  rw [rounds_succ]
  have yr9 := r9.cell
  have zr9 := r9.lt
  have yr11 := r11.cell
  have zr11 := r11.lt
  have yr14 := r14.cell
  have zr14 := r14.lt
  have yr15 := r15.cell
  have zr15 := r15.lt
  have yr17 := r17.cell
  have zr17 := r17.lt
  have yrs := rs.cell
  have zrs := rs.lt
  go_wp2_with fail
  refine Calls.mono (Cz.out _) ?_
  rintro e V15 ⟨rfl, hn⟩
  clear yr9 yr11 yr14 yr15 yr17 yrs zr9 zr11 zr14 zr15 zr17 zrs
  replace r9 := r9.on hn
  replace r11 := r11.on hn
  replace r14 := r14.on hn
  replace r15 := r15.on hn
  replace r17 := r17.on hn
  replace rs := rs.on hn
  replace hc := chain hc hn
  clear hn
  have yr9 := r9.cell
  have zr9 := r9.lt
  have yr11 := r11.cell
  have zr11 := r11.lt
  have yr14 := r14.cell
  have zr14 := r14.lt
  have yr15 := r15.cell
  have zr15 := r15.lt
  have yr17 := r17.cell
  have zr17 := r17.lt
  have yrs := rs.cell
  have zrs := rs.lt
  go_upto_region 42 with fail
  clear yr9 yr11 yr14 yr15 yr17 yrs zr9 zr11 zr14 zr15 zr17 zrs
  have p0 := Row.new (W := V15) (cs := (rC 0 0 0 0 0 0 0 ⟨#[]⟩)) (t := 27)
  have hn := below_alloc V15 (.cells (rC 0 0 0 0 0 0 0 ⟨#[]⟩) 27)
  have nr9_p0 : b9 ≠ V15.heap.size := Nat.ne_of_lt r9.lt
  have nr11_p0 : b11 ≠ V15.heap.size := Nat.ne_of_lt r11.lt
  have nr14_p0 : b14 ≠ V15.heap.size := Nat.ne_of_lt r14.lt
  have nr15_p0 : b15 ≠ V15.heap.size := Nat.ne_of_lt r15.lt
  have nr17_p0 : b17 ≠ V15.heap.size := Nat.ne_of_lt r17.lt
  have nrs_p0 : bs ≠ V15.heap.size := Nat.ne_of_lt rs.lt
  have wp0 : w.heap.size ≤ V15.heap.size := hc.size
  replace r9 := r9.on hn
  replace r11 := r11.on hn
  replace r14 := r14.on hn
  replace r15 := r15.on hn
  replace r17 := r17.on hn
  replace rs := rs.on hn
  replace hc := chain hc hn
  clear hn
  generalize V15.alloc (.cells (rC 0 0 0 0 0 0 0 ⟨#[]⟩) 27) = V16 at r9 r11 r14 r15 r17 rs p0 hc ⊢
  generalize V15.heap.size = bp0 at *
  have yr9 := r9.cell
  have zr9 := r9.lt
  have yr11 := r11.cell
  have zr11 := r11.lt
  have yr14 := r14.cell
  have zr14 := r14.lt
  have yr15 := r15.cell
  have zr15 := r15.lt
  have yr17 := r17.cell
  have zr17 := r17.lt
  have yrs := rs.cell
  have zrs := rs.lt
  have yp0 := p0.cell
  have zp0 := p0.lt
  go_wp2_with fail
  refine Calls.mono (Tz.out _) ?_
  rintro e V17 ⟨rfl, hn⟩
  clear yr9 yr11 yr14 yr15 yr17 yrs yp0 zr9 zr11 zr14 zr15 zr17 zrs zp0
  replace r9 := r9.on hn
  replace r11 := r11.on hn
  replace r14 := r14.on hn
  replace r15 := r15.on hn
  replace r17 := r17.on hn
  replace rs := rs.on hn
  replace p0 := p0.on hn
  replace hc := chain hc hn
  clear hn
  have yr9 := r9.cell
  have zr9 := r9.lt
  have yr11 := r11.cell
  have zr11 := r11.lt
  have yr14 := r14.cell
  have zr14 := r14.lt
  have yr15 := r15.cell
  have zr15 := r15.lt
  have yr17 := r17.cell
  have zr17 := r17.lt
  have yrs := rs.cell
  have zrs := rs.lt
  have yp0 := p0.cell
  have zp0 := p0.lt
  go_upto_region 45 with fail
  clear yr9 yr11 yr14 yr15 yr17 yrs yp0 zr9 zr11 zr14 zr15 zr17 zrs zp0
  have q0 := Row.new (W := V17) (cs := (rC 0 0 0 0 0 0 0 ⟨#[]⟩)) (t := 27)
  have hn := below_alloc V17 (.cells (rC 0 0 0 0 0 0 0 ⟨#[]⟩) 27)
  have nr9_q0 : b9 ≠ V17.heap.size := Nat.ne_of_lt r9.lt
  have nr11_q0 : b11 ≠ V17.heap.size := Nat.ne_of_lt r11.lt
  have nr14_q0 : b14 ≠ V17.heap.size := Nat.ne_of_lt r14.lt
  have nr15_q0 : b15 ≠ V17.heap.size := Nat.ne_of_lt r15.lt
  have nr17_q0 : b17 ≠ V17.heap.size := Nat.ne_of_lt r17.lt
  have nrs_q0 : bs ≠ V17.heap.size := Nat.ne_of_lt rs.lt
  have np0_q0 : bp0 ≠ V17.heap.size := Nat.ne_of_lt p0.lt
  have wq0 : w.heap.size ≤ V17.heap.size := hc.size
  replace r9 := r9.on hn
  replace r11 := r11.on hn
  replace r14 := r14.on hn
  replace r15 := r15.on hn
  replace r17 := r17.on hn
  replace rs := rs.on hn
  replace p0 := p0.on hn
  replace hc := chain hc hn
  clear hn
  generalize V17.alloc (.cells (rC 0 0 0 0 0 0 0 ⟨#[]⟩) 27) = V18 at r9 r11 r14 r15 r17 rs p0 q0 hc ⊢
  generalize V17.heap.size = bq0 at *
  have yr9 := r9.cell
  have zr9 := r9.lt
  have yr11 := r11.cell
  have zr11 := r11.lt
  have yr14 := r14.cell
  have zr14 := r14.lt
  have yr15 := r15.cell
  have zr15 := r15.lt
  have yr17 := r17.cell
  have zr17 := r17.lt
  have yrs := rs.cell
  have zrs := rs.lt
  have yp0 := p0.cell
  have zp0 := p0.lt
  have yq0 := q0.cell
  have zq0 := q0.lt
  go_wp2_with fail
  clear yr9 yr11 yr14 yr15 yr17 yrs yp0 yq0 zr9 zr11 zr14 zr15 zr17 zrs zp0 zq0
  clear p0 q0
  rw [rounds_succ]
  have yr9 := r9.cell
  have zr9 := r9.lt
  have yr11 := r11.cell
  have zr11 := r11.lt
  have yr14 := r14.cell
  have zr14 := r14.lt
  have yr15 := r15.cell
  have zr15 := r15.lt
  have yr17 := r17.cell
  have zr17 := r17.lt
  have yrs := rs.cell
  have zrs := rs.lt
  go_wp2_with fail
  refine Calls.mono (Cf.out _) ?_
  rintro e V19 ⟨rfl, hn⟩
  clear yr9 yr11 yr14 yr15 yr17 yrs zr9 zr11 zr14 zr15 zr17 zrs
  replace r9 := r9.on hn
  replace r11 := r11.on hn
  replace r14 := r14.on hn
  replace r15 := r15.on hn
  replace r17 := r17.on hn
  replace rs := rs.on hn
  replace hc := chain hc hn
  clear hn
  have yr9 := r9.cell
  have zr9 := r9.lt
  have yr11 := r11.cell
  have zr11 := r11.lt
  have yr14 := r14.cell
  have zr14 := r14.lt
  have yr15 := r15.cell
  have zr15 := r15.lt
  have yr17 := r17.cell
  have zr17 := r17.lt
  have yrs := rs.cell
  have zrs := rs.lt
  go_upto_region 42 with fail
  clear yr9 yr11 yr14 yr15 yr17 yrs zr9 zr11 zr14 zr15 zr17 zrs
  have p1 := Row.new (W := V19) (cs := (rC 0 0 0 0 0 0 0 ⟨#[]⟩)) (t := 27)
  have hn := below_alloc V19 (.cells (rC 0 0 0 0 0 0 0 ⟨#[]⟩) 27)
  have nr9_p1 : b9 ≠ V19.heap.size := Nat.ne_of_lt r9.lt
  have nr11_p1 : b11 ≠ V19.heap.size := Nat.ne_of_lt r11.lt
  have nr14_p1 : b14 ≠ V19.heap.size := Nat.ne_of_lt r14.lt
  have nr15_p1 : b15 ≠ V19.heap.size := Nat.ne_of_lt r15.lt
  have nr17_p1 : b17 ≠ V19.heap.size := Nat.ne_of_lt r17.lt
  have nrs_p1 : bs ≠ V19.heap.size := Nat.ne_of_lt rs.lt
  have wp1 : w.heap.size ≤ V19.heap.size := hc.size
  replace r9 := r9.on hn
  replace r11 := r11.on hn
  replace r14 := r14.on hn
  replace r15 := r15.on hn
  replace r17 := r17.on hn
  replace rs := rs.on hn
  replace hc := chain hc hn
  clear hn
  generalize V19.alloc (.cells (rC 0 0 0 0 0 0 0 ⟨#[]⟩) 27) = V20 at r9 r11 r14 r15 r17 rs p1 hc ⊢
  generalize V19.heap.size = bp1 at *
  have yr9 := r9.cell
  have zr9 := r9.lt
  have yr11 := r11.cell
  have zr11 := r11.lt
  have yr14 := r14.cell
  have zr14 := r14.lt
  have yr15 := r15.cell
  have zr15 := r15.lt
  have yr17 := r17.cell
  have zr17 := r17.lt
  have yrs := rs.cell
  have zrs := rs.lt
  have yp1 := p1.cell
  have zp1 := p1.lt
  go_wp2_with fail
  refine Calls.mono (Tf.out _) ?_
  rintro e V21 ⟨rfl, hn⟩
  clear yr9 yr11 yr14 yr15 yr17 yrs yp1 zr9 zr11 zr14 zr15 zr17 zrs zp1
  replace r9 := r9.on hn
  replace r11 := r11.on hn
  replace r14 := r14.on hn
  replace r15 := r15.on hn
  replace r17 := r17.on hn
  replace rs := rs.on hn
  replace p1 := p1.on hn
  replace hc := chain hc hn
  clear hn
  have yr9 := r9.cell
  have zr9 := r9.lt
  have yr11 := r11.cell
  have zr11 := r11.lt
  have yr14 := r14.cell
  have zr14 := r14.lt
  have yr15 := r15.cell
  have zr15 := r15.lt
  have yr17 := r17.cell
  have zr17 := r17.lt
  have yrs := rs.cell
  have zrs := rs.lt
  have yp1 := p1.cell
  have zp1 := p1.lt
  go_upto_region 45 with fail
  clear yr9 yr11 yr14 yr15 yr17 yrs yp1 zr9 zr11 zr14 zr15 zr17 zrs zp1
  have q1 := Row.new (W := V21) (cs := (rC 0 0 0 0 0 0 0 ⟨#[]⟩)) (t := 27)
  have hn := below_alloc V21 (.cells (rC 0 0 0 0 0 0 0 ⟨#[]⟩) 27)
  have nr9_q1 : b9 ≠ V21.heap.size := Nat.ne_of_lt r9.lt
  have nr11_q1 : b11 ≠ V21.heap.size := Nat.ne_of_lt r11.lt
  have nr14_q1 : b14 ≠ V21.heap.size := Nat.ne_of_lt r14.lt
  have nr15_q1 : b15 ≠ V21.heap.size := Nat.ne_of_lt r15.lt
  have nr17_q1 : b17 ≠ V21.heap.size := Nat.ne_of_lt r17.lt
  have nrs_q1 : bs ≠ V21.heap.size := Nat.ne_of_lt rs.lt
  have np1_q1 : bp1 ≠ V21.heap.size := Nat.ne_of_lt p1.lt
  have wq1 : w.heap.size ≤ V21.heap.size := hc.size
  replace r9 := r9.on hn
  replace r11 := r11.on hn
  replace r14 := r14.on hn
  replace r15 := r15.on hn
  replace r17 := r17.on hn
  replace rs := rs.on hn
  replace p1 := p1.on hn
  replace hc := chain hc hn
  clear hn
  generalize V21.alloc (.cells (rC 0 0 0 0 0 0 0 ⟨#[]⟩) 27) = V22 at r9 r11 r14 r15 r17 rs p1 q1 hc ⊢
  generalize V21.heap.size = bq1 at *
  have yr9 := r9.cell
  have zr9 := r9.lt
  have yr11 := r11.cell
  have zr11 := r11.lt
  have yr14 := r14.cell
  have zr14 := r14.lt
  have yr15 := r15.cell
  have zr15 := r15.lt
  have yr17 := r17.cell
  have zr17 := r17.lt
  have yrs := rs.cell
  have zrs := rs.lt
  have yp1 := p1.cell
  have zp1 := p1.lt
  have yq1 := q1.cell
  have zq1 := q1.lt
  go_wp2_with fail
  clear yr9 yr11 yr14 yr15 yr17 yrs yp1 yq1 zr9 zr11 zr14 zr15 zr17 zrs zp1 zq1
  clear p1 q1
  rw [rounds_succ]
  have yr9 := r9.cell
  have zr9 := r9.lt
  have yr11 := r11.cell
  have zr11 := r11.lt
  have yr14 := r14.cell
  have zr14 := r14.lt
  have yr15 := r15.cell
  have zr15 := r15.lt
  have yr17 := r17.cell
  have zr17 := r17.lt
  have yrs := rs.cell
  have zrs := rs.lt
  go_wp2_with fail
  refine Calls.mono (Cm.out _) ?_
  rintro e V23 ⟨rfl, hn⟩
  clear yr9 yr11 yr14 yr15 yr17 yrs zr9 zr11 zr14 zr15 zr17 zrs
  replace r9 := r9.on hn
  replace r11 := r11.on hn
  replace r14 := r14.on hn
  replace r15 := r15.on hn
  replace r17 := r17.on hn
  replace rs := rs.on hn
  replace hc := chain hc hn
  clear hn
  have yr9 := r9.cell
  have zr9 := r9.lt
  have yr11 := r11.cell
  have zr11 := r11.lt
  have yr14 := r14.cell
  have zr14 := r14.lt
  have yr15 := r15.cell
  have zr15 := r15.lt
  have yr17 := r17.cell
  have zr17 := r17.lt
  have yrs := rs.cell
  have zrs := rs.lt
  go_upto_region 42 with fail
  clear yr9 yr11 yr14 yr15 yr17 yrs zr9 zr11 zr14 zr15 zr17 zrs
  have p2 := Row.new (W := V23) (cs := (rC 0 0 0 0 0 0 0 ⟨#[]⟩)) (t := 27)
  have hn := below_alloc V23 (.cells (rC 0 0 0 0 0 0 0 ⟨#[]⟩) 27)
  have nr9_p2 : b9 ≠ V23.heap.size := Nat.ne_of_lt r9.lt
  have nr11_p2 : b11 ≠ V23.heap.size := Nat.ne_of_lt r11.lt
  have nr14_p2 : b14 ≠ V23.heap.size := Nat.ne_of_lt r14.lt
  have nr15_p2 : b15 ≠ V23.heap.size := Nat.ne_of_lt r15.lt
  have nr17_p2 : b17 ≠ V23.heap.size := Nat.ne_of_lt r17.lt
  have nrs_p2 : bs ≠ V23.heap.size := Nat.ne_of_lt rs.lt
  have wp2 : w.heap.size ≤ V23.heap.size := hc.size
  replace r9 := r9.on hn
  replace r11 := r11.on hn
  replace r14 := r14.on hn
  replace r15 := r15.on hn
  replace r17 := r17.on hn
  replace rs := rs.on hn
  replace hc := chain hc hn
  clear hn
  generalize V23.alloc (.cells (rC 0 0 0 0 0 0 0 ⟨#[]⟩) 27) = V24 at r9 r11 r14 r15 r17 rs p2 hc ⊢
  generalize V23.heap.size = bp2 at *
  have yr9 := r9.cell
  have zr9 := r9.lt
  have yr11 := r11.cell
  have zr11 := r11.lt
  have yr14 := r14.cell
  have zr14 := r14.lt
  have yr15 := r15.cell
  have zr15 := r15.lt
  have yr17 := r17.cell
  have zr17 := r17.lt
  have yrs := rs.cell
  have zrs := rs.lt
  have yp2 := p2.cell
  have zp2 := p2.lt
  go_wp2_with fail
  refine Calls.mono (Tm.out _) ?_
  rintro e V25 ⟨rfl, hn⟩
  clear yr9 yr11 yr14 yr15 yr17 yrs yp2 zr9 zr11 zr14 zr15 zr17 zrs zp2
  replace r9 := r9.on hn
  replace r11 := r11.on hn
  replace r14 := r14.on hn
  replace r15 := r15.on hn
  replace r17 := r17.on hn
  replace rs := rs.on hn
  replace p2 := p2.on hn
  replace hc := chain hc hn
  clear hn
  have yr9 := r9.cell
  have zr9 := r9.lt
  have yr11 := r11.cell
  have zr11 := r11.lt
  have yr14 := r14.cell
  have zr14 := r14.lt
  have yr15 := r15.cell
  have zr15 := r15.lt
  have yr17 := r17.cell
  have zr17 := r17.lt
  have yrs := rs.cell
  have zrs := rs.lt
  have yp2 := p2.cell
  have zp2 := p2.lt
  go_upto_region 45 with fail
  clear yr9 yr11 yr14 yr15 yr17 yrs yp2 zr9 zr11 zr14 zr15 zr17 zrs zp2
  have q2 := Row.new (W := V25) (cs := (rC 0 0 0 0 0 0 0 ⟨#[]⟩)) (t := 27)
  have hn := below_alloc V25 (.cells (rC 0 0 0 0 0 0 0 ⟨#[]⟩) 27)
  have nr9_q2 : b9 ≠ V25.heap.size := Nat.ne_of_lt r9.lt
  have nr11_q2 : b11 ≠ V25.heap.size := Nat.ne_of_lt r11.lt
  have nr14_q2 : b14 ≠ V25.heap.size := Nat.ne_of_lt r14.lt
  have nr15_q2 : b15 ≠ V25.heap.size := Nat.ne_of_lt r15.lt
  have nr17_q2 : b17 ≠ V25.heap.size := Nat.ne_of_lt r17.lt
  have nrs_q2 : bs ≠ V25.heap.size := Nat.ne_of_lt rs.lt
  have np2_q2 : bp2 ≠ V25.heap.size := Nat.ne_of_lt p2.lt
  have wq2 : w.heap.size ≤ V25.heap.size := hc.size
  replace r9 := r9.on hn
  replace r11 := r11.on hn
  replace r14 := r14.on hn
  replace r15 := r15.on hn
  replace r17 := r17.on hn
  replace rs := rs.on hn
  replace p2 := p2.on hn
  replace hc := chain hc hn
  clear hn
  generalize V25.alloc (.cells (rC 0 0 0 0 0 0 0 ⟨#[]⟩) 27) = V26 at r9 r11 r14 r15 r17 rs p2 q2 hc ⊢
  generalize V25.heap.size = bq2 at *
  have yr9 := r9.cell
  have zr9 := r9.lt
  have yr11 := r11.cell
  have zr11 := r11.lt
  have yr14 := r14.cell
  have zr14 := r14.lt
  have yr15 := r15.cell
  have zr15 := r15.lt
  have yr17 := r17.cell
  have zr17 := r17.lt
  have yrs := rs.cell
  have zrs := rs.lt
  have yp2 := p2.cell
  have zp2 := p2.lt
  have yq2 := q2.cell
  have zq2 := q2.lt
  go_wp2_with fail
  clear yr9 yr11 yr14 yr15 yr17 yrs yp2 yq2 zr9 zr11 zr14 zr15 zr17 zrs zp2 zq2
  clear p2 q2
  rw [rounds_succ]
  have a1 := fun w => close_c kk ii gg 2 1 0 5 1 1099511627777 tt w hG.1 hG.2 (by omega)
  rw [close_arg hc0 rfl] at a1
  have A1 := Lib.hid a1
  clear a1
  have a2 := fun w => tried_c kk ii gg 1 0 0 0 1 5 1048577 tt w hG.1 hG.2 (by omega)
  rw [tried_arg hr0 rfl] at a2
  have A2 := Lib.hid a2
  clear a2
  have a3 := fun w => due_c kk ii gg 2 1 0 5 1099511627777 tt w hG.1 hG.2 (by omega)
  rw [due_arg hc0 rfl] at a3
  have A3 := Lib.hid a3
  clear a3
  have a4 := fun w => tried_c kk ii gg 2 1 0 5 2 1099511627776 1 tt w hG.1 hG.2 (by omega)
  rw [tried_over hc0 (by omega) (by omega) (by omega)] at a4
  have A4 := Lib.hid a4
  clear a4
  have hm0 := ok_2 (k := kk) (i := ii) (g := gg) (wy := 1) (tr := 10000) (nx := 5) hd hT (by omega) (by omega) (by omega)
  have a5 := fun w => tried_c kk ii gg 2 1 10000 5 2 5 1 tt w hG.1 hG.2 (by omega)
  rw [tried_over hm0 (by omega) (by omega) (by omega)] at a5
  have A5 := Lib.hid a5
  clear a5
  have a6 := fun w => tried_c kk ii gg 2 1 10000 5 1 5 1 tt w hG.1 hG.2 (by omega)
  rw [tried_ok hm0 (by omega) (by omega)] at a6
  have A6 := Lib.hid a6
  clear a6
  have yr9 := r9.cell
  have zr9 := r9.lt
  have yr11 := r11.cell
  have zr11 := r11.lt
  have yr14 := r14.cell
  have zr14 := r14.lt
  have yr15 := r15.cell
  have zr15 := r15.lt
  have yr17 := r17.cell
  have zr17 := r17.lt
  have yrs := rs.cell
  have zrs := rs.lt
  go_wp2_with fail
  refine Calls.mono (A1.out _) ?_
  rintro e V27 ⟨rfl, hn⟩
  clear yr9 yr11 yr14 yr15 yr17 yrs zr9 zr11 zr14 zr15 zr17 zrs
  replace r9 := r9.on hn
  replace r11 := r11.on hn
  replace r14 := r14.on hn
  replace r15 := r15.on hn
  replace r17 := r17.on hn
  replace rs := rs.on hn
  replace hc := chain hc hn
  clear hn
  have yr9 := r9.cell
  have zr9 := r9.lt
  have yr11 := r11.cell
  have zr11 := r11.lt
  have yr14 := r14.cell
  have zr14 := r14.lt
  have yr15 := r15.cell
  have zr15 := r15.lt
  have yr17 := r17.cell
  have zr17 := r17.lt
  have yrs := rs.cell
  have zrs := rs.lt
  go_wp2_with fail
  refine Calls.mono (A2.out _) ?_
  rintro e V28 ⟨rfl, hn⟩
  clear yr9 yr11 yr14 yr15 yr17 yrs zr9 zr11 zr14 zr15 zr17 zrs
  replace r9 := r9.on hn
  replace r11 := r11.on hn
  replace r14 := r14.on hn
  replace r15 := r15.on hn
  replace r17 := r17.on hn
  replace rs := rs.on hn
  replace hc := chain hc hn
  clear hn
  have yr9 := r9.cell
  have zr9 := r9.lt
  have yr11 := r11.cell
  have zr11 := r11.lt
  have yr14 := r14.cell
  have zr14 := r14.lt
  have yr15 := r15.cell
  have zr15 := r15.lt
  have yr17 := r17.cell
  have zr17 := r17.lt
  have yrs := rs.cell
  have zrs := rs.lt
  go_wp2_with fail
  refine Calls.mono (A3.out _) ?_
  rintro e V29 ⟨rfl, hn⟩
  clear yr9 yr11 yr14 yr15 yr17 yrs zr9 zr11 zr14 zr15 zr17 zrs
  replace r9 := r9.on hn
  replace r11 := r11.on hn
  replace r14 := r14.on hn
  replace r15 := r15.on hn
  replace r17 := r17.on hn
  replace rs := rs.on hn
  replace hc := chain hc hn
  clear hn
  have yr9 := r9.cell
  have zr9 := r9.lt
  have yr11 := r11.cell
  have zr11 := r11.lt
  have yr14 := r14.cell
  have zr14 := r14.lt
  have yr15 := r15.cell
  have zr15 := r15.lt
  have yr17 := r17.cell
  have zr17 := r17.lt
  have yrs := rs.cell
  have zrs := rs.lt
  go_wp2_with fail
  refine Calls.mono (A4.out _) ?_
  rintro e V30 ⟨rfl, hn⟩
  clear yr9 yr11 yr14 yr15 yr17 yrs zr9 zr11 zr14 zr15 zr17 zrs
  replace r9 := r9.on hn
  replace r11 := r11.on hn
  replace r14 := r14.on hn
  replace r15 := r15.on hn
  replace r17 := r17.on hn
  replace rs := rs.on hn
  replace hc := chain hc hn
  clear hn
  have yr9 := r9.cell
  have zr9 := r9.lt
  have yr11 := r11.cell
  have zr11 := r11.lt
  have yr14 := r14.cell
  have zr14 := r14.lt
  have yr15 := r15.cell
  have zr15 := r15.lt
  have yr17 := r17.cell
  have zr17 := r17.lt
  have yrs := rs.cell
  have zrs := rs.lt
  go_upto_region 53 with fail
  clear yr9 yr11 yr14 yr15 yr17 yrs zr9 zr11 zr14 zr15 zr17 zrs
  have r31 := Row.new (W := V30) (cs := (rC kk ii gg 2 1 0 5 tt)) (t := 27)
  have hn := below_alloc V30 (.cells (rC kk ii gg 2 1 0 5 tt) 27)
  have nr9_r31 : b9 ≠ V30.heap.size := Nat.ne_of_lt r9.lt
  have nr11_r31 : b11 ≠ V30.heap.size := Nat.ne_of_lt r11.lt
  have nr14_r31 : b14 ≠ V30.heap.size := Nat.ne_of_lt r14.lt
  have nr15_r31 : b15 ≠ V30.heap.size := Nat.ne_of_lt r15.lt
  have nr17_r31 : b17 ≠ V30.heap.size := Nat.ne_of_lt r17.lt
  have nrs_r31 : bs ≠ V30.heap.size := Nat.ne_of_lt rs.lt
  have wr31 : w.heap.size ≤ V30.heap.size := hc.size
  replace r9 := r9.on hn
  replace r11 := r11.on hn
  replace r14 := r14.on hn
  replace r15 := r15.on hn
  replace r17 := r17.on hn
  replace rs := rs.on hn
  replace hc := chain hc hn
  clear hn
  generalize V30.alloc (.cells (rC kk ii gg 2 1 0 5 tt) 27) = V31 at r9 r11 r14 r15 r17 rs r31 hc ⊢
  generalize V30.heap.size = b31 at *
  have yr9 := r9.cell
  have zr9 := r9.lt
  have yr11 := r11.cell
  have zr11 := r11.lt
  have yr14 := r14.cell
  have zr14 := r14.lt
  have yr15 := r15.cell
  have zr15 := r15.lt
  have yr17 := r17.cell
  have zr17 := r17.lt
  have yrs := rs.cell
  have zrs := rs.lt
  have yr31 := r31.cell
  have zr31 := r31.lt
  have ur31 := r31.free
  go_upto_region 54 with fail
  clear yr9 yr11 yr14 yr15 yr17 yrs yr31 zr9 zr11 zr14 zr15 zr17 zrs zr31 ur31
  replace r9 := (r9.other nr9_r31.symm 5 (.int .i64 10000))
  replace r11 := (r11.other nr11_r31.symm 5 (.int .i64 10000))
  replace r14 := (r14.other nr14_r31.symm 5 (.int .i64 10000))
  replace r15 := (r15.other nr15_r31.symm 5 (.int .i64 10000))
  replace r17 := (r17.other nr17_r31.symm 5 (.int .i64 10000))
  replace rs := (rs.other nrs_r31.symm 5 (.int .i64 10000))
  replace r31 := (r31.set 5 (.int .i64 10000))
  simp only [List.setIfInBounds_toArray, List.set_cons_zero, List.set_cons_succ] at r31
  replace hc := (hc.setCell (p := ⟨b31, 5, none⟩) wr31 (.int .i64 10000))
  generalize hW : World.setCell _ _ _ = V32 at *
  clear hW
  have yr9 := r9.cell
  have zr9 := r9.lt
  have yr11 := r11.cell
  have zr11 := r11.lt
  have yr14 := r14.cell
  have zr14 := r14.lt
  have yr15 := r15.cell
  have zr15 := r15.lt
  have yr17 := r17.cell
  have zr17 := r17.lt
  have yrs := rs.cell
  have zrs := rs.lt
  have yr31 := r31.cell
  have zr31 := r31.lt
  go_wp2_with fail
  refine Calls.mono (A5.out _) ?_
  rintro e V33 ⟨rfl, hn⟩
  clear yr9 yr11 yr14 yr15 yr17 yrs yr31 zr9 zr11 zr14 zr15 zr17 zrs zr31
  replace r9 := r9.on hn
  replace r11 := r11.on hn
  replace r14 := r14.on hn
  replace r15 := r15.on hn
  replace r17 := r17.on hn
  replace rs := rs.on hn
  replace r31 := r31.on hn
  replace hc := chain hc hn
  clear hn
  have yr9 := r9.cell
  have zr9 := r9.lt
  have yr11 := r11.cell
  have zr11 := r11.lt
  have yr14 := r14.cell
  have zr14 := r14.lt
  have yr15 := r15.cell
  have zr15 := r15.lt
  have yr17 := r17.cell
  have zr17 := r17.lt
  have yrs := rs.cell
  have zrs := rs.lt
  have yr31 := r31.cell
  have zr31 := r31.lt
  go_wp2_with fail
  refine Calls.mono (A6.out _) ?_
  rintro e V34 ⟨rfl, hn⟩
  clear yr9 yr11 yr14 yr15 yr17 yrs yr31 zr9 zr11 zr14 zr15 zr17 zrs zr31
  replace r9 := r9.on hn
  replace r11 := r11.on hn
  replace r14 := r14.on hn
  replace r15 := r15.on hn
  replace r17 := r17.on hn
  replace rs := rs.on hn
  replace r31 := r31.on hn
  replace hc := chain hc hn
  clear hn
  have yr9 := r9.cell
  have zr9 := r9.lt
  have yr11 := r11.cell
  have zr11 := r11.lt
  have yr14 := r14.cell
  have zr14 := r14.lt
  have yr15 := r15.cell
  have zr15 := r15.lt
  have yr17 := r17.cell
  have zr17 := r17.lt
  have yrs := rs.cell
  have zrs := rs.lt
  have yr31 := r31.cell
  have zr31 := r31.lt
  go_upto_region 56 with fail
  clear yr9 yr11 yr14 yr15 yr17 yrs yr31 zr9 zr11 zr14 zr15 zr17 zrs zr31
  have r32 := Row.new (W := V34) (cs := (rC kk ii gg 3 1 10000 0 tt)) (t := 27)
  have hn := below_alloc V34 (.cells (rC kk ii gg 3 1 10000 0 tt) 27)
  have nr9_r32 : b9 ≠ V34.heap.size := Nat.ne_of_lt r9.lt
  have nr11_r32 : b11 ≠ V34.heap.size := Nat.ne_of_lt r11.lt
  have nr14_r32 : b14 ≠ V34.heap.size := Nat.ne_of_lt r14.lt
  have nr15_r32 : b15 ≠ V34.heap.size := Nat.ne_of_lt r15.lt
  have nr17_r32 : b17 ≠ V34.heap.size := Nat.ne_of_lt r17.lt
  have nrs_r32 : bs ≠ V34.heap.size := Nat.ne_of_lt rs.lt
  have nr31_r32 : b31 ≠ V34.heap.size := Nat.ne_of_lt r31.lt
  have wr32 : w.heap.size ≤ V34.heap.size := hc.size
  replace r9 := r9.on hn
  replace r11 := r11.on hn
  replace r14 := r14.on hn
  replace r15 := r15.on hn
  replace r17 := r17.on hn
  replace rs := rs.on hn
  replace r31 := r31.on hn
  replace hc := chain hc hn
  clear hn
  generalize V34.alloc (.cells (rC kk ii gg 3 1 10000 0 tt) 27) = V35 at r9 r11 r14 r15 r17 rs r31 r32 hc ⊢
  generalize V34.heap.size = b32 at *
  have yr9 := r9.cell
  have zr9 := r9.lt
  have yr11 := r11.cell
  have zr11 := r11.lt
  have yr14 := r14.cell
  have zr14 := r14.lt
  have yr15 := r15.cell
  have zr15 := r15.lt
  have yr17 := r17.cell
  have zr17 := r17.lt
  have yrs := rs.cell
  have zrs := rs.lt
  have yr31 := r31.cell
  have zr31 := r31.lt
  have yr32 := r32.cell
  have zr32 := r32.lt
  go_wp2_with fail
  refine Calls.mono (works _ (HE.out.on hc)) ?_
  rintro e V36 ⟨rfl, hn⟩
  clear yr9 yr11 yr14 yr15 yr17 yrs yr31 yr32 zr9 zr11 zr14 zr15 zr17 zrs zr31 zr32
  replace r9 := r9.on hn
  replace r11 := r11.on hn
  replace r14 := r14.on hn
  replace r15 := r15.on hn
  replace r17 := r17.on hn
  replace rs := rs.on hn
  replace r31 := r31.on hn
  replace r32 := r32.on hn
  replace hc := chain hc hn
  clear hn
  have yr9 := r9.cell
  have zr9 := r9.lt
  have yr11 := r11.cell
  have zr11 := r11.lt
  have yr14 := r14.cell
  have zr14 := r14.lt
  have yr15 := r15.cell
  have zr15 := r15.lt
  have yr17 := r17.cell
  have zr17 := r17.lt
  have yrs := rs.cell
  have zrs := rs.lt
  have yr31 := r31.cell
  have zr31 := r31.lt
  have yr32 := r32.cell
  have zr32 := r32.lt
  go_wp2_with fail
  go_returns
  exact ⟨rfl, hc⟩
end Go.Proofs.YtgckfiadnmjonabGreatDoor
