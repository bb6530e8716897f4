/- What Parse of resources returns. -/
import Derived.Test.YtgckfiadnmjonabGreatDoorHRes11
import Derived.Test.YtgckfiadnmjonabGreatDoorL3a
import Derived.Deep.DeepCutAuto
namespace Go.Proofs.YtgckfiadnmjonabGreatDoor
open Go.RowKit
set_option linter.unusedVariables false
set_option linter.unusedSimpArgs false
/-- A text of a possible resource is read as it. -/
theorem parse_is (s : ByteArray) (hs : s.size ≤ 100000) {k i g st wy tr nx : Int} {tag : ByteArray} (h : IsR k i g st wy tr nx tag s.data.toList) (w : World) (hE : EnvP w) : Ret 14 #[.string s] w (.tuple #[rV k i g st wy tr nx tag, .int .i64 0]) := by
  refine (parse_both s hs w hE).mono ?_
  rintro e w' ⟨hb, ⟨k', i', g', st', wy', tr', nx', tag', h', rfl⟩ | ⟨hno, _⟩⟩
  · obtain ⟨rfl, rfl, rfl, rfl, rfl, rfl, rfl, rfl⟩ := isR_unique h h'
    exact ⟨rfl, hb⟩
  · exact (hno _ _ _ _ _ _ _ _ h).elim
theorem parse_not (s : ByteArray) (hs : s.size ≤ 100000) (h : ∀ k i g st wy tr nx tag, ¬ IsR k i g st wy tr nx tag s.data.toList) (w : World) (hE : EnvP w) : Ret 14 #[.string s] w (.tuple #[r0V, .int .i64 9]) := by
  refine (parse_both s hs w hE).mono ?_
  rintro e w' ⟨hb, ⟨k', i', g', st', wy', tr', nx', tag', h', rfl⟩ | ⟨_, rfl⟩⟩
  · exact (h _ _ _ _ _ _ _ _ h').elim
  · exact ⟨rfl, hb⟩
end Go.Proofs.YtgckfiadnmjonabGreatDoor

/- The chapter's examples hold: 'works' of the statements of chapter 31. -/
namespace Go.Proofs.YtgckfiadnmjonabGreatDoor
open Go.RowKit
set_option linter.unusedVariables false
set_option linter.unusedSimpArgs false
set_option maxHeartbeats 16000000
set_option maxRecDepth 20000
theorem tagOk_sz {tag : ByteArray} (h : tagOk tag.data.toList = true) : tag.size ≤ 1000000 := by
  have := tagOk_len h
  rw [len_bytes] at this
  omega
theorem says_c (k i g st wy tr nx : Int) (tag s : ByteArray) (h : IsR k i g st wy tr nx tag s.data.toList) (hs : s.size ≤ 100000) (w : World) (hE : EnvP w) :
    Ret 22 #[rV k i g st wy tr nx tag, .int .i64 0, .string s] w (.bool true) := by
  have hT := fun w (hE : EnvP w) => text_c k i g st wy tr nx tag w hE.toEnv h.1.1 h.1.2 (tagOk_sz (rErr_zero h.2.1).2)
  have ev : textV k i g st wy tr nx tag = .tuple #[.string s, .int .i64 0] := by
    unfold textV
    rw [if_pos h.2.1]
    have : rsText k i g st wy tr nx tag = s := str_ext (by unfold rsText; rw [of_list, h.2.2])
    rw [this]
  rw [ev] at hT
  have hP := fun w hE => parse_is s hs h w hE
  have he := req_F k i g st wy tr nx tag
  have HT := Lib.hid hT
  have HP := Lib.hid hP
  clear hT hP ev h
  go_enter Tryz.func22, Tryz.ntmps22
  go_upto_region 1 with fail
  have r1 := Row.new (W := w) (cs := rC k i g st wy tr nx tag) (t := 27)
  have hc := below_alloc w (.cells (rC k i g st wy tr nx tag) 27)
  generalize w.alloc (.cells (rC k i g st wy tr nx tag) 27) = W0 at r1 hc ⊢
  have y0 := r1.cell
  have y1 := r1.lt
  go_wp2_with fail
  refine Calls.mono (HT.out _ (hE.on hc)) ?_
  rintro e W1 ⟨rfl, hn⟩
  clear y0 y1
  replace r1 := r1.on hn
  replace hc := chain hc hn
  clear hn
  go_wp2_with fail
  refine Calls.mono (HP.out _ (hE.on hc)) ?_
  rintro e W2 ⟨rfl, hn⟩
  replace r1 := r1.on hn
  replace hc := chain hc hn
  clear hn
  go_upto_region 3 with fail
  have r2 := Row.new (W := W2) (cs := rC k i g st wy tr nx tag) (t := 27)
  have hn := below_alloc W2 (.cells (rC k i g st wy tr nx tag) 27)
  replace r1 := r1.on hn
  replace hc := chain hc hn
  clear hn
  generalize W2.alloc (.cells (rC k i g st wy tr nx tag) 27) = W3 at r1 r2 hc ⊢
  generalize W2.heap.size = b at r2 ⊢
  have y0 := r1.cell
  have y1 := r1.lt
  have y2 := r2.cell
  have y3 := r2.lt
  have es := str_beq_same s
  go_wp2_with fail
  go_returns
  exact ⟨rfl, hc⟩
theorem dec15 : Lib.decDigits 15 = [49, 53] := by rw [decDigits_step, if_neg (by decide), decDigits_step, if_pos (by decide)]; rfl
theorem dec_sm (n : Nat) (h : n < 10) : Lib.decDigits n = [UInt8.ofNat (48 + n)] := by rw [decDigits_step, if_pos h]
abbrev mainB : ByteArray := ⟨#[109, 97, 105, 110]⟩
theorem main_ok : tagOk mainB.data.toList = true := by decide
theorem ex_rErr {st wy tr nx : Int} (h : pOk 1 3 1 st wy tr nx = true) : rErr 1 3 1 st wy tr nx mainB = 0 := by
  unfold rErr tagErr
  rw [h, main_ok]
  rfl
theorem ex_out : dTextL 58 1 3 1 = [102, 51, 58, 49] := by
  unfold dTextL
  rw [dec_sm _ (by decide), dec_sm _ (by decide)]
  rfl
theorem ex_quote : quoteL mainB.data.toList = [34, 109, 97, 105, 110, 34] := rfl
theorem ex_r : IsR 1 3 1 1 0 0 0 mainB (ByteArray.mk #[102, 51, 58, 49, 32, 108, 105, 118, 101, 32, 34, 109, 97, 105, 110, 34]).data.toList := ⟨by omega, ex_rErr (by decide), by
  rw [rsL_eq, tail2_one, ex_out, ex_quote]; rfl⟩
theorem ex_c : IsR 1 3 1 2 1 0 5 mainB (ByteArray.mk #[102, 51, 58, 49, 32, 99, 108, 111, 115, 105, 110, 103, 32, 99, 108, 111, 115, 101, 32, 48, 32, 53, 32, 34, 109, 97, 105, 110, 34]).data.toList := ⟨by omega, ex_rErr (by decide), by
  rw [rsL_eq, ex_out]
  unfold tail2 tail4
  rw [if_neg (by decide), if_pos rfl, ex_quote, dec_sm _ (by decide), dec_sm _ (by decide)]; rfl⟩
theorem ex_l : IsR 1 3 1 2 1 1 15 mainB (ByteArray.mk #[102, 51, 58, 49, 32, 99, 108, 111, 115, 105, 110, 103, 32, 99, 108, 111, 115, 101, 32, 49, 32, 49, 53, 32, 34, 109, 97, 105, 110, 34]).data.toList := ⟨by omega, ex_rErr (by decide), by
  rw [rsL_eq, ex_out]
  unfold tail2 tail4
  rw [if_neg (by decide), if_pos rfl, ex_quote, dec_sm _ (by decide), show (15 : Int).toNat = 15 from rfl, dec15]; rfl⟩
theorem ex_ok : IsR 1 3 1 3 1 1 0 mainB (ByteArray.mk #[102, 51, 58, 49, 32, 114, 101, 108, 101, 97, 115, 101, 100, 32, 99, 108, 111, 115, 101, 32, 49, 32, 34, 109, 97, 105, 110, 34]).data.toList := ⟨by omega, ex_rErr (by decide), by
  rw [rsL_eq, ex_out]
  unfold tail2 tail4
  rw [if_neg (by decide), if_neg (by decide), ex_quote, dec_sm _ (by decide)]; rfl⟩
theorem ex_fail : IsR 1 3 1 4 1 1 0 mainB (ByteArray.mk #[102, 51, 58, 49, 32, 113, 117, 97, 114, 97, 110, 116, 105, 110, 101, 32, 99, 108, 111, 115, 101, 32, 49, 32, 34, 109, 97, 105, 110, 34]).data.toList := ⟨by omega, ex_rErr (by decide), by
  rw [rsL_eq, ex_out]
  unfold tail2 tail4
  rw [if_neg (by decide), if_neg (by decide), ex_quote, dec_sm _ (by decide)]; rfl⟩
theorem ex_chk {st wy tr nx : Int} (h : pOk 1 3 1 st wy tr nx = true) (al : Bool) (want : Int) : chkE 1 3 1 st wy tr nx mainB al want = if al = false then 2 else if st ≠ want then 8 else 0 := by
  unfold chkE
  rw [ex_rErr h]
  rfl
theorem file_c (w : World) : Ret 21 #[] w (dV 1 3 1) := by
  go_enter Tryz.func21, Tryz.ntmps21
  go_wp2_with fail
  go_returns
  exact ⟨rfl, by go_grown⟩
abbrev exR : Value := rV 1 3 1 1 0 0 0 mainB
abbrev exC : Value := rV 1 3 1 2 1 0 5 mainB
abbrev exL : Value := rV 1 3 1 2 1 1 15 mainB
abbrev exO : Value := rV 1 3 1 3 1 1 0 mainB
abbrev exF : Value := rV 1 3 1 4 1 1 0 mainB
theorem ek1 (w : World) : Ret 16 #[dV 1 3 1, .string mainB] w (.tuple #[exR, .int .i64 0]) := by
  have h := new_c 1 3 1 mainB w (by omega) (by omega) (by decide)
  rw [show newV 1 3 1 mainB = .tuple #[exR, .int .i64 0] by unfold newV; rw [if_pos (ex_rErr (by decide))]] at h
  exact h
theorem ek2 (w : World) : Ret 7 #[exR, .int .i64 1, .int .i64 5] w (.tuple #[exC, .int .i64 0]) := by
  have h := close_c 1 3 1 1 0 0 0 1 5 mainB w (by omega) (by omega) (by decide)
  rw [show closeV 1 3 1 1 0 0 0 mainB 1 5 = .tuple #[exC, .int .i64 0] by unfold closeV; rw [ex_chk (by decide)]; rfl] at h
  exact h
theorem ek3 (w : World) : Ret 9 #[exC, .int .i64 2, .int .i64 5, .int .i64 10] w (.tuple #[exL, .int .i64 0]) := by
  have h := tried_c 1 3 1 2 1 0 5 2 5 10 mainB w (by omega) (by omega) (by decide)
  rw [show triedV 1 3 1 2 1 0 5 mainB 2 5 10 = .tuple #[exL, .int .i64 0] by unfold triedV; rw [ex_chk (by decide)]; rfl] at h
  exact h
theorem ek4 (w : World) : Ret 9 #[exL, .int .i64 1, .int .i64 20, .int .i64 1] w (.tuple #[exO, .int .i64 0]) := by
  have h := tried_c 1 3 1 2 1 1 15 1 20 1 mainB w (by omega) (by omega) (by decide)
  rw [show triedV 1 3 1 2 1 1 15 mainB 1 20 1 = .tuple #[exO, .int .i64 0] by unfold triedV; rw [ex_chk (by decide)]; rfl] at h
  exact h
theorem ek5 (w : World) : Ret 9 #[exL, .int .i64 3, .int .i64 15, .int .i64 1] w (.tuple #[exF, .int .i64 0]) := by
  have h := tried_c 1 3 1 2 1 1 15 3 15 1 mainB w (by omega) (by omega) (by decide)
  rw [show triedV 1 3 1 2 1 1 15 mainB 3 15 1 = .tuple #[exF, .int .i64 0] by unfold triedV; rw [ex_chk (by decide)]; rfl] at h
  exact h
theorem ek6 (w : World) : Ret 8 #[exL, .int .i64 14] w (.tuple #[.bool false, .int .i64 0]) := by
  have h := due_c 1 3 1 2 1 1 15 14 mainB w (by omega) (by omega) (by decide)
  rw [show dueV 1 3 1 2 1 1 15 mainB 14 = .tuple #[.bool false, .int .i64 0] by unfold dueV; rw [ex_chk (by decide)]; rfl] at h
  exact h
theorem ek7 (w : World) : Ret 8 #[exL, .int .i64 15] w (.tuple #[.bool true, .int .i64 0]) := by
  have h := due_c 1 3 1 2 1 1 15 15 mainB w (by omega) (by omega) (by decide)
  rw [show dueV 1 3 1 2 1 1 15 mainB 15 = .tuple #[.bool true, .int .i64 0] by unfold dueV; rw [ex_chk (by decide)]; rfl] at h
  exact h
theorem ek8 (w : World) : Ret 7 #[exC, .int .i64 2, .int .i64 9] w (.tuple #[r0V, .int .i64 8]) := by
  have h := close_c 1 3 1 2 1 0 5 2 9 mainB w (by omega) (by omega) (by decide)
  rw [show closeV 1 3 1 2 1 0 5 mainB 2 9 = .tuple #[r0V, .int .i64 8] by unfold closeV; rw [ex_chk (by decide)]; rfl] at h
  exact h
theorem ek9 (w : World) : Ret 9 #[exR, .int .i64 1, .int .i64 5, .int .i64 1] w (.tuple #[r0V, .int .i64 8]) := by
  have h := tried_c 1 3 1 1 0 0 0 1 5 1 mainB w (by omega) (by omega) (by decide)
  rw [show triedV 1 3 1 1 0 0 0 mainB 1 5 1 = .tuple #[r0V, .int .i64 8] by unfold triedV; rw [ex_chk (by decide)]; rfl] at h
  exact h
theorem ek10 (w : World) : Ret 11 #[exF] w (.tuple #[.bool true, .int .i64 0]) := by
  have h := over_c 1 3 1 4 1 1 0 mainB w (by omega) (by omega) (by decide)
  rw [show overV 1 3 1 4 1 1 0 mainB = .tuple #[.bool true, .int .i64 0] by unfold overV; rw [if_pos (ex_rErr (by decide))]; rfl] at h
  exact h
theorem works (w : World) (hE : EnvP w) : Ret 10 #[] w (.bool true) := by
  have E1 := Lib.hid ek1
  have E2 := Lib.hid ek2
  have E3 := Lib.hid ek3
  have E4 := Lib.hid ek4
  have E5 := Lib.hid ek5
  have E6 := Lib.hid ek6
  have E7 := Lib.hid ek7
  have E8 := Lib.hid ek8
  have E9 := Lib.hid ek9
  have E10 := Lib.hid ek10
  have HE := Lib.hid hE
  have hc := Below.refl w.heap.size w
  go_enter Tryz.func10, Tryz.ntmps10
  go_wp2_with fail
  refine Calls.mono (file_c _) ?_
  rintro e W1 ⟨rfl, hn⟩
  replace hc := chain hc hn
  clear hn
  go_wp2_with fail
  refine Calls.mono (E1.out _) ?_
  rintro e W2 ⟨rfl, hn⟩
  replace hc := chain hc hn
  clear hn
  go_upto_region 2 with fail
  have r1 := Row.new (W := W2) (cs := (rC 1 3 1 1 0 0 0 mainB)) (t := 27)
  have hn := below_alloc W2 (.cells (rC 1 3 1 1 0 0 0 mainB) 27)
  replace hc := chain hc hn
  clear hn
  generalize W2.alloc (.cells (rC 1 3 1 1 0 0 0 mainB) 27) = W3 at r1 hc ⊢
  generalize W2.heap.size = b1 at r1 ⊢
  have yr1 := r1.cell
  have zr1 := r1.lt
  go_wp2_with fail
  refine Calls.mono (says_c 1 3 1 1 0 0 0 mainB _ ex_r (by decide) _ (HE.out.on hc)) ?_
  rintro e W4 ⟨rfl, hn⟩
  clear yr1 zr1
  replace r1 := r1.on hn
  replace hc := chain hc hn
  clear hn
  have yr1 := r1.cell
  have zr1 := r1.lt
  go_wp2_with fail
  refine Calls.mono (E2.out _) ?_
  rintro e W5 ⟨rfl, hn⟩
  clear yr1 zr1
  replace r1 := r1.on hn
  replace hc := chain hc hn
  clear hn
  have yr1 := r1.cell
  have zr1 := r1.lt
  go_upto_region 5 with fail
  clear yr1 zr1
  have r2 := Row.new (W := W5) (cs := (rC 1 3 1 2 1 0 5 mainB)) (t := 27)
  have hn := below_alloc W5 (.cells (rC 1 3 1 2 1 0 5 mainB) 27)
  replace r1 := r1.on hn
  replace hc := chain hc hn
  clear hn
  generalize W5.alloc (.cells (rC 1 3 1 2 1 0 5 mainB) 27) = W6 at r1 r2 hc ⊢
  generalize W5.heap.size = b2 at r2 ⊢
  have yr1 := r1.cell
  have zr1 := r1.lt
  have yr2 := r2.cell
  have zr2 := r2.lt
  go_wp2_with fail
  refine Calls.mono (E3.out _) ?_
  rintro e W7 ⟨rfl, hn⟩
  clear yr1 zr1 yr2 zr2
  replace r1 := r1.on hn
  replace r2 := r2.on hn
  replace hc := chain hc hn
  clear hn
  have yr1 := r1.cell
  have zr1 := r1.lt
  have yr2 := r2.cell
  have zr2 := r2.lt
  go_upto_region 6 with fail
  clear yr1 zr1 yr2 zr2
  have r3 := Row.new (W := W7) (cs := (rC 1 3 1 2 1 1 15 mainB)) (t := 27)
  have hn := below_alloc W7 (.cells (rC 1 3 1 2 1 1 15 mainB) 27)
  replace r1 := r1.on hn
  replace r2 := r2.on hn
  replace hc := chain hc hn
  clear hn
  generalize W7.alloc (.cells (rC 1 3 1 2 1 1 15 mainB) 27) = W8 at r1 r2 r3 hc ⊢
  generalize W7.heap.size = b3 at r3 ⊢
  have yr1 := r1.cell
  have zr1 := r1.lt
  have yr2 := r2.cell
  have zr2 := r2.lt
  have yr3 := r3.cell
  have zr3 := r3.lt
  go_wp2_with fail
  refine Calls.mono (E4.out _) ?_
  rintro e W9 ⟨rfl, hn⟩
  clear yr1 zr1 yr2 zr2 yr3 zr3
  replace r1 := r1.on hn
  replace r2 := r2.on hn
  replace r3 := r3.on hn
  replace hc := chain hc hn
  clear hn
  have yr1 := r1.cell
  have zr1 := r1.lt
  have yr2 := r2.cell
  have zr2 := r2.lt
  have yr3 := r3.cell
  have zr3 := r3.lt
  go_upto_region 7 with fail
  clear yr1 zr1 yr2 zr2 yr3 zr3
  have r4 := Row.new (W := W9) (cs := (rC 1 3 1 3 1 1 0 mainB)) (t := 27)
  have hn := below_alloc W9 (.cells (rC 1 3 1 3 1 1 0 mainB) 27)
  replace r1 := r1.on hn
  replace r2 := r2.on hn
  replace r3 := r3.on hn
  replace hc := chain hc hn
  clear hn
  generalize W9.alloc (.cells (rC 1 3 1 3 1 1 0 mainB) 27) = W10 at r1 r2 r3 r4 hc ⊢
  generalize W9.heap.size = b4 at r4 ⊢
  have yr1 := r1.cell
  have zr1 := r1.lt
  have yr2 := r2.cell
  have zr2 := r2.lt
  have yr3 := r3.cell
  have zr3 := r3.lt
  have yr4 := r4.cell
  have zr4 := r4.lt
  go_wp2_with fail
  refine Calls.mono (E5.out _) ?_
  rintro e W11 ⟨rfl, hn⟩
  clear yr1 zr1 yr2 zr2 yr3 zr3 yr4 zr4
  replace r1 := r1.on hn
  replace r2 := r2.on hn
  replace r3 := r3.on hn
  replace r4 := r4.on hn
  replace hc := chain hc hn
  clear hn
  have yr1 := r1.cell
  have zr1 := r1.lt
  have yr2 := r2.cell
  have zr2 := r2.lt
  have yr3 := r3.cell
  have zr3 := r3.lt
  have yr4 := r4.cell
  have zr4 := r4.lt
  go_upto_region 8 with fail
  clear yr1 zr1 yr2 zr2 yr3 zr3 yr4 zr4
  have r5 := Row.new (W := W11) (cs := (rC 1 3 1 4 1 1 0 mainB)) (t := 27)
  have hn := below_alloc W11 (.cells (rC 1 3 1 4 1 1 0 mainB) 27)
  replace r1 := r1.on hn
  replace r2 := r2.on hn
  replace r3 := r3.on hn
  replace r4 := r4.on hn
  replace hc := chain hc hn
  clear hn
  generalize W11.alloc (.cells (rC 1 3 1 4 1 1 0 mainB) 27) = W12 at r1 r2 r3 r4 r5 hc ⊢
  generalize W11.heap.size = b5 at r5 ⊢
  have yr1 := r1.cell
  have zr1 := r1.lt
  have yr2 := r2.cell
  have zr2 := r2.lt
  have yr3 := r3.cell
  have zr3 := r3.lt
  have yr4 := r4.cell
  have zr4 := r4.lt
  have yr5 := r5.cell
  have zr5 := r5.lt
  go_wp2_with fail
  refine Calls.mono (says_c 1 3 1 2 1 0 5 mainB _ ex_c (by decide) _ (HE.out.on hc)) ?_
  rintro e W13 ⟨rfl, hn⟩
  clear yr1 zr1 yr2 zr2 yr3 zr3 yr4 zr4 yr5 zr5
  replace r1 := r1.on hn
  replace r2 := r2.on hn
  replace r3 := r3.on hn
  replace r4 := r4.on hn
  replace r5 := r5.on hn
  replace hc := chain hc hn
  clear hn
  have yr1 := r1.cell
  have zr1 := r1.lt
  have yr2 := r2.cell
  have zr2 := r2.lt
  have yr3 := r3.cell
  have zr3 := r3.lt
  have yr4 := r4.cell
  have zr4 := r4.lt
  have yr5 := r5.cell
  have zr5 := r5.lt
  go_wp2_with fail
  refine Calls.mono (says_c 1 3 1 2 1 1 15 mainB _ ex_l (by decide) _ (HE.out.on hc)) ?_
  rintro e W14 ⟨rfl, hn⟩
  clear yr1 zr1 yr2 zr2 yr3 zr3 yr4 zr4 yr5 zr5
  replace r1 := r1.on hn
  replace r2 := r2.on hn
  replace r3 := r3.on hn
  replace r4 := r4.on hn
  replace r5 := r5.on hn
  replace hc := chain hc hn
  clear hn
  have yr1 := r1.cell
  have zr1 := r1.lt
  have yr2 := r2.cell
  have zr2 := r2.lt
  have yr3 := r3.cell
  have zr3 := r3.lt
  have yr4 := r4.cell
  have zr4 := r4.lt
  have yr5 := r5.cell
  have zr5 := r5.lt
  go_wp2_with fail
  refine Calls.mono (says_c 1 3 1 3 1 1 0 mainB _ ex_ok (by decide) _ (HE.out.on hc)) ?_
  rintro e W15 ⟨rfl, hn⟩
  clear yr1 zr1 yr2 zr2 yr3 zr3 yr4 zr4 yr5 zr5
  replace r1 := r1.on hn
  replace r2 := r2.on hn
  replace r3 := r3.on hn
  replace r4 := r4.on hn
  replace r5 := r5.on hn
  replace hc := chain hc hn
  clear hn
  have yr1 := r1.cell
  have zr1 := r1.lt
  have yr2 := r2.cell
  have zr2 := r2.lt
  have yr3 := r3.cell
  have zr3 := r3.lt
  have yr4 := r4.cell
  have zr4 := r4.lt
  have yr5 := r5.cell
  have zr5 := r5.lt
  go_wp2_with fail
  refine Calls.mono (says_c 1 3 1 4 1 1 0 mainB _ ex_fail (by decide) _ (HE.out.on hc)) ?_
  rintro e W16 ⟨rfl, hn⟩
  clear yr1 zr1 yr2 zr2 yr3 zr3 yr4 zr4 yr5 zr5
  replace r1 := r1.on hn
  replace r2 := r2.on hn
  replace r3 := r3.on hn
  replace r4 := r4.on hn
  replace r5 := r5.on hn
  replace hc := chain hc hn
  clear hn
  have yr1 := r1.cell
  have zr1 := r1.lt
  have yr2 := r2.cell
  have zr2 := r2.lt
  have yr3 := r3.cell
  have zr3 := r3.lt
  have yr4 := r4.cell
  have zr4 := r4.lt
  have yr5 := r5.cell
  have zr5 := r5.lt
  go_wp2_with fail
  refine Calls.mono (E6.out _) ?_
  rintro e W17 ⟨rfl, hn⟩
  clear yr1 zr1 yr2 zr2 yr3 zr3 yr4 zr4 yr5 zr5
  replace r1 := r1.on hn
  replace r2 := r2.on hn
  replace r3 := r3.on hn
  replace r4 := r4.on hn
  replace r5 := r5.on hn
  replace hc := chain hc hn
  clear hn
  have yr1 := r1.cell
  have zr1 := r1.lt
  have yr2 := r2.cell
  have zr2 := r2.lt
  have yr3 := r3.cell
  have zr3 := r3.lt
  have yr4 := r4.cell
  have zr4 := r4.lt
  have yr5 := r5.cell
  have zr5 := r5.lt
  go_wp2_with fail
  refine Calls.mono (E7.out _) ?_
  rintro e W18 ⟨rfl, hn⟩
  clear yr1 zr1 yr2 zr2 yr3 zr3 yr4 zr4 yr5 zr5
  replace r1 := r1.on hn
  replace r2 := r2.on hn
  replace r3 := r3.on hn
  replace r4 := r4.on hn
  replace r5 := r5.on hn
  replace hc := chain hc hn
  clear hn
  have yr1 := r1.cell
  have zr1 := r1.lt
  have yr2 := r2.cell
  have zr2 := r2.lt
  have yr3 := r3.cell
  have zr3 := r3.lt
  have yr4 := r4.cell
  have zr4 := r4.lt
  have yr5 := r5.cell
  have zr5 := r5.lt
  go_wp2_with fail
  refine Calls.mono (E8.out _) ?_
  rintro e W19 ⟨rfl, hn⟩
  clear yr1 zr1 yr2 zr2 yr3 zr3 yr4 zr4 yr5 zr5
  replace r1 := r1.on hn
  replace r2 := r2.on hn
  replace r3 := r3.on hn
  replace r4 := r4.on hn
  replace r5 := r5.on hn
  replace hc := chain hc hn
  clear hn
  have yr1 := r1.cell
  have zr1 := r1.lt
  have yr2 := r2.cell
  have zr2 := r2.lt
  have yr3 := r3.cell
  have zr3 := r3.lt
  have yr4 := r4.cell
  have zr4 := r4.lt
  have yr5 := r5.cell
  have zr5 := r5.lt
  go_wp2_with fail
  refine Calls.mono (E9.out _) ?_
  rintro e W20 ⟨rfl, hn⟩
  clear yr1 zr1 yr2 zr2 yr3 zr3 yr4 zr4 yr5 zr5
  replace r1 := r1.on hn
  replace r2 := r2.on hn
  replace r3 := r3.on hn
  replace r4 := r4.on hn
  replace r5 := r5.on hn
  replace hc := chain hc hn
  clear hn
  have yr1 := r1.cell
  have zr1 := r1.lt
  have yr2 := r2.cell
  have zr2 := r2.lt
  have yr3 := r3.cell
  have zr3 := r3.lt
  have yr4 := r4.cell
  have zr4 := r4.lt
  have yr5 := r5.cell
  have zr5 := r5.lt
  go_wp2_with fail
  refine Calls.mono (E10.out _) ?_
  rintro e W21 ⟨rfl, hn⟩
  clear yr1 zr1 yr2 zr2 yr3 zr3 yr4 zr4 yr5 zr5
  replace r1 := r1.on hn
  replace r2 := r2.on hn
  replace r3 := r3.on hn
  replace r4 := r4.on hn
  replace r5 := r5.on hn
  replace hc := chain hc hn
  clear hn
  go_wp2_with fail
  go_returns
  exact ⟨rfl, hc⟩
end Go.Proofs.YtgckfiadnmjonabGreatDoor

/- The statements' helpers tag and start: their contracts. -/
namespace Go.Proofs.YtgckfiadnmjonabGreatDoor
open Go.RowKit
set_option linter.unusedVariables false
set_option linter.unusedSimpArgs false
set_option maxHeartbeats 16000000
set_option maxRecDepth 20000
def tagS (n : Int) : ByteArray := if n % 6 = 0 then ⟨#[97]⟩ else if n % 6 = 1 then ⟨#[109, 97, 105, 110]⟩ else if n % 6 = 2 then ⟨#[120, 32, 121]⟩ else if n % 6 = 3 then ⟨#[34, 92]⟩ else if n % 6 = 4 then ⟨#[195, 169, 228, 184, 173]⟩ else ⟨#[45]⟩
theorem tagS_ok (n : Int) : tagOk (tagS n).data.toList = true := by
  unfold tagS
  repeat' split
  all_goals decide
theorem tagS_size (n : Int) : (tagS n).size ≤ 5 := by
  unfold tagS
  repeat' split
  all_goals decide
theorem tag_c (n : Int) (h0 : 0 ≤ n) (h1 : n ≤ 255) (w : World) : Ret 17 #[.int .u8 n] w (.string (tagS n)) := by
  have hm : n % 6 = 0 ∨ n % 6 = 1 ∨ n % 6 = 2 ∨ n % 6 = 3 ∨ n % 6 = 4 ∨ n % 6 = 5 := by omega
  have ht : n.tmod 6 = n % 6 := Int.tmod_eq_emod_of_nonneg h0
  unfold tagS
  rcases hm with h | h | h | h | h | h <;> rw [h] at ht ⊢
  all_goals
    go_enter Tryz.func17, Tryz.ntmps17
    go_wp2_with fail
    go_returns
    exact ⟨rfl, by go_grown⟩
def sK (kind : Int) : Int := 1 + kind % 3
def sI (id : Int) : Int := id % 64
def sG (gen : Int) : Int := max gen 1
theorem start_ok (k i g name : Int) (h : dOk 64 k i g = true) : rErr k i g 1 0 0 0 (tagS name) = 0 := by
  unfold rErr tagErr
  rw [pOk_1 h, tagS_ok]
  rfl
theorem oeq_O (k i g : Int) : ∀ W, (binOp .eql 25 (dV k i g) (dV k i g)).run Tryz.prog W = .ok (.bool true) W := by
  intro W
  go_simp
theorem start_c (kind id name gen : Int) (k0 : 0 ≤ kind) (k1 : kind ≤ 255) (i0 : 0 ≤ id) (i1 : id ≤ 255) (n0 : 0 ≤ name) (n1 : name ≤ 255) (g0 : 0 ≤ gen) (g1 : gen ≤ 4294967295) (w : World) :
    Ret 6 #[.int .u8 kind, .int .u8 id, .int .u8 name, .int .u32 gen] w (.tuple #[rV (sK kind) (sI id) (sG gen) 1 0 0 0 (tagS name), .bool true]) := by
  have e1 : kind.tmod 3 = kind % 3 := Int.tmod_eq_emod_of_nonneg k0
  have e2 : id.tmod 64 = id % 64 := Int.tmod_eq_emod_of_nonneg i0
  have hd : dOk 64 (1 + kind % 3) (id % 64) (max gen 1) = true := by
    rw [dOk_iff]; omega
  have c1 := fun w => tag_c name n0 n1 w
  have hsz := tagS_size name
  have c2 := fun w => new_c (1 + kind % 3) (id % 64) (max gen 1) (tagS name) w (by omega) (by omega) (by omega)
  rw [show newV (1 + kind % 3) (id % 64) (max gen 1) (tagS name) = .tuple #[rV (1 + kind % 3) (id % 64) (max gen 1) 1 0 0 0 (tagS name), .int .i64 0] by unfold newV; rw [if_pos (start_ok _ _ _ name hd)]] at c2
  have C1 := Lib.hid c1
  have C2 := Lib.hid c2
  clear c1 c2
  have he := oeq_O (1 + kind % 3) (id % 64) (max gen 1)
  have hc := Below.refl w.heap.size w
  unfold sK sI sG
  have es := str_beq_same (tagS name)
  go_enter Tryz.func6, Tryz.ntmps6
  go_upto_region 1 with fail
  have r8 := Row.new (W := w) (cs := #[.int .i64 0, .int .i64 0, .int .u32 0, .int .i64 0, .int .i64 0, .int .i64 0, .int .i64 0, .string ⟨#[]⟩]) (t := 27)
  have hn := below_alloc w (.cells #[.int .i64 0, .int .i64 0, .int .u32 0, .int .i64 0, .int .i64 0, .int .i64 0, .int .i64 0, .string ⟨#[]⟩] 27)
  have wr8 : w.heap.size ≤ w.heap.size := hc.size
  replace hc := chain hc hn
  clear hn
  generalize w.alloc (.cells #[.int .i64 0, .int .i64 0, .int .u32 0, .int .i64 0, .int .i64 0, .int .i64 0, .int .i64 0, .string ⟨#[]⟩] 27) = V1 at r8 hc ⊢
  have z8 := r8.lt
  have zw : w.heap.size < V1.heap.size := r8.lt
  have yr8 := r8.cell
  have zr8 := r8.lt
  go_upto_region 2 with fail
  clear yr8 zr8
  have r10 := Row.new (W := V1) (cs := #[.int .i64 (1 + kind % 3), .int .i64 (id % 64), .int .u32 (max gen 1)]) (t := 25)
  have hn := below_alloc V1 (.cells #[.int .i64 (1 + kind % 3), .int .i64 (id % 64), .int .u32 (max gen 1)] 25)
  have nr8_r10 : w.heap.size ≠ V1.heap.size := Nat.ne_of_lt r8.lt
  have wr10 : w.heap.size ≤ V1.heap.size := hc.size
  replace r8 := r8.on hn
  replace hc := chain hc hn
  clear hn
  generalize V1.alloc (.cells #[.int .i64 (1 + kind % 3), .int .i64 (id % 64), .int .u32 (max gen 1)] 25) = V2 at r8 r10 hc ⊢
  generalize V1.heap.size = b10 at *
  clear e1 e2 hd
  generalize q1 : 1 + kind % 3 = kk at *
  generalize q2 : id % 64 = ii at *
  generalize q3 : max gen 1 = gg at *
  generalize q4 : tagS name = tt at *
  go_cut [11, 12] (fun v u wx => ∃ b, v = .pointer (some ⟨b, 0, none⟩) ∧ u = .int .i64 0 ∧ Row wx w.heap.size #[.int .i64 0, .int .i64 0, .int .u32 0, .int .i64 0, .int .i64 0, .int .i64 0, .int .i64 0, .string ⟨#[]⟩] 27 ∧ Row wx b10 #[.int .i64 kk, .int .i64 ii, .int .u32 gg] 25 ∧ Row wx b (rC kk ii gg 1 0 0 0 tt) 27 ∧ Below w.heap.size w wx ∧ w.heap.size ≠ b)
  case first =>
    refine wp_region_held_drew (S := fun W' => (∀ j, W'.cell? ⟨b10, j, none⟩ = #[.int .i64 kk, .int .i64 ii, .int .u32 gg][j]?)) (by kernel_rfl) r10.cell (fun hHeld => ?_)
    replace r8 := r8.drew
    replace r10 := r10.drew
    replace hc := hc.drew
    generalize V2.drew = V3 at *
    refine' wpAnyH_take (i := 0) (oi := _) (v := _) ?_ (by kernel_rfl) (by kernel_rfl) (by kernel_rfl) ?_ (Or.inl ⟨?_, ?_⟩) (by assumption) ?_
    rotate_left 2
    · (simp only [List.getElem?_toArray, List.getElem?_cons_succ, List.getElem?_cons_zero]; rfl)
    · first | exact fun _ _ _ h => h | exact fun _ _ _ h => nomatch h.1
    · rfl
    · (intro W hSW; (try dsimp only at hSW); go_split_ands; first | (go_simp; done) | (go_simp; with_reducible rfl))
    try simp only [Act.put, List.setIfInBounds_toArray, List.set_cons_zero, List.set_cons_succ]
    refine' wpAnyH_take (i := 1) (oi := _) (v := _) ?_ (by kernel_rfl) (by kernel_rfl) (by kernel_rfl) ?_ (Or.inl ⟨?_, ?_⟩) (by assumption) ?_
    rotate_left 2
    · (simp only [List.getElem?_toArray, List.getElem?_cons_succ, List.getElem?_cons_zero]; rfl)
    · first | exact fun _ _ _ h => h | exact fun _ _ _ h => nomatch h.1
    · rfl
    · (intro W hSW; (try dsimp only at hSW); go_split_ands; first | (go_simp; done) | (go_simp; with_reducible rfl))
    try simp only [Act.put, List.setIfInBounds_toArray, List.set_cons_zero, List.set_cons_succ]
    clear hHeld
    refine wpAnyH_ready (rs := [2, 7]) (by kernel_rfl) (by simp) ?_
    refine' AllReadyH.cons (o := _) (by simp only [List.getElem?_toArray, List.getElem?_cons_succ, List.getElem?_cons_zero]; rfl) (fun K hK => ?_) (AllReadyH.cons (o := _) (by simp only [List.getElem?_toArray, List.getElem?_cons_succ, List.getElem?_cons_zero]; rfl) (fun K hK => ?_) AllReadyH.nil)
    · go_simp
      refine Calls.mono (C1.out _) ?_
      rintro e V4 ⟨rfl, hn⟩
      replace r8 := r8.on hn
      replace r10 := r10.on hn
      replace hc := chain hc hn
      clear hn
      go_simp
      refine hK.out _ _ r10.cell (fun hHeld => ?_)
      clear hK K
      clear hHeld
      refine wpAnyH_ready (rs := [3, 7]) (by kernel_rfl) (by simp) ?_
      refine' AllReadyH.cons (o := _) (by simp only [List.getElem?_toArray, List.getElem?_cons_succ, List.getElem?_cons_zero]; rfl) (fun K hK => ?_) (AllReadyH.cons (o := _) (by simp only [List.getElem?_toArray, List.getElem?_cons_succ, List.getElem?_cons_zero]; rfl) (fun K hK => ?_) AllReadyH.nil)
      · go_simp
        refine Calls.mono (C2.out _) ?_
        rintro e V5 ⟨rfl, hn⟩
        replace r8 := r8.on hn
        replace r10 := r10.on hn
        replace hc := chain hc hn
        clear hn
        go_simp
        refine hK.out _ _ r10.cell (fun hHeld => ?_)
        clear hK K
        refine' wpAnyH_take (i := 4) (oi := _) (v := _) ?_ (by kernel_rfl) (by kernel_rfl) (by kernel_rfl) ?_ (Or.inl ⟨?_, ?_⟩) (by assumption) ?_
        rotate_left 2
        · (simp only [List.getElem?_toArray, List.getElem?_cons_succ, List.getElem?_cons_zero]; rfl)
        · first | exact fun _ _ _ h => h | exact fun _ _ _ h => nomatch h.1
        · rfl
        · (intro W hSW; (try dsimp only at hSW); go_split_ands; first | (go_simp; done) | (go_simp; with_reducible rfl))
        try simp only [Act.put, List.setIfInBounds_toArray, List.set_cons_zero, List.set_cons_succ]
        refine' wpAnyH_take (i := 5) (oi := _) (v := _) ?_ (by kernel_rfl) (by kernel_rfl) (by kernel_rfl) ?_ (Or.inl ⟨?_, ?_⟩) (by assumption) ?_
        rotate_left 2
        · (simp only [List.getElem?_toArray, List.getElem?_cons_succ, List.getElem?_cons_zero]; rfl)
        · first | exact fun _ _ _ h => h | exact fun _ _ _ h => nomatch h.1
        · rfl
        · (intro W hSW; (try dsimp only at hSW); go_split_ands; first | (go_simp; done) | (go_simp; with_reducible rfl))
        try simp only [Act.put, List.setIfInBounds_toArray, List.set_cons_zero, List.set_cons_succ]
        refine' wpAnyH_take (i := 6) (oi := _) (v := _) ?_ (by kernel_rfl) (by kernel_rfl) (by kernel_rfl) ?_ (Or.inl ⟨?_, ?_⟩) (by assumption) ?_
        rotate_left 2
        · (simp only [List.getElem?_toArray, List.getElem?_cons_succ, List.getElem?_cons_zero]; rfl)
        · first | exact fun _ _ _ h => h | exact fun _ _ _ h => nomatch h.1
        · rfl
        · (intro W hSW; (try dsimp only at hSW); go_split_ands; first | (go_simp; done) | (go_simp; with_reducible rfl))
        try simp only [Act.put, List.setIfInBounds_toArray, List.set_cons_zero, List.set_cons_succ]
        clear hHeld
        refine wpAnyH_ready (rs := [7]) (by kernel_rfl) (by simp) ?_
        refine' AllReadyH.cons (o := _) ?_ (fun K hK => ?_) AllReadyH.nil
        rotate_left 1
        · (simp only [List.getElem?_toArray, List.getElem?_cons_succ, List.getElem?_cons_zero]; rfl)
        go_simp
        have r11 := Row.new (W := V5) (cs := #[.int .i64 0, .int .i64 0, .int .u32 0, .int .i64 0, .int .i64 0, .int .i64 0, .int .i64 0, .string ⟨#[]⟩]) (t := 27)
        have hn := below_alloc V5 (.cells #[.int .i64 0, .int .i64 0, .int .u32 0, .int .i64 0, .int .i64 0, .int .i64 0, .int .i64 0, .string ⟨#[]⟩] 27)
        have nr8_r11 : w.heap.size ≠ V5.heap.size := Nat.ne_of_lt r8.lt
        have nr10_r11 : b10 ≠ V5.heap.size := Nat.ne_of_lt r10.lt
        have wr11 : w.heap.size ≤ V5.heap.size := hc.size
        replace r8 := r8.on hn
        replace r10 := r10.on hn
        replace hc := chain hc hn
        clear hn
        generalize V5.alloc (.cells #[.int .i64 0, .int .i64 0, .int .u32 0, .int .i64 0, .int .i64 0, .int .i64 0, .int .i64 0, .string ⟨#[]⟩] 27) = V6 at r8 r10 r11 hc ⊢
        generalize V5.heap.size = b11 at *
        refine hK.out _ _ r10.cell (fun hHeld => ?_)
        clear hK K
        clear hHeld
        have yr11 := r11.cell
        have zr11 := r11.lt
        have ur11 := r11.free
        refine wpAnyH_ready (rs := [8]) (by kernel_rfl) (by simp) ?_
        refine' AllReadyH.cons (o := _) ?_ (fun K hK => ?_) AllReadyH.nil
        rotate_left 1
        · (simp only [List.getElem?_toArray, List.getElem?_cons_succ, List.getElem?_cons_zero]; rfl)
        go_simp
        clear yr11 zr11 ur11
        replace r8 := ((((((((r8.other nr8_r11.symm 0 (.int .i64 kk)).other nr8_r11.symm 1 (.int .i64 ii)).other nr8_r11.symm 2 (.int .u32 gg)).other nr8_r11.symm 3 (.int .i64 1)).other nr8_r11.symm 4 (.int .i64 0)).other nr8_r11.symm 5 (.int .i64 0)).other nr8_r11.symm 6 (.int .i64 0)).other nr8_r11.symm 7 (.string tt))
        replace r10 := ((((((((r10.other nr10_r11.symm 0 (.int .i64 kk)).other nr10_r11.symm 1 (.int .i64 ii)).other nr10_r11.symm 2 (.int .u32 gg)).other nr10_r11.symm 3 (.int .i64 1)).other nr10_r11.symm 4 (.int .i64 0)).other nr10_r11.symm 5 (.int .i64 0)).other nr10_r11.symm 6 (.int .i64 0)).other nr10_r11.symm 7 (.string tt))
        replace r11 := ((((((((r11.set 0 (.int .i64 kk)).set 1 (.int .i64 ii)).set 2 (.int .u32 gg)).set 3 (.int .i64 1)).set 4 (.int .i64 0)).set 5 (.int .i64 0)).set 6 (.int .i64 0)).set 7 (.string tt))
        simp only [List.setIfInBounds_toArray, List.set_cons_zero, List.set_cons_succ] at r11
        replace hc := ((((((((hc.setCell (p := ⟨b11, 0, none⟩) wr11 (.int .i64 kk)).setCell (p := ⟨b11, 1, none⟩) wr11 (.int .i64 ii)).setCell (p := ⟨b11, 2, none⟩) wr11 (.int .u32 gg)).setCell (p := ⟨b11, 3, none⟩) wr11 (.int .i64 1)).setCell (p := ⟨b11, 4, none⟩) wr11 (.int .i64 0)).setCell (p := ⟨b11, 5, none⟩) wr11 (.int .i64 0)).setCell (p := ⟨b11, 6, none⟩) wr11 (.int .i64 0)).setCell (p := ⟨b11, 7, none⟩) wr11 (.string tt))
        generalize hW : World.setCell _ _ _ = V7 at *
        clear hW
        refine hK.out _ _ r10.cell (fun hHeld => ?_)
        clear hK K
        refine' wpAnyH_take (i := 9) (oi := _) (v := _) ?_ (by kernel_rfl) (by kernel_rfl) (by kernel_rfl) ?_ (Or.inl ⟨?_, ?_⟩) (by assumption) ?_
        rotate_left 2
        · (simp only [List.getElem?_toArray, List.getElem?_cons_succ, List.getElem?_cons_zero]; rfl)
        · first | exact fun _ _ _ h => h | exact fun _ _ _ h => nomatch h.1
        · rfl
        · (intro W hSW; (try dsimp only at hSW); go_split_ands; first | (go_simp; done) | (go_simp; with_reducible rfl))
        try simp only [Act.put, List.setIfInBounds_toArray, List.set_cons_zero, List.set_cons_succ]
        clear hHeld
        refine wpAnyH_done (by kernel_rfl) ?_ _
        go_wp2_with fail
        go_meet
        exact ⟨_, rfl, by first | rfl | simp, r8, r10, r11, hc, nr8_r11⟩
      · go_simp
        have r11 := Row.new (W := V4) (cs := #[.int .i64 0, .int .i64 0, .int .u32 0, .int .i64 0, .int .i64 0, .int .i64 0, .int .i64 0, .string ⟨#[]⟩]) (t := 27)
        have hn := below_alloc V4 (.cells #[.int .i64 0, .int .i64 0, .int .u32 0, .int .i64 0, .int .i64 0, .int .i64 0, .int .i64 0, .string ⟨#[]⟩] 27)
        have nr8_r11 : w.heap.size ≠ V4.heap.size := Nat.ne_of_lt r8.lt
        have nr10_r11 : b10 ≠ V4.heap.size := Nat.ne_of_lt r10.lt
        have wr11 : w.heap.size ≤ V4.heap.size := hc.size
        replace r8 := r8.on hn
        replace r10 := r10.on hn
        replace hc := chain hc hn
        clear hn
        generalize V4.alloc (.cells #[.int .i64 0, .int .i64 0, .int .u32 0, .int .i64 0, .int .i64 0, .int .i64 0, .int .i64 0, .string ⟨#[]⟩] 27) = V5 at r8 r10 r11 hc ⊢
        generalize V4.heap.size = b11 at *
        refine hK.out _ _ r10.cell (fun hHeld => ?_)
        clear hK K
        clear hHeld
        refine wpAnyH_ready (rs := [3]) (by kernel_rfl) (by simp) ?_
        refine' AllReadyH.cons (o := _) ?_ (fun K hK => ?_) AllReadyH.nil
        rotate_left 1
        · (simp only [List.getElem?_toArray, List.getElem?_cons_succ, List.getElem?_cons_zero]; rfl)
        go_simp
        refine Calls.mono (C2.out _) ?_
        rintro e V6 ⟨rfl, hn⟩
        replace r8 := r8.on hn
        replace r10 := r10.on hn
        replace r11 := r11.on hn
        replace hc := chain hc hn
        clear hn
        go_simp
        refine hK.out _ _ r10.cell (fun hHeld => ?_)
        clear hK K
        refine' wpAnyH_take (i := 4) (oi := _) (v := _) ?_ (by kernel_rfl) (by kernel_rfl) (by kernel_rfl) ?_ (Or.inl ⟨?_, ?_⟩) (by assumption) ?_
        rotate_left 2
        · (simp only [List.getElem?_toArray, List.getElem?_cons_succ, List.getElem?_cons_zero]; rfl)
        · first | exact fun _ _ _ h => h | exact fun _ _ _ h => nomatch h.1
        · rfl
        · (intro W hSW; (try dsimp only at hSW); go_split_ands; first | (go_simp; done) | (go_simp; with_reducible rfl))
        try simp only [Act.put, List.setIfInBounds_toArray, List.set_cons_zero, List.set_cons_succ]
        refine' wpAnyH_take (i := 5) (oi := _) (v := _) ?_ (by kernel_rfl) (by kernel_rfl) (by kernel_rfl) ?_ (Or.inl ⟨?_, ?_⟩) (by assumption) ?_
        rotate_left 2
        · (simp only [List.getElem?_toArray, List.getElem?_cons_succ, List.getElem?_cons_zero]; rfl)
        · first | exact fun _ _ _ h => h | exact fun _ _ _ h => nomatch h.1
        · rfl
        · (intro W hSW; (try dsimp only at hSW); go_split_ands; first | (go_simp; done) | (go_simp; with_reducible rfl))
        try simp only [Act.put, List.setIfInBounds_toArray, List.set_cons_zero, List.set_cons_succ]
        refine' wpAnyH_take (i := 6) (oi := _) (v := _) ?_ (by kernel_rfl) (by kernel_rfl) (by kernel_rfl) ?_ (Or.inl ⟨?_, ?_⟩) (by assumption) ?_
        rotate_left 2
        · (simp only [List.getElem?_toArray, List.getElem?_cons_succ, List.getElem?_cons_zero]; rfl)
        · first | exact fun _ _ _ h => h | exact fun _ _ _ h => nomatch h.1
        · rfl
        · (intro W hSW; (try dsimp only at hSW); go_split_ands; first | (go_simp; done) | (go_simp; with_reducible rfl))
        try simp only [Act.put, List.setIfInBounds_toArray, List.set_cons_zero, List.set_cons_succ]
        clear hHeld
        have yr11 := r11.cell
        have zr11 := r11.lt
        have ur11 := r11.free
        refine wpAnyH_ready (rs := [8]) (by kernel_rfl) (by simp) ?_
        refine' AllReadyH.cons (o := _) ?_ (fun K hK => ?_) AllReadyH.nil
        rotate_left 1
        · (simp only [List.getElem?_toArray, List.getElem?_cons_succ, List.getElem?_cons_zero]; rfl)
        go_simp
        clear yr11 zr11 ur11
        replace r8 := ((((((((r8.other nr8_r11.symm 0 (.int .i64 kk)).other nr8_r11.symm 1 (.int .i64 ii)).other nr8_r11.symm 2 (.int .u32 gg)).other nr8_r11.symm 3 (.int .i64 1)).other nr8_r11.symm 4 (.int .i64 0)).other nr8_r11.symm 5 (.int .i64 0)).other nr8_r11.symm 6 (.int .i64 0)).other nr8_r11.symm 7 (.string tt))
        replace r10 := ((((((((r10.other nr10_r11.symm 0 (.int .i64 kk)).other nr10_r11.symm 1 (.int .i64 ii)).other nr10_r11.symm 2 (.int .u32 gg)).other nr10_r11.symm 3 (.int .i64 1)).other nr10_r11.symm 4 (.int .i64 0)).other nr10_r11.symm 5 (.int .i64 0)).other nr10_r11.symm 6 (.int .i64 0)).other nr10_r11.symm 7 (.string tt))
        replace r11 := ((((((((r11.set 0 (.int .i64 kk)).set 1 (.int .i64 ii)).set 2 (.int .u32 gg)).set 3 (.int .i64 1)).set 4 (.int .i64 0)).set 5 (.int .i64 0)).set 6 (.int .i64 0)).set 7 (.string tt))
        simp only [List.setIfInBounds_toArray, List.set_cons_zero, List.set_cons_succ] at r11
        replace hc := ((((((((hc.setCell (p := ⟨b11, 0, none⟩) wr11 (.int .i64 kk)).setCell (p := ⟨b11, 1, none⟩) wr11 (.int .i64 ii)).setCell (p := ⟨b11, 2, none⟩) wr11 (.int .u32 gg)).setCell (p := ⟨b11, 3, none⟩) wr11 (.int .i64 1)).setCell (p := ⟨b11, 4, none⟩) wr11 (.int .i64 0)).setCell (p := ⟨b11, 5, none⟩) wr11 (.int .i64 0)).setCell (p := ⟨b11, 6, none⟩) wr11 (.int .i64 0)).setCell (p := ⟨b11, 7, none⟩) wr11 (.string tt))
        generalize hW : World.setCell _ _ _ = V7 at *
        clear hW
        refine hK.out _ _ r10.cell (fun hHeld => ?_)
        clear hK K
        refine' wpAnyH_take (i := 9) (oi := _) (v := _) ?_ (by kernel_rfl) (by kernel_rfl) (by kernel_rfl) ?_ (Or.inl ⟨?_, ?_⟩) (by assumption) ?_
        rotate_left 2
        · (simp only [List.getElem?_toArray, List.getElem?_cons_succ, List.getElem?_cons_zero]; rfl)
        · first | exact fun _ _ _ h => h | exact fun _ _ _ h => nomatch h.1
        · rfl
        · (intro W hSW; (try dsimp only at hSW); go_split_ands; first | (go_simp; done) | (go_simp; with_reducible rfl))
        try simp only [Act.put, List.setIfInBounds_toArray, List.set_cons_zero, List.set_cons_succ]
        clear hHeld
        refine wpAnyH_done (by kernel_rfl) ?_ _
        go_wp2_with fail
        go_meet
        exact ⟨_, rfl, by first | rfl | simp, r8, r10, r11, hc, nr8_r11⟩
    · go_simp
      have r11 := Row.new (W := V3) (cs := #[.int .i64 0, .int .i64 0, .int .u32 0, .int .i64 0, .int .i64 0, .int .i64 0, .int .i64 0, .string ⟨#[]⟩]) (t := 27)
      have hn := below_alloc V3 (.cells #[.int .i64 0, .int .i64 0, .int .u32 0, .int .i64 0, .int .i64 0, .int .i64 0, .int .i64 0, .string ⟨#[]⟩] 27)
      have nr8_r11 : w.heap.size ≠ V3.heap.size := Nat.ne_of_lt r8.lt
      have nr10_r11 : b10 ≠ V3.heap.size := Nat.ne_of_lt r10.lt
      have wr11 : w.heap.size ≤ V3.heap.size := hc.size
      replace r8 := r8.on hn
      replace r10 := r10.on hn
      replace hc := chain hc hn
      clear hn
      generalize V3.alloc (.cells #[.int .i64 0, .int .i64 0, .int .u32 0, .int .i64 0, .int .i64 0, .int .i64 0, .int .i64 0, .string ⟨#[]⟩] 27) = V4 at r8 r10 r11 hc ⊢
      generalize V3.heap.size = b11 at *
      refine hK.out _ _ r10.cell (fun hHeld => ?_)
      clear hK K
      clear hHeld
      refine wpAnyH_ready (rs := [2]) (by kernel_rfl) (by simp) ?_
      refine' AllReadyH.cons (o := _) ?_ (fun K hK => ?_) AllReadyH.nil
      rotate_left 1
      · (simp only [List.getElem?_toArray, List.getElem?_cons_succ, List.getElem?_cons_zero]; rfl)
      go_simp
      refine Calls.mono (C1.out _) ?_
      rintro e V5 ⟨rfl, hn⟩
      replace r8 := r8.on hn
      replace r10 := r10.on hn
      replace r11 := r11.on hn
      replace hc := chain hc hn
      clear hn
      go_simp
      refine hK.out _ _ r10.cell (fun hHeld => ?_)
      clear hK K
      clear hHeld
      refine wpAnyH_ready (rs := [3]) (by kernel_rfl) (by simp) ?_
      refine' AllReadyH.cons (o := _) ?_ (fun K hK => ?_) AllReadyH.nil
      rotate_left 1
      · (simp only [List.getElem?_toArray, List.getElem?_cons_succ, List.getElem?_cons_zero]; rfl)
      go_simp
      refine Calls.mono (C2.out _) ?_
      rintro e V6 ⟨rfl, hn⟩
      replace r8 := r8.on hn
      replace r10 := r10.on hn
      replace r11 := r11.on hn
      replace hc := chain hc hn
      clear hn
      go_simp
      refine hK.out _ _ r10.cell (fun hHeld => ?_)
      clear hK K
      refine' wpAnyH_take (i := 4) (oi := _) (v := _) ?_ (by kernel_rfl) (by kernel_rfl) (by kernel_rfl) ?_ (Or.inl ⟨?_, ?_⟩) (by assumption) ?_
      rotate_left 2
      · (simp only [List.getElem?_toArray, List.getElem?_cons_succ, List.getElem?_cons_zero]; rfl)
      · first | exact fun _ _ _ h => h | exact fun _ _ _ h => nomatch h.1
      · rfl
      · (intro W hSW; (try dsimp only at hSW); go_split_ands; first | (go_simp; done) | (go_simp; with_reducible rfl))
      try simp only [Act.put, List.setIfInBounds_toArray, List.set_cons_zero, List.set_cons_succ]
      refine' wpAnyH_take (i := 5) (oi := _) (v := _) ?_ (by kernel_rfl) (by kernel_rfl) (by kernel_rfl) ?_ (Or.inl ⟨?_, ?_⟩) (by assumption) ?_
      rotate_left 2
      · (simp only [List.getElem?_toArray, List.getElem?_cons_succ, List.getElem?_cons_zero]; rfl)
      · first | exact fun _ _ _ h => h | exact fun _ _ _ h => nomatch h.1
      · rfl
      · (intro W hSW; (try dsimp only at hSW); go_split_ands; first | (go_simp; done) | (go_simp; with_reducible rfl))
      try simp only [Act.put, List.setIfInBounds_toArray, List.set_cons_zero, List.set_cons_succ]
      refine' wpAnyH_take (i := 6) (oi := _) (v := _) ?_ (by kernel_rfl) (by kernel_rfl) (by kernel_rfl) ?_ (Or.inl ⟨?_, ?_⟩) (by assumption) ?_
      rotate_left 2
      · (simp only [List.getElem?_toArray, List.getElem?_cons_succ, List.getElem?_cons_zero]; rfl)
      · first | exact fun _ _ _ h => h | exact fun _ _ _ h => nomatch h.1
      · rfl
      · (intro W hSW; (try dsimp only at hSW); go_split_ands; first | (go_simp; done) | (go_simp; with_reducible rfl))
      try simp only [Act.put, List.setIfInBounds_toArray, List.set_cons_zero, List.set_cons_succ]
      clear hHeld
      have yr11 := r11.cell
      have zr11 := r11.lt
      have ur11 := r11.free
      refine wpAnyH_ready (rs := [8]) (by kernel_rfl) (by simp) ?_
      refine' AllReadyH.cons (o := _) ?_ (fun K hK => ?_) AllReadyH.nil
      rotate_left 1
      · (simp only [List.getElem?_toArray, List.getElem?_cons_succ, List.getElem?_cons_zero]; rfl)
      go_simp
      clear yr11 zr11 ur11
      replace r8 := ((((((((r8.other nr8_r11.symm 0 (.int .i64 kk)).other nr8_r11.symm 1 (.int .i64 ii)).other nr8_r11.symm 2 (.int .u32 gg)).other nr8_r11.symm 3 (.int .i64 1)).other nr8_r11.symm 4 (.int .i64 0)).other nr8_r11.symm 5 (.int .i64 0)).other nr8_r11.symm 6 (.int .i64 0)).other nr8_r11.symm 7 (.string tt))
      replace r10 := ((((((((r10.other nr10_r11.symm 0 (.int .i64 kk)).other nr10_r11.symm 1 (.int .i64 ii)).other nr10_r11.symm 2 (.int .u32 gg)).other nr10_r11.symm 3 (.int .i64 1)).other nr10_r11.symm 4 (.int .i64 0)).other nr10_r11.symm 5 (.int .i64 0)).other nr10_r11.symm 6 (.int .i64 0)).other nr10_r11.symm 7 (.string tt))
      replace r11 := ((((((((r11.set 0 (.int .i64 kk)).set 1 (.int .i64 ii)).set 2 (.int .u32 gg)).set 3 (.int .i64 1)).set 4 (.int .i64 0)).set 5 (.int .i64 0)).set 6 (.int .i64 0)).set 7 (.string tt))
      simp only [List.setIfInBounds_toArray, List.set_cons_zero, List.set_cons_succ] at r11
      replace hc := ((((((((hc.setCell (p := ⟨b11, 0, none⟩) wr11 (.int .i64 kk)).setCell (p := ⟨b11, 1, none⟩) wr11 (.int .i64 ii)).setCell (p := ⟨b11, 2, none⟩) wr11 (.int .u32 gg)).setCell (p := ⟨b11, 3, none⟩) wr11 (.int .i64 1)).setCell (p := ⟨b11, 4, none⟩) wr11 (.int .i64 0)).setCell (p := ⟨b11, 5, none⟩) wr11 (.int .i64 0)).setCell (p := ⟨b11, 6, none⟩) wr11 (.int .i64 0)).setCell (p := ⟨b11, 7, none⟩) wr11 (.string tt))
      generalize hW : World.setCell _ _ _ = V7 at *
      clear hW
      refine hK.out _ _ r10.cell (fun hHeld => ?_)
      clear hK K
      refine' wpAnyH_take (i := 9) (oi := _) (v := _) ?_ (by kernel_rfl) (by kernel_rfl) (by kernel_rfl) ?_ (Or.inl ⟨?_, ?_⟩) (by assumption) ?_
      rotate_left 2
      · (simp only [List.getElem?_toArray, List.getElem?_cons_succ, List.getElem?_cons_zero]; rfl)
      · first | exact fun _ _ _ h => h | exact fun _ _ _ h => nomatch h.1
      · rfl
      · (intro W hSW; (try dsimp only at hSW); go_split_ands; first | (go_simp; done) | (go_simp; with_reducible rfl))
      try simp only [Act.put, List.setIfInBounds_toArray, List.set_cons_zero, List.set_cons_succ]
      clear hHeld
      refine wpAnyH_done (by kernel_rfl) ?_ _
      go_wp2_with fail
      go_meet
      exact ⟨_, rfl, by first | rfl | simp, r8, r10, r11, hc, nr8_r11⟩
  obtain ⟨b11, rfl, rfl, r8, r10, r11, hc, nr8_r11⟩ := hcut
  have wr8 : w.heap.size ≤ w.heap.size := Nat.le_refl _
  go_upto_region 3 with fail
  refine wp_region_held_drew (S := fun W' => (∀ j, W'.cell? ⟨b10, j, none⟩ = #[.int .i64 kk, .int .i64 ii, .int .u32 gg][j]?) ∧ (∀ j, W'.cell? ⟨b11, j, none⟩ = (rC kk ii gg 1 0 0 0 tt)[j]?)) (by kernel_rfl) ⟨r10.cell, r11.cell⟩ (fun hHeld => ?_)
  replace r8 := r8.drew
  replace r10 := r10.drew
  replace r11 := r11.drew
  replace hc := hc.drew
  generalize wc.drew = V3 at *
  refine' wpAnyH_take (i := 0) (oi := _) (v := _) ?_ (by kernel_rfl) (by kernel_rfl) (by kernel_rfl) ?_ (Or.inl ⟨?_, ?_⟩) (by assumption) ?_
  rotate_left 2
  · (simp only [List.getElem?_toArray, List.getElem?_cons_succ, List.getElem?_cons_zero]; rfl)
  · first | exact fun _ _ _ h => h | exact fun _ _ _ h => nomatch h.1
  · rfl
  · (intro W hSW; (try dsimp only at hSW); go_split_ands; first | (go_simp; done) | (go_simp; with_reducible rfl))
  try simp only [Act.put, List.setIfInBounds_toArray, List.set_cons_zero, List.set_cons_succ]
  refine' wpAnyH_take (i := 1) (oi := _) (v := _) ?_ (by kernel_rfl) (by kernel_rfl) (by kernel_rfl) ?_ (Or.inl ⟨?_, ?_⟩) (by assumption) ?_
  rotate_left 2
  · (simp only [List.getElem?_toArray, List.getElem?_cons_succ, List.getElem?_cons_zero]; rfl)
  · first | exact fun _ _ _ h => h | exact fun _ _ _ h => nomatch h.1
  · rfl
  · (intro W hSW; (try dsimp only at hSW); go_split_ands; first | (go_simp; done) | (go_simp; with_reducible rfl))
  try simp only [Act.put, List.setIfInBounds_toArray, List.set_cons_zero, List.set_cons_succ]
  refine' wpAnyH_take (i := 2) (oi := _) (v := _) ?_ (by kernel_rfl) (by kernel_rfl) (by kernel_rfl) ?_ (Or.inl ⟨?_, ?_⟩) (by assumption) ?_
  rotate_left 2
  · (simp only [List.getElem?_toArray, List.getElem?_cons_succ, List.getElem?_cons_zero]; rfl)
  · first | exact fun _ _ _ h => h | exact fun _ _ _ h => nomatch h.1
  · rfl
  · (intro W hSW; (try dsimp only at hSW); go_split_ands; first | (go_simp; done) | (go_simp; with_reducible rfl))
  try simp only [Act.put, List.setIfInBounds_toArray, List.set_cons_zero, List.set_cons_succ]
  refine' wpAnyH_take (i := 3) (oi := _) (v := _) ?_ (by kernel_rfl) (by kernel_rfl) (by kernel_rfl) ?_ (Or.inl ⟨?_, ?_⟩) (by assumption) ?_
  rotate_left 2
  · (simp only [List.getElem?_toArray, List.getElem?_cons_succ, List.getElem?_cons_zero]; rfl)
  · first | exact fun _ _ _ h => h | exact fun _ _ _ h => nomatch h.1
  · rfl
  · (intro W hSW; (try dsimp only at hSW); go_split_ands; first | (go_simp; done) | (go_simp; with_reducible rfl))
  try simp only [Act.put, List.setIfInBounds_toArray, List.set_cons_zero, List.set_cons_succ]
  refine' wpAnyH_take (i := 4) (oi := _) (v := _) ?_ (by kernel_rfl) (by kernel_rfl) (by kernel_rfl) ?_ (Or.inl ⟨?_, ?_⟩) (by assumption) ?_
  rotate_left 2
  · (simp only [List.getElem?_toArray, List.getElem?_cons_succ, List.getElem?_cons_zero]; rfl)
  · first | exact fun _ _ _ h => h | exact fun _ _ _ h => nomatch h.1
  · rfl
  · (intro W hSW; (try dsimp only at hSW); go_split_ands; first | (go_simp; done) | (go_simp; with_reducible rfl))
  try simp only [Act.put, List.setIfInBounds_toArray, List.set_cons_zero, List.set_cons_succ]
  refine' wpAnyH_take (i := 5) (oi := _) (v := _) ?_ (by kernel_rfl) (by kernel_rfl) (by kernel_rfl) ?_ (Or.inl ⟨?_, ?_⟩) (by assumption) ?_
  rotate_left 2
  · (simp only [List.getElem?_toArray, List.getElem?_cons_succ, List.getElem?_cons_zero]; rfl)
  · first | exact fun _ _ _ h => h | exact fun _ _ _ h => nomatch h.1
  · rfl
  · (intro W hSW; (try dsimp only at hSW); go_split_ands; first | (go_simp; done) | (go_simp; with_reducible rfl))
  try simp only [Act.put, List.setIfInBounds_toArray, List.set_cons_zero, List.set_cons_succ]
  refine' wpAnyH_take (i := 6) (oi := _) (v := _) ?_ (by kernel_rfl) (by kernel_rfl) (by kernel_rfl) ?_ (Or.inl ⟨?_, ?_⟩) (by assumption) ?_
  rotate_left 2
  · (simp only [List.getElem?_toArray, List.getElem?_cons_succ, List.getElem?_cons_zero]; rfl)
  · first | exact fun _ _ _ h => h | exact fun _ _ _ h => nomatch h.1
  · rfl
  · (intro W hSW; (try dsimp only at hSW); go_split_ands; first | (go_simp; done) | (go_simp; with_reducible rfl))
  try simp only [Act.put, List.setIfInBounds_toArray, List.set_cons_zero, List.set_cons_succ]
  refine' wpAnyH_take (i := 7) (oi := _) (v := _) ?_ (by kernel_rfl) (by kernel_rfl) (by kernel_rfl) ?_ (Or.inl ⟨?_, ?_⟩) (by assumption) ?_
  rotate_left 2
  · (simp only [List.getElem?_toArray, List.getElem?_cons_succ, List.getElem?_cons_zero]; rfl)
  · first | exact fun _ _ _ h => h | exact fun _ _ _ h => nomatch h.1
  · rfl
  · (intro W hSW; (try dsimp only at hSW); go_split_ands; first | (go_simp; done) | (go_simp; with_reducible rfl))
  try simp only [Act.put, List.setIfInBounds_toArray, List.set_cons_zero, List.set_cons_succ]
  refine' wpAnyH_take (i := 8) (oi := _) (v := _) ?_ (by kernel_rfl) (by kernel_rfl) (by kernel_rfl) ?_ (Or.inl ⟨?_, ?_⟩) (by assumption) ?_
  rotate_left 2
  · (simp only [List.getElem?_toArray, List.getElem?_cons_succ, List.getElem?_cons_zero]; rfl)
  · first | exact fun _ _ _ h => h | exact fun _ _ _ h => nomatch h.1
  · rfl
  · (intro W hSW; (try dsimp only at hSW); go_split_ands; first | (go_simp; done) | (go_simp; with_reducible rfl))
  try simp only [Act.put, List.setIfInBounds_toArray, List.set_cons_zero, List.set_cons_succ]
  refine' wpAnyH_take (i := 9) (oi := _) (v := _) ?_ (by kernel_rfl) (by kernel_rfl) (by kernel_rfl) ?_ (Or.inl ⟨?_, ?_⟩) (by assumption) ?_
  rotate_left 2
  · (simp only [List.getElem?_toArray, List.getElem?_cons_succ, List.getElem?_cons_zero]; rfl)
  · first | exact fun _ _ _ h => h | exact fun _ _ _ h => nomatch h.1
  · rfl
  · (intro W hSW; (try dsimp only at hSW); go_split_ands; first | (go_simp; done) | (go_simp; with_reducible rfl))
  try simp only [Act.put, List.setIfInBounds_toArray, List.set_cons_zero, List.set_cons_succ]
  refine' wpAnyH_take (i := 10) (oi := _) (v := _) ?_ (by kernel_rfl) (by kernel_rfl) (by kernel_rfl) ?_ (Or.inl ⟨?_, ?_⟩) (by assumption) ?_
  rotate_left 2
  · (simp only [List.getElem?_toArray, List.getElem?_cons_succ, List.getElem?_cons_zero]; rfl)
  · first | exact fun _ _ _ h => h | exact fun _ _ _ h => nomatch h.1
  · rfl
  · (intro W hSW; (try dsimp only at hSW); go_split_ands; first | (go_simp; done) | (go_simp; with_reducible rfl))
  try simp only [Act.put, List.setIfInBounds_toArray, List.set_cons_zero, List.set_cons_succ]
  refine' wpAnyH_take (i := 11) (oi := _) (v := _) ?_ (by kernel_rfl) (by kernel_rfl) (by kernel_rfl) ?_ (Or.inl ⟨?_, ?_⟩) (by assumption) ?_
  rotate_left 2
  · (simp only [List.getElem?_toArray, List.getElem?_cons_succ, List.getElem?_cons_zero]; rfl)
  · first | exact fun _ _ _ h => h | exact fun _ _ _ h => nomatch h.1
  · rfl
  · (intro W hSW; (try dsimp only at hSW); go_split_ands; first | (go_simp; done) | (go_simp; with_reducible rfl))
  try simp only [Act.put, List.setIfInBounds_toArray, List.set_cons_zero, List.set_cons_succ]
  refine' wpAnyH_take (i := 12) (oi := _) (v := _) ?_ (by kernel_rfl) (by kernel_rfl) (by kernel_rfl) ?_ (Or.inl ⟨?_, ?_⟩) (by assumption) ?_
  rotate_left 2
  · (simp only [List.getElem?_toArray, List.getElem?_cons_succ, List.getElem?_cons_zero]; rfl)
  · first | exact fun _ _ _ h => h | exact fun _ _ _ h => nomatch h.1
  · rfl
  · (intro W hSW; (try dsimp only at hSW); go_split_ands; first | (go_simp; done) | (go_simp; with_reducible rfl))
  try simp only [Act.put, List.setIfInBounds_toArray, List.set_cons_zero, List.set_cons_succ]
  clear hHeld
  refine wpAnyH_ready (rs := [13]) (by kernel_rfl) (by simp) ?_
  refine' AllReadyH.cons (o := _) ?_ (fun K hK => ?_) AllReadyH.nil
  rotate_left 1
  · (simp only [List.getElem?_toArray, List.getElem?_cons_succ, List.getElem?_cons_zero]; rfl)
  go_simp
  refine Calls.mono (C1.out _) ?_
  rintro e V4 ⟨rfl, hn⟩
  replace r8 := r8.on hn
  replace r10 := r10.on hn
  replace r11 := r11.on hn
  replace hc := chain hc hn
  clear hn
  go_simp
  refine hK.out _ _ ⟨r10.cell, r11.cell⟩ (fun hHeld => ?_)
  clear hK K
  refine' wpAnyH_take (i := 14) (oi := _) (v := _) ?_ (by kernel_rfl) (by kernel_rfl) (by kernel_rfl) ?_ (Or.inl ⟨?_, ?_⟩) (by assumption) ?_
  rotate_left 2
  · (simp only [List.getElem?_toArray, List.getElem?_cons_succ, List.getElem?_cons_zero]; rfl)
  · first | exact fun _ _ _ h => h | exact fun _ _ _ h => nomatch h.1
  · rfl
  · (intro W hSW; (try dsimp only at hSW); go_split_ands; first | (go_simp; done) | (go_simp; with_reducible rfl))
  try simp only [Act.put, List.setIfInBounds_toArray, List.set_cons_zero, List.set_cons_succ]
  refine' wpAnyH_take (i := 15) (oi := _) (v := _) ?_ (by kernel_rfl) (by kernel_rfl) (by kernel_rfl) ?_ (Or.inl ⟨?_, ?_⟩) (by assumption) ?_
  rotate_left 2
  · (simp only [List.getElem?_toArray, List.getElem?_cons_succ, List.getElem?_cons_zero]; rfl)
  · first | exact fun _ _ _ h => h | exact fun _ _ _ h => nomatch h.1
  · rfl
  · (intro W hSW; (try dsimp only at hSW); go_split_ands; first | (go_simp; done) | (go_simp; with_reducible rfl))
  try simp only [Act.put, List.setIfInBounds_toArray, List.set_cons_zero, List.set_cons_succ]
  refine' wpAnyH_take (i := 16) (oi := _) (v := _) ?_ (by kernel_rfl) (by kernel_rfl) (by kernel_rfl) ?_ (Or.inl ⟨?_, ?_⟩) (by assumption) ?_
  rotate_left 2
  · (simp only [List.getElem?_toArray, List.getElem?_cons_succ, List.getElem?_cons_zero]; rfl)
  · first | exact fun _ _ _ h => h | exact fun _ _ _ h => nomatch h.1
  · rfl
  · (intro W hSW; (try dsimp only at hSW); go_split_ands; first | (go_simp; done) | (go_simp; with_reducible rfl))
  try simp only [Act.put, List.setIfInBounds_toArray, List.set_cons_zero, List.set_cons_succ]
  refine' wpAnyH_take (i := 17) (oi := _) (v := _) ?_ (by kernel_rfl) (by kernel_rfl) (by kernel_rfl) ?_ (Or.inl ⟨?_, ?_⟩) (by assumption) ?_
  rotate_left 2
  · (simp only [List.getElem?_toArray, List.getElem?_cons_succ, List.getElem?_cons_zero]; rfl)
  · first | exact fun _ _ _ h => h | exact fun _ _ _ h => nomatch h.1
  · rfl
  · (intro W hSW; (try dsimp only at hSW); go_split_ands; first | (go_simp; done) | (go_simp; with_reducible rfl))
  try simp only [Act.put, List.setIfInBounds_toArray, List.set_cons_zero, List.set_cons_succ]
  refine' wpAnyH_take (i := 18) (oi := _) (v := _) ?_ (by kernel_rfl) (by kernel_rfl) (by kernel_rfl) ?_ (Or.inl ⟨?_, ?_⟩) (by assumption) ?_
  rotate_left 2
  · (simp only [List.getElem?_toArray, List.getElem?_cons_succ, List.getElem?_cons_zero]; rfl)
  · first | exact fun _ _ _ h => h | exact fun _ _ _ h => nomatch h.1
  · rfl
  · (intro W hSW; (try dsimp only at hSW); go_split_ands; first | (go_simp; done) | (go_simp; with_reducible rfl))
  try simp only [Act.put, List.setIfInBounds_toArray, List.set_cons_zero, List.set_cons_succ]
  refine' wpAnyH_take (i := 19) (oi := _) (v := _) ?_ (by kernel_rfl) (by kernel_rfl) (by kernel_rfl) ?_ (Or.inl ⟨?_, ?_⟩) (by assumption) ?_
  rotate_left 2
  · (simp only [List.getElem?_toArray, List.getElem?_cons_succ, List.getElem?_cons_zero]; rfl)
  · first | exact fun _ _ _ h => h | exact fun _ _ _ h => nomatch h.1
  · rfl
  · (intro W hSW; (try dsimp only at hSW); go_split_ands; first | (go_simp; done) | (go_simp; with_reducible rfl))
  try simp only [Act.put, List.setIfInBounds_toArray, List.set_cons_zero, List.set_cons_succ]
  refine' wpAnyH_take (i := 20) (oi := _) (v := _) ?_ (by kernel_rfl) (by kernel_rfl) (by kernel_rfl) ?_ (Or.inl ⟨?_, ?_⟩) (by assumption) ?_
  rotate_left 2
  · (simp only [List.getElem?_toArray, List.getElem?_cons_succ, List.getElem?_cons_zero]; rfl)
  · first | exact fun _ _ _ h => h | exact fun _ _ _ h => nomatch h.1
  · rfl
  · (intro W hSW; (try dsimp only at hSW); go_split_ands; first | (go_simp; done) | (go_simp; with_reducible rfl))
  try simp only [Act.put, List.setIfInBounds_toArray, List.set_cons_zero, List.set_cons_succ]
  clear hHeld
  have yr8 := r8.cell
  have zr8 := r8.lt
  have ur8 := r8.free
  refine wpAnyH_ready (rs := [21]) (by kernel_rfl) (by simp) ?_
  refine' AllReadyH.cons (o := _) ?_ (fun K hK => ?_) AllReadyH.nil
  rotate_left 1
  · (simp only [List.getElem?_toArray, List.getElem?_cons_succ, List.getElem?_cons_zero]; rfl)
  go_simp
  clear yr8 zr8 ur8
  replace r10 := ((((((((r10.other nr8_r10 0 (.int .i64 kk)).other nr8_r10 1 (.int .i64 ii)).other nr8_r10 2 (.int .u32 gg)).other nr8_r10 3 (.int .i64 1)).other nr8_r10 4 (.int .i64 0)).other nr8_r10 5 (.int .i64 0)).other nr8_r10 6 (.int .i64 0)).other nr8_r10 7 (.string tt))
  replace r11 := ((((((((r11.other nr8_r11 0 (.int .i64 kk)).other nr8_r11 1 (.int .i64 ii)).other nr8_r11 2 (.int .u32 gg)).other nr8_r11 3 (.int .i64 1)).other nr8_r11 4 (.int .i64 0)).other nr8_r11 5 (.int .i64 0)).other nr8_r11 6 (.int .i64 0)).other nr8_r11 7 (.string tt))
  replace r8 := ((((((((r8.set 0 (.int .i64 kk)).set 1 (.int .i64 ii)).set 2 (.int .u32 gg)).set 3 (.int .i64 1)).set 4 (.int .i64 0)).set 5 (.int .i64 0)).set 6 (.int .i64 0)).set 7 (.string tt))
  simp only [List.setIfInBounds_toArray, List.set_cons_zero, List.set_cons_succ] at r8
  replace hc := ((((((((hc.setCell (p := ⟨w.heap.size, 0, none⟩) wr8 (.int .i64 kk)).setCell (p := ⟨w.heap.size, 1, none⟩) wr8 (.int .i64 ii)).setCell (p := ⟨w.heap.size, 2, none⟩) wr8 (.int .u32 gg)).setCell (p := ⟨w.heap.size, 3, none⟩) wr8 (.int .i64 1)).setCell (p := ⟨w.heap.size, 4, none⟩) wr8 (.int .i64 0)).setCell (p := ⟨w.heap.size, 5, none⟩) wr8 (.int .i64 0)).setCell (p := ⟨w.heap.size, 6, none⟩) wr8 (.int .i64 0)).setCell (p := ⟨w.heap.size, 7, none⟩) wr8 (.string tt))
  generalize hW : World.setCell _ _ _ = V5 at *
  clear hW
  refine hK.out _ _ ⟨r10.cell, r11.cell⟩ (fun hHeld => ?_)
  clear hK K
  refine' wpAnyH_take (i := 22) (oi := _) (v := _) ?_ (by kernel_rfl) (by kernel_rfl) (by kernel_rfl) ?_ (Or.inl ⟨?_, ?_⟩) (by assumption) ?_
  rotate_left 2
  · (simp only [List.getElem?_toArray, List.getElem?_cons_succ, List.getElem?_cons_zero]; rfl)
  · first | exact fun _ _ _ h => h | exact fun _ _ _ h => nomatch h.1
  · rfl
  · (intro W hSW; (try dsimp only at hSW); go_split_ands; first | (go_simp; done) | (go_simp; with_reducible rfl))
  try simp only [Act.put, List.setIfInBounds_toArray, List.set_cons_zero, List.set_cons_succ]
  clear hHeld
  refine wpAnyH_done (by kernel_rfl) ?_ _
  go_wp2_with fail
  have y := r8.cell
  refine bodyPost_ret (v := .tuple #[rV kk ii gg 1 0 0 0 tt, .bool true]) (by simp [results, Tryz.results6, go_sem, y]) rfl ⟨by rw [q1, q2, q3, q4], hc⟩
end Go.Proofs.YtgckfiadnmjonabGreatDoor

/- What calls give for possible resources (plain). -/
namespace Go.Proofs.YtgckfiadnmjonabGreatDoor
open Go.RowKit
set_option linter.unusedVariables false
set_option linter.unusedSimpArgs false
theorem rErr_of {k i g st wy tr nx : Int} {tag : ByteArray} (h : pOk k i g st wy tr nx = true) (ht : tagOk tag.data.toList = true) : rErr k i g st wy tr nx tag = 0 := by
  unfold rErr tagErr
  rw [h, ht]
  rfl
/-- The ranges of a possible resource that is not live. -/
theorem ok_range {k i g st wy tr nx : Int} {tag : ByteArray} (h : rErr k i g st wy tr nx tag = 0) : dOk 64 k i g = true ∧ tagOk tag.data.toList = true ∧ ((st = 1 ∧ wy = 0 ∧ tr = 0 ∧ nx = 0) ∨ ((st = 2 ∨ st = 3 ∨ st = 4) ∧ (1 ≤ wy ∧ wy ≤ 3) ∧ (0 ≤ tr ∧ tr ≤ 10000) ∧ (0 ≤ nx ∧ nx ≤ 1099511627776) ∧ (st = 2 ∨ nx = 0))) := by
  obtain ⟨ho, ht⟩ := rErr_zero h
  obtain ⟨hd, hs⟩ := pOk_out ho
  refine ⟨hd, ht, ?_⟩
  rcases hs with rfl | rfl | rfl | rfl
  · rw [pOk_1 hd] at ho
    simp only [Bool.and_eq_true, inB_iff, isT_iff, decide_eq_true_iff] at ho
    exact .inl ⟨rfl, by omega, by omega, by omega⟩
  · rw [pOk_2 hd] at ho
    simp only [Bool.and_eq_true, inB_iff, isT_iff] at ho
    exact .inr ⟨.inl rfl, by omega, by omega, by omega, .inl rfl⟩
  · rw [pOk_34 hd (.inl rfl)] at ho
    simp only [Bool.and_eq_true, inB_iff, isT_iff, decide_eq_true_iff] at ho
    exact .inr ⟨.inr (.inl rfl), by omega, by omega, by omega, .inr (by omega)⟩
  · rw [pOk_34 hd (.inr rfl)] at ho
    simp only [Bool.and_eq_true, inB_iff, isT_iff, decide_eq_true_iff] at ho
    exact .inr ⟨.inr (.inr rfl), by omega, by omega, by omega, .inr (by omega)⟩
theorem ok_2 {k i g wy tr nx : Int} {tag : ByteArray} (hd : dOk 64 k i g = true) (ht : tagOk tag.data.toList = true) (hw : 1 ≤ wy ∧ wy ≤ 3) (h1 : 0 ≤ tr ∧ tr ≤ 10000) (h2 : 0 ≤ nx ∧ nx ≤ 1099511627776) : rErr k i g 2 wy tr nx tag = 0 :=
  rErr_of (by rw [pOk_2 hd]; simp only [Bool.and_eq_true, inB_iff, isT_iff]; omega) ht
theorem ok_34 {k i g st wy tr : Int} {tag : ByteArray} (hs : st = 3 ∨ st = 4) (hd : dOk 64 k i g = true) (ht : tagOk tag.data.toList = true) (hw : 1 ≤ wy ∧ wy ≤ 3) (h1 : 0 ≤ tr ∧ tr ≤ 10000) : rErr k i g st wy tr 0 tag = 0 :=
  rErr_of (by rw [pOk_34 hd hs, inB_iff.2 hw, inB_iff.2 h1]; rfl) ht
theorem close_live {k i g wy tr nx why now : Int} {tag : ByteArray} (h : rErr k i g 1 wy tr nx tag = 0) (hw : 1 ≤ why ∧ why ≤ 3) (hn : 0 ≤ now ∧ now ≤ 1099511627776) : closeV k i g 1 wy tr nx tag why now = .tuple #[rV k i g 2 why tr now tag, .int .i64 0] := by
  have : chkE k i g 1 wy tr nx tag (inB why 1 3 && isT now) 1 = 0 := by
    unfold chkE
    rw [if_neg (by omega), inB_iff.2 hw, isT_iff.2 hn]
    rfl
  unfold closeV
  rw [if_pos this]
theorem close_not {k i g st wy tr nx why now : Int} {tag : ByteArray} (h : rErr k i g st wy tr nx tag = 0) (hs : st ≠ 1) (hw : 1 ≤ why ∧ why ≤ 3) (hn : 0 ≤ now ∧ now ≤ 1099511627776) : closeV k i g st wy tr nx tag why now = .tuple #[r0V, .int .i64 8] := by
  have : chkE k i g st wy tr nx tag (inB why 1 3 && isT now) 1 = 8 := by
    unfold chkE
    rw [if_neg (by omega), inB_iff.2 hw, isT_iff.2 hn, if_neg (by decide), if_pos hs]
  unfold closeV
  rw [this, if_neg (by decide)]
theorem tried_chk {k i g st wy tr nx answer now wait : Int} {tag : ByteArray} (h : rErr k i g st wy tr nx tag = 0) (ha : 1 ≤ answer ∧ answer ≤ 3) (hn : 0 ≤ now ∧ now ≤ 1099511627776) (hw : 1 ≤ wait ∧ wait ≤ 1048576) : chkE k i g st wy tr nx tag (triedA answer now wait) 2 = if st = 2 then 0 else 8 := by
  unfold chkE triedA
  rw [if_neg (by omega), inB_iff.2 ha, isT_iff.2 hn, inB_iff.2 hw, if_neg (by decide)]
  by_cases hs : st = 2
  · rw [if_neg (by simpa using hs), if_pos hs]
  · rw [if_pos hs, if_neg hs]
theorem tried_not {k i g st wy tr nx answer now wait : Int} {tag : ByteArray} (h : rErr k i g st wy tr nx tag = 0) (hs : st ≠ 2) (ha : 1 ≤ answer ∧ answer ≤ 3) (hn : 0 ≤ now ∧ now ≤ 1099511627776) (hw : 1 ≤ wait ∧ wait ≤ 1048576) : triedV k i g st wy tr nx tag answer now wait = .tuple #[r0V, .int .i64 8] := by
  unfold triedV
  rw [tried_chk h ha hn hw, if_neg hs, if_neg (by decide)]
theorem tried_ok {k i g wy tr nx now wait : Int} {tag : ByteArray} (h : rErr k i g 2 wy tr nx tag = 0) (hn : 0 ≤ now ∧ now ≤ 1099511627776) (hw : 1 ≤ wait ∧ wait ≤ 1048576) : triedV k i g 2 wy tr nx tag 1 now wait = .tuple #[rV k i g 3 wy tr 0 tag, .int .i64 0] := by
  unfold triedV
  rw [tried_chk h (by omega) hn hw, if_pos rfl, if_pos rfl, if_pos rfl]
theorem tried_fail {k i g wy tr nx now wait : Int} {tag : ByteArray} (h : rErr k i g 2 wy tr nx tag = 0) (hn : 0 ≤ now ∧ now ≤ 1099511627776) (hw : 1 ≤ wait ∧ wait ≤ 1048576) : triedV k i g 2 wy tr nx tag 3 now wait = .tuple #[rV k i g 4 wy tr 0 tag, .int .i64 0] := by
  unfold triedV
  rw [tried_chk h (by omega) hn hw, if_pos rfl, if_pos rfl, if_neg (by decide), if_pos rfl]
theorem tried_later {k i g wy tr nx now wait : Int} {tag : ByteArray} (h : rErr k i g 2 wy tr nx tag = 0) (hn : 0 ≤ now ∧ now + wait ≤ 1099511627776) (hw : 1 ≤ wait ∧ wait ≤ 1048576) (ht : tr < 10000) : triedV k i g 2 wy tr nx tag 2 now wait = .tuple #[rV k i g 2 wy (tr + 1) (now + wait) tag, .int .i64 0] := by
  unfold triedV
  rw [tried_chk h (by omega) (by omega) hw, if_pos rfl, if_pos rfl, if_neg (by decide), if_neg (by decide), if_neg (by omega)]
theorem tried_over {k i g wy tr nx now wait : Int} {tag : ByteArray} (h : rErr k i g 2 wy tr nx tag = 0) (hn : 0 ≤ now ∧ now ≤ 1099511627776) (hw : 1 ≤ wait ∧ wait ≤ 1048576) (ho : 1099511627776 < now + wait ∨ 10000 ≤ tr) : triedV k i g 2 wy tr nx tag 2 now wait = .tuple #[r0V, .int .i64 17] := by
  unfold triedV
  rw [tried_chk h (by omega) hn hw, if_pos rfl, if_pos rfl, if_neg (by decide), if_neg (by decide), if_pos (by omega)]
theorem due_is {k i g st wy tr nx now : Int} {tag : ByteArray} (h : rErr k i g st wy tr nx tag = 0) (hn : 0 ≤ now ∧ now ≤ 1099511627776) : dueV k i g st wy tr nx tag now = .tuple #[.bool (decide (st = 2) && decide (nx ≤ now)), .int .i64 0] := by
  have : chkE k i g st wy tr nx tag (isT now) st = 0 := by
    unfold chkE
    rw [if_neg (by omega), isT_iff.2 hn, if_neg (by decide), if_neg (by simp)]
  unfold dueV
  rw [if_pos this]
theorem over_is {k i g st wy tr nx : Int} {tag : ByteArray} (h : rErr k i g st wy tr nx tag = 0) : overV k i g st wy tr nx tag = .tuple #[.bool (decide (st = 3) || decide (st = 4)), .int .i64 0] := by
  unfold overV
  rw [if_pos h]
end Go.Proofs.YtgckfiadnmjonabGreatDoor
