/- The reference's Check of objects. -/
import Derived.Test.YtpegkcmomkdoeaaDoorFieldChk
import Derived.Deep.LoopGhost
namespace Go.Proofs.YtpegkcmomkdoeaaDoor
open Go.RowKit
set_option linter.unusedVariables false
set_option linter.unusedSimpArgs false
theorem rcheck_range (n s0 g0 s1 g1 s2 g2 s3 g3 : Int) (h : Bool) (w : World) (hn : n < 0 ∨ 4 < n ∨ (h = true ∧ 0 < n)) : Ret 14 #[obV n s0 g0 s1 g1 s2 g2 s3 g3 h] w (.int .i64 2) := by
  have h3 : n < 0 ∨ (0 ≤ n ∧ 4 < n) ∨ (0 ≤ n ∧ n ≤ 4 ∧ h = true ∧ 0 < n) := by
    rcases hn with hl | hl | ⟨hl, h'⟩
    · exact .inl hl
    · exact .inr (.inl ⟨by omega, hl⟩)
    · by_cases h4 : 4 < n
      · exact .inr (.inl ⟨by omega, h4⟩)
      · exact .inr (.inr ⟨by omega, by omega, hl, h'⟩)
  rcases h3 with hn | ⟨h0, hn⟩ | ⟨h0, h1, rfl, hn⟩
  all_goals
    go_enter Tryd.func14, Tryd.ntmps14
    go_wp2_with fail
    go_returns
    exact ⟨rfl, by go_grown⟩
theorem fOk_wrong {n i : Int} {r : Rf} (h : rWrong r = true) : fOk n i r = false := by
  unfold rWrong at h
  unfold fOk
  simp only [Bool.and_eq_true, Bool.not_eq_true'] at h
  rw [h.1, h.2]
  simp
theorem fOk_in {n i : Int} {r : Rf} (h : rWrong r = false) (hi : i < n) : fOk n i r = true := by
  unfold rWrong at h
  unfold fOk
  cases hn : rNone r
  · rw [hn] at h
    simp at h
    simp [hi, h]
  · simp
theorem fOk_out {n i : Int} {r : Rf} (hi : n ≤ i) : fOk n i r = rNone r := by
  have : ¬ i < n := by omega
  unfold fOk
  simp [this]
/-- The first k fields are possible. -/
def okUpto (n : Int) (a b c d : Rf) : Nat → Bool
  | 0 => true
  | 1 => fOk n 0 a
  | 2 => fOk n 0 a && fOk n 1 b
  | 3 => fOk n 0 a && fOk n 1 b && fOk n 2 c
  | _ => fOk n 0 a && fOk n 1 b && fOk n 2 c && fOk n 3 d
theorem ok_not (n : Int) (a b c d : Rf) (k : Nat) (r : Rf) (h : (k = 0 ∧ r = a) ∨ (k = 1 ∧ r = b) ∨ (k = 2 ∧ r = c) ∨ (k = 3 ∧ r = d)) (hk : fOk n k r = false) : okUpto n a b c d 4 = false := by
  rcases h with ⟨rfl, rfl⟩ | ⟨rfl, rfl⟩ | ⟨rfl, rfl⟩ | ⟨rfl, rfl⟩ <;> (have hk2 := hk; simp only [okUpto]; first | rw [show fOk n 0 _ = false from hk] | rw [show fOk n 1 _ = false from hk] | rw [show fOk n 2 _ = false from hk] | rw [show fOk n 3 _ = false from hk]) <;> simp
theorem ok_next (n : Int) (a b c d : Rf) (k : Nat) (r : Rf) (h : (k = 0 ∧ r = a) ∨ (k = 1 ∧ r = b) ∨ (k = 2 ∧ r = c) ∨ (k = 3 ∧ r = d)) (hp : okUpto n a b c d k = true) (hk : fOk n k r = true) : okUpto n a b c d (k + 1) = true := by
  rcases h with ⟨rfl, rfl⟩ | ⟨rfl, rfl⟩ | ⟨rfl, rfl⟩ | ⟨rfl, rfl⟩
  · exact hk
  · simp only [okUpto] at hp ⊢; rw [hp]; exact hk
  · simp only [okUpto] at hp ⊢; rw [hp]; exact hk
  · simp only [okUpto] at hp ⊢; rw [hp]; exact hk
set_option maxRecDepth 100000 in
set_option maxHeartbeats 16000000 in
theorem rcheck_in (n s0 g0 s1 g1 s2 g2 s3 g3 : Int) (h : Bool) (w : World) (n0 : 0 ≤ n) (n1 : n ≤ 4) (hh : h = false ∨ (h = true ∧ ¬ 0 < n)) (b0 : 0 ≤ g0 ∧ g0 ≤ 4294967295) (b1 : 0 ≤ g1 ∧ g1 ≤ 4294967295) (b2 : 0 ≤ g2 ∧ g2 ≤ 4294967295) (b3 : 0 ≤ g3 ∧ g3 ≤ 4294967295) (er : Int)
    (hbad : okUpto n (s0, g0) (s1, g1) (s2, g2) (s3, g3) 4 = false → er = 2) (hok : okUpto n (s0, g0) (s1, g1) (s2, g2) (s3, g3) 4 = true → er = 0) :
    Ret 14 #[obV n s0 g0 s1 g1 s2 g2 s3 g3 h] w (.int .i64 er) := by
  have HB := Lib.hid hbad
  have HO := Lib.hid hok
  have d1 : decide (n < 0) = false := by rw [decide_eq_false_iff_not]; omega
  have d2 : decide (4 < n) = false := by rw [decide_eq_false_iff_not]; omega
  clear hbad hok
  rcases hh with rfl | ⟨rfl, hn'⟩
  · go_enter Tryd.func14, Tryd.ntmps14
    go_wp2_with fail
    go_loopw [3] (fun t wr => ∃ k : Nat, k ≤ 4 ∧ t = .int .i64 k ∧ okUpto n (s0, g0) (s1, g1) (s2, g2) (s3, g3) k = true ∧ Row wr w.heap.size (obC n s0 g0 s1 g1 s2 g2 s3 g3 false) 31 ∧ Below w.heap.size w wr) (fun t _ => 4 - (intOf t).toNat)
    case atStart => exact ⟨0, by omega, rfl, rfl, Row.new, by go_grown⟩
    case round =>
      obtain ⟨k, hk, rfl, hp, hR, hB⟩ := hrel
      have HP := Lib.hid hp
      have c_ := hR.cell
      have lt_ := hR.lt
      clear hp
      rcases (by omega : k = 0 ∨ k = 1 ∨ k = 2 ∨ k = 3 ∨ k = 4) with rfl | rfl | rfl | rfl | rfl
      · have hw := fun w => rwrong_c s0 g0 w b0.1 b0.2
        cases hwr : rWrong (s0, g0) with
        | true =>
            rw [hwr] at hw
            have HW := Lib.hid hw
            clear hw
            obtain rfl := HB.out (ok_not n (s0, g0) (s1, g1) (s2, g2) (s3, g3) 0 (s0, g0) (.inl ⟨rfl, rfl⟩) (fOk_wrong hwr))
            clear hwr
            go_wp2_with fail
            refine Calls.mono (HW.out _) ?_
            rintro e w5 ⟨rfl, hb5⟩
            have hR5 := hR.on hb5
            have hB5 := chain hB hb5
            have c5 := hR5.cell
            clear hR hB c_ lt_ hb5
            go_wp2_with fail
            go_returns
            exact ⟨rfl, hB5⟩
        | false =>
          rw [hwr] at hw
          have HW := Lib.hid hw
          clear hw
          by_cases hx : n ≤ 0
          · have e1 : decide (n ≤ 0) = true := decide_eq_true hx
            have hq := ref_neq0 s0 g0
            cases hnn : rNone (s0, g0)
            · rw [hnn] at hq
              obtain rfl := HB.out (ok_not n (s0, g0) (s1, g1) (s2, g2) (s3, g3) 0 (s0, g0) (.inl ⟨rfl, rfl⟩) ((fOk_out (by simpa using hx)).trans hnn))
              clear hwr hnn
              go_wp2_with fail
              refine Calls.mono (HW.out _) ?_
              rintro e w5 ⟨rfl, hb5⟩
              have hR5 := hR.on hb5
              have hB5 := chain hB hb5
              have c5 := hR5.cell
              clear hR hB c_ lt_ hb5
              go_wp2_with fail
              go_returns
              exact ⟨rfl, hB5⟩
            · rw [hnn] at hq
              have hN := ok_next n (s0, g0) (s1, g1) (s2, g2) (s3, g3) 0 (s0, g0) (.inl ⟨rfl, rfl⟩) HP.out ((fOk_out (by simpa using hx)).trans hnn)
              have HN := Lib.hid hN
              clear hwr hnn hN
              go_wp2_with fail
              refine Calls.mono (HW.out _) ?_
              rintro e w5 ⟨rfl, hb5⟩
              have hR5 := hR.on hb5
              have hB5 := chain hB hb5
              have c5 := hR5.cell
              clear hR hB c_ lt_ hb5
              go_wp2_with fail
              go_roundw
              case rel => exact ⟨0 + 1, by omega, by go_num, HN.out, hR5, hB5⟩
              case measure => simp [intOf]
          · have e1 : decide (n ≤ 0) = false := decide_eq_false hx
            have hN := ok_next n (s0, g0) (s1, g1) (s2, g2) (s3, g3) 0 (s0, g0) (.inl ⟨rfl, rfl⟩) HP.out (fOk_in hwr (by simpa using hx))
            have HN := Lib.hid hN
            clear hwr hN
            go_wp2_with fail
            refine Calls.mono (HW.out _) ?_
            rintro e w5 ⟨rfl, hb5⟩
            have hR5 := hR.on hb5
            have hB5 := chain hB hb5
            have c5 := hR5.cell
            clear hR hB c_ lt_ hb5
            go_wp2_with fail
            go_roundw
            case rel => exact ⟨0 + 1, by omega, by go_num, HN.out, hR5, hB5⟩
            case measure => simp [intOf]
      · have hw := fun w => rwrong_c s1 g1 w b1.1 b1.2
        cases hwr : rWrong (s1, g1) with
        | true =>
            rw [hwr] at hw
            have HW := Lib.hid hw
            clear hw
            obtain rfl := HB.out (ok_not n (s0, g0) (s1, g1) (s2, g2) (s3, g3) 1 (s1, g1) (.inr (.inl ⟨rfl, rfl⟩)) (fOk_wrong hwr))
            clear hwr
            go_wp2_with fail
            refine Calls.mono (HW.out _) ?_
            rintro e w5 ⟨rfl, hb5⟩
            have hR5 := hR.on hb5
            have hB5 := chain hB hb5
            have c5 := hR5.cell
            clear hR hB c_ lt_ hb5
            go_wp2_with fail
            go_returns
            exact ⟨rfl, hB5⟩
        | false =>
          rw [hwr] at hw
          have HW := Lib.hid hw
          clear hw
          by_cases hx : n ≤ 1
          · have e1 : decide (n ≤ 1) = true := decide_eq_true hx
            have hq := ref_neq0 s1 g1
            cases hnn : rNone (s1, g1)
            · rw [hnn] at hq
              obtain rfl := HB.out (ok_not n (s0, g0) (s1, g1) (s2, g2) (s3, g3) 1 (s1, g1) (.inr (.inl ⟨rfl, rfl⟩)) ((fOk_out (by simpa using hx)).trans hnn))
              clear hwr hnn
              go_wp2_with fail
              refine Calls.mono (HW.out _) ?_
              rintro e w5 ⟨rfl, hb5⟩
              have hR5 := hR.on hb5
              have hB5 := chain hB hb5
              have c5 := hR5.cell
              clear hR hB c_ lt_ hb5
              go_wp2_with fail
              go_returns
              exact ⟨rfl, hB5⟩
            · rw [hnn] at hq
              have hN := ok_next n (s0, g0) (s1, g1) (s2, g2) (s3, g3) 1 (s1, g1) (.inr (.inl ⟨rfl, rfl⟩)) HP.out ((fOk_out (by simpa using hx)).trans hnn)
              have HN := Lib.hid hN
              clear hwr hnn hN
              go_wp2_with fail
              refine Calls.mono (HW.out _) ?_
              rintro e w5 ⟨rfl, hb5⟩
              have hR5 := hR.on hb5
              have hB5 := chain hB hb5
              have c5 := hR5.cell
              clear hR hB c_ lt_ hb5
              go_wp2_with fail
              go_roundw
              case rel => exact ⟨1 + 1, by omega, by go_num, HN.out, hR5, hB5⟩
              case measure => simp [intOf]
          · have e1 : decide (n ≤ 1) = false := decide_eq_false hx
            have hN := ok_next n (s0, g0) (s1, g1) (s2, g2) (s3, g3) 1 (s1, g1) (.inr (.inl ⟨rfl, rfl⟩)) HP.out (fOk_in hwr (by simpa using hx))
            have HN := Lib.hid hN
            clear hwr hN
            go_wp2_with fail
            refine Calls.mono (HW.out _) ?_
            rintro e w5 ⟨rfl, hb5⟩
            have hR5 := hR.on hb5
            have hB5 := chain hB hb5
            have c5 := hR5.cell
            clear hR hB c_ lt_ hb5
            go_wp2_with fail
            go_roundw
            case rel => exact ⟨1 + 1, by omega, by go_num, HN.out, hR5, hB5⟩
            case measure => simp [intOf]
      · have hw := fun w => rwrong_c s2 g2 w b2.1 b2.2
        cases hwr : rWrong (s2, g2) with
        | true =>
            rw [hwr] at hw
            have HW := Lib.hid hw
            clear hw
            obtain rfl := HB.out (ok_not n (s0, g0) (s1, g1) (s2, g2) (s3, g3) 2 (s2, g2) (.inr (.inr (.inl ⟨rfl, rfl⟩))) (fOk_wrong hwr))
            clear hwr
            go_wp2_with fail
            refine Calls.mono (HW.out _) ?_
            rintro e w5 ⟨rfl, hb5⟩
            have hR5 := hR.on hb5
            have hB5 := chain hB hb5
            have c5 := hR5.cell
            clear hR hB c_ lt_ hb5
            go_wp2_with fail
            go_returns
            exact ⟨rfl, hB5⟩
        | false =>
          rw [hwr] at hw
          have HW := Lib.hid hw
          clear hw
          by_cases hx : n ≤ 2
          · have e1 : decide (n ≤ 2) = true := decide_eq_true hx
            have hq := ref_neq0 s2 g2
            cases hnn : rNone (s2, g2)
            · rw [hnn] at hq
              obtain rfl := HB.out (ok_not n (s0, g0) (s1, g1) (s2, g2) (s3, g3) 2 (s2, g2) (.inr (.inr (.inl ⟨rfl, rfl⟩))) ((fOk_out (by simpa using hx)).trans hnn))
              clear hwr hnn
              go_wp2_with fail
              refine Calls.mono (HW.out _) ?_
              rintro e w5 ⟨rfl, hb5⟩
              have hR5 := hR.on hb5
              have hB5 := chain hB hb5
              have c5 := hR5.cell
              clear hR hB c_ lt_ hb5
              go_wp2_with fail
              go_returns
              exact ⟨rfl, hB5⟩
            · rw [hnn] at hq
              have hN := ok_next n (s0, g0) (s1, g1) (s2, g2) (s3, g3) 2 (s2, g2) (.inr (.inr (.inl ⟨rfl, rfl⟩))) HP.out ((fOk_out (by simpa using hx)).trans hnn)
              have HN := Lib.hid hN
              clear hwr hnn hN
              go_wp2_with fail
              refine Calls.mono (HW.out _) ?_
              rintro e w5 ⟨rfl, hb5⟩
              have hR5 := hR.on hb5
              have hB5 := chain hB hb5
              have c5 := hR5.cell
              clear hR hB c_ lt_ hb5
              go_wp2_with fail
              go_roundw
              case rel => exact ⟨2 + 1, by omega, by go_num, HN.out, hR5, hB5⟩
              case measure => simp [intOf]
          · have e1 : decide (n ≤ 2) = false := decide_eq_false hx
            have hN := ok_next n (s0, g0) (s1, g1) (s2, g2) (s3, g3) 2 (s2, g2) (.inr (.inr (.inl ⟨rfl, rfl⟩))) HP.out (fOk_in hwr (by simpa using hx))
            have HN := Lib.hid hN
            clear hwr hN
            go_wp2_with fail
            refine Calls.mono (HW.out _) ?_
            rintro e w5 ⟨rfl, hb5⟩
            have hR5 := hR.on hb5
            have hB5 := chain hB hb5
            have c5 := hR5.cell
            clear hR hB c_ lt_ hb5
            go_wp2_with fail
            go_roundw
            case rel => exact ⟨2 + 1, by omega, by go_num, HN.out, hR5, hB5⟩
            case measure => simp [intOf]
      · have hw := fun w => rwrong_c s3 g3 w b3.1 b3.2
        cases hwr : rWrong (s3, g3) with
        | true =>
            rw [hwr] at hw
            have HW := Lib.hid hw
            clear hw
            obtain rfl := HB.out (ok_not n (s0, g0) (s1, g1) (s2, g2) (s3, g3) 3 (s3, g3) (.inr (.inr (.inr ⟨rfl, rfl⟩))) (fOk_wrong hwr))
            clear hwr
            go_wp2_with fail
            refine Calls.mono (HW.out _) ?_
            rintro e w5 ⟨rfl, hb5⟩
            have hR5 := hR.on hb5
            have hB5 := chain hB hb5
            have c5 := hR5.cell
            clear hR hB c_ lt_ hb5
            go_wp2_with fail
            go_returns
            exact ⟨rfl, hB5⟩
        | false =>
          rw [hwr] at hw
          have HW := Lib.hid hw
          clear hw
          by_cases hx : n ≤ 3
          · have e1 : decide (n ≤ 3) = true := decide_eq_true hx
            have hq := ref_neq0 s3 g3
            cases hnn : rNone (s3, g3)
            · rw [hnn] at hq
              obtain rfl := HB.out (ok_not n (s0, g0) (s1, g1) (s2, g2) (s3, g3) 3 (s3, g3) (.inr (.inr (.inr ⟨rfl, rfl⟩))) ((fOk_out (by simpa using hx)).trans hnn))
              clear hwr hnn
              go_wp2_with fail
              refine Calls.mono (HW.out _) ?_
              rintro e w5 ⟨rfl, hb5⟩
              have hR5 := hR.on hb5
              have hB5 := chain hB hb5
              have c5 := hR5.cell
              clear hR hB c_ lt_ hb5
              go_wp2_with fail
              go_returns
              exact ⟨rfl, hB5⟩
            · rw [hnn] at hq
              have hN := ok_next n (s0, g0) (s1, g1) (s2, g2) (s3, g3) 3 (s3, g3) (.inr (.inr (.inr ⟨rfl, rfl⟩))) HP.out ((fOk_out (by simpa using hx)).trans hnn)
              have HN := Lib.hid hN
              clear hwr hnn hN
              go_wp2_with fail
              refine Calls.mono (HW.out _) ?_
              rintro e w5 ⟨rfl, hb5⟩
              have hR5 := hR.on hb5
              have hB5 := chain hB hb5
              have c5 := hR5.cell
              clear hR hB c_ lt_ hb5
              go_wp2_with fail
              go_roundw
              case rel => exact ⟨3 + 1, by omega, by go_num, HN.out, hR5, hB5⟩
              case measure => simp [intOf]
          · have e1 : decide (n ≤ 3) = false := decide_eq_false hx
            have hN := ok_next n (s0, g0) (s1, g1) (s2, g2) (s3, g3) 3 (s3, g3) (.inr (.inr (.inr ⟨rfl, rfl⟩))) HP.out (fOk_in hwr (by simpa using hx))
            have HN := Lib.hid hN
            clear hwr hN
            go_wp2_with fail
            refine Calls.mono (HW.out _) ?_
            rintro e w5 ⟨rfl, hb5⟩
            have hR5 := hR.on hb5
            have hB5 := chain hB hb5
            have c5 := hR5.cell
            clear hR hB c_ lt_ hb5
            go_wp2_with fail
            go_roundw
            case rel => exact ⟨3 + 1, by omega, by go_num, HN.out, hR5, hB5⟩
            case measure => simp [intOf]
      · obtain rfl := HO.out HP.out
        go_wp2_with fail
        go_returns
        exact ⟨rfl, hB⟩
  · have d3 : decide (0 < n) = false := decide_eq_false hn'
    clear hn'
    go_enter Tryd.func14, Tryd.ntmps14
    go_wp2_with fail
    go_loopw [3] (fun t wr => ∃ k : Nat, k ≤ 4 ∧ t = .int .i64 k ∧ okUpto n (s0, g0) (s1, g1) (s2, g2) (s3, g3) k = true ∧ Row wr w.heap.size (obC n s0 g0 s1 g1 s2 g2 s3 g3 true) 31 ∧ Below w.heap.size w wr) (fun t _ => 4 - (intOf t).toNat)
    case atStart => exact ⟨0, by omega, rfl, rfl, Row.new, by go_grown⟩
    case round =>
      obtain ⟨k, hk, rfl, hp, hR, hB⟩ := hrel
      have HP := Lib.hid hp
      have c_ := hR.cell
      have lt_ := hR.lt
      clear hp
      rcases (by omega : k = 0 ∨ k = 1 ∨ k = 2 ∨ k = 3 ∨ k = 4) with rfl | rfl | rfl | rfl | rfl
      · have hw := fun w => rwrong_c s0 g0 w b0.1 b0.2
        cases hwr : rWrong (s0, g0) with
        | true =>
            rw [hwr] at hw
            have HW := Lib.hid hw
            clear hw
            obtain rfl := HB.out (ok_not n (s0, g0) (s1, g1) (s2, g2) (s3, g3) 0 (s0, g0) (.inl ⟨rfl, rfl⟩) (fOk_wrong hwr))
            clear hwr
            go_wp2_with fail
            refine Calls.mono (HW.out _) ?_
            rintro e w5 ⟨rfl, hb5⟩
            have hR5 := hR.on hb5
            have hB5 := chain hB hb5
            have c5 := hR5.cell
            clear hR hB c_ lt_ hb5
            go_wp2_with fail
            go_returns
            exact ⟨rfl, hB5⟩
        | false =>
          rw [hwr] at hw
          have HW := Lib.hid hw
          clear hw
          by_cases hx : n ≤ 0
          · have e1 : decide (n ≤ 0) = true := decide_eq_true hx
            have hq := ref_neq0 s0 g0
            cases hnn : rNone (s0, g0)
            · rw [hnn] at hq
              obtain rfl := HB.out (ok_not n (s0, g0) (s1, g1) (s2, g2) (s3, g3) 0 (s0, g0) (.inl ⟨rfl, rfl⟩) ((fOk_out (by simpa using hx)).trans hnn))
              clear hwr hnn
              go_wp2_with fail
              refine Calls.mono (HW.out _) ?_
              rintro e w5 ⟨rfl, hb5⟩
              have hR5 := hR.on hb5
              have hB5 := chain hB hb5
              have c5 := hR5.cell
              clear hR hB c_ lt_ hb5
              go_wp2_with fail
              go_returns
              exact ⟨rfl, hB5⟩
            · rw [hnn] at hq
              have hN := ok_next n (s0, g0) (s1, g1) (s2, g2) (s3, g3) 0 (s0, g0) (.inl ⟨rfl, rfl⟩) HP.out ((fOk_out (by simpa using hx)).trans hnn)
              have HN := Lib.hid hN
              clear hwr hnn hN
              go_wp2_with fail
              refine Calls.mono (HW.out _) ?_
              rintro e w5 ⟨rfl, hb5⟩
              have hR5 := hR.on hb5
              have hB5 := chain hB hb5
              have c5 := hR5.cell
              clear hR hB c_ lt_ hb5
              go_wp2_with fail
              go_roundw
              case rel => exact ⟨0 + 1, by omega, by go_num, HN.out, hR5, hB5⟩
              case measure => simp [intOf]
          · have e1 : decide (n ≤ 0) = false := decide_eq_false hx
            have hN := ok_next n (s0, g0) (s1, g1) (s2, g2) (s3, g3) 0 (s0, g0) (.inl ⟨rfl, rfl⟩) HP.out (fOk_in hwr (by simpa using hx))
            have HN := Lib.hid hN
            clear hwr hN
            go_wp2_with fail
            refine Calls.mono (HW.out _) ?_
            rintro e w5 ⟨rfl, hb5⟩
            have hR5 := hR.on hb5
            have hB5 := chain hB hb5
            have c5 := hR5.cell
            clear hR hB c_ lt_ hb5
            go_wp2_with fail
            go_roundw
            case rel => exact ⟨0 + 1, by omega, by go_num, HN.out, hR5, hB5⟩
            case measure => simp [intOf]
      · have hw := fun w => rwrong_c s1 g1 w b1.1 b1.2
        cases hwr : rWrong (s1, g1) with
        | true =>
            rw [hwr] at hw
            have HW := Lib.hid hw
            clear hw
            obtain rfl := HB.out (ok_not n (s0, g0) (s1, g1) (s2, g2) (s3, g3) 1 (s1, g1) (.inr (.inl ⟨rfl, rfl⟩)) (fOk_wrong hwr))
            clear hwr
            go_wp2_with fail
            refine Calls.mono (HW.out _) ?_
            rintro e w5 ⟨rfl, hb5⟩
            have hR5 := hR.on hb5
            have hB5 := chain hB hb5
            have c5 := hR5.cell
            clear hR hB c_ lt_ hb5
            go_wp2_with fail
            go_returns
            exact ⟨rfl, hB5⟩
        | false =>
          rw [hwr] at hw
          have HW := Lib.hid hw
          clear hw
          by_cases hx : n ≤ 1
          · have e1 : decide (n ≤ 1) = true := decide_eq_true hx
            have hq := ref_neq0 s1 g1
            cases hnn : rNone (s1, g1)
            · rw [hnn] at hq
              obtain rfl := HB.out (ok_not n (s0, g0) (s1, g1) (s2, g2) (s3, g3) 1 (s1, g1) (.inr (.inl ⟨rfl, rfl⟩)) ((fOk_out (by simpa using hx)).trans hnn))
              clear hwr hnn
              go_wp2_with fail
              refine Calls.mono (HW.out _) ?_
              rintro e w5 ⟨rfl, hb5⟩
              have hR5 := hR.on hb5
              have hB5 := chain hB hb5
              have c5 := hR5.cell
              clear hR hB c_ lt_ hb5
              go_wp2_with fail
              go_returns
              exact ⟨rfl, hB5⟩
            · rw [hnn] at hq
              have hN := ok_next n (s0, g0) (s1, g1) (s2, g2) (s3, g3) 1 (s1, g1) (.inr (.inl ⟨rfl, rfl⟩)) HP.out ((fOk_out (by simpa using hx)).trans hnn)
              have HN := Lib.hid hN
              clear hwr hnn hN
              go_wp2_with fail
              refine Calls.mono (HW.out _) ?_
              rintro e w5 ⟨rfl, hb5⟩
              have hR5 := hR.on hb5
              have hB5 := chain hB hb5
              have c5 := hR5.cell
              clear hR hB c_ lt_ hb5
              go_wp2_with fail
              go_roundw
              case rel => exact ⟨1 + 1, by omega, by go_num, HN.out, hR5, hB5⟩
              case measure => simp [intOf]
          · have e1 : decide (n ≤ 1) = false := decide_eq_false hx
            have hN := ok_next n (s0, g0) (s1, g1) (s2, g2) (s3, g3) 1 (s1, g1) (.inr (.inl ⟨rfl, rfl⟩)) HP.out (fOk_in hwr (by simpa using hx))
            have HN := Lib.hid hN
            clear hwr hN
            go_wp2_with fail
            refine Calls.mono (HW.out _) ?_
            rintro e w5 ⟨rfl, hb5⟩
            have hR5 := hR.on hb5
            have hB5 := chain hB hb5
            have c5 := hR5.cell
            clear hR hB c_ lt_ hb5
            go_wp2_with fail
            go_roundw
            case rel => exact ⟨1 + 1, by omega, by go_num, HN.out, hR5, hB5⟩
            case measure => simp [intOf]
      · have hw := fun w => rwrong_c s2 g2 w b2.1 b2.2
        cases hwr : rWrong (s2, g2) with
        | true =>
            rw [hwr] at hw
            have HW := Lib.hid hw
            clear hw
            obtain rfl := HB.out (ok_not n (s0, g0) (s1, g1) (s2, g2) (s3, g3) 2 (s2, g2) (.inr (.inr (.inl ⟨rfl, rfl⟩))) (fOk_wrong hwr))
            clear hwr
            go_wp2_with fail
            refine Calls.mono (HW.out _) ?_
            rintro e w5 ⟨rfl, hb5⟩
            have hR5 := hR.on hb5
            have hB5 := chain hB hb5
            have c5 := hR5.cell
            clear hR hB c_ lt_ hb5
            go_wp2_with fail
            go_returns
            exact ⟨rfl, hB5⟩
        | false =>
          rw [hwr] at hw
          have HW := Lib.hid hw
          clear hw
          by_cases hx : n ≤ 2
          · have e1 : decide (n ≤ 2) = true := decide_eq_true hx
            have hq := ref_neq0 s2 g2
            cases hnn : rNone (s2, g2)
            · rw [hnn] at hq
              obtain rfl := HB.out (ok_not n (s0, g0) (s1, g1) (s2, g2) (s3, g3) 2 (s2, g2) (.inr (.inr (.inl ⟨rfl, rfl⟩))) ((fOk_out (by simpa using hx)).trans hnn))
              clear hwr hnn
              go_wp2_with fail
              refine Calls.mono (HW.out _) ?_
              rintro e w5 ⟨rfl, hb5⟩
              have hR5 := hR.on hb5
              have hB5 := chain hB hb5
              have c5 := hR5.cell
              clear hR hB c_ lt_ hb5
              go_wp2_with fail
              go_returns
              exact ⟨rfl, hB5⟩
            · rw [hnn] at hq
              have hN := ok_next n (s0, g0) (s1, g1) (s2, g2) (s3, g3) 2 (s2, g2) (.inr (.inr (.inl ⟨rfl, rfl⟩))) HP.out ((fOk_out (by simpa using hx)).trans hnn)
              have HN := Lib.hid hN
              clear hwr hnn hN
              go_wp2_with fail
              refine Calls.mono (HW.out _) ?_
              rintro e w5 ⟨rfl, hb5⟩
              have hR5 := hR.on hb5
              have hB5 := chain hB hb5
              have c5 := hR5.cell
              clear hR hB c_ lt_ hb5
              go_wp2_with fail
              go_roundw
              case rel => exact ⟨2 + 1, by omega, by go_num, HN.out, hR5, hB5⟩
              case measure => simp [intOf]
          · have e1 : decide (n ≤ 2) = false := decide_eq_false hx
            have hN := ok_next n (s0, g0) (s1, g1) (s2, g2) (s3, g3) 2 (s2, g2) (.inr (.inr (.inl ⟨rfl, rfl⟩))) HP.out (fOk_in hwr (by simpa using hx))
            have HN := Lib.hid hN
            clear hwr hN
            go_wp2_with fail
            refine Calls.mono (HW.out _) ?_
            rintro e w5 ⟨rfl, hb5⟩
            have hR5 := hR.on hb5
            have hB5 := chain hB hb5
            have c5 := hR5.cell
            clear hR hB c_ lt_ hb5
            go_wp2_with fail
            go_roundw
            case rel => exact ⟨2 + 1, by omega, by go_num, HN.out, hR5, hB5⟩
            case measure => simp [intOf]
      · have hw := fun w => rwrong_c s3 g3 w b3.1 b3.2
        cases hwr : rWrong (s3, g3) with
        | true =>
            rw [hwr] at hw
            have HW := Lib.hid hw
            clear hw
            obtain rfl := HB.out (ok_not n (s0, g0) (s1, g1) (s2, g2) (s3, g3) 3 (s3, g3) (.inr (.inr (.inr ⟨rfl, rfl⟩))) (fOk_wrong hwr))
            clear hwr
            go_wp2_with fail
            refine Calls.mono (HW.out _) ?_
            rintro e w5 ⟨rfl, hb5⟩
            have hR5 := hR.on hb5
            have hB5 := chain hB hb5
            have c5 := hR5.cell
            clear hR hB c_ lt_ hb5
            go_wp2_with fail
            go_returns
            exact ⟨rfl, hB5⟩
        | false =>
          rw [hwr] at hw
          have HW := Lib.hid hw
          clear hw
          by_cases hx : n ≤ 3
          · have e1 : decide (n ≤ 3) = true := decide_eq_true hx
            have hq := ref_neq0 s3 g3
            cases hnn : rNone (s3, g3)
            · rw [hnn] at hq
              obtain rfl := HB.out (ok_not n (s0, g0) (s1, g1) (s2, g2) (s3, g3) 3 (s3, g3) (.inr (.inr (.inr ⟨rfl, rfl⟩))) ((fOk_out (by simpa using hx)).trans hnn))
              clear hwr hnn
              go_wp2_with fail
              refine Calls.mono (HW.out _) ?_
              rintro e w5 ⟨rfl, hb5⟩
              have hR5 := hR.on hb5
              have hB5 := chain hB hb5
              have c5 := hR5.cell
              clear hR hB c_ lt_ hb5
              go_wp2_with fail
              go_returns
              exact ⟨rfl, hB5⟩
            · rw [hnn] at hq
              have hN := ok_next n (s0, g0) (s1, g1) (s2, g2) (s3, g3) 3 (s3, g3) (.inr (.inr (.inr ⟨rfl, rfl⟩))) HP.out ((fOk_out (by simpa using hx)).trans hnn)
              have HN := Lib.hid hN
              clear hwr hnn hN
              go_wp2_with fail
              refine Calls.mono (HW.out _) ?_
              rintro e w5 ⟨rfl, hb5⟩
              have hR5 := hR.on hb5
              have hB5 := chain hB hb5
              have c5 := hR5.cell
              clear hR hB c_ lt_ hb5
              go_wp2_with fail
              go_roundw
              case rel => exact ⟨3 + 1, by omega, by go_num, HN.out, hR5, hB5⟩
              case measure => simp [intOf]
          · have e1 : decide (n ≤ 3) = false := decide_eq_false hx
            have hN := ok_next n (s0, g0) (s1, g1) (s2, g2) (s3, g3) 3 (s3, g3) (.inr (.inr (.inr ⟨rfl, rfl⟩))) HP.out (fOk_in hwr (by simpa using hx))
            have HN := Lib.hid hN
            clear hwr hN
            go_wp2_with fail
            refine Calls.mono (HW.out _) ?_
            rintro e w5 ⟨rfl, hb5⟩
            have hR5 := hR.on hb5
            have hB5 := chain hB hb5
            have c5 := hR5.cell
            clear hR hB c_ lt_ hb5
            go_wp2_with fail
            go_roundw
            case rel => exact ⟨3 + 1, by omega, by go_num, HN.out, hR5, hB5⟩
            case measure => simp [intOf]
      · obtain rfl := HO.out HP.out
        go_wp2_with fail
        go_returns
        exact ⟨rfl, hB⟩
theorem rcheck_c (n s0 g0 s1 g1 s2 g2 s3 g3 : Int) (h : Bool) (w : World) (b0 : 0 ≤ g0 ∧ g0 ≤ 4294967295) (b1 : 0 ≤ g1 ∧ g1 ≤ 4294967295) (b2 : 0 ≤ g2 ∧ g2 ≤ 4294967295) (b3 : 0 ≤ g3 ∧ g3 ≤ 4294967295) :
    Ret 14 #[obV n s0 g0 s1 g1 s2 g2 s3 g3 h] w (.int .i64 (oErr n (s0, g0) (s1, g1) (s2, g2) (s3, g3) h)) := by
  by_cases hn : n < 0 ∨ 4 < n ∨ (h = true ∧ 0 < n)
  · refine (rcheck_range n s0 g0 s1 g1 s2 g2 s3 g3 h w hn).to ?_
    unfold oErr oOk
    rcases hn with h1 | h1 | ⟨rfl, h1⟩
    · have e : decide (0 ≤ n ∧ n ≤ 4) = false := by rw [decide_eq_false_iff_not]; omega
      rw [e]; rfl
    · have e : decide (0 ≤ n ∧ n ≤ 4) = false := by rw [decide_eq_false_iff_not]; omega
      rw [e]; rfl
    · have e : decide (0 < n) = true := decide_eq_true h1
      rw [e]; simp
  · have hh : (h && decide (0 < n)) = false := by
      cases h
      · rfl
      · simp at hn ⊢; omega
    have e : decide (0 ≤ n ∧ n ≤ 4) = true := decide_eq_true (by omega)
    have ho : oOk n (s0, g0) (s1, g1) (s2, g2) (s3, g3) h = okUpto n (s0, g0) (s1, g1) (s2, g2) (s3, g3) 4 := by
      unfold oOk okUpto
      rw [e, hh]
      simp
    refine rcheck_in n s0 g0 s1 g1 s2 g2 s3 g3 h w (by omega) (by omega) (by cases h <;> simp_all) b0 b1 b2 b3 _ (fun hx => ?_) (fun hx => ?_)
    · unfold oErr; rw [ho, hx]; rfl
    · unfold oErr; rw [ho, hx]; rfl
end Go.Proofs.YtpegkcmomkdoeaaDoor
