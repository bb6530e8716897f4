/- The program's Parse: which kind a word is. -/
import Derived.Test.YthkngleegefgbaaGreatDoorL2a
namespace Go.Proofs.YthkngleegefgbaaGreatDoor
open Go.RowKit
set_option linter.unusedVariables false
set_option linter.unusedSimpArgs false
set_option maxHeartbeats 40000000
set_option maxRecDepth 20000
def isW (x wd : ByteArray) : Bool := decide (x = wd) && !decide (wd = ⟨#[]⟩)
theorem str_dec (x y : ByteArray) : (x.toList == y.toList) = decide (x = y) := by
  rw [Bool.eq_iff_iff, beq_iff_eq, decide_eq_true_iff, ByteArray.toList_eq, ByteArray.toList_eq]
  exact ⟨fun h => str_ext h, fun h => by rw [h]⟩
theorem clo_c (x p wd : ByteArray) (b : Nat) (w : World) (hr : Row w b #[.string wd] 9) : Ret 37 #[.agg #[.string x, .string p], .pointer (some ⟨b, 0, none⟩)] w (.bool (isW x wd)) := by
  have y := hr.cell
  have z := hr.lt
  have h1 := str_dec x wd
  have h2 := str_dec wd ⟨#[]⟩
  have h3 := (hr.on (below_alloc w (.cells #[.string x, .string p] 44))).cell 0
  have hb := below_alloc w (.cells #[.string x, .string p] 44)
  unfold isW
  by_cases e1 : x = wd
  · rw [decide_eq_true e1] at h1 ⊢
    by_cases e2 : wd = ⟨#[]⟩
    · rw [decide_eq_true e2] at h2 ⊢
      subst e1
      subst e2
      go_enter Tryz.func37, Tryz.ntmps37
      go_wp2_with fail
      go_returns
      exact ⟨rfl, hb⟩
    · rw [decide_eq_false e2] at h2 ⊢
      subst e1
      have h4 : (x.toList == []) = false := by
        rw [show ([] : List UInt8) = (⟨#[]⟩ : ByteArray).toList from by rw [ByteArray.toList_eq]]
        exact h2
      clear e2
      go_enter Tryz.func37, Tryz.ntmps37
      go_wp2_with fail
      go_returns
      exact ⟨by simp, hb⟩
  · rw [decide_eq_false e1] at h1 ⊢
    clear e1 h2
    go_enter Tryz.func37, Tryz.ntmps37
    go_wp2_with fail
    go_returns
    exact ⟨by simp, hb⟩
theorem word_is (kd : Int) (hk : 1 ≤ kd ∧ kd ≤ 17) : wordL kd ≠ [] := by
  unfold wordL
  rw [if_pos hk]
  exact kinds_fin (fun i => wordsL.getD i [] ≠ []) (by decide) hk
theorem isW_yes {kd : Int} (hk : 1 ≤ kd ∧ kd ≤ 17) {wd : ByteArray} : isW (wordB kd) wd = decide (wordL kd = wd.data.toList) := by
  unfold isW
  rw [Bool.eq_iff_iff, Bool.and_eq_true, decide_eq_true_iff, decide_eq_true_iff]
  constructor
  · rintro ⟨h, _⟩
    rw [← h]
    simp [wordB]
  · intro h
    have e : wordB kd = wd := str_ext (by rw [← h]; simp [wordB])
    refine ⟨e, ?_⟩
    rw [Bool.not_eq_true', decide_eq_false_iff_not]
    intro h0
    rw [h0] at h
    exact word_is kd hk h
/-- The number of a kind's word. -/
def KOf (wd : ByteArray) (k : Int) : Prop := ((1 ≤ k ∧ k ≤ 17) ∧ wordL k = wd.data.toList) ∨ (k = -1 ∧ ∀ kd, 1 ≤ kd → kd ≤ 17 → wordL kd ≠ wd.data.toList)
theorem ixf_c (wd : ByteArray) (b4 bs : Nat) (w : World) (hr : Row w b4 #[.string wd] 9) (hs : Row w bs shCells 44) :
    Calls Tryz.prog 35 #[.slice (some ⟨bs, 0, none⟩) 18 18, .func (.func 37) #[] #[.pointer (some ⟨b4, 0, none⟩)]] w fun e w' => (∃ k, e = .returned (.int .i64 k) ∧ KOf wd k) ∧ Below w.heap.size w w' := by
  have hc := Below.refl w.heap.size w
  go_enter Tryz.func35, Tryz.ntmps35
  go_wp2_with fail
  go_loopw [8] (fun iv wr => ∃ k : Nat, k ≤ 18 ∧ iv = .int .i64 k ∧ Row wr b4 #[.string wd] 9 ∧ Row wr bs shCells 44 ∧ Below w.heap.size w wr ∧ (∀ kd : Int, 1 ≤ kd → kd < k → wordL kd ≠ wd.data.toList)) (fun iv _ => 18 - (intOf iv).toNat)
  case atStart => exact ⟨0, by omega, rfl, hr, hs, hc, fun kd h1 h2 => by omega⟩
  case round =>
    obtain ⟨k, hk, rfl, hr, hs, hc, hno⟩ := hrel
    rcases (by omega : k = 0 ∨ k = 1 ∨ k = 2 ∨ k = 3 ∨ k = 4 ∨ k = 5 ∨ k = 6 ∨ k = 7 ∨ k = 8 ∨ k = 9 ∨ k = 10 ∨ k = 11 ∨ k = 12 ∨ k = 13 ∨ k = 14 ∨ k = 15 ∨ k = 16 ∨ k = 17 ∨ k = 18) with rfl | rfl | rfl | rfl | rfl | rfl | rfl | rfl | rfl | rfl | rfl | rfl | rfl | rfl | rfl | rfl | rfl | rfl | rfl
    · have cc := fun W hW => clo_c ⟨#[]⟩ ⟨#[]⟩ wd b4 W hW
      rw [show isW ⟨#[]⟩ wd = false by
        unfold isW
        by_cases e : (⟨#[]⟩ : ByteArray) = wd
        · subst e; rfl
        · rw [decide_eq_false e]; rfl] at cc
      have CC := Lib.hid cc
      have HNO := Lib.hid hno
      clear cc hno
      have y1 := hs.cell
      have z1 := hs.lt
      go_wp2_with fail
      clear y1 z1
      refine Calls.mono (CC.out _ hr) ?_
      rintro e W1 ⟨rfl, hn⟩
      replace hr := hr.on hn
      replace hs := hs.on hn
      replace hc := chain hc hn
      go_wp2_with fail
      go_roundw
      case rel => exact ⟨0 + 1, by omega, by go_num, hr, hs, hc, fun kd h1 h2 => by
          omega⟩
      case measure => simp [intOf]
    · have cc := fun W hW => clo_c ⟨#[110, 101, 119]⟩ ⟨#[109, 110]⟩ wd b4 W hW
      have hw := isW_yes (kd := 1) (by decide) (wd := wd)
      rw [show wordB 1 = ⟨#[110, 101, 119]⟩ from rfl] at hw
      rw [hw] at cc
      clear hw
      by_cases hd : wordL 1 = wd.data.toList
      · rw [decide_eq_true hd] at cc
        have CC := Lib.hid cc
        have HNO := Lib.hid hno
        clear cc hno
        have y1 := hs.cell
        have z1 := hs.lt
        go_wp2_with fail
        clear y1 z1
        refine Calls.mono (CC.out _ hr) ?_
        rintro e W1 ⟨rfl, hn⟩
        replace hr := hr.on hn
        replace hs := hs.on hn
        replace hc := chain hc hn
        go_wp2_with fail
        go_returns
        exact ⟨⟨_, rfl, .inl ⟨by decide, hd⟩⟩, hc⟩
      · rw [decide_eq_false hd] at cc
        have CC := Lib.hid cc
        have HNO := Lib.hid hno
        clear cc hno
        have y1 := hs.cell
        have z1 := hs.lt
        go_wp2_with fail
        clear y1 z1
        refine Calls.mono (CC.out _ hr) ?_
        rintro e W1 ⟨rfl, hn⟩
        replace hr := hr.on hn
        replace hs := hs.on hn
        replace hc := chain hc hn
        go_wp2_with fail
        go_roundw
        case rel => exact ⟨1 + 1, by omega, by go_num, hr, hs, hc, fun kd h1 h2 => by
            by_cases e : kd = 1
            · rw [e]; exact hd
            · exact HNO.out kd h1 (by omega)⟩
        case measure => simp [intOf]
    · have cc := fun W hW => clo_c ⟨#[108, 111, 97, 100]⟩ ⟨#[109, 114, 105]⟩ wd b4 W hW
      have hw := isW_yes (kd := 2) (by decide) (wd := wd)
      rw [show wordB 2 = ⟨#[108, 111, 97, 100]⟩ from rfl] at hw
      rw [hw] at cc
      clear hw
      by_cases hd : wordL 2 = wd.data.toList
      · rw [decide_eq_true hd] at cc
        have CC := Lib.hid cc
        have HNO := Lib.hid hno
        clear cc hno
        have y1 := hs.cell
        have z1 := hs.lt
        go_wp2_with fail
        clear y1 z1
        refine Calls.mono (CC.out _ hr) ?_
        rintro e W1 ⟨rfl, hn⟩
        replace hr := hr.on hn
        replace hs := hs.on hn
        replace hc := chain hc hn
        go_wp2_with fail
        go_returns
        exact ⟨⟨_, rfl, .inl ⟨by decide, hd⟩⟩, hc⟩
      · rw [decide_eq_false hd] at cc
        have CC := Lib.hid cc
        have HNO := Lib.hid hno
        clear cc hno
        have y1 := hs.cell
        have z1 := hs.lt
        go_wp2_with fail
        clear y1 z1
        refine Calls.mono (CC.out _ hr) ?_
        rintro e W1 ⟨rfl, hn⟩
        replace hr := hr.on hn
        replace hs := hs.on hn
        replace hc := chain hc hn
        go_wp2_with fail
        go_roundw
        case rel => exact ⟨2 + 1, by omega, by go_num, hr, hs, hc, fun kd h1 h2 => by
            by_cases e : kd = 2
            · rw [e]; exact hd
            · exact HNO.out kd h1 (by omega)⟩
        case measure => simp [intOf]
    · have cc := fun W hW => clo_c ⟨#[115, 116, 111, 114, 101]⟩ ⟨#[109, 114, 105, 118]⟩ wd b4 W hW
      have hw := isW_yes (kd := 3) (by decide) (wd := wd)
      rw [show wordB 3 = ⟨#[115, 116, 111, 114, 101]⟩ from rfl] at hw
      rw [hw] at cc
      clear hw
      by_cases hd : wordL 3 = wd.data.toList
      · rw [decide_eq_true hd] at cc
        have CC := Lib.hid cc
        have HNO := Lib.hid hno
        clear cc hno
        have y1 := hs.cell
        have z1 := hs.lt
        go_wp2_with fail
        clear y1 z1
        refine Calls.mono (CC.out _ hr) ?_
        rintro e W1 ⟨rfl, hn⟩
        replace hr := hr.on hn
        replace hs := hs.on hn
        replace hc := chain hc hn
        go_wp2_with fail
        go_returns
        exact ⟨⟨_, rfl, .inl ⟨by decide, hd⟩⟩, hc⟩
      · rw [decide_eq_false hd] at cc
        have CC := Lib.hid cc
        have HNO := Lib.hid hno
        clear cc hno
        have y1 := hs.cell
        have z1 := hs.lt
        go_wp2_with fail
        clear y1 z1
        refine Calls.mono (CC.out _ hr) ?_
        rintro e W1 ⟨rfl, hn⟩
        replace hr := hr.on hn
        replace hs := hs.on hn
        replace hc := chain hc hn
        go_wp2_with fail
        go_roundw
        case rel => exact ⟨3 + 1, by omega, by go_num, hr, hs, hc, fun kd h1 h2 => by
            by_cases e : kd = 3
            · rw [e]; exact hd
            · exact HNO.out kd h1 (by omega)⟩
        case measure => simp [intOf]
    · have cc := fun W hW => clo_c ⟨#[100, 114, 111, 112]⟩ ⟨#[109, 114]⟩ wd b4 W hW
      have hw := isW_yes (kd := 4) (by decide) (wd := wd)
      rw [show wordB 4 = ⟨#[100, 114, 111, 112]⟩ from rfl] at hw
      rw [hw] at cc
      clear hw
      by_cases hd : wordL 4 = wd.data.toList
      · rw [decide_eq_true hd] at cc
        have CC := Lib.hid cc
        have HNO := Lib.hid hno
        clear cc hno
        have y1 := hs.cell
        have z1 := hs.lt
        go_wp2_with fail
        clear y1 z1
        refine Calls.mono (CC.out _ hr) ?_
        rintro e W1 ⟨rfl, hn⟩
        replace hr := hr.on hn
        replace hs := hs.on hn
        replace hc := chain hc hn
        go_wp2_with fail
        go_returns
        exact ⟨⟨_, rfl, .inl ⟨by decide, hd⟩⟩, hc⟩
      · rw [decide_eq_false hd] at cc
        have CC := Lib.hid cc
        have HNO := Lib.hid hno
        clear cc hno
        have y1 := hs.cell
        have z1 := hs.lt
        go_wp2_with fail
        clear y1 z1
        refine Calls.mono (CC.out _ hr) ?_
        rintro e W1 ⟨rfl, hn⟩
        replace hr := hr.on hn
        replace hs := hs.on hn
        replace hc := chain hc hn
        go_wp2_with fail
        go_roundw
        case rel => exact ⟨4 + 1, by omega, by go_num, hr, hs, hc, fun kd h1 h2 => by
            by_cases e : kd = 4
            · rw [e]; exact hd
            · exact HNO.out kd h1 (by omega)⟩
        case measure => simp [intOf]
    · have cc := fun W hW => clo_c ⟨#[112, 117, 116]⟩ ⟨#[109, 82, 103]⟩ wd b4 W hW
      have hw := isW_yes (kd := 5) (by decide) (wd := wd)
      rw [show wordB 5 = ⟨#[112, 117, 116]⟩ from rfl] at hw
      rw [hw] at cc
      clear hw
      by_cases hd : wordL 5 = wd.data.toList
      · rw [decide_eq_true hd] at cc
        have CC := Lib.hid cc
        have HNO := Lib.hid hno
        clear cc hno
        have y1 := hs.cell
        have z1 := hs.lt
        go_wp2_with fail
        clear y1 z1
        refine Calls.mono (CC.out _ hr) ?_
        rintro e W1 ⟨rfl, hn⟩
        replace hr := hr.on hn
        replace hs := hs.on hn
        replace hc := chain hc hn
        go_wp2_with fail
        go_returns
        exact ⟨⟨_, rfl, .inl ⟨by decide, hd⟩⟩, hc⟩
      · rw [decide_eq_false hd] at cc
        have CC := Lib.hid cc
        have HNO := Lib.hid hno
        clear cc hno
        have y1 := hs.cell
        have z1 := hs.lt
        go_wp2_with fail
        clear y1 z1
        refine Calls.mono (CC.out _ hr) ?_
        rintro e W1 ⟨rfl, hn⟩
        replace hr := hr.on hn
        replace hs := hs.on hn
        replace hc := chain hc hn
        go_wp2_with fail
        go_roundw
        case rel => exact ⟨5 + 1, by omega, by go_num, hr, hs, hc, fun kd h1 h2 => by
            by_cases e : kd = 5
            · rw [e]; exact hd
            · exact HNO.out kd h1 (by omega)⟩
        case measure => simp [intOf]
    · have cc := fun W hW => clo_c ⟨#[103, 101, 116]⟩ ⟨#[109, 103]⟩ wd b4 W hW
      have hw := isW_yes (kd := 6) (by decide) (wd := wd)
      rw [show wordB 6 = ⟨#[103, 101, 116]⟩ from rfl] at hw
      rw [hw] at cc
      clear hw
      by_cases hd : wordL 6 = wd.data.toList
      · rw [decide_eq_true hd] at cc
        have CC := Lib.hid cc
        have HNO := Lib.hid hno
        clear cc hno
        have y1 := hs.cell
        have z1 := hs.lt
        go_wp2_with fail
        clear y1 z1
        refine Calls.mono (CC.out _ hr) ?_
        rintro e W1 ⟨rfl, hn⟩
        replace hr := hr.on hn
        replace hs := hs.on hn
        replace hc := chain hc hn
        go_wp2_with fail
        go_returns
        exact ⟨⟨_, rfl, .inl ⟨by decide, hd⟩⟩, hc⟩
      · rw [decide_eq_false hd] at cc
        have CC := Lib.hid cc
        have HNO := Lib.hid hno
        clear cc hno
        have y1 := hs.cell
        have z1 := hs.lt
        go_wp2_with fail
        clear y1 z1
        refine Calls.mono (CC.out _ hr) ?_
        rintro e W1 ⟨rfl, hn⟩
        replace hr := hr.on hn
        replace hs := hs.on hn
        replace hc := chain hc hn
        go_wp2_with fail
        go_roundw
        case rel => exact ⟨6 + 1, by omega, by go_num, hr, hs, hc, fun kd h1 h2 => by
            by_cases e : kd = 6
            · rw [e]; exact hd
            · exact HNO.out kd h1 (by omega)⟩
        case measure => simp [intOf]
    · have cc := fun W hW => clo_c ⟨#[97, 99, 107]⟩ ⟨#[109]⟩ wd b4 W hW
      have hw := isW_yes (kd := 7) (by decide) (wd := wd)
      rw [show wordB 7 = ⟨#[97, 99, 107]⟩ from rfl] at hw
      rw [hw] at cc
      clear hw
      by_cases hd : wordL 7 = wd.data.toList
      · rw [decide_eq_true hd] at cc
        have CC := Lib.hid cc
        have HNO := Lib.hid hno
        clear cc hno
        have y1 := hs.cell
        have z1 := hs.lt
        go_wp2_with fail
        clear y1 z1
        refine Calls.mono (CC.out _ hr) ?_
        rintro e W1 ⟨rfl, hn⟩
        replace hr := hr.on hn
        replace hs := hs.on hn
        replace hc := chain hc hn
        go_wp2_with fail
        go_returns
        exact ⟨⟨_, rfl, .inl ⟨by decide, hd⟩⟩, hc⟩
      · rw [decide_eq_false hd] at cc
        have CC := Lib.hid cc
        have HNO := Lib.hid hno
        clear cc hno
        have y1 := hs.cell
        have z1 := hs.lt
        go_wp2_with fail
        clear y1 z1
        refine Calls.mono (CC.out _ hr) ?_
        rintro e W1 ⟨rfl, hn⟩
        replace hr := hr.on hn
        replace hs := hs.on hn
        replace hc := chain hc hn
        go_wp2_with fail
        go_roundw
        case rel => exact ⟨7 + 1, by omega, by go_num, hr, hs, hc, fun kd h1 h2 => by
            by_cases e : kd = 7
            · rw [e]; exact hd
            · exact HNO.out kd h1 (by omega)⟩
        case measure => simp [intOf]
    · have cc := fun W hW => clo_c ⟨#[111, 112, 101, 110]⟩ ⟨#[109, 107, 98, 113]⟩ wd b4 W hW
      have hw := isW_yes (kd := 8) (by decide) (wd := wd)
      rw [show wordB 8 = ⟨#[111, 112, 101, 110]⟩ from rfl] at hw
      rw [hw] at cc
      clear hw
      by_cases hd : wordL 8 = wd.data.toList
      · rw [decide_eq_true hd] at cc
        have CC := Lib.hid cc
        have HNO := Lib.hid hno
        clear cc hno
        have y1 := hs.cell
        have z1 := hs.lt
        go_wp2_with fail
        clear y1 z1
        refine Calls.mono (CC.out _ hr) ?_
        rintro e W1 ⟨rfl, hn⟩
        replace hr := hr.on hn
        replace hs := hs.on hn
        replace hc := chain hc hn
        go_wp2_with fail
        go_returns
        exact ⟨⟨_, rfl, .inl ⟨by decide, hd⟩⟩, hc⟩
      · rw [decide_eq_false hd] at cc
        have CC := Lib.hid cc
        have HNO := Lib.hid hno
        clear cc hno
        have y1 := hs.cell
        have z1 := hs.lt
        go_wp2_with fail
        clear y1 z1
        refine Calls.mono (CC.out _ hr) ?_
        rintro e W1 ⟨rfl, hn⟩
        replace hr := hr.on hn
        replace hs := hs.on hn
        replace hc := chain hc hn
        go_wp2_with fail
        go_roundw
        case rel => exact ⟨8 + 1, by omega, by go_num, hr, hs, hc, fun kd h1 h2 => by
            by_cases e : kd = 8
            · rw [e]; exact hd
            · exact HNO.out kd h1 (by omega)⟩
        case measure => simp [intOf]
    · have cc := fun W hW => clo_c ⟨#[100, 117, 112]⟩ ⟨#[109, 100]⟩ wd b4 W hW
      have hw := isW_yes (kd := 9) (by decide) (wd := wd)
      rw [show wordB 9 = ⟨#[100, 117, 112]⟩ from rfl] at hw
      rw [hw] at cc
      clear hw
      by_cases hd : wordL 9 = wd.data.toList
      · rw [decide_eq_true hd] at cc
        have CC := Lib.hid cc
        have HNO := Lib.hid hno
        clear cc hno
        have y1 := hs.cell
        have z1 := hs.lt
        go_wp2_with fail
        clear y1 z1
        refine Calls.mono (CC.out _ hr) ?_
        rintro e W1 ⟨rfl, hn⟩
        replace hr := hr.on hn
        replace hs := hs.on hn
        replace hc := chain hc hn
        go_wp2_with fail
        go_returns
        exact ⟨⟨_, rfl, .inl ⟨by decide, hd⟩⟩, hc⟩
      · rw [decide_eq_false hd] at cc
        have CC := Lib.hid cc
        have HNO := Lib.hid hno
        clear cc hno
        have y1 := hs.cell
        have z1 := hs.lt
        go_wp2_with fail
        clear y1 z1
        refine Calls.mono (CC.out _ hr) ?_
        rintro e W1 ⟨rfl, hn⟩
        replace hr := hr.on hn
        replace hs := hs.on hn
        replace hc := chain hc hn
        go_wp2_with fail
        go_roundw
        case rel => exact ⟨9 + 1, by omega, by go_num, hr, hs, hc, fun kd h1 h2 => by
            by_cases e : kd = 9
            · rw [e]; exact hd
            · exact HNO.out kd h1 (by omega)⟩
        case measure => simp [intOf]
    · have cc := fun W hW => clo_c ⟨#[117, 115, 101]⟩ ⟨#[109, 100]⟩ wd b4 W hW
      have hw := isW_yes (kd := 10) (by decide) (wd := wd)
      rw [show wordB 10 = ⟨#[117, 115, 101]⟩ from rfl] at hw
      rw [hw] at cc
      clear hw
      by_cases hd : wordL 10 = wd.data.toList
      · rw [decide_eq_true hd] at cc
        have CC := Lib.hid cc
        have HNO := Lib.hid hno
        clear cc hno
        have y1 := hs.cell
        have z1 := hs.lt
        go_wp2_with fail
        clear y1 z1
        refine Calls.mono (CC.out _ hr) ?_
        rintro e W1 ⟨rfl, hn⟩
        replace hr := hr.on hn
        replace hs := hs.on hn
        replace hc := chain hc hn
        go_wp2_with fail
        go_returns
        exact ⟨⟨_, rfl, .inl ⟨by decide, hd⟩⟩, hc⟩
      · rw [decide_eq_false hd] at cc
        have CC := Lib.hid cc
        have HNO := Lib.hid hno
        clear cc hno
        have y1 := hs.cell
        have z1 := hs.lt
        go_wp2_with fail
        clear y1 z1
        refine Calls.mono (CC.out _ hr) ?_
        rintro e W1 ⟨rfl, hn⟩
        replace hr := hr.on hn
        replace hs := hs.on hn
        replace hc := chain hc hn
        go_wp2_with fail
        go_roundw
        case rel => exact ⟨10 + 1, by omega, by go_num, hr, hs, hc, fun kd h1 h2 => by
            by_cases e : kd = 10
            · rw [e]; exact hd
            · exact HNO.out kd h1 (by omega)⟩
        case measure => simp [intOf]
    · have cc := fun W hW => clo_c ⟨#[114, 101, 110, 101, 119]⟩ ⟨#[109, 100, 116]⟩ wd b4 W hW
      have hw := isW_yes (kd := 11) (by decide) (wd := wd)
      rw [show wordB 11 = ⟨#[114, 101, 110, 101, 119]⟩ from rfl] at hw
      rw [hw] at cc
      clear hw
      by_cases hd : wordL 11 = wd.data.toList
      · rw [decide_eq_true hd] at cc
        have CC := Lib.hid cc
        have HNO := Lib.hid hno
        clear cc hno
        have y1 := hs.cell
        have z1 := hs.lt
        go_wp2_with fail
        clear y1 z1
        refine Calls.mono (CC.out _ hr) ?_
        rintro e W1 ⟨rfl, hn⟩
        replace hr := hr.on hn
        replace hs := hs.on hn
        replace hc := chain hc hn
        go_wp2_with fail
        go_returns
        exact ⟨⟨_, rfl, .inl ⟨by decide, hd⟩⟩, hc⟩
      · rw [decide_eq_false hd] at cc
        have CC := Lib.hid cc
        have HNO := Lib.hid hno
        clear cc hno
        have y1 := hs.cell
        have z1 := hs.lt
        go_wp2_with fail
        clear y1 z1
        refine Calls.mono (CC.out _ hr) ?_
        rintro e W1 ⟨rfl, hn⟩
        replace hr := hr.on hn
        replace hs := hs.on hn
        replace hc := chain hc hn
        go_wp2_with fail
        go_roundw
        case rel => exact ⟨11 + 1, by omega, by go_num, hr, hs, hc, fun kd h1 h2 => by
            by_cases e : kd = 11
            · rw [e]; exact hd
            · exact HNO.out kd h1 (by omega)⟩
        case measure => simp [intOf]
    · have cc := fun W hW => clo_c ⟨#[99, 108, 111, 115, 101]⟩ ⟨#[109, 100]⟩ wd b4 W hW
      have hw := isW_yes (kd := 12) (by decide) (wd := wd)
      rw [show wordB 12 = ⟨#[99, 108, 111, 115, 101]⟩ from rfl] at hw
      rw [hw] at cc
      clear hw
      by_cases hd : wordL 12 = wd.data.toList
      · rw [decide_eq_true hd] at cc
        have CC := Lib.hid cc
        have HNO := Lib.hid hno
        clear cc hno
        have y1 := hs.cell
        have z1 := hs.lt
        go_wp2_with fail
        clear y1 z1
        refine Calls.mono (CC.out _ hr) ?_
        rintro e W1 ⟨rfl, hn⟩
        replace hr := hr.on hn
        replace hs := hs.on hn
        replace hc := chain hc hn
        go_wp2_with fail
        go_returns
        exact ⟨⟨_, rfl, .inl ⟨by decide, hd⟩⟩, hc⟩
      · rw [decide_eq_false hd] at cc
        have CC := Lib.hid cc
        have HNO := Lib.hid hno
        clear cc hno
        have y1 := hs.cell
        have z1 := hs.lt
        go_wp2_with fail
        clear y1 z1
        refine Calls.mono (CC.out _ hr) ?_
        rintro e W1 ⟨rfl, hn⟩
        replace hr := hr.on hn
        replace hs := hs.on hn
        replace hc := chain hc hn
        go_wp2_with fail
        go_roundw
        case rel => exact ⟨12 + 1, by omega, by go_num, hr, hs, hc, fun kd h1 h2 => by
            by_cases e : kd = 12
            · rw [e]; exact hd
            · exact HNO.out kd h1 (by omega)⟩
        case measure => simp [intOf]
    · have cc := fun W hW => clo_c ⟨#[109, 97, 114, 107]⟩ ⟨#[115]⟩ wd b4 W hW
      have hw := isW_yes (kd := 13) (by decide) (wd := wd)
      rw [show wordB 13 = ⟨#[109, 97, 114, 107]⟩ from rfl] at hw
      rw [hw] at cc
      clear hw
      by_cases hd : wordL 13 = wd.data.toList
      · rw [decide_eq_true hd] at cc
        have CC := Lib.hid cc
        have HNO := Lib.hid hno
        clear cc hno
        have y1 := hs.cell
        have z1 := hs.lt
        go_wp2_with fail
        clear y1 z1
        refine Calls.mono (CC.out _ hr) ?_
        rintro e W1 ⟨rfl, hn⟩
        replace hr := hr.on hn
        replace hs := hs.on hn
        replace hc := chain hc hn
        go_wp2_with fail
        go_returns
        exact ⟨⟨_, rfl, .inl ⟨by decide, hd⟩⟩, hc⟩
      · rw [decide_eq_false hd] at cc
        have CC := Lib.hid cc
        have HNO := Lib.hid hno
        clear cc hno
        have y1 := hs.cell
        have z1 := hs.lt
        go_wp2_with fail
        clear y1 z1
        refine Calls.mono (CC.out _ hr) ?_
        rintro e W1 ⟨rfl, hn⟩
        replace hr := hr.on hn
        replace hs := hs.on hn
        replace hc := chain hc hn
        go_wp2_with fail
        go_roundw
        case rel => exact ⟨13 + 1, by omega, by go_num, hr, hs, hc, fun kd h1 h2 => by
            by_cases e : kd = 13
            · rw [e]; exact hd
            · exact HNO.out kd h1 (by omega)⟩
        case measure => simp [intOf]
    · have cc := fun W hW => clo_c ⟨#[98, 97, 116, 99, 104]⟩ ⟨#[]⟩ wd b4 W hW
      have hw := isW_yes (kd := 14) (by decide) (wd := wd)
      rw [show wordB 14 = ⟨#[98, 97, 116, 99, 104]⟩ from rfl] at hw
      rw [hw] at cc
      clear hw
      by_cases hd : wordL 14 = wd.data.toList
      · rw [decide_eq_true hd] at cc
        have CC := Lib.hid cc
        have HNO := Lib.hid hno
        clear cc hno
        have y1 := hs.cell
        have z1 := hs.lt
        go_wp2_with fail
        clear y1 z1
        refine Calls.mono (CC.out _ hr) ?_
        rintro e W1 ⟨rfl, hn⟩
        replace hr := hr.on hn
        replace hs := hs.on hn
        replace hc := chain hc hn
        go_wp2_with fail
        go_returns
        exact ⟨⟨_, rfl, .inl ⟨by decide, hd⟩⟩, hc⟩
      · rw [decide_eq_false hd] at cc
        have CC := Lib.hid cc
        have HNO := Lib.hid hno
        clear cc hno
        have y1 := hs.cell
        have z1 := hs.lt
        go_wp2_with fail
        clear y1 z1
        refine Calls.mono (CC.out _ hr) ?_
        rintro e W1 ⟨rfl, hn⟩
        replace hr := hr.on hn
        replace hs := hs.on hn
        replace hc := chain hc hn
        go_wp2_with fail
        go_roundw
        case rel => exact ⟨14 + 1, by omega, by go_num, hr, hs, hc, fun kd h1 h2 => by
            by_cases e : kd = 14
            · rw [e]; exact hd
            · exact HNO.out kd h1 (by omega)⟩
        case measure => simp [intOf]
    · have cc := fun W hW => clo_c ⟨#[116, 105, 99, 107]⟩ ⟨#[84]⟩ wd b4 W hW
      have hw := isW_yes (kd := 15) (by decide) (wd := wd)
      rw [show wordB 15 = ⟨#[116, 105, 99, 107]⟩ from rfl] at hw
      rw [hw] at cc
      clear hw
      by_cases hd : wordL 15 = wd.data.toList
      · rw [decide_eq_true hd] at cc
        have CC := Lib.hid cc
        have HNO := Lib.hid hno
        clear cc hno
        have y1 := hs.cell
        have z1 := hs.lt
        go_wp2_with fail
        clear y1 z1
        refine Calls.mono (CC.out _ hr) ?_
        rintro e W1 ⟨rfl, hn⟩
        replace hr := hr.on hn
        replace hs := hs.on hn
        replace hc := chain hc hn
        go_wp2_with fail
        go_returns
        exact ⟨⟨_, rfl, .inl ⟨by decide, hd⟩⟩, hc⟩
      · rw [decide_eq_false hd] at cc
        have CC := Lib.hid cc
        have HNO := Lib.hid hno
        clear cc hno
        have y1 := hs.cell
        have z1 := hs.lt
        go_wp2_with fail
        clear y1 z1
        refine Calls.mono (CC.out _ hr) ?_
        rintro e W1 ⟨rfl, hn⟩
        replace hr := hr.on hn
        replace hs := hs.on hn
        replace hc := chain hc hn
        go_wp2_with fail
        go_roundw
        case rel => exact ⟨15 + 1, by omega, by go_num, hr, hs, hc, fun kd h1 h2 => by
            by_cases e : kd = 15
            · rw [e]; exact hd
            · exact HNO.out kd h1 (by omega)⟩
        case measure => simp [intOf]
    · have cc := fun W hW => clo_c ⟨#[99, 121, 99, 108, 101]⟩ ⟨#[]⟩ wd b4 W hW
      have hw := isW_yes (kd := 16) (by decide) (wd := wd)
      rw [show wordB 16 = ⟨#[99, 121, 99, 108, 101]⟩ from rfl] at hw
      rw [hw] at cc
      clear hw
      by_cases hd : wordL 16 = wd.data.toList
      · rw [decide_eq_true hd] at cc
        have CC := Lib.hid cc
        have HNO := Lib.hid hno
        clear cc hno
        have y1 := hs.cell
        have z1 := hs.lt
        go_wp2_with fail
        clear y1 z1
        refine Calls.mono (CC.out _ hr) ?_
        rintro e W1 ⟨rfl, hn⟩
        replace hr := hr.on hn
        replace hs := hs.on hn
        replace hc := chain hc hn
        go_wp2_with fail
        go_returns
        exact ⟨⟨_, rfl, .inl ⟨by decide, hd⟩⟩, hc⟩
      · rw [decide_eq_false hd] at cc
        have CC := Lib.hid cc
        have HNO := Lib.hid hno
        clear cc hno
        have y1 := hs.cell
        have z1 := hs.lt
        go_wp2_with fail
        clear y1 z1
        refine Calls.mono (CC.out _ hr) ?_
        rintro e W1 ⟨rfl, hn⟩
        replace hr := hr.on hn
        replace hs := hs.on hn
        replace hc := chain hc hn
        go_wp2_with fail
        go_roundw
        case rel => exact ⟨16 + 1, by omega, by go_num, hr, hs, hc, fun kd h1 h2 => by
            by_cases e : kd = 16
            · rw [e]; exact hd
            · exact HNO.out kd h1 (by omega)⟩
        case measure => simp [intOf]
    · have cc := fun W hW => clo_c ⟨#[97, 110, 115, 119, 101, 114]⟩ ⟨#[97]⟩ wd b4 W hW
      have hw := isW_yes (kd := 17) (by decide) (wd := wd)
      rw [show wordB 17 = ⟨#[97, 110, 115, 119, 101, 114]⟩ from rfl] at hw
      rw [hw] at cc
      clear hw
      by_cases hd : wordL 17 = wd.data.toList
      · rw [decide_eq_true hd] at cc
        have CC := Lib.hid cc
        have HNO := Lib.hid hno
        clear cc hno
        have y1 := hs.cell
        have z1 := hs.lt
        go_wp2_with fail
        clear y1 z1
        refine Calls.mono (CC.out _ hr) ?_
        rintro e W1 ⟨rfl, hn⟩
        replace hr := hr.on hn
        replace hs := hs.on hn
        replace hc := chain hc hn
        go_wp2_with fail
        go_returns
        exact ⟨⟨_, rfl, .inl ⟨by decide, hd⟩⟩, hc⟩
      · rw [decide_eq_false hd] at cc
        have CC := Lib.hid cc
        have HNO := Lib.hid hno
        clear cc hno
        have y1 := hs.cell
        have z1 := hs.lt
        go_wp2_with fail
        clear y1 z1
        refine Calls.mono (CC.out _ hr) ?_
        rintro e W1 ⟨rfl, hn⟩
        replace hr := hr.on hn
        replace hs := hs.on hn
        replace hc := chain hc hn
        go_wp2_with fail
        go_roundw
        case rel => exact ⟨17 + 1, by omega, by go_num, hr, hs, hc, fun kd h1 h2 => by
            by_cases e : kd = 17
            · rw [e]; exact hd
            · exact HNO.out kd h1 (by omega)⟩
        case measure => simp [intOf]
    · go_wp2_with fail
      go_returns
      exact ⟨⟨_, rfl, .inr ⟨rfl, fun kd h1 h2 => hno kd h1 (by omega)⟩⟩, hc⟩
end Go.Proofs.YthkngleegefgbaaGreatDoor
