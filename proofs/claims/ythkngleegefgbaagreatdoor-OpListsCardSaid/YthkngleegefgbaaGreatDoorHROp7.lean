/- The reference's Parse of an operation, walked. -/
import Derived.Test.YthkngleegefgbaaGreatDoorM111a
import Derived.Test.YthkngleegefgbaaGreatDoorL2a
import Derived.Test.YthkngleegefgbaaGreatDoorL1a
import Derived.Deep.CutBlock
namespace Go.Proofs.YthkngleegefgbaaGreatDoor
open Go.RowKit
set_option linter.unusedVariables false
set_option linter.unusedSimpArgs false
set_option maxHeartbeats 40000000
set_option maxRecDepth 20000
/-- What the reference takes for the fields, by the kind. -/
def candF (v nF nA nB nL ai : Int) (G R : ByteArray) : Fl := ⟨if 1 ≤ v ∧ v ≤ 12 then nF else 0, if v = 13 ∨ v = 15 then nF else if v = 8 then ai else if v = 1 ∨ v = 2 ∨ v = 3 ∨ v = 4 ∨ v = 5 ∨ v = 9 ∨ v = 10 ∨ v = 11 ∨ v = 12 then nA else 0, if v = 6 then nA else if v = 2 ∨ v = 3 ∨ v = 5 ∨ v = 8 ∨ v = 11 then nB else 0, if v = 3 then nL else 0, if v = 8 then G else if v = 17 then R else ⟨#[]⟩⟩
/-- Which of the three letters, of the first ones. -/
def aK (A : ByteArray) (j : Int) : Int := if 1 < j ∧ A = ⟨#[102]⟩ then 1 else if 2 < j ∧ A = ⟨#[98]⟩ then 2 else if 3 < j ∧ A = ⟨#[108]⟩ then 3 else 0
theorem rparseO_core (s X R Fs M1 A M2 B M3 G : ByteArray) (nF nA nB nL gn ge : Int) (T : OpR → ByteArray) (E : OpR → Int) (acc : OpR → Bool)
    (k1 : ∀ w, Ret 40 #[.string s] w (.tuple #[.string X, .string R]))
    (k2 : ∀ w, Ret 40 #[.string R] w (.tuple #[.string Fs, .string M1]))
    (k3 : ∀ w, Ret 40 #[.string M1] w (.tuple #[.string A, .string M2]))
    (k4 : ∀ w, Ret 40 #[.string M2] w (.tuple #[.string B, .string M3]))
    (nf : ∀ w, Ret 41 #[.string Fs] w (.int .i64 nF))
    (na : ∀ w, Ret 41 #[.string A] w (.int .i64 nA))
    (nb : ∀ w, Ret 41 #[.string B] w (.int .i64 nB))
    (nl : ∀ w, Ret 41 #[.string M3] w (.int .i64 nL))
    (uq : ∀ w, Ret 42 #[.string M3] w (.tuple #[.string G, .int .i64 gn, .int .i64 ge]))
    (pt : ∀ p : OpR, p.2.tag = ⟨#[]⟩ ∨ p.2.tag = G ∨ p.2.tag = R → ∀ w, Ret 8 #[opRV p] w (.tuple #[.string (T p), .int .i64 (E p)]))
    (ha : ∀ p : OpR, (acc p = true ∧ E p = 0 ∧ T p = s) ∨ (acc p = false ∧ E p = 2) ∨ (acc p = false ∧ E p = 0 ∧ (T p).toList ≠ s.toList)) (w : World) :
    Calls Tryz.prog 16 #[.string s] w fun e w' => Below w.heap.size w w' ∧ ∃ v : Int, ((v = 0 ∧ ∀ k, 1 ≤ k → k ≤ 17 → wordB k ≠ X) ∨ (1 ≤ v ∧ v ≤ 17 ∧ wordB v = X)) ∧
      ((acc (v, candF v nF nA nB nL (aK A 4) G R) = true ∧ e = .returned (.tuple #[opRV (v, candF v nF nA nB nL (aK A 4) G R), .int .i64 0])) ∨ (acc (v, candF v nF nA nB nL (aK A 4) G R) = false ∧ e = .returned (.tuple #[op0V, .int .i64 9]))) := by
  have K1 := Lib.hid k1
  clear k1
  have K2 := Lib.hid k2
  clear k2
  have K3 := Lib.hid k3
  clear k3
  have K4 := Lib.hid k4
  clear k4
  have NF := Lib.hid nf
  clear nf
  have NA := Lib.hid na
  clear na
  have NB := Lib.hid nb
  clear nb
  have NL := Lib.hid nl
  clear nl
  have UQ := Lib.hid uq
  clear uq
  have PT := Lib.hid pt
  clear pt
  have HA := Lib.hid ha
  clear ha
  go_enter Tryz.func16, Tryz.ntmps16
  go_upto_region 1 with fail
  have r2 := Row.new (W := w) (cs := #[.int .i64 0, .int .i64 0, .int .i64 0, .int .i64 0, .int .i64 0, .string ⟨#[]⟩]) (t := 23)
  have hc := below_alloc w (.cells #[.int .i64 0, .int .i64 0, .int .i64 0, .int .i64 0, .int .i64 0, .string ⟨#[]⟩] 23)
  generalize w.alloc (.cells #[.int .i64 0, .int .i64 0, .int .i64 0, .int .i64 0, .int .i64 0, .string ⟨#[]⟩] 23) = W0 at r2 hc ⊢
  go_wp2_with fail
  refine Calls.mono (K1.out _) ?_
  rintro e W1 ⟨rfl, hn⟩
  replace r2 := r2.on hn
  replace hc := chain hc hn
  clear hn
  go_upto_region 3 with fail
  have rx := Row.new (W := W1) (cs := #[.int .i64 0, .int .i64 0, .int .i64 0, .int .i64 0, .int .i64 0, .string ⟨#[]⟩]) (t := 23)
  have hn := below_alloc W1 (.cells #[.int .i64 0, .int .i64 0, .int .i64 0, .int .i64 0, .int .i64 0, .string ⟨#[]⟩] 23)
  have hbx : w.heap.size < W1.heap.size := r2.lt
  replace r2 := r2.on hn
  replace hc := chain hc hn
  clear hn
  generalize W1.alloc (.cells #[.int .i64 0, .int .i64 0, .int .i64 0, .int .i64 0, .int .i64 0, .string ⟨#[]⟩] 23) = W2 at r2 rx hc ⊢
  generalize W1.heap.size = bx at *
  go_wp2_with fail
  go_loopw [7] (fun kv wr => ∃ k v : Int, 1 ≤ k ∧ k ≤ 18 ∧ kv = .int .i64 k ∧ Row wr w.heap.size #[.int .i64 0, .int .i64 0, .int .i64 0, .int .i64 0, .int .i64 0, .string ⟨#[]⟩] 23 ∧ Row wr bx #[.int .i64 v, .int .i64 0, .int .i64 0, .int .i64 0, .int .i64 0, .string ⟨#[]⟩] 23 ∧ RowKit.Hid ((v = 0 ∧ ∀ i, 1 ≤ i → i < k → wordB i ≠ X) ∨ (1 ≤ v ∧ v < k ∧ wordB v = X)) ∧ Below w.heap.size w wr) (fun kv _ => 18 - (intOf kv).toNat)
  case atStart => exact ⟨1, 0, by omega, by omega, rfl, r2, rx, Lib.hid (.inl ⟨rfl, fun i h1 h2 => by omega⟩), hc⟩
  case round =>
    clear r2 rx hc
    obtain ⟨k, v, hk1, hk18, rfl, r2, rx, hv, hc⟩ := hrel
    by_cases hlt : k ≤ 17
    · have CW := Lib.hid (fun W => rword_c k W)
      by_cases hwx : wordB k = X
      · rw [hwx] at CW
        have f1 : (X.toList == X.toList) = true := by simp
        go_wp2_with fail
        refine Calls.mono (CW.out _) ?_
        rintro e W3 ⟨rfl, hn⟩
        replace r2 := r2.on hn
        replace rx := rx.on hn
        replace hc := chain hc hn
        clear hn
        have y0 := rx.cell
        have y1 := rx.lt
        have y2 := rx.free
        go_wp2_with fail
        clear y0 y1 y2
        replace r2 := r2.other (show bx ≠ w.heap.size by omega) 0 (.int .i64 k)
        replace rx := rx.set 0 (.int .i64 k)
        simp only [List.setIfInBounds_toArray, List.set_cons_zero, List.set_cons_succ] at rx
        replace hc := hc.setCell (p := ⟨bx, 0, none⟩) (show w.heap.size ≤ bx by omega) (.int .i64 k)
        generalize hW : World.setCell _ _ _ = W4 at *
        clear hW
        go_roundw
        case rel => exact ⟨k + 1, k, by omega, by omega, by go_num, r2, rx, Lib.hid (.inr ⟨hk1, by omega, hwx⟩), hc⟩
        case measure => simp [intOf]; omega
      · have f1 := str_beq_ne hwx
        have HWX := Lib.hid hwx
        clear hwx
        generalize hWB : wordB k = WB at *
        have HWB := Lib.hid hWB
        clear hWB
        go_wp2_with fail
        refine Calls.mono (CW.out _) ?_
        rintro e W3 ⟨rfl, hn⟩
        replace r2 := r2.on hn
        replace rx := rx.on hn
        replace hc := chain hc hn
        clear hn
        go_wp2_with fail
        go_roundw
        case rel =>
          refine ⟨k + 1, v, by omega, by omega, by go_num, r2, rx, Lib.hid ?_, hc⟩
          rcases hv.out with ⟨h1, h2⟩ | ⟨h1, h2, h3⟩
          · refine .inl ⟨h1, fun i h3 h4 => ?_⟩
            by_cases hi : i = k
            · rw [hi, HWB.out]; exact HWX.out
            · exact h2 i h3 (by omega)
          · exact .inr ⟨h1, by omega, h3⟩
        case measure => simp [intOf]; omega
    · have ek : k = 18 := by omega
      have HV := Lib.hid (show (v = 0 ∧ ∀ i, 1 ≤ i → i ≤ 17 → wordB i ≠ X) ∨ (1 ≤ v ∧ v ≤ 17 ∧ wordB v = X) from hv.out.imp (fun h => ⟨h.1, fun i h1 h2 => h.2 i h1 (by omega)⟩) (fun h => ⟨h.1, by omega, h.2.2⟩))
      have hv0 : 0 ≤ v ∧ v ≤ 17 := by rcases HV.out with h | h; (have := h.1; omega); exact ⟨by omega, h.2.1⟩
      clear hv
      have CMU := Lib.hid (fun W => rmut_c v W)
      have y0 := rx.cell
      have y1 := rx.lt
      have y2 := rx.free
      go_wp2_with fail
      refine Calls.mono (K2.out _) ?_
      rintro e W5 ⟨rfl, hn⟩
      clear y0 y1 y2
      replace r2 := r2.on hn
      replace rx := rx.on hn
      replace hc := chain hc hn
      clear hn
      cases hmu : inB v 1 12
      rotate_left 1
      · have HMU := Lib.hid hmu
        rw [hmu] at CMU
        have y0 := rx.cell
        have y1 := rx.lt
        have y2 := rx.free
        go_wp2_with fail
        refine Calls.mono (CMU.out _) ?_
        rintro e W6 ⟨rfl, hW⟩
        subst hW
        clear y0 y1 y2
        have y0 := rx.cell
        have y1 := rx.lt
        have y2 := rx.free
        go_wp2_with fail
        refine Calls.mono (NF.out _) ?_
        rintro e W7 ⟨rfl, hn⟩
        clear y0 y1 y2
        replace r2 := r2.on hn
        replace rx := rx.on hn
        replace hc := chain hc hn
        clear hn
        have y0 := rx.cell
        have y1 := rx.lt
        have y2 := rx.free
        go_upto_region 11 with fail
        clear y0 y1 y2
        replace r2 := r2.other (show bx ≠ w.heap.size by omega) 1 (.int .i64 nF)
        replace rx := rx.set 1 (.int .i64 nF)
        simp only [List.setIfInBounds_toArray, List.set_cons_zero, List.set_cons_succ] at rx
        replace hc := hc.setCell (p := ⟨bx, 1, none⟩) (show w.heap.size ≤ bx by omega) (.int .i64 nF)
        generalize hW : World.setCell _ _ _ = W8 at *
        clear hW
        have y0 := rx.cell
        have y1 := rx.lt
        have y2 := rx.free
        go_wp2_with fail
        refine Calls.mono (K3.out _) ?_
        rintro e W9 ⟨rfl, hn⟩
        clear y0 y1 y2
        replace r2 := r2.on hn
        replace rx := rx.on hn
        replace hc := chain hc hn
        clear hn
        have y0 := rx.cell
        have y1 := rx.lt
        have y2 := rx.free
        go_wp2_with fail
        refine Calls.mono (K4.out _) ?_
        rintro e W10 ⟨rfl, hn⟩
        clear y0 y1 y2
        replace r2 := r2.on hn
        replace rx := rx.on hn
        replace hc := chain hc hn
        clear hn
        have y0 := rx.cell
        have y1 := rx.lt
        have y2 := rx.free
        go_upto_block 2 with fail
        clear y0 y1 y2
        go_cut [] (fun wx => Row wx w.heap.size #[.int .i64 0, .int .i64 0, .int .i64 0, .int .i64 0, .int .i64 0, .string ⟨#[]⟩] 23 ∧ Row wx bx #[.int .i64 v, .int .i64 (candF v nF nA nB nL (aK A 4) G R).m, .int .i64 (candF v nF nA nB nL (aK A 4) G R).a, .int .i64 (candF v nF nA nB nL (aK A 4) G R).b, .int .i64 (candF v nF nA nB nL (aK A 4) G R).c, .string (candF v nF nA nB nL (aK A 4) G R).tag] 23 ∧ Below w.heap.size w wx)
        case first =>
          have hkk : v = 1 ∨ v = 2 ∨ v = 3 ∨ v = 4 ∨ v = 5 ∨ v = 6 ∨ v = 7 ∨ v = 8 ∨ v = 9 ∨ v = 10 ∨ v = 11 ∨ v = 12 := by have h2 := HMU.out; unfold inB at h2; simp at h2; omega
          clear HMU HV hv0
          rcases hkk with rfl | rfl | rfl | rfl | rfl | rfl | rfl | rfl | rfl | rfl | rfl | rfl
          · have y0 := rx.cell
            have y1 := rx.lt
            have y2 := rx.free
            go_wp2_with fail
            refine Calls.mono (NA.out _) ?_
            rintro e U0 ⟨rfl, hn⟩
            clear y0 y1 y2
            replace r2 := r2.on hn
            replace rx := rx.on hn
            replace hc := chain hc hn
            clear hn
            have y0 := rx.cell
            have y1 := rx.lt
            have y2 := rx.free
            go_wp2_with fail
            clear y0 y1 y2
            replace r2 := r2.other (show bx ≠ w.heap.size by omega) 2 (.int .i64 nA)
            replace rx := rx.set 2 (.int .i64 nA)
            simp only [List.setIfInBounds_toArray, List.set_cons_zero, List.set_cons_succ] at rx
            replace hc := hc.setCell (p := ⟨bx, 2, none⟩) (show w.heap.size ≤ bx by omega) (.int .i64 nA)
            generalize hW : World.setCell _ _ _ = U0a at *
            clear hW
            go_meet
            exact ⟨r2, by simpa [candF] using rx, hc⟩
          · have y0 := rx.cell
            have y1 := rx.lt
            have y2 := rx.free
            go_wp2_with fail
            refine Calls.mono (NA.out _) ?_
            rintro e U0 ⟨rfl, hn⟩
            clear y0 y1 y2
            replace r2 := r2.on hn
            replace rx := rx.on hn
            replace hc := chain hc hn
            clear hn
            have y0 := rx.cell
            have y1 := rx.lt
            have y2 := rx.free
            go_upto_region 27 with fail
            clear y0 y1 y2
            replace r2 := r2.other (show bx ≠ w.heap.size by omega) 2 (.int .i64 nA)
            replace rx := rx.set 2 (.int .i64 nA)
            simp only [List.setIfInBounds_toArray, List.set_cons_zero, List.set_cons_succ] at rx
            replace hc := hc.setCell (p := ⟨bx, 2, none⟩) (show w.heap.size ≤ bx by omega) (.int .i64 nA)
            generalize hW : World.setCell _ _ _ = U0a at *
            clear hW
            have y0 := rx.cell
            have y1 := rx.lt
            have y2 := rx.free
            go_wp2_with fail
            refine Calls.mono (NB.out _) ?_
            rintro e U1 ⟨rfl, hn⟩
            clear y0 y1 y2
            replace r2 := r2.on hn
            replace rx := rx.on hn
            replace hc := chain hc hn
            clear hn
            have y0 := rx.cell
            have y1 := rx.lt
            have y2 := rx.free
            go_wp2_with fail
            clear y0 y1 y2
            replace r2 := r2.other (show bx ≠ w.heap.size by omega) 3 (.int .i64 nB)
            replace rx := rx.set 3 (.int .i64 nB)
            simp only [List.setIfInBounds_toArray, List.set_cons_zero, List.set_cons_succ] at rx
            replace hc := hc.setCell (p := ⟨bx, 3, none⟩) (show w.heap.size ≤ bx by omega) (.int .i64 nB)
            generalize hW : World.setCell _ _ _ = U1a at *
            clear hW
            go_meet
            exact ⟨r2, by simpa [candF] using rx, hc⟩
          · have y0 := rx.cell
            have y1 := rx.lt
            have y2 := rx.free
            go_wp2_with fail
            refine Calls.mono (NA.out _) ?_
            rintro e U0 ⟨rfl, hn⟩
            clear y0 y1 y2
            replace r2 := r2.on hn
            replace rx := rx.on hn
            replace hc := chain hc hn
            clear hn
            have y0 := rx.cell
            have y1 := rx.lt
            have y2 := rx.free
            go_upto_region 30 with fail
            clear y0 y1 y2
            replace r2 := r2.other (show bx ≠ w.heap.size by omega) 2 (.int .i64 nA)
            replace rx := rx.set 2 (.int .i64 nA)
            simp only [List.setIfInBounds_toArray, List.set_cons_zero, List.set_cons_succ] at rx
            replace hc := hc.setCell (p := ⟨bx, 2, none⟩) (show w.heap.size ≤ bx by omega) (.int .i64 nA)
            generalize hW : World.setCell _ _ _ = U0a at *
            clear hW
            have y0 := rx.cell
            have y1 := rx.lt
            have y2 := rx.free
            go_wp2_with fail
            refine Calls.mono (NB.out _) ?_
            rintro e U1 ⟨rfl, hn⟩
            clear y0 y1 y2
            replace r2 := r2.on hn
            replace rx := rx.on hn
            replace hc := chain hc hn
            clear hn
            have y0 := rx.cell
            have y1 := rx.lt
            have y2 := rx.free
            go_upto_region 31 with fail
            clear y0 y1 y2
            replace r2 := r2.other (show bx ≠ w.heap.size by omega) 3 (.int .i64 nB)
            replace rx := rx.set 3 (.int .i64 nB)
            simp only [List.setIfInBounds_toArray, List.set_cons_zero, List.set_cons_succ] at rx
            replace hc := hc.setCell (p := ⟨bx, 3, none⟩) (show w.heap.size ≤ bx by omega) (.int .i64 nB)
            generalize hW : World.setCell _ _ _ = U1a at *
            clear hW
            have y0 := rx.cell
            have y1 := rx.lt
            have y2 := rx.free
            go_wp2_with fail
            refine Calls.mono (NL.out _) ?_
            rintro e U2 ⟨rfl, hn⟩
            clear y0 y1 y2
            replace r2 := r2.on hn
            replace rx := rx.on hn
            replace hc := chain hc hn
            clear hn
            have y0 := rx.cell
            have y1 := rx.lt
            have y2 := rx.free
            go_wp2_with fail
            clear y0 y1 y2
            replace r2 := r2.other (show bx ≠ w.heap.size by omega) 4 (.int .i64 nL)
            replace rx := rx.set 4 (.int .i64 nL)
            simp only [List.setIfInBounds_toArray, List.set_cons_zero, List.set_cons_succ] at rx
            replace hc := hc.setCell (p := ⟨bx, 4, none⟩) (show w.heap.size ≤ bx by omega) (.int .i64 nL)
            generalize hW : World.setCell _ _ _ = U2a at *
            clear hW
            go_meet
            exact ⟨r2, by simpa [candF] using rx, hc⟩
          · have y0 := rx.cell
            have y1 := rx.lt
            have y2 := rx.free
            go_wp2_with fail
            refine Calls.mono (NA.out _) ?_
            rintro e U0 ⟨rfl, hn⟩
            clear y0 y1 y2
            replace r2 := r2.on hn
            replace rx := rx.on hn
            replace hc := chain hc hn
            clear hn
            have y0 := rx.cell
            have y1 := rx.lt
            have y2 := rx.free
            go_wp2_with fail
            clear y0 y1 y2
            replace r2 := r2.other (show bx ≠ w.heap.size by omega) 2 (.int .i64 nA)
            replace rx := rx.set 2 (.int .i64 nA)
            simp only [List.setIfInBounds_toArray, List.set_cons_zero, List.set_cons_succ] at rx
            replace hc := hc.setCell (p := ⟨bx, 2, none⟩) (show w.heap.size ≤ bx by omega) (.int .i64 nA)
            generalize hW : World.setCell _ _ _ = U0a at *
            clear hW
            go_meet
            exact ⟨r2, by simpa [candF] using rx, hc⟩
          · have y0 := rx.cell
            have y1 := rx.lt
            have y2 := rx.free
            go_wp2_with fail
            refine Calls.mono (NA.out _) ?_
            rintro e U0 ⟨rfl, hn⟩
            clear y0 y1 y2
            replace r2 := r2.on hn
            replace rx := rx.on hn
            replace hc := chain hc hn
            clear hn
            have y0 := rx.cell
            have y1 := rx.lt
            have y2 := rx.free
            go_upto_region 27 with fail
            clear y0 y1 y2
            replace r2 := r2.other (show bx ≠ w.heap.size by omega) 2 (.int .i64 nA)
            replace rx := rx.set 2 (.int .i64 nA)
            simp only [List.setIfInBounds_toArray, List.set_cons_zero, List.set_cons_succ] at rx
            replace hc := hc.setCell (p := ⟨bx, 2, none⟩) (show w.heap.size ≤ bx by omega) (.int .i64 nA)
            generalize hW : World.setCell _ _ _ = U0a at *
            clear hW
            have y0 := rx.cell
            have y1 := rx.lt
            have y2 := rx.free
            go_wp2_with fail
            refine Calls.mono (NB.out _) ?_
            rintro e U1 ⟨rfl, hn⟩
            clear y0 y1 y2
            replace r2 := r2.on hn
            replace rx := rx.on hn
            replace hc := chain hc hn
            clear hn
            have y0 := rx.cell
            have y1 := rx.lt
            have y2 := rx.free
            go_wp2_with fail
            clear y0 y1 y2
            replace r2 := r2.other (show bx ≠ w.heap.size by omega) 3 (.int .i64 nB)
            replace rx := rx.set 3 (.int .i64 nB)
            simp only [List.setIfInBounds_toArray, List.set_cons_zero, List.set_cons_succ] at rx
            replace hc := hc.setCell (p := ⟨bx, 3, none⟩) (show w.heap.size ≤ bx by omega) (.int .i64 nB)
            generalize hW : World.setCell _ _ _ = U1a at *
            clear hW
            go_meet
            exact ⟨r2, by simpa [candF] using rx, hc⟩
          · have y0 := rx.cell
            have y1 := rx.lt
            have y2 := rx.free
            go_wp2_with fail
            refine Calls.mono (NA.out _) ?_
            rintro e U0 ⟨rfl, hn⟩
            clear y0 y1 y2
            replace r2 := r2.on hn
            replace rx := rx.on hn
            replace hc := chain hc hn
            clear hn
            have y0 := rx.cell
            have y1 := rx.lt
            have y2 := rx.free
            go_wp2_with fail
            clear y0 y1 y2
            replace r2 := r2.other (show bx ≠ w.heap.size by omega) 3 (.int .i64 nA)
            replace rx := rx.set 3 (.int .i64 nA)
            simp only [List.setIfInBounds_toArray, List.set_cons_zero, List.set_cons_succ] at rx
            replace hc := hc.setCell (p := ⟨bx, 3, none⟩) (show w.heap.size ≤ bx by omega) (.int .i64 nA)
            generalize hW : World.setCell _ _ _ = U0a at *
            clear hW
            go_meet
            exact ⟨r2, by simpa [candF] using rx, hc⟩
          · go_wp2_with fail
            go_meet
            exact ⟨r2, by simpa [candF] using rx, hc⟩
          · go_wp2_with fail
            go_loopw [14] (fun jv wr => ∃ j : Int, 1 ≤ j ∧ j ≤ 4 ∧ jv = .int .i64 j ∧ Row wr w.heap.size #[.int .i64 0, .int .i64 0, .int .i64 0, .int .i64 0, .int .i64 0, .string ⟨#[]⟩] 23 ∧ Row wr bx #[.int .i64 8, .int .i64 nF, .int .i64 (aK A j), .int .i64 0, .int .i64 0, .string ⟨#[]⟩] 23 ∧ Below w.heap.size w wr) (fun jv _ => 4 - (intOf jv).toNat)
            case atStart => exact ⟨1, by omega, by omega, rfl, r2, by simpa [aK] using rx, hc⟩
            case round =>
              clear r2 rx hc
              obtain ⟨j, hj1, hj4, rfl, r2, rx, hc⟩ := hrel
              by_cases hlt3 : j ≤ 3
              · rcases (by omega : j = 1 ∨ j = 2 ∨ j = 3) with rfl | rfl | rfl
                · have wl : IntKind.i64.wrap (1 - 1) = 0 := by decide
                  have hn := below_alloc wr (.cells #[.string ⟨#[102]⟩, .string ⟨#[98]⟩, .string ⟨#[108]⟩] 9)
                  have r2n := r2.on hn
                  have rxn := rx.on hn
                  have hcn := chain hc hn
                  clear hn
                  by_cases hA : A = ⟨#[102]⟩
                  · have f1 : (A.toList == [102]) = true := by rw [hA, ByteArray.toList_eq]; decide
                    have ea : aK A (1 + 1) = 1 := by rw [hA]; decide
                    have HEA := Lib.hid ea
                    clear ea hA r2n rxn hcn
                    have y0 := rx.cell
                    have y1 := rx.lt
                    have y2 := rx.free
                    have hn1 := below_alloc wr (.cells #[.string ⟨#[102]⟩, .string ⟨#[98]⟩, .string ⟨#[108]⟩] 9)
                    have y3 := (rx.on hn1).free
                    clear hn1
                    go_wp2_with fail
                    clear y0 y1 y2
                    clear y3
                    replace r2 := r2.other (show bx ≠ w.heap.size by omega) 2 (.int .i64 1)
                    replace rx := rx.set 2 (.int .i64 1)
                    simp only [List.setIfInBounds_toArray, List.set_cons_zero, List.set_cons_succ] at rx
                    replace hc := hc.setCell (p := ⟨bx, 2, none⟩) (show w.heap.size ≤ bx by omega) (.int .i64 1)
                    generalize World.setCell wr _ _ = Wz at *
                    have hn := below_alloc Wz (.cells #[.string ⟨#[102]⟩, .string ⟨#[98]⟩, .string ⟨#[108]⟩] 9)
                    replace r2 := r2.on hn
                    replace rx := rx.on hn
                    replace hc := chain hc hn
                    go_roundw
                    case rel => exact ⟨1 + 1, by omega, by omega, by go_num, r2, by rw [HEA.out]; exact rx, hc⟩
                    case measure => simp [intOf]
                  · have f1 : (A.toList == [102]) = false := by have h := str_beq_ne (b := ⟨#[102]⟩) hA; rw [ByteArray.toList_eq ⟨#[102]⟩] at h; exact h
                    have ea : aK A (1 + 1) = aK A 1 := by unfold aK; simp [hA]
                    have HEA := Lib.hid ea
                    clear ea hA
                    generalize hQ : aK A 1 = Q at *
                    go_wp2_with fail
                    go_roundw
                    case rel => exact ⟨1 + 1, by omega, by omega, by go_num, r2n, by rw [HEA.out]; exact rxn, hcn⟩
                    case measure => simp [intOf]
                · have wl : IntKind.i64.wrap (2 - 1) = 1 := by decide
                  have hn := below_alloc wr (.cells #[.string ⟨#[102]⟩, .string ⟨#[98]⟩, .string ⟨#[108]⟩] 9)
                  have r2n := r2.on hn
                  have rxn := rx.on hn
                  have hcn := chain hc hn
                  clear hn
                  by_cases hA : A = ⟨#[98]⟩
                  · have f1 : (A.toList == [98]) = true := by rw [hA, ByteArray.toList_eq]; decide
                    have ea : aK A (2 + 1) = 2 := by rw [hA]; decide
                    have HEA := Lib.hid ea
                    clear ea hA r2n rxn hcn
                    have y0 := rx.cell
                    have y1 := rx.lt
                    have y2 := rx.free
                    have hn1 := below_alloc wr (.cells #[.string ⟨#[102]⟩, .string ⟨#[98]⟩, .string ⟨#[108]⟩] 9)
                    have y3 := (rx.on hn1).free
                    clear hn1
                    go_wp2_with fail
                    clear y0 y1 y2
                    clear y3
                    replace r2 := r2.other (show bx ≠ w.heap.size by omega) 2 (.int .i64 2)
                    replace rx := rx.set 2 (.int .i64 2)
                    simp only [List.setIfInBounds_toArray, List.set_cons_zero, List.set_cons_succ] at rx
                    replace hc := hc.setCell (p := ⟨bx, 2, none⟩) (show w.heap.size ≤ bx by omega) (.int .i64 2)
                    generalize World.setCell wr _ _ = Wz at *
                    have hn := below_alloc Wz (.cells #[.string ⟨#[102]⟩, .string ⟨#[98]⟩, .string ⟨#[108]⟩] 9)
                    replace r2 := r2.on hn
                    replace rx := rx.on hn
                    replace hc := chain hc hn
                    go_roundw
                    case rel => exact ⟨2 + 1, by omega, by omega, by go_num, r2, by rw [HEA.out]; exact rx, hc⟩
                    case measure => simp [intOf]
                  · have f1 : (A.toList == [98]) = false := by have h := str_beq_ne (b := ⟨#[98]⟩) hA; rw [ByteArray.toList_eq ⟨#[98]⟩] at h; exact h
                    have ea : aK A (2 + 1) = aK A 2 := by unfold aK; simp [hA]
                    have HEA := Lib.hid ea
                    clear ea hA
                    generalize hQ : aK A 2 = Q at *
                    go_wp2_with fail
                    go_roundw
                    case rel => exact ⟨2 + 1, by omega, by omega, by go_num, r2n, by rw [HEA.out]; exact rxn, hcn⟩
                    case measure => simp [intOf]
                · have wl : IntKind.i64.wrap (3 - 1) = 2 := by decide
                  have hn := below_alloc wr (.cells #[.string ⟨#[102]⟩, .string ⟨#[98]⟩, .string ⟨#[108]⟩] 9)
                  have r2n := r2.on hn
                  have rxn := rx.on hn
                  have hcn := chain hc hn
                  clear hn
                  by_cases hA : A = ⟨#[108]⟩
                  · have f1 : (A.toList == [108]) = true := by rw [hA, ByteArray.toList_eq]; decide
                    have ea : aK A (3 + 1) = 3 := by rw [hA]; decide
                    have HEA := Lib.hid ea
                    clear ea hA r2n rxn hcn
                    have y0 := rx.cell
                    have y1 := rx.lt
                    have y2 := rx.free
                    have hn1 := below_alloc wr (.cells #[.string ⟨#[102]⟩, .string ⟨#[98]⟩, .string ⟨#[108]⟩] 9)
                    have y3 := (rx.on hn1).free
                    clear hn1
                    go_wp2_with fail
                    clear y0 y1 y2
                    clear y3
                    replace r2 := r2.other (show bx ≠ w.heap.size by omega) 2 (.int .i64 3)
                    replace rx := rx.set 2 (.int .i64 3)
                    simp only [List.setIfInBounds_toArray, List.set_cons_zero, List.set_cons_succ] at rx
                    replace hc := hc.setCell (p := ⟨bx, 2, none⟩) (show w.heap.size ≤ bx by omega) (.int .i64 3)
                    generalize World.setCell wr _ _ = Wz at *
                    have hn := below_alloc Wz (.cells #[.string ⟨#[102]⟩, .string ⟨#[98]⟩, .string ⟨#[108]⟩] 9)
                    replace r2 := r2.on hn
                    replace rx := rx.on hn
                    replace hc := chain hc hn
                    go_roundw
                    case rel => exact ⟨3 + 1, by omega, by omega, by go_num, r2, by rw [HEA.out]; exact rx, hc⟩
                    case measure => simp [intOf]
                  · have f1 : (A.toList == [108]) = false := by have h := str_beq_ne (b := ⟨#[108]⟩) hA; rw [ByteArray.toList_eq ⟨#[108]⟩] at h; exact h
                    have ea : aK A (3 + 1) = aK A 3 := by unfold aK; simp [hA]
                    have HEA := Lib.hid ea
                    clear ea hA
                    generalize hQ : aK A 3 = Q at *
                    go_wp2_with fail
                    go_roundw
                    case rel => exact ⟨3 + 1, by omega, by omega, by go_num, r2n, by rw [HEA.out]; exact rxn, hcn⟩
                    case measure => simp [intOf]
              · obtain rfl : j = 4 := by omega
                generalize hQ : aK A 4 = Q at *
                have HQ := Lib.hid hQ
                clear hQ
                have y0 := rx.cell
                have y1 := rx.lt
                have y2 := rx.free
                go_wp2_with fail
                refine Calls.mono (NB.out _) ?_
                rintro e U0 ⟨rfl, hn⟩
                clear y0 y1 y2
                replace r2 := r2.on hn
                replace rx := rx.on hn
                replace hc := chain hc hn
                clear hn
                have y0 := rx.cell
                have y1 := rx.lt
                have y2 := rx.free
                go_upto_region 41 with fail
                clear y0 y1 y2
                replace r2 := r2.other (show bx ≠ w.heap.size by omega) 3 (.int .i64 nB)
                replace rx := rx.set 3 (.int .i64 nB)
                simp only [List.setIfInBounds_toArray, List.set_cons_zero, List.set_cons_succ] at rx
                replace hc := hc.setCell (p := ⟨bx, 3, none⟩) (show w.heap.size ≤ bx by omega) (.int .i64 nB)
                generalize hW : World.setCell _ _ _ = U0a at *
                clear hW
                have y0 := rx.cell
                have y1 := rx.lt
                have y2 := rx.free
                go_wp2_with fail
                refine Calls.mono (UQ.out _) ?_
                rintro e U1 ⟨rfl, hn⟩
                clear y0 y1 y2
                replace r2 := r2.on hn
                replace rx := rx.on hn
                replace hc := chain hc hn
                clear hn
                have y0 := rx.cell
                have y1 := rx.lt
                have y2 := rx.free
                go_wp2_with fail
                clear y0 y1 y2
                replace r2 := r2.other (show bx ≠ w.heap.size by omega) 5 (.string G)
                replace rx := rx.set 5 (.string G)
                simp only [List.setIfInBounds_toArray, List.set_cons_zero, List.set_cons_succ] at rx
                replace hc := hc.setCell (p := ⟨bx, 5, none⟩) (show w.heap.size ≤ bx by omega) (.string G)
                generalize hW : World.setCell _ _ _ = U1a at *
                clear hW
                go_meet
                exact ⟨r2, by simpa [candF, HQ.out] using rx, hc⟩
          · have y0 := rx.cell
            have y1 := rx.lt
            have y2 := rx.free
            go_wp2_with fail
            refine Calls.mono (NA.out _) ?_
            rintro e U0 ⟨rfl, hn⟩
            clear y0 y1 y2
            replace r2 := r2.on hn
            replace rx := rx.on hn
            replace hc := chain hc hn
            clear hn
            have y0 := rx.cell
            have y1 := rx.lt
            have y2 := rx.free
            go_wp2_with fail
            clear y0 y1 y2
            replace r2 := r2.other (show bx ≠ w.heap.size by omega) 2 (.int .i64 nA)
            replace rx := rx.set 2 (.int .i64 nA)
            simp only [List.setIfInBounds_toArray, List.set_cons_zero, List.set_cons_succ] at rx
            replace hc := hc.setCell (p := ⟨bx, 2, none⟩) (show w.heap.size ≤ bx by omega) (.int .i64 nA)
            generalize hW : World.setCell _ _ _ = U0a at *
            clear hW
            go_meet
            exact ⟨r2, by simpa [candF] using rx, hc⟩
          · have y0 := rx.cell
            have y1 := rx.lt
            have y2 := rx.free
            go_wp2_with fail
            refine Calls.mono (NA.out _) ?_
            rintro e U0 ⟨rfl, hn⟩
            clear y0 y1 y2
            replace r2 := r2.on hn
            replace rx := rx.on hn
            replace hc := chain hc hn
            clear hn
            have y0 := rx.cell
            have y1 := rx.lt
            have y2 := rx.free
            go_wp2_with fail
            clear y0 y1 y2
            replace r2 := r2.other (show bx ≠ w.heap.size by omega) 2 (.int .i64 nA)
            replace rx := rx.set 2 (.int .i64 nA)
            simp only [List.setIfInBounds_toArray, List.set_cons_zero, List.set_cons_succ] at rx
            replace hc := hc.setCell (p := ⟨bx, 2, none⟩) (show w.heap.size ≤ bx by omega) (.int .i64 nA)
            generalize hW : World.setCell _ _ _ = U0a at *
            clear hW
            go_meet
            exact ⟨r2, by simpa [candF] using rx, hc⟩
          · have y0 := rx.cell
            have y1 := rx.lt
            have y2 := rx.free
            go_wp2_with fail
            refine Calls.mono (NA.out _) ?_
            rintro e U0 ⟨rfl, hn⟩
            clear y0 y1 y2
            replace r2 := r2.on hn
            replace rx := rx.on hn
            replace hc := chain hc hn
            clear hn
            have y0 := rx.cell
            have y1 := rx.lt
            have y2 := rx.free
            go_upto_region 27 with fail
            clear y0 y1 y2
            replace r2 := r2.other (show bx ≠ w.heap.size by omega) 2 (.int .i64 nA)
            replace rx := rx.set 2 (.int .i64 nA)
            simp only [List.setIfInBounds_toArray, List.set_cons_zero, List.set_cons_succ] at rx
            replace hc := hc.setCell (p := ⟨bx, 2, none⟩) (show w.heap.size ≤ bx by omega) (.int .i64 nA)
            generalize hW : World.setCell _ _ _ = U0a at *
            clear hW
            have y0 := rx.cell
            have y1 := rx.lt
            have y2 := rx.free
            go_wp2_with fail
            refine Calls.mono (NB.out _) ?_
            rintro e U1 ⟨rfl, hn⟩
            clear y0 y1 y2
            replace r2 := r2.on hn
            replace rx := rx.on hn
            replace hc := chain hc hn
            clear hn
            have y0 := rx.cell
            have y1 := rx.lt
            have y2 := rx.free
            go_wp2_with fail
            clear y0 y1 y2
            replace r2 := r2.other (show bx ≠ w.heap.size by omega) 3 (.int .i64 nB)
            replace rx := rx.set 3 (.int .i64 nB)
            simp only [List.setIfInBounds_toArray, List.set_cons_zero, List.set_cons_succ] at rx
            replace hc := hc.setCell (p := ⟨bx, 3, none⟩) (show w.heap.size ≤ bx by omega) (.int .i64 nB)
            generalize hW : World.setCell _ _ _ = U1a at *
            clear hW
            go_meet
            exact ⟨r2, by simpa [candF] using rx, hc⟩
          · have y0 := rx.cell
            have y1 := rx.lt
            have y2 := rx.free
            go_wp2_with fail
            refine Calls.mono (NA.out _) ?_
            rintro e U0 ⟨rfl, hn⟩
            clear y0 y1 y2
            replace r2 := r2.on hn
            replace rx := rx.on hn
            replace hc := chain hc hn
            clear hn
            have y0 := rx.cell
            have y1 := rx.lt
            have y2 := rx.free
            go_wp2_with fail
            clear y0 y1 y2
            replace r2 := r2.other (show bx ≠ w.heap.size by omega) 2 (.int .i64 nA)
            replace rx := rx.set 2 (.int .i64 nA)
            simp only [List.setIfInBounds_toArray, List.set_cons_zero, List.set_cons_succ] at rx
            replace hc := hc.setCell (p := ⟨bx, 2, none⟩) (show w.heap.size ≤ bx by omega) (.int .i64 nA)
            generalize hW : World.setCell _ _ _ = U0a at *
            clear hW
            go_meet
            exact ⟨r2, by simpa [candF] using rx, hc⟩
        case rest =>
          clear r2 rx hc
          obtain ⟨r2, rx, hc⟩ := hcut
          have y0 := rx.cell
          have y1 := rx.lt
          have y2 := rx.free
          have hp : (candF v nF nA nB nL (aK A 4) G R).tag = ⟨#[]⟩ ∨ (candF v nF nA nB nL (aK A 4) G R).tag = G ∨ (candF v nF nA nB nL (aK A 4) G R).tag = R := by unfold candF; simp only; split; (exact .inr (.inl rfl)); split; (exact .inr (.inr rfl)); exact .inl rfl
          have PP := Lib.hid (PT.out (v, candF v nF nA nB nL (aK A 4) G R) hp)
          have a := HA.out (v, candF v nF nA nB nL (aK A 4) G R)
          clear hp
          generalize hC : candF v nF nA nB nL (aK A 4) G R = C at *
          obtain ⟨m, a0, b0, c0, tg⟩ := C
          generalize hTT : T (v, ⟨m, a0, b0, c0, tg⟩) = TT at *
          generalize hEE : E (v, ⟨m, a0, b0, c0, tg⟩) = EE at *
          clear hTT hEE
          rcases a with ⟨hb, rfl, rfl⟩ | ⟨hb, rfl⟩ | ⟨hb, rfl, he⟩
          · have f1 : (TT.toList == TT.toList) = true := by simp
            have f2 : (TT.toList != TT.toList) = false := by simp
            go_wp2_with fail
            refine Calls.mono (PP.out _) ?_
            rintro e V9 ⟨rfl, hn⟩
            clear y0 y1 y2
            replace r2 := r2.on hn
            replace rx := rx.on hn
            replace hc := chain hc hn
            clear hn
            have y0 := rx.cell
            have y1 := rx.lt
            have y2 := rx.free
            have x0 := r2.cell
            have x1 := r2.lt
            have x2 := r2.free
            go_wp2_with fail
            clear y0 y1 y2 x0 x1 x2
            clear rx
            replace r2 := r2.set 0 (.int .i64 v)
            replace r2 := r2.set 1 (.int .i64 m)
            replace r2 := r2.set 2 (.int .i64 a0)
            replace r2 := r2.set 3 (.int .i64 b0)
            replace r2 := r2.set 4 (.int .i64 c0)
            replace r2 := r2.set 5 (.string tg)
            replace hc := hc.setCell (p := ⟨w.heap.size, 0, none⟩) (Nat.le_refl _) (.int .i64 v)
            replace hc := hc.setCell (p := ⟨w.heap.size, 1, none⟩) (Nat.le_refl _) (.int .i64 m)
            replace hc := hc.setCell (p := ⟨w.heap.size, 2, none⟩) (Nat.le_refl _) (.int .i64 a0)
            replace hc := hc.setCell (p := ⟨w.heap.size, 3, none⟩) (Nat.le_refl _) (.int .i64 b0)
            replace hc := hc.setCell (p := ⟨w.heap.size, 4, none⟩) (Nat.le_refl _) (.int .i64 c0)
            replace hc := hc.setCell (p := ⟨w.heap.size, 5, none⟩) (Nat.le_refl _) (.string tg)
            simp only [List.setIfInBounds_toArray, List.set_cons_zero, List.set_cons_succ] at r2
            generalize hW : World.setCell _ _ _ = Zw at *
            clear hW
            have z := r2.cell
            refine bodyPost_ret (v := .tuple #[opRV (v, ⟨m, a0, b0, c0, tg⟩), .int .i64 0]) (by simp [results, Tryz.results16, go_sem, z]) rfl ⟨hc, v, HV.out, .inl ⟨by rw [hC]; exact hb, by rw [hC]⟩⟩
          · go_wp2_with fail
            refine Calls.mono (PP.out _) ?_
            rintro e V9 ⟨rfl, hn⟩
            clear y0 y1 y2
            replace r2 := r2.on hn
            replace rx := rx.on hn
            replace hc := chain hc hn
            clear hn
            have x0 := r2.cell
            have x1 := r2.lt
            have x2 := r2.free
            go_wp2_with fail
            clear x0 x1 x2
            clear rx
            replace r2 := r2.set 0 (.int .i64 0)
            replace r2 := r2.set 1 (.int .i64 0)
            replace r2 := r2.set 2 (.int .i64 0)
            replace r2 := r2.set 3 (.int .i64 0)
            replace r2 := r2.set 4 (.int .i64 0)
            replace r2 := r2.set 5 (.string ⟨#[]⟩)
            replace hc := hc.setCell (p := ⟨w.heap.size, 0, none⟩) (Nat.le_refl _) (.int .i64 0)
            replace hc := hc.setCell (p := ⟨w.heap.size, 1, none⟩) (Nat.le_refl _) (.int .i64 0)
            replace hc := hc.setCell (p := ⟨w.heap.size, 2, none⟩) (Nat.le_refl _) (.int .i64 0)
            replace hc := hc.setCell (p := ⟨w.heap.size, 3, none⟩) (Nat.le_refl _) (.int .i64 0)
            replace hc := hc.setCell (p := ⟨w.heap.size, 4, none⟩) (Nat.le_refl _) (.int .i64 0)
            replace hc := hc.setCell (p := ⟨w.heap.size, 5, none⟩) (Nat.le_refl _) (.string ⟨#[]⟩)
            simp only [List.setIfInBounds_toArray, List.set_cons_zero, List.set_cons_succ] at r2
            generalize hW : World.setCell _ _ _ = Zw at *
            clear hW
            have z := r2.cell
            refine bodyPost_ret (v := .tuple #[op0V, .int .i64 9]) (by simp [results, Tryz.results16, go_sem, z]) rfl ⟨hc, v, HV.out, .inr ⟨by rw [hC]; exact hb, rfl⟩⟩
          · have f1 : (TT.toList == s.toList) = false := by rw [beq_eq_false_iff_ne]; exact he
            have f2 : (TT.toList != s.toList) = true := by rw [bne_iff_ne]; exact he
            clear he
            go_wp2_with fail
            refine Calls.mono (PP.out _) ?_
            rintro e V9 ⟨rfl, hn⟩
            clear y0 y1 y2
            replace r2 := r2.on hn
            replace rx := rx.on hn
            replace hc := chain hc hn
            clear hn
            have x0 := r2.cell
            have x1 := r2.lt
            have x2 := r2.free
            go_wp2_with fail
            clear x0 x1 x2
            clear rx
            replace r2 := r2.set 0 (.int .i64 0)
            replace r2 := r2.set 1 (.int .i64 0)
            replace r2 := r2.set 2 (.int .i64 0)
            replace r2 := r2.set 3 (.int .i64 0)
            replace r2 := r2.set 4 (.int .i64 0)
            replace r2 := r2.set 5 (.string ⟨#[]⟩)
            replace hc := hc.setCell (p := ⟨w.heap.size, 0, none⟩) (Nat.le_refl _) (.int .i64 0)
            replace hc := hc.setCell (p := ⟨w.heap.size, 1, none⟩) (Nat.le_refl _) (.int .i64 0)
            replace hc := hc.setCell (p := ⟨w.heap.size, 2, none⟩) (Nat.le_refl _) (.int .i64 0)
            replace hc := hc.setCell (p := ⟨w.heap.size, 3, none⟩) (Nat.le_refl _) (.int .i64 0)
            replace hc := hc.setCell (p := ⟨w.heap.size, 4, none⟩) (Nat.le_refl _) (.int .i64 0)
            replace hc := hc.setCell (p := ⟨w.heap.size, 5, none⟩) (Nat.le_refl _) (.string ⟨#[]⟩)
            simp only [List.setIfInBounds_toArray, List.set_cons_zero, List.set_cons_succ] at r2
            generalize hW : World.setCell _ _ _ = Zw at *
            clear hW
            have z := r2.cell
            refine bodyPost_ret (v := .tuple #[op0V, .int .i64 9]) (by simp [results, Tryz.results16, go_sem, z]) rfl ⟨hc, v, HV.out, .inr ⟨by rw [hC]; exact hb, rfl⟩⟩
      · have HMU := Lib.hid hmu
        rw [hmu] at CMU
        have y0 := rx.cell
        have y1 := rx.lt
        have y2 := rx.free
        go_wp2_with fail
        refine Calls.mono (CMU.out _) ?_
        rintro e W6 ⟨rfl, hW⟩
        subst hW
        clear y0 y1 y2
        have y0 := rx.cell
        have y1 := rx.lt
        have y2 := rx.free
        go_wp2_with fail
        refine Calls.mono (K2.out _) ?_
        rintro e W9 ⟨rfl, hn⟩
        clear y0 y1 y2
        replace r2 := r2.on hn
        replace rx := rx.on hn
        replace hc := chain hc hn
        clear hn
        have y0 := rx.cell
        have y1 := rx.lt
        have y2 := rx.free
        go_wp2_with fail
        refine Calls.mono (K3.out _) ?_
        rintro e W10 ⟨rfl, hn⟩
        clear y0 y1 y2
        replace r2 := r2.on hn
        replace rx := rx.on hn
        replace hc := chain hc hn
        clear hn
        have y0 := rx.cell
        have y1 := rx.lt
        have y2 := rx.free
        go_upto_block 2 with fail
        clear y0 y1 y2
        go_cut [] (fun wx => Row wx w.heap.size #[.int .i64 0, .int .i64 0, .int .i64 0, .int .i64 0, .int .i64 0, .string ⟨#[]⟩] 23 ∧ Row wx bx #[.int .i64 v, .int .i64 (candF v nF nA nB nL (aK A 4) G R).m, .int .i64 (candF v nF nA nB nL (aK A 4) G R).a, .int .i64 (candF v nF nA nB nL (aK A 4) G R).b, .int .i64 (candF v nF nA nB nL (aK A 4) G R).c, .string (candF v nF nA nB nL (aK A 4) G R).tag] 23 ∧ Below w.heap.size w wx)
        case first =>
          have hkk : v = 0 ∨ v = 13 ∨ v = 14 ∨ v = 15 ∨ v = 16 ∨ v = 17 := by have h2 := HMU.out; unfold inB at h2; simp at h2; omega
          clear HMU HV hv0
          rcases hkk with rfl | rfl | rfl | rfl | rfl | rfl
          · go_wp2_with fail
            go_meet
            exact ⟨r2, by simpa [candF] using rx, hc⟩
          · have y0 := rx.cell
            have y1 := rx.lt
            have y2 := rx.free
            go_wp2_with fail
            refine Calls.mono (NF.out _) ?_
            rintro e U0 ⟨rfl, hn⟩
            clear y0 y1 y2
            replace r2 := r2.on hn
            replace rx := rx.on hn
            replace hc := chain hc hn
            clear hn
            have y0 := rx.cell
            have y1 := rx.lt
            have y2 := rx.free
            go_wp2_with fail
            clear y0 y1 y2
            replace r2 := r2.other (show bx ≠ w.heap.size by omega) 2 (.int .i64 nF)
            replace rx := rx.set 2 (.int .i64 nF)
            simp only [List.setIfInBounds_toArray, List.set_cons_zero, List.set_cons_succ] at rx
            replace hc := hc.setCell (p := ⟨bx, 2, none⟩) (show w.heap.size ≤ bx by omega) (.int .i64 nF)
            generalize hW : World.setCell _ _ _ = U0a at *
            clear hW
            go_meet
            exact ⟨r2, by simpa [candF] using rx, hc⟩
          · go_wp2_with fail
            go_meet
            exact ⟨r2, by simpa [candF] using rx, hc⟩
          · have y0 := rx.cell
            have y1 := rx.lt
            have y2 := rx.free
            go_wp2_with fail
            refine Calls.mono (NF.out _) ?_
            rintro e U0 ⟨rfl, hn⟩
            clear y0 y1 y2
            replace r2 := r2.on hn
            replace rx := rx.on hn
            replace hc := chain hc hn
            clear hn
            have y0 := rx.cell
            have y1 := rx.lt
            have y2 := rx.free
            go_wp2_with fail
            clear y0 y1 y2
            replace r2 := r2.other (show bx ≠ w.heap.size by omega) 2 (.int .i64 nF)
            replace rx := rx.set 2 (.int .i64 nF)
            simp only [List.setIfInBounds_toArray, List.set_cons_zero, List.set_cons_succ] at rx
            replace hc := hc.setCell (p := ⟨bx, 2, none⟩) (show w.heap.size ≤ bx by omega) (.int .i64 nF)
            generalize hW : World.setCell _ _ _ = U0a at *
            clear hW
            go_meet
            exact ⟨r2, by simpa [candF] using rx, hc⟩
          · go_wp2_with fail
            go_meet
            exact ⟨r2, by simpa [candF] using rx, hc⟩
          · have y0 := rx.cell
            have y1 := rx.lt
            have y2 := rx.free
            go_wp2_with fail
            clear y0 y1 y2
            replace r2 := r2.other (show bx ≠ w.heap.size by omega) 5 (.string R)
            replace rx := rx.set 5 (.string R)
            simp only [List.setIfInBounds_toArray, List.set_cons_zero, List.set_cons_succ] at rx
            replace hc := hc.setCell (p := ⟨bx, 5, none⟩) (show w.heap.size ≤ bx by omega) (.string R)
            generalize hW : World.setCell _ _ _ = U0a at *
            clear hW
            go_meet
            exact ⟨r2, by simpa [candF] using rx, hc⟩
        case rest =>
          clear r2 rx hc
          obtain ⟨r2, rx, hc⟩ := hcut
          have y0 := rx.cell
          have y1 := rx.lt
          have y2 := rx.free
          have hp : (candF v nF nA nB nL (aK A 4) G R).tag = ⟨#[]⟩ ∨ (candF v nF nA nB nL (aK A 4) G R).tag = G ∨ (candF v nF nA nB nL (aK A 4) G R).tag = R := by unfold candF; simp only; split; (exact .inr (.inl rfl)); split; (exact .inr (.inr rfl)); exact .inl rfl
          have PP := Lib.hid (PT.out (v, candF v nF nA nB nL (aK A 4) G R) hp)
          have a := HA.out (v, candF v nF nA nB nL (aK A 4) G R)
          clear hp
          generalize hC : candF v nF nA nB nL (aK A 4) G R = C at *
          obtain ⟨m, a0, b0, c0, tg⟩ := C
          generalize hTT : T (v, ⟨m, a0, b0, c0, tg⟩) = TT at *
          generalize hEE : E (v, ⟨m, a0, b0, c0, tg⟩) = EE at *
          clear hTT hEE
          rcases a with ⟨hb, rfl, rfl⟩ | ⟨hb, rfl⟩ | ⟨hb, rfl, he⟩
          · have f1 : (TT.toList == TT.toList) = true := by simp
            have f2 : (TT.toList != TT.toList) = false := by simp
            go_wp2_with fail
            refine Calls.mono (PP.out _) ?_
            rintro e V9 ⟨rfl, hn⟩
            clear y0 y1 y2
            replace r2 := r2.on hn
            replace rx := rx.on hn
            replace hc := chain hc hn
            clear hn
            have y0 := rx.cell
            have y1 := rx.lt
            have y2 := rx.free
            have x0 := r2.cell
            have x1 := r2.lt
            have x2 := r2.free
            go_wp2_with fail
            clear y0 y1 y2 x0 x1 x2
            clear rx
            replace r2 := r2.set 0 (.int .i64 v)
            replace r2 := r2.set 1 (.int .i64 m)
            replace r2 := r2.set 2 (.int .i64 a0)
            replace r2 := r2.set 3 (.int .i64 b0)
            replace r2 := r2.set 4 (.int .i64 c0)
            replace r2 := r2.set 5 (.string tg)
            replace hc := hc.setCell (p := ⟨w.heap.size, 0, none⟩) (Nat.le_refl _) (.int .i64 v)
            replace hc := hc.setCell (p := ⟨w.heap.size, 1, none⟩) (Nat.le_refl _) (.int .i64 m)
            replace hc := hc.setCell (p := ⟨w.heap.size, 2, none⟩) (Nat.le_refl _) (.int .i64 a0)
            replace hc := hc.setCell (p := ⟨w.heap.size, 3, none⟩) (Nat.le_refl _) (.int .i64 b0)
            replace hc := hc.setCell (p := ⟨w.heap.size, 4, none⟩) (Nat.le_refl _) (.int .i64 c0)
            replace hc := hc.setCell (p := ⟨w.heap.size, 5, none⟩) (Nat.le_refl _) (.string tg)
            simp only [List.setIfInBounds_toArray, List.set_cons_zero, List.set_cons_succ] at r2
            generalize hW : World.setCell _ _ _ = Zw at *
            clear hW
            have z := r2.cell
            refine bodyPost_ret (v := .tuple #[opRV (v, ⟨m, a0, b0, c0, tg⟩), .int .i64 0]) (by simp [results, Tryz.results16, go_sem, z]) rfl ⟨hc, v, HV.out, .inl ⟨by rw [hC]; exact hb, by rw [hC]⟩⟩
          · go_wp2_with fail
            refine Calls.mono (PP.out _) ?_
            rintro e V9 ⟨rfl, hn⟩
            clear y0 y1 y2
            replace r2 := r2.on hn
            replace rx := rx.on hn
            replace hc := chain hc hn
            clear hn
            have x0 := r2.cell
            have x1 := r2.lt
            have x2 := r2.free
            go_wp2_with fail
            clear x0 x1 x2
            clear rx
            replace r2 := r2.set 0 (.int .i64 0)
            replace r2 := r2.set 1 (.int .i64 0)
            replace r2 := r2.set 2 (.int .i64 0)
            replace r2 := r2.set 3 (.int .i64 0)
            replace r2 := r2.set 4 (.int .i64 0)
            replace r2 := r2.set 5 (.string ⟨#[]⟩)
            replace hc := hc.setCell (p := ⟨w.heap.size, 0, none⟩) (Nat.le_refl _) (.int .i64 0)
            replace hc := hc.setCell (p := ⟨w.heap.size, 1, none⟩) (Nat.le_refl _) (.int .i64 0)
            replace hc := hc.setCell (p := ⟨w.heap.size, 2, none⟩) (Nat.le_refl _) (.int .i64 0)
            replace hc := hc.setCell (p := ⟨w.heap.size, 3, none⟩) (Nat.le_refl _) (.int .i64 0)
            replace hc := hc.setCell (p := ⟨w.heap.size, 4, none⟩) (Nat.le_refl _) (.int .i64 0)
            replace hc := hc.setCell (p := ⟨w.heap.size, 5, none⟩) (Nat.le_refl _) (.string ⟨#[]⟩)
            simp only [List.setIfInBounds_toArray, List.set_cons_zero, List.set_cons_succ] at r2
            generalize hW : World.setCell _ _ _ = Zw at *
            clear hW
            have z := r2.cell
            refine bodyPost_ret (v := .tuple #[op0V, .int .i64 9]) (by simp [results, Tryz.results16, go_sem, z]) rfl ⟨hc, v, HV.out, .inr ⟨by rw [hC]; exact hb, rfl⟩⟩
          · have f1 : (TT.toList == s.toList) = false := by rw [beq_eq_false_iff_ne]; exact he
            have f2 : (TT.toList != s.toList) = true := by rw [bne_iff_ne]; exact he
            clear he
            go_wp2_with fail
            refine Calls.mono (PP.out _) ?_
            rintro e V9 ⟨rfl, hn⟩
            clear y0 y1 y2
            replace r2 := r2.on hn
            replace rx := rx.on hn
            replace hc := chain hc hn
            clear hn
            have x0 := r2.cell
            have x1 := r2.lt
            have x2 := r2.free
            go_wp2_with fail
            clear x0 x1 x2
            clear rx
            replace r2 := r2.set 0 (.int .i64 0)
            replace r2 := r2.set 1 (.int .i64 0)
            replace r2 := r2.set 2 (.int .i64 0)
            replace r2 := r2.set 3 (.int .i64 0)
            replace r2 := r2.set 4 (.int .i64 0)
            replace r2 := r2.set 5 (.string ⟨#[]⟩)
            replace hc := hc.setCell (p := ⟨w.heap.size, 0, none⟩) (Nat.le_refl _) (.int .i64 0)
            replace hc := hc.setCell (p := ⟨w.heap.size, 1, none⟩) (Nat.le_refl _) (.int .i64 0)
            replace hc := hc.setCell (p := ⟨w.heap.size, 2, none⟩) (Nat.le_refl _) (.int .i64 0)
            replace hc := hc.setCell (p := ⟨w.heap.size, 3, none⟩) (Nat.le_refl _) (.int .i64 0)
            replace hc := hc.setCell (p := ⟨w.heap.size, 4, none⟩) (Nat.le_refl _) (.int .i64 0)
            replace hc := hc.setCell (p := ⟨w.heap.size, 5, none⟩) (Nat.le_refl _) (.string ⟨#[]⟩)
            simp only [List.setIfInBounds_toArray, List.set_cons_zero, List.set_cons_succ] at r2
            generalize hW : World.setCell _ _ _ = Zw at *
            clear hW
            have z := r2.cell
            refine bodyPost_ret (v := .tuple #[op0V, .int .i64 9]) (by simp [results, Tryz.results16, go_sem, z]) rfl ⟨hc, v, HV.out, .inr ⟨by rw [hC]; exact hb, rfl⟩⟩
end Go.Proofs.YthkngleegefgbaaGreatDoor
