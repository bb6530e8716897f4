/- The reference's Parse, walked. -/
import Derived.Test.YtgckfiadnmjonaaGreatDoorL4a
import Derived.Deep.DeepCutAuto
import Derived.Deep.CutBlock
namespace Go.Proofs.YtgckfiadnmjonaaGreatDoor
open Go.RowKit
set_option linter.unusedVariables false
set_option linter.unusedSimpArgs false
set_option maxHeartbeats 40000000
set_option maxRecDepth 20000
abbrev zQ : Array Value := #[.int .i64 0, .int .i64 0, .int .u32 0, .int .i64 0, .int .i64 0, .int .i64 0, .int .i64 0, .string ⟨#[]⟩]
/-- What the text of a candidate comes to: it is accepted, or it is not. -/
def Acc (s T : ByteArray) (e : Int) (b : Bool) : Prop := (b = true ∧ e = 0 ∧ T = s) ∨ (b = false ∧ (e == 0) = false) ∨ (b = false ∧ e = 0 ∧ (T.toList == s.toList) = false)
theorem rparse_walk (s X1 L1 X2 L X3 L3 X4 L4 X5 L5 G1 G2 G3 : ByteArray) (k i g oe tr nx n1 n2 n3 e1 e2 e3 : Int) (T : Int → Int → ByteArray) (E : Int → Int → Int) (ok : Int → Int → Bool)
    (c1 : ∀ w, Ret 48 #[.string s] w (.tuple #[.string X1, .string L1]))
    (c2 : ∀ w, Ret 49 #[.string X1] w (.tuple #[dV k i g, .int .i64 oe]))
    (c3 : ∀ w, Ret 48 #[.string L1] w (.tuple #[.string X2, .string L]))
    (c4 : ∀ w, Ret 48 #[.string L] w (.tuple #[.string X3, .string L3]))
    (c5 : ∀ w, Ret 48 #[.string L3] w (.tuple #[.string X4, .string L4]))
    (c6 : ∀ w, Ret 50 #[.string X4] w (.int .i64 tr))
    (c7 : ∀ w, Ret 48 #[.string L4] w (.tuple #[.string X5, .string L5]))
    (c8 : ∀ w, Ret 50 #[.string X5] w (.int .i64 nx))
    (u1 : ∀ w, Ret 51 #[.string L] w (.tuple #[.string G1, .int .i64 n1, .int .i64 e1]))
    (u2 : ∀ w, Ret 51 #[.string L5] w (.tuple #[.string G2, .int .i64 n2, .int .i64 e2]))
    (u3 : ∀ w, Ret 51 #[.string L4] w (.tuple #[.string G3, .int .i64 n3, .int .i64 e3]))
    (t1 : ∀ wy w, Ret 19 #[rV k i g 1 wy 0 0 G1] w (.tuple #[.string (T 1 wy), .int .i64 (E 1 wy)]))
    (t2 : ∀ wy w, Ret 19 #[rV k i g 2 wy tr nx G2] w (.tuple #[.string (T 2 wy), .int .i64 (E 2 wy)]))
    (t3 : ∀ st wy w, st = 3 ∨ st = 4 → Ret 19 #[rV k i g st wy tr 0 G3] w (.tuple #[.string (T st wy), .int .i64 (E st wy)]))
    (ha : ∀ st wy, Acc s (T st wy) (E st wy) (ok st wy)) (w : World) :
    Calls Tryz.prog 23 #[.string s] w fun e w' => Below w.heap.size w w' ∧
      ((∃ st wy, (1 ≤ st ∧ st ≤ 4) ∧ (0 ≤ wy ∧ wy ≤ 3) ∧ ok st wy = true ∧ e = .returned (.tuple #[rV k i g st wy (if st = 1 then 0 else tr) (if st = 2 then nx else 0) (if st = 1 then G1 else if st = 2 then G2 else G3), .int .i64 0])) ∨
       ((∀ st wy, 1 ≤ st → st ≤ 4 → 0 ≤ wy → wy ≤ 3 → ok st wy = false) ∧ e = .returned (.tuple #[r0V, .int .i64 9]))) := by
  have C1 := Lib.hid c1
  clear c1
  have C2 := Lib.hid c2
  clear c2
  have C3 := Lib.hid c3
  clear c3
  have C4 := Lib.hid c4
  clear c4
  have C5 := Lib.hid c5
  clear c5
  have C6 := Lib.hid c6
  clear c6
  have C7 := Lib.hid c7
  clear c7
  have C8 := Lib.hid c8
  clear c8
  have U1 := Lib.hid u1
  clear u1
  have U2 := Lib.hid u2
  clear u2
  have U3 := Lib.hid u3
  clear u3
  have T1 := Lib.hid t1
  clear t1
  have T2 := Lib.hid t2
  clear t2
  have T3 := Lib.hid t3
  clear t3
  have HA := Lib.hid ha
  clear ha
  go_enter Tryz.func23, Tryz.ntmps23
  go_wp2_with fail
  have r2 := Row.new (W := w) (cs := zQ) (t := 28)
  have hc := below_alloc w (.cells zQ 28)
  have hz : w.heap.size < (w.alloc (.cells zQ 28)).heap.size := by simp
  generalize w.alloc (.cells zQ 28) = W0 at r2 hc ⊢
  clear hz
  refine Calls.mono (C1.out _) ?_
  rintro e W1 ⟨rfl, hn⟩
  replace r2 := r2.on hn
  replace hc := chain hc hn
  clear hn
  go_wp2_with fail
  refine Calls.mono (C2.out _) ?_
  rintro e W2 ⟨rfl, hn⟩
  replace r2 := r2.on hn
  replace hc := chain hc hn
  clear hn
  go_upto_region 3 with fail
  have ro := Row.new (W := W2) (cs := #[.int .i64 k, .int .i64 i, .int .u32 g]) (t := 24)
  have hn := below_alloc W2 (.cells #[.int .i64 k, .int .i64 i, .int .u32 g] 24)
  have hbo : w.heap.size < W2.heap.size := r2.lt
  replace r2 := r2.on hn
  replace hc := chain hc hn
  clear hn
  generalize W2.alloc (.cells #[.int .i64 k, .int .i64 i, .int .u32 g] 24) = W3 at ro r2 hc ⊢
  generalize W2.heap.size = b at ro hbo ⊢
  go_wp2_with fail
  refine Calls.mono (C3.out _) ?_
  rintro e W4 ⟨rfl, hn⟩
  replace r2 := r2.on hn
  replace ro := ro.on hn
  replace hc := chain hc hn
  clear hn
  clear C1 C2 C3
  go_wp2_with fail
  go_loopw [8] (fun sv wr => ∃ st : Int, 1 ≤ st ∧ st ≤ 5 ∧ sv = .int .i64 st ∧ Row wr w.heap.size zQ 28 ∧ Row wr b #[.int .i64 k, .int .i64 i, .int .u32 g] 24 ∧ Below w.heap.size w wr ∧ (∀ a c, 1 ≤ a → a < st → 0 ≤ c → c ≤ 3 → ok a c = false)) (fun sv _ => 5 - (intOf sv).toNat)
  case atStart => exact ⟨1, by omega, by omega, rfl, r2, ro, hc, fun a c h1 h2 => by omega⟩
  case round =>
    obtain ⟨st, hst1, hst5, rfl, r2, ro, hc, hno⟩ := hrel
    by_cases hlt : st ≤ 4
    · go_wp2_with fail
      go_loopw [9] (fun yv wr => ∃ wy : Int, 0 ≤ wy ∧ wy ≤ 4 ∧ yv = .int .i64 wy ∧ Row wr w.heap.size zQ 28 ∧ Row wr b #[.int .i64 k, .int .i64 i, .int .u32 g] 24 ∧ Below w.heap.size w wr ∧ (∀ c, 0 ≤ c → c < wy → ok st c = false)) (fun yv _ => 4 - (intOf yv).toNat)
      case atStart => exact ⟨0, by omega, by omega, rfl, r2, ro, hc, fun c h1 h2 => by omega⟩
      case round =>
        obtain ⟨wy, hwy0, hwy4, rfl, r2, ro, hc, hny⟩ := hrel
        by_cases hlt2 : wy ≤ 3
        · have y0 := ro.cell
          have y1 := ro.lt
          go_upto_region 11 with fail
          clear y0 y1
          have rx := Row.new (W := wr) (cs := (rC k i g st wy 0 0 ⟨#[]⟩)) (t := 28)
          have hn := below_alloc wr (.cells (rC k i g st wy 0 0 ⟨#[]⟩) 28)
          have hb1 : w.heap.size < wr.heap.size := r2.lt
          have hb2 : b < wr.heap.size := ro.lt
          replace r2 := r2.on hn
          replace ro := ro.on hn
          replace hc := chain hc hn
          clear hn
          generalize wr.alloc (.cells (rC k i g st wy 0 0 ⟨#[]⟩) 28) = V0 at rx r2 ro hc ⊢
          generalize wr.heap.size = bx at rx hb1 hb2 ⊢
          have hst : st = 1 ∨ st = 2 ∨ (st = 3 ∨ st = 4) := by omega
          rcases hst with rfl | rfl | hst
          · go_wp2_with fail
            refine Calls.mono (U1.out _) ?_
            rintro e V1 ⟨rfl, hn⟩
            replace r2 := r2.on hn
            replace ro := ro.on hn
            replace rx := rx.on hn
            replace hc := chain hc hn
            clear hn
            have y0 := rx.cell
            have y1 := rx.lt
            have y2 := rx.free
            go_upto_region 22 with fail
            clear y0 y1 y2
            replace r2 := r2.other (show bx ≠ w.heap.size by omega) 7 (.string G1)
            replace ro := ro.other (show bx ≠ b by omega) 7 (.string G1)
            replace rx := rx.set 7 (.string G1)
            simp only [List.setIfInBounds_toArray, List.set_cons_zero, List.set_cons_succ] at rx
            replace hc := hc.setCell (p := ⟨bx, 7, none⟩) (show w.heap.size ≤ bx by omega) (.string G1)
            generalize V1.setCell ⟨bx, 7, none⟩ (.string G1) = V2 at r2 ro rx hc ⊢
            have q := T1.out wy
            have a := HA.out 1 wy
            generalize T 1 wy = Tx at q a
            generalize E 1 wy = Ex at q a
            have Q := Lib.hid q
            clear q
            have y0 := rx.cell
            have y1 := rx.lt
            have y2 := rx.free
            rcases a with ⟨hb, rfl, rfl⟩ | ⟨hb, he⟩ | ⟨hb, rfl, he⟩
            · go_wp2_with fail
              refine Calls.mono (Q.out _) ?_
              rintro e V9 ⟨rfl, hn⟩
              clear y0 y1 y2
              replace r2 := r2.on hn
              replace ro := ro.on hn
              replace rx := rx.on hn
              replace hc := chain hc hn
              clear hn
              have y0 := rx.cell
              have y1 := rx.lt
              have y2 := rx.free
              have x0 := r2.cell
              have x1 := r2.lt
              have x2 := r2.free
              go_wp2_with fail
              clear y0 y1 y2
              clear x0 x1 x2 rx
              clear ro
              replace r2 := r2.set 0 (.int .i64 k)
              replace r2 := r2.set 1 (.int .i64 i)
              replace r2 := r2.set 2 (.int .u32 g)
              replace r2 := r2.set 3 (.int .i64 1)
              replace r2 := r2.set 4 (.int .i64 wy)
              replace r2 := r2.set 5 (.int .i64 0)
              replace r2 := r2.set 6 (.int .i64 0)
              replace r2 := r2.set 7 (.string G1)
              replace hc := hc.setCell (p := ⟨w.heap.size, 0, none⟩) (Nat.le_refl _) (.int .i64 k)
              replace hc := hc.setCell (p := ⟨w.heap.size, 1, none⟩) (Nat.le_refl _) (.int .i64 i)
              replace hc := hc.setCell (p := ⟨w.heap.size, 2, none⟩) (Nat.le_refl _) (.int .u32 g)
              replace hc := hc.setCell (p := ⟨w.heap.size, 3, none⟩) (Nat.le_refl _) (.int .i64 1)
              replace hc := hc.setCell (p := ⟨w.heap.size, 4, none⟩) (Nat.le_refl _) (.int .i64 wy)
              replace hc := hc.setCell (p := ⟨w.heap.size, 5, none⟩) (Nat.le_refl _) (.int .i64 0)
              replace hc := hc.setCell (p := ⟨w.heap.size, 6, none⟩) (Nat.le_refl _) (.int .i64 0)
              replace hc := hc.setCell (p := ⟨w.heap.size, 7, none⟩) (Nat.le_refl _) (.string G1)
              simp only [zQ, List.setIfInBounds_toArray, List.set_cons_zero, List.set_cons_succ] at r2
              generalize hW : World.setCell _ _ _ = Z at *
              clear hW
              have z := r2.cell
              have e1 : (if 1 = 1 then (0 : Int) else tr) = 0 := by rfl
              have e2 : (if 1 = 2 then nx else (0 : Int)) = 0 := by rw [if_neg (by omega)]
              have e3 : (if 1 = 1 then G1 else if 1 = 2 then G2 else G3) = G1 := by rfl
              refine bodyPost_ret (v := .tuple #[rV k i g 1 wy 0 0 G1, .int .i64 0]) (by simp [results, Tryz.results23, go_sem, z]) rfl ⟨hc, .inl ⟨1, wy, by omega, by omega, hb, by first | rfl | simp [e1, e2, e3] | rw [e1, e2, e3]⟩⟩
            · go_wp2_with fail
              refine Calls.mono (Q.out _) ?_
              rintro e V9 ⟨rfl, hn⟩
              clear y0 y1 y2
              replace r2 := r2.on hn
              replace ro := ro.on hn
              replace rx := rx.on hn
              replace hc := chain hc hn
              clear hn
              clear rx
              go_wp2_with fail
              go_roundw
              case rel => exact ⟨wy + 1, by omega, by omega, by go_num, r2, ro, hc, fun c h1 h2 => by
                  by_cases hcw : c = wy
                  · rw [hcw]; exact hb
                  · exact hny c h1 (by omega)⟩
              case measure => simp [intOf]; omega
            · go_wp2_with fail
              refine Calls.mono (Q.out _) ?_
              rintro e V9 ⟨rfl, hn⟩
              clear y0 y1 y2
              replace r2 := r2.on hn
              replace ro := ro.on hn
              replace rx := rx.on hn
              replace hc := chain hc hn
              clear hn
              clear rx
              go_wp2_with fail
              go_roundw
              case rel => exact ⟨wy + 1, by omega, by omega, by go_num, r2, ro, hc, fun c h1 h2 => by
                  by_cases hcw : c = wy
                  · rw [hcw]; exact hb
                  · exact hny c h1 (by omega)⟩
              case measure => simp [intOf]; omega
          · go_wp2_with fail
            refine Calls.mono (C4.out _) ?_
            rintro e V1 ⟨rfl, hn⟩
            replace r2 := r2.on hn
            replace ro := ro.on hn
            replace rx := rx.on hn
            replace hc := chain hc hn
            clear hn
            go_wp2_with fail
            refine Calls.mono (C5.out _) ?_
            rintro e V2 ⟨rfl, hn⟩
            replace r2 := r2.on hn
            replace ro := ro.on hn
            replace rx := rx.on hn
            replace hc := chain hc hn
            clear hn
            go_wp2_with fail
            refine Calls.mono (C6.out _) ?_
            rintro e V3 ⟨rfl, hn⟩
            replace r2 := r2.on hn
            replace ro := ro.on hn
            replace rx := rx.on hn
            replace hc := chain hc hn
            clear hn
            have y0 := rx.cell
            have y1 := rx.lt
            have y2 := rx.free
            go_upto_region 16 with fail
            clear y0 y1 y2
            replace r2 := r2.other (show bx ≠ w.heap.size by omega) 5 (.int .i64 tr)
            replace ro := ro.other (show bx ≠ b by omega) 5 (.int .i64 tr)
            replace rx := rx.set 5 (.int .i64 tr)
            simp only [List.setIfInBounds_toArray, List.set_cons_zero, List.set_cons_succ] at rx
            replace hc := hc.setCell (p := ⟨bx, 5, none⟩) (show w.heap.size ≤ bx by omega) (.int .i64 tr)
            generalize V3.setCell ⟨bx, 5, none⟩ (.int .i64 tr) = V4 at r2 ro rx hc ⊢
            go_wp2_with fail
            refine Calls.mono (C7.out _) ?_
            rintro e V5 ⟨rfl, hn⟩
            replace r2 := r2.on hn
            replace ro := ro.on hn
            replace rx := rx.on hn
            replace hc := chain hc hn
            clear hn
            go_wp2_with fail
            refine Calls.mono (C8.out _) ?_
            rintro e V6 ⟨rfl, hn⟩
            replace r2 := r2.on hn
            replace ro := ro.on hn
            replace rx := rx.on hn
            replace hc := chain hc hn
            clear hn
            have y0 := rx.cell
            have y1 := rx.lt
            have y2 := rx.free
            go_upto_region 20 with fail
            clear y0 y1 y2
            replace r2 := r2.other (show bx ≠ w.heap.size by omega) 6 (.int .i64 nx)
            replace ro := ro.other (show bx ≠ b by omega) 6 (.int .i64 nx)
            replace rx := rx.set 6 (.int .i64 nx)
            simp only [List.setIfInBounds_toArray, List.set_cons_zero, List.set_cons_succ] at rx
            replace hc := hc.setCell (p := ⟨bx, 6, none⟩) (show w.heap.size ≤ bx by omega) (.int .i64 nx)
            generalize V6.setCell ⟨bx, 6, none⟩ (.int .i64 nx) = V7 at r2 ro rx hc ⊢
            go_wp2_with fail
            refine Calls.mono (U2.out _) ?_
            rintro e V8 ⟨rfl, hn⟩
            replace r2 := r2.on hn
            replace ro := ro.on hn
            replace rx := rx.on hn
            replace hc := chain hc hn
            clear hn
            have y0 := rx.cell
            have y1 := rx.lt
            have y2 := rx.free
            go_upto_region 22 with fail
            clear y0 y1 y2
            replace r2 := r2.other (show bx ≠ w.heap.size by omega) 7 (.string G2)
            replace ro := ro.other (show bx ≠ b by omega) 7 (.string G2)
            replace rx := rx.set 7 (.string G2)
            simp only [List.setIfInBounds_toArray, List.set_cons_zero, List.set_cons_succ] at rx
            replace hc := hc.setCell (p := ⟨bx, 7, none⟩) (show w.heap.size ≤ bx by omega) (.string G2)
            generalize V8.setCell ⟨bx, 7, none⟩ (.string G2) = V9 at r2 ro rx hc ⊢
            have q := T2.out wy
            have a := HA.out 2 wy
            generalize T 2 wy = Tx at q a
            generalize E 2 wy = Ex at q a
            have Q := Lib.hid q
            clear q
            have y0 := rx.cell
            have y1 := rx.lt
            have y2 := rx.free
            rcases a with ⟨hb, rfl, rfl⟩ | ⟨hb, he⟩ | ⟨hb, rfl, he⟩
            · go_wp2_with fail
              refine Calls.mono (Q.out _) ?_
              rintro e V9 ⟨rfl, hn⟩
              clear y0 y1 y2
              replace r2 := r2.on hn
              replace ro := ro.on hn
              replace rx := rx.on hn
              replace hc := chain hc hn
              clear hn
              have y0 := rx.cell
              have y1 := rx.lt
              have y2 := rx.free
              have x0 := r2.cell
              have x1 := r2.lt
              have x2 := r2.free
              go_wp2_with fail
              clear y0 y1 y2
              clear x0 x1 x2 rx
              clear ro
              replace r2 := r2.set 0 (.int .i64 k)
              replace r2 := r2.set 1 (.int .i64 i)
              replace r2 := r2.set 2 (.int .u32 g)
              replace r2 := r2.set 3 (.int .i64 2)
              replace r2 := r2.set 4 (.int .i64 wy)
              replace r2 := r2.set 5 (.int .i64 tr)
              replace r2 := r2.set 6 (.int .i64 nx)
              replace r2 := r2.set 7 (.string G2)
              replace hc := hc.setCell (p := ⟨w.heap.size, 0, none⟩) (Nat.le_refl _) (.int .i64 k)
              replace hc := hc.setCell (p := ⟨w.heap.size, 1, none⟩) (Nat.le_refl _) (.int .i64 i)
              replace hc := hc.setCell (p := ⟨w.heap.size, 2, none⟩) (Nat.le_refl _) (.int .u32 g)
              replace hc := hc.setCell (p := ⟨w.heap.size, 3, none⟩) (Nat.le_refl _) (.int .i64 2)
              replace hc := hc.setCell (p := ⟨w.heap.size, 4, none⟩) (Nat.le_refl _) (.int .i64 wy)
              replace hc := hc.setCell (p := ⟨w.heap.size, 5, none⟩) (Nat.le_refl _) (.int .i64 tr)
              replace hc := hc.setCell (p := ⟨w.heap.size, 6, none⟩) (Nat.le_refl _) (.int .i64 nx)
              replace hc := hc.setCell (p := ⟨w.heap.size, 7, none⟩) (Nat.le_refl _) (.string G2)
              simp only [zQ, List.setIfInBounds_toArray, List.set_cons_zero, List.set_cons_succ] at r2
              generalize hW : World.setCell _ _ _ = Z at *
              clear hW
              have z := r2.cell
              have e1 : (if 2 = 1 then (0 : Int) else tr) = tr := by rw [if_neg (by omega)]
              have e2 : (if 2 = 2 then nx else (0 : Int)) = nx := by rfl
              have e3 : (if 2 = 1 then G1 else if 2 = 2 then G2 else G3) = G2 := by rw [if_neg (by omega), if_pos rfl]
              refine bodyPost_ret (v := .tuple #[rV k i g 2 wy tr nx G2, .int .i64 0]) (by simp [results, Tryz.results23, go_sem, z]) rfl ⟨hc, .inl ⟨2, wy, by omega, by omega, hb, by first | rfl | simp [e1, e2, e3] | rw [e1, e2, e3]⟩⟩
            · go_wp2_with fail
              refine Calls.mono (Q.out _) ?_
              rintro e V9 ⟨rfl, hn⟩
              clear y0 y1 y2
              replace r2 := r2.on hn
              replace ro := ro.on hn
              replace rx := rx.on hn
              replace hc := chain hc hn
              clear hn
              clear rx
              go_wp2_with fail
              go_roundw
              case rel => exact ⟨wy + 1, by omega, by omega, by go_num, r2, ro, hc, fun c h1 h2 => by
                  by_cases hcw : c = wy
                  · rw [hcw]; exact hb
                  · exact hny c h1 (by omega)⟩
              case measure => simp [intOf]; omega
            · go_wp2_with fail
              refine Calls.mono (Q.out _) ?_
              rintro e V9 ⟨rfl, hn⟩
              clear y0 y1 y2
              replace r2 := r2.on hn
              replace ro := ro.on hn
              replace rx := rx.on hn
              replace hc := chain hc hn
              clear hn
              clear rx
              go_wp2_with fail
              go_roundw
              case rel => exact ⟨wy + 1, by omega, by omega, by go_num, r2, ro, hc, fun c h1 h2 => by
                  by_cases hcw : c = wy
                  · rw [hcw]; exact hb
                  · exact hny c h1 (by omega)⟩
              case measure => simp [intOf]; omega
          · have f1 : (st != 1) = true := by rw [bne_iff_ne]; omega
            have f2 : (st == 2) = false := by rw [beq_eq_false_iff_ne]; omega
            go_wp2_with fail
            refine Calls.mono (C4.out _) ?_
            rintro e V1 ⟨rfl, hn⟩
            replace r2 := r2.on hn
            replace ro := ro.on hn
            replace rx := rx.on hn
            replace hc := chain hc hn
            clear hn
            go_wp2_with fail
            refine Calls.mono (C5.out _) ?_
            rintro e V2 ⟨rfl, hn⟩
            replace r2 := r2.on hn
            replace ro := ro.on hn
            replace rx := rx.on hn
            replace hc := chain hc hn
            clear hn
            go_wp2_with fail
            refine Calls.mono (C6.out _) ?_
            rintro e V3 ⟨rfl, hn⟩
            replace r2 := r2.on hn
            replace ro := ro.on hn
            replace rx := rx.on hn
            replace hc := chain hc hn
            clear hn
            have y0 := rx.cell
            have y1 := rx.lt
            have y2 := rx.free
            go_upto_region 16 with fail
            clear y0 y1 y2
            replace r2 := r2.other (show bx ≠ w.heap.size by omega) 5 (.int .i64 tr)
            replace ro := ro.other (show bx ≠ b by omega) 5 (.int .i64 tr)
            replace rx := rx.set 5 (.int .i64 tr)
            simp only [List.setIfInBounds_toArray, List.set_cons_zero, List.set_cons_succ] at rx
            replace hc := hc.setCell (p := ⟨bx, 5, none⟩) (show w.heap.size ≤ bx by omega) (.int .i64 tr)
            generalize V3.setCell ⟨bx, 5, none⟩ (.int .i64 tr) = V4 at r2 ro rx hc ⊢
            go_wp2_with fail
            refine Calls.mono (U3.out _) ?_
            rintro e V5 ⟨rfl, hn⟩
            replace r2 := r2.on hn
            replace ro := ro.on hn
            replace rx := rx.on hn
            replace hc := chain hc hn
            clear hn
            have y0 := rx.cell
            have y1 := rx.lt
            have y2 := rx.free
            go_upto_region 22 with fail
            clear y0 y1 y2
            replace r2 := r2.other (show bx ≠ w.heap.size by omega) 7 (.string G3)
            replace ro := ro.other (show bx ≠ b by omega) 7 (.string G3)
            replace rx := rx.set 7 (.string G3)
            simp only [List.setIfInBounds_toArray, List.set_cons_zero, List.set_cons_succ] at rx
            replace hc := hc.setCell (p := ⟨bx, 7, none⟩) (show w.heap.size ≤ bx by omega) (.string G3)
            generalize V5.setCell ⟨bx, 7, none⟩ (.string G3) = V6 at r2 ro rx hc ⊢
            have q := fun w => T3.out st wy w hst
            have a := HA.out st wy
            generalize T st wy = Tx at q a
            generalize E st wy = Ex at q a
            have Q := Lib.hid q
            clear q
            have y0 := rx.cell
            have y1 := rx.lt
            have y2 := rx.free
            rcases a with ⟨hb, rfl, rfl⟩ | ⟨hb, he⟩ | ⟨hb, rfl, he⟩
            · go_wp2_with fail
              refine Calls.mono (Q.out _) ?_
              rintro e V9 ⟨rfl, hn⟩
              clear y0 y1 y2
              replace r2 := r2.on hn
              replace ro := ro.on hn
              replace rx := rx.on hn
              replace hc := chain hc hn
              clear hn
              have y0 := rx.cell
              have y1 := rx.lt
              have y2 := rx.free
              have x0 := r2.cell
              have x1 := r2.lt
              have x2 := r2.free
              go_wp2_with fail
              clear y0 y1 y2
              clear x0 x1 x2 rx
              clear ro
              replace r2 := r2.set 0 (.int .i64 k)
              replace r2 := r2.set 1 (.int .i64 i)
              replace r2 := r2.set 2 (.int .u32 g)
              replace r2 := r2.set 3 (.int .i64 st)
              replace r2 := r2.set 4 (.int .i64 wy)
              replace r2 := r2.set 5 (.int .i64 tr)
              replace r2 := r2.set 6 (.int .i64 0)
              replace r2 := r2.set 7 (.string G3)
              replace hc := hc.setCell (p := ⟨w.heap.size, 0, none⟩) (Nat.le_refl _) (.int .i64 k)
              replace hc := hc.setCell (p := ⟨w.heap.size, 1, none⟩) (Nat.le_refl _) (.int .i64 i)
              replace hc := hc.setCell (p := ⟨w.heap.size, 2, none⟩) (Nat.le_refl _) (.int .u32 g)
              replace hc := hc.setCell (p := ⟨w.heap.size, 3, none⟩) (Nat.le_refl _) (.int .i64 st)
              replace hc := hc.setCell (p := ⟨w.heap.size, 4, none⟩) (Nat.le_refl _) (.int .i64 wy)
              replace hc := hc.setCell (p := ⟨w.heap.size, 5, none⟩) (Nat.le_refl _) (.int .i64 tr)
              replace hc := hc.setCell (p := ⟨w.heap.size, 6, none⟩) (Nat.le_refl _) (.int .i64 0)
              replace hc := hc.setCell (p := ⟨w.heap.size, 7, none⟩) (Nat.le_refl _) (.string G3)
              simp only [zQ, List.setIfInBounds_toArray, List.set_cons_zero, List.set_cons_succ] at r2
              generalize hW : World.setCell _ _ _ = Z at *
              clear hW
              have z := r2.cell
              have e1 : (if st = 1 then (0 : Int) else tr) = tr := by rw [if_neg (by omega)]
              have e2 : (if st = 2 then nx else (0 : Int)) = 0 := by rw [if_neg (by omega)]
              have e3 : (if st = 1 then G1 else if st = 2 then G2 else G3) = G3 := by rw [if_neg (by omega), if_neg (by omega)]
              refine bodyPost_ret (v := .tuple #[rV k i g st wy tr 0 G3, .int .i64 0]) (by simp [results, Tryz.results23, go_sem, z]) rfl ⟨hc, .inl ⟨st, wy, by omega, by omega, hb, by first | rfl | simp [e1, e2, e3] | rw [e1, e2, e3]⟩⟩
            · go_wp2_with fail
              refine Calls.mono (Q.out _) ?_
              rintro e V9 ⟨rfl, hn⟩
              clear y0 y1 y2
              replace r2 := r2.on hn
              replace ro := ro.on hn
              replace rx := rx.on hn
              replace hc := chain hc hn
              clear hn
              clear rx
              go_wp2_with fail
              go_roundw
              case rel => exact ⟨wy + 1, by omega, by omega, by go_num, r2, ro, hc, fun c h1 h2 => by
                  by_cases hcw : c = wy
                  · rw [hcw]; exact hb
                  · exact hny c h1 (by omega)⟩
              case measure => simp [intOf]; omega
            · go_wp2_with fail
              refine Calls.mono (Q.out _) ?_
              rintro e V9 ⟨rfl, hn⟩
              clear y0 y1 y2
              replace r2 := r2.on hn
              replace ro := ro.on hn
              replace rx := rx.on hn
              replace hc := chain hc hn
              clear hn
              clear rx
              go_wp2_with fail
              go_roundw
              case rel => exact ⟨wy + 1, by omega, by omega, by go_num, r2, ro, hc, fun c h1 h2 => by
                  by_cases hcw : c = wy
                  · rw [hcw]; exact hb
                  · exact hny c h1 (by omega)⟩
              case measure => simp [intOf]; omega
        · have ey : wy = 4 := by omega
          go_wp2_with fail
          go_roundw
          case rel => exact ⟨st + 1, by omega, by omega, by go_num, r2, ro, hc, fun a c h1 h2 h3 h4 => by
            by_cases ha : a = st
            · rw [ha]; exact hny c h3 (by omega)
            · exact hno a c h1 (by omega) h3 h4⟩
          case measure => simp [intOf]; omega
    · have es : st = 5 := by omega
      have y0 := r2.cell
      have y1 := r2.lt
      have y2 := r2.free
      go_wp2_with fail
      clear y0 y1 y2
      clear ro
      replace r2 := r2.set 0 (.int .i64 0)
      replace r2 := r2.set 1 (.int .i64 0)
      replace r2 := r2.set 2 (.int .u32 0)
      replace r2 := r2.set 3 (.int .i64 0)
      replace r2 := r2.set 4 (.int .i64 0)
      replace r2 := r2.set 5 (.int .i64 0)
      replace r2 := r2.set 6 (.int .i64 0)
      replace r2 := r2.set 7 (.string ⟨#[]⟩)
      replace hc := hc.setCell (p := ⟨w.heap.size, 0, none⟩) (Nat.le_refl _) (.int .i64 0)
      replace hc := hc.setCell (p := ⟨w.heap.size, 1, none⟩) (Nat.le_refl _) (.int .i64 0)
      replace hc := hc.setCell (p := ⟨w.heap.size, 2, none⟩) (Nat.le_refl _) (.int .u32 0)
      replace hc := hc.setCell (p := ⟨w.heap.size, 3, none⟩) (Nat.le_refl _) (.int .i64 0)
      replace hc := hc.setCell (p := ⟨w.heap.size, 4, none⟩) (Nat.le_refl _) (.int .i64 0)
      replace hc := hc.setCell (p := ⟨w.heap.size, 5, none⟩) (Nat.le_refl _) (.int .i64 0)
      replace hc := hc.setCell (p := ⟨w.heap.size, 6, none⟩) (Nat.le_refl _) (.int .i64 0)
      replace hc := hc.setCell (p := ⟨w.heap.size, 7, none⟩) (Nat.le_refl _) (.string ⟨#[]⟩)
      simp only [zQ, List.setIfInBounds_toArray, List.set_cons_zero, List.set_cons_succ] at r2
      generalize hW : World.setCell _ _ _ = Z at *
      clear hW
      have z := r2.cell
      refine bodyPost_ret (v := .tuple #[r0V, .int .i64 9]) (by simp [results, Tryz.results23, go_sem, z]) rfl ⟨hc, .inr ⟨fun a c h1 h2 h3 h4 => hno a c h1 (by omega) h3 h4, rfl⟩⟩
end Go.Proofs.YtgckfiadnmjonaaGreatDoor
