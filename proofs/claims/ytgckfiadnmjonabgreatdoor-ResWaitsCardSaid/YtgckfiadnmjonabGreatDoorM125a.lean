/- The statement ResWaits, walked. -/
import Derived.Test.YtgckfiadnmjonabGreatDoorL5a
import Derived.Test.YtgckfiadnmjonabGreatDoorL0b
import Derived.Deep.DeepCutAuto
import Derived.Deep.CutBlock
namespace Go.Proofs.YtgckfiadnmjonabGreatDoor
open Go.RowKit
set_option linter.unusedVariables false
set_option linter.unusedSimpArgs false
set_option maxHeartbeats 40000000
set_option maxRecDepth 20000
theorem u32_of {l : List Value} (h : OkL [.int .u32] l) : ∃ a : Int, l = [.int .u32 a] ∧ (0 ≤ a ∧ a ≤ 4294967295) := by
  obtain ⟨_, _, rfl, ⟨a, rfl, wa⟩, h1⟩ := OkL_cons h
  obtain rfl := OkL_nil h1
  have := bounds_u32 wa
  exact ⟨a, rfl, by omega⟩
theorem waits_walk (kind id name : Int) (v : Value) (n : Nat) (E : Nat → List Value) (at_ : Int) (w : World) (hsl : Sl w v [.int .u32] n E) (hE : EnvP w) (k0 : 0 ≤ kind) (k1 : kind ≤ 255) (i0 : 0 ≤ id) (i1 : id ≤ 255) (n0 : 0 ≤ name) (n1 : name ≤ 255) (g0 : 0 ≤ at_) (g1 : at_ ≤ 4294967295) :
    Ret 3 #[.int .u8 kind, .int .u8 id, .int .u8 name, v, .int .u32 at_] w (.bool true) := by
  obtain ⟨⟨p, cap, rfl, hcap, hmax, hel⟩, hint⟩ := hsl
  have c1 := fun w => start_c kind id name 1 k0 k1 i0 i1 n0 n1 (by omega) (by omega) w
  have hd : dOk 64 (sK kind) (sI id) (sG 1) = true := by rw [dOk_iff]; unfold sK sI sG; omega
  have hG : 0 ≤ sG 1 ∧ sG 1 ≤ 4294967295 := by unfold sG; omega
  have hT := tagS_ok name
  have hTs := tagS_size name
  have hr0 := start_ok _ _ _ name hd
  generalize sK kind = kk at *
  generalize sI id = ii at *
  generalize sG 1 = gg at *
  generalize tagS name = tt at *
  have c2 := fun w => close_c kk ii gg 1 0 0 0 3 at_ tt w hG.1 hG.2 (by omega)
  rw [close_live hr0 (by omega) (by omega)] at c2
  have C1 := Lib.hid c1
  have C2 := Lib.hid c2
  have HE := Lib.hid hE
  have HEL := Lib.hid hel
  clear c1 c2 hE hel
  have hc := Below.refl w.heap.size w
  obtain ⟨N, hN1, hN2, eN⟩ : ∃ N : Nat, N ≤ n ∧ N ≤ 40 ∧ min (n : Int) 40 = (N : Int) := ⟨min n 40, by omega, by omega, by omega⟩
  have eM : max (N : Int) 0 = (N : Int) := by omega
  go_enter Tryz.func3, Tryz.ntmps3
  go_wp2_with fail
  refine Calls.mono (C1.out _) ?_
  rintro e V1 ⟨rfl, hn⟩
  replace hc := chain hc hn
  clear hn
  go_upto_region 2 with fail
  have r11 := Row.new (W := V1) (cs := (rC kk ii gg 1 0 0 0 tt)) (t := 27)
  have hn := below_alloc V1 (.cells (rC kk ii gg 1 0 0 0 tt) 27)
  have wr11 : w.heap.size ≤ V1.heap.size := hc.size
  replace hc := chain hc hn
  clear hn
  generalize V1.alloc (.cells (rC kk ii gg 1 0 0 0 tt) 27) = V2 at r11 hc ⊢
  generalize V1.heap.size = b11 at *
  have yr11 := r11.cell
  have zr11 := r11.lt
  go_wp2_with fail
  refine Calls.mono (C2.out _) ?_
  rintro e V3 ⟨rfl, hn⟩
  clear yr11 zr11
  replace r11 := r11.on hn
  replace hc := chain hc hn
  clear hn
  have yr11 := r11.cell
  have zr11 := r11.lt
  have ur11 := r11.free
  go_upto_region 4 with fail
  clear yr11 zr11 ur11
  replace r11 := ((((((((r11.set 0 (.int .i64 kk)).set 1 (.int .i64 ii)).set 2 (.int .u32 gg)).set 3 (.int .i64 2)).set 4 (.int .i64 3)).set 5 (.int .i64 0)).set 6 (.int .i64 at_)).set 7 (.string tt))
  simp only [List.setIfInBounds_toArray, List.set_cons_zero, List.set_cons_succ] at r11
  replace hc := ((((((((hc.setCell (p := ⟨b11, 0, none⟩) wr11 (.int .i64 kk)).setCell (p := ⟨b11, 1, none⟩) wr11 (.int .i64 ii)).setCell (p := ⟨b11, 2, none⟩) wr11 (.int .u32 gg)).setCell (p := ⟨b11, 3, none⟩) wr11 (.int .i64 2)).setCell (p := ⟨b11, 4, none⟩) wr11 (.int .i64 3)).setCell (p := ⟨b11, 5, none⟩) wr11 (.int .i64 0)).setCell (p := ⟨b11, 6, none⟩) wr11 (.int .i64 at_)).setCell (p := ⟨b11, 7, none⟩) wr11 (.string tt))
  generalize hW : World.setCell _ _ _ = V4 at *
  clear hW
  go_wp2_with fail
  clear eN eM
  have hR0 := ok_2 (k := kk) (i := ii) (g := gg) (wy := 3) (tr := 0) (nx := at_) hd hT (by omega) (by omega) (by omega)
  go_loopw [13, 51] (fun nowv iv wr => ∃ (i : Nat) (now : Int), i ≤ N ∧ iv = .int .i64 i ∧ nowv = .int .i64 now ∧ 0 ≤ now ∧ now ≤ 4294967295 + 1048576 * i ∧ Row wr b11 (rC kk ii gg 2 3 (i : Nat) now tt) 27 ∧ Below w.heap.size w wr) (fun _ iv _ => N - (intOf iv).toNat)
  case atStart => exact ⟨0, at_, Nat.zero_le _, rfl, rfl, by omega, by omega, r11, hc⟩
  case round =>
    obtain ⟨i, now, hiN, rfl, rfl, hn0, hn1, r11, hc⟩ := hrel
    have hR := ok_2 (k := kk) (i := ii) (g := gg) (wy := 3) (tr := (i : Nat)) (nx := now) hd hT (by omega) (by omega) (by omega)
    by_cases hlt : i < N
    · rcases HEL.out with h0 | ⟨b, off, rfl, hb, hcell⟩
      · omega
      obtain ⟨x0, hE4, bx0⟩ := u32_of (hint i (by omega))
      have q := hcell i (by omega)
      rw [hE4] at q
      have q0 := q 0 (by decide)
      simp only [List.length_cons, List.length_nil, Nat.zero_add, Nat.mul_one, Nat.add_zero] at q0
      have d0 : wr.cell? ⟨b, off + i, none⟩ = some (.int .u32 x0) := (hc.cell (p := ⟨b, off + i, none⟩) hb).trans q0
      clear q0
      clear q
      have em : x0.tmod 1048576 = x0 % 1048576 := Int.tmod_eq_emod_of_nonneg bx0.1
      have hw1 : IntKind.i64.wrap (1 + x0 % 1048576) = 1 + x0 % 1048576 := IntWalk.i64_in _ ⟨by omega, by omega⟩
      have yr11 := r11.cell
      have zr11 := r11.lt
      go_upto_region 10 with fail
      clear yr11 zr11
      clear d0 em hw1
      generalize hwt : 1 + x0 % 1048576 = wt
      have hwt2 : 1 ≤ wt ∧ wt ≤ 1048576 := by omega
      clear hwt
      have hw2 : IntKind.i64.wrap (now + wt) = now + wt := IntWalk.i64_in _ ⟨by omega, by omega⟩
      have hw3 : IntKind.i64.wrap (now + wt - 1) = now + wt - 1 := IntWalk.i64_in _ ⟨by omega, by omega⟩
      have c1 := fun w => due_c kk ii gg 2 3 (i : Nat) now now tt w hG.1 hG.2 (by omega)
      rw [due_is hR (by omega), show (decide ((2 : Int) = 2) && decide (now ≤ now)) = true by simp] at c1
      have c2 := fun w => tried_c kk ii gg 2 3 (i : Nat) now 2 now wt tt w hG.1 hG.2 (by omega)
      rw [tried_later hR (by omega) hwt2 (by omega)] at c2
      have hR2 := ok_2 (k := kk) (i := ii) (g := gg) (wy := 3) (tr := (i : Nat) + 1) (nx := now + wt) hd hT (by omega) (by omega) (by omega)
      have c3 := fun w => due_c kk ii gg 2 3 ((i : Nat) + 1) (now + wt) (now + wt - 1) tt w hG.1 hG.2 (by omega)
      rw [due_is hR2 (by omega), show (decide ((2 : Int) = 2) && decide (now + wt ≤ now + wt - 1)) = false by simp; omega] at c3
      have D1 := Lib.hid c1
      have D2 := Lib.hid c2
      have D3 := Lib.hid c3
      clear c1 c2 c3
      have e1 : ((i : Int) != (i : Int)) = false := by simp
      have e2 : ((now + wt) != (now + wt)) = false := by simp
      have yr11 := r11.cell
      have zr11 := r11.lt
      go_wp2_with fail
      refine Calls.mono (D1.out _) ?_
      rintro e V5 ⟨rfl, hn⟩
      clear yr11 zr11
      replace r11 := r11.on hn
      replace hc := chain hc hn
      clear hn
      have yr11 := r11.cell
      have zr11 := r11.lt
      go_wp2_with fail
      refine Calls.mono (D2.out _) ?_
      rintro e V6 ⟨rfl, hn⟩
      clear yr11 zr11
      replace r11 := r11.on hn
      replace hc := chain hc hn
      clear hn
      have yr11 := r11.cell
      have zr11 := r11.lt
      have ur11 := r11.free
      go_upto_region 14 with fail
      clear yr11 zr11 ur11
      replace r11 := ((((((((r11.set 0 (.int .i64 kk)).set 1 (.int .i64 ii)).set 2 (.int .u32 gg)).set 3 (.int .i64 2)).set 4 (.int .i64 3)).set 5 (.int .i64 (i + 1))).set 6 (.int .i64 (now + wt))).set 7 (.string tt))
      simp only [List.setIfInBounds_toArray, List.set_cons_zero, List.set_cons_succ] at r11
      replace hc := ((((((((hc.setCell (p := ⟨b11, 0, none⟩) wr11 (.int .i64 kk)).setCell (p := ⟨b11, 1, none⟩) wr11 (.int .i64 ii)).setCell (p := ⟨b11, 2, none⟩) wr11 (.int .u32 gg)).setCell (p := ⟨b11, 3, none⟩) wr11 (.int .i64 2)).setCell (p := ⟨b11, 4, none⟩) wr11 (.int .i64 3)).setCell (p := ⟨b11, 5, none⟩) wr11 (.int .i64 (i + 1))).setCell (p := ⟨b11, 6, none⟩) wr11 (.int .i64 (now + wt))).setCell (p := ⟨b11, 7, none⟩) wr11 (.string tt))
      generalize hW : World.setCell _ _ _ = V7 at *
      clear hW
      have yr11 := r11.cell
      have zr11 := r11.lt
      go_wp2_with fail
      refine Calls.mono (D3.out _) ?_
      rintro e V8 ⟨rfl, hn⟩
      clear yr11 zr11
      replace r11 := r11.on hn
      replace hc := chain hc hn
      clear hn
      have yr11 := r11.cell
      have zr11 := r11.lt
      go_wp2_with fail
      go_roundw
      case rel => exact ⟨i + 1, now + wt, by omega, by go_num, rfl, by omega, by omega, by first | exact r11 | (rw [show (((i + 1 : Nat) : Int)) = (i : Int) + 1 by omega]; exact r11), hc⟩
      case measure => simp [intOf]; omega
    · have c1 := fun w => due_c kk ii gg 2 3 (i : Nat) now now tt w hG.1 hG.2 (by omega)
      rw [due_is hR (by omega), show (decide ((2 : Int) = 2) && decide (now ≤ now)) = true by simp] at c1
      have c2 := fun w => due_c kk ii gg 2 3 (i : Nat) now 1099511627776 tt w hG.1 hG.2 (by omega)
      rw [due_is hR (by omega), show (decide ((2 : Int) = 2) && decide (now ≤ 1099511627776)) = true by simp; omega] at c2
      have D1 := Lib.hid c1
      have D2 := Lib.hid c2
      clear c1 c2
      have yr11 := r11.cell
      have zr11 := r11.lt
      go_wp2_with fail
      refine Calls.mono (D1.out _) ?_
      rintro e V5 ⟨rfl, hn⟩
      clear yr11 zr11
      replace r11 := r11.on hn
      replace hc := chain hc hn
      clear hn
      have yr11 := r11.cell
      have zr11 := r11.lt
      go_wp2_with fail
      refine Calls.mono (D2.out _) ?_
      rintro e V6 ⟨rfl, hn⟩
      clear yr11 zr11
      replace r11 := r11.on hn
      replace hc := chain hc hn
      clear hn
      have yr11 := r11.cell
      have zr11 := r11.lt
      go_wp2_with fail
      refine Calls.mono (works _ (HE.out.on hc)) ?_
      rintro e V7 ⟨rfl, hn⟩
      clear yr11 zr11
      replace r11 := r11.on hn
      replace hc := chain hc hn
      clear hn
      have yr11 := r11.cell
      have zr11 := r11.lt
      go_wp2_with fail
      go_returns
      exact ⟨rfl, hc⟩
end Go.Proofs.YtgckfiadnmjonabGreatDoor
