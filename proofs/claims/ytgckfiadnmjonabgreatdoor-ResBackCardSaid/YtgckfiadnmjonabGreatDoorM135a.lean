/- The statement ResBack, walked. -/
import Derived.Test.YtgckfiadnmjonabGreatDoorL5a
import Derived.Test.YtgckfiadnmjonabGreatDoorL3a
import Derived.Test.YtgckfiadnmjonabGreatDoorL0b
import Derived.Deep.DeepCutAuto
import Derived.Deep.CutBlock
namespace Go.Proofs.YtgckfiadnmjonabGreatDoor
open Go.RowKit
set_option linter.unusedVariables false
set_option linter.unusedSimpArgs false
set_option maxHeartbeats 40000000
set_option maxRecDepth 20000
theorem b8 {n : Int} (h : (Lit.int .u8 n).wf = true) : 0 ≤ n ∧ n ≤ 255 := by
  have := bounds_u8 h
  omega
theorem deed4 {l : List Value} (h : OkL [.int .u8, .int .u8, .int .u8, .int .u8] l) : ∃ a b c d : Int, l = [.int .u8 a, .int .u8 b, .int .u8 c, .int .u8 d] ∧ (0 ≤ a ∧ a ≤ 255) ∧ (0 ≤ b ∧ b ≤ 255) ∧ (0 ≤ c ∧ c ≤ 255) ∧ (0 ≤ d ∧ d ≤ 255) := by
  obtain ⟨_, _, rfl, ⟨a, rfl, wa⟩, h1⟩ := OkL_cons h
  obtain ⟨_, _, rfl, ⟨b, rfl, wb⟩, h2⟩ := OkL_cons h1
  obtain ⟨_, _, rfl, ⟨c, rfl, wc⟩, h3⟩ := OkL_cons h2
  obtain ⟨_, _, rfl, ⟨d, rfl, wd⟩, h4⟩ := OkL_cons h3
  obtain rfl := OkL_nil h4
  exact ⟨a, b, c, d, rfl, b8 wa, b8 wb, b8 wc, b8 wd⟩
theorem tried_any (k i g st wy tr nx : Int) (tag : ByteArray) (a now wait : Int) : ∃ k' i' g' st' wy' tr' nx' tag' e, triedV k i g st wy tr nx tag a now wait = .tuple #[rV k' i' g' st' wy' tr' nx' tag', .int .i64 e] := by
  unfold triedV
  repeat' split
  all_goals first | exact ⟨_, _, _, _, _, _, _, _, _, rfl⟩ | exact ⟨0, 0, 0, 0, 0, 0, 0, _, _, rfl⟩
theorem text_size {k i g st wy tr nx : Int} {tag : ByteArray} (h : rErr k i g st wy tr nx tag = 0) (g1 : g ≤ 4294967295) : (rsText k i g st wy tr nx tag).size ≤ 400 := by
  obtain ⟨hd, ht, hr⟩ := ok_range h
  have h1 := dTextL_len 58 (k := k) (s := i) (g := g) (by have := dOk_iff.1 hd; omega) (by omega)
  have h2 := (tagOk_len ht).2
  have h3 := (escL_len tag.data.toList).2
  have h4 : (stL st).length ≤ 10 := by unfold stL; repeat' split
                                       all_goals decide
  have h5 : (whL wy).length ≤ 7 := by unfold whL; repeat' split
                                      all_goals decide
  have h6 := nDigits_le_20 tr.toNat (by omega)
  have h7 := nDigits_le_20 nx.toNat (by omega)
  have h8 : (quoteL tag.data.toList).length = (escL tag.data.toList).length + 2 := by simp [quoteL]
  have h9 : (tail2 st wy tr nx tag.data.toList).length ≤ 30 + 30 + 200 := by
    unfold tail2 tail4
    repeat' split
    all_goals (try simp only [List.length_append, List.length_cons])
    all_goals omega
  rw [← len_bytes]
  unfold rsText
  rw [of_list, rsL_eq]
  simp only [List.length_append, List.length_cons]
  omega
theorem replace_first (pre post : List UInt8) (h : (32 : UInt8) ∉ pre) : Lib.replace (pre ++ 32 :: post) [32] [32, 32] 1 = pre ++ 32 :: 32 :: post := by
  have hi : Lib.index (pre ++ 32 :: post) [32] = (pre.length : Nat) := by rw [Lib.index_one, indexByte_at pre post 32 h]
  have hc : 1 ≤ Lib.count (pre ++ 32 :: post) [32] := by
    unfold Lib.count Lib.countFrom
    rw [hi]
    simp
  have hn : Lib.replaceNum (pre ++ 32 :: post) [32] 1 = 1 := by
    unfold Lib.replaceNum
    rw [if_neg (by omega)]
    rfl
  unfold Lib.replace
  rw [if_neg (by decide), hn, Lib.replaceK_hit _ _ 0 _ _ hi]
  simp [Lib.replaceK]
theorem back_walk (kind id name gen : Int) (v : Value) (n : Nat) (E : Nat → List Value) (s : ByteArray) (w : World) (hsl : Sl w v [.int .u8, .int .u8, .int .u8, .int .u8] n E) (hE : EnvP w) (k0 : 0 ≤ kind) (k1 : kind ≤ 255) (i0 : 0 ≤ id) (i1 : id ≤ 255) (n0 : 0 ≤ name) (n1 : name ≤ 255) (g0 : 0 ≤ gen) (g1 : gen ≤ 4294967295) :
    Ret 5 #[.int .u8 kind, .int .u8 id, .int .u8 name, .int .u32 gen, v, .string s] w (.bool true) := by
  obtain ⟨⟨p, cap, rfl, hcap, hmax, hel⟩, hdeed⟩ := hsl
  have c1 := fun w => start_c kind id name gen k0 k1 i0 i1 n0 n1 g0 g1 w
  have hd : dOk 64 (sK kind) (sI id) (sG gen) = true := by rw [dOk_iff]; unfold sK sI sG; omega
  have hG : 0 ≤ sG gen ∧ sG gen ≤ 4294967295 := by unfold sG; omega
  have hT := tagS_ok name
  have hTs := tagS_size name
  have hr0 := start_ok _ _ _ name hd
  generalize sK kind = kk at *
  generalize sI id = ii at *
  generalize sG gen = gg at *
  generalize tagS name = tt at *
  have C1 := Lib.hid c1
  have HE := Lib.hid hE
  have HEL := Lib.hid hel
  clear c1 hE hel
  have hc := Below.refl w.heap.size w
  obtain ⟨N, hN1, hN2, eN⟩ : ∃ N : Nat, N ≤ n ∧ N ≤ 20 ∧ min (n : Int) 20 = (N : Int) := ⟨min n 20, by omega, by omega, by omega⟩
  have eM : max (N : Int) 0 = (N : Int) := by omega
  go_enter Tryz.func5, Tryz.ntmps5
  go_wp2_with fail
  refine Calls.mono (C1.out _) ?_
  rintro e V1 ⟨rfl, hn⟩
  replace hc := chain hc hn
  clear hn
  go_upto_region 2 with fail
  have r13 := Row.new (W := V1) (cs := (rC kk ii gg 1 0 0 0 tt)) (t := 27)
  have hn := below_alloc V1 (.cells (rC kk ii gg 1 0 0 0 tt) 27)
  have wr13 : w.heap.size ≤ V1.heap.size := hc.size
  replace hc := chain hc hn
  clear hn
  generalize V1.alloc (.cells (rC kk ii gg 1 0 0 0 tt) 27) = V2 at r13 hc ⊢
  generalize V1.heap.size = b13 at *
  go_wp2_with fail
  clear eN eM
  go_loopw [15, 48] (fun nowv iv wr => ∃ (i : Nat) (st wy tr nx now : Int), i ≤ N ∧ iv = .int .i64 i ∧ nowv = .int .i64 now ∧ 0 ≤ now ∧ now ≤ 255 * i ∧ tr ≤ i ∧ rErr kk ii gg st wy tr nx tt = 0 ∧ Row wr b13 (rC kk ii gg st wy tr nx tt) 27 ∧ Below w.heap.size w wr) (fun _ iv _ => N - (intOf iv).toNat)
  case atStart => exact ⟨0, 1, 0, 0, 0, 0, Nat.zero_le _, rfl, rfl, by omega, by omega, by omega, hr0, r13, hc⟩
  case round =>
    obtain ⟨i, st, wy, tr, nx, now, hiN, rfl, rfl, hn0, hn1, htr, hR, r13, hc⟩ := hrel
    by_cases hlt : i < N
    · rcases HEL.out with h0 | ⟨b, off, rfl, hb, hcell⟩
      · omega
      obtain ⟨x0, x1, x2, x3, hE4, bx0, bx1, bx2, bx3⟩ := deed4 (hdeed i (by omega))
      have q := hcell i (by omega)
      rw [hE4] at q
      have d0 : wr.cell? ⟨b, off + i * 4, none⟩ = some (.int .u8 x0) := (hc.cell (p := ⟨b, off + i * 4, none⟩) hb).trans (q 0 (by decide))
      have d1 : wr.cell? ⟨b, off + i * 4 + 1, none⟩ = some (.int .u8 x1) := (hc.cell (p := ⟨b, off + i * 4 + 1, none⟩) hb).trans (q 1 (by decide))
      have d2 : wr.cell? ⟨b, off + i * 4 + 2, none⟩ = some (.int .u8 x2) := (hc.cell (p := ⟨b, off + i * 4 + 2, none⟩) hb).trans (q 2 (by decide))
      have d3 : wr.cell? ⟨b, off + i * 4 + 3, none⟩ = some (.int .u8 x3) := (hc.cell (p := ⟨b, off + i * 4 + 3, none⟩) hb).trans (q 3 (by decide))
      clear q
      go_upto_region 8 with fail
      clear d0 d1 d2 d3
      have r17 := Row.new (W := wr) (cs := #[.int .u8 x0, .int .u8 x1, .int .u8 x2, .int .u8 x3]) (t := 46)
      have hn := below_alloc wr (.cells #[.int .u8 x0, .int .u8 x1, .int .u8 x2, .int .u8 x3] 46)
      have nr13_r17 : b13 ≠ wr.heap.size := Nat.ne_of_lt r13.lt
      have wr17 : w.heap.size ≤ wr.heap.size := hc.size
      replace r13 := r13.on hn
      replace hc := chain hc hn
      clear hn
      generalize wr.alloc (.cells #[.int .u8 x0, .int .u8 x1, .int .u8 x2, .int .u8 x3] 46) = V3 at r13 r17 hc ⊢
      generalize wr.heap.size = b17 at *
      have hw1 : IntKind.i64.wrap (now + x0) = now + x0 := IntWalk.i64_in _ ⟨by omega, by omega⟩
      have yr13 := r13.cell
      have zr13 := r13.lt
      have yr17 := r17.cell
      have zr17 := r17.lt
      go_upto_region 9 with fail
      clear yr13 yr17 zr13 zr17
      clear hw1
      have ek : x1.tmod 4 = x1 % 4 := Int.tmod_eq_emod_of_nonneg bx1.1
      have ea : x2.tmod 3 = x2 % 3 := Int.tmod_eq_emod_of_nonneg bx2.1
      have hA : x2 % 3 = 0 ∨ x2 % 3 = 1 ∨ x2 % 3 = 2 := by omega
      obtain ⟨now2, hnow⟩ : ∃ z, z = now + x0 := ⟨_, rfl⟩
      rw [← hnow]
      have hb2 : 0 ≤ now2 ∧ now2 ≤ 255 * i + 255 := by omega
      have hiN2 : i < 20 := by omega
      clear hnow
      have hw2 : IntKind.i64.wrap (1 + x2 % 3) = 1 + x2 % 3 := IntWalk.i64_in _ ⟨by omega, by omega⟩
      have hw3 : IntKind.i64.wrap (1 + x3) = 1 + x3 := IntWalk.i64_in _ ⟨by omega, by omega⟩
      obtain ⟨hd2, ht2, hrg⟩ := ok_range hR
      by_cases hk : x1 % 4 = 0
      · by_cases hst : st = 1
        · have c2 := fun w => close_c kk ii gg st wy tr nx (1 + x2 % 3) now2 tt w hG.1 hG.2 (by omega)
          obtain ⟨rfl, rfl, rfl, rfl⟩ : st = 1 ∧ wy = 0 ∧ tr = 0 ∧ nx = 0 := by omega
          rw [close_live hR (by omega) (by omega)] at c2
          have C2 := Lib.hid c2
          clear c2
          have e1 : (x1 % 4 == 0) = true := by rw [beq_iff_eq]; exact hk
          have c := fun w => tried_c kk ii gg 1 0 0 0 (1 + x2 % 3) now2 (1 + x3) tt w hG.1 hG.2 (by omega)
          rw [tried_not hR (by decide) (by omega) (by omega) (by omega)] at c
          have C := Lib.hid c
          clear c
          have yr13 := r13.cell
          have zr13 := r13.lt
          have yr17 := r17.cell
          have zr17 := r17.lt
          go_wp2_with fail
          refine Calls.mono (C.out _) ?_
          rintro e V4 ⟨rfl, hn⟩
          clear yr13 yr17 zr13 zr17
          replace r13 := r13.on hn
          replace r17 := r17.on hn
          replace hc := chain hc hn
          clear hn
          clear C
          have yr13 := r13.cell
          have zr13 := r13.lt
          have yr17 := r17.cell
          have zr17 := r17.lt
          go_upto_region 10 with fail
          clear yr13 yr17 zr13 zr17
          have r18 := Row.new (W := V4) (cs := (rC 0 0 0 0 0 0 0 ⟨#[]⟩)) (t := 27)
          have hn := below_alloc V4 (.cells (rC 0 0 0 0 0 0 0 ⟨#[]⟩) 27)
          have nr13_r18 : b13 ≠ V4.heap.size := Nat.ne_of_lt r13.lt
          have nr17_r18 : b17 ≠ V4.heap.size := Nat.ne_of_lt r17.lt
          have wr18 : w.heap.size ≤ V4.heap.size := hc.size
          replace r13 := r13.on hn
          replace r17 := r17.on hn
          replace hc := chain hc hn
          clear hn
          generalize V4.alloc (.cells (rC 0 0 0 0 0 0 0 ⟨#[]⟩) 27) = V5 at r13 r17 r18 hc ⊢
          generalize V4.heap.size = b18 at *
          have yr13 := r13.cell
          have zr13 := r13.lt
          have yr17 := r17.cell
          have zr17 := r17.lt
          have yr18 := r18.cell
          have zr18 := r18.lt
          go_wp2_with fail
          refine Calls.mono (C2.out _) ?_
          rintro e V6 ⟨rfl, hn⟩
          clear yr13 yr17 yr18 zr13 zr17 zr18
          replace r13 := r13.on hn
          replace r17 := r17.on hn
          replace r18 := r18.on hn
          replace hc := chain hc hn
          clear hn
          have yr13 := r13.cell
          have zr13 := r13.lt
          have yr17 := r17.cell
          have zr17 := r17.lt
          have yr18 := r18.cell
          have zr18 := r18.lt
          have ur18 := r18.free
          go_upto_region 12 with fail
          clear yr13 yr17 yr18 zr13 zr17 zr18 ur18
          replace r13 := ((((((((r13.other nr13_r18.symm 0 (.int .i64 kk)).other nr13_r18.symm 1 (.int .i64 ii)).other nr13_r18.symm 2 (.int .u32 gg)).other nr13_r18.symm 3 (.int .i64 2)).other nr13_r18.symm 4 (.int .i64 (1 + x2 % 3))).other nr13_r18.symm 5 (.int .i64 0)).other nr13_r18.symm 6 (.int .i64 now2)).other nr13_r18.symm 7 (.string tt))
          replace r17 := ((((((((r17.other nr17_r18.symm 0 (.int .i64 kk)).other nr17_r18.symm 1 (.int .i64 ii)).other nr17_r18.symm 2 (.int .u32 gg)).other nr17_r18.symm 3 (.int .i64 2)).other nr17_r18.symm 4 (.int .i64 (1 + x2 % 3))).other nr17_r18.symm 5 (.int .i64 0)).other nr17_r18.symm 6 (.int .i64 now2)).other nr17_r18.symm 7 (.string tt))
          replace r18 := ((((((((r18.set 0 (.int .i64 kk)).set 1 (.int .i64 ii)).set 2 (.int .u32 gg)).set 3 (.int .i64 2)).set 4 (.int .i64 (1 + x2 % 3))).set 5 (.int .i64 0)).set 6 (.int .i64 now2)).set 7 (.string tt))
          simp only [List.setIfInBounds_toArray, List.set_cons_zero, List.set_cons_succ] at r18
          replace hc := ((((((((hc.setCell (p := ⟨b18, 0, none⟩) wr18 (.int .i64 kk)).setCell (p := ⟨b18, 1, none⟩) wr18 (.int .i64 ii)).setCell (p := ⟨b18, 2, none⟩) wr18 (.int .u32 gg)).setCell (p := ⟨b18, 3, none⟩) wr18 (.int .i64 2)).setCell (p := ⟨b18, 4, none⟩) wr18 (.int .i64 (1 + x2 % 3))).setCell (p := ⟨b18, 5, none⟩) wr18 (.int .i64 0)).setCell (p := ⟨b18, 6, none⟩) wr18 (.int .i64 now2)).setCell (p := ⟨b18, 7, none⟩) wr18 (.string tt))
          generalize hW : World.setCell _ _ _ = V7 at *
          clear hW
          clear C2
          have hok : rErr kk ii gg 2 (1 + x2 % 3) 0 now2 tt = 0 := ok_2 hd2 ht2 (by omega) (by omega) (by omega)
          have yr13 := r13.cell
          have zr13 := r13.lt
          have yr17 := r17.cell
          have zr17 := r17.lt
          have yr18 := r18.cell
          have zr18 := r18.lt
          have ur13 := r13.free
          go_upto_region 14 with fail
          clear yr13 yr17 yr18 zr13 zr17 zr18 ur13
          replace r17 := ((((((((r17.other nr13_r17 0 (.int .i64 kk)).other nr13_r17 1 (.int .i64 ii)).other nr13_r17 2 (.int .u32 gg)).other nr13_r17 3 (.int .i64 2)).other nr13_r17 4 (.int .i64 (1 + x2 % 3))).other nr13_r17 5 (.int .i64 0)).other nr13_r17 6 (.int .i64 now2)).other nr13_r17 7 (.string tt))
          replace r18 := ((((((((r18.other nr13_r18 0 (.int .i64 kk)).other nr13_r18 1 (.int .i64 ii)).other nr13_r18 2 (.int .u32 gg)).other nr13_r18 3 (.int .i64 2)).other nr13_r18 4 (.int .i64 (1 + x2 % 3))).other nr13_r18 5 (.int .i64 0)).other nr13_r18 6 (.int .i64 now2)).other nr13_r18 7 (.string tt))
          replace r13 := ((((((((r13.set 0 (.int .i64 kk)).set 1 (.int .i64 ii)).set 2 (.int .u32 gg)).set 3 (.int .i64 2)).set 4 (.int .i64 (1 + x2 % 3))).set 5 (.int .i64 0)).set 6 (.int .i64 now2)).set 7 (.string tt))
          simp only [List.setIfInBounds_toArray, List.set_cons_zero, List.set_cons_succ] at r13
          replace hc := ((((((((hc.setCell (p := ⟨b13, 0, none⟩) wr13 (.int .i64 kk)).setCell (p := ⟨b13, 1, none⟩) wr13 (.int .i64 ii)).setCell (p := ⟨b13, 2, none⟩) wr13 (.int .u32 gg)).setCell (p := ⟨b13, 3, none⟩) wr13 (.int .i64 2)).setCell (p := ⟨b13, 4, none⟩) wr13 (.int .i64 (1 + x2 % 3))).setCell (p := ⟨b13, 5, none⟩) wr13 (.int .i64 0)).setCell (p := ⟨b13, 6, none⟩) wr13 (.int .i64 now2)).setCell (p := ⟨b13, 7, none⟩) wr13 (.string tt))
          generalize hW : World.setCell _ _ _ = V8 at *
          clear hW
          have yr13 := r13.cell
          have zr13 := r13.lt
          have yr17 := r17.cell
          have zr17 := r17.lt
          have yr18 := r18.cell
          have zr18 := r18.lt
          go_wp2_with fail
          go_roundw
          case rel => exact ⟨i + 1, 2, (1 + x2 % 3), 0, now2, now2, by omega, by go_num, rfl, by omega, by omega, by omega, hok, r13, hc⟩
          case measure => simp [intOf]; omega
        · have c2 := fun w => close_c kk ii gg st wy tr nx (1 + x2 % 3) now2 tt w hG.1 hG.2 (by omega)
          rw [close_not hR hst (by omega) (by omega)] at c2
          have C2 := Lib.hid c2
          clear c2
          have e1 : (x1 % 4 == 0) = true := by rw [beq_iff_eq]; exact hk
          obtain ⟨kA, iA, gA, stA, wyA, trA, nxA, tagA, eA, hv⟩ := tried_any kk ii gg st wy tr nx tt (1 + x2 % 3) now2 (1 + x3)
          have c := fun w => tried_c kk ii gg st wy tr nx (1 + x2 % 3) now2 (1 + x3) tt w hG.1 hG.2 (by omega)
          rw [hv] at c
          have C := Lib.hid c
          clear c hv
          have yr13 := r13.cell
          have zr13 := r13.lt
          have yr17 := r17.cell
          have zr17 := r17.lt
          go_wp2_with fail
          refine Calls.mono (C.out _) ?_
          rintro e V4 ⟨rfl, hn⟩
          clear yr13 yr17 zr13 zr17
          replace r13 := r13.on hn
          replace r17 := r17.on hn
          replace hc := chain hc hn
          clear hn
          clear C
          have yr13 := r13.cell
          have zr13 := r13.lt
          have yr17 := r17.cell
          have zr17 := r17.lt
          go_upto_region 10 with fail
          clear yr13 yr17 zr13 zr17
          have r18 := Row.new (W := V4) (cs := (rC kA iA gA stA wyA trA nxA tagA)) (t := 27)
          have hn := below_alloc V4 (.cells (rC kA iA gA stA wyA trA nxA tagA) 27)
          have nr13_r18 : b13 ≠ V4.heap.size := Nat.ne_of_lt r13.lt
          have nr17_r18 : b17 ≠ V4.heap.size := Nat.ne_of_lt r17.lt
          have wr18 : w.heap.size ≤ V4.heap.size := hc.size
          replace r13 := r13.on hn
          replace r17 := r17.on hn
          replace hc := chain hc hn
          clear hn
          generalize V4.alloc (.cells (rC kA iA gA stA wyA trA nxA tagA) 27) = V5 at r13 r17 r18 hc ⊢
          generalize V4.heap.size = b18 at *
          have yr13 := r13.cell
          have zr13 := r13.lt
          have yr17 := r17.cell
          have zr17 := r17.lt
          have yr18 := r18.cell
          have zr18 := r18.lt
          go_wp2_with fail
          refine Calls.mono (C2.out _) ?_
          rintro e V6 ⟨rfl, hn⟩
          clear yr13 yr17 yr18 zr13 zr17 zr18
          replace r13 := r13.on hn
          replace r17 := r17.on hn
          replace r18 := r18.on hn
          replace hc := chain hc hn
          clear hn
          have yr13 := r13.cell
          have zr13 := r13.lt
          have yr17 := r17.cell
          have zr17 := r17.lt
          have yr18 := r18.cell
          have zr18 := r18.lt
          have ur18 := r18.free
          go_upto_region 12 with fail
          clear yr13 yr17 yr18 zr13 zr17 zr18 ur18
          replace r13 := ((((((((r13.other nr13_r18.symm 0 (.int .i64 0)).other nr13_r18.symm 1 (.int .i64 0)).other nr13_r18.symm 2 (.int .u32 0)).other nr13_r18.symm 3 (.int .i64 0)).other nr13_r18.symm 4 (.int .i64 0)).other nr13_r18.symm 5 (.int .i64 0)).other nr13_r18.symm 6 (.int .i64 0)).other nr13_r18.symm 7 (.string ⟨#[]⟩))
          replace r17 := ((((((((r17.other nr17_r18.symm 0 (.int .i64 0)).other nr17_r18.symm 1 (.int .i64 0)).other nr17_r18.symm 2 (.int .u32 0)).other nr17_r18.symm 3 (.int .i64 0)).other nr17_r18.symm 4 (.int .i64 0)).other nr17_r18.symm 5 (.int .i64 0)).other nr17_r18.symm 6 (.int .i64 0)).other nr17_r18.symm 7 (.string ⟨#[]⟩))
          replace r18 := ((((((((r18.set 0 (.int .i64 0)).set 1 (.int .i64 0)).set 2 (.int .u32 0)).set 3 (.int .i64 0)).set 4 (.int .i64 0)).set 5 (.int .i64 0)).set 6 (.int .i64 0)).set 7 (.string ⟨#[]⟩))
          simp only [List.setIfInBounds_toArray, List.set_cons_zero, List.set_cons_succ] at r18
          replace hc := ((((((((hc.setCell (p := ⟨b18, 0, none⟩) wr18 (.int .i64 0)).setCell (p := ⟨b18, 1, none⟩) wr18 (.int .i64 0)).setCell (p := ⟨b18, 2, none⟩) wr18 (.int .u32 0)).setCell (p := ⟨b18, 3, none⟩) wr18 (.int .i64 0)).setCell (p := ⟨b18, 4, none⟩) wr18 (.int .i64 0)).setCell (p := ⟨b18, 5, none⟩) wr18 (.int .i64 0)).setCell (p := ⟨b18, 6, none⟩) wr18 (.int .i64 0)).setCell (p := ⟨b18, 7, none⟩) wr18 (.string ⟨#[]⟩))
          generalize hW : World.setCell _ _ _ = V7 at *
          clear hW
          clear C2
          have yr13 := r13.cell
          have zr13 := r13.lt
          have yr17 := r17.cell
          have zr17 := r17.lt
          have yr18 := r18.cell
          have zr18 := r18.lt
          go_wp2_with fail
          go_roundw
          case rel => exact ⟨i + 1, st, wy, tr, nx, now2, by omega, by go_num, rfl, by omega, by omega, by omega, hR, r13, hc⟩
          case measure => simp [intOf]; omega
      · by_cases hst : st = 2
        · rcases hA with hAk | hAk | hAk
          · subst hst
            have e1 : (x1 % 4 == 0) = false := by rw [beq_eq_false_iff_ne]; exact hk
            rw [hAk] at ea
            clear hw2
            have hwy : 1 ≤ wy ∧ wy ≤ 3 := by omega
            have htr0 : 0 ≤ tr ∧ tr ≤ 10000 := by omega
            have c := fun w => tried_c kk ii gg 2 wy tr nx 1 now2 (1 + x3) tt w hG.1 hG.2 (by omega)
            rw [tried_ok hR (by omega) (by omega)] at c
            have C := Lib.hid c
            clear c
            have yr13 := r13.cell
            have zr13 := r13.lt
            have yr17 := r17.cell
            have zr17 := r17.lt
            go_wp2_with fail
            refine Calls.mono (C.out _) ?_
            rintro e V4 ⟨rfl, hn⟩
            clear yr13 yr17 zr13 zr17
            replace r13 := r13.on hn
            replace r17 := r17.on hn
            replace hc := chain hc hn
            clear hn
            clear C
            have yr13 := r13.cell
            have zr13 := r13.lt
            have yr17 := r17.cell
            have zr17 := r17.lt
            go_upto_region 10 with fail
            clear yr13 yr17 zr13 zr17
            have r18 := Row.new (W := V4) (cs := (rC kk ii gg 3 wy tr 0 tt)) (t := 27)
            have hn := below_alloc V4 (.cells (rC kk ii gg 3 wy tr 0 tt) 27)
            have nr13_r18 : b13 ≠ V4.heap.size := Nat.ne_of_lt r13.lt
            have nr17_r18 : b17 ≠ V4.heap.size := Nat.ne_of_lt r17.lt
            have wr18 : w.heap.size ≤ V4.heap.size := hc.size
            replace r13 := r13.on hn
            replace r17 := r17.on hn
            replace hc := chain hc hn
            clear hn
            generalize V4.alloc (.cells (rC kk ii gg 3 wy tr 0 tt) 27) = V5 at r13 r17 r18 hc ⊢
            generalize V4.heap.size = b18 at *
            have hok : rErr kk ii gg 3 wy tr 0 tt = 0 := ok_34 (.inl rfl) hd2 ht2 hwy htr0
            have yr13 := r13.cell
            have zr13 := r13.lt
            have yr17 := r17.cell
            have zr17 := r17.lt
            have yr18 := r18.cell
            have zr18 := r18.lt
            have ur13 := r13.free
            go_upto_region 14 with fail
            clear yr13 yr17 yr18 zr13 zr17 zr18 ur13
            replace r17 := ((((((((r17.other nr13_r17 0 (.int .i64 kk)).other nr13_r17 1 (.int .i64 ii)).other nr13_r17 2 (.int .u32 gg)).other nr13_r17 3 (.int .i64 3)).other nr13_r17 4 (.int .i64 wy)).other nr13_r17 5 (.int .i64 tr)).other nr13_r17 6 (.int .i64 0)).other nr13_r17 7 (.string tt))
            replace r18 := ((((((((r18.other nr13_r18 0 (.int .i64 kk)).other nr13_r18 1 (.int .i64 ii)).other nr13_r18 2 (.int .u32 gg)).other nr13_r18 3 (.int .i64 3)).other nr13_r18 4 (.int .i64 wy)).other nr13_r18 5 (.int .i64 tr)).other nr13_r18 6 (.int .i64 0)).other nr13_r18 7 (.string tt))
            replace r13 := ((((((((r13.set 0 (.int .i64 kk)).set 1 (.int .i64 ii)).set 2 (.int .u32 gg)).set 3 (.int .i64 3)).set 4 (.int .i64 wy)).set 5 (.int .i64 tr)).set 6 (.int .i64 0)).set 7 (.string tt))
            simp only [List.setIfInBounds_toArray, List.set_cons_zero, List.set_cons_succ] at r13
            replace hc := ((((((((hc.setCell (p := ⟨b13, 0, none⟩) wr13 (.int .i64 kk)).setCell (p := ⟨b13, 1, none⟩) wr13 (.int .i64 ii)).setCell (p := ⟨b13, 2, none⟩) wr13 (.int .u32 gg)).setCell (p := ⟨b13, 3, none⟩) wr13 (.int .i64 3)).setCell (p := ⟨b13, 4, none⟩) wr13 (.int .i64 wy)).setCell (p := ⟨b13, 5, none⟩) wr13 (.int .i64 tr)).setCell (p := ⟨b13, 6, none⟩) wr13 (.int .i64 0)).setCell (p := ⟨b13, 7, none⟩) wr13 (.string tt))
            generalize hW : World.setCell _ _ _ = V6 at *
            clear hW
            have yr13 := r13.cell
            have zr13 := r13.lt
            have yr17 := r17.cell
            have zr17 := r17.lt
            have yr18 := r18.cell
            have zr18 := r18.lt
            go_wp2_with fail
            go_roundw
            case rel => exact ⟨i + 1, 3, wy, tr, 0, now2, by omega, by go_num, rfl, by omega, by omega, by omega, hok, r13, hc⟩
            case measure => simp [intOf]; omega
          · subst hst
            have e1 : (x1 % 4 == 0) = false := by rw [beq_eq_false_iff_ne]; exact hk
            rw [hAk] at ea
            clear hw2
            have hwy : 1 ≤ wy ∧ wy ≤ 3 := by omega
            have htr0 : 0 ≤ tr ∧ tr ≤ 10000 := by omega
            have c := fun w => tried_c kk ii gg 2 wy tr nx 2 now2 (1 + x3) tt w hG.1 hG.2 (by omega)
            rw [tried_later hR (by omega) (by omega) (by omega)] at c
            have C := Lib.hid c
            clear c
            have yr13 := r13.cell
            have zr13 := r13.lt
            have yr17 := r17.cell
            have zr17 := r17.lt
            go_wp2_with fail
            refine Calls.mono (C.out _) ?_
            rintro e V4 ⟨rfl, hn⟩
            clear yr13 yr17 zr13 zr17
            replace r13 := r13.on hn
            replace r17 := r17.on hn
            replace hc := chain hc hn
            clear hn
            clear C
            have yr13 := r13.cell
            have zr13 := r13.lt
            have yr17 := r17.cell
            have zr17 := r17.lt
            go_upto_region 10 with fail
            clear yr13 yr17 zr13 zr17
            have r18 := Row.new (W := V4) (cs := (rC kk ii gg 2 wy (tr + 1) (now2 + (1 + x3)) tt)) (t := 27)
            have hn := below_alloc V4 (.cells (rC kk ii gg 2 wy (tr + 1) (now2 + (1 + x3)) tt) 27)
            have nr13_r18 : b13 ≠ V4.heap.size := Nat.ne_of_lt r13.lt
            have nr17_r18 : b17 ≠ V4.heap.size := Nat.ne_of_lt r17.lt
            have wr18 : w.heap.size ≤ V4.heap.size := hc.size
            replace r13 := r13.on hn
            replace r17 := r17.on hn
            replace hc := chain hc hn
            clear hn
            generalize V4.alloc (.cells (rC kk ii gg 2 wy (tr + 1) (now2 + (1 + x3)) tt) 27) = V5 at r13 r17 r18 hc ⊢
            generalize V4.heap.size = b18 at *
            have hok : rErr kk ii gg 2 wy (tr + 1) (now2 + (1 + x3)) tt = 0 := ok_2 hd2 ht2 hwy (by omega) (by omega)
            have yr13 := r13.cell
            have zr13 := r13.lt
            have yr17 := r17.cell
            have zr17 := r17.lt
            have yr18 := r18.cell
            have zr18 := r18.lt
            have ur13 := r13.free
            go_upto_region 14 with fail
            clear yr13 yr17 yr18 zr13 zr17 zr18 ur13
            replace r17 := ((((((((r17.other nr13_r17 0 (.int .i64 kk)).other nr13_r17 1 (.int .i64 ii)).other nr13_r17 2 (.int .u32 gg)).other nr13_r17 3 (.int .i64 2)).other nr13_r17 4 (.int .i64 wy)).other nr13_r17 5 (.int .i64 (tr + 1))).other nr13_r17 6 (.int .i64 (now2 + (1 + x3)))).other nr13_r17 7 (.string tt))
            replace r18 := ((((((((r18.other nr13_r18 0 (.int .i64 kk)).other nr13_r18 1 (.int .i64 ii)).other nr13_r18 2 (.int .u32 gg)).other nr13_r18 3 (.int .i64 2)).other nr13_r18 4 (.int .i64 wy)).other nr13_r18 5 (.int .i64 (tr + 1))).other nr13_r18 6 (.int .i64 (now2 + (1 + x3)))).other nr13_r18 7 (.string tt))
            replace r13 := ((((((((r13.set 0 (.int .i64 kk)).set 1 (.int .i64 ii)).set 2 (.int .u32 gg)).set 3 (.int .i64 2)).set 4 (.int .i64 wy)).set 5 (.int .i64 (tr + 1))).set 6 (.int .i64 (now2 + (1 + x3)))).set 7 (.string tt))
            simp only [List.setIfInBounds_toArray, List.set_cons_zero, List.set_cons_succ] at r13
            replace hc := ((((((((hc.setCell (p := ⟨b13, 0, none⟩) wr13 (.int .i64 kk)).setCell (p := ⟨b13, 1, none⟩) wr13 (.int .i64 ii)).setCell (p := ⟨b13, 2, none⟩) wr13 (.int .u32 gg)).setCell (p := ⟨b13, 3, none⟩) wr13 (.int .i64 2)).setCell (p := ⟨b13, 4, none⟩) wr13 (.int .i64 wy)).setCell (p := ⟨b13, 5, none⟩) wr13 (.int .i64 (tr + 1))).setCell (p := ⟨b13, 6, none⟩) wr13 (.int .i64 (now2 + (1 + x3)))).setCell (p := ⟨b13, 7, none⟩) wr13 (.string tt))
            generalize hW : World.setCell _ _ _ = V6 at *
            clear hW
            have yr13 := r13.cell
            have zr13 := r13.lt
            have yr17 := r17.cell
            have zr17 := r17.lt
            have yr18 := r18.cell
            have zr18 := r18.lt
            go_wp2_with fail
            go_roundw
            case rel => exact ⟨i + 1, 2, wy, (tr + 1), (now2 + (1 + x3)), now2, by omega, by go_num, rfl, by omega, by omega, by omega, hok, r13, hc⟩
            case measure => simp [intOf]; omega
          · subst hst
            have e1 : (x1 % 4 == 0) = false := by rw [beq_eq_false_iff_ne]; exact hk
            rw [hAk] at ea
            clear hw2
            have hwy : 1 ≤ wy ∧ wy ≤ 3 := by omega
            have htr0 : 0 ≤ tr ∧ tr ≤ 10000 := by omega
            have c := fun w => tried_c kk ii gg 2 wy tr nx 3 now2 (1 + x3) tt w hG.1 hG.2 (by omega)
            rw [tried_fail hR (by omega) (by omega)] at c
            have C := Lib.hid c
            clear c
            have yr13 := r13.cell
            have zr13 := r13.lt
            have yr17 := r17.cell
            have zr17 := r17.lt
            go_wp2_with fail
            refine Calls.mono (C.out _) ?_
            rintro e V4 ⟨rfl, hn⟩
            clear yr13 yr17 zr13 zr17
            replace r13 := r13.on hn
            replace r17 := r17.on hn
            replace hc := chain hc hn
            clear hn
            clear C
            have yr13 := r13.cell
            have zr13 := r13.lt
            have yr17 := r17.cell
            have zr17 := r17.lt
            go_upto_region 10 with fail
            clear yr13 yr17 zr13 zr17
            have r18 := Row.new (W := V4) (cs := (rC kk ii gg 4 wy tr 0 tt)) (t := 27)
            have hn := below_alloc V4 (.cells (rC kk ii gg 4 wy tr 0 tt) 27)
            have nr13_r18 : b13 ≠ V4.heap.size := Nat.ne_of_lt r13.lt
            have nr17_r18 : b17 ≠ V4.heap.size := Nat.ne_of_lt r17.lt
            have wr18 : w.heap.size ≤ V4.heap.size := hc.size
            replace r13 := r13.on hn
            replace r17 := r17.on hn
            replace hc := chain hc hn
            clear hn
            generalize V4.alloc (.cells (rC kk ii gg 4 wy tr 0 tt) 27) = V5 at r13 r17 r18 hc ⊢
            generalize V4.heap.size = b18 at *
            have hok : rErr kk ii gg 4 wy tr 0 tt = 0 := ok_34 (.inr rfl) hd2 ht2 hwy htr0
            have yr13 := r13.cell
            have zr13 := r13.lt
            have yr17 := r17.cell
            have zr17 := r17.lt
            have yr18 := r18.cell
            have zr18 := r18.lt
            have ur13 := r13.free
            go_upto_region 14 with fail
            clear yr13 yr17 yr18 zr13 zr17 zr18 ur13
            replace r17 := ((((((((r17.other nr13_r17 0 (.int .i64 kk)).other nr13_r17 1 (.int .i64 ii)).other nr13_r17 2 (.int .u32 gg)).other nr13_r17 3 (.int .i64 4)).other nr13_r17 4 (.int .i64 wy)).other nr13_r17 5 (.int .i64 tr)).other nr13_r17 6 (.int .i64 0)).other nr13_r17 7 (.string tt))
            replace r18 := ((((((((r18.other nr13_r18 0 (.int .i64 kk)).other nr13_r18 1 (.int .i64 ii)).other nr13_r18 2 (.int .u32 gg)).other nr13_r18 3 (.int .i64 4)).other nr13_r18 4 (.int .i64 wy)).other nr13_r18 5 (.int .i64 tr)).other nr13_r18 6 (.int .i64 0)).other nr13_r18 7 (.string tt))
            replace r13 := ((((((((r13.set 0 (.int .i64 kk)).set 1 (.int .i64 ii)).set 2 (.int .u32 gg)).set 3 (.int .i64 4)).set 4 (.int .i64 wy)).set 5 (.int .i64 tr)).set 6 (.int .i64 0)).set 7 (.string tt))
            simp only [List.setIfInBounds_toArray, List.set_cons_zero, List.set_cons_succ] at r13
            replace hc := ((((((((hc.setCell (p := ⟨b13, 0, none⟩) wr13 (.int .i64 kk)).setCell (p := ⟨b13, 1, none⟩) wr13 (.int .i64 ii)).setCell (p := ⟨b13, 2, none⟩) wr13 (.int .u32 gg)).setCell (p := ⟨b13, 3, none⟩) wr13 (.int .i64 4)).setCell (p := ⟨b13, 4, none⟩) wr13 (.int .i64 wy)).setCell (p := ⟨b13, 5, none⟩) wr13 (.int .i64 tr)).setCell (p := ⟨b13, 6, none⟩) wr13 (.int .i64 0)).setCell (p := ⟨b13, 7, none⟩) wr13 (.string tt))
            generalize hW : World.setCell _ _ _ = V6 at *
            clear hW
            have yr13 := r13.cell
            have zr13 := r13.lt
            have yr17 := r17.cell
            have zr17 := r17.lt
            have yr18 := r18.cell
            have zr18 := r18.lt
            go_wp2_with fail
            go_roundw
            case rel => exact ⟨i + 1, 4, wy, tr, 0, now2, by omega, by go_num, rfl, by omega, by omega, by omega, hok, r13, hc⟩
            case measure => simp [intOf]; omega
        · have e1 : (x1 % 4 == 0) = false := by rw [beq_eq_false_iff_ne]; exact hk
          have c := fun w => tried_c kk ii gg st wy tr nx (1 + x2 % 3) now2 (1 + x3) tt w hG.1 hG.2 (by omega)
          rw [tried_not hR hst (by omega) (by omega) (by omega)] at c
          have C := Lib.hid c
          clear c
          have yr13 := r13.cell
          have zr13 := r13.lt
          have yr17 := r17.cell
          have zr17 := r17.lt
          go_wp2_with fail
          refine Calls.mono (C.out _) ?_
          rintro e V4 ⟨rfl, hn⟩
          clear yr13 yr17 zr13 zr17
          replace r13 := r13.on hn
          replace r17 := r17.on hn
          replace hc := chain hc hn
          clear hn
          clear C
          have yr13 := r13.cell
          have zr13 := r13.lt
          have yr17 := r17.cell
          have zr17 := r17.lt
          go_upto_region 10 with fail
          clear yr13 yr17 zr13 zr17
          have r18 := Row.new (W := V4) (cs := (rC 0 0 0 0 0 0 0 ⟨#[]⟩)) (t := 27)
          have hn := below_alloc V4 (.cells (rC 0 0 0 0 0 0 0 ⟨#[]⟩) 27)
          have nr13_r18 : b13 ≠ V4.heap.size := Nat.ne_of_lt r13.lt
          have nr17_r18 : b17 ≠ V4.heap.size := Nat.ne_of_lt r17.lt
          have wr18 : w.heap.size ≤ V4.heap.size := hc.size
          replace r13 := r13.on hn
          replace r17 := r17.on hn
          replace hc := chain hc hn
          clear hn
          generalize V4.alloc (.cells (rC 0 0 0 0 0 0 0 ⟨#[]⟩) 27) = V5 at r13 r17 r18 hc ⊢
          generalize V4.heap.size = b18 at *
          have yr13 := r13.cell
          have zr13 := r13.lt
          have yr17 := r17.cell
          have zr17 := r17.lt
          have yr18 := r18.cell
          have zr18 := r18.lt
          go_wp2_with fail
          go_roundw
          case rel => exact ⟨i + 1, st, wy, tr, nx, now2, by omega, by go_num, rfl, by omega, by omega, by omega, hR, r13, hc⟩
          case measure => simp [intOf]; omega
    · have hts := text_size hR hG.2
      have hIs : IsR kk ii gg st wy tr nx tt (rsText kk ii gg st wy tr nx tt).data.toList := ⟨hG, hR, by unfold rsText; rw [of_list]⟩
      have ct := fun w hE => text_c kk ii gg st wy tr nx tt w hE hG.1 hG.2 (by omega)
      rw [show textV kk ii gg st wy tr nx tt = .tuple #[.string (rsText kk ii gg st wy tr nx tt), .int .i64 0] by unfold textV; rw [if_pos hR]] at ct
      generalize rsText kk ii gg st wy tr nx tt = T at *
      have cp := fun w hE => parse_is T (by omega) hIs w hE
      have CT := Lib.hid ct
      have CP := Lib.hid cp
      clear ct cp
      obtain ⟨t0, hlast⟩ := isR_last hIs
      obtain ⟨rest, hfirst⟩ := isR_out hIs
      obtain ⟨h0, h00, h000, hhead, _, _, _⟩ := isR_first hIs
      have z1 : (T ++ ⟨#[32]⟩ : ByteArray).data.toList = T.data.toList ++ [32] := by simp
      have z2 : ((⟨#[32]⟩ : ByteArray) ++ T).data.toList = 32 :: T.data.toList := by simp
      have hsz : (1 : Int) ≤ T.size := by have := congrArg List.length hhead; rw [len_bytes] at this; simp at this; omega
      have z3 : (T.extract 0 (T.size - 1)).data.toList = t0 := by
        have hl := congrArg List.length hlast
        rw [len_bytes] at hl
        simp at hl
        rw [Lib.extract_data, hlast, hl]
        simp
      have z4 : (T.extract 1 T.size).data.toList = h00 :: h000 := by
        rw [Lib.extract_to_end, hhead]
        simp
      have p1 := parse_not (T ++ ⟨#[32]⟩) (by rw [ByteArray.size_append]; show T.size + 1 ≤ _; omega) (by rw [z1]; exact bad_more hIs)
      have p2 := parse_not (⟨#[32]⟩ ++ T) (by rw [ByteArray.size_append]; show 1 + T.size ≤ _; omega) (by rw [z2]; exact bad_ahead _)
      have p3 := parse_not (T.extract 0 (T.size - 1)) (by rw [← len_bytes, z3]; have := congrArg List.length hlast; rw [len_bytes] at this; simp at this; omega) (by rw [z3]; exact bad_less hIs hlast)
      have p4 := parse_not (T.extract 1 T.size) (by rw [← len_bytes, z4]; have := congrArg List.length hhead; rw [len_bytes] at this; simp at this; simp; omega) (by rw [z4]; rw [hhead] at hIs; exact bad_tail hIs)
      have zr : Lib.replace T.data.toList [32] [32, 32] 1 = dTextL 58 kk ii gg ++ 32 :: 32 :: rest := by rw [hfirst]; exact replace_first _ _ (no32_out kk ii gg)
      have cr := fun w (hE : Env w) => Tryz.strings_Replace_shaped T ⟨#[32]⟩ ⟨#[32, 32]⟩ 1 w hE.shp (by omega) (by decide) (by have := Lib.countB_mul_le ⟨#[32]⟩ (by decide) T.size T (Nat.le_refl _); show T.size + _ * 2 ≤ _; have h1 : (ByteArray.mk #[32]).size = 1 := rfl; rw [h1] at this; omega)
      rw [show (⟨#[32]⟩ : ByteArray).data.toList = [32] from rfl, show (⟨#[32, 32]⟩ : ByteArray).data.toList = [32, 32] from rfl, zr] at cr
      have p5 := parse_not ⟨(dTextL 58 kk ii gg ++ 32 :: 32 :: rest).toArray⟩ (by have := congrArg List.length hfirst; rw [len_bytes] at this; simp at this; rw [← len_bytes, of_list]; simp; omega) (by rw [of_list]; exact bad_twice rest)
      have s1 : ∀ W, (Op.stringOp .add T ⟨#[32]⟩).run Tryz.prog W = .ok (.string (T ++ ⟨#[32]⟩)) W := add_run rfl (by show T.size + 1 ≤ _; omega)
      have s2 : ∀ W, (Op.stringOp .add ⟨#[32]⟩ T).run Tryz.prog W = .ok (.string (⟨#[32]⟩ ++ T)) W := add_run rfl (by show 1 + T.size ≤ _; omega)
      have x3 : ((T.size : Int) - 1).toNat = T.size - 1 := by omega
      skip
      generalize dTextL 58 kk ii gg ++ 32 :: 32 :: rest = B5 at *
      clear z1 z2 z3 z4 zr hlast hfirst hhead
      have P1 := Lib.hid p1
      have P2 := Lib.hid p2
      have P3 := Lib.hid p3
      have P4 := Lib.hid p4
      have P5 := Lib.hid p5
      have CR := Lib.hid cr
      clear p1 p2 p3 p4 p5 cr
      have hq := rne_F kk ii gg st wy tr nx tt
      have hz := rne_F 0 0 0 0 0 0 0 ⟨#[]⟩
      have hy := req_F 0 0 0 0 0 0 0 ⟨#[]⟩
      have yr13 := r13.cell
      have zr13 := r13.lt
      go_wp2_with fail
      refine Calls.mono (CT.out _ (HE.out.on hc).toEnv) ?_
      rintro e V3 ⟨rfl, hn⟩
      clear yr13 zr13
      replace r13 := r13.on hn
      replace hc := chain hc hn
      clear hn
      have yr13 := r13.cell
      have zr13 := r13.lt
      go_wp2_with fail
      refine Calls.mono (CP.out _ (HE.out.on hc)) ?_
      rintro e V4 ⟨rfl, hn⟩
      clear yr13 zr13
      replace r13 := r13.on hn
      replace hc := chain hc hn
      clear hn
      have yr13 := r13.cell
      have zr13 := r13.lt
      go_upto_region 17 with fail
      clear yr13 zr13
      have r22 := Row.new (W := V4) (cs := (rC kk ii gg st wy tr nx tt)) (t := 27)
      have hn := below_alloc V4 (.cells (rC kk ii gg st wy tr nx tt) 27)
      have nr13_r22 : b13 ≠ V4.heap.size := Nat.ne_of_lt r13.lt
      have wr22 : w.heap.size ≤ V4.heap.size := hc.size
      replace r13 := r13.on hn
      replace hc := chain hc hn
      clear hn
      generalize V4.alloc (.cells (rC kk ii gg st wy tr nx tt) 27) = V5 at r13 r22 hc ⊢
      generalize V4.heap.size = b22 at *
      have yr13 := r13.cell
      have zr13 := r13.lt
      have yr22 := r22.cell
      have zr22 := r22.lt
      go_upto_region 19 with fail
      clear yr13 yr22 zr13 zr22
      have hws : IntKind.i64.wrap ((T.size : Int) - 1) = (T.size : Int) - 1 := IntWalk.i64_in _ ⟨by omega, by omega⟩
      have hb1 : (0 : Int) ≤ (T.size : Int) - 1 := by omega
      have hb2 : (T.size : Int) - 1 ≤ T.size := by omega
      refine wp_region_held_drew (S := fun W' => True) (by kernel_rfl) trivial (fun hHeld => ?_)
      replace r13 := r13.drew
      replace r22 := r22.drew
      replace hc := hc.drew
      generalize V5.drew = V6 at *
      refine' wpAnyH_take (i := 0) (oi := _) (v := _) ?_ (by kernel_rfl) (by kernel_rfl) (by kernel_rfl) ?_ (Or.inl ⟨?_, ?_⟩) (by assumption) ?_
      rotate_left 2
      · (simp only [List.getElem?_toArray, List.getElem?_cons_succ, List.getElem?_cons_zero]; rfl)
      · first | exact fun _ _ _ h => h | exact fun _ _ _ h => nomatch h.1
      · rfl
      · (intro W hSW; (try dsimp only at hSW); go_split_ands; first | (go_simp; done) | (go_simp; with_reducible rfl))
      try simp only [Act.put, List.setIfInBounds_toArray, List.set_cons_zero, List.set_cons_succ]
      refine' wpAnyH_take (i := 1) (oi := _) (v := _) ?_ (by kernel_rfl) (by kernel_rfl) (by kernel_rfl) ?_ (Or.inl ⟨?_, ?_⟩) (by assumption) ?_
      rotate_left 2
      · (simp only [List.getElem?_toArray, List.getElem?_cons_succ, List.getElem?_cons_zero]; rfl)
      · first | exact fun _ _ _ h => h | exact fun _ _ _ h => nomatch h.1
      · rfl
      · (intro W hSW; (try dsimp only at hSW); go_split_ands; first | (go_simp; done) | (go_simp; with_reducible rfl))
      try simp only [Act.put, List.setIfInBounds_toArray, List.set_cons_zero, List.set_cons_succ]
      refine' wpAnyH_take (i := 2) (oi := _) (v := _) ?_ (by kernel_rfl) (by kernel_rfl) (by kernel_rfl) ?_ (Or.inl ⟨?_, ?_⟩) (by assumption) ?_
      rotate_left 2
      · (simp only [List.getElem?_toArray, List.getElem?_cons_succ, List.getElem?_cons_zero]; rfl)
      · first | exact fun _ _ _ h => h | exact fun _ _ _ h => nomatch h.1
      · rfl
      · (intro W hSW; (try dsimp only at hSW); go_split_ands; first | (go_simp; done) | (go_simp; with_reducible rfl))
      try simp only [Act.put, List.setIfInBounds_toArray, List.set_cons_zero, List.set_cons_succ]
      refine' wpAnyH_take (i := 3) (oi := _) (v := _) ?_ (by kernel_rfl) (by kernel_rfl) (by kernel_rfl) ?_ (Or.inl ⟨?_, ?_⟩) (by assumption) ?_
      rotate_left 2
      · (simp only [List.getElem?_toArray, List.getElem?_cons_succ, List.getElem?_cons_zero]; rfl)
      · first | exact fun _ _ _ h => h | exact fun _ _ _ h => nomatch h.1
      · rfl
      · (intro W hSW; (try dsimp only at hSW); go_split_ands; first | (go_simp; done) | (go_simp; with_reducible rfl))
      try simp only [Act.put, List.setIfInBounds_toArray, List.set_cons_zero, List.set_cons_succ]
      refine' wpAnyH_take (i := 4) (oi := _) (v := _) ?_ (by kernel_rfl) (by kernel_rfl) (by kernel_rfl) ?_ (Or.inl ⟨?_, ?_⟩) (by assumption) ?_
      rotate_left 2
      · (simp only [List.getElem?_toArray, List.getElem?_cons_succ, List.getElem?_cons_zero]; rfl)
      · first | exact fun _ _ _ h => h | exact fun _ _ _ h => nomatch h.1
      · rfl
      · (intro W hSW; (try dsimp only at hSW); go_split_ands; first | (go_simp; done) | (go_simp; with_reducible rfl))
      try simp only [Act.put, List.setIfInBounds_toArray, List.set_cons_zero, List.set_cons_succ]
      refine' wpAnyH_take (i := 5) (oi := _) (v := _) ?_ (by kernel_rfl) (by kernel_rfl) (by kernel_rfl) ?_ (Or.inl ⟨?_, ?_⟩) (by assumption) ?_
      rotate_left 2
      · (simp only [List.getElem?_toArray, List.getElem?_cons_succ, List.getElem?_cons_zero]; rfl)
      · first | exact fun _ _ _ h => h | exact fun _ _ _ h => nomatch h.1
      · rfl
      · (intro W hSW; (try dsimp only at hSW); go_split_ands; first | (go_simp; done) | (go_simp; with_reducible rfl))
      try simp only [Act.put, List.setIfInBounds_toArray, List.set_cons_zero, List.set_cons_succ]
      refine' wpAnyH_take (i := 6) (oi := _) (v := _) ?_ (by kernel_rfl) (by kernel_rfl) (by kernel_rfl) ?_ (Or.inl ⟨?_, ?_⟩) (by assumption) ?_
      rotate_left 2
      · (simp only [List.getElem?_toArray, List.getElem?_cons_succ, List.getElem?_cons_zero]; rfl)
      · first | exact fun _ _ _ h => h | exact fun _ _ _ h => nomatch h.1
      · rfl
      · (intro W hSW; (try dsimp only at hSW); go_split_ands; first | (go_simp; done) | (go_simp; with_reducible rfl))
      try simp only [Act.put, List.setIfInBounds_toArray, List.set_cons_zero, List.set_cons_succ]
      refine' wpAnyH_take (i := 7) (oi := _) (v := _) ?_ (by kernel_rfl) (by kernel_rfl) (by kernel_rfl) ?_ (Or.inl ⟨?_, ?_⟩) (by assumption) ?_
      rotate_left 2
      · (simp only [List.getElem?_toArray, List.getElem?_cons_succ, List.getElem?_cons_zero]; rfl)
      · first | exact fun _ _ _ h => h | exact fun _ _ _ h => nomatch h.1
      · rfl
      · (intro W hSW; (try dsimp only at hSW); go_split_ands; first | (go_simp; done) | (go_simp; with_reducible rfl))
      try simp only [Act.put, List.setIfInBounds_toArray, List.set_cons_zero, List.set_cons_succ]
      refine' wpAnyH_take (i := 8) (oi := _) (v := _) ?_ (by kernel_rfl) (by kernel_rfl) (by kernel_rfl) ?_ (Or.inl ⟨?_, ?_⟩) (by assumption) ?_
      rotate_left 2
      · (simp only [List.getElem?_toArray, List.getElem?_cons_succ, List.getElem?_cons_zero]; rfl)
      · first | exact fun _ _ _ h => h | exact fun _ _ _ h => nomatch h.1
      · rfl
      · (intro W hSW; (try dsimp only at hSW); go_split_ands; first | (go_simp; done) | (go_simp; with_reducible rfl))
      try simp only [Act.put, List.setIfInBounds_toArray, List.set_cons_zero, List.set_cons_succ]
      refine' wpAnyH_take (i := 9) (oi := _) (v := _) ?_ (by kernel_rfl) (by kernel_rfl) (by kernel_rfl) ?_ (Or.inl ⟨?_, ?_⟩) (by assumption) ?_
      rotate_left 2
      · (simp only [List.getElem?_toArray, List.getElem?_cons_succ, List.getElem?_cons_zero]; rfl)
      · first | exact fun _ _ _ h => h | exact fun _ _ _ h => nomatch h.1
      · rfl
      · (intro W hSW; (try dsimp only at hSW); go_split_ands; first | (go_simp; done) | (go_simp; with_reducible rfl))
      try simp only [Act.put, List.setIfInBounds_toArray, List.set_cons_zero, List.set_cons_succ]
      refine' wpAnyH_take (i := 10) (oi := _) (v := _) ?_ (by kernel_rfl) (by kernel_rfl) (by kernel_rfl) ?_ (Or.inl ⟨?_, ?_⟩) (by assumption) ?_
      rotate_left 2
      · (simp only [List.getElem?_toArray, List.getElem?_cons_succ, List.getElem?_cons_zero]; rfl)
      · first | exact fun _ _ _ h => h | exact fun _ _ _ h => nomatch h.1
      · rfl
      · (intro W hSW; (try dsimp only at hSW); go_split_ands; first | (go_simp; done) | (go_simp; with_reducible rfl))
      try simp only [Act.put, List.setIfInBounds_toArray, List.set_cons_zero, List.set_cons_succ]
      refine' wpAnyH_take (i := 11) (oi := _) (v := _) ?_ (by kernel_rfl) (by kernel_rfl) (by kernel_rfl) ?_ (Or.inl ⟨?_, ?_⟩) (by assumption) ?_
      rotate_left 2
      · (simp only [List.getElem?_toArray, List.getElem?_cons_succ, List.getElem?_cons_zero]; rfl)
      · first | exact fun _ _ _ h => h | exact fun _ _ _ h => nomatch h.1
      · rfl
      · (intro W hSW; (try dsimp only at hSW); go_split_ands; first | (go_simp; done) | (go_simp; with_reducible rfl))
      try simp only [Act.put, List.setIfInBounds_toArray, List.set_cons_zero, List.set_cons_succ]
      refine' wpAnyH_take (i := 15) (oi := _) (v := _) ?_ (by kernel_rfl) (by kernel_rfl) (by kernel_rfl) ?_ (Or.inl ⟨?_, ?_⟩) (by assumption) ?_
      rotate_left 2
      · (simp only [List.getElem?_toArray, List.getElem?_cons_succ, List.getElem?_cons_zero]; rfl)
      · first | exact fun _ _ _ h => h | exact fun _ _ _ h => nomatch h.1
      · rfl
      · (intro W hSW; (try dsimp only at hSW); go_split_ands; first | (go_simp; done) | (go_simp; with_reducible rfl))
      try simp only [Act.put, List.setIfInBounds_toArray, List.set_cons_zero, List.set_cons_succ]
      clear hHeld
      refine wpAnyH_ready (rs := [12]) (by kernel_rfl) (by simp) ?_
      refine' AllReadyH.cons (o := _) ?_ (fun K hK => ?_) AllReadyH.nil
      rotate_left 1
      · (simp only [List.getElem?_toArray, List.getElem?_cons_succ, List.getElem?_cons_zero]; rfl)
      go_simp
      refine Calls.mono (CR.out _ (HE.out.on hc).toEnv) ?_
      rintro e V7 ⟨rfl, hn⟩
      replace r13 := r13.on hn
      replace r22 := r22.on hn
      replace hc := chain hc hn
      clear hn
      go_simp
      refine hK.out _ _ trivial (fun hHeld => ?_)
      clear hK K
      clear hHeld
      refine wpAnyH_ready (rs := [13]) (by kernel_rfl) (by simp) ?_
      refine' AllReadyH.cons (o := _) ?_ (fun K hK => ?_) AllReadyH.nil
      rotate_left 1
      · (simp only [List.getElem?_toArray, List.getElem?_cons_succ, List.getElem?_cons_zero]; rfl)
      go_simp
      have rs := Row.new (W := V7) (cs := #[.string (T ++ ⟨#[32]⟩), .string (⟨#[32]⟩ ++ T), .string (T.extract 0 (T.size - 1)), .string (T.extract 1 T.size), .string ⟨B5.toArray⟩]) (t := 9)
      have hn := below_alloc V7 (.cells #[.string (T ++ ⟨#[32]⟩), .string (⟨#[32]⟩ ++ T), .string (T.extract 0 (T.size - 1)), .string (T.extract 1 T.size), .string ⟨B5.toArray⟩] 9)
      have nr13_rs : b13 ≠ V7.heap.size := Nat.ne_of_lt r13.lt
      have nr22_rs : b22 ≠ V7.heap.size := Nat.ne_of_lt r22.lt
      have wrs : w.heap.size ≤ V7.heap.size := hc.size
      replace r13 := r13.on hn
      replace r22 := r22.on hn
      replace hc := chain hc hn
      clear hn
      generalize V7.alloc (.cells #[.string (T ++ ⟨#[32]⟩), .string (⟨#[32]⟩ ++ T), .string (T.extract 0 (T.size - 1)), .string (T.extract 1 T.size), .string ⟨B5.toArray⟩] 9) = V8 at r13 r22 rs hc ⊢
      generalize V7.heap.size = bs at *
      refine hK.out _ _ trivial (fun hHeld => ?_)
      clear hK K
      refine' wpAnyH_take (i := 14) (oi := _) (v := _) ?_ (by kernel_rfl) (by kernel_rfl) (by kernel_rfl) ?_ (Or.inl ⟨?_, ?_⟩) (by assumption) ?_
      rotate_left 2
      · (simp only [List.getElem?_toArray, List.getElem?_cons_succ, List.getElem?_cons_zero]; rfl)
      · first | exact fun _ _ _ h => h | exact fun _ _ _ h => nomatch h.1
      · rfl
      · (intro W hSW; (try dsimp only at hSW); go_split_ands; first | (go_simp; done) | (go_simp; with_reducible rfl))
      try simp only [Act.put, List.setIfInBounds_toArray, List.set_cons_zero, List.set_cons_succ]
      clear hHeld
      refine wpAnyH_done (by kernel_rfl) ?_ _
      go_wp2_with fail
      refine wp_loop_rounds 6 ?_
      clear hws hb1 hb2 CR s1 s2
      rw [rounds_succ]
      have yr13 := r13.cell
      have zr13 := r13.lt
      have yr22 := r22.cell
      have zr22 := r22.lt
      have yrs := rs.cell
      have zrs := rs.lt
      go_wp2_with fail
      refine Calls.mono (P1.out _ (HE.out.on hc)) ?_
      rintro e V9 ⟨rfl, hn⟩
      clear yr13 yr22 yrs zr13 zr22 zrs
      replace r13 := r13.on hn
      replace r22 := r22.on hn
      replace rs := rs.on hn
      replace hc := chain hc hn
      clear hn
      have yr13 := r13.cell
      have zr13 := r13.lt
      have yr22 := r22.cell
      have zr22 := r22.lt
      have yrs := rs.cell
      have zrs := rs.lt
      go_upto_region 23 with fail
      clear yr13 yr22 yrs zr13 zr22 zrs
      have p0 := Row.new (W := V9) (cs := (rC 0 0 0 0 0 0 0 ⟨#[]⟩)) (t := 27)
      have hn := below_alloc V9 (.cells (rC 0 0 0 0 0 0 0 ⟨#[]⟩) 27)
      have nr13_p0 : b13 ≠ V9.heap.size := Nat.ne_of_lt r13.lt
      have nr22_p0 : b22 ≠ V9.heap.size := Nat.ne_of_lt r22.lt
      have nrs_p0 : bs ≠ V9.heap.size := Nat.ne_of_lt rs.lt
      have wp0 : w.heap.size ≤ V9.heap.size := hc.size
      replace r13 := r13.on hn
      replace r22 := r22.on hn
      replace rs := rs.on hn
      replace hc := chain hc hn
      clear hn
      generalize V9.alloc (.cells (rC 0 0 0 0 0 0 0 ⟨#[]⟩) 27) = V10 at r13 r22 rs p0 hc ⊢
      generalize V9.heap.size = bp0 at *
      have yr13 := r13.cell
      have zr13 := r13.lt
      have yr22 := r22.cell
      have zr22 := r22.lt
      have yrs := rs.cell
      have zrs := rs.lt
      have yp0 := p0.cell
      have zp0 := p0.lt
      go_wp2_with fail
      clear yr13 yr22 yrs yp0 zr13 zr22 zrs zp0
      clear p0
      rw [rounds_succ]
      have yr13 := r13.cell
      have zr13 := r13.lt
      have yr22 := r22.cell
      have zr22 := r22.lt
      have yrs := rs.cell
      have zrs := rs.lt
      go_wp2_with fail
      refine Calls.mono (P2.out _ (HE.out.on hc)) ?_
      rintro e V11 ⟨rfl, hn⟩
      clear yr13 yr22 yrs zr13 zr22 zrs
      replace r13 := r13.on hn
      replace r22 := r22.on hn
      replace rs := rs.on hn
      replace hc := chain hc hn
      clear hn
      have yr13 := r13.cell
      have zr13 := r13.lt
      have yr22 := r22.cell
      have zr22 := r22.lt
      have yrs := rs.cell
      have zrs := rs.lt
      go_upto_region 23 with fail
      clear yr13 yr22 yrs zr13 zr22 zrs
      have p1 := Row.new (W := V11) (cs := (rC 0 0 0 0 0 0 0 ⟨#[]⟩)) (t := 27)
      have hn := below_alloc V11 (.cells (rC 0 0 0 0 0 0 0 ⟨#[]⟩) 27)
      have nr13_p1 : b13 ≠ V11.heap.size := Nat.ne_of_lt r13.lt
      have nr22_p1 : b22 ≠ V11.heap.size := Nat.ne_of_lt r22.lt
      have nrs_p1 : bs ≠ V11.heap.size := Nat.ne_of_lt rs.lt
      have wp1 : w.heap.size ≤ V11.heap.size := hc.size
      replace r13 := r13.on hn
      replace r22 := r22.on hn
      replace rs := rs.on hn
      replace hc := chain hc hn
      clear hn
      generalize V11.alloc (.cells (rC 0 0 0 0 0 0 0 ⟨#[]⟩) 27) = V12 at r13 r22 rs p1 hc ⊢
      generalize V11.heap.size = bp1 at *
      have yr13 := r13.cell
      have zr13 := r13.lt
      have yr22 := r22.cell
      have zr22 := r22.lt
      have yrs := rs.cell
      have zrs := rs.lt
      have yp1 := p1.cell
      have zp1 := p1.lt
      go_wp2_with fail
      clear yr13 yr22 yrs yp1 zr13 zr22 zrs zp1
      clear p1
      rw [rounds_succ]
      have yr13 := r13.cell
      have zr13 := r13.lt
      have yr22 := r22.cell
      have zr22 := r22.lt
      have yrs := rs.cell
      have zrs := rs.lt
      go_wp2_with fail
      refine Calls.mono (P3.out _ (HE.out.on hc)) ?_
      rintro e V13 ⟨rfl, hn⟩
      clear yr13 yr22 yrs zr13 zr22 zrs
      replace r13 := r13.on hn
      replace r22 := r22.on hn
      replace rs := rs.on hn
      replace hc := chain hc hn
      clear hn
      have yr13 := r13.cell
      have zr13 := r13.lt
      have yr22 := r22.cell
      have zr22 := r22.lt
      have yrs := rs.cell
      have zrs := rs.lt
      go_upto_region 23 with fail
      clear yr13 yr22 yrs zr13 zr22 zrs
      have p2 := Row.new (W := V13) (cs := (rC 0 0 0 0 0 0 0 ⟨#[]⟩)) (t := 27)
      have hn := below_alloc V13 (.cells (rC 0 0 0 0 0 0 0 ⟨#[]⟩) 27)
      have nr13_p2 : b13 ≠ V13.heap.size := Nat.ne_of_lt r13.lt
      have nr22_p2 : b22 ≠ V13.heap.size := Nat.ne_of_lt r22.lt
      have nrs_p2 : bs ≠ V13.heap.size := Nat.ne_of_lt rs.lt
      have wp2 : w.heap.size ≤ V13.heap.size := hc.size
      replace r13 := r13.on hn
      replace r22 := r22.on hn
      replace rs := rs.on hn
      replace hc := chain hc hn
      clear hn
      generalize V13.alloc (.cells (rC 0 0 0 0 0 0 0 ⟨#[]⟩) 27) = V14 at r13 r22 rs p2 hc ⊢
      generalize V13.heap.size = bp2 at *
      have yr13 := r13.cell
      have zr13 := r13.lt
      have yr22 := r22.cell
      have zr22 := r22.lt
      have yrs := rs.cell
      have zrs := rs.lt
      have yp2 := p2.cell
      have zp2 := p2.lt
      go_wp2_with fail
      clear yr13 yr22 yrs yp2 zr13 zr22 zrs zp2
      clear p2
      rw [rounds_succ]
      have yr13 := r13.cell
      have zr13 := r13.lt
      have yr22 := r22.cell
      have zr22 := r22.lt
      have yrs := rs.cell
      have zrs := rs.lt
      go_wp2_with fail
      refine Calls.mono (P4.out _ (HE.out.on hc)) ?_
      rintro e V15 ⟨rfl, hn⟩
      clear yr13 yr22 yrs zr13 zr22 zrs
      replace r13 := r13.on hn
      replace r22 := r22.on hn
      replace rs := rs.on hn
      replace hc := chain hc hn
      clear hn
      have yr13 := r13.cell
      have zr13 := r13.lt
      have yr22 := r22.cell
      have zr22 := r22.lt
      have yrs := rs.cell
      have zrs := rs.lt
      go_upto_region 23 with fail
      clear yr13 yr22 yrs zr13 zr22 zrs
      have p3 := Row.new (W := V15) (cs := (rC 0 0 0 0 0 0 0 ⟨#[]⟩)) (t := 27)
      have hn := below_alloc V15 (.cells (rC 0 0 0 0 0 0 0 ⟨#[]⟩) 27)
      have nr13_p3 : b13 ≠ V15.heap.size := Nat.ne_of_lt r13.lt
      have nr22_p3 : b22 ≠ V15.heap.size := Nat.ne_of_lt r22.lt
      have nrs_p3 : bs ≠ V15.heap.size := Nat.ne_of_lt rs.lt
      have wp3 : w.heap.size ≤ V15.heap.size := hc.size
      replace r13 := r13.on hn
      replace r22 := r22.on hn
      replace rs := rs.on hn
      replace hc := chain hc hn
      clear hn
      generalize V15.alloc (.cells (rC 0 0 0 0 0 0 0 ⟨#[]⟩) 27) = V16 at r13 r22 rs p3 hc ⊢
      generalize V15.heap.size = bp3 at *
      have yr13 := r13.cell
      have zr13 := r13.lt
      have yr22 := r22.cell
      have zr22 := r22.lt
      have yrs := rs.cell
      have zrs := rs.lt
      have yp3 := p3.cell
      have zp3 := p3.lt
      go_wp2_with fail
      clear yr13 yr22 yrs yp3 zr13 zr22 zrs zp3
      clear p3
      rw [rounds_succ]
      have yr13 := r13.cell
      have zr13 := r13.lt
      have yr22 := r22.cell
      have zr22 := r22.lt
      have yrs := rs.cell
      have zrs := rs.lt
      go_wp2_with fail
      refine Calls.mono (P5.out _ (HE.out.on hc)) ?_
      rintro e V17 ⟨rfl, hn⟩
      clear yr13 yr22 yrs zr13 zr22 zrs
      replace r13 := r13.on hn
      replace r22 := r22.on hn
      replace rs := rs.on hn
      replace hc := chain hc hn
      clear hn
      have yr13 := r13.cell
      have zr13 := r13.lt
      have yr22 := r22.cell
      have zr22 := r22.lt
      have yrs := rs.cell
      have zrs := rs.lt
      go_upto_region 23 with fail
      clear yr13 yr22 yrs zr13 zr22 zrs
      have p4 := Row.new (W := V17) (cs := (rC 0 0 0 0 0 0 0 ⟨#[]⟩)) (t := 27)
      have hn := below_alloc V17 (.cells (rC 0 0 0 0 0 0 0 ⟨#[]⟩) 27)
      have nr13_p4 : b13 ≠ V17.heap.size := Nat.ne_of_lt r13.lt
      have nr22_p4 : b22 ≠ V17.heap.size := Nat.ne_of_lt r22.lt
      have nrs_p4 : bs ≠ V17.heap.size := Nat.ne_of_lt rs.lt
      have wp4 : w.heap.size ≤ V17.heap.size := hc.size
      replace r13 := r13.on hn
      replace r22 := r22.on hn
      replace rs := rs.on hn
      replace hc := chain hc hn
      clear hn
      generalize V17.alloc (.cells (rC 0 0 0 0 0 0 0 ⟨#[]⟩) 27) = V18 at r13 r22 rs p4 hc ⊢
      generalize V17.heap.size = bp4 at *
      have yr13 := r13.cell
      have zr13 := r13.lt
      have yr22 := r22.cell
      have zr22 := r22.lt
      have yrs := rs.cell
      have zrs := rs.lt
      have yp4 := p4.cell
      have zp4 := p4.lt
      go_wp2_with fail
      clear yr13 yr22 yrs yp4 zr13 zr22 zrs zp4
      clear p4
      rw [rounds_succ]
      clear P1 P2 P3 P4 P5
      by_cases hs : s.size ≤ 200
      rotate_left
      · have e1 : (200 : Int) < (s.size : Int) := by omega
        have yr13 := r13.cell
        have zr13 := r13.lt
        have yr22 := r22.cell
        have zr22 := r22.lt
        have yrs := rs.cell
        have zrs := rs.lt
        go_wp2_with fail
        refine Calls.mono (works _ (HE.out.on hc)) ?_
        rintro e V19 ⟨rfl, hn⟩
        clear yr13 yr22 yrs zr13 zr22 zrs
        replace r13 := r13.on hn
        replace r22 := r22.on hn
        replace rs := rs.on hn
        replace hc := chain hc hn
        clear hn
        have yr13 := r13.cell
        have zr13 := r13.lt
        have yr22 := r22.cell
        have zr22 := r22.lt
        have yrs := rs.cell
        have zrs := rs.lt
        go_wp2_with fail
        go_returns
        exact ⟨rfl, hc⟩
      have e1 : ¬ (200 : Int) < (s.size : Int) := by omega
      by_cases hx : ∃ k i g st wy tr nx tag, IsR k i g st wy tr nx tag s.data.toList
      · obtain ⟨k2, i2, g2, st2, wy2, tr2, nx2, tg2, hS⟩ := hx
        have c1 := fun w hE => parse_is s (by omega) hS w hE
        have hz2 := tagOk_sz (rErr_zero hS.2.1).2
        have c2 := fun w hE => text_c k2 i2 g2 st2 wy2 tr2 nx2 tg2 w hE hS.1.1 hS.1.2 hz2
        have c3 := fun w => rerr_c k2 i2 g2 st2 wy2 tr2 nx2 tg2 w hS.1.1 hS.1.2 hz2
        rw [show textV k2 i2 g2 st2 wy2 tr2 nx2 tg2 = .tuple #[.string s, .int .i64 0] by
          unfold textV; rw [if_pos hS.2.1]; have : rsText k2 i2 g2 st2 wy2 tr2 nx2 tg2 = s := str_ext (by unfold rsText; rw [of_list, hS.2.2])
          rw [this]] at c2
        rw [hS.2.1] at c3
        have D1 := Lib.hid c1
        have D2 := Lib.hid c2
        have D3 := Lib.hid c3
        clear c1 c2 c3 hS
        have es := str_beq_same s
        have yr13 := r13.cell
        have zr13 := r13.lt
        have yr22 := r22.cell
        have zr22 := r22.lt
        have yrs := rs.cell
        have zrs := rs.lt
        go_wp2_with fail
        refine Calls.mono (D1.out _ (HE.out.on hc)) ?_
        rintro e V19 ⟨rfl, hn⟩
        clear yr13 yr22 yrs zr13 zr22 zrs
        replace r13 := r13.on hn
        replace r22 := r22.on hn
        replace rs := rs.on hn
        replace hc := chain hc hn
        clear hn
        have yr13 := r13.cell
        have zr13 := r13.lt
        have yr22 := r22.cell
        have zr22 := r22.lt
        have yrs := rs.cell
        have zrs := rs.lt
        go_upto_region 29 with fail
        clear yr13 yr22 yrs zr13 zr22 zrs
        have r28 := Row.new (W := V19) (cs := (rC k2 i2 g2 st2 wy2 tr2 nx2 tg2)) (t := 27)
        have hn := below_alloc V19 (.cells (rC k2 i2 g2 st2 wy2 tr2 nx2 tg2) 27)
        have nr13_r28 : b13 ≠ V19.heap.size := Nat.ne_of_lt r13.lt
        have nr22_r28 : b22 ≠ V19.heap.size := Nat.ne_of_lt r22.lt
        have nrs_r28 : bs ≠ V19.heap.size := Nat.ne_of_lt rs.lt
        have wr28 : w.heap.size ≤ V19.heap.size := hc.size
        replace r13 := r13.on hn
        replace r22 := r22.on hn
        replace rs := rs.on hn
        replace hc := chain hc hn
        clear hn
        generalize V19.alloc (.cells (rC k2 i2 g2 st2 wy2 tr2 nx2 tg2) 27) = V20 at r13 r22 rs r28 hc ⊢
        generalize V19.heap.size = b28 at *
        have yr13 := r13.cell
        have zr13 := r13.lt
        have yr22 := r22.cell
        have zr22 := r22.lt
        have yrs := rs.cell
        have zrs := rs.lt
        have yr28 := r28.cell
        have zr28 := r28.lt
        go_wp2_with fail
        refine Calls.mono (D2.out _ (HE.out.on hc).toEnv) ?_
        rintro e V21 ⟨rfl, hn⟩
        clear yr13 yr22 yrs yr28 zr13 zr22 zrs zr28
        replace r13 := r13.on hn
        replace r22 := r22.on hn
        replace rs := rs.on hn
        replace r28 := r28.on hn
        replace hc := chain hc hn
        clear hn
        have yr13 := r13.cell
        have zr13 := r13.lt
        have yr22 := r22.cell
        have zr22 := r22.lt
        have yrs := rs.cell
        have zrs := rs.lt
        have yr28 := r28.cell
        have zr28 := r28.lt
        go_wp2_with fail
        refine Calls.mono (D3.out _) ?_
        rintro e V22 ⟨rfl, hn⟩
        clear yr13 yr22 yrs yr28 zr13 zr22 zrs zr28
        replace r13 := r13.on hn
        replace r22 := r22.on hn
        replace rs := rs.on hn
        replace r28 := r28.on hn
        replace hc := chain hc hn
        clear hn
        have yr13 := r13.cell
        have zr13 := r13.lt
        have yr22 := r22.cell
        have zr22 := r22.lt
        have yrs := rs.cell
        have zrs := rs.lt
        have yr28 := r28.cell
        have zr28 := r28.lt
        go_wp2_with fail
        refine Calls.mono (works _ (HE.out.on hc)) ?_
        rintro e V23 ⟨rfl, hn⟩
        clear yr13 yr22 yrs yr28 zr13 zr22 zrs zr28
        replace r13 := r13.on hn
        replace r22 := r22.on hn
        replace rs := rs.on hn
        replace r28 := r28.on hn
        replace hc := chain hc hn
        clear hn
        have yr13 := r13.cell
        have zr13 := r13.lt
        have yr22 := r22.cell
        have zr22 := r22.lt
        have yrs := rs.cell
        have zrs := rs.lt
        have yr28 := r28.cell
        have zr28 := r28.lt
        go_wp2_with fail
        go_returns
        exact ⟨rfl, hc⟩
      · have c1 := fun w hE => parse_not s (by omega) (fun k i g st wy tr nx tag h => hx ⟨k, i, g, st, wy, tr, nx, tag, h⟩) w hE
        have D1 := Lib.hid c1
        clear c1
        have yr13 := r13.cell
        have zr13 := r13.lt
        have yr22 := r22.cell
        have zr22 := r22.lt
        have yrs := rs.cell
        have zrs := rs.lt
        go_wp2_with fail
        refine Calls.mono (D1.out _ (HE.out.on hc)) ?_
        rintro e V19 ⟨rfl, hn⟩
        clear yr13 yr22 yrs zr13 zr22 zrs
        replace r13 := r13.on hn
        replace r22 := r22.on hn
        replace rs := rs.on hn
        replace hc := chain hc hn
        clear hn
        have yr13 := r13.cell
        have zr13 := r13.lt
        have yr22 := r22.cell
        have zr22 := r22.lt
        have yrs := rs.cell
        have zrs := rs.lt
        go_upto_region 29 with fail
        clear yr13 yr22 yrs zr13 zr22 zrs
        have r28 := Row.new (W := V19) (cs := (rC 0 0 0 0 0 0 0 ⟨#[]⟩)) (t := 27)
        have hn := below_alloc V19 (.cells (rC 0 0 0 0 0 0 0 ⟨#[]⟩) 27)
        have nr13_r28 : b13 ≠ V19.heap.size := Nat.ne_of_lt r13.lt
        have nr22_r28 : b22 ≠ V19.heap.size := Nat.ne_of_lt r22.lt
        have nrs_r28 : bs ≠ V19.heap.size := Nat.ne_of_lt rs.lt
        have wr28 : w.heap.size ≤ V19.heap.size := hc.size
        replace r13 := r13.on hn
        replace r22 := r22.on hn
        replace rs := rs.on hn
        replace hc := chain hc hn
        clear hn
        generalize V19.alloc (.cells (rC 0 0 0 0 0 0 0 ⟨#[]⟩) 27) = V20 at r13 r22 rs r28 hc ⊢
        generalize V19.heap.size = b28 at *
        have yr13 := r13.cell
        have zr13 := r13.lt
        have yr22 := r22.cell
        have zr22 := r22.lt
        have yrs := rs.cell
        have zrs := rs.lt
        have yr28 := r28.cell
        have zr28 := r28.lt
        go_wp2_with fail
        refine Calls.mono (works _ (HE.out.on hc)) ?_
        rintro e V21 ⟨rfl, hn⟩
        clear yr13 yr22 yrs yr28 zr13 zr22 zrs zr28
        replace r13 := r13.on hn
        replace r22 := r22.on hn
        replace rs := rs.on hn
        replace r28 := r28.on hn
        replace hc := chain hc hn
        clear hn
        have yr13 := r13.cell
        have zr13 := r13.lt
        have yr22 := r22.cell
        have zr22 := r22.lt
        have yrs := rs.cell
        have zrs := rs.lt
        have yr28 := r28.cell
        have zr28 := r28.lt
        go_wp2_with fail
        go_returns
        exact ⟨rfl, hc⟩
end Go.Proofs.YtgckfiadnmjonabGreatDoor
