/- The chapter's examples hold: 'works' of the statements of chapter 39; Mutator. -/
import Derived.Test.YthkngleegefgbaaGreatDoorL4a
import Derived.Test.YthkngleegefgbaaGreatDoorL2a
namespace Go.Proofs.YthkngleegefgbaaGreatDoor
open Go.RowKit
set_option linter.unusedVariables false
set_option linter.unusedSimpArgs false
set_option maxHeartbeats 16000000
set_option maxRecDepth 20000
theorem of_l (l : List UInt8) : (⟨l.toArray⟩ : ByteArray).data.toList = l := by simp
theorem parse_is {p : OpR} {s : ByteArray} (h : isOp p s.data.toList) (hs : s.size ≤ 100000) (w : World) (hE : EnvL w) : Ret 15 #[.string s] w (.tuple #[opRV p, .int .i64 0]) :=
  (parse_c s w hE hs).mono fun e w' ⟨hp, hb⟩ => ⟨by
    rcases hp with ⟨kd, x, h1, h2, h3⟩ | ⟨h1, h2⟩
    · rw [h3, ← isOp_unique (p := (kd, x)) (q := p) ⟨h1, h2⟩ h]
    · exact absurd h.2 (h1 p.1 p.2 h.1), hb⟩
theorem parse_not {s : ByteArray} (h : ∀ p, ¬ isOp p s.data.toList) (hs : s.size ≤ 100000) (w : World) (hE : EnvL w) : Ret 15 #[.string s] w (.tuple #[op0V, .int .i64 9]) :=
  (parse_c s w hE hs).mono fun e w' ⟨hp, hb⟩ => ⟨by
    rcases hp with ⟨kd, x, h1, h2, h3⟩ | ⟨h1, h2⟩
    · exact absurd ⟨h1, h2⟩ (h (kd, x))
    · exact h2, hb⟩
/-- A first letter m: of mutators. -/
theorem mut_c (kd : Int) (w : World) : Ret 13 #[.int .i64 kd] w (.bool (inB kd 1 12)) := by
  have hpf := fun W => Tryz.strings_HasPrefix (partsB kd) ⟨#[109]⟩ W
  have hps : (partsB kd).data.toList = partsK kd := by simp [partsB]
  rw [show (⟨#[109]⟩ : ByteArray).data.toList = [109] from rfl, hps] at hpf
  have hm : (inB kd 1 17 && Lib.hasPrefix (partsK kd) [109]) = inB kd 1 12 := by
    by_cases hk : 1 ≤ kd ∧ kd ≤ 17
    · rcases kinds hk with rfl | rfl | rfl | rfl | rfl | rfl | rfl | rfl | rfl | rfl | rfl | rfl | rfl | rfl | rfl | rfl | rfl <;> rfl
    · have h1 : inB kd 1 17 = false := by cases h : inB kd 1 17 with | false => rfl | true => exact absurd (inB_iff.1 h) hk
      have h2 : inB kd 1 12 = false := by cases h : inB kd 1 12 with | false => rfl | true => have := inB_iff.1 h; exact absurd ⟨this.1, by omega⟩ hk
      rw [h1, h2]; rfl
  rw [← hm]
  have C := Lib.hid (of_c kd)
  have HPF := Lib.hid hpf
  have hc := Below.refl w.heap.size w
  clear hpf hm hps
  generalize partsB kd = ps at *
  generalize wordB kd = wd at *
  generalize Lib.hasPrefix (partsK kd) [109] = q at *
  generalize inB kd 1 17 = ok at *
  cases ok
  · go_enter Tryz.func13, Tryz.ntmps13
    go_wp2_with fail
    refine Calls.mono (C.out _) ?_
    rintro e V1 ⟨rfl, hn⟩
    replace hc := chain hc hn
    clear hn
    go_upto_region 2 with fail
    have r1 := Row.new (W := V1) (cs := #[.string wd, .string ps]) (t := 44)
    have hn := below_alloc V1 (.cells #[.string wd, .string ps] 44)
    have wr1 : w.heap.size ≤ V1.heap.size := hc.size
    replace hc := chain hc hn
    clear hn
    generalize V1.alloc (.cells #[.string wd, .string ps] 44) = V2 at r1 hc ⊢
    generalize V1.heap.size = b1 at *
    have yr1 := r1.cell
    have zr1 := r1.lt
    go_wp2_with fail
    go_returns
    exact ⟨rfl, hc⟩
  · go_enter Tryz.func13, Tryz.ntmps13
    go_wp2_with fail
    refine Calls.mono (C.out _) ?_
    rintro e V1 ⟨rfl, hn⟩
    replace hc := chain hc hn
    clear hn
    go_upto_region 2 with fail
    have r1 := Row.new (W := V1) (cs := #[.string wd, .string ps]) (t := 44)
    have hn := below_alloc V1 (.cells #[.string wd, .string ps] 44)
    have wr1 : w.heap.size ≤ V1.heap.size := hc.size
    replace hc := chain hc hn
    clear hn
    generalize V1.alloc (.cells #[.string wd, .string ps] 44) = V2 at r1 hc ⊢
    generalize V1.heap.size = b1 at *
    have yr1 := r1.cell
    have zr1 := r1.lt
    go_wp2_with fail
    refine Calls.mono (HPF.out _) ?_
    rintro e W9 ⟨rfl, hW⟩
    subst W9
    clear yr1 zr1
    have yr1 := r1.cell
    have zr1 := r1.lt
    go_wp2_with fail
    go_returns
    exact ⟨rfl, hc⟩
theorem numL_sm (n : Nat) (h : n < 10) : numL n = [UInt8.ofNat (48 + n)] := by
  unfold numL
  rw [if_neg (by omega), decDigits_step, if_pos (by omega)]
  simp
theorem numL_0 : numL 0 = [48] := numL_sm 0 (by decide)
theorem numL_1 : numL 1 = [49] := numL_sm 1 (by decide)
theorem numL_2 : numL 2 = [50] := numL_sm 2 (by decide)
theorem numL_3 : numL 3 = [51] := numL_sm 3 (by decide)
theorem numL_7 : numL 7 = [55] := numL_sm 7 (by decide)
theorem numL_m1 : numL (-1) = [45, 49] := by
  unfold numL
  rw [if_pos (by decide), show (-1 : Int).natAbs = 1 from rfl, decDigits_step, if_pos (by decide)]
  rfl
theorem numL_10 : numL 10 = [49, 48] := by
  unfold numL
  rw [if_neg (by decide), show (10 : Int).natAbs = 10 from rfl, decDigits_step, if_neg (by decide), decDigits_step, if_pos (by decide)]
  rfl
theorem numL_100 : numL 100 = [49, 48, 48] := by
  unfold numL
  rw [if_neg (by decide), show (100 : Int).natAbs = 100 from rfl, decDigits_step, if_neg (by decide), decDigits_step, if_neg (by decide), decDigits_step, if_pos (by decide)]
  rfl
theorem ex1 : isOp (3, ⟨0, 1, 2, -1, ⟨#[]⟩⟩) [115, 116, 111, 114, 101, 32, 48, 32, 49, 32, 50, 32, 45, 49] := ⟨by decide, by
  show opL 3 0 1 2 (-1) [] = _
  rw [opL_tail]
  simp only [partsL, aText, numL_m1, numL_100, numL_10, numL_0, numL_1, numL_2, numL_3, numL_7]
  rfl⟩
theorem ex2 : isOp (8, ⟨3, 3, 100, 0, ⟨#[97, 34, 98]⟩⟩) [111, 112, 101, 110, 32, 51, 32, 108, 32, 49, 48, 48, 32, 34, 97, 92, 34, 98, 34] := ⟨by decide, by
  show opL 8 3 3 100 0 [97, 34, 98] = _
  rw [opL_tail]
  simp only [partsL, aText, numL_m1, numL_100, numL_10, numL_0, numL_1, numL_2, numL_3, numL_7]
  rfl⟩
theorem ex3 : isOp (17, ⟨0, 0, 0, 0, ⟨#[111, 108, 102]⟩⟩) [97, 110, 115, 119, 101, 114, 32, 111, 108, 102] := ⟨by decide, by
  show opL 17 0 0 0 0 [111, 108, 102] = _
  rw [opL_tail]
  simp only [partsL, aText, numL_m1, numL_100, numL_10, numL_0, numL_1, numL_2, numL_3, numL_7]
  rfl⟩
theorem ex4 : isOp (5, ⟨1, -1, 7, 0, ⟨#[]⟩⟩) [112, 117, 116, 32, 49, 32, 45, 49, 32, 55] := ⟨by decide, by
  show opL 5 1 (-1) 7 0 [] = _
  rw [opL_tail]
  simp only [partsL, aText, numL_m1, numL_100, numL_10, numL_0, numL_1, numL_2, numL_3, numL_7]
  rfl⟩
theorem ex5 : isOp (14, ⟨0, 0, 0, 0, ⟨#[]⟩⟩) [98, 97, 116, 99, 104] := ⟨by decide, by
  show opL 14 0 0 0 0 [] = _
  rw [opL_tail]
  simp only [partsL, aText, numL_m1, numL_100, numL_10, numL_0, numL_1, numL_2, numL_3, numL_7]
  rfl⟩
theorem ex6 : isOp (13, ⟨0, 10, 0, 0, ⟨#[]⟩⟩) [109, 97, 114, 107, 32, 49, 48] := ⟨by decide, by
  show opL 13 0 10 0 0 [] = _
  rw [opL_tail]
  simp only [partsL, aText, numL_m1, numL_100, numL_10, numL_0, numL_1, numL_2, numL_3, numL_7]
  rfl⟩
theorem exA : parseAllR [98, 97, 116, 99, 104, 10, 10, 35, 32, 120, 10, 109, 97, 114, 107, 32, 49, 48, 10] = ([(14, ⟨0, 0, 0, 0, ⟨#[]⟩⟩), (13, ⟨0, 10, 0, 0, ⟨#[]⟩⟩)], 0, 0) := by
  unfold parseAllR
  rw [if_neg (by decide), show cutAll 10 [98, 97, 116, 99, 104, 10, 10, 35, 32, 120, 10, 109, 97, 114, 107, 32, 49, 48, 10] = [[98, 97, 116, 99, 104], [], [35, 32, 120], [109, 97, 114, 107, 32, 49, 48], []] from by decide]
  simp only [allR, show skipL [98, 97, 116, 99, 104] = false from rfl, show skipL ([] : List UInt8) = true from rfl, show skipL [35, 32, 120] = true from rfl, show skipL [109, 97, 114, 107, 32, 49, 48] = false from rfl, readOp_some ex5, readOp_some ex6]
  rfl
theorem exB : parseAllR [98, 97, 116, 99, 104, 10, 10, 109, 97, 114, 107, 115] = ([], 3, 9) := by
  unfold parseAllR
  rw [if_neg (by decide), show cutAll 10 [98, 97, 116, 99, 104, 10, 10, 109, 97, 114, 107, 115] = [[98, 97, 116, 99, 104], [], [109, 97, 114, 107, 115]] from by decide]
  simp only [allR, show skipL [98, 97, 116, 99, 104] = false from rfl, show skipL ([] : List UInt8) = true from rfl, show skipL [109, 97, 114, 107, 115] = false from rfl, readOp_some ex5, readOp_no (show readC [109, 97, 114, 107, 115] = none by decide)]
  rfl
theorem works (w : World) (hE : EnvL w) : Ret 6 #[] w (.bool true) := by
  have c1 := fun W hW => print_ok 3 ⟨0, 1, 2, -1, ⟨#[]⟩⟩ W hW ex1.1
  rw [show opText 3 0 1 2 (-1) ⟨#[]⟩ = ⟨#[115, 116, 111, 114, 101, 32, 48, 32, 49, 32, 50, 32, 45, 49]⟩ from str_ext (by unfold opText; rw [of_l]; exact ex1.2)] at c1
  have c2 := fun W hW => print_ok 8 ⟨3, 3, 100, 0, ⟨#[97, 34, 98]⟩⟩ W hW ex2.1
  rw [show opText 8 3 3 100 0 ⟨#[97, 34, 98]⟩ = ⟨#[111, 112, 101, 110, 32, 51, 32, 108, 32, 49, 48, 48, 32, 34, 97, 92, 34, 98, 34]⟩ from str_ext (by unfold opText; rw [of_l]; exact ex2.2)] at c2
  have c3 := fun W hW => parse_is (s := ⟨#[97, 110, 115, 119, 101, 114, 32, 111, 108, 102]⟩) ex3 (by decide) W hW
  have c4 := fun W hW => parse_is (s := ⟨#[112, 117, 116, 32, 49, 32, 45, 49, 32, 55]⟩) ex4 (by decide) W hW
  have c5 := fun W hW => parse_not (s := ⟨#[110, 101, 119, 32, 48, 32, 48, 53]⟩) (no_op (by decide)) (by decide) W hW
  have c6 := fun W hW => parseAll_c ⟨#[98, 97, 116, 99, 104, 10, 10, 35, 32, 120, 10, 109, 97, 114, 107, 32, 49, 48, 10]⟩ W hW (by decide)
  unfold ParseAllP at c6
  rw [show parseAllR _ = _ from exA] at c6
  have c7 := fun W hW => parseAll_c ⟨#[98, 97, 116, 99, 104, 10, 10, 109, 97, 114, 107, 115]⟩ W hW (by decide)
  unfold ParseAllP at c7
  rw [show parseAllR _ = _ from exB] at c7
  have C1 := Lib.hid c1
  have C2 := Lib.hid c2
  have C3 := Lib.hid c3
  have C4 := Lib.hid c4
  have C5 := Lib.hid c5
  have C6 := Lib.hid c6
  have C7 := Lib.hid c7
  have HE := Lib.hid hE
  clear c1 c2 c3 c4 c5 c6 c7 hE
  have hc := Below.refl w.heap.size w
  go_enter Tryz.func6, Tryz.ntmps6
  go_wp2_with fail
  refine Calls.mono (C1.out _ (HE.out.on hc)) ?_
  rintro e V1 ⟨rfl, hn⟩
  replace hc := chain hc hn
  clear hn
  go_wp2_with fail
  refine Calls.mono (C2.out _ (HE.out.on hc)) ?_
  rintro e V2 ⟨rfl, hn⟩
  replace hc := chain hc hn
  clear hn
  go_wp2_with fail
  refine Calls.mono (C3.out _ (HE.out.on hc)) ?_
  rintro e V3 ⟨rfl, hn⟩
  replace hc := chain hc hn
  clear hn
  go_upto_region 4 with fail
  have r1 := Row.new (W := V3) (cs := #[.int .i64 17, .int .i64 0, .int .i64 0, .int .i64 0, .int .i64 0, .string ⟨#[111, 108, 102]⟩]) (t := 23)
  have hn := below_alloc V3 (.cells #[.int .i64 17, .int .i64 0, .int .i64 0, .int .i64 0, .int .i64 0, .string ⟨#[111, 108, 102]⟩] 23)
  have wr1 : w.heap.size ≤ V3.heap.size := hc.size
  replace hc := chain hc hn
  clear hn
  generalize V3.alloc (.cells #[.int .i64 17, .int .i64 0, .int .i64 0, .int .i64 0, .int .i64 0, .string ⟨#[111, 108, 102]⟩] 23) = V4 at r1 hc ⊢
  generalize V3.heap.size = b1 at *
  have yr1 := r1.cell
  have zr1 := r1.lt
  go_wp2_with fail
  refine Calls.mono (C4.out _ (HE.out.on hc)) ?_
  rintro e V5 ⟨rfl, hn⟩
  clear yr1 zr1
  replace r1 := r1.on hn
  replace hc := chain hc hn
  clear hn
  have yr1 := r1.cell
  have zr1 := r1.lt
  go_upto_region 5 with fail
  clear yr1 zr1
  have r2 := Row.new (W := V5) (cs := #[.int .i64 5, .int .i64 1, .int .i64 (-1), .int .i64 7, .int .i64 0, .string ⟨#[]⟩]) (t := 23)
  have hn := below_alloc V5 (.cells #[.int .i64 5, .int .i64 1, .int .i64 (-1), .int .i64 7, .int .i64 0, .string ⟨#[]⟩] 23)
  have nr1_r2 : b1 ≠ V5.heap.size := Nat.ne_of_lt r1.lt
  have wr2 : w.heap.size ≤ V5.heap.size := hc.size
  replace r1 := r1.on hn
  replace hc := chain hc hn
  clear hn
  generalize V5.alloc (.cells #[.int .i64 5, .int .i64 1, .int .i64 (-1), .int .i64 7, .int .i64 0, .string ⟨#[]⟩] 23) = V6 at r1 r2 hc ⊢
  generalize V5.heap.size = b2 at *
  have yr1 := r1.cell
  have zr1 := r1.lt
  have yr2 := r2.cell
  have zr2 := r2.lt
  go_wp2_with fail
  refine Calls.mono (C5.out _ (HE.out.on hc)) ?_
  rintro e V7 ⟨rfl, hn⟩
  clear yr1 yr2 zr1 zr2
  replace r1 := r1.on hn
  replace r2 := r2.on hn
  replace hc := chain hc hn
  clear hn
  have yr1 := r1.cell
  have zr1 := r1.lt
  have yr2 := r2.cell
  have zr2 := r2.lt
  go_upto_region 6 with fail
  clear yr1 yr2 zr1 zr2
  have r3 := Row.new (W := V7) (cs := #[.int .i64 0, .int .i64 0, .int .i64 0, .int .i64 0, .int .i64 0, .string ⟨#[]⟩]) (t := 23)
  have hn := below_alloc V7 (.cells #[.int .i64 0, .int .i64 0, .int .i64 0, .int .i64 0, .int .i64 0, .string ⟨#[]⟩] 23)
  have nr1_r3 : b1 ≠ V7.heap.size := Nat.ne_of_lt r1.lt
  have nr2_r3 : b2 ≠ V7.heap.size := Nat.ne_of_lt r2.lt
  have wr3 : w.heap.size ≤ V7.heap.size := hc.size
  replace r1 := r1.on hn
  replace r2 := r2.on hn
  replace hc := chain hc hn
  clear hn
  generalize V7.alloc (.cells #[.int .i64 0, .int .i64 0, .int .i64 0, .int .i64 0, .int .i64 0, .string ⟨#[]⟩] 23) = V8 at r1 r2 r3 hc ⊢
  generalize V7.heap.size = b3 at *
  have yr1 := r1.cell
  have zr1 := r1.lt
  have yr2 := r2.cell
  have zr2 := r2.lt
  have yr3 := r3.cell
  have zr3 := r3.lt
  go_wp2_with fail
  refine Calls.mono (C6.out _ (HE.out.on hc)) ?_
  rintro e V9 ⟨⟨v6, rfl, ho⟩, hn⟩
  clear yr1 yr2 yr3 zr1 zr2 zr3
  replace r1 := r1.on hn
  replace r2 := r2.on hn
  replace r3 := r3.on hn
  replace hc := chain hc hn
  clear hn
  have hh := ho.holds
  clear ho
  have yr1 := r1.cell
  have zr1 := r1.lt
  have yr2 := r2.cell
  have zr2 := r2.lt
  have yr3 := r3.cell
  have zr3 := r3.lt
  go_wp2_with fail
  refine Calls.mono (C7.out _ (HE.out.on hc)) ?_
  rintro e V10 ⟨⟨v7, rfl, -⟩, hn⟩
  clear yr1 yr2 yr3 zr1 zr2 zr3
  replace r1 := r1.on hn
  replace r2 := r2.on hn
  replace r3 := r3.on hn
  replace hh := hh.on hn
  replace hc := chain hc hn
  clear hn
  have yr1 := r1.cell
  have zr1 := r1.lt
  have yr2 := r2.cell
  have zr2 := r2.lt
  have yr3 := r3.cell
  have zr3 := r3.lt
  go_wp2_with fail
  clear yr1 yr2 yr3 zr1 zr2 zr3
  have rn := Row.new (W := V10) (cs := #[.int .i64 14, .int .i64 0, .int .i64 0, .int .i64 0, .int .i64 0, .string ⟨#[]⟩, .int .i64 13, .int .i64 0, .int .i64 10, .int .i64 0, .int .i64 0, .string ⟨#[]⟩]) (t := 23)
  have hn := below_alloc V10 (.cells #[.int .i64 14, .int .i64 0, .int .i64 0, .int .i64 0, .int .i64 0, .string ⟨#[]⟩, .int .i64 13, .int .i64 0, .int .i64 10, .int .i64 0, .int .i64 0, .string ⟨#[]⟩] 23)
  replace r1 := r1.on hn
  replace r2 := r2.on hn
  replace r3 := r3.on hn
  replace hh := hh.on hn
  replace hc := chain hc hn
  clear hn
  have hu : HoldsO (V10.alloc (.cells #[.int .i64 14, .int .i64 0, .int .i64 0, .int .i64 0, .int .i64 0, .string ⟨#[]⟩, .int .i64 13, .int .i64 0, .int .i64 10, .int .i64 0, .int .i64 0, .string ⟨#[]⟩] 23)) (.slice (some ⟨V10.heap.size, 0, none⟩) 2 2) [(14, ⟨0, 0, 0, 0, ⟨#[]⟩⟩), (13, ⟨0, 10, 0, 0, ⟨#[]⟩⟩)] := .inr ⟨_, 0, 2, rfl, holds_row rn rfl⟩
  generalize V10.alloc (.cells #[.int .i64 14, .int .i64 0, .int .i64 0, .int .i64 0, .int .i64 0, .string ⟨#[]⟩, .int .i64 13, .int .i64 0, .int .i64 10, .int .i64 0, .int .i64 0, .string ⟨#[]⟩] 23) = U at *
  generalize V10.heap.size = bu at *
  refine Calls.mono (equalO_c v6 _ _ _ U hh hu (by decide) (by decide)) ?_
  rintro e U1 ⟨rfl, hn⟩
  rw [show decide (([(14, ⟨0, 0, 0, 0, ⟨#[]⟩⟩), (13, ⟨0, 10, 0, 0, ⟨#[]⟩⟩)] : List OpR) = ([(14, ⟨0, 0, 0, 0, ⟨#[]⟩⟩), (13, ⟨0, 10, 0, 0, ⟨#[]⟩⟩)] : List OpR)) = true by decide]
  clear rn hu
  replace r1 := r1.on hn
  replace r2 := r2.on hn
  replace r3 := r3.on hn
  replace hh := hh.on hn
  replace hc := chain hc hn
  clear hn
  clear hh
  have yr1 := r1.cell
  have zr1 := r1.lt
  have yr2 := r2.cell
  have zr2 := r2.lt
  have yr3 := r3.cell
  have zr3 := r3.lt
  go_wp2_with fail
  clear yr1 yr2 yr3 zr1 zr2 zr3
  refine Calls.mono (word_c 13 _) ?_
  rintro e U2 ⟨rfl, hn⟩
  rw [show wordB 13 = ⟨#[109, 97, 114, 107]⟩ from rfl]
  replace r1 := r1.on hn
  replace r2 := r2.on hn
  replace r3 := r3.on hn
  replace hc := chain hc hn
  clear hn
  have yr1 := r1.cell
  have zr1 := r1.lt
  have yr2 := r2.cell
  have zr2 := r2.lt
  have yr3 := r3.cell
  have zr3 := r3.lt
  go_wp2_with fail
  clear yr1 yr2 yr3 zr1 zr2 zr3
  refine Calls.mono (mut_c 12 _) ?_
  rintro e U3 ⟨rfl, hn⟩
  rw [show inB 12 1 12 = true from rfl]
  replace r1 := r1.on hn
  replace r2 := r2.on hn
  replace r3 := r3.on hn
  replace hc := chain hc hn
  clear hn
  have yr1 := r1.cell
  have zr1 := r1.lt
  have yr2 := r2.cell
  have zr2 := r2.lt
  have yr3 := r3.cell
  have zr3 := r3.lt
  go_wp2_with fail
  clear yr1 yr2 yr3 zr1 zr2 zr3
  refine Calls.mono (mut_c 13 _) ?_
  rintro e U4 ⟨rfl, hn⟩
  rw [show inB 13 1 12 = false from rfl]
  replace r1 := r1.on hn
  replace r2 := r2.on hn
  replace r3 := r3.on hn
  replace hc := chain hc hn
  clear hn
  have yr1 := r1.cell
  have zr1 := r1.lt
  have yr2 := r2.cell
  have zr2 := r2.lt
  have yr3 := r3.cell
  have zr3 := r3.lt
  go_wp2_with fail
  go_returns
  exact ⟨rfl, hc⟩
end Go.Proofs.YthkngleegefgbaaGreatDoor
