/- LedgerParts walked. -/
import Derived.Test.YtinlfheonlpceaaGreatDoorM151a
namespace Go.Proofs.YtinlfheonlpceaaGreatDoor
open Go.RowKit
set_option linter.unusedVariables false
set_option linter.unusedSimpArgs false
set_option maxHeartbeats 40000000
set_option maxRecDepth 20000
theorem parts_walk (v : Value) (n : Nat) (E : Nat → List Value) (w : World) (hE : EnvP w) (hsl : Sl w v leavesE n E) :
    Ret 6 #[v] w (.bool true) := by
  obtain ⟨L, hl⟩ := sl_en hsl
  have HE := Lib.hid hE
  have HA := Lib.hid (attsL_ok L)
  have HS := Lib.hid (attsL_sorted L)
  have HL := Lib.hid (attsL_len L)
  have HSUM := Lib.hid (attsL_sum L)
  obtain ⟨i0, hi, hz0, hz1, hz2⟩ := info_parts at_info
  have HI0 := Lib.hid hi
  have HZ0 := Lib.hid hz0
  have HZ1 := Lib.hid hz1
  have HZ2 := Lib.hid hz2
  clear hi hz0 hz1 hz2
  have hc := Below.refl w.heap.size w
  clear hE hsl
  go_enter Tryz.func6, Tryz.ntmps6
  go_wp2_with fail
  refine Calls.mono (attempts_c v L _ hl) ?_
  rintro e VA ⟨⟨u, rfl, ho⟩, hn⟩
  clear hl
  replace hc := chain hc hn
  clear hn
  have HU := Lib.hid (OwnsA.holds ho)
  generalize attsL L = A at *
  have hAL := HL.out
  clear HL
  go_wp2_with fail
  refine Calls.mono (filled_c u _ _ HU.out HA.out HS.out (by omega)) ?_
  rintro e VB ⟨p, rfl, ⟨F, hl⟩, hn⟩
  replace ho := ho.on hn
  replace hc := chain hc hn
  clear hn
  clear HU HA HS
  obtain ⟨p5, c5, rfl⟩ := (OwnsA.holds ho).len
  go_wp2_with fail
  refine Calls.mono (allW_c hl) ?_
  rintro e VC ⟨u3, rfl, h3, hn⟩
  replace ho := ho.on hn
  replace hl := hl.on hn
  replace hc := chain hc hn
  clear hn
  go_wp2_with fail
  refine Calls.mono (equal_same _ _ A _ (OwnsA.holds h3) (OwnsA.holds ho) (by omega)) ?_
  rintro e V4 ⟨rfl, hn⟩
  replace ho := ho.on hn
  replace hl := hl.on hn
  replace h3 := h3.on hn
  replace hc := chain hc hn
  clear hn
  clear h3
  go_wp2_with fail
  refine Calls.mono (lenW_c hl) ?_
  rintro e V5 ⟨rfl, hn⟩
  replace ho := ho.on hn
  replace hl := hl.on hn
  replace hc := chain hc hn
  clear hn
  go_wp2_with fail
  go_loopw [5, 37] (fun sv iv wr => ∃ j : Nat, j ≤ 12 ∧ iv = .int .i64 j ∧ sv = .int .i64 (sumR A j) ∧ OwnsA w.heap.size wr (.slice p5 A.length c5) A ∧ LedW VA wr F p A ∧ Below w.heap.size w wr) (fun _ iv _ => 12 - (intOf iv).toNat)
  case atStart => exact ⟨0, Nat.zero_le _, rfl, rfl, ho, hl, hc⟩
  case round =>
    clear ho hl hc
    obtain ⟨j, hj, rfl, rfl, ho, hl, hc⟩ := hrel
    by_cases hlt : j < 12
    · go_upto_region 10 with fail
      have ro := Row.new (W := wr) (cs := #[.int .i64 (1 + (j : Int) % 3), .int .i64 ((j : Int) / 3 % 2), .int .u32 (1 + (j : Int) / 6)]) (t := 41)
      have hn := below_alloc wr (.cells #[.int .i64 (1 + (j : Int) % 3), .int .i64 ((j : Int) / 3 % 2), .int .u32 (1 + (j : Int) / 6)] 41)
      have wro : w.heap.size ≤ wr.heap.size := hc.size
      replace ho := ho.on hn
      replace hl := hl.on hn
      replace hc := chain hc hn
      clear hn
      generalize wr.alloc (.cells #[.int .i64 (1 + (j : Int) % 3), .int .i64 ((j : Int) / 3 % 2), .int .u32 (1 + (j : Int) / 6)] 41) = V6 at ho hl ro hc ⊢
      generalize wr.heap.size = bo at *
      obtain ⟨kk, hkk⟩ : ∃ k : Int, k = 1 + (j : Int) % 3 := ⟨_, rfl⟩
      obtain ⟨ii, hii⟩ : ∃ k : Int, k = (j : Int) / 3 % 2 := ⟨_, rfl⟩
      obtain ⟨gg, hgg⟩ : ∃ k : Int, k = 1 + (j : Int) / 6 := ⟨_, rfl⟩
      have HK := Lib.hid (show kk = resK j from hkk)
      have HI := Lib.hid (show ii = resI j from hii)
      have HG := Lib.hid (show gg = resG j from hgg)
      rw [← hkk, ← hii, ← hgg] at ro
      go_wp2_with fail
      clear hkk hii hgg
      have HO := Lib.hid ho
      have HLD := Lib.hid hl
      have HC := Lib.hid hc
      have hx := Below.refl V6.heap.size V6
      rw [decide_eq_true (show (j : Int) < 12 by omega)]
      go_loopw [8, 9, 10, 53] (fun ov av ev iv wi => ∃ i : Nat, i ≤ A.length ∧ iv = .int .i64 i ∧ OwnsA V6.heap.size wi ov (ofL kk ii gg (A.take i)) ∧ av = .int .i64 (((ofL kk ii gg (A.take i)).find? qEnd).getD at0).ans ∧ ev = .bool ((ofL kk ii gg (A.take i)).find? qEnd).isSome ∧ Row wi bo #[.int .i64 kk, .int .i64 ii, .int .u32 gg] 41 ∧ Below V6.heap.size V6 wi) (fun _ _ _ iv _ => A.length - (intOf iv).toNat)
      case atStart => exact ⟨0, Nat.zero_le _, rfl, OwnsA.nil _ _, rfl, rfl, ro, hx⟩
      case round =>
        clear ho hl hc ro hx
        obtain ⟨i, hiA, rfl, hof, rfl, rfl, ro, hx⟩ := hrel
        by_cases hit : i < A.length
        · have hx2 : A[i]? = some A[i] := List.getElem?_eq_getElem hit
          have htk : A.take (i + 1) = A.take i ++ [A[i]] := by rw [List.take_add_one, hx2]; rfl
          generalize A[i] = x at *
          have hsn := ofL_snoc kk ii gg (A.take i) x
          rw [← htk] at hsn
          clear htk
          generalize hS2 : ofL kk ii gg (A.take (i + 1)) = S2 at *
          have HS2 := Lib.hid hS2
          clear hS2
          have hSl : (ofL kk ii gg (A.take i)).length ≤ 100 := Nat.le_trans (ofL_len _ _ _ _) (by rw [List.length_take]; omega)
          generalize ofL kk ii gg (A.take i) = S1 at *
          rcases OwnsA.holds (OwnsA.on HO.out hx) with ⟨-, h0⟩ | ⟨b, off, c, hve, hcell⟩
          · rw [h0] at hit; simp at hit
          simp only [Value.slice.injEq] at hve
          obtain ⟨rfl, -, rfl⟩ := hve
          have q := HoldsA.six (hcell i x hx2)
          obtain ⟨d0, d1, d2, d3, d4, d5⟩ := q
          clear hcell hx2
          go_upto_region 15 with fail
          clear d0 d1 d2 d3 d4 d5
          have hlt7 := fun k hk => (World.ownsRow.lt hof k hk).2
          have HLT7 := Lib.hid hlt7
          clear hlt7
          have rx := Row.new (W := wr) (cs := #[.int .i64 x.at_, .int .i64 x.k, .int .i64 x.i, .int .u32 x.g, .int .i64 x.why, .int .i64 x.ans]) (t := 43)
          have hn := below_alloc wr (.cells #[.int .i64 x.at_, .int .i64 x.k, .int .i64 x.i, .int .u32 x.g, .int .i64 x.why, .int .i64 x.ans] 43)
          replace ro := ro.on hn
          replace hof := OwnsA.on hof hn
          replace hx := chain hx hn
          clear hn
          generalize wr.alloc (.cells #[.int .i64 x.at_, .int .i64 x.k, .int .i64 x.i, .int .u32 x.g, .int .i64 x.why, .int .i64 x.ans] 43) = V7 at rx ro hof hx ⊢
          generalize wr.heap.size = b7 at *
          have qn := neq_out x.k x.i x.g kk ii gg
          by_cases hm : x.k = kk ∧ x.i = ii ∧ x.g = gg
          · rw [if_pos hm] at hsn
            rw [decide_eq_true hm.1, decide_eq_true hm.2.1, decide_eq_true hm.2.2] at qn
            have yx := rx.cell
            have zx := rx.lt
            have yo := ro.cell
            have zo := ro.lt
            have HSN := Lib.hid hsn
            clear hsn hm
            go_upto_region 16 with fail
            clear yx zx yo zo qn
            obtain ⟨a0, c0, rfl⟩ := (OwnsA.holds hof).len
            have HOF := Lib.hid hof
            have Q2 := Lib.hid (OwnsA.on hof (below_alloc V7 (.cells #[.int .i64 x.at_, .int .i64 x.k, .int .i64 x.i, .int .u32 x.g, .int .i64 x.why, .int .i64 x.ans] 43)))
            have HSRC := Lib.hid (at_src V7 x)
            have hxs := hx.size
            have yx := rx.cell
            have zx := rx.lt
            clear hof
            have RX := Lib.hid rx
            have RO := Lib.hid ro
            clear rx ro
            rcases hF : S1.find? qEnd with _ | y
            · by_cases h2 : x.ans = 2
              · have f1 : (x.ans != 2) = false := by rw [h2]; rfl
                have q1 : qEnd x = false := by unfold qEnd; rw [h2]; rfl
                clear h2
                have e2 : (S1 ++ [x]).find? qEnd = none := by rw [List.find?_append, hF]; simp [q1]
                have E2 := Lib.hid e2
                clear e2 hF
                go_wp2_with (at_builtin; refine wpList_append_own _ rfl _ _ 26 rfl V6.heap.size 43 i0 (.agg #[.int .i64 0, .int .i64 0, .int .i64 0, .int .u32 0, .int .i64 0, .int .i64 0]) 6 48 Tryz.underlying26 HI0.out HZ0.out HZ1.out HZ2.out rfl (by decide) _ _ _ rfl Q2.out ⟨V7.heap.size, 0, none⟩ 1 1 (atL x) rfl rfl HSRC.out (by intro u hu; simp at hu; rcases hu with rfl | rfl | rfl | rfl | rfl | rfl <;> rfl) (by unfold maxLen; omega) (by omega) (by simp; omega) ?_; intro v2 w9 hown' hgrow hnil; have HOWN := Lib.hid hown'; have HGR := Lib.hid hgrow; have RX9 := Lib.hid (row_grown (RX.out.on (below_alloc V7 (.cells #[.int .i64 x.at_, .int .i64 x.k, .int .i64 x.i, .int .u32 x.g, .int .i64 x.why, .int .i64 x.ans] 43))) hgrow (fun e => absurd (HLT7.out _ e) (by omega))); have yx := RX9.out.cell; have zx := RX9.out.lt; clear hown' hgrow hnil)
                have hlo := fun k hk => (World.ownsRow.lt Q2.out k hk).1
                have hx9 : Below V6.heap.size V6 w9 := (hx.alloc hx.size (.cells #[.int .i64 x.at_, .int .i64 x.k, .int .i64 x.i, .int .u32 x.g, .int .i64 x.why, .int .i64 x.ans] 43)).grown HGR.out (by simp; omega) hlo
                have ro9 := row_grown (RO.out.on (below_alloc V7 (.cells #[.int .i64 x.at_, .int .i64 x.k, .int .i64 x.i, .int .u32 x.g, .int .i64 x.why, .int .i64 x.ans] 43))) HGR.out (ownA_ne_row Q2.out (RO.out.on (below_alloc V7 (.cells #[.int .i64 x.at_, .int .i64 x.k, .int .i64 x.i, .int .u32 x.g, .int .i64 x.why, .int .i64 x.ans] 43))) (by decide))
                have hof9 : OwnsA V6.heap.size w9 v2 (S1 ++ [x]) := by unfold OwnsA; rw [cellsA_snoc, List.length_append]; exact HOWN.out
                refine ⟨⟨i + 1, by omega, by go_num, by rw [HS2.out, HSN.out]; exact hof9, by rw [HS2.out, HSN.out, E2.out]; rfl, by rw [HS2.out, HSN.out, E2.out]; rfl, ro9, hx9⟩, by simp only [intOf]; omega⟩
              · have f1 : (x.ans != 2) = true := by rw [bne_iff_ne]; exact h2
                have q1 : qEnd x = true := by unfold qEnd; exact decide_eq_true h2
                clear h2
                have e2 : (S1 ++ [x]).find? qEnd = some x := by rw [List.find?_append, hF]; simp [q1]
                have E2 := Lib.hid e2
                clear e2 hF
                go_wp2_with (at_builtin; refine wpList_append_own _ rfl _ _ 26 rfl V6.heap.size 43 i0 (.agg #[.int .i64 0, .int .i64 0, .int .i64 0, .int .u32 0, .int .i64 0, .int .i64 0]) 6 48 Tryz.underlying26 HI0.out HZ0.out HZ1.out HZ2.out rfl (by decide) _ _ _ rfl Q2.out ⟨V7.heap.size, 0, none⟩ 1 1 (atL x) rfl rfl HSRC.out (by intro u hu; simp at hu; rcases hu with rfl | rfl | rfl | rfl | rfl | rfl <;> rfl) (by unfold maxLen; omega) (by omega) (by simp; omega) ?_; intro v2 w9 hown' hgrow hnil; have HOWN := Lib.hid hown'; have HGR := Lib.hid hgrow; have RX9 := Lib.hid (row_grown (RX.out.on (below_alloc V7 (.cells #[.int .i64 x.at_, .int .i64 x.k, .int .i64 x.i, .int .u32 x.g, .int .i64 x.why, .int .i64 x.ans] 43))) hgrow (fun e => absurd (HLT7.out _ e) (by omega))); have yx := RX9.out.cell; have zx := RX9.out.lt; clear hown' hgrow hnil)
                have hlo := fun k hk => (World.ownsRow.lt Q2.out k hk).1
                have hx9 : Below V6.heap.size V6 w9 := (hx.alloc hx.size (.cells #[.int .i64 x.at_, .int .i64 x.k, .int .i64 x.i, .int .u32 x.g, .int .i64 x.why, .int .i64 x.ans] 43)).grown HGR.out (by simp; omega) hlo
                have ro9 := row_grown (RO.out.on (below_alloc V7 (.cells #[.int .i64 x.at_, .int .i64 x.k, .int .i64 x.i, .int .u32 x.g, .int .i64 x.why, .int .i64 x.ans] 43))) HGR.out (ownA_ne_row Q2.out (RO.out.on (below_alloc V7 (.cells #[.int .i64 x.at_, .int .i64 x.k, .int .i64 x.i, .int .u32 x.g, .int .i64 x.why, .int .i64 x.ans] 43))) (by decide))
                have hof9 : OwnsA V6.heap.size w9 v2 (S1 ++ [x]) := by unfold OwnsA; rw [cellsA_snoc, List.length_append]; exact HOWN.out
                refine ⟨⟨i + 1, by omega, by go_num, by rw [HS2.out, HSN.out]; exact hof9, by rw [HS2.out, HSN.out, E2.out]; rfl, by rw [HS2.out, HSN.out, E2.out]; rfl, ro9, hx9⟩, by simp only [intOf]; omega⟩
            · cases f1 : (x.ans != 2)
              · have e2 : (S1 ++ [x]).find? qEnd = some y := by rw [List.find?_append, hF]; rfl
                have E2 := Lib.hid e2
                clear e2 hF
                go_wp2_with (at_builtin; refine wpList_append_own _ rfl _ _ 26 rfl V6.heap.size 43 i0 (.agg #[.int .i64 0, .int .i64 0, .int .i64 0, .int .u32 0, .int .i64 0, .int .i64 0]) 6 48 Tryz.underlying26 HI0.out HZ0.out HZ1.out HZ2.out rfl (by decide) _ _ _ rfl Q2.out ⟨V7.heap.size, 0, none⟩ 1 1 (atL x) rfl rfl HSRC.out (by intro u hu; simp at hu; rcases hu with rfl | rfl | rfl | rfl | rfl | rfl <;> rfl) (by unfold maxLen; omega) (by omega) (by simp; omega) ?_; intro v2 w9 hown' hgrow hnil; have HOWN := Lib.hid hown'; have HGR := Lib.hid hgrow; have RX9 := Lib.hid (row_grown (RX.out.on (below_alloc V7 (.cells #[.int .i64 x.at_, .int .i64 x.k, .int .i64 x.i, .int .u32 x.g, .int .i64 x.why, .int .i64 x.ans] 43))) hgrow (fun e => absurd (HLT7.out _ e) (by omega))); have yx := RX9.out.cell; have zx := RX9.out.lt; clear hown' hgrow hnil)
                have hlo := fun k hk => (World.ownsRow.lt Q2.out k hk).1
                have hx9 : Below V6.heap.size V6 w9 := (hx.alloc hx.size (.cells #[.int .i64 x.at_, .int .i64 x.k, .int .i64 x.i, .int .u32 x.g, .int .i64 x.why, .int .i64 x.ans] 43)).grown HGR.out (by simp; omega) hlo
                have ro9 := row_grown (RO.out.on (below_alloc V7 (.cells #[.int .i64 x.at_, .int .i64 x.k, .int .i64 x.i, .int .u32 x.g, .int .i64 x.why, .int .i64 x.ans] 43))) HGR.out (ownA_ne_row Q2.out (RO.out.on (below_alloc V7 (.cells #[.int .i64 x.at_, .int .i64 x.k, .int .i64 x.i, .int .u32 x.g, .int .i64 x.why, .int .i64 x.ans] 43))) (by decide))
                have hof9 : OwnsA V6.heap.size w9 v2 (S1 ++ [x]) := by unfold OwnsA; rw [cellsA_snoc, List.length_append]; exact HOWN.out
                refine ⟨⟨i + 1, by omega, by go_num, by rw [HS2.out, HSN.out]; exact hof9, by rw [HS2.out, HSN.out, E2.out]; rfl, by rw [HS2.out, HSN.out, E2.out]; rfl, ro9, hx9⟩, by simp only [intOf]; omega⟩
              · have e2 : (S1 ++ [x]).find? qEnd = some y := by rw [List.find?_append, hF]; rfl
                have E2 := Lib.hid e2
                clear e2 hF
                go_wp2_with (at_builtin; refine wpList_append_own _ rfl _ _ 26 rfl V6.heap.size 43 i0 (.agg #[.int .i64 0, .int .i64 0, .int .i64 0, .int .u32 0, .int .i64 0, .int .i64 0]) 6 48 Tryz.underlying26 HI0.out HZ0.out HZ1.out HZ2.out rfl (by decide) _ _ _ rfl Q2.out ⟨V7.heap.size, 0, none⟩ 1 1 (atL x) rfl rfl HSRC.out (by intro u hu; simp at hu; rcases hu with rfl | rfl | rfl | rfl | rfl | rfl <;> rfl) (by unfold maxLen; omega) (by omega) (by simp; omega) ?_; intro v2 w9 hown' hgrow hnil; have HOWN := Lib.hid hown'; have HGR := Lib.hid hgrow; have RX9 := Lib.hid (row_grown (RX.out.on (below_alloc V7 (.cells #[.int .i64 x.at_, .int .i64 x.k, .int .i64 x.i, .int .u32 x.g, .int .i64 x.why, .int .i64 x.ans] 43))) hgrow (fun e => absurd (HLT7.out _ e) (by omega))); have yx := RX9.out.cell; have zx := RX9.out.lt; clear hown' hgrow hnil)
                have hlo := fun k hk => (World.ownsRow.lt Q2.out k hk).1
                have hx9 : Below V6.heap.size V6 w9 := (hx.alloc hx.size (.cells #[.int .i64 x.at_, .int .i64 x.k, .int .i64 x.i, .int .u32 x.g, .int .i64 x.why, .int .i64 x.ans] 43)).grown HGR.out (by simp; omega) hlo
                have ro9 := row_grown (RO.out.on (below_alloc V7 (.cells #[.int .i64 x.at_, .int .i64 x.k, .int .i64 x.i, .int .u32 x.g, .int .i64 x.why, .int .i64 x.ans] 43))) HGR.out (ownA_ne_row Q2.out (RO.out.on (below_alloc V7 (.cells #[.int .i64 x.at_, .int .i64 x.k, .int .i64 x.i, .int .u32 x.g, .int .i64 x.why, .int .i64 x.ans] 43))) (by decide))
                have hof9 : OwnsA V6.heap.size w9 v2 (S1 ++ [x]) := by unfold OwnsA; rw [cellsA_snoc, List.length_append]; exact HOWN.out
                refine ⟨⟨i + 1, by omega, by go_num, by rw [HS2.out, HSN.out]; exact hof9, by rw [HS2.out, HSN.out, E2.out]; rfl, by rw [HS2.out, HSN.out, E2.out]; rfl, ro9, hx9⟩, by simp only [intOf]; omega⟩
          · rw [if_neg hm] at hsn
            have hdf : (decide (x.k = kk) && (decide (x.i = ii) && decide (x.g = gg))) = false := by cases hd : (decide (x.k = kk) && (decide (x.i = ii) && decide (x.g = gg))) with | false => rfl | true => exact absurd (by simpa using hd) hm
            rw [hdf] at qn
            clear hdf
            have yx := rx.cell
            have zx := rx.lt
            have yo := ro.cell
            have zo := ro.lt
            have HSN := Lib.hid hsn
            clear hsn
            go_wp2_with fail
            refine ⟨⟨i + 1, by omega, by go_num, by rw [HS2.out, HSN.out]; exact hof, by rw [HS2.out, HSN.out], by rw [HS2.out, HSN.out], ro, hx⟩, by simp only [intOf]; omega⟩
        · obtain rfl : i = A.length := by omega
          rw [List.take_of_length_le (Nat.le_refl _)] at hof ⊢
          have hl := HLD.out.on hx
          clear hit hiA
          have HSR := Lib.hid (show sumR A (j + 1) = sumR A j + (ofL kk ii gg A).length by rw [HK.out, HI.out, HG.out]; rfl)
          have HSL := Lib.hid (Nat.le_trans (sumR_le A (j + 1)) (Nat.mul_le_mul (show j + 1 ≤ 12 by omega) hAL))
          have hSl : (ofL kk ii gg A).length ≤ 100 := Nat.le_trans (ofL_len _ _ _ _) hAL
          have cE := fun W (h : LedW VA W F p A) => endedW_c kk ii gg h
          have cF := fun W (h : LedW VA W F p A) => firstW_c kk ii gg h
          have cO := fun W (h : LedW VA W F p A) => ofW_c kk ii gg h
          generalize ofL kk ii gg A = S at *
          generalize ((S.find? qEnd).getD at0).ans = an at *
          generalize (S.find? qEnd).isSome = en at *
          have CE := Lib.hid cE
          have CO := Lib.hid cO
          clear cE cO
          have yro := ro.cell
          have zro := ro.lt
          go_wp2_with fail
          refine Calls.mono (CE.out _ hl) ?_
          rintro e V21 ⟨rfl, hn⟩
          clear yro zro
          replace ro := ro.on hn
          replace hl := hl.on hn
          replace hof := hof.on hn
          replace hx := chain hx hn
          clear hn
          have bb1 : (an != an) = false := by simp
          have bb2 : (en != en) = false := by simp
          rcases S with _ | ⟨x, r⟩
          · have CF := Lib.hid cF
            clear cF
            have CF2 : RowKit.Hid (∀ W, LedW VA W F p A → Ret 30 #[ledP p, oV kk ii gg] W (.tuple #[atV at0, .bool false])) := CF
            clear CF
            have yro := ro.cell
            have zro := ro.lt
            go_wp2_with fail
            refine Calls.mono (CF2.out _ hl) ?_
            rintro e V22 ⟨rfl, hn⟩
            clear yro zro
            replace ro := ro.on hn
            replace hl := hl.on hn
            replace hof := hof.on hn
            replace hx := chain hx hn
            clear hn
            have yro := ro.cell
            have zro := ro.lt
            go_upto_region 22 with fail
            clear yro zro
            have rf := Row.new (W := V22) (cs := #[.int .i64 0, .int .i64 0, .int .i64 0, .int .u32 0, .int .i64 0, .int .i64 0]) (t := 43)
            have hn := below_alloc V22 (.cells #[.int .i64 0, .int .i64 0, .int .i64 0, .int .u32 0, .int .i64 0, .int .i64 0] 43)
            replace ro := ro.on hn
            replace hl := hl.on hn
            replace hof := hof.on hn
            replace hx := chain hx hn
            clear hn
            generalize V22.alloc (.cells #[.int .i64 0, .int .i64 0, .int .i64 0, .int .u32 0, .int .i64 0, .int .i64 0] 43) = V23 at *
            generalize V22.heap.size = bf at *
            obtain ⟨p0, c0, rfl⟩ := (OwnsA.holds hof).len
            have hh := OwnsA.holds hof
            refine wp_region_held_drew (S := fun W' => (∀ j, W'.cell? ⟨bo, j, none⟩ = (#[.int .i64 kk, .int .i64 ii, .int .u32 gg] : Array Value)[j]?) ∧ (∀ j, W'.cell? ⟨bf, j, none⟩ = (#[.int .i64 0, .int .i64 0, .int .i64 0, .int .u32 0, .int .i64 0, .int .i64 0] : Array Value)[j]?)) (by kernel_rfl) ⟨ro.cell, rf.cell⟩ (fun hHeld => ?_)
            replace ro := ro.drew
            replace rf := rf.drew
            replace hl := hl.drew
            replace hof := hof.drew
            replace hh := hh.drew
            replace hx := hx.drew
            generalize V23.drew = VD at *
            have f5 := neq_at at0 at0
            rw [decide_eq_true (rfl : at0 = at0)] at f5
            have F5 := Lib.hid f5
            clear f5
            refine' wpAnyH_take (i := 0) (oi := _) (v := _) ?_ (by kernel_rfl) (by kernel_rfl) (by kernel_rfl) ?_ (Or.inl ⟨?_, ?_⟩) (by assumption) ?_
            rotate_left 2
            · (simp only [List.getElem?_toArray, List.getElem?_cons_succ, List.getElem?_cons_zero]; rfl)
            · first | exact fun _ _ _ h => h | exact fun _ _ _ h => nomatch h.1
            · rfl
            · (intro W hSW; (try dsimp only at hSW); go_split_ands; first | (go_simp; done) | (go_simp; with_reducible rfl))
            try simp only [Act.put, List.setIfInBounds_toArray, List.set_cons_zero, List.set_cons_succ]
            refine' wpAnyH_take (i := 1) (oi := _) (v := _) ?_ (by kernel_rfl) (by kernel_rfl) (by kernel_rfl) ?_ (Or.inl ⟨?_, ?_⟩) (by assumption) ?_
            rotate_left 2
            · (simp only [List.getElem?_toArray, List.getElem?_cons_succ, List.getElem?_cons_zero]; rfl)
            · first | exact fun _ _ _ h => h | exact fun _ _ _ h => nomatch h.1
            · rfl
            · (intro W hSW; (try dsimp only at hSW); go_split_ands; first | (go_simp; done) | (go_simp; with_reducible rfl))
            try simp only [Act.put, List.setIfInBounds_toArray, List.set_cons_zero, List.set_cons_succ]
            refine' wpAnyH_take (i := 3) (oi := _) (v := _) ?_ (by kernel_rfl) (by kernel_rfl) (by kernel_rfl) ?_ (Or.inl ⟨?_, ?_⟩) (by assumption) ?_
            rotate_left 2
            · (simp only [List.getElem?_toArray, List.getElem?_cons_succ, List.getElem?_cons_zero]; rfl)
            · first | exact fun _ _ _ h => h | exact fun _ _ _ h => nomatch h.1
            · rfl
            · (intro W hSW; (try dsimp only at hSW); go_split_ands; first | (go_simp; done) | (go_simp; with_reducible rfl))
            try simp only [Act.put, List.setIfInBounds_toArray, List.set_cons_zero, List.set_cons_succ]
            clear hHeld
            refine wpAnyH_ready (rs := [2]) (by kernel_rfl) (by simp) ?_
            refine' AllReadyH.cons (o := _) ?_ (fun K hK => ?_) AllReadyH.nil
            rotate_left 1
            · (simp only [List.getElem?_toArray, List.getElem?_cons_succ, List.getElem?_cons_zero]; rfl)
            go_simp
            refine Calls.mono (CO.out _ hl) ?_
            rintro e VE ⟨uO, rfl, hO, hn⟩
            replace ro := ro.on hn
            replace rf := rf.on hn
            replace hl := hl.on hn
            replace hof := hof.on hn
            replace hh := hh.on hn
            replace hx := chain hx hn
            clear hn
            go_simp
            refine hK.out _ _ ⟨ro.cell, rf.cell⟩ (fun hHeld => ?_)
            clear hK K hHeld
            refine wpAnyH_ready (rs := [4]) (by kernel_rfl) (by simp) ?_
            refine' AllReadyH.cons (o := _) ?_ (fun K hK => ?_) AllReadyH.nil
            rotate_left 1
            · (simp only [List.getElem?_toArray, List.getElem?_cons_succ, List.getElem?_cons_zero]; rfl)
            go_simp
            refine Calls.mono (equal_same _ _ _ _ (OwnsA.holds hO) hh (by simp)) ?_
            rintro e VG ⟨rfl, hn⟩
            replace ro := ro.on hn
            replace rf := rf.on hn
            replace hl := hl.on hn
            replace hof := hof.on hn
            replace hh := hh.on hn
            replace hx := chain hx hn
            clear hn
            go_simp
            refine hK.out _ _ ⟨ro.cell, rf.cell⟩ (fun hHeld => ?_)
            clear hK K
            have f5 := F5.out
            refine' wpAnyH_take (i := 5) (oi := _) (v := _) ?_ (by kernel_rfl) (by kernel_rfl) (by kernel_rfl) ?_ (Or.inl ⟨?_, ?_⟩) (by assumption) ?_
            rotate_left 2
            · (simp only [List.getElem?_toArray, List.getElem?_cons_succ, List.getElem?_cons_zero]; rfl)
            · first | exact fun _ _ _ h => h | exact fun _ _ _ h => nomatch h.1
            · rfl
            · (intro W hSW; (try dsimp only at hSW); go_split_ands; first | (go_simp; done) | (go_simp; with_reducible rfl))
            try simp only [Act.put, List.setIfInBounds_toArray, List.set_cons_zero, List.set_cons_succ]
            refine' wpAnyH_take (i := 6) (oi := _) (v := _) ?_ (by kernel_rfl) (by kernel_rfl) (by kernel_rfl) ?_ (Or.inl ⟨?_, ?_⟩) (by assumption) ?_
            rotate_left 2
            · (simp only [List.getElem?_toArray, List.getElem?_cons_succ, List.getElem?_cons_zero]; rfl)
            · first | exact fun _ _ _ h => h | exact fun _ _ _ h => nomatch h.1
            · rfl
            · (intro W hSW; (try dsimp only at hSW); go_split_ands; first | (go_simp; done) | (go_simp; with_reducible rfl))
            try simp only [Act.put, List.setIfInBounds_toArray, List.set_cons_zero, List.set_cons_succ]
            refine' wpAnyH_take (i := 7) (oi := _) (v := _) ?_ (by kernel_rfl) (by kernel_rfl) (by kernel_rfl) ?_ (Or.inl ⟨?_, ?_⟩) (by assumption) ?_
            rotate_left 2
            · (simp only [List.getElem?_toArray, List.getElem?_cons_succ, List.getElem?_cons_zero]; rfl)
            · first | exact fun _ _ _ h => h | exact fun _ _ _ h => nomatch h.1
            · rfl
            · (intro W hSW; (try dsimp only at hSW); go_split_ands; first | (go_simp; done) | (go_simp; with_reducible rfl))
            try simp only [Act.put, List.setIfInBounds_toArray, List.set_cons_zero, List.set_cons_succ]
            refine' wpAnyH_take (i := 8) (oi := _) (v := _) ?_ (by kernel_rfl) (by kernel_rfl) (by kernel_rfl) ?_ (Or.inl ⟨?_, ?_⟩) (by assumption) ?_
            rotate_left 2
            · (simp only [List.getElem?_toArray, List.getElem?_cons_succ, List.getElem?_cons_zero]; rfl)
            · first | exact fun _ _ _ h => h | exact fun _ _ _ h => nomatch h.1
            · rfl
            · (intro W hSW; (try dsimp only at hSW); go_split_ands; first | (go_simp; done) | (go_simp; with_reducible rfl))
            try simp only [Act.put, List.setIfInBounds_toArray, List.set_cons_zero, List.set_cons_succ]
            refine' wpAnyH_take (i := 9) (oi := _) (v := _) ?_ (by kernel_rfl) (by kernel_rfl) (by kernel_rfl) ?_ (Or.inl ⟨?_, ?_⟩) (by assumption) ?_
            rotate_left 2
            · (simp only [List.getElem?_toArray, List.getElem?_cons_succ, List.getElem?_cons_zero]; rfl)
            · first | exact fun _ _ _ h => h | exact fun _ _ _ h => nomatch h.1
            · rfl
            · (intro W hSW; (try dsimp only at hSW); go_split_ands; first | (go_simp; done) | (go_simp; with_reducible rfl))
            try simp only [Act.put, List.setIfInBounds_toArray, List.set_cons_zero, List.set_cons_succ]
            refine' wpAnyH_take (i := 10) (oi := _) (v := _) ?_ (by kernel_rfl) (by kernel_rfl) (by kernel_rfl) ?_ (Or.inl ⟨?_, ?_⟩) (by assumption) ?_
            rotate_left 2
            · (simp only [List.getElem?_toArray, List.getElem?_cons_succ, List.getElem?_cons_zero]; rfl)
            · first | exact fun _ _ _ h => h | exact fun _ _ _ h => nomatch h.1
            · rfl
            · (intro W hSW; (try dsimp only at hSW); go_split_ands; first | (go_simp; done) | (go_simp; with_reducible rfl))
            try simp only [Act.put, List.setIfInBounds_toArray, List.set_cons_zero, List.set_cons_succ]
            refine' wpAnyH_take (i := 11) (oi := _) (v := _) ?_ (by kernel_rfl) (by kernel_rfl) (by kernel_rfl) ?_ (Or.inl ⟨?_, ?_⟩) (by assumption) ?_
            rotate_left 2
            · (simp only [List.getElem?_toArray, List.getElem?_cons_succ, List.getElem?_cons_zero]; rfl)
            · first | exact fun _ _ _ h => h | exact fun _ _ _ h => nomatch h.1
            · rfl
            · (intro W hSW; (try dsimp only at hSW); go_split_ands; first | (go_simp; done) | (go_simp; with_reducible rfl))
            try simp only [Act.put, List.setIfInBounds_toArray, List.set_cons_zero, List.set_cons_succ]
            refine' wpAnyH_take (i := 12) (oi := _) (v := _) ?_ (by kernel_rfl) (by kernel_rfl) (by kernel_rfl) ?_ (Or.inl ⟨?_, ?_⟩) (by assumption) ?_
            rotate_left 2
            · (simp only [List.getElem?_toArray, List.getElem?_cons_succ, List.getElem?_cons_zero]; rfl)
            · first | exact fun _ _ _ h => h | exact fun _ _ _ h => nomatch h.1
            · rfl
            · (intro W hSW; (try dsimp only at hSW); go_split_ands; first | (go_simp; done) | (go_simp; with_reducible rfl))
            try simp only [Act.put, List.setIfInBounds_toArray, List.set_cons_zero, List.set_cons_succ]
            refine' wpAnyH_take (i := 13) (oi := _) (v := _) ?_ (by kernel_rfl) (by kernel_rfl) (by kernel_rfl) ?_ (Or.inl ⟨?_, ?_⟩) (by assumption) ?_
            rotate_left 2
            · (simp only [List.getElem?_toArray, List.getElem?_cons_succ, List.getElem?_cons_zero]; rfl)
            · first | exact fun _ _ _ h => h | exact fun _ _ _ h => nomatch h.1
            · rfl
            · (intro W hSW; (try dsimp only at hSW); go_split_ands; first | (go_simp; done) | (go_simp; with_reducible rfl))
            try simp only [Act.put, List.setIfInBounds_toArray, List.set_cons_zero, List.set_cons_succ]
            refine' wpAnyH_take (i := 14) (oi := _) (v := _) ?_ (by kernel_rfl) (by kernel_rfl) (by kernel_rfl) ?_ (Or.inl ⟨?_, ?_⟩) (by assumption) ?_
            rotate_left 2
            · (simp only [List.getElem?_toArray, List.getElem?_cons_succ, List.getElem?_cons_zero]; rfl)
            · first | exact fun _ _ _ h => h | exact fun _ _ _ h => nomatch h.1
            · rfl
            · (intro W hSW; (try dsimp only at hSW); go_split_ands; first | (go_simp; done) | (go_simp; with_reducible rfl))
            try simp only [Act.put, List.setIfInBounds_toArray, List.set_cons_zero, List.set_cons_succ]
            refine' wpAnyH_take (i := 15) (oi := _) (v := _) ?_ (by kernel_rfl) (by kernel_rfl) (by kernel_rfl) ?_ (Or.inl ⟨?_, ?_⟩) (by assumption) ?_
            rotate_left 2
            · (simp only [List.getElem?_toArray, List.getElem?_cons_succ, List.getElem?_cons_zero]; rfl)
            · first | exact fun _ _ _ h => h | exact fun _ _ _ h => nomatch h.1
            · rfl
            · (intro W hSW; (try dsimp only at hSW); go_split_ands; first | (go_simp; done) | (go_simp; with_reducible rfl))
            try simp only [Act.put, List.setIfInBounds_toArray, List.set_cons_zero, List.set_cons_succ]
            refine' wpAnyH_take (i := 16) (oi := _) (v := _) ?_ (by kernel_rfl) (by kernel_rfl) (by kernel_rfl) ?_ (Or.inl ⟨?_, ?_⟩) (by assumption) ?_
            rotate_left 2
            · (simp only [List.getElem?_toArray, List.getElem?_cons_succ, List.getElem?_cons_zero]; rfl)
            · first | exact fun _ _ _ h => h | exact fun _ _ _ h => nomatch h.1
            · rfl
            · (intro W hSW; (try dsimp only at hSW); go_split_ands; first | (go_simp; done) | (go_simp; with_reducible rfl))
            try simp only [Act.put, List.setIfInBounds_toArray, List.set_cons_zero, List.set_cons_succ]
            refine' wpAnyH_take (i := 17) (oi := _) (v := _) ?_ (by kernel_rfl) (by kernel_rfl) (by kernel_rfl) ?_ (Or.inl ⟨?_, ?_⟩) (by assumption) ?_
            rotate_left 2
            · (simp only [List.getElem?_toArray, List.getElem?_cons_succ, List.getElem?_cons_zero]; rfl)
            · first | exact fun _ _ _ h => h | exact fun _ _ _ h => nomatch h.1
            · rfl
            · (intro W hSW; (try dsimp only at hSW); go_split_ands; first | (go_simp; done) | (go_simp; with_reducible rfl))
            try simp only [Act.put, List.setIfInBounds_toArray, List.set_cons_zero, List.set_cons_succ]
            refine' wpAnyH_take (i := 18) (oi := _) (v := _) ?_ (by kernel_rfl) (by kernel_rfl) (by kernel_rfl) ?_ (Or.inl ⟨?_, ?_⟩) (by assumption) ?_
            rotate_left 2
            · (simp only [List.getElem?_toArray, List.getElem?_cons_succ, List.getElem?_cons_zero]; rfl)
            · first | exact fun _ _ _ h => h | exact fun _ _ _ h => nomatch h.1
            · rfl
            · (intro W hSW; (try dsimp only at hSW); go_split_ands; first | (go_simp; done) | (go_simp; with_reducible rfl))
            try simp only [Act.put, List.setIfInBounds_toArray, List.set_cons_zero, List.set_cons_succ]
            refine' wpAnyH_take (i := 19) (oi := _) (v := _) ?_ (by kernel_rfl) (by kernel_rfl) (by kernel_rfl) ?_ (Or.inl ⟨?_, ?_⟩) (by assumption) ?_
            rotate_left 2
            · (simp only [List.getElem?_toArray, List.getElem?_cons_succ, List.getElem?_cons_zero]; rfl)
            · first | exact fun _ _ _ h => h | exact fun _ _ _ h => nomatch h.1
            · rfl
            · (intro W hSW; (try dsimp only at hSW); go_split_ands; first | (go_simp; done) | (go_simp; with_reducible rfl))
            try simp only [Act.put, List.setIfInBounds_toArray, List.set_cons_zero, List.set_cons_succ]
            refine' wpAnyH_take (i := 20) (oi := _) (v := _) ?_ (by kernel_rfl) (by kernel_rfl) (by kernel_rfl) ?_ (Or.inl ⟨?_, ?_⟩) (by assumption) ?_
            rotate_left 2
            · (simp only [List.getElem?_toArray, List.getElem?_cons_succ, List.getElem?_cons_zero]; rfl)
            · first | exact fun _ _ _ h => h | exact fun _ _ _ h => nomatch h.1
            · rfl
            · (intro W hSW; (try dsimp only at hSW); go_split_ands; first | (go_simp; done) | (go_simp; with_reducible rfl))
            try simp only [Act.put, List.setIfInBounds_toArray, List.set_cons_zero, List.set_cons_succ]
            refine' wpAnyH_take (i := 21) (oi := _) (v := _) ?_ (by kernel_rfl) (by kernel_rfl) (by kernel_rfl) ?_ (Or.inl ⟨?_, ?_⟩) (by assumption) ?_
            rotate_left 2
            · (simp only [List.getElem?_toArray, List.getElem?_cons_succ, List.getElem?_cons_zero]; rfl)
            · first | exact fun _ _ _ h => h | exact fun _ _ _ h => nomatch h.1
            · rfl
            · (intro W hSW; (try dsimp only at hSW); go_split_ands; first | (go_simp; done) | (go_simp; with_reducible rfl))
            try simp only [Act.put, List.setIfInBounds_toArray, List.set_cons_zero, List.set_cons_succ]
            refine' wpAnyH_take (i := 22) (oi := _) (v := _) ?_ (by kernel_rfl) (by kernel_rfl) (by kernel_rfl) ?_ (Or.inl ⟨?_, ?_⟩) (by assumption) ?_
            rotate_left 2
            · (simp only [List.getElem?_toArray, List.getElem?_cons_succ, List.getElem?_cons_zero]; rfl)
            · first | exact fun _ _ _ h => h | exact fun _ _ _ h => nomatch h.1
            · rfl
            · (intro W hSW; (try dsimp only at hSW); go_split_ands; first | (go_simp; done) | (go_simp; with_reducible rfl))
            try simp only [Act.put, List.setIfInBounds_toArray, List.set_cons_zero, List.set_cons_succ]
            refine' wpAnyH_take (i := 23) (oi := _) (v := _) ?_ (by kernel_rfl) (by kernel_rfl) (by kernel_rfl) ?_ (Or.inl ⟨?_, ?_⟩) (by assumption) ?_
            rotate_left 2
            · (simp only [List.getElem?_toArray, List.getElem?_cons_succ, List.getElem?_cons_zero]; rfl)
            · first | exact fun _ _ _ h => h | exact fun _ _ _ h => nomatch h.1
            · rfl
            · (intro W hSW; (try dsimp only at hSW); go_split_ands; first | (go_simp; done) | (go_simp; with_reducible rfl))
            try simp only [Act.put, List.setIfInBounds_toArray, List.set_cons_zero, List.set_cons_succ]
            refine' wpAnyH_take (i := 24) (oi := _) (v := _) ?_ (by kernel_rfl) (by kernel_rfl) (by kernel_rfl) ?_ (Or.inl ⟨?_, ?_⟩) (by assumption) ?_
            rotate_left 2
            · (simp only [List.getElem?_toArray, List.getElem?_cons_succ, List.getElem?_cons_zero]; rfl)
            · first | exact fun _ _ _ h => h | exact fun _ _ _ h => nomatch h.1
            · rfl
            · (intro W hSW; (try dsimp only at hSW); go_split_ands; first | (go_simp; done) | (go_simp; with_reducible rfl))
            try simp only [Act.put, List.setIfInBounds_toArray, List.set_cons_zero, List.set_cons_succ]
            refine' wpAnyH_take (i := 25) (oi := _) (v := _) ?_ (by kernel_rfl) (by kernel_rfl) (by kernel_rfl) ?_ (Or.inl ⟨?_, ?_⟩) (by assumption) ?_
            rotate_left 2
            · (simp only [List.getElem?_toArray, List.getElem?_cons_succ, List.getElem?_cons_zero]; rfl)
            · first | exact fun _ _ _ h => h | exact fun _ _ _ h => nomatch h.1
            · rfl
            · (intro W hSW; (try dsimp only at hSW); go_split_ands; first | (go_simp; done) | (go_simp; with_reducible rfl))
            try simp only [Act.put, List.setIfInBounds_toArray, List.set_cons_zero, List.set_cons_succ]
            refine' wpAnyH_take (i := 26) (oi := _) (v := _) ?_ (by kernel_rfl) (by kernel_rfl) (by kernel_rfl) ?_ (Or.inr ⟨?_, rfl⟩) (by assumption) ?_
            rotate_left 1
            · (simp only [List.getElem?_toArray, List.getElem?_cons_succ, List.getElem?_cons_zero]; rfl)
            · first | exact fun _ _ _ h => h | exact fun _ _ _ h => nomatch h.1
            · rfl
            try simp only [Act.put, List.setIfInBounds_toArray, List.set_cons_zero, List.set_cons_succ]
            refine' wpAnyH_take (i := 27) (oi := _) (v := _) ?_ (by kernel_rfl) (by kernel_rfl) (by kernel_rfl) ?_ (Or.inr ⟨?_, rfl⟩) (by assumption) ?_
            rotate_left 1
            · (simp only [List.getElem?_toArray, List.getElem?_cons_succ, List.getElem?_cons_zero]; rfl)
            · first | exact fun _ _ _ h => h | exact fun _ _ _ h => nomatch h.1
            · rfl
            try simp only [Act.put, List.setIfInBounds_toArray, List.set_cons_zero, List.set_cons_succ]
            refine' wpAnyH_take (i := 28) (oi := _) (v := _) ?_ (by kernel_rfl) (by kernel_rfl) (by kernel_rfl) ?_ (Or.inr ⟨?_, rfl⟩) (by assumption) ?_
            rotate_left 1
            · (simp only [List.getElem?_toArray, List.getElem?_cons_succ, List.getElem?_cons_zero]; rfl)
            · first | exact fun _ _ _ h => h | exact fun _ _ _ h => nomatch h.1
            · rfl
            try simp only [Act.put, List.setIfInBounds_toArray, List.set_cons_zero, List.set_cons_succ]
            refine' wpAnyH_take (i := 29) (oi := _) (v := _) ?_ (by kernel_rfl) (by kernel_rfl) (by kernel_rfl) ?_ (Or.inr ⟨?_, rfl⟩) (by assumption) ?_
            rotate_left 1
            · (simp only [List.getElem?_toArray, List.getElem?_cons_succ, List.getElem?_cons_zero]; rfl)
            · first | exact fun _ _ _ h => h | exact fun _ _ _ h => nomatch h.1
            · rfl
            try simp only [Act.put, List.setIfInBounds_toArray, List.set_cons_zero, List.set_cons_succ]
            refine' wpAnyH_take (i := 30) (oi := _) (v := _) ?_ (by kernel_rfl) (by kernel_rfl) (by kernel_rfl) ?_ (Or.inr ⟨?_, rfl⟩) (by assumption) ?_
            rotate_left 1
            · (simp only [List.getElem?_toArray, List.getElem?_cons_succ, List.getElem?_cons_zero]; rfl)
            · first | exact fun _ _ _ h => h | exact fun _ _ _ h => nomatch h.1
            · rfl
            try simp only [Act.put, List.setIfInBounds_toArray, List.set_cons_zero, List.set_cons_succ]
            refine' wpAnyH_take (i := 31) (oi := _) (v := _) ?_ (by kernel_rfl) (by kernel_rfl) (by kernel_rfl) ?_ (Or.inl ⟨?_, ?_⟩) (by assumption) ?_
            rotate_left 2
            · (simp only [List.getElem?_toArray, List.getElem?_cons_succ, List.getElem?_cons_zero]; rfl)
            · first | exact fun _ _ _ h => h | exact fun _ _ _ h => nomatch h.1
            · rfl
            · (intro W hSW; (try dsimp only at hSW); go_split_ands; first | (go_simp; done) | (go_simp; with_reducible rfl))
            try simp only [Act.put, List.setIfInBounds_toArray, List.set_cons_zero, List.set_cons_succ]
            refine' wpAnyH_take (i := 32) (oi := _) (v := _) ?_ (by kernel_rfl) (by kernel_rfl) (by kernel_rfl) ?_ (Or.inl ⟨?_, ?_⟩) (by assumption) ?_
            rotate_left 2
            · (simp only [List.getElem?_toArray, List.getElem?_cons_succ, List.getElem?_cons_zero]; rfl)
            · first | exact fun _ _ _ h => h | exact fun _ _ _ h => nomatch h.1
            · rfl
            · (intro W hSW; (try dsimp only at hSW); go_split_ands; first | (go_simp; done) | (go_simp; with_reducible rfl))
            try simp only [Act.put, List.setIfInBounds_toArray, List.set_cons_zero, List.set_cons_succ]
            refine' wpAnyH_take (i := 33) (oi := _) (v := _) ?_ (by kernel_rfl) (by kernel_rfl) (by kernel_rfl) ?_ (Or.inl ⟨?_, ?_⟩) (by assumption) ?_
            rotate_left 2
            · (simp only [List.getElem?_toArray, List.getElem?_cons_succ, List.getElem?_cons_zero]; rfl)
            · first | exact fun _ _ _ h => h | exact fun _ _ _ h => nomatch h.1
            · rfl
            · (intro W hSW; (try dsimp only at hSW); go_split_ands; first | (go_simp; done) | (go_simp; with_reducible rfl))
            try simp only [Act.put, List.setIfInBounds_toArray, List.set_cons_zero, List.set_cons_succ]
            refine' wpAnyH_take (i := 34) (oi := _) (v := _) ?_ (by kernel_rfl) (by kernel_rfl) (by kernel_rfl) ?_ (Or.inl ⟨?_, ?_⟩) (by assumption) ?_
            rotate_left 2
            · (simp only [List.getElem?_toArray, List.getElem?_cons_succ, List.getElem?_cons_zero]; rfl)
            · first | exact fun _ _ _ h => h | exact fun _ _ _ h => nomatch h.1
            · rfl
            · (intro W hSW; (try dsimp only at hSW); go_split_ands; first | (go_simp; done) | (go_simp; with_reducible rfl))
            try simp only [Act.put, List.setIfInBounds_toArray, List.set_cons_zero, List.set_cons_succ]
            refine' wpAnyH_take (i := 35) (oi := _) (v := _) ?_ (by kernel_rfl) (by kernel_rfl) (by kernel_rfl) ?_ (Or.inl ⟨?_, ?_⟩) (by assumption) ?_
            rotate_left 2
            · (simp only [List.getElem?_toArray, List.getElem?_cons_succ, List.getElem?_cons_zero]; rfl)
            · first | exact fun _ _ _ h => h | exact fun _ _ _ h => nomatch h.1
            · rfl
            · (intro W hSW; (try dsimp only at hSW); go_split_ands; first | (go_simp; done) | (go_simp; with_reducible rfl))
            try simp only [Act.put, List.setIfInBounds_toArray, List.set_cons_zero, List.set_cons_succ]
            refine' wpAnyH_take (i := 36) (oi := _) (v := _) ?_ (by kernel_rfl) (by kernel_rfl) (by kernel_rfl) ?_ (Or.inl ⟨?_, ?_⟩) (by assumption) ?_
            rotate_left 2
            · (simp only [List.getElem?_toArray, List.getElem?_cons_succ, List.getElem?_cons_zero]; rfl)
            · first | exact fun _ _ _ h => h | exact fun _ _ _ h => nomatch h.1
            · rfl
            · (intro W hSW; (try dsimp only at hSW); go_split_ands; first | (go_simp; done) | (go_simp; with_reducible rfl))
            try simp only [Act.put, List.setIfInBounds_toArray, List.set_cons_zero, List.set_cons_succ]
            refine' wpAnyH_take (i := 37) (oi := _) (v := _) ?_ (by kernel_rfl) (by kernel_rfl) (by kernel_rfl) ?_ (Or.inl ⟨?_, ?_⟩) (by assumption) ?_
            rotate_left 2
            · (simp only [List.getElem?_toArray, List.getElem?_cons_succ, List.getElem?_cons_zero]; rfl)
            · first | exact fun _ _ _ h => h | exact fun _ _ _ h => nomatch h.1
            · rfl
            · (intro W hSW; (try dsimp only at hSW); go_split_ands; first | (go_simp; done) | (go_simp; with_reducible rfl))
            try simp only [Act.put, List.setIfInBounds_toArray, List.set_cons_zero, List.set_cons_succ]
            refine' wpAnyH_take (i := 38) (oi := _) (v := _) ?_ (by kernel_rfl) (by kernel_rfl) (by kernel_rfl) ?_ (Or.inl ⟨?_, ?_⟩) (by assumption) ?_
            rotate_left 2
            · (simp only [List.getElem?_toArray, List.getElem?_cons_succ, List.getElem?_cons_zero]; rfl)
            · first | exact fun _ _ _ h => h | exact fun _ _ _ h => nomatch h.1
            · rfl
            · (intro W hSW; (try dsimp only at hSW); go_split_ands; first | (go_simp; done) | (go_simp; with_reducible rfl))
            try simp only [Act.put, List.setIfInBounds_toArray, List.set_cons_zero, List.set_cons_succ]
            refine' wpAnyH_take (i := 39) (oi := _) (v := _) ?_ (by kernel_rfl) (by kernel_rfl) (by kernel_rfl) ?_ (Or.inl ⟨?_, ?_⟩) (by assumption) ?_
            rotate_left 2
            · (simp only [List.getElem?_toArray, List.getElem?_cons_succ, List.getElem?_cons_zero]; rfl)
            · first | exact fun _ _ _ h => h | exact fun _ _ _ h => nomatch h.1
            · rfl
            · (intro W hSW; (try dsimp only at hSW); go_split_ands; first | (go_simp; done) | (go_simp; with_reducible rfl))
            try simp only [Act.put, List.setIfInBounds_toArray, List.set_cons_zero, List.set_cons_succ]
            refine' wpAnyH_take (i := 40) (oi := _) (v := _) ?_ (by kernel_rfl) (by kernel_rfl) (by kernel_rfl) ?_ (Or.inl ⟨?_, ?_⟩) (by assumption) ?_
            rotate_left 2
            · (simp only [List.getElem?_toArray, List.getElem?_cons_succ, List.getElem?_cons_zero]; rfl)
            · first | exact fun _ _ _ h => h | exact fun _ _ _ h => nomatch h.1
            · rfl
            · (intro W hSW; (try dsimp only at hSW); go_split_ands; first | (go_simp; done) | (go_simp; with_reducible rfl))
            try simp only [Act.put, List.setIfInBounds_toArray, List.set_cons_zero, List.set_cons_succ]
            refine' wpAnyH_take (i := 41) (oi := _) (v := _) ?_ (by kernel_rfl) (by kernel_rfl) (by kernel_rfl) ?_ (Or.inl ⟨?_, ?_⟩) (by assumption) ?_
            rotate_left 2
            · (simp only [List.getElem?_toArray, List.getElem?_cons_succ, List.getElem?_cons_zero]; rfl)
            · first | exact fun _ _ _ h => h | exact fun _ _ _ h => nomatch h.1
            · rfl
            · (intro W hSW; (try dsimp only at hSW); go_split_ands; first | (go_simp; done) | (go_simp; with_reducible rfl))
            try simp only [Act.put, List.setIfInBounds_toArray, List.set_cons_zero, List.set_cons_succ]
            clear hHeld
            refine wpAnyH_done (by kernel_rfl) ?_ _
            have x1 : IntKind.i64.wrap (sumR A j : Int) = ((sumR A (j + 1) : Nat) : Int) := by have h1 := HSR.out; simp at h1; rw [h1]; have := HSL.out; rw [IntKind.wrap_i64]; omega
            clear rf hh hof ro f5
            go_wp2_with fail
            refine ⟨⟨j + 1, by omega, by go_num, rfl, HO.out.on hx, hl, chain HC.out hx⟩, by simp only [intOf]; omega⟩
          · have CF := Lib.hid cF
            clear cF
            have hfx : ((x :: r).find? qAll) = some x := rfl
            have CF2 : RowKit.Hid (∀ W, LedW VA W F p A → Ret 30 #[ledP p, oV kk ii gg] W (.tuple #[atV x, .bool true])) := CF
            clear CF
            have yro := ro.cell
            have zro := ro.lt
            go_wp2_with fail
            refine Calls.mono (CF2.out _ hl) ?_
            rintro e V22 ⟨rfl, hn⟩
            clear yro zro
            replace ro := ro.on hn
            replace hl := hl.on hn
            replace hof := hof.on hn
            replace hx := chain hx hn
            clear hn
            have yro := ro.cell
            have zro := ro.lt
            go_upto_region 22 with fail
            clear yro zro
            have rf := Row.new (W := V22) (cs := #[.int .i64 x.at_, .int .i64 x.k, .int .i64 x.i, .int .u32 x.g, .int .i64 x.why, .int .i64 x.ans]) (t := 43)
            have hn := below_alloc V22 (.cells #[.int .i64 x.at_, .int .i64 x.k, .int .i64 x.i, .int .u32 x.g, .int .i64 x.why, .int .i64 x.ans] 43)
            replace ro := ro.on hn
            replace hl := hl.on hn
            replace hof := hof.on hn
            replace hx := chain hx hn
            clear hn
            generalize V22.alloc (.cells #[.int .i64 x.at_, .int .i64 x.k, .int .i64 x.i, .int .u32 x.g, .int .i64 x.why, .int .i64 x.ans] 43) = V23 at *
            generalize V22.heap.size = bf at *
            rcases OwnsA.holds hof with ⟨-, h0⟩ | ⟨g0, o0, c0, rfl, -⟩
            · cases h0
            have hh := OwnsA.holds hof
            have hN0 : 0 < (x :: r).length := by simp
            generalize hNL : (x :: r).length = NL at *
            have HNL := Lib.hid hNL
            clear hNL
            have hN1 : (0 : Int) < (NL : Int) := by omega
            have hN2 : decide ((0 : Int) < (NL : Int)) = true := decide_eq_true hN1
            refine wp_region_held_drew (S := fun W' => (∀ j, W'.cell? ⟨bo, j, none⟩ = (#[.int .i64 kk, .int .i64 ii, .int .u32 gg] : Array Value)[j]?) ∧ (∀ j, W'.cell? ⟨bf, j, none⟩ = (#[.int .i64 x.at_, .int .i64 x.k, .int .i64 x.i, .int .u32 x.g, .int .i64 x.why, .int .i64 x.ans] : Array Value)[j]?) ∧ W'.cell? ⟨g0, o0, none⟩ = some (.int .i64 x.at_) ∧ W'.cell? ⟨g0, o0 + 1, none⟩ = some (.int .i64 x.k) ∧ W'.cell? ⟨g0, o0 + 2, none⟩ = some (.int .i64 x.i) ∧ W'.cell? ⟨g0, o0 + 3, none⟩ = some (.int .u32 x.g) ∧ W'.cell? ⟨g0, o0 + 4, none⟩ = some (.int .i64 x.why) ∧ W'.cell? ⟨g0, o0 + 5, none⟩ = some (.int .i64 x.ans)) (by kernel_rfl) ⟨ro.cell, rf.cell, HoldsA.head hh⟩ (fun hHeld => ?_)
            replace ro := ro.drew
            replace rf := rf.drew
            replace hl := hl.drew
            replace hof := hof.drew
            replace hh := hh.drew
            replace hx := hx.drew
            generalize V23.drew = VD at *
            have f5 := neq_at x x
            rw [decide_eq_true (rfl : x = x)] at f5
            have F5 := Lib.hid f5
            clear f5
            refine' wpAnyH_take (i := 0) (oi := _) (v := _) ?_ (by kernel_rfl) (by kernel_rfl) (by kernel_rfl) ?_ (Or.inl ⟨?_, ?_⟩) (by assumption) ?_
            rotate_left 2
            · (simp only [List.getElem?_toArray, List.getElem?_cons_succ, List.getElem?_cons_zero]; rfl)
            · first | exact fun _ _ _ h => h | exact fun _ _ _ h => nomatch h.1
            · rfl
            · (intro W hSW; (try dsimp only at hSW); go_split_ands; first | (go_simp; done) | (go_simp; with_reducible rfl))
            try simp only [Act.put, List.setIfInBounds_toArray, List.set_cons_zero, List.set_cons_succ]
            refine' wpAnyH_take (i := 1) (oi := _) (v := _) ?_ (by kernel_rfl) (by kernel_rfl) (by kernel_rfl) ?_ (Or.inl ⟨?_, ?_⟩) (by assumption) ?_
            rotate_left 2
            · (simp only [List.getElem?_toArray, List.getElem?_cons_succ, List.getElem?_cons_zero]; rfl)
            · first | exact fun _ _ _ h => h | exact fun _ _ _ h => nomatch h.1
            · rfl
            · (intro W hSW; (try dsimp only at hSW); go_split_ands; first | (go_simp; done) | (go_simp; with_reducible rfl))
            try simp only [Act.put, List.setIfInBounds_toArray, List.set_cons_zero, List.set_cons_succ]
            refine' wpAnyH_take (i := 3) (oi := _) (v := _) ?_ (by kernel_rfl) (by kernel_rfl) (by kernel_rfl) ?_ (Or.inl ⟨?_, ?_⟩) (by assumption) ?_
            rotate_left 2
            · (simp only [List.getElem?_toArray, List.getElem?_cons_succ, List.getElem?_cons_zero]; rfl)
            · first | exact fun _ _ _ h => h | exact fun _ _ _ h => nomatch h.1
            · rfl
            · (intro W hSW; (try dsimp only at hSW); go_split_ands; first | (go_simp; done) | (go_simp; with_reducible rfl))
            try simp only [Act.put, List.setIfInBounds_toArray, List.set_cons_zero, List.set_cons_succ]
            clear hHeld
            refine wpAnyH_ready (rs := [2]) (by kernel_rfl) (by simp) ?_
            refine' AllReadyH.cons (o := _) ?_ (fun K hK => ?_) AllReadyH.nil
            rotate_left 1
            · (simp only [List.getElem?_toArray, List.getElem?_cons_succ, List.getElem?_cons_zero]; rfl)
            go_simp
            refine Calls.mono (CO.out _ hl) ?_
            rintro e VE ⟨uO, rfl, hO, hn⟩
            replace ro := ro.on hn
            replace rf := rf.on hn
            replace hl := hl.on hn
            replace hof := hof.on hn
            replace hh := hh.on hn
            replace hx := chain hx hn
            clear hn
            go_simp
            refine hK.out _ _ ⟨ro.cell, rf.cell, HoldsA.head hh⟩ (fun hHeld => ?_)
            clear hK K hHeld
            refine wpAnyH_ready (rs := [4]) (by kernel_rfl) (by simp) ?_
            refine' AllReadyH.cons (o := _) ?_ (fun K hK => ?_) AllReadyH.nil
            rotate_left 1
            · (simp only [List.getElem?_toArray, List.getElem?_cons_succ, List.getElem?_cons_zero]; rfl)
            go_simp
            refine Calls.mono (equal_same _ _ _ _ (OwnsA.holds hO) hh (by rw [HNL.out]; omega)) ?_
            rintro e VG ⟨rfl, hn⟩
            replace ro := ro.on hn
            replace rf := rf.on hn
            replace hl := hl.on hn
            replace hof := hof.on hn
            replace hh := hh.on hn
            replace hx := chain hx hn
            clear hn
            go_simp
            refine hK.out _ _ ⟨ro.cell, rf.cell, HoldsA.head hh⟩ (fun hHeld => ?_)
            clear hK K
            have f5 := F5.out
            refine' wpAnyH_take (i := 5) (oi := _) (v := _) ?_ (by kernel_rfl) (by kernel_rfl) (by kernel_rfl) ?_ (Or.inl ⟨?_, ?_⟩) (by assumption) ?_
            rotate_left 2
            · (simp only [List.getElem?_toArray, List.getElem?_cons_succ, List.getElem?_cons_zero]; rfl)
            · first | exact fun _ _ _ h => h | exact fun _ _ _ h => nomatch h.1
            · rfl
            · (intro W hSW; (try dsimp only at hSW); go_split_ands; first | (go_simp; done) | (go_simp; with_reducible rfl))
            try simp only [Act.put, List.setIfInBounds_toArray, List.set_cons_zero, List.set_cons_succ]
            refine' wpAnyH_take (i := 6) (oi := _) (v := _) ?_ (by kernel_rfl) (by kernel_rfl) (by kernel_rfl) ?_ (Or.inl ⟨?_, ?_⟩) (by assumption) ?_
            rotate_left 2
            · (simp only [List.getElem?_toArray, List.getElem?_cons_succ, List.getElem?_cons_zero]; rfl)
            · first | exact fun _ _ _ h => h | exact fun _ _ _ h => nomatch h.1
            · rfl
            · (intro W hSW; (try dsimp only at hSW); go_split_ands; first | (go_simp; done) | (go_simp; with_reducible rfl))
            try simp only [Act.put, List.setIfInBounds_toArray, List.set_cons_zero, List.set_cons_succ]
            refine' wpAnyH_take (i := 7) (oi := _) (v := _) ?_ (by kernel_rfl) (by kernel_rfl) (by kernel_rfl) ?_ (Or.inl ⟨?_, ?_⟩) (by assumption) ?_
            rotate_left 2
            · (simp only [List.getElem?_toArray, List.getElem?_cons_succ, List.getElem?_cons_zero]; rfl)
            · first | exact fun _ _ _ h => h | exact fun _ _ _ h => nomatch h.1
            · rfl
            · (intro W hSW; (try dsimp only at hSW); go_split_ands; first | (go_simp; done) | (go_simp; with_reducible rfl))
            try simp only [Act.put, List.setIfInBounds_toArray, List.set_cons_zero, List.set_cons_succ]
            refine' wpAnyH_take (i := 8) (oi := _) (v := _) ?_ (by kernel_rfl) (by kernel_rfl) (by kernel_rfl) ?_ (Or.inl ⟨?_, ?_⟩) (by assumption) ?_
            rotate_left 2
            · (simp only [List.getElem?_toArray, List.getElem?_cons_succ, List.getElem?_cons_zero]; rfl)
            · first | exact fun _ _ _ h => h | exact fun _ _ _ h => nomatch h.1
            · rfl
            · (intro W hSW; (try dsimp only at hSW); go_split_ands; first | (go_simp; done) | (go_simp; with_reducible rfl))
            try simp only [Act.put, List.setIfInBounds_toArray, List.set_cons_zero, List.set_cons_succ]
            refine' wpAnyH_take (i := 9) (oi := _) (v := _) ?_ (by kernel_rfl) (by kernel_rfl) (by kernel_rfl) ?_ (Or.inl ⟨?_, ?_⟩) (by assumption) ?_
            rotate_left 2
            · (simp only [List.getElem?_toArray, List.getElem?_cons_succ, List.getElem?_cons_zero]; rfl)
            · first | exact fun _ _ _ h => h | exact fun _ _ _ h => nomatch h.1
            · rfl
            · (intro W hSW; (try dsimp only at hSW); go_split_ands; first | (go_simp; done) | (go_simp; with_reducible rfl))
            try simp only [Act.put, List.setIfInBounds_toArray, List.set_cons_zero, List.set_cons_succ]
            refine' wpAnyH_take (i := 10) (oi := _) (v := _) ?_ (by kernel_rfl) (by kernel_rfl) (by kernel_rfl) ?_ (Or.inl ⟨?_, ?_⟩) (by assumption) ?_
            rotate_left 2
            · (simp only [List.getElem?_toArray, List.getElem?_cons_succ, List.getElem?_cons_zero]; rfl)
            · first | exact fun _ _ _ h => h | exact fun _ _ _ h => nomatch h.1
            · rfl
            · (intro W hSW; (try dsimp only at hSW); go_split_ands; first | (go_simp; done) | (go_simp; with_reducible rfl))
            try simp only [Act.put, List.setIfInBounds_toArray, List.set_cons_zero, List.set_cons_succ]
            refine' wpAnyH_take (i := 11) (oi := _) (v := _) ?_ (by kernel_rfl) (by kernel_rfl) (by kernel_rfl) ?_ (Or.inl ⟨?_, ?_⟩) (by assumption) ?_
            rotate_left 2
            · (simp only [List.getElem?_toArray, List.getElem?_cons_succ, List.getElem?_cons_zero]; rfl)
            · first | exact fun _ _ _ h => h | exact fun _ _ _ h => nomatch h.1
            · rfl
            · (intro W hSW; (try dsimp only at hSW); go_split_ands; first | (go_simp; done) | (go_simp; with_reducible rfl))
            try simp only [Act.put, List.setIfInBounds_toArray, List.set_cons_zero, List.set_cons_succ]
            refine' wpAnyH_take (i := 12) (oi := _) (v := _) ?_ (by kernel_rfl) (by kernel_rfl) (by kernel_rfl) ?_ (Or.inl ⟨?_, ?_⟩) (by assumption) ?_
            rotate_left 2
            · (simp only [List.getElem?_toArray, List.getElem?_cons_succ, List.getElem?_cons_zero]; rfl)
            · first | exact fun _ _ _ h => h | exact fun _ _ _ h => nomatch h.1
            · rfl
            · (intro W hSW; (try dsimp only at hSW); go_split_ands; first | (go_simp; done) | (go_simp; with_reducible rfl))
            try simp only [Act.put, List.setIfInBounds_toArray, List.set_cons_zero, List.set_cons_succ]
            refine' wpAnyH_take (i := 13) (oi := _) (v := _) ?_ (by kernel_rfl) (by kernel_rfl) (by kernel_rfl) ?_ (Or.inl ⟨?_, ?_⟩) (by assumption) ?_
            rotate_left 2
            · (simp only [List.getElem?_toArray, List.getElem?_cons_succ, List.getElem?_cons_zero]; rfl)
            · first | exact fun _ _ _ h => h | exact fun _ _ _ h => nomatch h.1
            · rfl
            · (intro W hSW; (try dsimp only at hSW); go_split_ands; first | (go_simp; done) | (go_simp; with_reducible rfl))
            try simp only [Act.put, List.setIfInBounds_toArray, List.set_cons_zero, List.set_cons_succ]
            refine' wpAnyH_take (i := 14) (oi := _) (v := _) ?_ (by kernel_rfl) (by kernel_rfl) (by kernel_rfl) ?_ (Or.inl ⟨?_, ?_⟩) (by assumption) ?_
            rotate_left 2
            · (simp only [List.getElem?_toArray, List.getElem?_cons_succ, List.getElem?_cons_zero]; rfl)
            · first | exact fun _ _ _ h => h | exact fun _ _ _ h => nomatch h.1
            · rfl
            · (intro W hSW; (try dsimp only at hSW); go_split_ands; first | (go_simp; done) | (go_simp; with_reducible rfl))
            try simp only [Act.put, List.setIfInBounds_toArray, List.set_cons_zero, List.set_cons_succ]
            refine' wpAnyH_take (i := 15) (oi := _) (v := _) ?_ (by kernel_rfl) (by kernel_rfl) (by kernel_rfl) ?_ (Or.inl ⟨?_, ?_⟩) (by assumption) ?_
            rotate_left 2
            · (simp only [List.getElem?_toArray, List.getElem?_cons_succ, List.getElem?_cons_zero]; rfl)
            · first | exact fun _ _ _ h => h | exact fun _ _ _ h => nomatch h.1
            · rfl
            · (intro W hSW; (try dsimp only at hSW); go_split_ands; first | (go_simp; done) | (go_simp; with_reducible rfl))
            try simp only [Act.put, List.setIfInBounds_toArray, List.set_cons_zero, List.set_cons_succ]
            refine' wpAnyH_take (i := 16) (oi := _) (v := _) ?_ (by kernel_rfl) (by kernel_rfl) (by kernel_rfl) ?_ (Or.inl ⟨?_, ?_⟩) (by assumption) ?_
            rotate_left 2
            · (simp only [List.getElem?_toArray, List.getElem?_cons_succ, List.getElem?_cons_zero]; rfl)
            · first | exact fun _ _ _ h => h | exact fun _ _ _ h => nomatch h.1
            · rfl
            · (intro W hSW; (try dsimp only at hSW); go_split_ands; first | (go_simp; done) | (go_simp; with_reducible rfl))
            try simp only [Act.put, List.setIfInBounds_toArray, List.set_cons_zero, List.set_cons_succ]
            refine' wpAnyH_take (i := 17) (oi := _) (v := _) ?_ (by kernel_rfl) (by kernel_rfl) (by kernel_rfl) ?_ (Or.inl ⟨?_, ?_⟩) (by assumption) ?_
            rotate_left 2
            · (simp only [List.getElem?_toArray, List.getElem?_cons_succ, List.getElem?_cons_zero]; rfl)
            · first | exact fun _ _ _ h => h | exact fun _ _ _ h => nomatch h.1
            · rfl
            · (intro W hSW; (try dsimp only at hSW); go_split_ands; first | (go_simp; done) | (go_simp; with_reducible rfl))
            try simp only [Act.put, List.setIfInBounds_toArray, List.set_cons_zero, List.set_cons_succ]
            refine' wpAnyH_take (i := 18) (oi := _) (v := _) ?_ (by kernel_rfl) (by kernel_rfl) (by kernel_rfl) ?_ (Or.inl ⟨?_, ?_⟩) (by assumption) ?_
            rotate_left 2
            · (simp only [List.getElem?_toArray, List.getElem?_cons_succ, List.getElem?_cons_zero]; rfl)
            · first | exact fun _ _ _ h => h | exact fun _ _ _ h => nomatch h.1
            · rfl
            · (intro W hSW; (try dsimp only at hSW); go_split_ands; first | (go_simp; done) | (go_simp; with_reducible rfl))
            try simp only [Act.put, List.setIfInBounds_toArray, List.set_cons_zero, List.set_cons_succ]
            refine' wpAnyH_take (i := 19) (oi := _) (v := _) ?_ (by kernel_rfl) (by kernel_rfl) (by kernel_rfl) ?_ (Or.inl ⟨?_, ?_⟩) (by assumption) ?_
            rotate_left 2
            · (simp only [List.getElem?_toArray, List.getElem?_cons_succ, List.getElem?_cons_zero]; rfl)
            · first | exact fun _ _ _ h => h | exact fun _ _ _ h => nomatch h.1
            · rfl
            · (intro W hSW; (try dsimp only at hSW); go_split_ands; first | (go_simp; done) | (go_simp; with_reducible rfl))
            try simp only [Act.put, List.setIfInBounds_toArray, List.set_cons_zero, List.set_cons_succ]
            refine' wpAnyH_take (i := 20) (oi := _) (v := _) ?_ (by kernel_rfl) (by kernel_rfl) (by kernel_rfl) ?_ (Or.inl ⟨?_, ?_⟩) (by assumption) ?_
            rotate_left 2
            · (simp only [List.getElem?_toArray, List.getElem?_cons_succ, List.getElem?_cons_zero]; rfl)
            · first | exact fun _ _ _ h => h | exact fun _ _ _ h => nomatch h.1
            · rfl
            · (intro W hSW; (try dsimp only at hSW); go_split_ands; first | (go_simp; done) | (go_simp; with_reducible rfl))
            try simp only [Act.put, List.setIfInBounds_toArray, List.set_cons_zero, List.set_cons_succ]
            refine' wpAnyH_take (i := 21) (oi := _) (v := _) ?_ (by kernel_rfl) (by kernel_rfl) (by kernel_rfl) ?_ (Or.inl ⟨?_, ?_⟩) (by assumption) ?_
            rotate_left 2
            · (simp only [List.getElem?_toArray, List.getElem?_cons_succ, List.getElem?_cons_zero]; rfl)
            · first | exact fun _ _ _ h => h | exact fun _ _ _ h => nomatch h.1
            · rfl
            · (intro W hSW; (try dsimp only at hSW); go_split_ands; first | (go_simp; done) | (go_simp; with_reducible rfl))
            try simp only [Act.put, List.setIfInBounds_toArray, List.set_cons_zero, List.set_cons_succ]
            refine' wpAnyH_take (i := 22) (oi := _) (v := _) ?_ (by kernel_rfl) (by kernel_rfl) (by kernel_rfl) ?_ (Or.inl ⟨?_, ?_⟩) (by assumption) ?_
            rotate_left 2
            · (simp only [List.getElem?_toArray, List.getElem?_cons_succ, List.getElem?_cons_zero]; rfl)
            · first | exact fun _ _ _ h => h | exact fun _ _ _ h => nomatch h.1
            · rfl
            · (intro W hSW; (try dsimp only at hSW); go_split_ands; first | (go_simp; done) | (go_simp; with_reducible rfl))
            try simp only [Act.put, List.setIfInBounds_toArray, List.set_cons_zero, List.set_cons_succ]
            refine' wpAnyH_take (i := 23) (oi := _) (v := _) ?_ (by kernel_rfl) (by kernel_rfl) (by kernel_rfl) ?_ (Or.inl ⟨?_, ?_⟩) (by assumption) ?_
            rotate_left 2
            · (simp only [List.getElem?_toArray, List.getElem?_cons_succ, List.getElem?_cons_zero]; rfl)
            · first | exact fun _ _ _ h => h | exact fun _ _ _ h => nomatch h.1
            · rfl
            · (intro W hSW; (try dsimp only at hSW); go_split_ands; first | (go_simp; done) | (go_simp; with_reducible rfl))
            try simp only [Act.put, List.setIfInBounds_toArray, List.set_cons_zero, List.set_cons_succ]
            refine' wpAnyH_take (i := 24) (oi := _) (v := _) ?_ (by kernel_rfl) (by kernel_rfl) (by kernel_rfl) ?_ (Or.inl ⟨?_, ?_⟩) (by assumption) ?_
            rotate_left 2
            · (simp only [List.getElem?_toArray, List.getElem?_cons_succ, List.getElem?_cons_zero]; rfl)
            · first | exact fun _ _ _ h => h | exact fun _ _ _ h => nomatch h.1
            · rfl
            · (intro W hSW; (try dsimp only at hSW); go_split_ands; first | (go_simp; done) | (go_simp; with_reducible rfl))
            try simp only [Act.put, List.setIfInBounds_toArray, List.set_cons_zero, List.set_cons_succ]
            refine' wpAnyH_take (i := 25) (oi := _) (v := _) ?_ (by kernel_rfl) (by kernel_rfl) (by kernel_rfl) ?_ (Or.inl ⟨?_, ?_⟩) (by assumption) ?_
            rotate_left 2
            · (simp only [List.getElem?_toArray, List.getElem?_cons_succ, List.getElem?_cons_zero]; rfl)
            · first | exact fun _ _ _ h => h | exact fun _ _ _ h => nomatch h.1
            · rfl
            · (intro W hSW; (try dsimp only at hSW); go_split_ands; first | (go_simp; done) | (go_simp; with_reducible rfl))
            try simp only [Act.put, List.setIfInBounds_toArray, List.set_cons_zero, List.set_cons_succ]
            refine' wpAnyH_take (i := 26) (oi := _) (v := _) ?_ (by kernel_rfl) (by kernel_rfl) (by kernel_rfl) ?_ (Or.inl ⟨?_, ?_⟩) (by assumption) ?_
            rotate_left 2
            · (simp only [List.getElem?_toArray, List.getElem?_cons_succ, List.getElem?_cons_zero]; rfl)
            · first | exact fun _ _ _ h => h | exact fun _ _ _ h => nomatch h.1
            · rfl
            · (intro W hSW; (try dsimp only at hSW); go_split_ands; first | (go_simp; done) | (go_simp; with_reducible rfl))
            try simp only [Act.put, List.setIfInBounds_toArray, List.set_cons_zero, List.set_cons_succ]
            refine' wpAnyH_take (i := 27) (oi := _) (v := _) ?_ (by kernel_rfl) (by kernel_rfl) (by kernel_rfl) ?_ (Or.inl ⟨?_, ?_⟩) (by assumption) ?_
            rotate_left 2
            · (simp only [List.getElem?_toArray, List.getElem?_cons_succ, List.getElem?_cons_zero]; rfl)
            · first | exact fun _ _ _ h => h | exact fun _ _ _ h => nomatch h.1
            · rfl
            · (intro W hSW; (try dsimp only at hSW); go_split_ands; first | (go_simp; done) | (go_simp; with_reducible rfl))
            try simp only [Act.put, List.setIfInBounds_toArray, List.set_cons_zero, List.set_cons_succ]
            refine' wpAnyH_take (i := 28) (oi := _) (v := _) ?_ (by kernel_rfl) (by kernel_rfl) (by kernel_rfl) ?_ (Or.inl ⟨?_, ?_⟩) (by assumption) ?_
            rotate_left 2
            · (simp only [List.getElem?_toArray, List.getElem?_cons_succ, List.getElem?_cons_zero]; rfl)
            · first | exact fun _ _ _ h => h | exact fun _ _ _ h => nomatch h.1
            · rfl
            · (intro W hSW; (try dsimp only at hSW); go_split_ands; first | (go_simp; done) | (go_simp; with_reducible rfl))
            try simp only [Act.put, List.setIfInBounds_toArray, List.set_cons_zero, List.set_cons_succ]
            refine' wpAnyH_take (i := 29) (oi := _) (v := _) ?_ (by kernel_rfl) (by kernel_rfl) (by kernel_rfl) ?_ (Or.inl ⟨?_, ?_⟩) (by assumption) ?_
            rotate_left 2
            · (simp only [List.getElem?_toArray, List.getElem?_cons_succ, List.getElem?_cons_zero]; rfl)
            · first | exact fun _ _ _ h => h | exact fun _ _ _ h => nomatch h.1
            · rfl
            · (intro W hSW; (try dsimp only at hSW); go_split_ands; first | (go_simp; done) | (go_simp; with_reducible rfl))
            try simp only [Act.put, List.setIfInBounds_toArray, List.set_cons_zero, List.set_cons_succ]
            refine' wpAnyH_take (i := 30) (oi := _) (v := _) ?_ (by kernel_rfl) (by kernel_rfl) (by kernel_rfl) ?_ (Or.inl ⟨?_, ?_⟩) (by assumption) ?_
            rotate_left 2
            · (simp only [List.getElem?_toArray, List.getElem?_cons_succ, List.getElem?_cons_zero]; rfl)
            · first | exact fun _ _ _ h => h | exact fun _ _ _ h => nomatch h.1
            · rfl
            · (intro W hSW; (try dsimp only at hSW); go_split_ands; first | (go_simp; done) | (go_simp; with_reducible rfl))
            try simp only [Act.put, List.setIfInBounds_toArray, List.set_cons_zero, List.set_cons_succ]
            refine' wpAnyH_take (i := 31) (oi := _) (v := _) ?_ (by kernel_rfl) (by kernel_rfl) (by kernel_rfl) ?_ (Or.inl ⟨?_, ?_⟩) (by assumption) ?_
            rotate_left 2
            · (simp only [List.getElem?_toArray, List.getElem?_cons_succ, List.getElem?_cons_zero]; rfl)
            · first | exact fun _ _ _ h => h | exact fun _ _ _ h => nomatch h.1
            · rfl
            · (intro W hSW; (try dsimp only at hSW); go_split_ands; first | (go_simp; done) | (go_simp; with_reducible rfl))
            try simp only [Act.put, List.setIfInBounds_toArray, List.set_cons_zero, List.set_cons_succ]
            refine' wpAnyH_take (i := 32) (oi := _) (v := _) ?_ (by kernel_rfl) (by kernel_rfl) (by kernel_rfl) ?_ (Or.inl ⟨?_, ?_⟩) (by assumption) ?_
            rotate_left 2
            · (simp only [List.getElem?_toArray, List.getElem?_cons_succ, List.getElem?_cons_zero]; rfl)
            · first | exact fun _ _ _ h => h | exact fun _ _ _ h => nomatch h.1
            · rfl
            · (intro W hSW; (try dsimp only at hSW); go_split_ands; first | (go_simp; done) | (go_simp; with_reducible rfl))
            try simp only [Act.put, List.setIfInBounds_toArray, List.set_cons_zero, List.set_cons_succ]
            refine' wpAnyH_take (i := 33) (oi := _) (v := _) ?_ (by kernel_rfl) (by kernel_rfl) (by kernel_rfl) ?_ (Or.inl ⟨?_, ?_⟩) (by assumption) ?_
            rotate_left 2
            · (simp only [List.getElem?_toArray, List.getElem?_cons_succ, List.getElem?_cons_zero]; rfl)
            · first | exact fun _ _ _ h => h | exact fun _ _ _ h => nomatch h.1
            · rfl
            · (intro W hSW; (try dsimp only at hSW); go_split_ands; first | (go_simp; done) | (go_simp; with_reducible rfl))
            try simp only [Act.put, List.setIfInBounds_toArray, List.set_cons_zero, List.set_cons_succ]
            refine' wpAnyH_take (i := 34) (oi := _) (v := _) ?_ (by kernel_rfl) (by kernel_rfl) (by kernel_rfl) ?_ (Or.inl ⟨?_, ?_⟩) (by assumption) ?_
            rotate_left 2
            · (simp only [List.getElem?_toArray, List.getElem?_cons_succ, List.getElem?_cons_zero]; rfl)
            · first | exact fun _ _ _ h => h | exact fun _ _ _ h => nomatch h.1
            · rfl
            · (intro W hSW; (try dsimp only at hSW); go_split_ands; first | (go_simp; done) | (go_simp; with_reducible rfl))
            try simp only [Act.put, List.setIfInBounds_toArray, List.set_cons_zero, List.set_cons_succ]
            refine' wpAnyH_take (i := 35) (oi := _) (v := _) ?_ (by kernel_rfl) (by kernel_rfl) (by kernel_rfl) ?_ (Or.inl ⟨?_, ?_⟩) (by assumption) ?_
            rotate_left 2
            · (simp only [List.getElem?_toArray, List.getElem?_cons_succ, List.getElem?_cons_zero]; rfl)
            · first | exact fun _ _ _ h => h | exact fun _ _ _ h => nomatch h.1
            · rfl
            · (intro W hSW; (try dsimp only at hSW); go_split_ands; first | (go_simp; done) | (go_simp; with_reducible rfl))
            try simp only [Act.put, List.setIfInBounds_toArray, List.set_cons_zero, List.set_cons_succ]
            refine' wpAnyH_take (i := 36) (oi := _) (v := _) ?_ (by kernel_rfl) (by kernel_rfl) (by kernel_rfl) ?_ (Or.inl ⟨?_, ?_⟩) (by assumption) ?_
            rotate_left 2
            · (simp only [List.getElem?_toArray, List.getElem?_cons_succ, List.getElem?_cons_zero]; rfl)
            · first | exact fun _ _ _ h => h | exact fun _ _ _ h => nomatch h.1
            · rfl
            · (intro W hSW; (try dsimp only at hSW); go_split_ands; first | (go_simp; done) | (go_simp; with_reducible rfl))
            try simp only [Act.put, List.setIfInBounds_toArray, List.set_cons_zero, List.set_cons_succ]
            refine' wpAnyH_take (i := 37) (oi := _) (v := _) ?_ (by kernel_rfl) (by kernel_rfl) (by kernel_rfl) ?_ (Or.inr ⟨?_, rfl⟩) (by assumption) ?_
            rotate_left 1
            · (simp only [List.getElem?_toArray, List.getElem?_cons_succ, List.getElem?_cons_zero]; rfl)
            · first | exact fun _ _ _ h => h | exact fun _ _ _ h => nomatch h.1
            · rfl
            try simp only [Act.put, List.setIfInBounds_toArray, List.set_cons_zero, List.set_cons_succ]
            refine' wpAnyH_take (i := 38) (oi := _) (v := _) ?_ (by kernel_rfl) (by kernel_rfl) (by kernel_rfl) ?_ (Or.inr ⟨?_, rfl⟩) (by assumption) ?_
            rotate_left 1
            · (simp only [List.getElem?_toArray, List.getElem?_cons_succ, List.getElem?_cons_zero]; rfl)
            · first | exact fun _ _ _ h => h | exact fun _ _ _ h => nomatch h.1
            · rfl
            try simp only [Act.put, List.setIfInBounds_toArray, List.set_cons_zero, List.set_cons_succ]
            refine' wpAnyH_take (i := 39) (oi := _) (v := _) ?_ (by kernel_rfl) (by kernel_rfl) (by kernel_rfl) ?_ (Or.inr ⟨?_, rfl⟩) (by assumption) ?_
            rotate_left 1
            · (simp only [List.getElem?_toArray, List.getElem?_cons_succ, List.getElem?_cons_zero]; rfl)
            · first | exact fun _ _ _ h => h | exact fun _ _ _ h => nomatch h.1
            · rfl
            try simp only [Act.put, List.setIfInBounds_toArray, List.set_cons_zero, List.set_cons_succ]
            refine' wpAnyH_take (i := 40) (oi := _) (v := _) ?_ (by kernel_rfl) (by kernel_rfl) (by kernel_rfl) ?_ (Or.inl ⟨?_, ?_⟩) (by assumption) ?_
            rotate_left 2
            · (simp only [List.getElem?_toArray, List.getElem?_cons_succ, List.getElem?_cons_zero]; rfl)
            · first | exact fun _ _ _ h => h | exact fun _ _ _ h => nomatch h.1
            · rfl
            · (intro W hSW; (try dsimp only at hSW); go_split_ands; first | (go_simp; done) | (go_simp; with_reducible rfl))
            try simp only [Act.put, List.setIfInBounds_toArray, List.set_cons_zero, List.set_cons_succ]
            refine' wpAnyH_take (i := 41) (oi := _) (v := _) ?_ (by kernel_rfl) (by kernel_rfl) (by kernel_rfl) ?_ (Or.inl ⟨?_, ?_⟩) (by assumption) ?_
            rotate_left 2
            · (simp only [List.getElem?_toArray, List.getElem?_cons_succ, List.getElem?_cons_zero]; rfl)
            · first | exact fun _ _ _ h => h | exact fun _ _ _ h => nomatch h.1
            · rfl
            · (intro W hSW; (try dsimp only at hSW); go_split_ands; first | (go_simp; done) | (go_simp; with_reducible rfl))
            try simp only [Act.put, List.setIfInBounds_toArray, List.set_cons_zero, List.set_cons_succ]
            clear hHeld
            refine wpAnyH_done (by kernel_rfl) ?_ _
            have x1 : IntKind.i64.wrap ((sumR A j : Int) + (NL : Int)) = ((sumR A (j + 1) : Nat) : Int) := by have h1 := HSR.out; have h2 := HSL.out; rw [IntKind.wrap_i64]; omega
            clear rf hh hof ro f5
            go_wp2_with fail
            refine ⟨⟨j + 1, by omega, by go_num, rfl, HO.out.on hx, hl, chain HC.out hx⟩, by simp only [intOf]; omega⟩
    · obtain rfl : j = 12 := by omega
      have e1 : (((sumR A 12 : Nat) : Int) == (A.length : Int)) = true := by rw [HSUM.out]; simp
      go_wp2_with fail
      refine Calls.mono (works _ (HE.out.on hc)) ?_
      rintro e VZ ⟨rfl, hn⟩
      replace hc := chain hc hn
      go_wp2_with fail
      go_returns
      exact ⟨rfl, hc⟩
end Go.Proofs.YtinlfheonlpceaaGreatDoor
