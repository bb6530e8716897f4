/- OpKinds walked. -/
import Derived.Test.YtbbleafcflhmiaaGreatDoorHMade39
import Derived.Test.YtbbleafcflhmiaaGreatDoorHWorks39
import Derived.Test.YtbbleafcflhmiaaGreatDoorL2a
import Derived.Test.YtbbleafcflhmiaaGreatDoorL0b
import Derived.Deep.DeepCutAuto
import Derived.Deep.CutBlock
import Derived.Laws.IdiomStrings
namespace Go.Proofs.YtbbleafcflhmiaaGreatDoor
open Go.RowKit
set_option linter.unusedVariables false
set_option linter.unusedSimpArgs false
set_option maxHeartbeats 40000000
set_option maxRecDepth 20000
theorem conv_one (W : World) (b : Nat) (c : UInt8) (h : Row W b #[.int .u8 (c.toNat : Int)] 5) : (convert 37 9 (.slice (some ⟨b, 0, none⟩) 1 1)).run Tryz.prog W = .ok (.string ⟨#[c]⟩) W :=
  run_convert_bytes_back W 37 9 5 ⟨b, 0, none⟩ 1 [c] Tryz.underlying37 Tryz.underlying5 Tryz.underlying9 (fun j hj => by
    obtain rfl : j = 0 := by simpa using hj
    exact h.cell 0)
theorem kinds_walk (k m t a b c kd : Int) (w : World) (hE : EnvL w) (k0 : 0 ≤ k) (k1 : k ≤ 255) (m0 : 0 ≤ m) (m1 : m ≤ 255) (t0 : 0 ≤ t) (t1 : t ≤ 255) (a0 : 0 ≤ a) (a1 : a ≤ 4294967295) (b0 : 0 ≤ b) (b1 : b ≤ 4294967295) (c0 : 0 ≤ c) (c1 : c ≤ 4294967295) :
    Ret 3 #[.agg #[.int .u8 k, .int .u8 m, .int .u8 t, .int .u32 a, .int .u32 b, .int .u32 c], .int .i64 kd] w (.bool true) := by
  have MC := Lib.hid (fun W => made_c k m t a b c W k0 k1 m0 m1 t0 t1 a0 a1 b0 b1 c0 c1)
  have HE := Lib.hid hE
  obtain ⟨i0, hi, hz0, hz1, hz2⟩ := info_parts str_info
  have HI0 := Lib.hid hi
  have HZ0 := Lib.hid hz0
  have HZ1 := Lib.hid hz1
  have HZ2 := Lib.hid hz2
  clear hE k0 k1 m0 m1 t0 t1 a0 a1 b0 b1 c0 c1 hi hz0 hz1 hz2
  have hc := Below.refl w.heap.size w
  go_enter Tryz.func3, Tryz.ntmps3
  go_upto_region 1 with fail
  have r2 := Row.new (W := w) (cs := #[.int .u8 k, .int .u8 m, .int .u8 t, .int .u32 a, .int .u32 b, .int .u32 c]) (t := 24)
  have hn := below_alloc w (.cells #[.int .u8 k, .int .u8 m, .int .u8 t, .int .u32 a, .int .u32 b, .int .u32 c] 24)
  have wr2 : w.heap.size ≤ w.heap.size := hc.size
  replace hc := chain hc hn
  clear hn
  generalize w.alloc (.cells #[.int .u8 k, .int .u8 m, .int .u8 t, .int .u32 a, .int .u32 b, .int .u32 c] 24) = V1 at r2 hc ⊢
  have yr2 := r2.cell
  have zr2 := r2.lt
  go_wp2_with fail
  clear yr2 zr2
  go_loopw [5, 6] (fun ov iv wr => ∃ i : Nat, i ≤ 17 ∧ iv = .int .i64 ((i : Int) + 1) ∧ OwnsS (w.heap.size + 1) wr ov (wordsTo i) ∧ Row wr w.heap.size #[.int .u8 k, .int .u8 m, .int .u8 t, .int .u32 a, .int .u32 b, .int .u32 c] 24 ∧ Below w.heap.size w wr) (fun _ iv _ => 18 - (intOf iv).toNat)
  case atStart => exact ⟨0, by omega, rfl, World.ownsRow_nil _ _ _ _, r2, hc⟩
  case round =>
    clear r2 hc
    obtain ⟨i, hi17, rfl, ho, r2, hc⟩ := hrel
    by_cases hlt : i < 17
    · have cw := fun W => word_c ((i : Int) + 1) W
      have cm := fun W => mut_c ((i : Int) + 1) W
      have h32 := (words_ne i hlt).2.1
      rw [← word_of_nat i hlt] at h32
      have hne : (wordB ((i : Int) + 1)).toList.isEmpty = false := by rw [wordB_l, word_of_nat i hlt]; cases hh : wOf i with | nil => exact absurd hh (words_ne i hlt).1 | cons x y => rfl
      have hsz : (wordB ((i : Int) + 1)).size ≤ 10 := by have h := (words_ne i hlt).2.2; rw [← word_of_nat i hlt, ← wordB_l, ByteArray.toList_eq, len_bytes] at h; exact h
      have ct := fun W (hW : EnvL W) => contains_sp (wordB ((i : Int) + 1)) W hW.shp (by omega) (by rw [← ByteArray.toList_eq, wordB_l]; exact h32)
      have ci := fun v W hv => containsS_no v (wordsTo i) (wordB ((i : Int) + 1)) (w.heap.size + 1) W hv (by rw [wordsTo_len]; omega) (word_new i hlt)
      have hsucc := wordsTo_succ i
      have hl1 := wordsTo_len i
      have hin : inB ((i : Int) + 1) 1 12 = decide ((i : Int) + 1 ≤ 12) := by unfold inB; rw [decide_eq_true (show (1 : Int) ≤ (i : Int) + 1 by omega), Bool.true_and]
      rw [hin] at cm
      generalize wordB ((i : Int) + 1) = wd at *
      have CW := Lib.hid cw
      have CM := Lib.hid cm
      have CT := Lib.hid ct
      have CI := Lib.hid ci
      have HSUCC := Lib.hid hsucc
      clear cw cm ct ci hsucc h32 hin hsz
      generalize wordsTo i = ws at *
      have HL1 := Lib.hid (Nat.le_of_eq hl1)
      have HL2 := Lib.hid (Nat.le_of_eq hl1.symm)
      clear hl1
      obtain ⟨g0, c0, rfl⟩ := ownsRow_len ho
      have HO := Lib.hid ho
      clear ho
      have x1 : wrap64 ((i : Int) + 1 + 1) = (i : Int) + 1 + 1 := IntWalk.wrap64_in _ ⟨by omega, by omega⟩
      go_wp2_with fail
      refine Calls.mono (CW.out _) ?_
      rintro e V6 ⟨rfl, hn⟩
      replace HO := Lib.hid (HO.out.on hn)
      replace r2 := r2.on hn
      replace hc := chain hc hn
      clear hn
      go_wp2_with fail
      refine Calls.mono (CI.out _ _ HO.out) ?_
      rintro e V7 ⟨rfl, hV7⟩
      subst V7
      go_wp2_with fail
      refine Calls.mono (CT.out _ (HE.out.on hc)) ?_
      rintro e V8 ⟨rfl, hn⟩
      replace HO := Lib.hid (HO.out.on hn)
      replace r2 := r2.on hn
      replace hc := chain hc hn
      clear hn
      go_wp2_with fail
      refine Calls.mono (CM.out _) ?_
      rintro e V9 ⟨rfl, hn⟩
      replace HO := Lib.hid (HO.out.on hn)
      replace r2 := r2.on hn
      replace hc := chain hc hn
      clear hn
      have Q2 := Lib.hid (HO.out.on (below_alloc V9 (.cells #[.string wd] 9)))
      have HSRC := Lib.hid (str_src1 V9 wd)
      have hl9 := HL1.out
      have hr2 := r2.lt
      clear CW CI CT
      by_cases h12 : (i : Int) + 1 ≤ 12
      · rw [show decide ((i : Int) + 1 ≤ 12) = true from decide_eq_true h12]
        go_wp2_with (at_builtin; refine wpList_append_own _ rfl _ _ 25 rfl (w.heap.size + 1) 9 i0 (.string ⟨#[]⟩) 1 16 Tryz.underlying25 HI0.out HZ0.out HZ1.out HZ2.out rfl (by decide) _ _ _ rfl Q2.out ⟨V9.heap.size, 0, none⟩ 1 1 [.string wd] rfl rfl HSRC.out (by intro u hu; simp at hu; subst hu; rfl) (by unfold maxLen; omega) (by omega) (by first | omega | (simp; omega)) ?_; intro v2 w1 hown hgrow hnil)
        clear hnil
        have hc2 : Below w.heap.size w w1 := (hc.alloc hc.size (.cells #[.string wd] 9)).grown hgrow (by have := hc.size; simp; omega) (fun j hj => by have := (World.ownsRow.lt Q2.out j hj).1; omega)
        have r3 : Row w1 w.heap.size #[.int .u8 k, .int .u8 m, .int .u8 t, .int .u32 a, .int .u32 b, .int .u32 c] 24 := ⟨(hgrow.block _ (by simp; omega) (fun e => by have := (World.ownsRow.lt Q2.out _ e.symm).1; omega)).trans (r2.on (below_alloc V9 (.cells #[.string wd] 9))).eq⟩
        have ho2 : OwnsS (w.heap.size + 1) w1 v2 (wordsTo (i + 1)) := by
          rw [HSUCC.out]
          unfold OwnsS
          rw [List.map_append, List.length_append]
          exact hown
        exact ⟨⟨i + 1, by omega, by go_num, ho2, r3, hc2⟩, by simp [intOf]; omega⟩
      · rw [show decide ((i : Int) + 1 ≤ 12) = false from decide_eq_false h12]
        go_wp2_with (at_builtin; refine wpList_append_own _ rfl _ _ 25 rfl (w.heap.size + 1) 9 i0 (.string ⟨#[]⟩) 1 16 Tryz.underlying25 HI0.out HZ0.out HZ1.out HZ2.out rfl (by decide) _ _ _ rfl Q2.out ⟨V9.heap.size, 0, none⟩ 1 1 [.string wd] rfl rfl HSRC.out (by intro u hu; simp at hu; subst hu; rfl) (by unfold maxLen; omega) (by omega) (by first | omega | (simp; omega)) ?_; intro v2 w1 hown hgrow hnil)
        clear hnil
        have hc2 : Below w.heap.size w w1 := (hc.alloc hc.size (.cells #[.string wd] 9)).grown hgrow (by have := hc.size; simp; omega) (fun j hj => by have := (World.ownsRow.lt Q2.out j hj).1; omega)
        have r3 : Row w1 w.heap.size #[.int .u8 k, .int .u8 m, .int .u8 t, .int .u32 a, .int .u32 b, .int .u32 c] 24 := ⟨(hgrow.block _ (by simp; omega) (fun e => by have := (World.ownsRow.lt Q2.out _ e.symm).1; omega)).trans (r2.on (below_alloc V9 (.cells #[.string wd] 9))).eq⟩
        have ho2 : OwnsS (w.heap.size + 1) w1 v2 (wordsTo (i + 1)) := by
          rw [HSUCC.out]
          unfold OwnsS
          rw [List.map_append, List.length_append]
          exact hown
        exact ⟨⟨i + 1, by omega, by go_num, ho2, r3, hc2⟩, by simp [intOf]; omega⟩
    · have hi : i = 17 := by omega
      have hge : (17 : Int) < (i : Int) + 1 := by omega
      have hl1 := wordsTo_len i
      have hat := fun j (hj : j < i) => wordsTo_at i j hj
      generalize wordsTo i = ws at *
      obtain ⟨g0, c0, rfl, hg0, hc0, hcell⟩ := OwnsS.cell ho (by intro e; rw [e] at hl1; simp at hl1; omega)
      have hwc : ∀ K : Nat, K < 17 → wr.cell? ⟨g0, K, none⟩ = some (.string (wordB ((K : Int) + 1))) := fun K hK => by rw [← hcell K _ (hat K (by omega)), Nat.zero_add]
      have HW := Lib.hid hwc
      rw [hl1, hi]
      have HG := Lib.hid hg0
      have hc17 := hc
      clear hlt hi17 ho hl1 hat hcell hwc hc0 hg0
      subst hi
      have hge : ((17 : Nat) : Int) + 1 = 18 := rfl
      rw [hge]
      clear hge
      have hn0 := Below.refl wr.heap.size wr
      go_upto_region 9 with fail
      go_cut [54] (fun v wx => v = .bool false ∧ Below wr.heap.size wr wx)
      case first =>
        by_cases hkd : 1 ≤ kd ∧ kd ≤ 17
        · have k1 : ¬ kd < 1 := by omega
          have k2 : ¬ 17 < kd := by omega
          go_wp2_with fail
          go_meet
          exact ⟨rfl, hn0⟩
        · have cw := fun W => word_c kd W
          rw [word_out kd hkd] at cw
          have cm := fun W => mut_c kd W
          rw [show inB kd 1 12 = false by unfold inB; rw [Bool.and_eq_false_iff]; by_cases h : 1 ≤ kd; exact .inr (decide_eq_false (by omega)); exact .inl (decide_eq_false h)] at cm
          have CW := Lib.hid cw
          have CM := Lib.hid cm
          clear cw cm
          rcases (by omega : kd < 1 ∨ (¬ kd < 1 ∧ 17 < kd)) with k1 | ⟨k1, k2⟩
          · go_wp2_with fail
            refine Calls.mono (CW.out _) ?_
            rintro e V6 ⟨rfl, hn⟩
            replace hn0 := chain hn0 hn
            clear hn
            go_wp2_with fail
            refine Calls.mono (CM.out _) ?_
            rintro e V7 ⟨rfl, hn⟩
            replace hn0 := chain hn0 hn
            go_wp2_with fail
            go_meet
            exact ⟨rfl, hn0⟩
          · go_wp2_with fail
            refine Calls.mono (CW.out _) ?_
            rintro e V6 ⟨rfl, hn⟩
            replace hn0 := chain hn0 hn
            clear hn
            go_wp2_with fail
            refine Calls.mono (CM.out _) ?_
            rintro e V7 ⟨rfl, hn⟩
            replace hn0 := chain hn0 hn
            go_wp2_with fail
            go_meet
            exact ⟨rfl, hn0⟩
      obtain ⟨rfl, hn⟩ := hcut
      replace HW := Lib.hid (fun (K : Nat) (hK : K < 17) => (hn.cell (p := ⟨g0, K, none⟩) HG.out).trans (HW.out K hK))
      replace HG := Lib.hid (Nat.lt_of_lt_of_le HG.out hn.size)
      clear hn0
      replace r2 := r2.on hn
      replace hc := chain hc hn
      clear hn
      have yr2 := r2.cell
      have zr2 := r2.lt
      go_wp2_with fail
      clear yr2 zr2
      refine Calls.mono (MC.out _) ?_
      rintro e R1 ⟨⟨p, rfl, hp⟩, hn⟩
      clear MC
      have HW1 := Lib.hid (fun (K : Nat) (hK : K < 17) => (hn.cell (p := ⟨g0, K, none⟩) HG.out).trans (HW.out K hK))
      have HG1 := Lib.hid (Nat.lt_of_lt_of_le HG.out hn.size)
      clear HW HG
      replace r2 := r2.on hn
      replace hc := chain hc hn
      clear hn
      have hTs := opT_size hp
      have hTl := opT_l p
      have cp := fun W hW => print_ok p.1 p.2 W hW hp
      change ∀ W, EnvL W → Ret _ _ W (.tuple #[.string (opT p), .int .i64 0]) at cp
      have hcut := cut_op hp
      have hk17 := (opOk_iff.1 (show opOk p.1 p.2.m p.2.a p.2.b p.2.c p.2.tag.data.toList = true from hp)).1
      have hm0 := (opOk_iff.1 (show opOk p.1 p.2.m p.2.a p.2.b p.2.c p.2.tag.data.toList = true from hp)).2.1
      have hm3 := mHi_all p.1
      have cm := fun W => mut_c p.1 W
      rw [← hTl] at hcut
      generalize opT p = T at *
      obtain ⟨rx, hcut, hcm⟩ := hcut
      have CP := Lib.hid cp
      have CS := Lib.hid (fun W (hW : EnvL W) => split_sp T W hW.shp (by omega))
      have HCUT := Lib.hid hcut
      have HCM := Lib.hid hcm
      have CM2 := Lib.hid cm
      clear cp hcut hcm hTl cm hTs hp
      obtain ⟨K, hK⟩ : ∃ K : Nat, p.1 = (K : Int) + 1 := ⟨(p.1 - 1).toNat, by omega⟩
      have hK17 : K < 17 := by omega
      have hM : 0 ≤ p.2.m ∧ p.2.m ≤ 3 := by omega
      clear hm0 hm3 hk17
      have cwk : CellAt R1 g0 K (.string (wordB ((K : Int) + 1))) := ⟨HG1.out, HW1.out K hK17⟩
      clear HW1 HG1
      obtain ⟨kk, ff⟩ := p
      simp only at *
      subst hK
      rcases ff with ⟨fm, fa, fb, fc, ft⟩
      simp only at *
      have yr2 := r2.cell
      have zr2 := r2.lt
      go_upto_region 12 with fail
      clear yr2 zr2
      have r8 := Row.new (W := R1) (cs := #[.int .i64 ((K : Int) + 1), .int .i64 fm, .int .i64 fa, .int .i64 fb, .int .i64 fc, .string ft]) (t := 31)
      have hn := below_alloc R1 (.cells #[.int .i64 ((K : Int) + 1), .int .i64 fm, .int .i64 fa, .int .i64 fb, .int .i64 fc, .string ft] 31)
      have nr2_r8 : w.heap.size ≠ R1.heap.size := Nat.ne_of_lt r2.lt
      have wr8 : w.heap.size ≤ R1.heap.size := hc.size
      replace r2 := r2.on hn
      replace cwk := cwk.on hn
      replace hc := chain hc hn
      clear hn
      generalize R1.alloc (.cells #[.int .i64 ((K : Int) + 1), .int .i64 fm, .int .i64 fa, .int .i64 fb, .int .i64 fc, .string ft] 31) = V11 at r2 cwk r8 hc ⊢
      generalize R1.heap.size = b8 at *
      have yr2 := r2.cell
      have zr2 := r2.lt
      have yr8 := r8.cell
      have zr8 := r8.lt
      go_wp2_with fail
      refine Calls.mono (CP.out _ (HE.out.on hc)) ?_
      rintro e V12 ⟨rfl, hn⟩
      clear yr2 yr8 zr2 zr8
      replace r2 := r2.on hn
      replace r8 := r8.on hn
      replace cwk := cwk.on hn
      replace hc := chain hc hn
      clear hn
      have yr2 := r2.cell
      have zr2 := r2.lt
      have yr8 := r8.cell
      have zr8 := r8.lt
      go_wp2_with fail
      refine Calls.mono (CS.out _ (HE.out.on hc)) ?_
      rintro e R5 ⟨xs, gx, rfl, hxs, r11, hn⟩
      clear yr2 yr8 zr2 zr8
      replace r2 := r2.on hn
      replace r8 := r8.on hn
      replace cwk := cwk.on hn
      replace hc := chain hc hn
      clear hn
      rw [HCUT.out] at hxs
      obtain ⟨xr, rfl, hxr⟩ := map_cons_of hxs
      clear hxs
      change Row R5 gx (Value.string (wordB ((K : Int) + 1)) :: xr.map Value.string).toArray _ at r11
      have hwl : (⟨(wordL ((K : Int) + 1)).toArray⟩ : ByteArray) = wordB ((K : Int) + 1) := rfl
      clear hwl
      have HXR := Lib.hid hxr
      have hkw : wrap64 ((K : Int) + 1 - 1) = (K : Int) := by rw [show (K : Int) + 1 - 1 = K by omega]; exact IntWalk.wrap64_in _ ⟨by omega, by omega⟩
      have hK17i : (K : Int) < 17 := by omega
      have hkw2 : IntKind.i64.wrap (K : Int) = (K : Int) := IntWalk.i64_in _ ⟨by omega, by omega⟩
      have hK0 : (0 : Int) ≤ (K : Int) := by omega
      obtain ⟨NX, hNX⟩ : ∃ NX, (xr.length : Nat) = NX := ⟨_, rfl⟩
      have HNX := Lib.hid hNX
      rw [List.length_cons, hNX]
      clear hNX hxr
      generalize wordB ((K : Int) + 1) = wk at *
      have yr8 := r8.cell
      have zr8 := r8.lt
      go_upto_region 14 with fail
      clear yr8 zr8
      have hx0 : R5.cell? ⟨gx, 0, none⟩ = some (.string wk) := by rw [r11.cell]; rfl
      refine wp_region_held_drew (S := fun W' => (∀ j, W'.cell? ⟨b8, j, none⟩ = (#[.int .i64 ((K : Int) + 1), .int .i64 fm, .int .i64 fa, .int .i64 fb, .int .i64 fc, .string ft] : Array Value)[j]?) ∧ W'.cell? ⟨gx, 0, none⟩ = some (.string wk) ∧ W'.cell? ⟨g0, K, none⟩ = some (.string wk)) (by kernel_rfl) ⟨r8.cell, hx0, cwk.eq⟩ (fun hHeld => ?_)
      replace r2 := r2.drew
      replace r8 := r8.drew
      replace r11 := r11.drew
      replace hc := hc.drew
      clear hx0 cwk
      generalize R5.drew = R6 at *
      refine' wpAnyH_take (i := 0) (oi := _) (v := _) ?_ (by kernel_rfl) (by kernel_rfl) (by kernel_rfl) ?_ (Or.inl ⟨?_, ?_⟩) (by assumption) ?_
      rotate_left 2
      · (simp only [List.getElem?_toArray, List.getElem?_cons_succ, List.getElem?_cons_zero]; rfl)
      · first | exact fun _ _ _ h => h | exact fun _ _ _ h => nomatch h.1
      · rfl
      · (intro W hSW; (try dsimp only at hSW); go_split_ands; first | (go_simp; done) | (go_simp; with_reducible rfl))
      try simp only [Act.put, List.setIfInBounds_toArray, List.set_cons_zero, List.set_cons_succ]
      refine' wpAnyH_take (i := 1) (oi := _) (v := _) ?_ (by kernel_rfl) (by kernel_rfl) (by kernel_rfl) ?_ (Or.inl ⟨?_, ?_⟩) (by assumption) ?_
      rotate_left 2
      · (simp only [List.getElem?_toArray, List.getElem?_cons_succ, List.getElem?_cons_zero]; rfl)
      · first | exact fun _ _ _ h => h | exact fun _ _ _ h => nomatch h.1
      · rfl
      · (intro W hSW; (try dsimp only at hSW); go_split_ands; first | (go_simp; done) | (go_simp; with_reducible rfl))
      try simp only [Act.put, List.setIfInBounds_toArray, List.set_cons_zero, List.set_cons_succ]
      refine' wpAnyH_take (i := 2) (oi := _) (v := _) ?_ (by kernel_rfl) (by kernel_rfl) (by kernel_rfl) ?_ (Or.inl ⟨?_, ?_⟩) (by assumption) ?_
      rotate_left 2
      · (simp only [List.getElem?_toArray, List.getElem?_cons_succ, List.getElem?_cons_zero]; rfl)
      · first | exact fun _ _ _ h => h | exact fun _ _ _ h => nomatch h.1
      · rfl
      · (intro W hSW; (try dsimp only at hSW); go_split_ands; first | (go_simp; done) | (go_simp; with_reducible rfl))
      try simp only [Act.put, List.setIfInBounds_toArray, List.set_cons_zero, List.set_cons_succ]
      refine' wpAnyH_take (i := 3) (oi := _) (v := _) ?_ (by kernel_rfl) (by kernel_rfl) (by kernel_rfl) ?_ (Or.inl ⟨?_, ?_⟩) (by assumption) ?_
      rotate_left 2
      · (simp only [List.getElem?_toArray, List.getElem?_cons_succ, List.getElem?_cons_zero]; rfl)
      · first | exact fun _ _ _ h => h | exact fun _ _ _ h => nomatch h.1
      · rfl
      · (intro W hSW; (try dsimp only at hSW); go_split_ands; first | (go_simp; done) | (go_simp; with_reducible rfl))
      try simp only [Act.put, List.setIfInBounds_toArray, List.set_cons_zero, List.set_cons_succ]
      refine' wpAnyH_take (i := 4) (oi := _) (v := _) ?_ (by kernel_rfl) (by kernel_rfl) (by kernel_rfl) ?_ (Or.inl ⟨?_, ?_⟩) (by assumption) ?_
      rotate_left 2
      · (simp only [List.getElem?_toArray, List.getElem?_cons_succ, List.getElem?_cons_zero]; rfl)
      · first | exact fun _ _ _ h => h | exact fun _ _ _ h => nomatch h.1
      · rfl
      · (intro W hSW; (try dsimp only at hSW); go_split_ands; first | (go_simp; done) | (go_simp; with_reducible rfl))
      try simp only [Act.put, List.setIfInBounds_toArray, List.set_cons_zero, List.set_cons_succ]
      refine' wpAnyH_take (i := 5) (oi := _) (v := _) ?_ (by kernel_rfl) (by kernel_rfl) (by kernel_rfl) ?_ (Or.inl ⟨?_, ?_⟩) (by assumption) ?_
      rotate_left 2
      · (simp only [List.getElem?_toArray, List.getElem?_cons_succ, List.getElem?_cons_zero]; rfl)
      · first | exact fun _ _ _ h => h | exact fun _ _ _ h => nomatch h.1
      · rfl
      · (intro W hSW; (try dsimp only at hSW); go_split_ands; first | (go_simp; done) | (go_simp; with_reducible rfl))
      try simp only [Act.put, List.setIfInBounds_toArray, List.set_cons_zero, List.set_cons_succ]
      refine' wpAnyH_take (i := 6) (oi := _) (v := _) ?_ (by kernel_rfl) (by kernel_rfl) (by kernel_rfl) ?_ (Or.inl ⟨?_, ?_⟩) (by assumption) ?_
      rotate_left 2
      · (simp only [List.getElem?_toArray, List.getElem?_cons_succ, List.getElem?_cons_zero]; rfl)
      · first | exact fun _ _ _ h => h | exact fun _ _ _ h => nomatch h.1
      · rfl
      · (intro W hSW; (try dsimp only at hSW); go_split_ands; first | (go_simp; done) | (go_simp; with_reducible rfl))
      try simp only [Act.put, List.setIfInBounds_toArray, List.set_cons_zero, List.set_cons_succ]
      refine' wpAnyH_take (i := 7) (oi := _) (v := _) ?_ (by kernel_rfl) (by kernel_rfl) (by kernel_rfl) ?_ (Or.inl ⟨?_, ?_⟩) (by assumption) ?_
      rotate_left 2
      · (simp only [List.getElem?_toArray, List.getElem?_cons_succ, List.getElem?_cons_zero]; rfl)
      · first | exact fun _ _ _ h => h | exact fun _ _ _ h => nomatch h.1
      · rfl
      · (intro W hSW; (try dsimp only at hSW); go_split_ands; first | (go_simp; done) | (go_simp; with_reducible rfl))
      try simp only [Act.put, List.setIfInBounds_toArray, List.set_cons_zero, List.set_cons_succ]
      refine' wpAnyH_take (i := 8) (oi := _) (v := _) ?_ (by kernel_rfl) (by kernel_rfl) (by kernel_rfl) ?_ (Or.inl ⟨?_, ?_⟩) (by assumption) ?_
      rotate_left 2
      · (simp only [List.getElem?_toArray, List.getElem?_cons_succ, List.getElem?_cons_zero]; rfl)
      · first | exact fun _ _ _ h => h | exact fun _ _ _ h => nomatch h.1
      · rfl
      · (intro W hSW; (try dsimp only at hSW); go_split_ands; first | (go_simp; done) | (go_simp; with_reducible rfl))
      try simp only [Act.put, List.setIfInBounds_toArray, List.set_cons_zero, List.set_cons_succ]
      refine' wpAnyH_take (i := 9) (oi := _) (v := _) ?_ (by kernel_rfl) (by kernel_rfl) (by kernel_rfl) ?_ (Or.inl ⟨?_, ?_⟩) (by assumption) ?_
      rotate_left 2
      · (simp only [List.getElem?_toArray, List.getElem?_cons_succ, List.getElem?_cons_zero]; rfl)
      · first | exact fun _ _ _ h => h | exact fun _ _ _ h => nomatch h.1
      · rfl
      · (intro W hSW; (try dsimp only at hSW); go_split_ands; first | (go_simp; done) | (go_simp; with_reducible rfl))
      try simp only [Act.put, List.setIfInBounds_toArray, List.set_cons_zero, List.set_cons_succ]
      refine' wpAnyH_take (i := 10) (oi := _) (v := _) ?_ (by kernel_rfl) (by kernel_rfl) (by kernel_rfl) ?_ (Or.inl ⟨?_, ?_⟩) (by assumption) ?_
      rotate_left 2
      · (simp only [List.getElem?_toArray, List.getElem?_cons_succ, List.getElem?_cons_zero]; rfl)
      · first | exact fun _ _ _ h => h | exact fun _ _ _ h => nomatch h.1
      · rfl
      · (intro W hSW; (try dsimp only at hSW); go_split_ands; first | (go_simp; done) | (go_simp; with_reducible rfl))
      try simp only [Act.put, List.setIfInBounds_toArray, List.set_cons_zero, List.set_cons_succ]
      refine' wpAnyH_take (i := 11) (oi := _) (v := _) ?_ (by kernel_rfl) (by kernel_rfl) (by kernel_rfl) ?_ (Or.inl ⟨?_, ?_⟩) (by assumption) ?_
      rotate_left 2
      · (simp only [List.getElem?_toArray, List.getElem?_cons_succ, List.getElem?_cons_zero]; rfl)
      · first | exact fun _ _ _ h => h | exact fun _ _ _ h => nomatch h.1
      · rfl
      · (intro W hSW; (try dsimp only at hSW); go_split_ands; first | (go_simp; done) | (go_simp; with_reducible rfl))
      try simp only [Act.put, List.setIfInBounds_toArray, List.set_cons_zero, List.set_cons_succ]
      refine' wpAnyH_take (i := 12) (oi := _) (v := _) ?_ (by kernel_rfl) (by kernel_rfl) (by kernel_rfl) ?_ (Or.inl ⟨?_, ?_⟩) (by assumption) ?_
      rotate_left 2
      · (simp only [List.getElem?_toArray, List.getElem?_cons_succ, List.getElem?_cons_zero]; rfl)
      · first | exact fun _ _ _ h => h | exact fun _ _ _ h => nomatch h.1
      · rfl
      · (intro W hSW; (try dsimp only at hSW); go_split_ands; first | (go_simp; done) | (go_simp; with_reducible rfl))
      try simp only [Act.put, List.setIfInBounds_toArray, List.set_cons_zero, List.set_cons_succ]
      refine' wpAnyH_take (i := 13) (oi := _) (v := _) ?_ (by kernel_rfl) (by kernel_rfl) (by kernel_rfl) ?_ (Or.inl ⟨?_, ?_⟩) (by assumption) ?_
      rotate_left 2
      · (simp only [List.getElem?_toArray, List.getElem?_cons_succ, List.getElem?_cons_zero]; rfl)
      · first | exact fun _ _ _ h => h | exact fun _ _ _ h => nomatch h.1
      · rfl
      · (intro W hSW; (try dsimp only at hSW); go_split_ands; first | (go_simp; done) | (go_simp; with_reducible rfl))
      try simp only [Act.put, List.setIfInBounds_toArray, List.set_cons_zero, List.set_cons_succ]
      clear hHeld
      refine wpAnyH_done (by kernel_rfl) ?_ _
      have yr2 := r2.cell
      have zr2 := r2.lt
      have yr8 := r8.cell
      have zr8 := r8.lt
      have yr11 := r11.cell
      have zr11 := r11.lt
      go_wp2_with fail
      refine Calls.mono (CM2.out _) ?_
      rintro e R7 ⟨rfl, hn⟩
      clear yr2 yr8 yr11 zr2 zr8 zr11
      replace r2 := r2.on hn
      replace r8 := r8.on hn
      replace r11 := r11.on hn
      replace hc := chain hc hn
      clear hn
      by_cases h12 : (K : Int) + 1 ≤ 12
      · rw [show inB ((K : Int) + 1) 1 12 = true by unfold inB; rw [decide_eq_true (show (1 : Int) ≤ (K : Int) + 1 by omega), decide_eq_true h12]; rfl]
        obtain ⟨r2l, hr2⟩ := HCM.out h12
        have hxr2 := HXR.out
        rw [hr2] at hxr2
        obtain ⟨xr2, rfl, hxr3⟩ := map_cons_of hxr2
        have hNX : NX = xr2.length + 1 := by rw [← HNX.out]; simp
        have hx1 : R7.cell? ⟨gx, 1, none⟩ = some (.string ⟨#[48 + fm.toNat.toUInt8]⟩) := by rw [r11.cell]; rfl
        have hNX2 : (1 : Int) < (NX : Int) + 1 := by omega
        clear hNX hxr3 hxr2 hr2 HCM HXR HNX HCUT
        have yr8 := r8.cell
        have zr8 := r8.lt
        go_upto_region 17 with fail
        clear yr8 zr8
        rcases (by omega : fm = 0 ∨ fm = 1 ∨ fm = 2 ∨ fm = 3) with rfl | rfl | rfl | rfl
        · change R7.cell? ⟨gx, 1, none⟩ = some (.string ⟨#[48]⟩) at hx1
          refine wp_region_held_drew (S := fun W' => (∀ j, W'.cell? ⟨b8, j, none⟩ = (#[.int .i64 ((K : Int) + 1), .int .i64 0, .int .i64 fa, .int .i64 fb, .int .i64 fc, .string ft] : Array Value)[j]?) ∧ W'.cell? ⟨gx, 1, none⟩ = some (.string ⟨#[48]⟩)) (by kernel_rfl) ⟨r8.cell, hx1⟩ (fun hHeld => ?_)
          replace r8 := r8.drew
          replace hc := hc.drew
          clear r2 r11
          have hx2 : R7.drew.cell? ⟨gx, 1, none⟩ = some (.string ⟨#[48]⟩) := hx1
          generalize R7.drew = R8 at *
          refine' wpAnyH_take (i := 0) (oi := _) (v := _) ?_ (by kernel_rfl) (by kernel_rfl) (by kernel_rfl) ?_ (Or.inl ⟨?_, ?_⟩) (by assumption) ?_
          rotate_left 2
          · (simp only [List.getElem?_toArray, List.getElem?_cons_succ, List.getElem?_cons_zero]; rfl)
          · first | exact fun _ _ _ h => h | exact fun _ _ _ h => nomatch h.1
          · rfl
          · (intro W hSW; (try dsimp only at hSW); go_split_ands; first | (go_simp; done) | (go_simp; with_reducible rfl))
          try simp only [Act.put, List.setIfInBounds_toArray, List.set_cons_zero, List.set_cons_succ]
          refine' wpAnyH_take (i := 1) (oi := _) (v := _) ?_ (by kernel_rfl) (by kernel_rfl) (by kernel_rfl) ?_ (Or.inl ⟨?_, ?_⟩) (by assumption) ?_
          rotate_left 2
          · (simp only [List.getElem?_toArray, List.getElem?_cons_succ, List.getElem?_cons_zero]; rfl)
          · first | exact fun _ _ _ h => h | exact fun _ _ _ h => nomatch h.1
          · rfl
          · (intro W hSW; (try dsimp only at hSW); go_split_ands; first | (go_simp; done) | (go_simp; with_reducible rfl))
          try simp only [Act.put, List.setIfInBounds_toArray, List.set_cons_zero, List.set_cons_succ]
          refine' wpAnyH_take (i := 2) (oi := _) (v := _) ?_ (by kernel_rfl) (by kernel_rfl) (by kernel_rfl) ?_ (Or.inl ⟨?_, ?_⟩) (by assumption) ?_
          rotate_left 2
          · (simp only [List.getElem?_toArray, List.getElem?_cons_succ, List.getElem?_cons_zero]; rfl)
          · first | exact fun _ _ _ h => h | exact fun _ _ _ h => nomatch h.1
          · rfl
          · (intro W hSW; (try dsimp only at hSW); go_split_ands; first | (go_simp; done) | (go_simp; with_reducible rfl))
          try simp only [Act.put, List.setIfInBounds_toArray, List.set_cons_zero, List.set_cons_succ]
          refine' wpAnyH_take (i := 3) (oi := _) (v := _) ?_ (by kernel_rfl) (by kernel_rfl) (by kernel_rfl) ?_ (Or.inl ⟨?_, ?_⟩) (by assumption) ?_
          rotate_left 2
          · (simp only [List.getElem?_toArray, List.getElem?_cons_succ, List.getElem?_cons_zero]; rfl)
          · first | exact fun _ _ _ h => h | exact fun _ _ _ h => nomatch h.1
          · rfl
          · (intro W hSW; (try dsimp only at hSW); go_split_ands; first | (go_simp; done) | (go_simp; with_reducible rfl))
          try simp only [Act.put, List.setIfInBounds_toArray, List.set_cons_zero, List.set_cons_succ]
          refine' wpAnyH_take (i := 4) (oi := _) (v := _) ?_ (by kernel_rfl) (by kernel_rfl) (by kernel_rfl) ?_ (Or.inl ⟨?_, ?_⟩) (by assumption) ?_
          rotate_left 2
          · (simp only [List.getElem?_toArray, List.getElem?_cons_succ, List.getElem?_cons_zero]; rfl)
          · first | exact fun _ _ _ h => h | exact fun _ _ _ h => nomatch h.1
          · rfl
          · (intro W hSW; (try dsimp only at hSW); go_split_ands; first | (go_simp; done) | (go_simp; with_reducible rfl))
          try simp only [Act.put, List.setIfInBounds_toArray, List.set_cons_zero, List.set_cons_succ]
          refine' wpAnyH_take (i := 5) (oi := _) (v := _) ?_ (by kernel_rfl) (by kernel_rfl) (by kernel_rfl) ?_ (Or.inl ⟨?_, ?_⟩) (by assumption) ?_
          rotate_left 2
          · (simp only [List.getElem?_toArray, List.getElem?_cons_succ, List.getElem?_cons_zero]; rfl)
          · first | exact fun _ _ _ h => h | exact fun _ _ _ h => nomatch h.1
          · rfl
          · (intro W hSW; (try dsimp only at hSW); go_split_ands; first | (go_simp; done) | (go_simp; with_reducible rfl))
          try simp only [Act.put, List.setIfInBounds_toArray, List.set_cons_zero, List.set_cons_succ]
          refine' wpAnyH_take (i := 6) (oi := _) (v := _) ?_ (by kernel_rfl) (by kernel_rfl) (by kernel_rfl) ?_ (Or.inl ⟨?_, ?_⟩) (by assumption) ?_
          rotate_left 2
          · (simp only [List.getElem?_toArray, List.getElem?_cons_succ, List.getElem?_cons_zero]; rfl)
          · first | exact fun _ _ _ h => h | exact fun _ _ _ h => nomatch h.1
          · rfl
          · (intro W hSW; (try dsimp only at hSW); go_split_ands; first | (go_simp; done) | (go_simp; with_reducible rfl))
          try simp only [Act.put, List.setIfInBounds_toArray, List.set_cons_zero, List.set_cons_succ]
          refine' wpAnyH_take (i := 7) (oi := _) (v := _) ?_ (by kernel_rfl) (by kernel_rfl) (by kernel_rfl) ?_ (Or.inl ⟨?_, ?_⟩) (by assumption) ?_
          rotate_left 2
          · (simp only [List.getElem?_toArray, List.getElem?_cons_succ, List.getElem?_cons_zero]; rfl)
          · first | exact fun _ _ _ h => h | exact fun _ _ _ h => nomatch h.1
          · rfl
          · (intro W hSW; (try dsimp only at hSW); go_split_ands; first | (go_simp; done) | (go_simp; with_reducible rfl))
          try simp only [Act.put, List.setIfInBounds_toArray, List.set_cons_zero, List.set_cons_succ]
          refine' wpAnyH_take (i := 8) (oi := _) (v := _) ?_ (by kernel_rfl) (by kernel_rfl) (by kernel_rfl) ?_ (Or.inl ⟨?_, ?_⟩) (by assumption) ?_
          rotate_left 2
          · (simp only [List.getElem?_toArray, List.getElem?_cons_succ, List.getElem?_cons_zero]; rfl)
          · first | exact fun _ _ _ h => h | exact fun _ _ _ h => nomatch h.1
          · rfl
          · (intro W hSW; (try dsimp only at hSW); go_split_ands; first | (go_simp; done) | (go_simp; with_reducible rfl))
          try simp only [Act.put, List.setIfInBounds_toArray, List.set_cons_zero, List.set_cons_succ]
          refine' wpAnyH_take (i := 9) (oi := _) (v := _) ?_ (by kernel_rfl) (by kernel_rfl) (by kernel_rfl) ?_ (Or.inl ⟨?_, ?_⟩) (by assumption) ?_
          rotate_left 2
          · (simp only [List.getElem?_toArray, List.getElem?_cons_succ, List.getElem?_cons_zero]; rfl)
          · first | exact fun _ _ _ h => h | exact fun _ _ _ h => nomatch h.1
          · rfl
          · (intro W hSW; (try dsimp only at hSW); go_split_ands; first | (go_simp; done) | (go_simp; with_reducible rfl))
          try simp only [Act.put, List.setIfInBounds_toArray, List.set_cons_zero, List.set_cons_succ]
          refine' wpAnyH_take (i := 10) (oi := _) (v := _) ?_ (by kernel_rfl) (by kernel_rfl) (by kernel_rfl) ?_ (Or.inl ⟨?_, ?_⟩) (by assumption) ?_
          rotate_left 2
          · (simp only [List.getElem?_toArray, List.getElem?_cons_succ, List.getElem?_cons_zero]; rfl)
          · first | exact fun _ _ _ h => h | exact fun _ _ _ h => nomatch h.1
          · rfl
          · (intro W hSW; (try dsimp only at hSW); go_split_ands; first | (go_simp; done) | (go_simp; with_reducible rfl))
          try simp only [Act.put, List.setIfInBounds_toArray, List.set_cons_zero, List.set_cons_succ]
          clear hHeld
          refine wpAnyH_ready (rs := [11]) (by kernel_rfl) (by simp) ?_
          refine' AllReadyH.cons (o := _) ?_ (fun K hK => ?_) AllReadyH.nil
          rotate_left 1
          · (simp only [List.getElem?_toArray, List.getElem?_cons_succ, List.getElem?_cons_zero]; rfl)
          go_simp
          rw [show IntKind.u8.wrap (48 + IntKind.u8.wrap 0) = 48 by decide]
          have r9 := Row.new (W := R8) (cs := #[.int .u8 48]) (t := 5)
          have hn := below_alloc R8 (.cells #[.int .u8 48] 5)
          replace r8 := r8.on hn
          replace hc := chain hc hn
          have hgx := block_lt_of_cell (a := ⟨gx, 1, none⟩) hx2
          replace hx2 := (hn.cell (p := ⟨gx, 1, none⟩) hgx).trans hx2
          clear hn hgx
          generalize R8.alloc (.cells #[.int .u8 48] 5) = R9 at *
          generalize R8.heap.size = b9 at *
          refine hK.out _ _ ⟨r8.cell, hx2⟩ (fun hHeld => ?_)
          clear hK K hHeld
          have y9 := r9.cell
          have z9 := r9.lt
          have hcv := conv_one R9 b9 48 r9
          refine wpAnyH_ready (rs := [12]) (by kernel_rfl) (by simp) ?_
          refine' AllReadyH.cons (o := _) ?_ (fun K hK => ?_) AllReadyH.nil
          rotate_left 1
          · (simp only [List.getElem?_toArray, List.getElem?_cons_succ, List.getElem?_cons_zero]; rfl)
          go_simp
          clear y9 z9 hcv r9
          refine hK.out _ _ ⟨r8.cell, hx2⟩ (fun hHeld => ?_)
          clear hK K
          refine' wpAnyH_take (i := 13) (oi := _) (v := _) ?_ (by kernel_rfl) (by kernel_rfl) (by kernel_rfl) ?_ (Or.inl ⟨?_, ?_⟩) (by assumption) ?_
          rotate_left 2
          · (simp only [List.getElem?_toArray, List.getElem?_cons_succ, List.getElem?_cons_zero]; rfl)
          · first | exact fun _ _ _ h => h | exact fun _ _ _ h => nomatch h.1
          · rfl
          · (intro W hSW; (try dsimp only at hSW); go_split_ands; first | (go_simp; done) | (go_simp; with_reducible rfl))
          try simp only [Act.put, List.setIfInBounds_toArray, List.set_cons_zero, List.set_cons_succ]
          refine' wpAnyH_take (i := 14) (oi := _) (v := _) ?_ (by kernel_rfl) (by kernel_rfl) (by kernel_rfl) ?_ (Or.inl ⟨?_, ?_⟩) (by assumption) ?_
          rotate_left 2
          · (simp only [List.getElem?_toArray, List.getElem?_cons_succ, List.getElem?_cons_zero]; rfl)
          · first | exact fun _ _ _ h => h | exact fun _ _ _ h => nomatch h.1
          · rfl
          · (intro W hSW; (try dsimp only at hSW); go_split_ands; first | (go_simp; done) | (go_simp; with_reducible rfl))
          try simp only [Act.put, List.setIfInBounds_toArray, List.set_cons_zero, List.set_cons_succ]
          refine' wpAnyH_take (i := 15) (oi := _) (v := _) ?_ (by kernel_rfl) (by kernel_rfl) (by kernel_rfl) ?_ (Or.inl ⟨?_, ?_⟩) (by assumption) ?_
          rotate_left 2
          · (simp only [List.getElem?_toArray, List.getElem?_cons_succ, List.getElem?_cons_zero]; rfl)
          · first | exact fun _ _ _ h => h | exact fun _ _ _ h => nomatch h.1
          · rfl
          · (intro W hSW; (try dsimp only at hSW); go_split_ands; first | (go_simp; done) | (go_simp; with_reducible rfl))
          try simp only [Act.put, List.setIfInBounds_toArray, List.set_cons_zero, List.set_cons_succ]
          clear hHeld
          refine wpAnyH_ready (rs := [16]) (by kernel_rfl) (by simp) ?_
          refine' AllReadyH.cons (o := _) ?_ (fun K hK => ?_) AllReadyH.nil
          rotate_left 1
          · (simp only [List.getElem?_toArray, List.getElem?_cons_succ, List.getElem?_cons_zero]; rfl)
          go_simp
          refine Calls.mono (works _ (HE.out.on hc)) ?_
          rintro e X9 ⟨rfl, hn⟩
          replace r8 := r8.on hn
          have hgx := block_lt_of_cell (a := ⟨gx, 1, none⟩) hx2
          replace hx2 := (hn.cell (p := ⟨gx, 1, none⟩) hgx).trans hx2
          replace hc := chain hc hn
          clear hn hgx
          go_simp
          refine hK.out _ _ ⟨r8.cell, hx2⟩ (fun hHeld => ?_)
          clear hK K
          refine' wpAnyH_take (i := 17) (oi := _) (v := _) ?_ (by kernel_rfl) (by kernel_rfl) (by kernel_rfl) ?_ (Or.inl ⟨?_, ?_⟩) (by assumption) ?_
          rotate_left 2
          · (simp only [List.getElem?_toArray, List.getElem?_cons_succ, List.getElem?_cons_zero]; rfl)
          · first | exact fun _ _ _ h => h | exact fun _ _ _ h => nomatch h.1
          · rfl
          · (intro W hSW; (try dsimp only at hSW); go_split_ands; first | (go_simp; done) | (go_simp; with_reducible rfl))
          try simp only [Act.put, List.setIfInBounds_toArray, List.set_cons_zero, List.set_cons_succ]
          refine' wpAnyH_take (i := 18) (oi := _) (v := _) ?_ (by kernel_rfl) (by kernel_rfl) (by kernel_rfl) ?_ (Or.inl ⟨?_, ?_⟩) (by assumption) ?_
          rotate_left 2
          · (simp only [List.getElem?_toArray, List.getElem?_cons_succ, List.getElem?_cons_zero]; rfl)
          · first | exact fun _ _ _ h => h | exact fun _ _ _ h => nomatch h.1
          · rfl
          · (intro W hSW; (try dsimp only at hSW); go_split_ands; first | (go_simp; done) | (go_simp; with_reducible rfl))
          try simp only [Act.put, List.setIfInBounds_toArray, List.set_cons_zero, List.set_cons_succ]
          clear hHeld
          refine wpAnyH_done (by kernel_rfl) ?_ _
          go_wp2_with fail
          go_returns
          exact ⟨rfl, hc⟩
        · change R7.cell? ⟨gx, 1, none⟩ = some (.string ⟨#[49]⟩) at hx1
          refine wp_region_held_drew (S := fun W' => (∀ j, W'.cell? ⟨b8, j, none⟩ = (#[.int .i64 ((K : Int) + 1), .int .i64 1, .int .i64 fa, .int .i64 fb, .int .i64 fc, .string ft] : Array Value)[j]?) ∧ W'.cell? ⟨gx, 1, none⟩ = some (.string ⟨#[49]⟩)) (by kernel_rfl) ⟨r8.cell, hx1⟩ (fun hHeld => ?_)
          replace r8 := r8.drew
          replace hc := hc.drew
          clear r2 r11
          have hx2 : R7.drew.cell? ⟨gx, 1, none⟩ = some (.string ⟨#[49]⟩) := hx1
          generalize R7.drew = R8 at *
          refine' wpAnyH_take (i := 0) (oi := _) (v := _) ?_ (by kernel_rfl) (by kernel_rfl) (by kernel_rfl) ?_ (Or.inl ⟨?_, ?_⟩) (by assumption) ?_
          rotate_left 2
          · (simp only [List.getElem?_toArray, List.getElem?_cons_succ, List.getElem?_cons_zero]; rfl)
          · first | exact fun _ _ _ h => h | exact fun _ _ _ h => nomatch h.1
          · rfl
          · (intro W hSW; (try dsimp only at hSW); go_split_ands; first | (go_simp; done) | (go_simp; with_reducible rfl))
          try simp only [Act.put, List.setIfInBounds_toArray, List.set_cons_zero, List.set_cons_succ]
          refine' wpAnyH_take (i := 1) (oi := _) (v := _) ?_ (by kernel_rfl) (by kernel_rfl) (by kernel_rfl) ?_ (Or.inl ⟨?_, ?_⟩) (by assumption) ?_
          rotate_left 2
          · (simp only [List.getElem?_toArray, List.getElem?_cons_succ, List.getElem?_cons_zero]; rfl)
          · first | exact fun _ _ _ h => h | exact fun _ _ _ h => nomatch h.1
          · rfl
          · (intro W hSW; (try dsimp only at hSW); go_split_ands; first | (go_simp; done) | (go_simp; with_reducible rfl))
          try simp only [Act.put, List.setIfInBounds_toArray, List.set_cons_zero, List.set_cons_succ]
          refine' wpAnyH_take (i := 2) (oi := _) (v := _) ?_ (by kernel_rfl) (by kernel_rfl) (by kernel_rfl) ?_ (Or.inl ⟨?_, ?_⟩) (by assumption) ?_
          rotate_left 2
          · (simp only [List.getElem?_toArray, List.getElem?_cons_succ, List.getElem?_cons_zero]; rfl)
          · first | exact fun _ _ _ h => h | exact fun _ _ _ h => nomatch h.1
          · rfl
          · (intro W hSW; (try dsimp only at hSW); go_split_ands; first | (go_simp; done) | (go_simp; with_reducible rfl))
          try simp only [Act.put, List.setIfInBounds_toArray, List.set_cons_zero, List.set_cons_succ]
          refine' wpAnyH_take (i := 3) (oi := _) (v := _) ?_ (by kernel_rfl) (by kernel_rfl) (by kernel_rfl) ?_ (Or.inl ⟨?_, ?_⟩) (by assumption) ?_
          rotate_left 2
          · (simp only [List.getElem?_toArray, List.getElem?_cons_succ, List.getElem?_cons_zero]; rfl)
          · first | exact fun _ _ _ h => h | exact fun _ _ _ h => nomatch h.1
          · rfl
          · (intro W hSW; (try dsimp only at hSW); go_split_ands; first | (go_simp; done) | (go_simp; with_reducible rfl))
          try simp only [Act.put, List.setIfInBounds_toArray, List.set_cons_zero, List.set_cons_succ]
          refine' wpAnyH_take (i := 4) (oi := _) (v := _) ?_ (by kernel_rfl) (by kernel_rfl) (by kernel_rfl) ?_ (Or.inl ⟨?_, ?_⟩) (by assumption) ?_
          rotate_left 2
          · (simp only [List.getElem?_toArray, List.getElem?_cons_succ, List.getElem?_cons_zero]; rfl)
          · first | exact fun _ _ _ h => h | exact fun _ _ _ h => nomatch h.1
          · rfl
          · (intro W hSW; (try dsimp only at hSW); go_split_ands; first | (go_simp; done) | (go_simp; with_reducible rfl))
          try simp only [Act.put, List.setIfInBounds_toArray, List.set_cons_zero, List.set_cons_succ]
          refine' wpAnyH_take (i := 5) (oi := _) (v := _) ?_ (by kernel_rfl) (by kernel_rfl) (by kernel_rfl) ?_ (Or.inl ⟨?_, ?_⟩) (by assumption) ?_
          rotate_left 2
          · (simp only [List.getElem?_toArray, List.getElem?_cons_succ, List.getElem?_cons_zero]; rfl)
          · first | exact fun _ _ _ h => h | exact fun _ _ _ h => nomatch h.1
          · rfl
          · (intro W hSW; (try dsimp only at hSW); go_split_ands; first | (go_simp; done) | (go_simp; with_reducible rfl))
          try simp only [Act.put, List.setIfInBounds_toArray, List.set_cons_zero, List.set_cons_succ]
          refine' wpAnyH_take (i := 6) (oi := _) (v := _) ?_ (by kernel_rfl) (by kernel_rfl) (by kernel_rfl) ?_ (Or.inl ⟨?_, ?_⟩) (by assumption) ?_
          rotate_left 2
          · (simp only [List.getElem?_toArray, List.getElem?_cons_succ, List.getElem?_cons_zero]; rfl)
          · first | exact fun _ _ _ h => h | exact fun _ _ _ h => nomatch h.1
          · rfl
          · (intro W hSW; (try dsimp only at hSW); go_split_ands; first | (go_simp; done) | (go_simp; with_reducible rfl))
          try simp only [Act.put, List.setIfInBounds_toArray, List.set_cons_zero, List.set_cons_succ]
          refine' wpAnyH_take (i := 7) (oi := _) (v := _) ?_ (by kernel_rfl) (by kernel_rfl) (by kernel_rfl) ?_ (Or.inl ⟨?_, ?_⟩) (by assumption) ?_
          rotate_left 2
          · (simp only [List.getElem?_toArray, List.getElem?_cons_succ, List.getElem?_cons_zero]; rfl)
          · first | exact fun _ _ _ h => h | exact fun _ _ _ h => nomatch h.1
          · rfl
          · (intro W hSW; (try dsimp only at hSW); go_split_ands; first | (go_simp; done) | (go_simp; with_reducible rfl))
          try simp only [Act.put, List.setIfInBounds_toArray, List.set_cons_zero, List.set_cons_succ]
          refine' wpAnyH_take (i := 8) (oi := _) (v := _) ?_ (by kernel_rfl) (by kernel_rfl) (by kernel_rfl) ?_ (Or.inl ⟨?_, ?_⟩) (by assumption) ?_
          rotate_left 2
          · (simp only [List.getElem?_toArray, List.getElem?_cons_succ, List.getElem?_cons_zero]; rfl)
          · first | exact fun _ _ _ h => h | exact fun _ _ _ h => nomatch h.1
          · rfl
          · (intro W hSW; (try dsimp only at hSW); go_split_ands; first | (go_simp; done) | (go_simp; with_reducible rfl))
          try simp only [Act.put, List.setIfInBounds_toArray, List.set_cons_zero, List.set_cons_succ]
          refine' wpAnyH_take (i := 9) (oi := _) (v := _) ?_ (by kernel_rfl) (by kernel_rfl) (by kernel_rfl) ?_ (Or.inl ⟨?_, ?_⟩) (by assumption) ?_
          rotate_left 2
          · (simp only [List.getElem?_toArray, List.getElem?_cons_succ, List.getElem?_cons_zero]; rfl)
          · first | exact fun _ _ _ h => h | exact fun _ _ _ h => nomatch h.1
          · rfl
          · (intro W hSW; (try dsimp only at hSW); go_split_ands; first | (go_simp; done) | (go_simp; with_reducible rfl))
          try simp only [Act.put, List.setIfInBounds_toArray, List.set_cons_zero, List.set_cons_succ]
          refine' wpAnyH_take (i := 10) (oi := _) (v := _) ?_ (by kernel_rfl) (by kernel_rfl) (by kernel_rfl) ?_ (Or.inl ⟨?_, ?_⟩) (by assumption) ?_
          rotate_left 2
          · (simp only [List.getElem?_toArray, List.getElem?_cons_succ, List.getElem?_cons_zero]; rfl)
          · first | exact fun _ _ _ h => h | exact fun _ _ _ h => nomatch h.1
          · rfl
          · (intro W hSW; (try dsimp only at hSW); go_split_ands; first | (go_simp; done) | (go_simp; with_reducible rfl))
          try simp only [Act.put, List.setIfInBounds_toArray, List.set_cons_zero, List.set_cons_succ]
          clear hHeld
          refine wpAnyH_ready (rs := [11]) (by kernel_rfl) (by simp) ?_
          refine' AllReadyH.cons (o := _) ?_ (fun K hK => ?_) AllReadyH.nil
          rotate_left 1
          · (simp only [List.getElem?_toArray, List.getElem?_cons_succ, List.getElem?_cons_zero]; rfl)
          go_simp
          rw [show IntKind.u8.wrap (48 + IntKind.u8.wrap 1) = 49 by decide]
          have r9 := Row.new (W := R8) (cs := #[.int .u8 49]) (t := 5)
          have hn := below_alloc R8 (.cells #[.int .u8 49] 5)
          replace r8 := r8.on hn
          replace hc := chain hc hn
          have hgx := block_lt_of_cell (a := ⟨gx, 1, none⟩) hx2
          replace hx2 := (hn.cell (p := ⟨gx, 1, none⟩) hgx).trans hx2
          clear hn hgx
          generalize R8.alloc (.cells #[.int .u8 49] 5) = R9 at *
          generalize R8.heap.size = b9 at *
          refine hK.out _ _ ⟨r8.cell, hx2⟩ (fun hHeld => ?_)
          clear hK K hHeld
          have y9 := r9.cell
          have z9 := r9.lt
          have hcv := conv_one R9 b9 49 r9
          refine wpAnyH_ready (rs := [12]) (by kernel_rfl) (by simp) ?_
          refine' AllReadyH.cons (o := _) ?_ (fun K hK => ?_) AllReadyH.nil
          rotate_left 1
          · (simp only [List.getElem?_toArray, List.getElem?_cons_succ, List.getElem?_cons_zero]; rfl)
          go_simp
          clear y9 z9 hcv r9
          refine hK.out _ _ ⟨r8.cell, hx2⟩ (fun hHeld => ?_)
          clear hK K
          refine' wpAnyH_take (i := 13) (oi := _) (v := _) ?_ (by kernel_rfl) (by kernel_rfl) (by kernel_rfl) ?_ (Or.inl ⟨?_, ?_⟩) (by assumption) ?_
          rotate_left 2
          · (simp only [List.getElem?_toArray, List.getElem?_cons_succ, List.getElem?_cons_zero]; rfl)
          · first | exact fun _ _ _ h => h | exact fun _ _ _ h => nomatch h.1
          · rfl
          · (intro W hSW; (try dsimp only at hSW); go_split_ands; first | (go_simp; done) | (go_simp; with_reducible rfl))
          try simp only [Act.put, List.setIfInBounds_toArray, List.set_cons_zero, List.set_cons_succ]
          refine' wpAnyH_take (i := 14) (oi := _) (v := _) ?_ (by kernel_rfl) (by kernel_rfl) (by kernel_rfl) ?_ (Or.inl ⟨?_, ?_⟩) (by assumption) ?_
          rotate_left 2
          · (simp only [List.getElem?_toArray, List.getElem?_cons_succ, List.getElem?_cons_zero]; rfl)
          · first | exact fun _ _ _ h => h | exact fun _ _ _ h => nomatch h.1
          · rfl
          · (intro W hSW; (try dsimp only at hSW); go_split_ands; first | (go_simp; done) | (go_simp; with_reducible rfl))
          try simp only [Act.put, List.setIfInBounds_toArray, List.set_cons_zero, List.set_cons_succ]
          refine' wpAnyH_take (i := 15) (oi := _) (v := _) ?_ (by kernel_rfl) (by kernel_rfl) (by kernel_rfl) ?_ (Or.inl ⟨?_, ?_⟩) (by assumption) ?_
          rotate_left 2
          · (simp only [List.getElem?_toArray, List.getElem?_cons_succ, List.getElem?_cons_zero]; rfl)
          · first | exact fun _ _ _ h => h | exact fun _ _ _ h => nomatch h.1
          · rfl
          · (intro W hSW; (try dsimp only at hSW); go_split_ands; first | (go_simp; done) | (go_simp; with_reducible rfl))
          try simp only [Act.put, List.setIfInBounds_toArray, List.set_cons_zero, List.set_cons_succ]
          clear hHeld
          refine wpAnyH_ready (rs := [16]) (by kernel_rfl) (by simp) ?_
          refine' AllReadyH.cons (o := _) ?_ (fun K hK => ?_) AllReadyH.nil
          rotate_left 1
          · (simp only [List.getElem?_toArray, List.getElem?_cons_succ, List.getElem?_cons_zero]; rfl)
          go_simp
          refine Calls.mono (works _ (HE.out.on hc)) ?_
          rintro e X9 ⟨rfl, hn⟩
          replace r8 := r8.on hn
          have hgx := block_lt_of_cell (a := ⟨gx, 1, none⟩) hx2
          replace hx2 := (hn.cell (p := ⟨gx, 1, none⟩) hgx).trans hx2
          replace hc := chain hc hn
          clear hn hgx
          go_simp
          refine hK.out _ _ ⟨r8.cell, hx2⟩ (fun hHeld => ?_)
          clear hK K
          refine' wpAnyH_take (i := 17) (oi := _) (v := _) ?_ (by kernel_rfl) (by kernel_rfl) (by kernel_rfl) ?_ (Or.inl ⟨?_, ?_⟩) (by assumption) ?_
          rotate_left 2
          · (simp only [List.getElem?_toArray, List.getElem?_cons_succ, List.getElem?_cons_zero]; rfl)
          · first | exact fun _ _ _ h => h | exact fun _ _ _ h => nomatch h.1
          · rfl
          · (intro W hSW; (try dsimp only at hSW); go_split_ands; first | (go_simp; done) | (go_simp; with_reducible rfl))
          try simp only [Act.put, List.setIfInBounds_toArray, List.set_cons_zero, List.set_cons_succ]
          refine' wpAnyH_take (i := 18) (oi := _) (v := _) ?_ (by kernel_rfl) (by kernel_rfl) (by kernel_rfl) ?_ (Or.inl ⟨?_, ?_⟩) (by assumption) ?_
          rotate_left 2
          · (simp only [List.getElem?_toArray, List.getElem?_cons_succ, List.getElem?_cons_zero]; rfl)
          · first | exact fun _ _ _ h => h | exact fun _ _ _ h => nomatch h.1
          · rfl
          · (intro W hSW; (try dsimp only at hSW); go_split_ands; first | (go_simp; done) | (go_simp; with_reducible rfl))
          try simp only [Act.put, List.setIfInBounds_toArray, List.set_cons_zero, List.set_cons_succ]
          clear hHeld
          refine wpAnyH_done (by kernel_rfl) ?_ _
          go_wp2_with fail
          go_returns
          exact ⟨rfl, hc⟩
        · change R7.cell? ⟨gx, 1, none⟩ = some (.string ⟨#[50]⟩) at hx1
          refine wp_region_held_drew (S := fun W' => (∀ j, W'.cell? ⟨b8, j, none⟩ = (#[.int .i64 ((K : Int) + 1), .int .i64 2, .int .i64 fa, .int .i64 fb, .int .i64 fc, .string ft] : Array Value)[j]?) ∧ W'.cell? ⟨gx, 1, none⟩ = some (.string ⟨#[50]⟩)) (by kernel_rfl) ⟨r8.cell, hx1⟩ (fun hHeld => ?_)
          replace r8 := r8.drew
          replace hc := hc.drew
          clear r2 r11
          have hx2 : R7.drew.cell? ⟨gx, 1, none⟩ = some (.string ⟨#[50]⟩) := hx1
          generalize R7.drew = R8 at *
          refine' wpAnyH_take (i := 0) (oi := _) (v := _) ?_ (by kernel_rfl) (by kernel_rfl) (by kernel_rfl) ?_ (Or.inl ⟨?_, ?_⟩) (by assumption) ?_
          rotate_left 2
          · (simp only [List.getElem?_toArray, List.getElem?_cons_succ, List.getElem?_cons_zero]; rfl)
          · first | exact fun _ _ _ h => h | exact fun _ _ _ h => nomatch h.1
          · rfl
          · (intro W hSW; (try dsimp only at hSW); go_split_ands; first | (go_simp; done) | (go_simp; with_reducible rfl))
          try simp only [Act.put, List.setIfInBounds_toArray, List.set_cons_zero, List.set_cons_succ]
          refine' wpAnyH_take (i := 1) (oi := _) (v := _) ?_ (by kernel_rfl) (by kernel_rfl) (by kernel_rfl) ?_ (Or.inl ⟨?_, ?_⟩) (by assumption) ?_
          rotate_left 2
          · (simp only [List.getElem?_toArray, List.getElem?_cons_succ, List.getElem?_cons_zero]; rfl)
          · first | exact fun _ _ _ h => h | exact fun _ _ _ h => nomatch h.1
          · rfl
          · (intro W hSW; (try dsimp only at hSW); go_split_ands; first | (go_simp; done) | (go_simp; with_reducible rfl))
          try simp only [Act.put, List.setIfInBounds_toArray, List.set_cons_zero, List.set_cons_succ]
          refine' wpAnyH_take (i := 2) (oi := _) (v := _) ?_ (by kernel_rfl) (by kernel_rfl) (by kernel_rfl) ?_ (Or.inl ⟨?_, ?_⟩) (by assumption) ?_
          rotate_left 2
          · (simp only [List.getElem?_toArray, List.getElem?_cons_succ, List.getElem?_cons_zero]; rfl)
          · first | exact fun _ _ _ h => h | exact fun _ _ _ h => nomatch h.1
          · rfl
          · (intro W hSW; (try dsimp only at hSW); go_split_ands; first | (go_simp; done) | (go_simp; with_reducible rfl))
          try simp only [Act.put, List.setIfInBounds_toArray, List.set_cons_zero, List.set_cons_succ]
          refine' wpAnyH_take (i := 3) (oi := _) (v := _) ?_ (by kernel_rfl) (by kernel_rfl) (by kernel_rfl) ?_ (Or.inl ⟨?_, ?_⟩) (by assumption) ?_
          rotate_left 2
          · (simp only [List.getElem?_toArray, List.getElem?_cons_succ, List.getElem?_cons_zero]; rfl)
          · first | exact fun _ _ _ h => h | exact fun _ _ _ h => nomatch h.1
          · rfl
          · (intro W hSW; (try dsimp only at hSW); go_split_ands; first | (go_simp; done) | (go_simp; with_reducible rfl))
          try simp only [Act.put, List.setIfInBounds_toArray, List.set_cons_zero, List.set_cons_succ]
          refine' wpAnyH_take (i := 4) (oi := _) (v := _) ?_ (by kernel_rfl) (by kernel_rfl) (by kernel_rfl) ?_ (Or.inl ⟨?_, ?_⟩) (by assumption) ?_
          rotate_left 2
          · (simp only [List.getElem?_toArray, List.getElem?_cons_succ, List.getElem?_cons_zero]; rfl)
          · first | exact fun _ _ _ h => h | exact fun _ _ _ h => nomatch h.1
          · rfl
          · (intro W hSW; (try dsimp only at hSW); go_split_ands; first | (go_simp; done) | (go_simp; with_reducible rfl))
          try simp only [Act.put, List.setIfInBounds_toArray, List.set_cons_zero, List.set_cons_succ]
          refine' wpAnyH_take (i := 5) (oi := _) (v := _) ?_ (by kernel_rfl) (by kernel_rfl) (by kernel_rfl) ?_ (Or.inl ⟨?_, ?_⟩) (by assumption) ?_
          rotate_left 2
          · (simp only [List.getElem?_toArray, List.getElem?_cons_succ, List.getElem?_cons_zero]; rfl)
          · first | exact fun _ _ _ h => h | exact fun _ _ _ h => nomatch h.1
          · rfl
          · (intro W hSW; (try dsimp only at hSW); go_split_ands; first | (go_simp; done) | (go_simp; with_reducible rfl))
          try simp only [Act.put, List.setIfInBounds_toArray, List.set_cons_zero, List.set_cons_succ]
          refine' wpAnyH_take (i := 6) (oi := _) (v := _) ?_ (by kernel_rfl) (by kernel_rfl) (by kernel_rfl) ?_ (Or.inl ⟨?_, ?_⟩) (by assumption) ?_
          rotate_left 2
          · (simp only [List.getElem?_toArray, List.getElem?_cons_succ, List.getElem?_cons_zero]; rfl)
          · first | exact fun _ _ _ h => h | exact fun _ _ _ h => nomatch h.1
          · rfl
          · (intro W hSW; (try dsimp only at hSW); go_split_ands; first | (go_simp; done) | (go_simp; with_reducible rfl))
          try simp only [Act.put, List.setIfInBounds_toArray, List.set_cons_zero, List.set_cons_succ]
          refine' wpAnyH_take (i := 7) (oi := _) (v := _) ?_ (by kernel_rfl) (by kernel_rfl) (by kernel_rfl) ?_ (Or.inl ⟨?_, ?_⟩) (by assumption) ?_
          rotate_left 2
          · (simp only [List.getElem?_toArray, List.getElem?_cons_succ, List.getElem?_cons_zero]; rfl)
          · first | exact fun _ _ _ h => h | exact fun _ _ _ h => nomatch h.1
          · rfl
          · (intro W hSW; (try dsimp only at hSW); go_split_ands; first | (go_simp; done) | (go_simp; with_reducible rfl))
          try simp only [Act.put, List.setIfInBounds_toArray, List.set_cons_zero, List.set_cons_succ]
          refine' wpAnyH_take (i := 8) (oi := _) (v := _) ?_ (by kernel_rfl) (by kernel_rfl) (by kernel_rfl) ?_ (Or.inl ⟨?_, ?_⟩) (by assumption) ?_
          rotate_left 2
          · (simp only [List.getElem?_toArray, List.getElem?_cons_succ, List.getElem?_cons_zero]; rfl)
          · first | exact fun _ _ _ h => h | exact fun _ _ _ h => nomatch h.1
          · rfl
          · (intro W hSW; (try dsimp only at hSW); go_split_ands; first | (go_simp; done) | (go_simp; with_reducible rfl))
          try simp only [Act.put, List.setIfInBounds_toArray, List.set_cons_zero, List.set_cons_succ]
          refine' wpAnyH_take (i := 9) (oi := _) (v := _) ?_ (by kernel_rfl) (by kernel_rfl) (by kernel_rfl) ?_ (Or.inl ⟨?_, ?_⟩) (by assumption) ?_
          rotate_left 2
          · (simp only [List.getElem?_toArray, List.getElem?_cons_succ, List.getElem?_cons_zero]; rfl)
          · first | exact fun _ _ _ h => h | exact fun _ _ _ h => nomatch h.1
          · rfl
          · (intro W hSW; (try dsimp only at hSW); go_split_ands; first | (go_simp; done) | (go_simp; with_reducible rfl))
          try simp only [Act.put, List.setIfInBounds_toArray, List.set_cons_zero, List.set_cons_succ]
          refine' wpAnyH_take (i := 10) (oi := _) (v := _) ?_ (by kernel_rfl) (by kernel_rfl) (by kernel_rfl) ?_ (Or.inl ⟨?_, ?_⟩) (by assumption) ?_
          rotate_left 2
          · (simp only [List.getElem?_toArray, List.getElem?_cons_succ, List.getElem?_cons_zero]; rfl)
          · first | exact fun _ _ _ h => h | exact fun _ _ _ h => nomatch h.1
          · rfl
          · (intro W hSW; (try dsimp only at hSW); go_split_ands; first | (go_simp; done) | (go_simp; with_reducible rfl))
          try simp only [Act.put, List.setIfInBounds_toArray, List.set_cons_zero, List.set_cons_succ]
          clear hHeld
          refine wpAnyH_ready (rs := [11]) (by kernel_rfl) (by simp) ?_
          refine' AllReadyH.cons (o := _) ?_ (fun K hK => ?_) AllReadyH.nil
          rotate_left 1
          · (simp only [List.getElem?_toArray, List.getElem?_cons_succ, List.getElem?_cons_zero]; rfl)
          go_simp
          rw [show IntKind.u8.wrap (48 + IntKind.u8.wrap 2) = 50 by decide]
          have r9 := Row.new (W := R8) (cs := #[.int .u8 50]) (t := 5)
          have hn := below_alloc R8 (.cells #[.int .u8 50] 5)
          replace r8 := r8.on hn
          replace hc := chain hc hn
          have hgx := block_lt_of_cell (a := ⟨gx, 1, none⟩) hx2
          replace hx2 := (hn.cell (p := ⟨gx, 1, none⟩) hgx).trans hx2
          clear hn hgx
          generalize R8.alloc (.cells #[.int .u8 50] 5) = R9 at *
          generalize R8.heap.size = b9 at *
          refine hK.out _ _ ⟨r8.cell, hx2⟩ (fun hHeld => ?_)
          clear hK K hHeld
          have y9 := r9.cell
          have z9 := r9.lt
          have hcv := conv_one R9 b9 50 r9
          refine wpAnyH_ready (rs := [12]) (by kernel_rfl) (by simp) ?_
          refine' AllReadyH.cons (o := _) ?_ (fun K hK => ?_) AllReadyH.nil
          rotate_left 1
          · (simp only [List.getElem?_toArray, List.getElem?_cons_succ, List.getElem?_cons_zero]; rfl)
          go_simp
          clear y9 z9 hcv r9
          refine hK.out _ _ ⟨r8.cell, hx2⟩ (fun hHeld => ?_)
          clear hK K
          refine' wpAnyH_take (i := 13) (oi := _) (v := _) ?_ (by kernel_rfl) (by kernel_rfl) (by kernel_rfl) ?_ (Or.inl ⟨?_, ?_⟩) (by assumption) ?_
          rotate_left 2
          · (simp only [List.getElem?_toArray, List.getElem?_cons_succ, List.getElem?_cons_zero]; rfl)
          · first | exact fun _ _ _ h => h | exact fun _ _ _ h => nomatch h.1
          · rfl
          · (intro W hSW; (try dsimp only at hSW); go_split_ands; first | (go_simp; done) | (go_simp; with_reducible rfl))
          try simp only [Act.put, List.setIfInBounds_toArray, List.set_cons_zero, List.set_cons_succ]
          refine' wpAnyH_take (i := 14) (oi := _) (v := _) ?_ (by kernel_rfl) (by kernel_rfl) (by kernel_rfl) ?_ (Or.inl ⟨?_, ?_⟩) (by assumption) ?_
          rotate_left 2
          · (simp only [List.getElem?_toArray, List.getElem?_cons_succ, List.getElem?_cons_zero]; rfl)
          · first | exact fun _ _ _ h => h | exact fun _ _ _ h => nomatch h.1
          · rfl
          · (intro W hSW; (try dsimp only at hSW); go_split_ands; first | (go_simp; done) | (go_simp; with_reducible rfl))
          try simp only [Act.put, List.setIfInBounds_toArray, List.set_cons_zero, List.set_cons_succ]
          refine' wpAnyH_take (i := 15) (oi := _) (v := _) ?_ (by kernel_rfl) (by kernel_rfl) (by kernel_rfl) ?_ (Or.inl ⟨?_, ?_⟩) (by assumption) ?_
          rotate_left 2
          · (simp only [List.getElem?_toArray, List.getElem?_cons_succ, List.getElem?_cons_zero]; rfl)
          · first | exact fun _ _ _ h => h | exact fun _ _ _ h => nomatch h.1
          · rfl
          · (intro W hSW; (try dsimp only at hSW); go_split_ands; first | (go_simp; done) | (go_simp; with_reducible rfl))
          try simp only [Act.put, List.setIfInBounds_toArray, List.set_cons_zero, List.set_cons_succ]
          clear hHeld
          refine wpAnyH_ready (rs := [16]) (by kernel_rfl) (by simp) ?_
          refine' AllReadyH.cons (o := _) ?_ (fun K hK => ?_) AllReadyH.nil
          rotate_left 1
          · (simp only [List.getElem?_toArray, List.getElem?_cons_succ, List.getElem?_cons_zero]; rfl)
          go_simp
          refine Calls.mono (works _ (HE.out.on hc)) ?_
          rintro e X9 ⟨rfl, hn⟩
          replace r8 := r8.on hn
          have hgx := block_lt_of_cell (a := ⟨gx, 1, none⟩) hx2
          replace hx2 := (hn.cell (p := ⟨gx, 1, none⟩) hgx).trans hx2
          replace hc := chain hc hn
          clear hn hgx
          go_simp
          refine hK.out _ _ ⟨r8.cell, hx2⟩ (fun hHeld => ?_)
          clear hK K
          refine' wpAnyH_take (i := 17) (oi := _) (v := _) ?_ (by kernel_rfl) (by kernel_rfl) (by kernel_rfl) ?_ (Or.inl ⟨?_, ?_⟩) (by assumption) ?_
          rotate_left 2
          · (simp only [List.getElem?_toArray, List.getElem?_cons_succ, List.getElem?_cons_zero]; rfl)
          · first | exact fun _ _ _ h => h | exact fun _ _ _ h => nomatch h.1
          · rfl
          · (intro W hSW; (try dsimp only at hSW); go_split_ands; first | (go_simp; done) | (go_simp; with_reducible rfl))
          try simp only [Act.put, List.setIfInBounds_toArray, List.set_cons_zero, List.set_cons_succ]
          refine' wpAnyH_take (i := 18) (oi := _) (v := _) ?_ (by kernel_rfl) (by kernel_rfl) (by kernel_rfl) ?_ (Or.inl ⟨?_, ?_⟩) (by assumption) ?_
          rotate_left 2
          · (simp only [List.getElem?_toArray, List.getElem?_cons_succ, List.getElem?_cons_zero]; rfl)
          · first | exact fun _ _ _ h => h | exact fun _ _ _ h => nomatch h.1
          · rfl
          · (intro W hSW; (try dsimp only at hSW); go_split_ands; first | (go_simp; done) | (go_simp; with_reducible rfl))
          try simp only [Act.put, List.setIfInBounds_toArray, List.set_cons_zero, List.set_cons_succ]
          clear hHeld
          refine wpAnyH_done (by kernel_rfl) ?_ _
          go_wp2_with fail
          go_returns
          exact ⟨rfl, hc⟩
        · change R7.cell? ⟨gx, 1, none⟩ = some (.string ⟨#[51]⟩) at hx1
          refine wp_region_held_drew (S := fun W' => (∀ j, W'.cell? ⟨b8, j, none⟩ = (#[.int .i64 ((K : Int) + 1), .int .i64 3, .int .i64 fa, .int .i64 fb, .int .i64 fc, .string ft] : Array Value)[j]?) ∧ W'.cell? ⟨gx, 1, none⟩ = some (.string ⟨#[51]⟩)) (by kernel_rfl) ⟨r8.cell, hx1⟩ (fun hHeld => ?_)
          replace r8 := r8.drew
          replace hc := hc.drew
          clear r2 r11
          have hx2 : R7.drew.cell? ⟨gx, 1, none⟩ = some (.string ⟨#[51]⟩) := hx1
          generalize R7.drew = R8 at *
          refine' wpAnyH_take (i := 0) (oi := _) (v := _) ?_ (by kernel_rfl) (by kernel_rfl) (by kernel_rfl) ?_ (Or.inl ⟨?_, ?_⟩) (by assumption) ?_
          rotate_left 2
          · (simp only [List.getElem?_toArray, List.getElem?_cons_succ, List.getElem?_cons_zero]; rfl)
          · first | exact fun _ _ _ h => h | exact fun _ _ _ h => nomatch h.1
          · rfl
          · (intro W hSW; (try dsimp only at hSW); go_split_ands; first | (go_simp; done) | (go_simp; with_reducible rfl))
          try simp only [Act.put, List.setIfInBounds_toArray, List.set_cons_zero, List.set_cons_succ]
          refine' wpAnyH_take (i := 1) (oi := _) (v := _) ?_ (by kernel_rfl) (by kernel_rfl) (by kernel_rfl) ?_ (Or.inl ⟨?_, ?_⟩) (by assumption) ?_
          rotate_left 2
          · (simp only [List.getElem?_toArray, List.getElem?_cons_succ, List.getElem?_cons_zero]; rfl)
          · first | exact fun _ _ _ h => h | exact fun _ _ _ h => nomatch h.1
          · rfl
          · (intro W hSW; (try dsimp only at hSW); go_split_ands; first | (go_simp; done) | (go_simp; with_reducible rfl))
          try simp only [Act.put, List.setIfInBounds_toArray, List.set_cons_zero, List.set_cons_succ]
          refine' wpAnyH_take (i := 2) (oi := _) (v := _) ?_ (by kernel_rfl) (by kernel_rfl) (by kernel_rfl) ?_ (Or.inl ⟨?_, ?_⟩) (by assumption) ?_
          rotate_left 2
          · (simp only [List.getElem?_toArray, List.getElem?_cons_succ, List.getElem?_cons_zero]; rfl)
          · first | exact fun _ _ _ h => h | exact fun _ _ _ h => nomatch h.1
          · rfl
          · (intro W hSW; (try dsimp only at hSW); go_split_ands; first | (go_simp; done) | (go_simp; with_reducible rfl))
          try simp only [Act.put, List.setIfInBounds_toArray, List.set_cons_zero, List.set_cons_succ]
          refine' wpAnyH_take (i := 3) (oi := _) (v := _) ?_ (by kernel_rfl) (by kernel_rfl) (by kernel_rfl) ?_ (Or.inl ⟨?_, ?_⟩) (by assumption) ?_
          rotate_left 2
          · (simp only [List.getElem?_toArray, List.getElem?_cons_succ, List.getElem?_cons_zero]; rfl)
          · first | exact fun _ _ _ h => h | exact fun _ _ _ h => nomatch h.1
          · rfl
          · (intro W hSW; (try dsimp only at hSW); go_split_ands; first | (go_simp; done) | (go_simp; with_reducible rfl))
          try simp only [Act.put, List.setIfInBounds_toArray, List.set_cons_zero, List.set_cons_succ]
          refine' wpAnyH_take (i := 4) (oi := _) (v := _) ?_ (by kernel_rfl) (by kernel_rfl) (by kernel_rfl) ?_ (Or.inl ⟨?_, ?_⟩) (by assumption) ?_
          rotate_left 2
          · (simp only [List.getElem?_toArray, List.getElem?_cons_succ, List.getElem?_cons_zero]; rfl)
          · first | exact fun _ _ _ h => h | exact fun _ _ _ h => nomatch h.1
          · rfl
          · (intro W hSW; (try dsimp only at hSW); go_split_ands; first | (go_simp; done) | (go_simp; with_reducible rfl))
          try simp only [Act.put, List.setIfInBounds_toArray, List.set_cons_zero, List.set_cons_succ]
          refine' wpAnyH_take (i := 5) (oi := _) (v := _) ?_ (by kernel_rfl) (by kernel_rfl) (by kernel_rfl) ?_ (Or.inl ⟨?_, ?_⟩) (by assumption) ?_
          rotate_left 2
          · (simp only [List.getElem?_toArray, List.getElem?_cons_succ, List.getElem?_cons_zero]; rfl)
          · first | exact fun _ _ _ h => h | exact fun _ _ _ h => nomatch h.1
          · rfl
          · (intro W hSW; (try dsimp only at hSW); go_split_ands; first | (go_simp; done) | (go_simp; with_reducible rfl))
          try simp only [Act.put, List.setIfInBounds_toArray, List.set_cons_zero, List.set_cons_succ]
          refine' wpAnyH_take (i := 6) (oi := _) (v := _) ?_ (by kernel_rfl) (by kernel_rfl) (by kernel_rfl) ?_ (Or.inl ⟨?_, ?_⟩) (by assumption) ?_
          rotate_left 2
          · (simp only [List.getElem?_toArray, List.getElem?_cons_succ, List.getElem?_cons_zero]; rfl)
          · first | exact fun _ _ _ h => h | exact fun _ _ _ h => nomatch h.1
          · rfl
          · (intro W hSW; (try dsimp only at hSW); go_split_ands; first | (go_simp; done) | (go_simp; with_reducible rfl))
          try simp only [Act.put, List.setIfInBounds_toArray, List.set_cons_zero, List.set_cons_succ]
          refine' wpAnyH_take (i := 7) (oi := _) (v := _) ?_ (by kernel_rfl) (by kernel_rfl) (by kernel_rfl) ?_ (Or.inl ⟨?_, ?_⟩) (by assumption) ?_
          rotate_left 2
          · (simp only [List.getElem?_toArray, List.getElem?_cons_succ, List.getElem?_cons_zero]; rfl)
          · first | exact fun _ _ _ h => h | exact fun _ _ _ h => nomatch h.1
          · rfl
          · (intro W hSW; (try dsimp only at hSW); go_split_ands; first | (go_simp; done) | (go_simp; with_reducible rfl))
          try simp only [Act.put, List.setIfInBounds_toArray, List.set_cons_zero, List.set_cons_succ]
          refine' wpAnyH_take (i := 8) (oi := _) (v := _) ?_ (by kernel_rfl) (by kernel_rfl) (by kernel_rfl) ?_ (Or.inl ⟨?_, ?_⟩) (by assumption) ?_
          rotate_left 2
          · (simp only [List.getElem?_toArray, List.getElem?_cons_succ, List.getElem?_cons_zero]; rfl)
          · first | exact fun _ _ _ h => h | exact fun _ _ _ h => nomatch h.1
          · rfl
          · (intro W hSW; (try dsimp only at hSW); go_split_ands; first | (go_simp; done) | (go_simp; with_reducible rfl))
          try simp only [Act.put, List.setIfInBounds_toArray, List.set_cons_zero, List.set_cons_succ]
          refine' wpAnyH_take (i := 9) (oi := _) (v := _) ?_ (by kernel_rfl) (by kernel_rfl) (by kernel_rfl) ?_ (Or.inl ⟨?_, ?_⟩) (by assumption) ?_
          rotate_left 2
          · (simp only [List.getElem?_toArray, List.getElem?_cons_succ, List.getElem?_cons_zero]; rfl)
          · first | exact fun _ _ _ h => h | exact fun _ _ _ h => nomatch h.1
          · rfl
          · (intro W hSW; (try dsimp only at hSW); go_split_ands; first | (go_simp; done) | (go_simp; with_reducible rfl))
          try simp only [Act.put, List.setIfInBounds_toArray, List.set_cons_zero, List.set_cons_succ]
          refine' wpAnyH_take (i := 10) (oi := _) (v := _) ?_ (by kernel_rfl) (by kernel_rfl) (by kernel_rfl) ?_ (Or.inl ⟨?_, ?_⟩) (by assumption) ?_
          rotate_left 2
          · (simp only [List.getElem?_toArray, List.getElem?_cons_succ, List.getElem?_cons_zero]; rfl)
          · first | exact fun _ _ _ h => h | exact fun _ _ _ h => nomatch h.1
          · rfl
          · (intro W hSW; (try dsimp only at hSW); go_split_ands; first | (go_simp; done) | (go_simp; with_reducible rfl))
          try simp only [Act.put, List.setIfInBounds_toArray, List.set_cons_zero, List.set_cons_succ]
          clear hHeld
          refine wpAnyH_ready (rs := [11]) (by kernel_rfl) (by simp) ?_
          refine' AllReadyH.cons (o := _) ?_ (fun K hK => ?_) AllReadyH.nil
          rotate_left 1
          · (simp only [List.getElem?_toArray, List.getElem?_cons_succ, List.getElem?_cons_zero]; rfl)
          go_simp
          rw [show IntKind.u8.wrap (48 + IntKind.u8.wrap 3) = 51 by decide]
          have r9 := Row.new (W := R8) (cs := #[.int .u8 51]) (t := 5)
          have hn := below_alloc R8 (.cells #[.int .u8 51] 5)
          replace r8 := r8.on hn
          replace hc := chain hc hn
          have hgx := block_lt_of_cell (a := ⟨gx, 1, none⟩) hx2
          replace hx2 := (hn.cell (p := ⟨gx, 1, none⟩) hgx).trans hx2
          clear hn hgx
          generalize R8.alloc (.cells #[.int .u8 51] 5) = R9 at *
          generalize R8.heap.size = b9 at *
          refine hK.out _ _ ⟨r8.cell, hx2⟩ (fun hHeld => ?_)
          clear hK K hHeld
          have y9 := r9.cell
          have z9 := r9.lt
          have hcv := conv_one R9 b9 51 r9
          refine wpAnyH_ready (rs := [12]) (by kernel_rfl) (by simp) ?_
          refine' AllReadyH.cons (o := _) ?_ (fun K hK => ?_) AllReadyH.nil
          rotate_left 1
          · (simp only [List.getElem?_toArray, List.getElem?_cons_succ, List.getElem?_cons_zero]; rfl)
          go_simp
          clear y9 z9 hcv r9
          refine hK.out _ _ ⟨r8.cell, hx2⟩ (fun hHeld => ?_)
          clear hK K
          refine' wpAnyH_take (i := 13) (oi := _) (v := _) ?_ (by kernel_rfl) (by kernel_rfl) (by kernel_rfl) ?_ (Or.inl ⟨?_, ?_⟩) (by assumption) ?_
          rotate_left 2
          · (simp only [List.getElem?_toArray, List.getElem?_cons_succ, List.getElem?_cons_zero]; rfl)
          · first | exact fun _ _ _ h => h | exact fun _ _ _ h => nomatch h.1
          · rfl
          · (intro W hSW; (try dsimp only at hSW); go_split_ands; first | (go_simp; done) | (go_simp; with_reducible rfl))
          try simp only [Act.put, List.setIfInBounds_toArray, List.set_cons_zero, List.set_cons_succ]
          refine' wpAnyH_take (i := 14) (oi := _) (v := _) ?_ (by kernel_rfl) (by kernel_rfl) (by kernel_rfl) ?_ (Or.inl ⟨?_, ?_⟩) (by assumption) ?_
          rotate_left 2
          · (simp only [List.getElem?_toArray, List.getElem?_cons_succ, List.getElem?_cons_zero]; rfl)
          · first | exact fun _ _ _ h => h | exact fun _ _ _ h => nomatch h.1
          · rfl
          · (intro W hSW; (try dsimp only at hSW); go_split_ands; first | (go_simp; done) | (go_simp; with_reducible rfl))
          try simp only [Act.put, List.setIfInBounds_toArray, List.set_cons_zero, List.set_cons_succ]
          refine' wpAnyH_take (i := 15) (oi := _) (v := _) ?_ (by kernel_rfl) (by kernel_rfl) (by kernel_rfl) ?_ (Or.inl ⟨?_, ?_⟩) (by assumption) ?_
          rotate_left 2
          · (simp only [List.getElem?_toArray, List.getElem?_cons_succ, List.getElem?_cons_zero]; rfl)
          · first | exact fun _ _ _ h => h | exact fun _ _ _ h => nomatch h.1
          · rfl
          · (intro W hSW; (try dsimp only at hSW); go_split_ands; first | (go_simp; done) | (go_simp; with_reducible rfl))
          try simp only [Act.put, List.setIfInBounds_toArray, List.set_cons_zero, List.set_cons_succ]
          clear hHeld
          refine wpAnyH_ready (rs := [16]) (by kernel_rfl) (by simp) ?_
          refine' AllReadyH.cons (o := _) ?_ (fun K hK => ?_) AllReadyH.nil
          rotate_left 1
          · (simp only [List.getElem?_toArray, List.getElem?_cons_succ, List.getElem?_cons_zero]; rfl)
          go_simp
          refine Calls.mono (works _ (HE.out.on hc)) ?_
          rintro e X9 ⟨rfl, hn⟩
          replace r8 := r8.on hn
          have hgx := block_lt_of_cell (a := ⟨gx, 1, none⟩) hx2
          replace hx2 := (hn.cell (p := ⟨gx, 1, none⟩) hgx).trans hx2
          replace hc := chain hc hn
          clear hn hgx
          go_simp
          refine hK.out _ _ ⟨r8.cell, hx2⟩ (fun hHeld => ?_)
          clear hK K
          refine' wpAnyH_take (i := 17) (oi := _) (v := _) ?_ (by kernel_rfl) (by kernel_rfl) (by kernel_rfl) ?_ (Or.inl ⟨?_, ?_⟩) (by assumption) ?_
          rotate_left 2
          · (simp only [List.getElem?_toArray, List.getElem?_cons_succ, List.getElem?_cons_zero]; rfl)
          · first | exact fun _ _ _ h => h | exact fun _ _ _ h => nomatch h.1
          · rfl
          · (intro W hSW; (try dsimp only at hSW); go_split_ands; first | (go_simp; done) | (go_simp; with_reducible rfl))
          try simp only [Act.put, List.setIfInBounds_toArray, List.set_cons_zero, List.set_cons_succ]
          refine' wpAnyH_take (i := 18) (oi := _) (v := _) ?_ (by kernel_rfl) (by kernel_rfl) (by kernel_rfl) ?_ (Or.inl ⟨?_, ?_⟩) (by assumption) ?_
          rotate_left 2
          · (simp only [List.getElem?_toArray, List.getElem?_cons_succ, List.getElem?_cons_zero]; rfl)
          · first | exact fun _ _ _ h => h | exact fun _ _ _ h => nomatch h.1
          · rfl
          · (intro W hSW; (try dsimp only at hSW); go_split_ands; first | (go_simp; done) | (go_simp; with_reducible rfl))
          try simp only [Act.put, List.setIfInBounds_toArray, List.set_cons_zero, List.set_cons_succ]
          clear hHeld
          refine wpAnyH_done (by kernel_rfl) ?_ _
          go_wp2_with fail
          go_returns
          exact ⟨rfl, hc⟩
      · rw [show inB ((K : Int) + 1) 1 12 = false by unfold inB; rw [decide_eq_false h12, Bool.and_false]]
        have yr2 := r2.cell
        have zr2 := r2.lt
        have yr8 := r8.cell
        have zr8 := r8.lt
        have yr11 := r11.cell
        have zr11 := r11.lt
        go_wp2_with fail
        refine Calls.mono (works _ (HE.out.on hc)) ?_
        rintro e R8 ⟨rfl, hn⟩
        clear yr2 yr8 yr11 zr2 zr8 zr11
        replace r2 := r2.on hn
        replace r8 := r8.on hn
        replace r11 := r11.on hn
        replace hc := chain hc hn
        clear hn
        have yr2 := r2.cell
        have zr2 := r2.lt
        have yr8 := r8.cell
        have zr8 := r8.lt
        have yr11 := r11.cell
        have zr11 := r11.lt
        go_wp2_with fail
        go_returns
        exact ⟨rfl, hc⟩
end Go.Proofs.YtbbleafcflhmiaaGreatDoor
