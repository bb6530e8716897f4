/- The pair of tables: set (chapter 37). -/
import Derived.Test.YtkjpdciccablpaaGreatDoorL5a
namespace Go.Proofs.YtkjpdciccablpaaGreatDoor
open Go.RowKit
set_option linter.unusedVariables false
set_option linter.unusedSimpArgs false
set_option maxHeartbeats 16000000
set_option maxRecDepth 20000
theorem own_cells {t : TypeId} {k b : Nat} {W : World} {g n c : Nat} {L : List (List Value)} {j : Nat} {e : List Value} (h : OwnsC t k b W (.slice (some ⟨g, 0, none⟩) n c) L) (hj : L[j]? = some e) : ∀ q, q < k → W.cell? ⟨g, j * k + q, none⟩ = e[q]? := by
  obtain ⟨g', c', hv, _, hc⟩ := h.cells hj
  injection hv with h1 h2 h3
  injection h1 with h1
  injection h1 with h1
  subst h1
  exact hc
theorem pset1 {w : World} {F : Nat → Prop} {pp B k : Nat} {T : TabR} (h : Pair w F pp T) (hG : GoodT B T) (hB : B ≤ 150) (hr : T.rs[k]? = some ⟨1, 0, 0⟩) (tq : Int) :
    Calls Tryz.prog 17 #[ptr pp, .int .i64 k, .int .i64 tq] w fun e w' => e = .returned (.bool true) ∧ Pair w' (fun b => F b ∨ FreshL w w' b) pp (closeT T k) ∧ But F w w' := by
  obtain ⟨F1, F2, p1, p2, vd, vs, h⟩ := h
  have hkl := (List.getElem?_eq_some_iff.1 hr).1
  have h60 := hG.most
  have hk60 : k < 60 := by omega
  obtain ⟨dk, hdk⟩ : ∃ d, T.ds[k]? = some d := ⟨_, List.getElem?_eq_getElem (by rw [hG.len]; exact hkl)⟩
  obtain ⟨i, g, hd, hs, g1, g2, hu, hcl⟩ := live_slot hG hr
  obtain rfl : dk = (i, g) := by rw [hd] at hdk; exact (Option.some.inj hdk).symm
  obtain ⟨sl', hsl'⟩ : ∃ l, T.sl.set i ⟨none, g + 1⟩ = l := ⟨_, rfl⟩
  obtain ⟨r', hr'⟩ : ∃ r : RS, r = ⟨2, 0, 1⟩ := ⟨_, rfl⟩
  have CC := Lib.hid (fun W (ht : Tab W F1 p1 T.sl T.rs) => ptclose ht hs (by omega) hu)
  have RC := Lib.hid (fun W (ht : RTab W F2 p2 T.sl T.rs) => rptclose ht hs (by omega))
  have CX := Lib.hid (pres_close k hk60)
  have RX := Lib.hid (rpres_close k hk60)
  have hok : rErr 1 k 1 r'.st (whyS r'.st) r'.tr r'.nx tagB = 0 := by
    rw [hr']
    exact res_ok (r := ⟨2, 0, 1⟩) hk60 (.inl ⟨rfl, by decide, by decide, .inl rfl⟩)
  have hst1 : r'.st ≠ 1 := by rw [hr']; decide
  have hgone := gone_slot (g1 := g + 1) hs hu
  rw [hsl'] at hgone hcl CC RC
  rw [← hr'] at hcl CX RX
  have hrst : r'.st = 2 := by rw [hr']
  clear hsl' hr' hs hu
  have CG := Lib.hid (fun W (ht : Tab W F1 p1 T.sl T.rs) => ptget ht hr)
  have RG := Lib.hid (fun W (ht : RTab W F2 p2 T.sl T.rs) => rptget ht hr)
  have CS := Lib.hid (fun W (ht : Tab W F1 p1 sl' T.rs) => ptset (r' := r') ht hr hst1 hok hgone)
  have RS2 := Lib.hid (fun W G (ht : RTab W G p2 sl' T.rs) => rptset (r' := r') ht hr hst1 hok hgone)
  have HCL := Lib.hid hcl
  have HRST := Lib.hid hrst
  obtain ⟨gs, cs, hvs, hgs, hsc⟩ := h.state hr
  obtain ⟨gd, cd, hvd, hgd, d0, d1, d2⟩ := h.desc hdk
  clear hsc d0 d1 d2
  subst hvs
  subst hvd
  have HP := Lib.hid h
  obtain ⟨N, hN⟩ : ∃ N, T.rs.length = N := ⟨_, rfl⟩
  obtain ⟨DN, hDN⟩ : ∃ N, T.ds.length = N := ⟨_, rfl⟩
  have hdl := hG.len
  rw [hN] at HP hkl h60 hdl
  rw [hDN] at HP hdl
  have HSC := Lib.hid (stL_get hr)
  have HDC := Lib.hid (deL_get hdk)
  have HNN := Lib.hid hN
  have eO : resV k ⟨1, 0, 0⟩ = .agg #[.int .i64 1, .int .i64 k, .int .u32 1, .int .i64 1, .int .i64 0, .int .i64 0, .int .i64 0, .string tagB] := rfl
  have eN : resV k r' = .agg #[.int .i64 1, .int .i64 k, .int .u32 1, .int .i64 r'.st, .int .i64 (whyS r'.st), .int .i64 r'.tr, .int .i64 r'.nx, .string tagB] := rfl
  rw [eO] at CG RG
  rw [eO, eN] at CX RX
  rw [eN] at CS RS2
  obtain ⟨wy, hwy⟩ : ∃ y, whyS r'.st = y := ⟨_, rfl⟩
  rw [hwy] at CX RX CS RS2
  have rp := HP.out.row
  have hds := HP.out.ds
  have hst := HP.out.st
  have hT1 := HP.out.t1
  have hT2 := HP.out.t2
  have hb := But.refl F w
  have hF1w : ∀ b, F1 b → b < w.heap.size := fun b hq => HP.out.fin b (HP.out.i1 b hq)
  have hF2w : ∀ b, F2 b → b < w.heap.size := fun b hq => HP.out.fin b (HP.out.i2 b hq)
  have HND := Lib.hid HP.out.nd
  have HNS := Lib.hid HP.out.ns
  clear h hG hr hdk hcl hok hgone hrst eO eN hwy hN hDN hd g1 g2
  have ek : IntKind.i64.wrap ((k : Int) + 1) = (k : Int) + 1 := IntWalk.i64_in _ ⟨by omega, by omega⟩
  have k0 : (0 : Int) ≤ (k : Int) := by omega
  have k1 : (k : Int) < (N : Int) := by omega
  have k2 : (k : Int) < (DN : Int) := by omega
  go_enter Tryz.func17, Tryz.ntmps17
  have yp := rp.cell
  have zp := rp.lt
  go_wp2_with fail
  refine Calls.mono (CG.out _ hT1) ?_
  rintro e V1 ⟨rfl, hn⟩
  clear yp zp
  replace rp := rp.on hn
  replace hds := hds.on hn
  replace hst := hst.on hn
  replace hT1 := hT1.on hn
  replace hT2 := hT2.on hn
  replace hb := hb.on hn
  clear hn
  go_upto_region 2 with fail
  have hn := below_alloc V1 (.cells #[.int .i64 1, .int .i64 k, .int .u32 1, .int .i64 1, .int .i64 0, .int .i64 0, .int .i64 0, .string tagB] ResT)
  have r7 := Row.new (W := V1) (cs := #[.int .i64 1, .int .i64 k, .int .u32 1, .int .i64 1, .int .i64 0, .int .i64 0, .int .i64 0, .string tagB]) (t := ResT)
  have ha7 := hb.size
  replace rp := rp.on hn
  replace hds := hds.on hn
  replace hst := hst.on hn
  replace hT1 := hT1.on hn
  replace hT2 := hT2.on hn
  replace hb := hb.on hn
  clear hn
  generalize V1.alloc _ = V2 at *
  generalize V1.heap.size = a7 at *
  have yp := rp.cell
  have zp := rp.lt
  go_wp2_with fail
  refine Calls.mono (RG.out _ hT2) ?_
  rintro e V3 ⟨rfl, hn⟩
  clear yp zp
  replace rp := rp.on hn
  replace hds := hds.on hn
  replace hst := hst.on hn
  replace hT1 := hT1.on hn
  replace hT2 := hT2.on hn
  replace r7 := r7.on hn
  replace hb := hb.on hn
  clear hn
  go_upto_region 3 with fail
  have h79 := r7.lt
  have hn := below_alloc V3 (.cells #[.int .i64 1, .int .i64 k, .int .u32 1, .int .i64 1, .int .i64 0, .int .i64 0, .int .i64 0, .string tagB] RrT)
  have r9 := Row.new (W := V3) (cs := #[.int .i64 1, .int .i64 k, .int .u32 1, .int .i64 1, .int .i64 0, .int .i64 0, .int .i64 0, .string tagB]) (t := RrT)
  have ha9 := hb.size
  replace rp := rp.on hn
  replace hds := hds.on hn
  replace hst := hst.on hn
  replace hT1 := hT1.on hn
  replace hT2 := hT2.on hn
  replace r7 := r7.on hn
  replace hb := hb.on hn
  clear hn
  generalize V3.alloc _ = V4 at *
  generalize V3.heap.size = a9 at *
  have ysc := own_cells hst HSC.out 0 (by omega)
  simp only [Nat.mul_one, Nat.add_zero, List.getElem?_cons_zero] at ysc
  have yp := rp.cell
  have zp := rp.lt
  go_upto_region 6 with fail
  clear yp zp ysc
  have d0 := own_cells hds HDC.out 0 (by omega)
  have d1 := own_cells hds HDC.out 1 (by omega)
  have d2 := own_cells hds HDC.out 2 (by omega)
  simp only [Nat.add_zero, deC, List.getElem?_cons_zero, List.getElem?_cons_succ] at d0 d1 d2
  refine wp_region_held_drew (S := fun W' => (∀ x, W'.cell? ⟨pp, x, none⟩ = (#[ptr p1, ptr p2, .slice (some ⟨gd, 0, none⟩) DN cd, .slice (some ⟨gs, 0, none⟩) N cs] : Array Value)[x]?) ∧ W'.cell? ⟨gd, k * 3, none⟩ = some (.int .i64 1) ∧ W'.cell? ⟨gd, k * 3 + 1, none⟩ = some (.int .i64 i) ∧ W'.cell? ⟨gd, k * 3 + 2, none⟩ = some (.int .u32 g)) (by kernel_rfl) ⟨rp.cell, d0, d1, d2⟩ (fun hHeld => ?_)
  clear d0 d1 d2
  have hn := (Below.refl V4.heap.size V4).drew
  replace rp := rp.on hn
  replace hds := hds.on hn
  replace hst := hst.on hn
  replace hT1 := hT1.on hn
  replace hT2 := hT2.on hn
  replace r7 := r7.on hn
  replace r9 := r9.on hn
  replace hb := hb.on hn
  clear hn
  generalize V4.drew = X at *
  have h9X := r9.lt
  refine' wpAnyH_take (i := 0) (oi := _) (v := _) ?_ (by kernel_rfl) (by kernel_rfl) (by kernel_rfl) ?_ (Or.inl ⟨?_, ?_⟩) (by assumption) ?_
  rotate_left 2
  · (simp only [List.getElem?_toArray, List.getElem?_cons_succ, List.getElem?_cons_zero]; rfl)
  · first | exact fun _ _ _ h => h | exact fun _ _ _ h => nomatch h.1
  · rfl
  · (intro W hSW; (try dsimp only at hSW); go_split_ands; first | (go_simp; done) | (go_simp; with_reducible rfl))
  try simp only [Act.put, List.setIfInBounds_toArray, List.set_cons_zero, List.set_cons_succ]
  refine' wpAnyH_take (i := 1) (oi := _) (v := _) ?_ (by kernel_rfl) (by kernel_rfl) (by kernel_rfl) ?_ (Or.inl ⟨?_, ?_⟩) (by assumption) ?_
  rotate_left 2
  · (simp only [List.getElem?_toArray, List.getElem?_cons_succ, List.getElem?_cons_zero]; rfl)
  · first | exact fun _ _ _ h => h | exact fun _ _ _ h => nomatch h.1
  · rfl
  · (intro W hSW; (try dsimp only at hSW); go_split_ands; first | (go_simp; done) | (go_simp; with_reducible rfl))
  try simp only [Act.put, List.setIfInBounds_toArray, List.set_cons_zero, List.set_cons_succ]
  refine' wpAnyH_take (i := 2) (oi := _) (v := _) ?_ (by kernel_rfl) (by kernel_rfl) (by kernel_rfl) ?_ (Or.inl ⟨?_, ?_⟩) (by assumption) ?_
  rotate_left 2
  · (simp only [List.getElem?_toArray, List.getElem?_cons_succ, List.getElem?_cons_zero]; rfl)
  · first | exact fun _ _ _ h => h | exact fun _ _ _ h => nomatch h.1
  · rfl
  · (intro W hSW; (try dsimp only at hSW); go_split_ands; first | (go_simp; done) | (go_simp; with_reducible rfl))
  try simp only [Act.put, List.setIfInBounds_toArray, List.set_cons_zero, List.set_cons_succ]
  refine' wpAnyH_take (i := 3) (oi := _) (v := _) ?_ (by kernel_rfl) (by kernel_rfl) (by kernel_rfl) ?_ (Or.inl ⟨?_, ?_⟩) (by assumption) ?_
  rotate_left 2
  · (simp only [List.getElem?_toArray, List.getElem?_cons_succ, List.getElem?_cons_zero]; rfl)
  · first | exact fun _ _ _ h => h | exact fun _ _ _ h => nomatch h.1
  · rfl
  · (intro W hSW; (try dsimp only at hSW); go_split_ands; first | (go_simp; done) | (go_simp; with_reducible rfl))
  try simp only [Act.put, List.setIfInBounds_toArray, List.set_cons_zero, List.set_cons_succ]
  refine' wpAnyH_take (i := 4) (oi := _) (v := _) ?_ (by kernel_rfl) (by kernel_rfl) (by kernel_rfl) ?_ (Or.inl ⟨?_, ?_⟩) (by assumption) ?_
  rotate_left 2
  · (simp only [List.getElem?_toArray, List.getElem?_cons_succ, List.getElem?_cons_zero]; rfl)
  · first | exact fun _ _ _ h => h | exact fun _ _ _ h => nomatch h.1
  · rfl
  · (intro W hSW; (try dsimp only at hSW); go_split_ands; first | (go_simp; done) | (go_simp; with_reducible rfl))
  try simp only [Act.put, List.setIfInBounds_toArray, List.set_cons_zero, List.set_cons_succ]
  refine' wpAnyH_take (i := 5) (oi := _) (v := _) ?_ (by kernel_rfl) (by kernel_rfl) (by kernel_rfl) ?_ (Or.inl ⟨?_, ?_⟩) (by assumption) ?_
  rotate_left 2
  · (simp only [List.getElem?_toArray, List.getElem?_cons_succ, List.getElem?_cons_zero]; rfl)
  · first | exact fun _ _ _ h => h | exact fun _ _ _ h => nomatch h.1
  · rfl
  · (intro W hSW; (try dsimp only at hSW); go_split_ands; first | (go_simp; done) | (go_simp; with_reducible rfl))
  try simp only [Act.put, List.setIfInBounds_toArray, List.set_cons_zero, List.set_cons_succ]
  refine' wpAnyH_take (i := 6) (oi := _) (v := _) ?_ (by kernel_rfl) (by kernel_rfl) (by kernel_rfl) ?_ (Or.inl ⟨?_, ?_⟩) (by assumption) ?_
  rotate_left 2
  · (simp only [List.getElem?_toArray, List.getElem?_cons_succ, List.getElem?_cons_zero]; rfl)
  · first | exact fun _ _ _ h => h | exact fun _ _ _ h => nomatch h.1
  · rfl
  · (intro W hSW; (try dsimp only at hSW); go_split_ands; first | (go_simp; done) | (go_simp; with_reducible rfl))
  try simp only [Act.put, List.setIfInBounds_toArray, List.set_cons_zero, List.set_cons_succ]
  refine' wpAnyH_take (i := 7) (oi := _) (v := _) ?_ (by kernel_rfl) (by kernel_rfl) (by kernel_rfl) ?_ (Or.inl ⟨?_, ?_⟩) (by assumption) ?_
  rotate_left 2
  · (simp only [List.getElem?_toArray, List.getElem?_cons_succ, List.getElem?_cons_zero]; rfl)
  · first | exact fun _ _ _ h => h | exact fun _ _ _ h => nomatch h.1
  · rfl
  · (intro W hSW; (try dsimp only at hSW); go_split_ands; first | (go_simp; done) | (go_simp; with_reducible rfl))
  try simp only [Act.put, List.setIfInBounds_toArray, List.set_cons_zero, List.set_cons_succ]
  refine' wpAnyH_take (i := 8) (oi := _) (v := _) ?_ (by kernel_rfl) (by kernel_rfl) (by kernel_rfl) ?_ (Or.inl ⟨?_, ?_⟩) (by assumption) ?_
  rotate_left 2
  · (simp only [List.getElem?_toArray, List.getElem?_cons_succ, List.getElem?_cons_zero]; rfl)
  · first | exact fun _ _ _ h => h | exact fun _ _ _ h => nomatch h.1
  · rfl
  · (intro W hSW; (try dsimp only at hSW); go_split_ands; first | (go_simp; done) | (go_simp; with_reducible rfl))
  try simp only [Act.put, List.setIfInBounds_toArray, List.set_cons_zero, List.set_cons_succ]
  refine' wpAnyH_take (i := 9) (oi := _) (v := _) ?_ (by kernel_rfl) (by kernel_rfl) (by kernel_rfl) ?_ (Or.inl ⟨?_, ?_⟩) (by assumption) ?_
  rotate_left 2
  · (simp only [List.getElem?_toArray, List.getElem?_cons_succ, List.getElem?_cons_zero]; rfl)
  · first | exact fun _ _ _ h => h | exact fun _ _ _ h => nomatch h.1
  · rfl
  · (intro W hSW; (try dsimp only at hSW); go_split_ands; first | (go_simp; done) | (go_simp; with_reducible rfl))
  try simp only [Act.put, List.setIfInBounds_toArray, List.set_cons_zero, List.set_cons_succ]
  refine' wpAnyH_take (i := 10) (oi := _) (v := _) ?_ (by kernel_rfl) (by kernel_rfl) (by kernel_rfl) ?_ (Or.inl ⟨?_, ?_⟩) (by assumption) ?_
  rotate_left 2
  · (simp only [List.getElem?_toArray, List.getElem?_cons_succ, List.getElem?_cons_zero]; rfl)
  · first | exact fun _ _ _ h => h | exact fun _ _ _ h => nomatch h.1
  · rfl
  · (intro W hSW; (try dsimp only at hSW); go_split_ands; first | (go_simp; done) | (go_simp; with_reducible rfl))
  try simp only [Act.put, List.setIfInBounds_toArray, List.set_cons_zero, List.set_cons_succ]
  clear hHeld
  refine wpAnyH_ready (rs := [11]) (by kernel_rfl) (by simp) ?_
  refine' AllReadyH.cons (o := _) ?_ (fun K hK => ?_) AllReadyH.nil
  rotate_left 1
  · (simp only [List.getElem?_toArray, List.getElem?_cons_succ, List.getElem?_cons_zero]; rfl)
  go_simp
  refine (CC.out _ hT1).mono ?_
  rintro e V6 ⟨⟨bb, rfl⟩, hTn, hbn⟩
  go_simp
  replace rp := hbn.row rp (HP.out.n1p)
  replace r7 := hbn.row r7 (fun h => by have := hF1w _ h; omega)
  replace r9 := hbn.row r9 (fun h => by have := hF1w _ h; omega)
  replace hds := hds.via (fun b hq => hbn.block b (hds.lt b hq).2 ((HND.out b hq).1))
  replace hst := hst.via (fun b hq => hbn.block b (hst.lt b hq).2 ((HNS.out b hq).1))
  replace hT2 := hT2.but hbn (fun b h1 h2 => HP.out.n12 b h2 h1)
  replace hb := hb.trans hbn (fun b _ h => HP.out.i1 b h)
  clear hT1
  have hT1 := hTn
  have d0 := own_cells hds HDC.out 0 (by omega)
  have d1 := own_cells hds HDC.out 1 (by omega)
  have d2 := own_cells hds HDC.out 2 (by omega)
  simp only [Nat.add_zero, deC, List.getElem?_cons_zero, List.getElem?_cons_succ] at d0 d1 d2
  clear hTn hbn h9X
  refine hK.out _ _ ⟨rp.cell, d0, d1, d2⟩ (fun hHeld => ?_)
  clear hK K d0 d1 d2
  refine' wpAnyH_take (i := 12) (oi := _) (v := _) ?_ (by kernel_rfl) (by kernel_rfl) (by kernel_rfl) ?_ (Or.inl ⟨?_, ?_⟩) (by assumption) ?_
  rotate_left 2
  · (simp only [List.getElem?_toArray, List.getElem?_cons_succ, List.getElem?_cons_zero]; rfl)
  · first | exact fun _ _ _ h => h | exact fun _ _ _ h => nomatch h.1
  · rfl
  · (intro W hSW; (try dsimp only at hSW); go_split_ands; first | (go_simp; done) | (go_simp; with_reducible rfl))
  try simp only [Act.put, List.setIfInBounds_toArray, List.set_cons_zero, List.set_cons_succ]
  refine' wpAnyH_take (i := 13) (oi := _) (v := _) ?_ (by kernel_rfl) (by kernel_rfl) (by kernel_rfl) ?_ (Or.inl ⟨?_, ?_⟩) (by assumption) ?_
  rotate_left 2
  · (simp only [List.getElem?_toArray, List.getElem?_cons_succ, List.getElem?_cons_zero]; rfl)
  · first | exact fun _ _ _ h => h | exact fun _ _ _ h => nomatch h.1
  · rfl
  · (intro W hSW; (try dsimp only at hSW); go_split_ands; first | (go_simp; done) | (go_simp; with_reducible rfl))
  try simp only [Act.put, List.setIfInBounds_toArray, List.set_cons_zero, List.set_cons_succ]
  refine' wpAnyH_take (i := 14) (oi := _) (v := _) ?_ (by kernel_rfl) (by kernel_rfl) (by kernel_rfl) ?_ (Or.inl ⟨?_, ?_⟩) (by assumption) ?_
  rotate_left 2
  · (simp only [List.getElem?_toArray, List.getElem?_cons_succ, List.getElem?_cons_zero]; rfl)
  · first | exact fun _ _ _ h => h | exact fun _ _ _ h => nomatch h.1
  · rfl
  · (intro W hSW; (try dsimp only at hSW); go_split_ands; first | (go_simp; done) | (go_simp; with_reducible rfl))
  try simp only [Act.put, List.setIfInBounds_toArray, List.set_cons_zero, List.set_cons_succ]
  refine' wpAnyH_take (i := 15) (oi := _) (v := _) ?_ (by kernel_rfl) (by kernel_rfl) (by kernel_rfl) ?_ (Or.inl ⟨?_, ?_⟩) (by assumption) ?_
  rotate_left 2
  · (simp only [List.getElem?_toArray, List.getElem?_cons_succ, List.getElem?_cons_zero]; rfl)
  · first | exact fun _ _ _ h => h | exact fun _ _ _ h => nomatch h.1
  · rfl
  · (intro W hSW; (try dsimp only at hSW); go_split_ands; first | (go_simp; done) | (go_simp; with_reducible rfl))
  try simp only [Act.put, List.setIfInBounds_toArray, List.set_cons_zero, List.set_cons_succ]
  refine' wpAnyH_take (i := 16) (oi := _) (v := _) ?_ (by kernel_rfl) (by kernel_rfl) (by kernel_rfl) ?_ (Or.inl ⟨?_, ?_⟩) (by assumption) ?_
  rotate_left 2
  · (simp only [List.getElem?_toArray, List.getElem?_cons_succ, List.getElem?_cons_zero]; rfl)
  · first | exact fun _ _ _ h => h | exact fun _ _ _ h => nomatch h.1
  · rfl
  · (intro W hSW; (try dsimp only at hSW); go_split_ands; first | (go_simp; done) | (go_simp; with_reducible rfl))
  try simp only [Act.put, List.setIfInBounds_toArray, List.set_cons_zero, List.set_cons_succ]
  refine' wpAnyH_take (i := 17) (oi := _) (v := _) ?_ (by kernel_rfl) (by kernel_rfl) (by kernel_rfl) ?_ (Or.inl ⟨?_, ?_⟩) (by assumption) ?_
  rotate_left 2
  · (simp only [List.getElem?_toArray, List.getElem?_cons_succ, List.getElem?_cons_zero]; rfl)
  · first | exact fun _ _ _ h => h | exact fun _ _ _ h => nomatch h.1
  · rfl
  · (intro W hSW; (try dsimp only at hSW); go_split_ands; first | (go_simp; done) | (go_simp; with_reducible rfl))
  try simp only [Act.put, List.setIfInBounds_toArray, List.set_cons_zero, List.set_cons_succ]
  refine' wpAnyH_take (i := 18) (oi := _) (v := _) ?_ (by kernel_rfl) (by kernel_rfl) (by kernel_rfl) ?_ (Or.inl ⟨?_, ?_⟩) (by assumption) ?_
  rotate_left 2
  · (simp only [List.getElem?_toArray, List.getElem?_cons_succ, List.getElem?_cons_zero]; rfl)
  · first | exact fun _ _ _ h => h | exact fun _ _ _ h => nomatch h.1
  · rfl
  · (intro W hSW; (try dsimp only at hSW); go_split_ands; first | (go_simp; done) | (go_simp; with_reducible rfl))
  try simp only [Act.put, List.setIfInBounds_toArray, List.set_cons_zero, List.set_cons_succ]
  clear hHeld
  refine wpAnyH_done (by kernel_rfl) ?_ _
  go_upto_region 7 with fail
  have d0 := own_cells hds HDC.out 0 (by omega)
  have d1 := own_cells hds HDC.out 1 (by omega)
  have d2 := own_cells hds HDC.out 2 (by omega)
  simp only [Nat.add_zero, deC, List.getElem?_cons_zero, List.getElem?_cons_succ] at d0 d1 d2
  refine wp_region_held_drew (S := fun W' => (∀ x, W'.cell? ⟨pp, x, none⟩ = (#[ptr p1, ptr p2, .slice (some ⟨gd, 0, none⟩) DN cd, .slice (some ⟨gs, 0, none⟩) N cs] : Array Value)[x]?) ∧ W'.cell? ⟨gd, k * 3, none⟩ = some (.int .i64 1) ∧ W'.cell? ⟨gd, k * 3 + 1, none⟩ = some (.int .i64 i) ∧ W'.cell? ⟨gd, k * 3 + 2, none⟩ = some (.int .u32 g)) (by kernel_rfl) ⟨rp.cell, d0, d1, d2⟩ (fun hHeld => ?_)
  clear d0 d1 d2
  have hn := (Below.refl V6.heap.size V6).drew
  replace rp := rp.on hn
  replace hds := hds.on hn
  replace hst := hst.on hn
  replace hT1 := hT1.on hn
  replace hT2 := hT2.on hn
  replace r7 := r7.on hn
  replace r9 := r9.on hn
  replace hb := hb.on hn
  clear hn
  generalize V6.drew = X at *
  have h9X := r9.lt
  refine' wpAnyH_take (i := 0) (oi := _) (v := _) ?_ (by kernel_rfl) (by kernel_rfl) (by kernel_rfl) ?_ (Or.inl ⟨?_, ?_⟩) (by assumption) ?_
  rotate_left 2
  · (simp only [List.getElem?_toArray, List.getElem?_cons_succ, List.getElem?_cons_zero]; rfl)
  · first | exact fun _ _ _ h => h | exact fun _ _ _ h => nomatch h.1
  · rfl
  · (intro W hSW; (try dsimp only at hSW); go_split_ands; first | (go_simp; done) | (go_simp; with_reducible rfl))
  try simp only [Act.put, List.setIfInBounds_toArray, List.set_cons_zero, List.set_cons_succ]
  refine' wpAnyH_take (i := 1) (oi := _) (v := _) ?_ (by kernel_rfl) (by kernel_rfl) (by kernel_rfl) ?_ (Or.inl ⟨?_, ?_⟩) (by assumption) ?_
  rotate_left 2
  · (simp only [List.getElem?_toArray, List.getElem?_cons_succ, List.getElem?_cons_zero]; rfl)
  · first | exact fun _ _ _ h => h | exact fun _ _ _ h => nomatch h.1
  · rfl
  · (intro W hSW; (try dsimp only at hSW); go_split_ands; first | (go_simp; done) | (go_simp; with_reducible rfl))
  try simp only [Act.put, List.setIfInBounds_toArray, List.set_cons_zero, List.set_cons_succ]
  refine' wpAnyH_take (i := 2) (oi := _) (v := _) ?_ (by kernel_rfl) (by kernel_rfl) (by kernel_rfl) ?_ (Or.inl ⟨?_, ?_⟩) (by assumption) ?_
  rotate_left 2
  · (simp only [List.getElem?_toArray, List.getElem?_cons_succ, List.getElem?_cons_zero]; rfl)
  · first | exact fun _ _ _ h => h | exact fun _ _ _ h => nomatch h.1
  · rfl
  · (intro W hSW; (try dsimp only at hSW); go_split_ands; first | (go_simp; done) | (go_simp; with_reducible rfl))
  try simp only [Act.put, List.setIfInBounds_toArray, List.set_cons_zero, List.set_cons_succ]
  refine' wpAnyH_take (i := 3) (oi := _) (v := _) ?_ (by kernel_rfl) (by kernel_rfl) (by kernel_rfl) ?_ (Or.inl ⟨?_, ?_⟩) (by assumption) ?_
  rotate_left 2
  · (simp only [List.getElem?_toArray, List.getElem?_cons_succ, List.getElem?_cons_zero]; rfl)
  · first | exact fun _ _ _ h => h | exact fun _ _ _ h => nomatch h.1
  · rfl
  · (intro W hSW; (try dsimp only at hSW); go_split_ands; first | (go_simp; done) | (go_simp; with_reducible rfl))
  try simp only [Act.put, List.setIfInBounds_toArray, List.set_cons_zero, List.set_cons_succ]
  refine' wpAnyH_take (i := 4) (oi := _) (v := _) ?_ (by kernel_rfl) (by kernel_rfl) (by kernel_rfl) ?_ (Or.inl ⟨?_, ?_⟩) (by assumption) ?_
  rotate_left 2
  · (simp only [List.getElem?_toArray, List.getElem?_cons_succ, List.getElem?_cons_zero]; rfl)
  · first | exact fun _ _ _ h => h | exact fun _ _ _ h => nomatch h.1
  · rfl
  · (intro W hSW; (try dsimp only at hSW); go_split_ands; first | (go_simp; done) | (go_simp; with_reducible rfl))
  try simp only [Act.put, List.setIfInBounds_toArray, List.set_cons_zero, List.set_cons_succ]
  refine' wpAnyH_take (i := 5) (oi := _) (v := _) ?_ (by kernel_rfl) (by kernel_rfl) (by kernel_rfl) ?_ (Or.inl ⟨?_, ?_⟩) (by assumption) ?_
  rotate_left 2
  · (simp only [List.getElem?_toArray, List.getElem?_cons_succ, List.getElem?_cons_zero]; rfl)
  · first | exact fun _ _ _ h => h | exact fun _ _ _ h => nomatch h.1
  · rfl
  · (intro W hSW; (try dsimp only at hSW); go_split_ands; first | (go_simp; done) | (go_simp; with_reducible rfl))
  try simp only [Act.put, List.setIfInBounds_toArray, List.set_cons_zero, List.set_cons_succ]
  refine' wpAnyH_take (i := 6) (oi := _) (v := _) ?_ (by kernel_rfl) (by kernel_rfl) (by kernel_rfl) ?_ (Or.inl ⟨?_, ?_⟩) (by assumption) ?_
  rotate_left 2
  · (simp only [List.getElem?_toArray, List.getElem?_cons_succ, List.getElem?_cons_zero]; rfl)
  · first | exact fun _ _ _ h => h | exact fun _ _ _ h => nomatch h.1
  · rfl
  · (intro W hSW; (try dsimp only at hSW); go_split_ands; first | (go_simp; done) | (go_simp; with_reducible rfl))
  try simp only [Act.put, List.setIfInBounds_toArray, List.set_cons_zero, List.set_cons_succ]
  refine' wpAnyH_take (i := 7) (oi := _) (v := _) ?_ (by kernel_rfl) (by kernel_rfl) (by kernel_rfl) ?_ (Or.inl ⟨?_, ?_⟩) (by assumption) ?_
  rotate_left 2
  · (simp only [List.getElem?_toArray, List.getElem?_cons_succ, List.getElem?_cons_zero]; rfl)
  · first | exact fun _ _ _ h => h | exact fun _ _ _ h => nomatch h.1
  · rfl
  · (intro W hSW; (try dsimp only at hSW); go_split_ands; first | (go_simp; done) | (go_simp; with_reducible rfl))
  try simp only [Act.put, List.setIfInBounds_toArray, List.set_cons_zero, List.set_cons_succ]
  refine' wpAnyH_take (i := 8) (oi := _) (v := _) ?_ (by kernel_rfl) (by kernel_rfl) (by kernel_rfl) ?_ (Or.inl ⟨?_, ?_⟩) (by assumption) ?_
  rotate_left 2
  · (simp only [List.getElem?_toArray, List.getElem?_cons_succ, List.getElem?_cons_zero]; rfl)
  · first | exact fun _ _ _ h => h | exact fun _ _ _ h => nomatch h.1
  · rfl
  · (intro W hSW; (try dsimp only at hSW); go_split_ands; first | (go_simp; done) | (go_simp; with_reducible rfl))
  try simp only [Act.put, List.setIfInBounds_toArray, List.set_cons_zero, List.set_cons_succ]
  refine' wpAnyH_take (i := 9) (oi := _) (v := _) ?_ (by kernel_rfl) (by kernel_rfl) (by kernel_rfl) ?_ (Or.inl ⟨?_, ?_⟩) (by assumption) ?_
  rotate_left 2
  · (simp only [List.getElem?_toArray, List.getElem?_cons_succ, List.getElem?_cons_zero]; rfl)
  · first | exact fun _ _ _ h => h | exact fun _ _ _ h => nomatch h.1
  · rfl
  · (intro W hSW; (try dsimp only at hSW); go_split_ands; first | (go_simp; done) | (go_simp; with_reducible rfl))
  try simp only [Act.put, List.setIfInBounds_toArray, List.set_cons_zero, List.set_cons_succ]
  refine' wpAnyH_take (i := 10) (oi := _) (v := _) ?_ (by kernel_rfl) (by kernel_rfl) (by kernel_rfl) ?_ (Or.inl ⟨?_, ?_⟩) (by assumption) ?_
  rotate_left 2
  · (simp only [List.getElem?_toArray, List.getElem?_cons_succ, List.getElem?_cons_zero]; rfl)
  · first | exact fun _ _ _ h => h | exact fun _ _ _ h => nomatch h.1
  · rfl
  · (intro W hSW; (try dsimp only at hSW); go_split_ands; first | (go_simp; done) | (go_simp; with_reducible rfl))
  try simp only [Act.put, List.setIfInBounds_toArray, List.set_cons_zero, List.set_cons_succ]
  clear hHeld
  refine wpAnyH_ready (rs := [11]) (by kernel_rfl) (by simp) ?_
  refine' AllReadyH.cons (o := _) ?_ (fun K hK => ?_) AllReadyH.nil
  rotate_left 1
  · (simp only [List.getElem?_toArray, List.getElem?_cons_succ, List.getElem?_cons_zero]; rfl)
  go_simp
  refine (RC.out _ hT2).mono ?_
  rintro e V8 ⟨⟨bb, rfl⟩, hTn, hbn⟩
  go_simp
  replace rp := hbn.row rp (HP.out.n2p)
  replace r7 := hbn.row r7 (fun h => by have := hF2w _ h; omega)
  replace r9 := hbn.row r9 (fun h => by have := hF2w _ h; omega)
  replace hds := hds.via (fun b hq => hbn.block b (hds.lt b hq).2 ((HND.out b hq).2))
  replace hst := hst.via (fun b hq => hbn.block b (hst.lt b hq).2 ((HNS.out b hq).2))
  replace hT1 := hT1.but hbn (fun b h1 h2 => HP.out.n12 b h1 h2)
  have hTf : ∀ b, (F2 b ∨ FreshL X V8 b) → F2 b ∨ a9 < b := fun b hq => hq.imp id (fun h => by have := h.1; omega)
  replace hb := hb.trans hbn (fun b _ h => HP.out.i2 b h)
  clear hT2
  have hT2 := hTn
  have d0 := own_cells hds HDC.out 0 (by omega)
  have d1 := own_cells hds HDC.out 1 (by omega)
  have d2 := own_cells hds HDC.out 2 (by omega)
  simp only [Nat.add_zero, deC, List.getElem?_cons_zero, List.getElem?_cons_succ] at d0 d1 d2
  clear hTn hbn h9X
  refine hK.out _ _ ⟨rp.cell, d0, d1, d2⟩ (fun hHeld => ?_)
  clear hK K d0 d1 d2
  refine' wpAnyH_take (i := 12) (oi := _) (v := _) ?_ (by kernel_rfl) (by kernel_rfl) (by kernel_rfl) ?_ (Or.inl ⟨?_, ?_⟩) (by assumption) ?_
  rotate_left 2
  · (simp only [List.getElem?_toArray, List.getElem?_cons_succ, List.getElem?_cons_zero]; rfl)
  · first | exact fun _ _ _ h => h | exact fun _ _ _ h => nomatch h.1
  · rfl
  · (intro W hSW; (try dsimp only at hSW); go_split_ands; first | (go_simp; done) | (go_simp; with_reducible rfl))
  try simp only [Act.put, List.setIfInBounds_toArray, List.set_cons_zero, List.set_cons_succ]
  refine' wpAnyH_take (i := 13) (oi := _) (v := _) ?_ (by kernel_rfl) (by kernel_rfl) (by kernel_rfl) ?_ (Or.inl ⟨?_, ?_⟩) (by assumption) ?_
  rotate_left 2
  · (simp only [List.getElem?_toArray, List.getElem?_cons_succ, List.getElem?_cons_zero]; rfl)
  · first | exact fun _ _ _ h => h | exact fun _ _ _ h => nomatch h.1
  · rfl
  · (intro W hSW; (try dsimp only at hSW); go_split_ands; first | (go_simp; done) | (go_simp; with_reducible rfl))
  try simp only [Act.put, List.setIfInBounds_toArray, List.set_cons_zero, List.set_cons_succ]
  refine' wpAnyH_take (i := 14) (oi := _) (v := _) ?_ (by kernel_rfl) (by kernel_rfl) (by kernel_rfl) ?_ (Or.inl ⟨?_, ?_⟩) (by assumption) ?_
  rotate_left 2
  · (simp only [List.getElem?_toArray, List.getElem?_cons_succ, List.getElem?_cons_zero]; rfl)
  · first | exact fun _ _ _ h => h | exact fun _ _ _ h => nomatch h.1
  · rfl
  · (intro W hSW; (try dsimp only at hSW); go_split_ands; first | (go_simp; done) | (go_simp; with_reducible rfl))
  try simp only [Act.put, List.setIfInBounds_toArray, List.set_cons_zero, List.set_cons_succ]
  refine' wpAnyH_take (i := 15) (oi := _) (v := _) ?_ (by kernel_rfl) (by kernel_rfl) (by kernel_rfl) ?_ (Or.inl ⟨?_, ?_⟩) (by assumption) ?_
  rotate_left 2
  · (simp only [List.getElem?_toArray, List.getElem?_cons_succ, List.getElem?_cons_zero]; rfl)
  · first | exact fun _ _ _ h => h | exact fun _ _ _ h => nomatch h.1
  · rfl
  · (intro W hSW; (try dsimp only at hSW); go_split_ands; first | (go_simp; done) | (go_simp; with_reducible rfl))
  try simp only [Act.put, List.setIfInBounds_toArray, List.set_cons_zero, List.set_cons_succ]
  refine' wpAnyH_take (i := 16) (oi := _) (v := _) ?_ (by kernel_rfl) (by kernel_rfl) (by kernel_rfl) ?_ (Or.inl ⟨?_, ?_⟩) (by assumption) ?_
  rotate_left 2
  · (simp only [List.getElem?_toArray, List.getElem?_cons_succ, List.getElem?_cons_zero]; rfl)
  · first | exact fun _ _ _ h => h | exact fun _ _ _ h => nomatch h.1
  · rfl
  · (intro W hSW; (try dsimp only at hSW); go_split_ands; first | (go_simp; done) | (go_simp; with_reducible rfl))
  try simp only [Act.put, List.setIfInBounds_toArray, List.set_cons_zero, List.set_cons_succ]
  refine' wpAnyH_take (i := 17) (oi := _) (v := _) ?_ (by kernel_rfl) (by kernel_rfl) (by kernel_rfl) ?_ (Or.inl ⟨?_, ?_⟩) (by assumption) ?_
  rotate_left 2
  · (simp only [List.getElem?_toArray, List.getElem?_cons_succ, List.getElem?_cons_zero]; rfl)
  · first | exact fun _ _ _ h => h | exact fun _ _ _ h => nomatch h.1
  · rfl
  · (intro W hSW; (try dsimp only at hSW); go_split_ands; first | (go_simp; done) | (go_simp; with_reducible rfl))
  try simp only [Act.put, List.setIfInBounds_toArray, List.set_cons_zero, List.set_cons_succ]
  refine' wpAnyH_take (i := 18) (oi := _) (v := _) ?_ (by kernel_rfl) (by kernel_rfl) (by kernel_rfl) ?_ (Or.inl ⟨?_, ?_⟩) (by assumption) ?_
  rotate_left 2
  · (simp only [List.getElem?_toArray, List.getElem?_cons_succ, List.getElem?_cons_zero]; rfl)
  · first | exact fun _ _ _ h => h | exact fun _ _ _ h => nomatch h.1
  · rfl
  · (intro W hSW; (try dsimp only at hSW); go_split_ands; first | (go_simp; done) | (go_simp; with_reducible rfl))
  try simp only [Act.put, List.setIfInBounds_toArray, List.set_cons_zero, List.set_cons_succ]
  clear hHeld
  refine wpAnyH_done (by kernel_rfl) ?_ _
  go_upto_region 10 with fail
  obtain ⟨G2, hT2, hTf⟩ : ∃ G, RTab V8 G p2 sl' T.rs ∧ (∀ b, G b → F2 b ∨ a9 < b) := ⟨_, hT2, hTf⟩
  have hsL : ∀ b, (Value.slice (some ⟨gs, 0, none⟩) N cs).ownBlock = some b → b < w.heap.size := fun b hq => (HP.out.st.lt b hq).2
  have hdL : ∀ b, (Value.slice (some ⟨gd, 0, none⟩) DN cd).ownBlock = some b → b < w.heap.size := fun b hq => (HP.out.ds.lt b hq).2
  have hpw := HP.out.fin pp HP.out.ip
  have y7 := r7.cell
  have z7 := r7.lt
  have u7 := r7.free
  go_wp2_with fail
  refine Calls.mono (CX.out _) ?_
  rintro e V9 ⟨rfl, hn⟩
  clear y7 z7 u7
  replace rp := rp.on hn
  replace hds := hds.on hn
  replace hst := hst.on hn
  replace hT1 := hT1.on hn
  replace hT2 := hT2.on hn
  replace r7 := r7.on hn
  replace r9 := r9.on hn
  replace hb := hb.on hn
  clear hn
  have y7 := r7.cell
  have z7 := r7.lt
  have u7 := r7.free
  go_upto_region 11 with fail
  clear y7 z7 u7
  have hbS : But (fun b => b = a7) V9 ((((((((V9.setCell ⟨a7, 0, none⟩ (.int .i64 1)).setCell ⟨a7, 1, none⟩ (.int .i64 k)).setCell ⟨a7, 2, none⟩ (.int .u32 1)).setCell ⟨a7, 3, none⟩ (.int .i64 r'.st)).setCell ⟨a7, 4, none⟩ (.int .i64 wy)).setCell ⟨a7, 5, none⟩ (.int .i64 r'.tr)).setCell ⟨a7, 6, none⟩ (.int .i64 r'.nx)).setCell ⟨a7, 7, none⟩ (.string tagB)) := (((((((((But.refl (fun b => b = a7) V9).setCell (y := a7) (fun _ => rfl) 0 (.int .i64 1)).setCell (y := a7) (fun _ => rfl) 1 (.int .i64 k)).setCell (y := a7) (fun _ => rfl) 2 (.int .u32 1)).setCell (y := a7) (fun _ => rfl) 3 (.int .i64 r'.st)).setCell (y := a7) (fun _ => rfl) 4 (.int .i64 wy)).setCell (y := a7) (fun _ => rfl) 5 (.int .i64 r'.tr)).setCell (y := a7) (fun _ => rfl) 6 (.int .i64 r'.nx)).setCell (y := a7) (fun _ => rfl) 7 (.string tagB))
  replace rp := hbS.row rp (show ¬ pp = a7 by omega)
  replace r9 := hbS.row r9 (show ¬ a9 = a7 by omega)
  replace hds := hds.via (fun b hq => hbS.block b (hds.lt b hq).2 (fun e => by have := hdL b hq; omega))
  replace hst := hst.via (fun b hq => hbS.block b (hst.lt b hq).2 (fun e => by have := hsL b hq; omega))
  replace hT1 := hT1.but hbS (fun b hq e => by have := hF1w b hq; omega)
  replace hT2 := hT2.but hbS (fun b hq e => by
    rcases hTf b hq with h | h
    · have := hF2w b h; omega
    · omega)
  replace hb := hb.trans hbS (fun b hq e => absurd e (by omega))
  replace r7 := ((((((((r7.set 0 (.int .i64 1)).set 1 (.int .i64 k)).set 2 (.int .u32 1)).set 3 (.int .i64 r'.st)).set 4 (.int .i64 wy)).set 5 (.int .i64 r'.tr)).set 6 (.int .i64 r'.nx)).set 7 (.string tagB))
  simp only [List.setIfInBounds_toArray, List.set_cons_zero, List.set_cons_succ] at r7
  clear hbS
  generalize World.setCell _ _ _ = V10 at *
  have y7 := r9.cell
  have z7 := r9.lt
  have u7 := r9.free
  go_wp2_with fail
  refine Calls.mono (RX.out _) ?_
  rintro e V11 ⟨rfl, hn⟩
  clear y7 z7 u7
  replace rp := rp.on hn
  replace hds := hds.on hn
  replace hst := hst.on hn
  replace hT1 := hT1.on hn
  replace hT2 := hT2.on hn
  replace r7 := r7.on hn
  replace r9 := r9.on hn
  replace hb := hb.on hn
  clear hn
  have y7 := r9.cell
  have z7 := r9.lt
  have u7 := r9.free
  go_upto_region 12 with fail
  clear y7 z7 u7
  have hbS : But (fun b => b = a9) V11 ((((((((V11.setCell ⟨a9, 0, none⟩ (.int .i64 1)).setCell ⟨a9, 1, none⟩ (.int .i64 k)).setCell ⟨a9, 2, none⟩ (.int .u32 1)).setCell ⟨a9, 3, none⟩ (.int .i64 r'.st)).setCell ⟨a9, 4, none⟩ (.int .i64 wy)).setCell ⟨a9, 5, none⟩ (.int .i64 r'.tr)).setCell ⟨a9, 6, none⟩ (.int .i64 r'.nx)).setCell ⟨a9, 7, none⟩ (.string tagB)) := (((((((((But.refl (fun b => b = a9) V11).setCell (y := a9) (fun _ => rfl) 0 (.int .i64 1)).setCell (y := a9) (fun _ => rfl) 1 (.int .i64 k)).setCell (y := a9) (fun _ => rfl) 2 (.int .u32 1)).setCell (y := a9) (fun _ => rfl) 3 (.int .i64 r'.st)).setCell (y := a9) (fun _ => rfl) 4 (.int .i64 wy)).setCell (y := a9) (fun _ => rfl) 5 (.int .i64 r'.tr)).setCell (y := a9) (fun _ => rfl) 6 (.int .i64 r'.nx)).setCell (y := a9) (fun _ => rfl) 7 (.string tagB))
  replace rp := hbS.row rp (show ¬ pp = a9 by omega)
  replace r7 := hbS.row r7 (show ¬ a7 = a9 by omega)
  replace hds := hds.via (fun b hq => hbS.block b (hds.lt b hq).2 (fun e => by have := hdL b hq; omega))
  replace hst := hst.via (fun b hq => hbS.block b (hst.lt b hq).2 (fun e => by have := hsL b hq; omega))
  replace hT1 := hT1.but hbS (fun b hq e => by have := hF1w b hq; omega)
  replace hT2 := hT2.but hbS (fun b hq e => by
    rcases hTf b hq with h | h
    · have := hF2w b h; omega
    · omega)
  replace hb := hb.trans hbS (fun b hq e => absurd e (by omega))
  replace r9 := ((((((((r9.set 0 (.int .i64 1)).set 1 (.int .i64 k)).set 2 (.int .u32 1)).set 3 (.int .i64 r'.st)).set 4 (.int .i64 wy)).set 5 (.int .i64 r'.tr)).set 6 (.int .i64 r'.nx)).set 7 (.string tagB))
  simp only [List.setIfInBounds_toArray, List.set_cons_zero, List.set_cons_succ] at r9
  clear hbS
  generalize World.setCell _ _ _ = V12 at *
  have ysc := own_cells hst HSC.out 0 (by omega)
  simp only [Nat.mul_one, Nat.add_zero, List.getElem?_cons_zero] at ysc
  have yp := rp.cell
  have zp := rp.lt
  have us := hst.free rfl
  have zs := (hst.lt gs rfl).2
  have hsw := hsL gs rfl
  go_upto_region 17 with fail
  clear ysc yp zp us zs
  have hput := hst.put (j := k) (q := 0) rfl HSC.out (by omega) (.int .i64 2)
  simp only [Nat.mul_one, Nat.add_zero, List.set_cons_zero] at hput
  have hbS : But (fun b => b = gs) V12 (V12.setCell ⟨gs, k, none⟩ (.int .i64 2)) := (But.refl (fun b => b = gs) V12).setCell (y := gs) (fun _ => rfl) k (.int .i64 2)
  have hgp : ¬ pp = gs := fun e => hst.ne_row rp (by decide) (by rw [e]; rfl)
  replace hds := hds.via (fun b hq => hbS.block b (hds.lt b hq).2 (fun e => hds.ne_own hst (by decide) (i := gs) rfl (by rw [← e]; exact hq)))
  replace rp := hbS.row rp hgp
  replace r7 := hbS.row r7 (show ¬ a7 = gs by omega)
  replace r9 := hbS.row r9 (show ¬ a9 = gs by omega)
  replace hT1 := hT1.but hbS (fun b hq e => (HNS.out gs rfl).1 (by rw [← e]; exact hq))
  replace hT2 := hT2.but hbS (fun b hq e => by
    rcases hTf b hq with h | h
    · exact (HNS.out gs rfl).2 (by rw [← e]; exact h)
    · omega)
  replace hb := hb.trans hbS (fun b hq e => by rw [e]; exact HP.out.is gs rfl)
  clear hbS hst
  have hst := hput
  clear hput
  generalize World.setCell _ _ _ = V13 at *
  refine wp_region_held_drew (S := fun W' => (∀ x, W'.cell? ⟨pp, x, none⟩ = (#[ptr p1, ptr p2, .slice (some ⟨gd, 0, none⟩) DN cd, .slice (some ⟨gs, 0, none⟩) N cs] : Array Value)[x]?) ∧ (∀ x, W'.cell? ⟨a7, x, none⟩ = (#[.int .i64 1, .int .i64 k, .int .u32 1, .int .i64 r'.st, .int .i64 wy, .int .i64 r'.tr, .int .i64 r'.nx, .string tagB] : Array Value)[x]?) ∧ (∀ x, W'.cell? ⟨a9, x, none⟩ = (#[.int .i64 1, .int .i64 k, .int .u32 1, .int .i64 r'.st, .int .i64 wy, .int .i64 r'.tr, .int .i64 r'.nx, .string tagB] : Array Value)[x]?)) (by kernel_rfl) ⟨rp.cell, r7.cell, r9.cell⟩ (fun hHeld => ?_)
  have hn := (Below.refl V13.heap.size V13).drew
  replace rp := rp.on hn
  replace hds := hds.on hn
  replace hst := hst.on hn
  replace hT1 := hT1.on hn
  replace hT2 := hT2.on hn
  replace r7 := r7.on hn
  replace r9 := r9.on hn
  replace hb := hb.on hn
  clear hn
  generalize V13.drew = X2 at *
  refine' wpAnyH_take (i := 0) (oi := _) (v := _) ?_ (by kernel_rfl) (by kernel_rfl) (by kernel_rfl) ?_ (Or.inl ⟨?_, ?_⟩) (by assumption) ?_
  rotate_left 2
  · (simp only [List.getElem?_toArray, List.getElem?_cons_succ, List.getElem?_cons_zero]; rfl)
  · first | exact fun _ _ _ h => h | exact fun _ _ _ h => nomatch h.1
  · rfl
  · (intro W hSW; (try dsimp only at hSW); go_split_ands; first | (go_simp; done) | (go_simp; with_reducible rfl))
  try simp only [Act.put, List.setIfInBounds_toArray, List.set_cons_zero, List.set_cons_succ]
  refine' wpAnyH_take (i := 1) (oi := _) (v := _) ?_ (by kernel_rfl) (by kernel_rfl) (by kernel_rfl) ?_ (Or.inl ⟨?_, ?_⟩) (by assumption) ?_
  rotate_left 2
  · (simp only [List.getElem?_toArray, List.getElem?_cons_succ, List.getElem?_cons_zero]; rfl)
  · first | exact fun _ _ _ h => h | exact fun _ _ _ h => nomatch h.1
  · rfl
  · (intro W hSW; (try dsimp only at hSW); go_split_ands; first | (go_simp; done) | (go_simp; with_reducible rfl))
  try simp only [Act.put, List.setIfInBounds_toArray, List.set_cons_zero, List.set_cons_succ]
  refine' wpAnyH_take (i := 2) (oi := _) (v := _) ?_ (by kernel_rfl) (by kernel_rfl) (by kernel_rfl) ?_ (Or.inl ⟨?_, ?_⟩) (by assumption) ?_
  rotate_left 2
  · (simp only [List.getElem?_toArray, List.getElem?_cons_succ, List.getElem?_cons_zero]; rfl)
  · first | exact fun _ _ _ h => h | exact fun _ _ _ h => nomatch h.1
  · rfl
  · (intro W hSW; (try dsimp only at hSW); go_split_ands; first | (go_simp; done) | (go_simp; with_reducible rfl))
  try simp only [Act.put, List.setIfInBounds_toArray, List.set_cons_zero, List.set_cons_succ]
  refine' wpAnyH_take (i := 3) (oi := _) (v := _) ?_ (by kernel_rfl) (by kernel_rfl) (by kernel_rfl) ?_ (Or.inl ⟨?_, ?_⟩) (by assumption) ?_
  rotate_left 2
  · (simp only [List.getElem?_toArray, List.getElem?_cons_succ, List.getElem?_cons_zero]; rfl)
  · first | exact fun _ _ _ h => h | exact fun _ _ _ h => nomatch h.1
  · rfl
  · (intro W hSW; (try dsimp only at hSW); go_split_ands; first | (go_simp; done) | (go_simp; with_reducible rfl))
  try simp only [Act.put, List.setIfInBounds_toArray, List.set_cons_zero, List.set_cons_succ]
  refine' wpAnyH_take (i := 4) (oi := _) (v := _) ?_ (by kernel_rfl) (by kernel_rfl) (by kernel_rfl) ?_ (Or.inl ⟨?_, ?_⟩) (by assumption) ?_
  rotate_left 2
  · (simp only [List.getElem?_toArray, List.getElem?_cons_succ, List.getElem?_cons_zero]; rfl)
  · first | exact fun _ _ _ h => h | exact fun _ _ _ h => nomatch h.1
  · rfl
  · (intro W hSW; (try dsimp only at hSW); go_split_ands; first | (go_simp; done) | (go_simp; with_reducible rfl))
  try simp only [Act.put, List.setIfInBounds_toArray, List.set_cons_zero, List.set_cons_succ]
  refine' wpAnyH_take (i := 5) (oi := _) (v := _) ?_ (by kernel_rfl) (by kernel_rfl) (by kernel_rfl) ?_ (Or.inl ⟨?_, ?_⟩) (by assumption) ?_
  rotate_left 2
  · (simp only [List.getElem?_toArray, List.getElem?_cons_succ, List.getElem?_cons_zero]; rfl)
  · first | exact fun _ _ _ h => h | exact fun _ _ _ h => nomatch h.1
  · rfl
  · (intro W hSW; (try dsimp only at hSW); go_split_ands; first | (go_simp; done) | (go_simp; with_reducible rfl))
  try simp only [Act.put, List.setIfInBounds_toArray, List.set_cons_zero, List.set_cons_succ]
  refine' wpAnyH_take (i := 6) (oi := _) (v := _) ?_ (by kernel_rfl) (by kernel_rfl) (by kernel_rfl) ?_ (Or.inl ⟨?_, ?_⟩) (by assumption) ?_
  rotate_left 2
  · (simp only [List.getElem?_toArray, List.getElem?_cons_succ, List.getElem?_cons_zero]; rfl)
  · first | exact fun _ _ _ h => h | exact fun _ _ _ h => nomatch h.1
  · rfl
  · (intro W hSW; (try dsimp only at hSW); go_split_ands; first | (go_simp; done) | (go_simp; with_reducible rfl))
  try simp only [Act.put, List.setIfInBounds_toArray, List.set_cons_zero, List.set_cons_succ]
  refine' wpAnyH_take (i := 7) (oi := _) (v := _) ?_ (by kernel_rfl) (by kernel_rfl) (by kernel_rfl) ?_ (Or.inl ⟨?_, ?_⟩) (by assumption) ?_
  rotate_left 2
  · (simp only [List.getElem?_toArray, List.getElem?_cons_succ, List.getElem?_cons_zero]; rfl)
  · first | exact fun _ _ _ h => h | exact fun _ _ _ h => nomatch h.1
  · rfl
  · (intro W hSW; (try dsimp only at hSW); go_split_ands; first | (go_simp; done) | (go_simp; with_reducible rfl))
  try simp only [Act.put, List.setIfInBounds_toArray, List.set_cons_zero, List.set_cons_succ]
  refine' wpAnyH_take (i := 8) (oi := _) (v := _) ?_ (by kernel_rfl) (by kernel_rfl) (by kernel_rfl) ?_ (Or.inl ⟨?_, ?_⟩) (by assumption) ?_
  rotate_left 2
  · (simp only [List.getElem?_toArray, List.getElem?_cons_succ, List.getElem?_cons_zero]; rfl)
  · first | exact fun _ _ _ h => h | exact fun _ _ _ h => nomatch h.1
  · rfl
  · (intro W hSW; (try dsimp only at hSW); go_split_ands; first | (go_simp; done) | (go_simp; with_reducible rfl))
  try simp only [Act.put, List.setIfInBounds_toArray, List.set_cons_zero, List.set_cons_succ]
  refine' wpAnyH_take (i := 9) (oi := _) (v := _) ?_ (by kernel_rfl) (by kernel_rfl) (by kernel_rfl) ?_ (Or.inl ⟨?_, ?_⟩) (by assumption) ?_
  rotate_left 2
  · (simp only [List.getElem?_toArray, List.getElem?_cons_succ, List.getElem?_cons_zero]; rfl)
  · first | exact fun _ _ _ h => h | exact fun _ _ _ h => nomatch h.1
  · rfl
  · (intro W hSW; (try dsimp only at hSW); go_split_ands; first | (go_simp; done) | (go_simp; with_reducible rfl))
  try simp only [Act.put, List.setIfInBounds_toArray, List.set_cons_zero, List.set_cons_succ]
  refine' wpAnyH_take (i := 10) (oi := _) (v := _) ?_ (by kernel_rfl) (by kernel_rfl) (by kernel_rfl) ?_ (Or.inl ⟨?_, ?_⟩) (by assumption) ?_
  rotate_left 2
  · (simp only [List.getElem?_toArray, List.getElem?_cons_succ, List.getElem?_cons_zero]; rfl)
  · first | exact fun _ _ _ h => h | exact fun _ _ _ h => nomatch h.1
  · rfl
  · (intro W hSW; (try dsimp only at hSW); go_split_ands; first | (go_simp; done) | (go_simp; with_reducible rfl))
  try simp only [Act.put, List.setIfInBounds_toArray, List.set_cons_zero, List.set_cons_succ]
  refine' wpAnyH_take (i := 11) (oi := _) (v := _) ?_ (by kernel_rfl) (by kernel_rfl) (by kernel_rfl) ?_ (Or.inl ⟨?_, ?_⟩) (by assumption) ?_
  rotate_left 2
  · (simp only [List.getElem?_toArray, List.getElem?_cons_succ, List.getElem?_cons_zero]; rfl)
  · first | exact fun _ _ _ h => h | exact fun _ _ _ h => nomatch h.1
  · rfl
  · (intro W hSW; (try dsimp only at hSW); go_split_ands; first | (go_simp; done) | (go_simp; with_reducible rfl))
  try simp only [Act.put, List.setIfInBounds_toArray, List.set_cons_zero, List.set_cons_succ]
  refine' wpAnyH_take (i := 12) (oi := _) (v := _) ?_ (by kernel_rfl) (by kernel_rfl) (by kernel_rfl) ?_ (Or.inl ⟨?_, ?_⟩) (by assumption) ?_
  rotate_left 2
  · (simp only [List.getElem?_toArray, List.getElem?_cons_succ, List.getElem?_cons_zero]; rfl)
  · first | exact fun _ _ _ h => h | exact fun _ _ _ h => nomatch h.1
  · rfl
  · (intro W hSW; (try dsimp only at hSW); go_split_ands; first | (go_simp; done) | (go_simp; with_reducible rfl))
  try simp only [Act.put, List.setIfInBounds_toArray, List.set_cons_zero, List.set_cons_succ]
  refine' wpAnyH_take (i := 13) (oi := _) (v := _) ?_ (by kernel_rfl) (by kernel_rfl) (by kernel_rfl) ?_ (Or.inl ⟨?_, ?_⟩) (by assumption) ?_
  rotate_left 2
  · (simp only [List.getElem?_toArray, List.getElem?_cons_succ, List.getElem?_cons_zero]; rfl)
  · first | exact fun _ _ _ h => h | exact fun _ _ _ h => nomatch h.1
  · rfl
  · (intro W hSW; (try dsimp only at hSW); go_split_ands; first | (go_simp; done) | (go_simp; with_reducible rfl))
  try simp only [Act.put, List.setIfInBounds_toArray, List.set_cons_zero, List.set_cons_succ]
  clear hHeld
  refine wpAnyH_ready (rs := [14]) (by kernel_rfl) (by simp) ?_
  refine' AllReadyH.cons (o := _) ?_ (fun K hK => ?_) AllReadyH.nil
  rotate_left 1
  · (simp only [List.getElem?_toArray, List.getElem?_cons_succ, List.getElem?_cons_zero]; rfl)
  go_simp
  refine (CS.out _ hT1).mono ?_
  rintro e V14 ⟨rfl, hTn, hbn⟩
  go_simp
  replace rp := hbn.row rp (HP.out.n1p)
  replace r7 := hbn.row r7 (fun h => by have := hF1w _ h; omega)
  replace r9 := hbn.row r9 (fun h => by have := hF1w _ h; omega)
  replace hds := hds.via (fun b hq => hbn.block b (hds.lt b hq).2 ((HND.out b hq).1))
  replace hst := hst.via (fun b hq => hbn.block b (hst.lt b hq).2 ((HNS.out b hq).1))
  replace hT2 := hT2.but hbn (fun b h1 h2 => by
    have h0 := hF1w b h2
    rcases hTf b h1 with h | h
    · exact HP.out.n12 b h2 h
    · omega)
  replace hb := hb.trans hbn (fun b _ h => HP.out.i1 b h)
  clear hT1
  have hT1 := hTn
  clear hTn hbn
  refine hK.out _ _ ⟨rp.cell, r7.cell, r9.cell⟩ (fun hHeld => ?_)
  clear hK K
  refine' wpAnyH_take (i := 15) (oi := _) (v := _) ?_ (by kernel_rfl) (by kernel_rfl) (by kernel_rfl) ?_ (Or.inl ⟨?_, ?_⟩) (by assumption) ?_
  rotate_left 2
  · (simp only [List.getElem?_toArray, List.getElem?_cons_succ, List.getElem?_cons_zero]; rfl)
  · first | exact fun _ _ _ h => h | exact fun _ _ _ h => nomatch h.1
  · rfl
  · (intro W hSW; (try dsimp only at hSW); go_split_ands; first | (go_simp; done) | (go_simp; with_reducible rfl))
  try simp only [Act.put, List.setIfInBounds_toArray, List.set_cons_zero, List.set_cons_succ]
  refine' wpAnyH_take (i := 16) (oi := _) (v := _) ?_ (by kernel_rfl) (by kernel_rfl) (by kernel_rfl) ?_ (Or.inl ⟨?_, ?_⟩) (by assumption) ?_
  rotate_left 2
  · (simp only [List.getElem?_toArray, List.getElem?_cons_succ, List.getElem?_cons_zero]; rfl)
  · first | exact fun _ _ _ h => h | exact fun _ _ _ h => nomatch h.1
  · rfl
  · (intro W hSW; (try dsimp only at hSW); go_split_ands; first | (go_simp; done) | (go_simp; with_reducible rfl))
  try simp only [Act.put, List.setIfInBounds_toArray, List.set_cons_zero, List.set_cons_succ]
  refine' wpAnyH_take (i := 17) (oi := _) (v := _) ?_ (by kernel_rfl) (by kernel_rfl) (by kernel_rfl) ?_ (Or.inl ⟨?_, ?_⟩) (by assumption) ?_
  rotate_left 2
  · (simp only [List.getElem?_toArray, List.getElem?_cons_succ, List.getElem?_cons_zero]; rfl)
  · first | exact fun _ _ _ h => h | exact fun _ _ _ h => nomatch h.1
  · rfl
  · (intro W hSW; (try dsimp only at hSW); go_split_ands; first | (go_simp; done) | (go_simp; with_reducible rfl))
  try simp only [Act.put, List.setIfInBounds_toArray, List.set_cons_zero, List.set_cons_succ]
  refine' wpAnyH_take (i := 18) (oi := _) (v := _) ?_ (by kernel_rfl) (by kernel_rfl) (by kernel_rfl) ?_ (Or.inl ⟨?_, ?_⟩) (by assumption) ?_
  rotate_left 2
  · (simp only [List.getElem?_toArray, List.getElem?_cons_succ, List.getElem?_cons_zero]; rfl)
  · first | exact fun _ _ _ h => h | exact fun _ _ _ h => nomatch h.1
  · rfl
  · (intro W hSW; (try dsimp only at hSW); go_split_ands; first | (go_simp; done) | (go_simp; with_reducible rfl))
  try simp only [Act.put, List.setIfInBounds_toArray, List.set_cons_zero, List.set_cons_succ]
  refine' wpAnyH_take (i := 19) (oi := _) (v := _) ?_ (by kernel_rfl) (by kernel_rfl) (by kernel_rfl) ?_ (Or.inl ⟨?_, ?_⟩) (by assumption) ?_
  rotate_left 2
  · (simp only [List.getElem?_toArray, List.getElem?_cons_succ, List.getElem?_cons_zero]; rfl)
  · first | exact fun _ _ _ h => h | exact fun _ _ _ h => nomatch h.1
  · rfl
  · (intro W hSW; (try dsimp only at hSW); go_split_ands; first | (go_simp; done) | (go_simp; with_reducible rfl))
  try simp only [Act.put, List.setIfInBounds_toArray, List.set_cons_zero, List.set_cons_succ]
  refine' wpAnyH_take (i := 20) (oi := _) (v := _) ?_ (by kernel_rfl) (by kernel_rfl) (by kernel_rfl) ?_ (Or.inl ⟨?_, ?_⟩) (by assumption) ?_
  rotate_left 2
  · (simp only [List.getElem?_toArray, List.getElem?_cons_succ, List.getElem?_cons_zero]; rfl)
  · first | exact fun _ _ _ h => h | exact fun _ _ _ h => nomatch h.1
  · rfl
  · (intro W hSW; (try dsimp only at hSW); go_split_ands; first | (go_simp; done) | (go_simp; with_reducible rfl))
  try simp only [Act.put, List.setIfInBounds_toArray, List.set_cons_zero, List.set_cons_succ]
  refine' wpAnyH_take (i := 21) (oi := _) (v := _) ?_ (by kernel_rfl) (by kernel_rfl) (by kernel_rfl) ?_ (Or.inl ⟨?_, ?_⟩) (by assumption) ?_
  rotate_left 2
  · (simp only [List.getElem?_toArray, List.getElem?_cons_succ, List.getElem?_cons_zero]; rfl)
  · first | exact fun _ _ _ h => h | exact fun _ _ _ h => nomatch h.1
  · rfl
  · (intro W hSW; (try dsimp only at hSW); go_split_ands; first | (go_simp; done) | (go_simp; with_reducible rfl))
  try simp only [Act.put, List.setIfInBounds_toArray, List.set_cons_zero, List.set_cons_succ]
  refine' wpAnyH_take (i := 22) (oi := _) (v := _) ?_ (by kernel_rfl) (by kernel_rfl) (by kernel_rfl) ?_ (Or.inl ⟨?_, ?_⟩) (by assumption) ?_
  rotate_left 2
  · (simp only [List.getElem?_toArray, List.getElem?_cons_succ, List.getElem?_cons_zero]; rfl)
  · first | exact fun _ _ _ h => h | exact fun _ _ _ h => nomatch h.1
  · rfl
  · (intro W hSW; (try dsimp only at hSW); go_split_ands; first | (go_simp; done) | (go_simp; with_reducible rfl))
  try simp only [Act.put, List.setIfInBounds_toArray, List.set_cons_zero, List.set_cons_succ]
  refine' wpAnyH_take (i := 23) (oi := _) (v := _) ?_ (by kernel_rfl) (by kernel_rfl) (by kernel_rfl) ?_ (Or.inl ⟨?_, ?_⟩) (by assumption) ?_
  rotate_left 2
  · (simp only [List.getElem?_toArray, List.getElem?_cons_succ, List.getElem?_cons_zero]; rfl)
  · first | exact fun _ _ _ h => h | exact fun _ _ _ h => nomatch h.1
  · rfl
  · (intro W hSW; (try dsimp only at hSW); go_split_ands; first | (go_simp; done) | (go_simp; with_reducible rfl))
  try simp only [Act.put, List.setIfInBounds_toArray, List.set_cons_zero, List.set_cons_succ]
  refine' wpAnyH_take (i := 24) (oi := _) (v := _) ?_ (by kernel_rfl) (by kernel_rfl) (by kernel_rfl) ?_ (Or.inl ⟨?_, ?_⟩) (by assumption) ?_
  rotate_left 2
  · (simp only [List.getElem?_toArray, List.getElem?_cons_succ, List.getElem?_cons_zero]; rfl)
  · first | exact fun _ _ _ h => h | exact fun _ _ _ h => nomatch h.1
  · rfl
  · (intro W hSW; (try dsimp only at hSW); go_split_ands; first | (go_simp; done) | (go_simp; with_reducible rfl))
  try simp only [Act.put, List.setIfInBounds_toArray, List.set_cons_zero, List.set_cons_succ]
  clear hHeld
  have hX9 := r9.lt
  refine wpAnyH_ready (rs := [25]) (by kernel_rfl) (by simp) ?_
  refine' AllReadyH.cons (o := _) ?_ (fun K hK => ?_) AllReadyH.nil
  rotate_left 1
  · (simp only [List.getElem?_toArray, List.getElem?_cons_succ, List.getElem?_cons_zero]; rfl)
  go_simp
  refine (RS2.out _ _ hT2).mono ?_
  rintro e V15 ⟨rfl, hTn, hbn⟩
  go_simp
  have hG2p : ¬ G2 pp := fun h => by
    rcases hTf _ h with h1 | h1
    · exact HP.out.n2p h1
    · omega
  have hG2o : ∀ x, w.heap.size ≤ x → x ≤ a9 → ¬ G2 x := fun x hx1 hx2 h => by
    rcases hTf _ h with h1 | h1
    · have := hF2w _ h1; omega
    · omega
  have hG2d : ∀ b, (Value.slice (some ⟨gd, 0, none⟩) DN cd).ownBlock = some b → ¬ G2 b := fun b hq h => by
    have := hdL b hq
    rcases hTf _ h with h1 | h1
    · exact (HND.out b hq).2 h1
    · omega
  have hG2s : ∀ b, (Value.slice (some ⟨gs, 0, none⟩) N cs).ownBlock = some b → ¬ G2 b := fun b hq h => by
    have := hsL b hq
    rcases hTf _ h with h1 | h1
    · exact (HNS.out b hq).2 h1
    · omega
  replace rp := hbn.row rp (hG2p)
  replace r7 := hbn.row r7 (hG2o _ (by omega) (by omega))
  replace r9 := hbn.row r9 (hG2o _ (by omega) (by omega))
  replace hds := hds.via (fun b hq => hbn.block b (hds.lt b hq).2 (hG2d b hq))
  replace hst := hst.via (fun b hq => hbn.block b (hst.lt b hq).2 (hG2s b hq))
  replace hT1 := hT1.but hbn (fun b h1 h2 => by
    have h0 := hF1w b h1
    rcases hTf b h2 with h | h
    · exact HP.out.n12 b h1 h
    · omega)
  replace hb := hb.trans hbn (fun b hq h => by
    rcases hTf b h with h | h
    · exact HP.out.i2 b h
    · omega)
  refine hK.out _ _ ⟨rp.cell, r7.cell, r9.cell⟩ (fun hHeld => ?_)
  clear hK K
  refine' wpAnyH_take (i := 26) (oi := _) (v := _) ?_ (by kernel_rfl) (by kernel_rfl) (by kernel_rfl) ?_ (Or.inl ⟨?_, ?_⟩) (by assumption) ?_
  rotate_left 2
  · (simp only [List.getElem?_toArray, List.getElem?_cons_succ, List.getElem?_cons_zero]; rfl)
  · first | exact fun _ _ _ h => h | exact fun _ _ _ h => nomatch h.1
  · rfl
  · (intro W hSW; (try dsimp only at hSW); go_split_ands; first | (go_simp; done) | (go_simp; with_reducible rfl))
  try simp only [Act.put, List.setIfInBounds_toArray, List.set_cons_zero, List.set_cons_succ]
  refine' wpAnyH_take (i := 27) (oi := _) (v := _) ?_ (by kernel_rfl) (by kernel_rfl) (by kernel_rfl) ?_ (Or.inl ⟨?_, ?_⟩) (by assumption) ?_
  rotate_left 2
  · (simp only [List.getElem?_toArray, List.getElem?_cons_succ, List.getElem?_cons_zero]; rfl)
  · first | exact fun _ _ _ h => h | exact fun _ _ _ h => nomatch h.1
  · rfl
  · (intro W hSW; (try dsimp only at hSW); go_split_ands; first | (go_simp; done) | (go_simp; with_reducible rfl))
  try simp only [Act.put, List.setIfInBounds_toArray, List.set_cons_zero, List.set_cons_succ]
  refine' wpAnyH_take (i := 28) (oi := _) (v := _) ?_ (by kernel_rfl) (by kernel_rfl) (by kernel_rfl) ?_ (Or.inl ⟨?_, ?_⟩) (by assumption) ?_
  rotate_left 2
  · (simp only [List.getElem?_toArray, List.getElem?_cons_succ, List.getElem?_cons_zero]; rfl)
  · first | exact fun _ _ _ h => h | exact fun _ _ _ h => nomatch h.1
  · rfl
  · (intro W hSW; (try dsimp only at hSW); go_split_ands; first | (go_simp; done) | (go_simp; with_reducible rfl))
  try simp only [Act.put, List.setIfInBounds_toArray, List.set_cons_zero, List.set_cons_succ]
  clear hHeld
  refine wpAnyH_done (by kernel_rfl) ?_ _
  have hPP : Pair V15 (fun b => F b ∨ FreshL w V15 b) pp (closeT T k) := by
    rw [HCL.out]
    have hTf2 : ∀ b, (G2 b ∨ FreshL V14 V15 b) → F2 b ∨ (w.heap.size ≤ b ∧ a9 < b) := fun b hq => by
      rcases hq with hq | hq
      · exact (hTf b hq).imp id (fun h => ⟨by omega, h⟩)
      · exact .inr ⟨by have := hq.1; omega, by have := hq.1; omega⟩
    refine ⟨F1, _, p1, p2, _, _, {
      row := rp
      t1 := hT1
      t2 := hTn
      ds := hds
      st := by rw [stL_set, HRST.out]; exact hst
      i1 := fun b hq => .inl (HP.out.i1 b hq)
      i2 := fun b hq => (hTf2 b hq).imp (HP.out.i2 b) (fun h => ⟨h.1, hTn.fin b hq⟩)
      ip := .inl HP.out.ip
      id := fun b hq => .inl (HP.out.id b hq)
      is := fun b hq => .inl (HP.out.is b hq)
      fin := fun b hq => by
        rcases hq with hq | hq
        · exact Nat.lt_of_lt_of_le (HP.out.fin b hq) hb.size
        · exact hq.2
      n12 := fun b h1 h2 => by
        have := hF1w b h1
        rcases hTf2 b h2 with h | h
        · exact HP.out.n12 b h1 h
        · omega
      n1p := HP.out.n1p
      n2p := fun h => by
        rcases hTf2 _ h with h | h
        · exact HP.out.n2p h
        · omega
      nd := fun b hq => ⟨(HND.out b hq).1, fun h => by
        have := hdL b hq
        rcases hTf2 _ h with h | h
        · exact (HND.out b hq).2 h
        · omega⟩
      ns := fun b hq => ⟨(HNS.out b hq).1, fun h => by
        have := hsL b hq
        rcases hTf2 _ h with h | h
        · exact (HNS.out b hq).2 h
        · omega⟩ }⟩
  have HPF := Lib.hid hPP
  have HBF := Lib.hid hb
  clear hPP hb hT1 hTn hbn hds hst rp r7 r9
  go_wp2_with fail
  go_returns
  exact ⟨rfl, HPF.out, HBF.out⟩
theorem pset2 {w : World} {F : Nat → Prop} {pp B k : Nat} {T : TabR} (h : Pair w F pp T) (hG : GoodT B T) (hB : B ≤ 150) {tr nx q : Int} (hr : T.rs[k]? = some ⟨2, tr, nx⟩) (hq : 2 ≤ q ∧ q ≤ 4) :
    Calls Tryz.prog 17 #[ptr pp, .int .i64 k, .int .i64 q] w fun e w' => e = .returned (.bool true) ∧ Pair w' (fun b => F b ∨ FreshL w w' b) pp (triedT T k q) ∧ But F w w' := by
  obtain ⟨F1, F2, p1, p2, vd, vs, h⟩ := h
  have hkl := (List.getElem?_eq_some_iff.1 hr).1
  have h60 := hG.most
  have hk60 : k < 60 := by omega
  obtain ⟨dk, hdk⟩ : ∃ d, T.ds[k]? = some d := ⟨_, List.getElem?_eq_getElem (by rw [hG.len]; exact hkl)⟩
  obtain ⟨i, g⟩ := dk
  obtain ⟨j, rfl⟩ : ∃ j : Nat, q = (j : Int) + 2 := ⟨(q - 2).toNat, by omega⟩
  have hj : j < 3 := by omega
  have hS := hG.states _ (List.mem_of_getElem? hr)
  have hS2 : (0 ≤ tr ∧ tr ≤ B) ∧ (nx = 1 ∨ nx = 2) := by
    rcases hS with h0 | h0 | h0
    · have := h0.1; simp at this
    · exact ⟨⟨h0.2.1, h0.2.2.1⟩, h0.2.2.2⟩
    · have := h0.1; simp at this
  obtain ⟨r', hr'⟩ : ∃ r : RS, triedS ⟨2, tr, nx⟩ ((j : Int) + 2) = r := ⟨_, rfl⟩
  obtain ⟨a, ha, hqa⟩ : ∃ a : Int, (#[.int .i64 2, .int .i64 1, .int .i64 3] : Array Value)[j]? = some (.int .i64 a) ∧ (((j : Int) + 2 = 2 ∧ a = 2) ∨ ((j : Int) + 2 = 3 ∧ a = 1) ∨ ((j : Int) + 2 = 4 ∧ a = 3)) := by
    obtain rfl | rfl | rfl : j = 0 ∨ j = 1 ∨ j = 2 := by omega
    · exact ⟨2, rfl, .inl ⟨rfl, rfl⟩⟩
    · exact ⟨1, rfl, .inr (.inl ⟨rfl, rfl⟩)⟩
    · exact ⟨3, rfl, .inr (.inr ⟨rfl, rfl⟩)⟩
  have CX := Lib.hid (pres_tried k hk60 (tr := tr) (nx := nx) (by omega) hS2.2 hqa)
  have RX := Lib.hid (rpres_tried k hk60 (tr := tr) (nx := nx) (by omega) hS2.2 hqa)
  have hrst : r'.st = (j : Int) + 2 := by
    rw [← hr']
    unfold triedS
    split
    · rename_i h0; exact h0.symm
    · split
      · rename_i h0; exact h0.symm
      · show (2 : Int) = _; omega
  have hok : rErr 1 k 1 r'.st (whyS r'.st) r'.tr r'.nx tagB = 0 := by
    refine res_ok hk60 ?_
    rw [← hr']
    unfold triedS
    split
    · exact .inr ⟨.inl rfl, by show (0 : Int) ≤ tr; omega, by show tr ≤ 200; omega, rfl⟩
    · split
      · exact .inr ⟨.inr rfl, by show (0 : Int) ≤ tr; omega, by show tr ≤ 200; omega, rfl⟩
      · exact .inl ⟨rfl, by show (0 : Int) ≤ tr + 1; omega, by show tr + 1 ≤ 200; omega, .inr rfl⟩
  have hst1 : r'.st ≠ 1 := by omega
  have hgone := dead_slot hG hr (by show (2 : Int) ≠ 1; decide)
  have hcl : triedT T k ((j : Int) + 2) = ⟨T.sl, T.rs.set k r', T.ds⟩ := by
    unfold triedT
    rw [hr, ← hr']
    rfl
  rw [hr'] at CX RX
  clear hS hr' hqa
  have CG := Lib.hid (fun W (ht : Tab W F1 p1 T.sl T.rs) => ptget ht hr)
  have RG := Lib.hid (fun W (ht : RTab W F2 p2 T.sl T.rs) => rptget ht hr)
  have CS := Lib.hid (fun W (ht : Tab W F1 p1 T.sl T.rs) => ptset (r' := r') ht hr hst1 hok hgone)
  have RS2 := Lib.hid (fun W G (ht : RTab W G p2 T.sl T.rs) => rptset (r' := r') ht hr hst1 hok hgone)
  have HCL := Lib.hid hcl
  have HRST := Lib.hid hrst
  obtain ⟨gs, cs, hvs, hgs, hsc⟩ := h.state hr
  obtain ⟨gd, cd, hvd, hgd, d0, d1, d2⟩ := h.desc hdk
  clear hsc d0 d1 d2
  subst hvs
  subst hvd
  have HP := Lib.hid h
  obtain ⟨N, hN⟩ : ∃ N, T.rs.length = N := ⟨_, rfl⟩
  obtain ⟨DN, hDN⟩ : ∃ N, T.ds.length = N := ⟨_, rfl⟩
  have hdl := hG.len
  rw [hN] at HP hkl h60 hdl
  rw [hDN] at HP hdl
  have HSC := Lib.hid (stL_get hr)
  have HDC := Lib.hid (deL_get hdk)
  have HNN := Lib.hid hN
  have eO : resV k ⟨2, tr, nx⟩ = .agg #[.int .i64 1, .int .i64 k, .int .u32 1, .int .i64 2, .int .i64 1, .int .i64 tr, .int .i64 nx, .string tagB] := rfl
  have eN : resV k r' = .agg #[.int .i64 1, .int .i64 k, .int .u32 1, .int .i64 r'.st, .int .i64 (whyS r'.st), .int .i64 r'.tr, .int .i64 r'.nx, .string tagB] := rfl
  rw [eO] at CG RG
  rw [eO, eN] at CX RX
  rw [eN] at CS RS2
  obtain ⟨wy, hwy⟩ : ∃ y, whyS r'.st = y := ⟨_, rfl⟩
  rw [hwy] at CX RX CS RS2
  have rp := HP.out.row
  have hds := HP.out.ds
  have hst := HP.out.st
  have hT1 := HP.out.t1
  have hT2 := HP.out.t2
  have hb := But.refl F w
  have hF1w : ∀ b, F1 b → b < w.heap.size := fun b hq => HP.out.fin b (HP.out.i1 b hq)
  have hF2w : ∀ b, F2 b → b < w.heap.size := fun b hq => HP.out.fin b (HP.out.i2 b hq)
  have HND := Lib.hid HP.out.nd
  have HNS := Lib.hid HP.out.ns
  clear h hG hr hdk hcl hok hgone hrst eO eN hwy hN hDN
  have ek : IntKind.i64.wrap ((k : Int) + 1) = (k : Int) + 1 := IntWalk.i64_in _ ⟨by omega, by omega⟩
  have k0 : (0 : Int) ≤ (k : Int) := by omega
  have k1 : (k : Int) < (N : Int) := by omega
  have k2 : (k : Int) < (DN : Int) := by omega
  go_enter Tryz.func17, Tryz.ntmps17
  have yp := rp.cell
  have zp := rp.lt
  go_wp2_with fail
  refine Calls.mono (CG.out _ hT1) ?_
  rintro e V1 ⟨rfl, hn⟩
  clear yp zp
  replace rp := rp.on hn
  replace hds := hds.on hn
  replace hst := hst.on hn
  replace hT1 := hT1.on hn
  replace hT2 := hT2.on hn
  replace hb := hb.on hn
  clear hn
  go_upto_region 2 with fail
  have hn := below_alloc V1 (.cells #[.int .i64 1, .int .i64 k, .int .u32 1, .int .i64 2, .int .i64 1, .int .i64 tr, .int .i64 nx, .string tagB] ResT)
  have r7 := Row.new (W := V1) (cs := #[.int .i64 1, .int .i64 k, .int .u32 1, .int .i64 2, .int .i64 1, .int .i64 tr, .int .i64 nx, .string tagB]) (t := ResT)
  have ha7 := hb.size
  replace rp := rp.on hn
  replace hds := hds.on hn
  replace hst := hst.on hn
  replace hT1 := hT1.on hn
  replace hT2 := hT2.on hn
  replace hb := hb.on hn
  clear hn
  generalize V1.alloc _ = V2 at *
  generalize V1.heap.size = a7 at *
  have yp := rp.cell
  have zp := rp.lt
  go_wp2_with fail
  refine Calls.mono (RG.out _ hT2) ?_
  rintro e V3 ⟨rfl, hn⟩
  clear yp zp
  replace rp := rp.on hn
  replace hds := hds.on hn
  replace hst := hst.on hn
  replace hT1 := hT1.on hn
  replace hT2 := hT2.on hn
  replace r7 := r7.on hn
  replace hb := hb.on hn
  clear hn
  go_upto_region 3 with fail
  have h79 := r7.lt
  have hn := below_alloc V3 (.cells #[.int .i64 1, .int .i64 k, .int .u32 1, .int .i64 2, .int .i64 1, .int .i64 tr, .int .i64 nx, .string tagB] RrT)
  have r9 := Row.new (W := V3) (cs := #[.int .i64 1, .int .i64 k, .int .u32 1, .int .i64 2, .int .i64 1, .int .i64 tr, .int .i64 nx, .string tagB]) (t := RrT)
  have ha9 := hb.size
  replace rp := rp.on hn
  replace hds := hds.on hn
  replace hst := hst.on hn
  replace hT1 := hT1.on hn
  replace hT2 := hT2.on hn
  replace r7 := r7.on hn
  replace hb := hb.on hn
  clear hn
  generalize V3.alloc _ = V4 at *
  generalize V3.heap.size = a9 at *
  have ysc := own_cells hst HSC.out 0 (by omega)
  simp only [Nat.mul_one, Nat.add_zero, List.getElem?_cons_zero] at ysc
  have yp := rp.cell
  have zp := rp.lt
  go_upto_region 13 with fail
  clear yp zp ysc
  have hn := below_alloc V4 (.cells #[.int .i64 2, .int .i64 1, .int .i64 3] IntT)
  have r13 := Row.new (W := V4) (cs := #[.int .i64 2, .int .i64 1, .int .i64 3]) (t := IntT)
  have y13 := (r13.cell j).trans ha
  have z13 := r13.lt
  have j0 : (0 : Int) ≤ (j : Int) := by omega
  have j1 : (j : Int) < 3 := by omega
  have j2 : (j : Int) + 2 - 2 = j := by omega
  have j3 : IntKind.i64.wrap (j : Int) = j := IntWalk.i64_in _ ⟨by omega, by omega⟩
  have hTf : ∀ b, F2 b → F2 b ∨ a9 < b := fun b hq => .inl hq
  replace rp := rp.on hn
  replace hds := hds.on hn
  replace hst := hst.on hn
  replace hT1 := hT1.on hn
  replace hT2 := hT2.on hn
  replace r7 := r7.on hn
  replace r9 := r9.on hn
  replace hb := hb.on hn
  clear hn r13
  go_upto_region 14 with fail
  clear y13 z13
  generalize V4.alloc _ = V8 at *
  obtain ⟨G2, hT2, hTf⟩ : ∃ G, RTab V8 G p2 T.sl T.rs ∧ (∀ b, G b → F2 b ∨ a9 < b) := ⟨_, hT2, hTf⟩
  have hsL : ∀ b, (Value.slice (some ⟨gs, 0, none⟩) N cs).ownBlock = some b → b < w.heap.size := fun b hq => (HP.out.st.lt b hq).2
  have hdL : ∀ b, (Value.slice (some ⟨gd, 0, none⟩) DN cd).ownBlock = some b → b < w.heap.size := fun b hq => (HP.out.ds.lt b hq).2
  have hpw := HP.out.fin pp HP.out.ip
  have y7 := r7.cell
  have z7 := r7.lt
  have u7 := r7.free
  go_wp2_with fail
  refine Calls.mono (CX.out _) ?_
  rintro e V9 ⟨rfl, hn⟩
  clear y7 z7 u7
  replace rp := rp.on hn
  replace hds := hds.on hn
  replace hst := hst.on hn
  replace hT1 := hT1.on hn
  replace hT2 := hT2.on hn
  replace r7 := r7.on hn
  replace r9 := r9.on hn
  replace hb := hb.on hn
  clear hn
  have y7 := r7.cell
  have z7 := r7.lt
  have u7 := r7.free
  go_upto_region 15 with fail
  clear y7 z7 u7
  have hbS : But (fun b => b = a7) V9 ((((((((V9.setCell ⟨a7, 0, none⟩ (.int .i64 1)).setCell ⟨a7, 1, none⟩ (.int .i64 k)).setCell ⟨a7, 2, none⟩ (.int .u32 1)).setCell ⟨a7, 3, none⟩ (.int .i64 r'.st)).setCell ⟨a7, 4, none⟩ (.int .i64 wy)).setCell ⟨a7, 5, none⟩ (.int .i64 r'.tr)).setCell ⟨a7, 6, none⟩ (.int .i64 r'.nx)).setCell ⟨a7, 7, none⟩ (.string tagB)) := (((((((((But.refl (fun b => b = a7) V9).setCell (y := a7) (fun _ => rfl) 0 (.int .i64 1)).setCell (y := a7) (fun _ => rfl) 1 (.int .i64 k)).setCell (y := a7) (fun _ => rfl) 2 (.int .u32 1)).setCell (y := a7) (fun _ => rfl) 3 (.int .i64 r'.st)).setCell (y := a7) (fun _ => rfl) 4 (.int .i64 wy)).setCell (y := a7) (fun _ => rfl) 5 (.int .i64 r'.tr)).setCell (y := a7) (fun _ => rfl) 6 (.int .i64 r'.nx)).setCell (y := a7) (fun _ => rfl) 7 (.string tagB))
  replace rp := hbS.row rp (show ¬ pp = a7 by omega)
  replace r9 := hbS.row r9 (show ¬ a9 = a7 by omega)
  replace hds := hds.via (fun b hq => hbS.block b (hds.lt b hq).2 (fun e => by have := hdL b hq; omega))
  replace hst := hst.via (fun b hq => hbS.block b (hst.lt b hq).2 (fun e => by have := hsL b hq; omega))
  replace hT1 := hT1.but hbS (fun b hq e => by have := hF1w b hq; omega)
  replace hT2 := hT2.but hbS (fun b hq e => by
    rcases hTf b hq with h | h
    · have := hF2w b h; omega
    · omega)
  replace hb := hb.trans hbS (fun b hq e => absurd e (by omega))
  replace r7 := ((((((((r7.set 0 (.int .i64 1)).set 1 (.int .i64 k)).set 2 (.int .u32 1)).set 3 (.int .i64 r'.st)).set 4 (.int .i64 wy)).set 5 (.int .i64 r'.tr)).set 6 (.int .i64 r'.nx)).set 7 (.string tagB))
  simp only [List.setIfInBounds_toArray, List.set_cons_zero, List.set_cons_succ] at r7
  clear hbS
  generalize World.setCell _ _ _ = V10 at *
  have y7 := r9.cell
  have z7 := r9.lt
  have u7 := r9.free
  go_wp2_with fail
  refine Calls.mono (RX.out _) ?_
  rintro e V11 ⟨rfl, hn⟩
  clear y7 z7 u7
  replace rp := rp.on hn
  replace hds := hds.on hn
  replace hst := hst.on hn
  replace hT1 := hT1.on hn
  replace hT2 := hT2.on hn
  replace r7 := r7.on hn
  replace r9 := r9.on hn
  replace hb := hb.on hn
  clear hn
  have y7 := r9.cell
  have z7 := r9.lt
  have u7 := r9.free
  go_upto_region 16 with fail
  clear y7 z7 u7
  have hbS : But (fun b => b = a9) V11 ((((((((V11.setCell ⟨a9, 0, none⟩ (.int .i64 1)).setCell ⟨a9, 1, none⟩ (.int .i64 k)).setCell ⟨a9, 2, none⟩ (.int .u32 1)).setCell ⟨a9, 3, none⟩ (.int .i64 r'.st)).setCell ⟨a9, 4, none⟩ (.int .i64 wy)).setCell ⟨a9, 5, none⟩ (.int .i64 r'.tr)).setCell ⟨a9, 6, none⟩ (.int .i64 r'.nx)).setCell ⟨a9, 7, none⟩ (.string tagB)) := (((((((((But.refl (fun b => b = a9) V11).setCell (y := a9) (fun _ => rfl) 0 (.int .i64 1)).setCell (y := a9) (fun _ => rfl) 1 (.int .i64 k)).setCell (y := a9) (fun _ => rfl) 2 (.int .u32 1)).setCell (y := a9) (fun _ => rfl) 3 (.int .i64 r'.st)).setCell (y := a9) (fun _ => rfl) 4 (.int .i64 wy)).setCell (y := a9) (fun _ => rfl) 5 (.int .i64 r'.tr)).setCell (y := a9) (fun _ => rfl) 6 (.int .i64 r'.nx)).setCell (y := a9) (fun _ => rfl) 7 (.string tagB))
  replace rp := hbS.row rp (show ¬ pp = a9 by omega)
  replace r7 := hbS.row r7 (show ¬ a7 = a9 by omega)
  replace hds := hds.via (fun b hq => hbS.block b (hds.lt b hq).2 (fun e => by have := hdL b hq; omega))
  replace hst := hst.via (fun b hq => hbS.block b (hst.lt b hq).2 (fun e => by have := hsL b hq; omega))
  replace hT1 := hT1.but hbS (fun b hq e => by have := hF1w b hq; omega)
  replace hT2 := hT2.but hbS (fun b hq e => by
    rcases hTf b hq with h | h
    · have := hF2w b h; omega
    · omega)
  replace hb := hb.trans hbS (fun b hq e => absurd e (by omega))
  replace r9 := ((((((((r9.set 0 (.int .i64 1)).set 1 (.int .i64 k)).set 2 (.int .u32 1)).set 3 (.int .i64 r'.st)).set 4 (.int .i64 wy)).set 5 (.int .i64 r'.tr)).set 6 (.int .i64 r'.nx)).set 7 (.string tagB))
  simp only [List.setIfInBounds_toArray, List.set_cons_zero, List.set_cons_succ] at r9
  clear hbS
  generalize World.setCell _ _ _ = V12 at *
  have ysc := own_cells hst HSC.out 0 (by omega)
  simp only [Nat.mul_one, Nat.add_zero, List.getElem?_cons_zero] at ysc
  have yp := rp.cell
  have zp := rp.lt
  have us := hst.free rfl
  have zs := (hst.lt gs rfl).2
  have hsw := hsL gs rfl
  go_upto_region 17 with fail
  clear ysc yp zp us zs
  have hput := hst.put (j := k) (q := 0) rfl HSC.out (by omega) (.int .i64 ((j : Int) + 2))
  simp only [Nat.mul_one, Nat.add_zero, List.set_cons_zero] at hput
  have hbS : But (fun b => b = gs) V12 (V12.setCell ⟨gs, k, none⟩ (.int .i64 ((j : Int) + 2))) := (But.refl (fun b => b = gs) V12).setCell (y := gs) (fun _ => rfl) k (.int .i64 ((j : Int) + 2))
  have hgp : ¬ pp = gs := fun e => hst.ne_row rp (by decide) (by rw [e]; rfl)
  replace hds := hds.via (fun b hq => hbS.block b (hds.lt b hq).2 (fun e => hds.ne_own hst (by decide) (i := gs) rfl (by rw [← e]; exact hq)))
  replace rp := hbS.row rp hgp
  replace r7 := hbS.row r7 (show ¬ a7 = gs by omega)
  replace r9 := hbS.row r9 (show ¬ a9 = gs by omega)
  replace hT1 := hT1.but hbS (fun b hq e => (HNS.out gs rfl).1 (by rw [← e]; exact hq))
  replace hT2 := hT2.but hbS (fun b hq e => by
    rcases hTf b hq with h | h
    · exact (HNS.out gs rfl).2 (by rw [← e]; exact h)
    · omega)
  replace hb := hb.trans hbS (fun b hq e => by rw [e]; exact HP.out.is gs rfl)
  clear hbS hst
  have hst := hput
  clear hput
  generalize World.setCell _ _ _ = V13 at *
  refine wp_region_held_drew (S := fun W' => (∀ x, W'.cell? ⟨pp, x, none⟩ = (#[ptr p1, ptr p2, .slice (some ⟨gd, 0, none⟩) DN cd, .slice (some ⟨gs, 0, none⟩) N cs] : Array Value)[x]?) ∧ (∀ x, W'.cell? ⟨a7, x, none⟩ = (#[.int .i64 1, .int .i64 k, .int .u32 1, .int .i64 r'.st, .int .i64 wy, .int .i64 r'.tr, .int .i64 r'.nx, .string tagB] : Array Value)[x]?) ∧ (∀ x, W'.cell? ⟨a9, x, none⟩ = (#[.int .i64 1, .int .i64 k, .int .u32 1, .int .i64 r'.st, .int .i64 wy, .int .i64 r'.tr, .int .i64 r'.nx, .string tagB] : Array Value)[x]?)) (by kernel_rfl) ⟨rp.cell, r7.cell, r9.cell⟩ (fun hHeld => ?_)
  have hn := (Below.refl V13.heap.size V13).drew
  replace rp := rp.on hn
  replace hds := hds.on hn
  replace hst := hst.on hn
  replace hT1 := hT1.on hn
  replace hT2 := hT2.on hn
  replace r7 := r7.on hn
  replace r9 := r9.on hn
  replace hb := hb.on hn
  clear hn
  generalize V13.drew = X2 at *
  refine' wpAnyH_take (i := 0) (oi := _) (v := _) ?_ (by kernel_rfl) (by kernel_rfl) (by kernel_rfl) ?_ (Or.inl ⟨?_, ?_⟩) (by assumption) ?_
  rotate_left 2
  · (simp only [List.getElem?_toArray, List.getElem?_cons_succ, List.getElem?_cons_zero]; rfl)
  · first | exact fun _ _ _ h => h | exact fun _ _ _ h => nomatch h.1
  · rfl
  · (intro W hSW; (try dsimp only at hSW); go_split_ands; first | (go_simp; done) | (go_simp; with_reducible rfl))
  try simp only [Act.put, List.setIfInBounds_toArray, List.set_cons_zero, List.set_cons_succ]
  refine' wpAnyH_take (i := 1) (oi := _) (v := _) ?_ (by kernel_rfl) (by kernel_rfl) (by kernel_rfl) ?_ (Or.inl ⟨?_, ?_⟩) (by assumption) ?_
  rotate_left 2
  · (simp only [List.getElem?_toArray, List.getElem?_cons_succ, List.getElem?_cons_zero]; rfl)
  · first | exact fun _ _ _ h => h | exact fun _ _ _ h => nomatch h.1
  · rfl
  · (intro W hSW; (try dsimp only at hSW); go_split_ands; first | (go_simp; done) | (go_simp; with_reducible rfl))
  try simp only [Act.put, List.setIfInBounds_toArray, List.set_cons_zero, List.set_cons_succ]
  refine' wpAnyH_take (i := 2) (oi := _) (v := _) ?_ (by kernel_rfl) (by kernel_rfl) (by kernel_rfl) ?_ (Or.inl ⟨?_, ?_⟩) (by assumption) ?_
  rotate_left 2
  · (simp only [List.getElem?_toArray, List.getElem?_cons_succ, List.getElem?_cons_zero]; rfl)
  · first | exact fun _ _ _ h => h | exact fun _ _ _ h => nomatch h.1
  · rfl
  · (intro W hSW; (try dsimp only at hSW); go_split_ands; first | (go_simp; done) | (go_simp; with_reducible rfl))
  try simp only [Act.put, List.setIfInBounds_toArray, List.set_cons_zero, List.set_cons_succ]
  refine' wpAnyH_take (i := 3) (oi := _) (v := _) ?_ (by kernel_rfl) (by kernel_rfl) (by kernel_rfl) ?_ (Or.inl ⟨?_, ?_⟩) (by assumption) ?_
  rotate_left 2
  · (simp only [List.getElem?_toArray, List.getElem?_cons_succ, List.getElem?_cons_zero]; rfl)
  · first | exact fun _ _ _ h => h | exact fun _ _ _ h => nomatch h.1
  · rfl
  · (intro W hSW; (try dsimp only at hSW); go_split_ands; first | (go_simp; done) | (go_simp; with_reducible rfl))
  try simp only [Act.put, List.setIfInBounds_toArray, List.set_cons_zero, List.set_cons_succ]
  refine' wpAnyH_take (i := 4) (oi := _) (v := _) ?_ (by kernel_rfl) (by kernel_rfl) (by kernel_rfl) ?_ (Or.inl ⟨?_, ?_⟩) (by assumption) ?_
  rotate_left 2
  · (simp only [List.getElem?_toArray, List.getElem?_cons_succ, List.getElem?_cons_zero]; rfl)
  · first | exact fun _ _ _ h => h | exact fun _ _ _ h => nomatch h.1
  · rfl
  · (intro W hSW; (try dsimp only at hSW); go_split_ands; first | (go_simp; done) | (go_simp; with_reducible rfl))
  try simp only [Act.put, List.setIfInBounds_toArray, List.set_cons_zero, List.set_cons_succ]
  refine' wpAnyH_take (i := 5) (oi := _) (v := _) ?_ (by kernel_rfl) (by kernel_rfl) (by kernel_rfl) ?_ (Or.inl ⟨?_, ?_⟩) (by assumption) ?_
  rotate_left 2
  · (simp only [List.getElem?_toArray, List.getElem?_cons_succ, List.getElem?_cons_zero]; rfl)
  · first | exact fun _ _ _ h => h | exact fun _ _ _ h => nomatch h.1
  · rfl
  · (intro W hSW; (try dsimp only at hSW); go_split_ands; first | (go_simp; done) | (go_simp; with_reducible rfl))
  try simp only [Act.put, List.setIfInBounds_toArray, List.set_cons_zero, List.set_cons_succ]
  refine' wpAnyH_take (i := 6) (oi := _) (v := _) ?_ (by kernel_rfl) (by kernel_rfl) (by kernel_rfl) ?_ (Or.inl ⟨?_, ?_⟩) (by assumption) ?_
  rotate_left 2
  · (simp only [List.getElem?_toArray, List.getElem?_cons_succ, List.getElem?_cons_zero]; rfl)
  · first | exact fun _ _ _ h => h | exact fun _ _ _ h => nomatch h.1
  · rfl
  · (intro W hSW; (try dsimp only at hSW); go_split_ands; first | (go_simp; done) | (go_simp; with_reducible rfl))
  try simp only [Act.put, List.setIfInBounds_toArray, List.set_cons_zero, List.set_cons_succ]
  refine' wpAnyH_take (i := 7) (oi := _) (v := _) ?_ (by kernel_rfl) (by kernel_rfl) (by kernel_rfl) ?_ (Or.inl ⟨?_, ?_⟩) (by assumption) ?_
  rotate_left 2
  · (simp only [List.getElem?_toArray, List.getElem?_cons_succ, List.getElem?_cons_zero]; rfl)
  · first | exact fun _ _ _ h => h | exact fun _ _ _ h => nomatch h.1
  · rfl
  · (intro W hSW; (try dsimp only at hSW); go_split_ands; first | (go_simp; done) | (go_simp; with_reducible rfl))
  try simp only [Act.put, List.setIfInBounds_toArray, List.set_cons_zero, List.set_cons_succ]
  refine' wpAnyH_take (i := 8) (oi := _) (v := _) ?_ (by kernel_rfl) (by kernel_rfl) (by kernel_rfl) ?_ (Or.inl ⟨?_, ?_⟩) (by assumption) ?_
  rotate_left 2
  · (simp only [List.getElem?_toArray, List.getElem?_cons_succ, List.getElem?_cons_zero]; rfl)
  · first | exact fun _ _ _ h => h | exact fun _ _ _ h => nomatch h.1
  · rfl
  · (intro W hSW; (try dsimp only at hSW); go_split_ands; first | (go_simp; done) | (go_simp; with_reducible rfl))
  try simp only [Act.put, List.setIfInBounds_toArray, List.set_cons_zero, List.set_cons_succ]
  refine' wpAnyH_take (i := 9) (oi := _) (v := _) ?_ (by kernel_rfl) (by kernel_rfl) (by kernel_rfl) ?_ (Or.inl ⟨?_, ?_⟩) (by assumption) ?_
  rotate_left 2
  · (simp only [List.getElem?_toArray, List.getElem?_cons_succ, List.getElem?_cons_zero]; rfl)
  · first | exact fun _ _ _ h => h | exact fun _ _ _ h => nomatch h.1
  · rfl
  · (intro W hSW; (try dsimp only at hSW); go_split_ands; first | (go_simp; done) | (go_simp; with_reducible rfl))
  try simp only [Act.put, List.setIfInBounds_toArray, List.set_cons_zero, List.set_cons_succ]
  refine' wpAnyH_take (i := 10) (oi := _) (v := _) ?_ (by kernel_rfl) (by kernel_rfl) (by kernel_rfl) ?_ (Or.inl ⟨?_, ?_⟩) (by assumption) ?_
  rotate_left 2
  · (simp only [List.getElem?_toArray, List.getElem?_cons_succ, List.getElem?_cons_zero]; rfl)
  · first | exact fun _ _ _ h => h | exact fun _ _ _ h => nomatch h.1
  · rfl
  · (intro W hSW; (try dsimp only at hSW); go_split_ands; first | (go_simp; done) | (go_simp; with_reducible rfl))
  try simp only [Act.put, List.setIfInBounds_toArray, List.set_cons_zero, List.set_cons_succ]
  refine' wpAnyH_take (i := 11) (oi := _) (v := _) ?_ (by kernel_rfl) (by kernel_rfl) (by kernel_rfl) ?_ (Or.inl ⟨?_, ?_⟩) (by assumption) ?_
  rotate_left 2
  · (simp only [List.getElem?_toArray, List.getElem?_cons_succ, List.getElem?_cons_zero]; rfl)
  · first | exact fun _ _ _ h => h | exact fun _ _ _ h => nomatch h.1
  · rfl
  · (intro W hSW; (try dsimp only at hSW); go_split_ands; first | (go_simp; done) | (go_simp; with_reducible rfl))
  try simp only [Act.put, List.setIfInBounds_toArray, List.set_cons_zero, List.set_cons_succ]
  refine' wpAnyH_take (i := 12) (oi := _) (v := _) ?_ (by kernel_rfl) (by kernel_rfl) (by kernel_rfl) ?_ (Or.inl ⟨?_, ?_⟩) (by assumption) ?_
  rotate_left 2
  · (simp only [List.getElem?_toArray, List.getElem?_cons_succ, List.getElem?_cons_zero]; rfl)
  · first | exact fun _ _ _ h => h | exact fun _ _ _ h => nomatch h.1
  · rfl
  · (intro W hSW; (try dsimp only at hSW); go_split_ands; first | (go_simp; done) | (go_simp; with_reducible rfl))
  try simp only [Act.put, List.setIfInBounds_toArray, List.set_cons_zero, List.set_cons_succ]
  refine' wpAnyH_take (i := 13) (oi := _) (v := _) ?_ (by kernel_rfl) (by kernel_rfl) (by kernel_rfl) ?_ (Or.inl ⟨?_, ?_⟩) (by assumption) ?_
  rotate_left 2
  · (simp only [List.getElem?_toArray, List.getElem?_cons_succ, List.getElem?_cons_zero]; rfl)
  · first | exact fun _ _ _ h => h | exact fun _ _ _ h => nomatch h.1
  · rfl
  · (intro W hSW; (try dsimp only at hSW); go_split_ands; first | (go_simp; done) | (go_simp; with_reducible rfl))
  try simp only [Act.put, List.setIfInBounds_toArray, List.set_cons_zero, List.set_cons_succ]
  clear hHeld
  refine wpAnyH_ready (rs := [14]) (by kernel_rfl) (by simp) ?_
  refine' AllReadyH.cons (o := _) ?_ (fun K hK => ?_) AllReadyH.nil
  rotate_left 1
  · (simp only [List.getElem?_toArray, List.getElem?_cons_succ, List.getElem?_cons_zero]; rfl)
  go_simp
  refine (CS.out _ hT1).mono ?_
  rintro e V14 ⟨rfl, hTn, hbn⟩
  go_simp
  replace rp := hbn.row rp (HP.out.n1p)
  replace r7 := hbn.row r7 (fun h => by have := hF1w _ h; omega)
  replace r9 := hbn.row r9 (fun h => by have := hF1w _ h; omega)
  replace hds := hds.via (fun b hq => hbn.block b (hds.lt b hq).2 ((HND.out b hq).1))
  replace hst := hst.via (fun b hq => hbn.block b (hst.lt b hq).2 ((HNS.out b hq).1))
  replace hT2 := hT2.but hbn (fun b h1 h2 => by
    have h0 := hF1w b h2
    rcases hTf b h1 with h | h
    · exact HP.out.n12 b h2 h
    · omega)
  replace hb := hb.trans hbn (fun b _ h => HP.out.i1 b h)
  clear hT1
  have hT1 := hTn
  clear hTn hbn
  refine hK.out _ _ ⟨rp.cell, r7.cell, r9.cell⟩ (fun hHeld => ?_)
  clear hK K
  refine' wpAnyH_take (i := 15) (oi := _) (v := _) ?_ (by kernel_rfl) (by kernel_rfl) (by kernel_rfl) ?_ (Or.inl ⟨?_, ?_⟩) (by assumption) ?_
  rotate_left 2
  · (simp only [List.getElem?_toArray, List.getElem?_cons_succ, List.getElem?_cons_zero]; rfl)
  · first | exact fun _ _ _ h => h | exact fun _ _ _ h => nomatch h.1
  · rfl
  · (intro W hSW; (try dsimp only at hSW); go_split_ands; first | (go_simp; done) | (go_simp; with_reducible rfl))
  try simp only [Act.put, List.setIfInBounds_toArray, List.set_cons_zero, List.set_cons_succ]
  refine' wpAnyH_take (i := 16) (oi := _) (v := _) ?_ (by kernel_rfl) (by kernel_rfl) (by kernel_rfl) ?_ (Or.inl ⟨?_, ?_⟩) (by assumption) ?_
  rotate_left 2
  · (simp only [List.getElem?_toArray, List.getElem?_cons_succ, List.getElem?_cons_zero]; rfl)
  · first | exact fun _ _ _ h => h | exact fun _ _ _ h => nomatch h.1
  · rfl
  · (intro W hSW; (try dsimp only at hSW); go_split_ands; first | (go_simp; done) | (go_simp; with_reducible rfl))
  try simp only [Act.put, List.setIfInBounds_toArray, List.set_cons_zero, List.set_cons_succ]
  refine' wpAnyH_take (i := 17) (oi := _) (v := _) ?_ (by kernel_rfl) (by kernel_rfl) (by kernel_rfl) ?_ (Or.inl ⟨?_, ?_⟩) (by assumption) ?_
  rotate_left 2
  · (simp only [List.getElem?_toArray, List.getElem?_cons_succ, List.getElem?_cons_zero]; rfl)
  · first | exact fun _ _ _ h => h | exact fun _ _ _ h => nomatch h.1
  · rfl
  · (intro W hSW; (try dsimp only at hSW); go_split_ands; first | (go_simp; done) | (go_simp; with_reducible rfl))
  try simp only [Act.put, List.setIfInBounds_toArray, List.set_cons_zero, List.set_cons_succ]
  refine' wpAnyH_take (i := 18) (oi := _) (v := _) ?_ (by kernel_rfl) (by kernel_rfl) (by kernel_rfl) ?_ (Or.inl ⟨?_, ?_⟩) (by assumption) ?_
  rotate_left 2
  · (simp only [List.getElem?_toArray, List.getElem?_cons_succ, List.getElem?_cons_zero]; rfl)
  · first | exact fun _ _ _ h => h | exact fun _ _ _ h => nomatch h.1
  · rfl
  · (intro W hSW; (try dsimp only at hSW); go_split_ands; first | (go_simp; done) | (go_simp; with_reducible rfl))
  try simp only [Act.put, List.setIfInBounds_toArray, List.set_cons_zero, List.set_cons_succ]
  refine' wpAnyH_take (i := 19) (oi := _) (v := _) ?_ (by kernel_rfl) (by kernel_rfl) (by kernel_rfl) ?_ (Or.inl ⟨?_, ?_⟩) (by assumption) ?_
  rotate_left 2
  · (simp only [List.getElem?_toArray, List.getElem?_cons_succ, List.getElem?_cons_zero]; rfl)
  · first | exact fun _ _ _ h => h | exact fun _ _ _ h => nomatch h.1
  · rfl
  · (intro W hSW; (try dsimp only at hSW); go_split_ands; first | (go_simp; done) | (go_simp; with_reducible rfl))
  try simp only [Act.put, List.setIfInBounds_toArray, List.set_cons_zero, List.set_cons_succ]
  refine' wpAnyH_take (i := 20) (oi := _) (v := _) ?_ (by kernel_rfl) (by kernel_rfl) (by kernel_rfl) ?_ (Or.inl ⟨?_, ?_⟩) (by assumption) ?_
  rotate_left 2
  · (simp only [List.getElem?_toArray, List.getElem?_cons_succ, List.getElem?_cons_zero]; rfl)
  · first | exact fun _ _ _ h => h | exact fun _ _ _ h => nomatch h.1
  · rfl
  · (intro W hSW; (try dsimp only at hSW); go_split_ands; first | (go_simp; done) | (go_simp; with_reducible rfl))
  try simp only [Act.put, List.setIfInBounds_toArray, List.set_cons_zero, List.set_cons_succ]
  refine' wpAnyH_take (i := 21) (oi := _) (v := _) ?_ (by kernel_rfl) (by kernel_rfl) (by kernel_rfl) ?_ (Or.inl ⟨?_, ?_⟩) (by assumption) ?_
  rotate_left 2
  · (simp only [List.getElem?_toArray, List.getElem?_cons_succ, List.getElem?_cons_zero]; rfl)
  · first | exact fun _ _ _ h => h | exact fun _ _ _ h => nomatch h.1
  · rfl
  · (intro W hSW; (try dsimp only at hSW); go_split_ands; first | (go_simp; done) | (go_simp; with_reducible rfl))
  try simp only [Act.put, List.setIfInBounds_toArray, List.set_cons_zero, List.set_cons_succ]
  refine' wpAnyH_take (i := 22) (oi := _) (v := _) ?_ (by kernel_rfl) (by kernel_rfl) (by kernel_rfl) ?_ (Or.inl ⟨?_, ?_⟩) (by assumption) ?_
  rotate_left 2
  · (simp only [List.getElem?_toArray, List.getElem?_cons_succ, List.getElem?_cons_zero]; rfl)
  · first | exact fun _ _ _ h => h | exact fun _ _ _ h => nomatch h.1
  · rfl
  · (intro W hSW; (try dsimp only at hSW); go_split_ands; first | (go_simp; done) | (go_simp; with_reducible rfl))
  try simp only [Act.put, List.setIfInBounds_toArray, List.set_cons_zero, List.set_cons_succ]
  refine' wpAnyH_take (i := 23) (oi := _) (v := _) ?_ (by kernel_rfl) (by kernel_rfl) (by kernel_rfl) ?_ (Or.inl ⟨?_, ?_⟩) (by assumption) ?_
  rotate_left 2
  · (simp only [List.getElem?_toArray, List.getElem?_cons_succ, List.getElem?_cons_zero]; rfl)
  · first | exact fun _ _ _ h => h | exact fun _ _ _ h => nomatch h.1
  · rfl
  · (intro W hSW; (try dsimp only at hSW); go_split_ands; first | (go_simp; done) | (go_simp; with_reducible rfl))
  try simp only [Act.put, List.setIfInBounds_toArray, List.set_cons_zero, List.set_cons_succ]
  refine' wpAnyH_take (i := 24) (oi := _) (v := _) ?_ (by kernel_rfl) (by kernel_rfl) (by kernel_rfl) ?_ (Or.inl ⟨?_, ?_⟩) (by assumption) ?_
  rotate_left 2
  · (simp only [List.getElem?_toArray, List.getElem?_cons_succ, List.getElem?_cons_zero]; rfl)
  · first | exact fun _ _ _ h => h | exact fun _ _ _ h => nomatch h.1
  · rfl
  · (intro W hSW; (try dsimp only at hSW); go_split_ands; first | (go_simp; done) | (go_simp; with_reducible rfl))
  try simp only [Act.put, List.setIfInBounds_toArray, List.set_cons_zero, List.set_cons_succ]
  clear hHeld
  have hX9 := r9.lt
  refine wpAnyH_ready (rs := [25]) (by kernel_rfl) (by simp) ?_
  refine' AllReadyH.cons (o := _) ?_ (fun K hK => ?_) AllReadyH.nil
  rotate_left 1
  · (simp only [List.getElem?_toArray, List.getElem?_cons_succ, List.getElem?_cons_zero]; rfl)
  go_simp
  refine (RS2.out _ _ hT2).mono ?_
  rintro e V15 ⟨rfl, hTn, hbn⟩
  go_simp
  have hG2p : ¬ G2 pp := fun h => by
    rcases hTf _ h with h1 | h1
    · exact HP.out.n2p h1
    · omega
  have hG2o : ∀ x, w.heap.size ≤ x → x ≤ a9 → ¬ G2 x := fun x hx1 hx2 h => by
    rcases hTf _ h with h1 | h1
    · have := hF2w _ h1; omega
    · omega
  have hG2d : ∀ b, (Value.slice (some ⟨gd, 0, none⟩) DN cd).ownBlock = some b → ¬ G2 b := fun b hq h => by
    have := hdL b hq
    rcases hTf _ h with h1 | h1
    · exact (HND.out b hq).2 h1
    · omega
  have hG2s : ∀ b, (Value.slice (some ⟨gs, 0, none⟩) N cs).ownBlock = some b → ¬ G2 b := fun b hq h => by
    have := hsL b hq
    rcases hTf _ h with h1 | h1
    · exact (HNS.out b hq).2 h1
    · omega
  replace rp := hbn.row rp (hG2p)
  replace r7 := hbn.row r7 (hG2o _ (by omega) (by omega))
  replace r9 := hbn.row r9 (hG2o _ (by omega) (by omega))
  replace hds := hds.via (fun b hq => hbn.block b (hds.lt b hq).2 (hG2d b hq))
  replace hst := hst.via (fun b hq => hbn.block b (hst.lt b hq).2 (hG2s b hq))
  replace hT1 := hT1.but hbn (fun b h1 h2 => by
    have h0 := hF1w b h1
    rcases hTf b h2 with h | h
    · exact HP.out.n12 b h1 h
    · omega)
  replace hb := hb.trans hbn (fun b hq h => by
    rcases hTf b h with h | h
    · exact HP.out.i2 b h
    · omega)
  refine hK.out _ _ ⟨rp.cell, r7.cell, r9.cell⟩ (fun hHeld => ?_)
  clear hK K
  refine' wpAnyH_take (i := 26) (oi := _) (v := _) ?_ (by kernel_rfl) (by kernel_rfl) (by kernel_rfl) ?_ (Or.inl ⟨?_, ?_⟩) (by assumption) ?_
  rotate_left 2
  · (simp only [List.getElem?_toArray, List.getElem?_cons_succ, List.getElem?_cons_zero]; rfl)
  · first | exact fun _ _ _ h => h | exact fun _ _ _ h => nomatch h.1
  · rfl
  · (intro W hSW; (try dsimp only at hSW); go_split_ands; first | (go_simp; done) | (go_simp; with_reducible rfl))
  try simp only [Act.put, List.setIfInBounds_toArray, List.set_cons_zero, List.set_cons_succ]
  refine' wpAnyH_take (i := 27) (oi := _) (v := _) ?_ (by kernel_rfl) (by kernel_rfl) (by kernel_rfl) ?_ (Or.inl ⟨?_, ?_⟩) (by assumption) ?_
  rotate_left 2
  · (simp only [List.getElem?_toArray, List.getElem?_cons_succ, List.getElem?_cons_zero]; rfl)
  · first | exact fun _ _ _ h => h | exact fun _ _ _ h => nomatch h.1
  · rfl
  · (intro W hSW; (try dsimp only at hSW); go_split_ands; first | (go_simp; done) | (go_simp; with_reducible rfl))
  try simp only [Act.put, List.setIfInBounds_toArray, List.set_cons_zero, List.set_cons_succ]
  refine' wpAnyH_take (i := 28) (oi := _) (v := _) ?_ (by kernel_rfl) (by kernel_rfl) (by kernel_rfl) ?_ (Or.inl ⟨?_, ?_⟩) (by assumption) ?_
  rotate_left 2
  · (simp only [List.getElem?_toArray, List.getElem?_cons_succ, List.getElem?_cons_zero]; rfl)
  · first | exact fun _ _ _ h => h | exact fun _ _ _ h => nomatch h.1
  · rfl
  · (intro W hSW; (try dsimp only at hSW); go_split_ands; first | (go_simp; done) | (go_simp; with_reducible rfl))
  try simp only [Act.put, List.setIfInBounds_toArray, List.set_cons_zero, List.set_cons_succ]
  clear hHeld
  refine wpAnyH_done (by kernel_rfl) ?_ _
  have hPP : Pair V15 (fun b => F b ∨ FreshL w V15 b) pp (triedT T k ((j : Int) + 2)) := by
    rw [HCL.out]
    have hTf2 : ∀ b, (G2 b ∨ FreshL V14 V15 b) → F2 b ∨ (w.heap.size ≤ b ∧ a9 < b) := fun b hq => by
      rcases hq with hq | hq
      · exact (hTf b hq).imp id (fun h => ⟨by omega, h⟩)
      · exact .inr ⟨by have := hq.1; omega, by have := hq.1; omega⟩
    refine ⟨F1, _, p1, p2, _, _, {
      row := rp
      t1 := hT1
      t2 := hTn
      ds := hds
      st := by rw [stL_set, HRST.out]; exact hst
      i1 := fun b hq => .inl (HP.out.i1 b hq)
      i2 := fun b hq => (hTf2 b hq).imp (HP.out.i2 b) (fun h => ⟨h.1, hTn.fin b hq⟩)
      ip := .inl HP.out.ip
      id := fun b hq => .inl (HP.out.id b hq)
      is := fun b hq => .inl (HP.out.is b hq)
      fin := fun b hq => by
        rcases hq with hq | hq
        · exact Nat.lt_of_lt_of_le (HP.out.fin b hq) hb.size
        · exact hq.2
      n12 := fun b h1 h2 => by
        have := hF1w b h1
        rcases hTf2 b h2 with h | h
        · exact HP.out.n12 b h1 h
        · omega
      n1p := HP.out.n1p
      n2p := fun h => by
        rcases hTf2 _ h with h | h
        · exact HP.out.n2p h
        · omega
      nd := fun b hq => ⟨(HND.out b hq).1, fun h => by
        have := hdL b hq
        rcases hTf2 _ h with h | h
        · exact (HND.out b hq).2 h
        · omega⟩
      ns := fun b hq => ⟨(HNS.out b hq).1, fun h => by
        have := hsL b hq
        rcases hTf2 _ h with h | h
        · exact (HNS.out b hq).2 h
        · omega⟩ }⟩
  have HPF := Lib.hid hPP
  have HBF := Lib.hid hb
  clear hPP hb hT1 hTn hbn hds hst rp r7 r9
  go_wp2_with fail
  go_returns
  exact ⟨rfl, HPF.out, HBF.out⟩
end Go.Proofs.YtkjpdciccablpaaGreatDoor
