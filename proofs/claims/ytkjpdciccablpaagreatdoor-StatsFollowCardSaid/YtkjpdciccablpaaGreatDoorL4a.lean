/- The reference's table (chapter 37): Set, Of. -/
import Derived.Test.YtkjpdciccablpaaGreatDoorL3a
import Derived.Test.YtkjpdciccablpaaGreatDoorL0a
import Derived.Test.YtkjpdciccablpaaGreatDoorHRRes2
namespace Go.Proofs.YtkjpdciccablpaaGreatDoor
open Go.RowKit
set_option linter.unusedVariables false
set_option linter.unusedSimpArgs false
set_option maxHeartbeats 16000000
set_option maxRecDepth 20000
theorem rres_info : (Tryz.prog.info? 94).map (fun i => (i.zero, i.size, i.bytes)) = some (some (.agg #[.int .i64 0, .int .i64 0, .int .u32 0, .int .i64 0, .int .i64 0, .int .i64 0, .int .i64 0, .string ⟨#[]⟩]), 8, 72) := by kernel_rfl
theorem resL_one2 {l : List RS} : ∀ c ∈ resL l, ∀ u ∈ c, u.oneCell' = true := by
  intro c hc u hu
  unfold resL at hc
  obtain ⟨k, hk⟩ := List.mem_iff_getElem?.1 hc
  rw [List.getElem?_mapIdx] at hk
  obtain ⟨r, hr, rfl⟩ := Option.map_eq_some_iff.1 hk
  simp only [resC, List.mem_cons, List.not_mem_nil, or_false] at hu
  rcases hu with rfl | rfl | rfl | rfl | rfl | rfl | rfl | rfl <;> rfl
/-- But for the table's own cells nothing turned: its parts are as they were. -/
theorem RTb.put {w W' : World} {F : Nat → Prop} {p : Nat} {sl : List SlotR} {rs : List RS} {z : Nat} {vs vl vr : Value} (h : RTb w F p sl rs z vs vl vr) (hb : But (fun b => b = p) w W') : RSl W' F z sl vs ∧ OwnsC RenT 6 0 W' vl (enL 0 sl) ∧ OwnsC RrT 8 0 W' vr (resL rs) := by
  have n1 : z ≠ p := row_ne_row h.rsl.row h.row (by decide)
  have n2 := h.rsl.own.ne_row h.row (by decide)
  have n3 := h.el.ne_row h.row (by decide)
  have n4 := h.rl.ne_row h.row (by decide)
  refine ⟨{ row := hb.row h.rsl.row n1, own := h.rsl.own.via (fun i hi => hb.block i (h.rsl.own.lt i hi).2 (fun e => n2 (by rw [← e]; exact hi))), len := h.rsl.len, fz := h.rsl.fz, fv := h.rsl.fv, fin := fun b hF => Nat.lt_of_lt_of_le (h.fin b hF) hb.size }, h.el.via (fun i hi => hb.block i (h.el.lt i hi).2 (fun e => n3 (by rw [← e]; exact hi))), h.rl.via (fun i hi => hb.block i (h.rl.lt i hi).2 (fun e => n4 (by rw [← e]; exact hi)))⟩
theorem rset_c {w : World} {F : Nat → Prop} {p : Nat} {sl : List SlotR} {rs : List RS} {z : Nat} {vs vl vr : Value} {k : Nat} {r r' : RS} (h : RTb w F p sl rs z vs vl vr) (hr : rs[k]? = some r) (hst : r'.st ≠ 1) (hok : rErr 1 k 1 r'.st (whyS r'.st) r'.tr r'.nx tagB = 0) (hn : ∀ (i k' : Nat) (g : Int), sl[i]? = some ⟨some k', g⟩ → k' ≠ k) :
    Calls Tryz.prog 40 #[ptr p, .int .i64 ((k : Int) + 1), resV k r'] w fun e w' => e = .returned (.int .i64 0) ∧ RTab w' (fun b => F b ∨ FreshL w w' b) p sl (rs.set k r') ∧ But F w w' := by
  obtain ⟨i0, hi, hz0, hz1, hz2⟩ := info_parts rres_info
  have HI0 := Lib.hid hi
  have HZ0 := Lib.hid hz0
  have HZ1 := Lib.hid hz1
  have HZ2 := Lib.hid hz2
  clear hi hz0 hz1 hz2
  have hkl := (List.getElem?_eq_some_iff.1 hr).1
  have hm := h.most
  have CG := Lib.hid (fun W (hb : Below w.heap.size w W) => rget_c (h.on hb) hr)
  have CD := Lib.hid (fun W (hb : Below w.heap.size w W) => rdescs_c (h.on hb) hkl)
  have cc := fun W => rrerr_c 1 k 1 r'.st (whyS r'.st) r'.tr r'.nx tagB W (by omega) (by decide)
  rw [hok] at cc
  have CC := Lib.hid cc
  have HH := Lib.hid h
  have HR := Lib.hid hr
  have HN := Lib.hid hn
  have e1 : IntKind.i64.wrap ((k : Int) + 1 - 1) = (k : Int) := by rw [show (k : Int) + 1 - 1 = k by omega]; exact IntWalk.i64_in _ ⟨by omega, by omega⟩
  have e2 : IntKind.i64.wrap (k : Int) = (k : Int) := IntWalk.i64_in _ ⟨by omega, by omega⟩
  have k0 : (0 : Int) ≤ (k : Int) := by omega
  have k1 : (k : Int) < (rs.length : Int) := by omega
  obtain ⟨M, hM⟩ : ∃ M, rs.length = M := ⟨_, rfl⟩
  rw [hM] at k1 hm hkl
  have HM := Lib.hid hM
  clear h hr hok hn cc hM
  have hrV : ∀ x : RS, resV k x = .agg #[.int .i64 1, .int .i64 k, .int .u32 1, .int .i64 x.st, .int .i64 (whyS x.st), .int .i64 x.tr, .int .i64 x.nx, .string tagB] := fun x => rfl
  rw [hrV] at CG ⊢
  have qo : ∀ W, (binOp .neq 83 (.agg #[.int .i64 1, .int .i64 k, .int .u32 1]) (.agg #[.int .i64 1, .int .i64 k, .int .u32 1])).run Tryz.prog W = .ok (.bool false) W := by intro W; go_simp
  have HRV := Lib.hid hrV
  have hst2 : (r'.st != (1 : Int)) = true := by simpa using hst
  clear hrV hst
  generalize hwy : whyS r.st = wy at *
  generalize hwy' : whyS r'.st = wy' at *
  go_enter Tryz.func40, Tryz.ntmps40
  go_upto_region 1 with fail
  have hc := below_alloc w (.cells #[.int .i64 1, .int .i64 k, .int .u32 1, .int .i64 r'.st, .int .i64 wy', .int .i64 r'.tr, .int .i64 r'.nx, .string tagB] RrT)
  have r1 := Row.new (W := w) (cs := #[.int .i64 1, .int .i64 k, .int .u32 1, .int .i64 r'.st, .int .i64 wy', .int .i64 r'.tr, .int .i64 r'.nx, .string tagB]) (t := RrT)
  generalize w.alloc _ = V1 at *
  go_wp2_with fail
  refine Calls.mono (CG.out _ hc) ?_
  rintro e V2 ⟨rfl, hn⟩
  replace r1 := r1.on hn
  replace hc := chain hc hn
  clear hn CG
  go_upto_region 2 with fail
  have hn := below_alloc V2 (.cells #[.int .i64 1, .int .i64 k, .int .u32 1, .int .i64 r.st, .int .i64 wy, .int .i64 r.tr, .int .i64 r.nx, .string tagB] RrT)
  have r2 := Row.new (W := V2) (cs := #[.int .i64 1, .int .i64 k, .int .u32 1, .int .i64 r.st, .int .i64 wy, .int .i64 r.tr, .int .i64 r.nx, .string tagB]) (t := RrT)
  have ha2 : w.heap.size < V2.heap.size := r1.lt
  replace r1 := r1.on hn
  replace hc := chain hc hn
  clear hn
  generalize V2.alloc _ = V3 at *
  generalize V2.heap.size = a2 at *
  have y1 := r1.cell
  have z1 := r1.lt
  go_wp2_with fail
  refine Calls.mono (CC.out _) ?_
  rintro e V4 ⟨rfl, hn⟩
  clear y1 z1 CC
  replace r1 := r1.on hn
  replace r2 := r2.on hn
  replace hc := chain hc hn
  clear hn
  have y1 := r1.cell
  have z1 := r1.lt
  have y2 := r2.cell
  have z2 := r2.lt
  go_wp2_with fail
  refine Calls.mono (CD.out _ hc) ?_
  rintro e V5 ⟨ad, qd, cd, rfl, hq0, hn⟩
  obtain rfl := hq0 HN.out
  clear y1 z1 y2 z2
  replace r1 := r1.on hn
  replace r2 := r2.on hn
  replace hc := chain hc hn
  clear hn CD
  have y1 := r1.cell
  have z1 := r1.lt
  have y2 := r2.cell
  have z2 := r2.lt
  go_upto_region 11 with fail
  clear y1 z1 y2 z2
  have hn := below_alloc V5 (.cells #[] RrT)
  have hT := HH.out.on hc
  have hc6 := chain hc hn
  have hT6 := hT.on hn
  have hmade := (OwnsC.made (t := RrT) (k := 8) (b := V5.heap.size) V5).2 (Nat.le_refl _)
  have r16 := r1.on hn
  have yp := hT.row.cell
  have zp := hT.row.lt
  have HX := Lib.hid hn.size
  have HX2 := Lib.hid (Nat.le_trans hc.size hn.size)
  have HMADE := Lib.hid hmade
  have HSRC := Lib.hid (hT6.rl.src resL_one2)
  have HT6 := Lib.hid hT6
  have HC6 := Lib.hid hc6
  have hlen : ([] : List (List Value)).length + (resL rs).length = M := by rw [resL_len, HM.out]; simp
  have hpw := HH.out.fin p HH.out.fp
  have hr1l := r1.lt
  have hcs := hc.size
  clear hmade hT6 hc6 hT hn r1 r2
  go_wp2_with (at_builtin; refine wpList_app rfl _ _ 79 rfl (b := V5.heap.size) Tryz.underlying79 HI0.out HZ0.out HZ1.out HZ2.out rfl (by decide) rfl rfl HMADE.out HSRC.out (by rw [hlen]; omega) (by decide) HX.out ?_; rw [hlen, List.nil_append]; intro aa c1 w1 hown hgrow; clear yp zp; have rp6 := row_grown HT6.out.row hgrow (by intro e; have : V5.heap.size = p := Option.some.inj e; omega); have rb6 := row_grown r16 hgrow (by intro e; have : V5.heap.size = w.heap.size := Option.some.inj e; omega); have yp := rp6.cell; have up := rp6.free; have zp := rp6.lt; have HOWN := Lib.hid hown; have HGR := Lib.hid hgrow; clear hown hgrow)
  have HS6 := Lib.hid (HC6.out.grown HGR.out HX2.out (fun k hk => Nat.le_trans hcs (HMADE.out.lt k hk).1))
  have hHS := HS6.out
  have hbp : But (fun b => b = p) w (w1.setCell ⟨p, 2, none⟩ (.slice aa M c1)) := (but_of (fun b => b = p) hHS).setCell (y := p) (fun _ => rfl) 2 (.slice aa M c1)
  have hgp := HOWN.out.ne_row rp6 (by decide)
  have hob := HOWN.out.other hgp 2 (.slice aa M c1)
  have rb7 := rb6.other (show p ≠ w.heap.size by omega) 2 (.slice aa M c1)
  have rp7 := rp6.set 2 (.slice aa M c1)
  simp only [List.setIfInBounds_toArray, List.set_cons_zero, List.set_cons_succ] at rp7
  clear yp up zp rp6 rb6 r16 hHS
  generalize w1.setCell ⟨p, 2, none⟩ (.slice aa M c1) = X at *
  obtain ⟨g, c2, hv, hg, hc8⟩ := hob.cells (resL_get HR.out)
  injection hv with hv1 hv2 hv3
  subst hv1
  subst hv3
  rw [resL_len, HM.out] at hv2
  clear hv2
  refine wp_region_held_drew (S := fun W' => (∀ j, W'.cell? ⟨p, j, none⟩ = (#[ptr z, vl, .slice (some ⟨g, 0, none⟩) M c1] : Array Value)[j]?) ∧ (∀ j, W'.cell? ⟨w.heap.size, j, none⟩ = (#[.int .i64 1, .int .i64 k, .int .u32 1, .int .i64 r'.st, .int .i64 wy', .int .i64 r'.tr, .int .i64 r'.nx, .string tagB] : Array Value)[j]?)) (by kernel_rfl) ⟨rp7.cell, rb7.cell⟩ (fun hHeld => ?_)
  replace rp7 := rp7.drew
  replace rb7 := rb7.drew
  replace hbp := hbp.drew
  replace hob : OwnsC RrT 8 V5.heap.size X.drew (.slice (some ⟨g, 0, none⟩) M c1) (resL rs) := hob
  replace hc8 : ∀ q, q < 8 → X.drew.cell? ⟨g, k * 8 + q, none⟩ = (resC k r)[q]? := hc8
  replace hg : g < X.drew.heap.size := hg
  generalize X.drew = Y at *
  refine' wpAnyH_take (i := 0) (oi := _) (v := _) ?_ (by kernel_rfl) (by kernel_rfl) (by kernel_rfl) ?_ (Or.inl ⟨?_, ?_⟩) (by assumption) ?_
  rotate_left 2
  · (simp only [List.getElem?_toArray, List.getElem?_cons_succ, List.getElem?_cons_zero]; rfl)
  · first | exact fun _ _ _ h => h | exact fun _ _ _ h => nomatch h.1
  · rfl
  · (intro W hSW; (try dsimp only at hSW); go_split_ands; first | (go_simp; done) | (go_simp; with_reducible rfl))
  try simp only [Act.put, List.setIfInBounds_toArray, List.set_cons_zero, List.set_cons_succ]
  refine' wpAnyH_take (i := 1) (oi := _) (v := _) ?_ (by kernel_rfl) (by kernel_rfl) (by kernel_rfl) ?_ (Or.inl ⟨?_, ?_⟩) (by assumption) ?_
  rotate_left 2
  · (simp only [List.getElem?_toArray, List.getElem?_cons_succ, List.getElem?_cons_zero]; rfl)
  · first | exact fun _ _ _ h => h | exact fun _ _ _ h => nomatch h.1
  · rfl
  · (intro W hSW; (try dsimp only at hSW); go_split_ands; first | (go_simp; done) | (go_simp; with_reducible rfl))
  try simp only [Act.put, List.setIfInBounds_toArray, List.set_cons_zero, List.set_cons_succ]
  refine' wpAnyH_take (i := 2) (oi := _) (v := _) ?_ (by kernel_rfl) (by kernel_rfl) (by kernel_rfl) ?_ (Or.inl ⟨?_, ?_⟩) (by assumption) ?_
  rotate_left 2
  · (simp only [List.getElem?_toArray, List.getElem?_cons_succ, List.getElem?_cons_zero]; rfl)
  · first | exact fun _ _ _ h => h | exact fun _ _ _ h => nomatch h.1
  · rfl
  · (intro W hSW; (try dsimp only at hSW); go_split_ands; first | (go_simp; done) | (go_simp; with_reducible rfl))
  try simp only [Act.put, List.setIfInBounds_toArray, List.set_cons_zero, List.set_cons_succ]
  refine' wpAnyH_take (i := 3) (oi := _) (v := _) ?_ (by kernel_rfl) (by kernel_rfl) (by kernel_rfl) ?_ (Or.inl ⟨?_, ?_⟩) (by assumption) ?_
  rotate_left 2
  · (simp only [List.getElem?_toArray, List.getElem?_cons_succ, List.getElem?_cons_zero]; rfl)
  · first | exact fun _ _ _ h => h | exact fun _ _ _ h => nomatch h.1
  · rfl
  · (intro W hSW; (try dsimp only at hSW); go_split_ands; first | (go_simp; done) | (go_simp; with_reducible rfl))
  try simp only [Act.put, List.setIfInBounds_toArray, List.set_cons_zero, List.set_cons_succ]
  refine' wpAnyH_take (i := 4) (oi := _) (v := _) ?_ (by kernel_rfl) (by kernel_rfl) (by kernel_rfl) ?_ (Or.inl ⟨?_, ?_⟩) (by assumption) ?_
  rotate_left 2
  · (simp only [List.getElem?_toArray, List.getElem?_cons_succ, List.getElem?_cons_zero]; rfl)
  · first | exact fun _ _ _ h => h | exact fun _ _ _ h => nomatch h.1
  · rfl
  · (intro W hSW; (try dsimp only at hSW); go_split_ands; first | (go_simp; done) | (go_simp; with_reducible rfl))
  try simp only [Act.put, List.setIfInBounds_toArray, List.set_cons_zero, List.set_cons_succ]
  refine' wpAnyH_take (i := 5) (oi := _) (v := _) ?_ (by kernel_rfl) (by kernel_rfl) (by kernel_rfl) ?_ (Or.inl ⟨?_, ?_⟩) (by assumption) ?_
  rotate_left 2
  · (simp only [List.getElem?_toArray, List.getElem?_cons_succ, List.getElem?_cons_zero]; rfl)
  · first | exact fun _ _ _ h => h | exact fun _ _ _ h => nomatch h.1
  · rfl
  · (intro W hSW; (try dsimp only at hSW); go_split_ands; first | (go_simp; done) | (go_simp; with_reducible rfl))
  try simp only [Act.put, List.setIfInBounds_toArray, List.set_cons_zero, List.set_cons_succ]
  refine' wpAnyH_take (i := 6) (oi := _) (v := _) ?_ (by kernel_rfl) (by kernel_rfl) (by kernel_rfl) ?_ (Or.inl ⟨?_, ?_⟩) (by assumption) ?_
  rotate_left 2
  · (simp only [List.getElem?_toArray, List.getElem?_cons_succ, List.getElem?_cons_zero]; rfl)
  · first | exact fun _ _ _ h => h | exact fun _ _ _ h => nomatch h.1
  · rfl
  · (intro W hSW; (try dsimp only at hSW); go_split_ands; first | (go_simp; done) | (go_simp; with_reducible rfl))
  try simp only [Act.put, List.setIfInBounds_toArray, List.set_cons_zero, List.set_cons_succ]
  refine' wpAnyH_take (i := 7) (oi := _) (v := _) ?_ (by kernel_rfl) (by kernel_rfl) (by kernel_rfl) ?_ (Or.inl ⟨?_, ?_⟩) (by assumption) ?_
  rotate_left 2
  · (simp only [List.getElem?_toArray, List.getElem?_cons_succ, List.getElem?_cons_zero]; rfl)
  · first | exact fun _ _ _ h => h | exact fun _ _ _ h => nomatch h.1
  · rfl
  · (intro W hSW; (try dsimp only at hSW); go_split_ands; first | (go_simp; done) | (go_simp; with_reducible rfl))
  try simp only [Act.put, List.setIfInBounds_toArray, List.set_cons_zero, List.set_cons_succ]
  clear hHeld
  obtain ⟨c0, c1', c2', c3, c4, c5, c6, c7⟩ := res_eight hc8
  rw [hwy] at c4
  have fg := hob.free rfl
  have hgw := (hob.lt g rfl).1
  have gp : g ≠ p := by omega
  have gb : g ≠ w.heap.size := by omega
  clear hc8
  refine wpAnyH_ready (rs := [8]) (by kernel_rfl) (by simp) ?_
  refine' AllReadyH.cons (o := _) ?_ (fun K hK => ?_) AllReadyH.nil
  rotate_left 1
  · (simp only [List.getElem?_toArray, List.getElem?_cons_succ, List.getElem?_cons_zero]; rfl)
  go_simp
  have own := put8 hob (resL_get HR.out) (.int .i64 1) (.int .i64 k) (.int .u32 1) (.int .i64 r'.st) (.int .i64 wy') (.int .i64 r'.tr) (.int .i64 r'.nx) (.string tagB)
  have rp8 := ((((((((rp7.other gp (k * 8) (.int .i64 1)).other gp (k * 8 + 1) (.int .i64 k)).other gp (k * 8 + 2) (.int .u32 1)).other gp (k * 8 + 3) (.int .i64 r'.st)).other gp (k * 8 + 4) (.int .i64 wy')).other gp (k * 8 + 5) (.int .i64 r'.tr)).other gp (k * 8 + 6) (.int .i64 r'.nx)).other gp (k * 8 + 7) (.string tagB))
  have rb8 := ((((((((rb7.other gb (k * 8) (.int .i64 1)).other gb (k * 8 + 1) (.int .i64 k)).other gb (k * 8 + 2) (.int .u32 1)).other gb (k * 8 + 3) (.int .i64 r'.st)).other gb (k * 8 + 4) (.int .i64 wy')).other gb (k * 8 + 5) (.int .i64 r'.tr)).other gb (k * 8 + 6) (.int .i64 r'.nx)).other gb (k * 8 + 7) (.string tagB))
  have hFg2 : g < w.heap.size → g = p := fun h => by omega
  have hb8 := ((((((((hbp.setCell (y := g) hFg2 (k * 8) (.int .i64 1)).setCell (y := g) hFg2 (k * 8 + 1) (.int .i64 k)).setCell (y := g) hFg2 (k * 8 + 2) (.int .u32 1)).setCell (y := g) hFg2 (k * 8 + 3) (.int .i64 r'.st)).setCell (y := g) hFg2 (k * 8 + 4) (.int .i64 wy')).setCell (y := g) hFg2 (k * 8 + 5) (.int .i64 r'.tr)).setCell (y := g) hFg2 (k * 8 + 6) (.int .i64 r'.nx)).setCell (y := g) hFg2 (k * 8 + 7) (.string tagB))
  refine hK.out _ _ ⟨rp8.cell, rb8.cell⟩ (fun hHeld => ?_)
  clear hK K hHeld c0 c1' c2' c3 c4 c5 c6 c7 fg rp7 rb7 hbp
  generalize World.setCell _ _ _ = X8 at *
  refine wpAnyH_done (by kernel_rfl) ?_ _
  go_wp2_with fail
  go_returns
  have hL0 := HH.out
  have er : [.int .i64 1, .int .i64 k, .int .u32 1, .int .i64 r'.st, .int .i64 wy', .int .i64 r'.tr, .int .i64 r'.nx, .string tagB] = resC k r' := by rw [← hwy']; rfl
  rw [er, ← resL_set] at own
  obtain ⟨q1, q2, q3⟩ := hL0.put hb8
  have hG : ∀ b, (F b ∨ FreshL w X8 b) → b < X8.heap.size := fun b hb => by
    rcases hb with hb | hb
    · exact Nat.lt_of_lt_of_le (hL0.fin b hb) hb8.size
    · exact hb.2
  refine ⟨rfl, ⟨z, vs, vl, _, {
    row := rp8
    rsl := q1.wide (fun b h => .inl h) hG
    el := q2
    rl := own.base (Nat.zero_le _)
    fp := .inl hL0.fp
    fl := fun b hb => .inl (hL0.fl b hb)
    fr := fun b hb => .inr ⟨Nat.le_trans hcs (own.lt b hb).1, (own.lt b hb).2⟩
    most := by rw [List.length_set]; exact hL0.most
    gens := hL0.gens
    owns := fun i s k hi hk => by rw [List.length_set]; exact hL0.owns i s k hi hk }⟩, hb8.wide (fun b hb => by rw [hb]; exact hL0.fp)⟩
abbrev rsT (o l c r q : Int) : Value := .agg #[.int .i64 o, .int .i64 l, .int .i64 c, .int .i64 r, .int .i64 q]
theorem rof_c {w : World} {F : Nat → Prop} {p : Nat} {sl : List SlotR} {rs : List RS} (q : Int) (h : RTab w F p sl rs) : Ret 9 #[ptr p, .int .i64 q] w (ofV rs q) := by
  obtain ⟨z, vs, vl, vr, h⟩ := h
  have hm := h.most
  obtain ⟨a, c, rfl⟩ := h.rlist
  have HH := Lib.hid h
  clear h
  go_enter Tryz.func9, Tryz.ntmps9
  go_upto_region 1 with fail
  have rr := Row.new (W := w) (cs := #[.int .i64 0, .int .i64 0, .int .i64 0, .int .i64 0, .int .i64 0]) (t := 41)
  have hc := below_alloc w (.cells #[.int .i64 0, .int .i64 0, .int .i64 0, .int .i64 0, .int .i64 0] 41)
  generalize w.alloc _ = V at *
  have yr := rr.cell
  have fr := rr.free
  have zr := rr.lt
  by_cases h0 : q < 0
  · have E1 := Lib.hid (show ofV rs q = .tuple #[rsT 0 0 0 0 0, .int .i64 2] by unfold ofV; rw [if_pos (.inl h0)])
    go_wp2_with fail
    refine bodyPost_ret (v := .tuple #[rsT 0 0 0 0 0, .int .i64 2]) (by simp [results, Tryz.results9, go_sem, yr, zr]) rfl ⟨by rw [E1.out], ?_⟩
    refine Below.setCell ?_ (by simp) _
    refine Below.setCell ?_ (by simp) _
    refine Below.setCell ?_ (by simp) _
    refine Below.setCell ?_ (by simp) _
    exact hc.setCell (by simp) _
  by_cases h8 : 8000 < q
  · have E1 := Lib.hid (show ofV rs q = .tuple #[rsT 0 0 0 0 0, .int .i64 2] by unfold ofV; rw [if_pos (.inr h8)])
    have h9 : q > 8000 := h8
    go_wp2_with fail
    refine bodyPost_ret (v := .tuple #[rsT 0 0 0 0 0, .int .i64 2]) (by simp [results, Tryz.results9, go_sem, yr, zr]) rfl ⟨by rw [E1.out], ?_⟩
    refine Below.setCell ?_ (by simp) _
    refine Below.setCell ?_ (by simp) _
    refine Below.setCell ?_ (by simp) _
    refine Below.setCell ?_ (by simp) _
    exact hc.setCell (by simp) _
  have E1 := Lib.hid (show ofV rs q = .tuple #[rsT (rs.length + q) (cntS rs 1 : Nat) (cntS rs 2 : Nat) ((cntS rs 3 : Nat) + q) (cntS rs 4 : Nat), .int .i64 0] by unfold ofV; rw [if_neg (by omega)])
  have h9 : ¬ (q > 8000) := h8
  have hle : ∀ s, cntS rs s ≤ rs.length := fun s => List.countP_le_length
  have n1 := hle 1
  have n2 := hle 2
  have n3 := hle 3
  have n4 := hle 4
  have CN := Lib.hid (fun (s : Int) W (hb : Below w.heap.size w W) => rnumbers_c s (HH.out.on hb))
  obtain ⟨C1, hC1⟩ : ∃ n, cntS rs 1 = n := ⟨_, rfl⟩
  obtain ⟨C2, hC2⟩ : ∃ n, cntS rs 2 = n := ⟨_, rfl⟩
  obtain ⟨C3, hC3⟩ : ∃ n, cntS rs 3 = n := ⟨_, rfl⟩
  obtain ⟨C4, hC4⟩ : ∃ n, cntS rs 4 = n := ⟨_, rfl⟩
  rw [hC1, hC2, hC3, hC4] at E1
  rw [hC1] at n1
  rw [hC2] at n2
  rw [hC3] at n3
  rw [hC4] at n4
  have H1 := Lib.hid hC1
  have H2 := Lib.hid hC2
  have H3 := Lib.hid hC3
  have H4 := Lib.hid hC4
  clear hC1 hC2 hC3 hC4 hle yr fr zr
  have hw1 : IntKind.i64.wrap ((rs.length : Int) + q) = rs.length + q := IntWalk.i64_in _ ⟨by omega, by omega⟩
  have hw3 : IntKind.i64.wrap ((C3 : Int) + q) = C3 + q := IntWalk.i64_in _ ⟨by omega, by omega⟩
  go_wp2_with fail
  refine Calls.mono (CN.out 1 _ hc) ?_
  rintro e V1 ⟨a1, c1, rfl, hn⟩
  rw [H1.out]
  replace rr := rr.on hn
  replace hc := chain hc hn
  clear hn
  go_wp2_with fail
  refine Calls.mono (CN.out 2 _ hc) ?_
  rintro e V2 ⟨a2, c2, rfl, hn⟩
  rw [H2.out]
  replace rr := rr.on hn
  replace hc := chain hc hn
  clear hn
  go_wp2_with fail
  refine Calls.mono (CN.out 3 _ hc) ?_
  rintro e V3 ⟨a3, c3, rfl, hn⟩
  rw [H3.out]
  replace rr := rr.on hn
  replace hc := chain hc hn
  clear hn
  go_wp2_with fail
  refine Calls.mono (CN.out 4 _ hc) ?_
  rintro e V4 ⟨a4, c4, rfl, hn⟩
  rw [H4.out]
  replace rr := rr.on hn
  replace hc := chain hc hn
  clear hn
  go_upto_region 4 with fail
  have hn := below_alloc V4 (.cells #[.int .i64 0, .int .i64 C1, .int .i64 C2, .int .i64 (C3 + q), .int .i64 C4] 41)
  have r2 := Row.new (W := V4) (cs := #[.int .i64 0, .int .i64 C1, .int .i64 C2, .int .i64 (C3 + q), .int .i64 C4]) (t := 41)
  have ha := rr.lt
  have hcw := hc.size
  replace rr := rr.on hn
  replace hc := chain hc hn
  clear hn
  generalize V4.alloc _ = V5 at *
  generalize V4.heap.size = a6 at *
  go_wp2_with fail
  refine Calls.mono (rlen32_c (HH.out.on hc).row) ?_
  rintro e V6 ⟨rfl, hW⟩
  subst V6
  have y2 := r2.cell
  have f2 := r2.free
  have z2 := r2.lt
  have yr := rr.cell
  have fr := rr.free
  have zr := rr.lt
  go_wp2_with fail
  refine bodyPost_ret (v := .tuple #[rsT (rs.length + q) C1 C2 (C3 + q) C4, .int .i64 0]) (by simp [results, Tryz.results9, go_sem, yr, zr]) rfl ⟨by rw [E1.out], ?_⟩
  refine Below.setCell ?_ (by simp) _
  refine Below.setCell ?_ (by simp) _
  refine Below.setCell ?_ (by simp) _
  refine Below.setCell ?_ (by simp) _
  refine Below.setCell ?_ (by simp) _
  exact hc.setCell hcw _
end Go.Proofs.YtkjpdciccablpaaGreatDoor
