/- The reference's table (chapter 37): add. -/
import Derived.Test.YtkjpdciccablpaaGreatDoorL3a
namespace Go.Proofs.YtkjpdciccablpaaGreatDoor
open Go.RowKit
set_option linter.unusedVariables false
set_option linter.unusedSimpArgs false
set_option maxHeartbeats 16000000
set_option maxRecDepth 20000
theorem radd_c {w : World} {F : Nat → Prop} {p : Nat} {sl : List SlotR} {rs : List RS} {z : Nat} {vs vl vr : Value} {N i : Nat} {s : SlotR} (h : RTb w F p sl rs z vs vl vr) (hN : rs.length = N + 1) (hi : sl[i]? = some s) (hs : isFree s = true) (hbf : ∀ j x, j < i → sl[j]? = some x → isFree x = false) :
    Calls Tryz.prog 61 #[ptr p, .int .i64 ((N : Int) + 1), .agg #[.int .i64 N, .int .u32 1]] w fun e w' => e = .returned (dV 1 i s.gen) ∧ RTab w' (fun b => F b ∨ FreshL w w' b) p (sl.set i ⟨some N, s.gen⟩) rs ∧ But F w w' := by
  obtain ⟨i0, hi0, hz0, hz1, hz2⟩ := info_parts ren_info
  have HI0 := Lib.hid hi0
  have HZ0 := Lib.hid hz0
  have HZ1 := Lib.hid hz1
  have HZ2 := Lib.hid hz2
  clear hi0 hz0 hz1 hz2
  have hil := (List.getElem?_eq_some_iff.1 hi).1
  have h64 := h.rsl.len
  have hm := h.most
  have hso : s.own = none := by unfold isFree at hs; cases ho : s.own with
    | none => rfl
    | some k => rw [ho] at hs; cases hs
  obtain ⟨r, hr⟩ : ∃ r, rs[N]? = some r := ⟨_, List.getElem?_eq_getElem (by omega)⟩
  obtain ⟨gr, cr, rfl, hgr, hFgr, hcr8⟩ := h.res hr
  have cK := hcr8 0 (by omega)
  simp only [Nat.add_zero] at cK
  have HH := Lib.hid h
  have HAP := Lib.hid h.apart
  have HEF := Lib.hid (en_free (k := N) (g := s.gen) hi hso)
  have HAF := Lib.hid (fun c => en_after (c := c) hi hso)
  have HBE := Lib.hid (fun j => en_before (j := j) hil)
  have CT := Lib.hid (fun W (hb : Below w.heap.size w W) => rs_take ((h.rsl.on hb).narrow) hi hs hbf N)
  have hle := enL_len sl 0
  have hJM : (enL 0 (sl.take i)).length ≤ (enL 0 sl).length := by
    rw [enL_cut hi, List.length_append]
    omega
  obtain ⟨a1, c1, hvl⟩ := h.el.len
  obtain ⟨M, hM⟩ : ∃ M, (enL 0 sl).length = M := ⟨_, rfl⟩
  obtain ⟨J, hJ⟩ : ∃ J, (enL 0 (sl.take i)).length = J := ⟨_, rfl⟩
  rw [hM] at hJM hle hvl
  subst hvl
  rw [hJ] at hJM HEF HAF HBE
  have HM := Lib.hid hM
  have HS := Lib.hid hso
  have hsgen := h.gens _ (List.mem_of_getElem? hi)
  obtain ⟨sg, hsg⟩ : ∃ g, s.gen = g := ⟨_, rfl⟩
  rw [hsg] at CT HEF hsgen ⊢
  clear hi hs hbf h hcr8 hM hJ hso hsg hr
  have e1 : IntKind.i64.wrap ((N : Int) + 1 - 1) = (N : Int) := by rw [show (N : Int) + 1 - 1 = N by omega]; exact IntWalk.i64_in _ ⟨by omega, by omega⟩
  have e2 : (N : Int) + 1 - 1 = N := by omega
  have k0 : (0 : Int) ≤ (N : Int) := by omega
  have k1 : (N : Int) < (rs.length : Int) := by omega
  have e3 : IntKind.i64.wrap (N : Int) = N := IntWalk.i64_in _ ⟨by omega, by omega⟩
  have HNN := Lib.hid hN
  clear hN
  go_enter Tryz.func61, Tryz.ntmps61
  go_upto_region 1 with fail
  have hs1 : (w.alloc (.cells #[.int .i64 N, .int .u32 1] RefT)).heap.size = w.heap.size + 1 := by simp
  have hb1 := below_alloc w (.cells #[.int .i64 N, .int .u32 1] RefT)
  have r5 := Row.new (W := w) (cs := #[.int .i64 N, .int .u32 1]) (t := RefT)
  generalize w.alloc _ = V1 at *
  have hb2 := below_alloc V1 (.cells #[.int .i64 0, .int .i64 0, .int .u32 0] 87)
  have r6 := Row.new (W := V1) (cs := #[.int .i64 0, .int .i64 0, .int .u32 0]) (t := 87)
  rw [hs1] at r6
  replace r5 := r5.on hb2
  have hc := chain hb1 hb2
  clear hb1 hb2 hs1
  generalize V1.alloc _ = V2 at *
  have rp := HH.out.row.on hc
  have yp := rp.cell
  have zp := rp.lt
  go_wp2_with fail
  refine Calls.mono (CT.out _ hc) ?_
  rintro e V3 ⟨rfl, hS3, hb3⟩
  clear yp zp CT
  have hG2 : ∀ b, (b = z ∨ vs.ownBlock = some b) → b < w.heap.size := fun b hb => by
    rcases hb with hb | hb
    · rw [hb]; exact HH.out.rsl.row.lt
    · exact (HH.out.rsl.own.lt b hb).2
  replace rp := hb3.row rp HAP.out.1
  replace r5 := hb3.row r5 (fun h => by have := hG2 _ h; omega)
  replace r6 := hb3.row r6 (fun h => by have := hG2 _ h; omega)
  have hbut := (but_of (fun b => b = z ∨ vs.ownBlock = some b) hc).trans hb3 (fun _ _ h => h)
  have cK3 : V3.cell? ⟨gr, N * 8, none⟩ = some (.int .i64 1) := by
    have h1 := keep_cell hc hgr cK
    have h2 := hb3.block gr (Nat.lt_of_lt_of_le hgr hc.size) (HAP.out.2.2 gr rfl)
    rw [World.cell?_of_block (w := V2) (w' := V3) h2]
    exact h1
  clear hb3 hc cK
  go_upto_region 2 with fail
  have hn := below_alloc V3 (.cells #[.int .i64 i, .int .u32 sg] RefT)
  have r7 := Row.new (W := V3) (cs := #[.int .i64 i, .int .u32 sg]) (t := RefT)
  have ha7 := r6.lt
  have hgr3 := block_lt_of_cell (a := ⟨gr, N * 8, none⟩) cK3
  replace rp := rp.on hn
  replace r5 := r5.on hn
  replace r6 := r6.on hn
  replace cK3 := keep_cell hn hgr3 cK3
  replace hbut := hbut.on hn
  replace hS3 := hS3.on hn
  clear hn hgr3
  generalize V3.alloc _ = V4 at *
  generalize V3.heap.size = a7 at *
  refine wp_region_held_drew (S := fun W' => (∀ j, W'.cell? ⟨p, j, none⟩ = (#[ptr z, .slice a1 M c1, .slice (some ⟨gr, 0, none⟩) rs.length cr] : Array Value)[j]?) ∧ W'.cell? ⟨gr, N * 8, none⟩ = some (.int .i64 1) ∧ (∀ j, W'.cell? ⟨w.heap.size, j, none⟩ = (#[.int .i64 N, .int .u32 1] : Array Value)[j]?) ∧ (∀ j, W'.cell? ⟨a7, j, none⟩ = (#[.int .i64 i, .int .u32 sg] : Array Value)[j]?)) (by kernel_rfl) ⟨rp.cell, cK3, r5.cell, r7.cell⟩ (fun hHeld => ?_)
  replace rp := rp.drew
  replace r5 := r5.drew
  replace r6 := r6.drew
  replace r7 := r7.drew
  replace cK3 : V4.drew.cell? ⟨gr, N * 8, none⟩ = some (.int .i64 1) := cK3
  replace hbut := hbut.drew
  replace hS3 := hS3.drew
  generalize V4.drew = X at *
  refine' wpAnyH_take (i := 0) (oi := _) (v := _) ?_ (by kernel_rfl) (by kernel_rfl) (by kernel_rfl) ?_ (Or.inl ⟨?_, ?_⟩) (by assumption) ?_
  rotate_left 2
  · (simp only [List.getElem?_toArray, List.getElem?_cons_succ, List.getElem?_cons_zero]; rfl)
  · first | exact fun _ _ _ h => h | exact fun _ _ _ h => nomatch h.1
  · rfl
  · (intro W hSW; (try dsimp only at hSW); go_split_ands; first | (go_simp; done) | (go_simp; with_reducible rfl))
  try simp only [Act.put, List.setIfInBounds_toArray, List.set_cons_zero, List.set_cons_succ]
  refine' wpAnyH_take (i := 1) (oi := _) (v := _) ?_ (by kernel_rfl) (by kernel_rfl) (by kernel_rfl) ?_ (Or.inl ⟨?_, ?_⟩) (by assumption) ?_
  rotate_left 2
  · (simp only [List.getElem?_toArray, List.getElem?_cons_succ, List.getElem?_cons_zero]; rfl)
  · first | exact fun _ _ _ h => h | exact fun _ _ _ h => nomatch h.1
  · rfl
  · (intro W hSW; (try dsimp only at hSW); go_split_ands; first | (go_simp; done) | (go_simp; with_reducible rfl))
  try simp only [Act.put, List.setIfInBounds_toArray, List.set_cons_zero, List.set_cons_succ]
  refine' wpAnyH_take (i := 2) (oi := _) (v := _) ?_ (by kernel_rfl) (by kernel_rfl) (by kernel_rfl) ?_ (Or.inl ⟨?_, ?_⟩) (by assumption) ?_
  rotate_left 2
  · (simp only [List.getElem?_toArray, List.getElem?_cons_succ, List.getElem?_cons_zero]; rfl)
  · first | exact fun _ _ _ h => h | exact fun _ _ _ h => nomatch h.1
  · rfl
  · (intro W hSW; (try dsimp only at hSW); go_split_ands; first | (go_simp; done) | (go_simp; with_reducible rfl))
  try simp only [Act.put, List.setIfInBounds_toArray, List.set_cons_zero, List.set_cons_succ]
  refine' wpAnyH_take (i := 3) (oi := _) (v := _) ?_ (by kernel_rfl) (by kernel_rfl) (by kernel_rfl) ?_ (Or.inl ⟨?_, ?_⟩) (by assumption) ?_
  rotate_left 2
  · (simp only [List.getElem?_toArray, List.getElem?_cons_succ, List.getElem?_cons_zero]; rfl)
  · first | exact fun _ _ _ h => h | exact fun _ _ _ h => nomatch h.1
  · rfl
  · (intro W hSW; (try dsimp only at hSW); go_split_ands; first | (go_simp; done) | (go_simp; with_reducible rfl))
  try simp only [Act.put, List.setIfInBounds_toArray, List.set_cons_zero, List.set_cons_succ]
  refine' wpAnyH_take (i := 4) (oi := _) (v := _) ?_ (by kernel_rfl) (by kernel_rfl) (by kernel_rfl) ?_ (Or.inl ⟨?_, ?_⟩) (by assumption) ?_
  rotate_left 2
  · (simp only [List.getElem?_toArray, List.getElem?_cons_succ, List.getElem?_cons_zero]; rfl)
  · first | exact fun _ _ _ h => h | exact fun _ _ _ h => nomatch h.1
  · rfl
  · (intro W hSW; (try dsimp only at hSW); go_split_ands; first | (go_simp; done) | (go_simp; with_reducible rfl))
  try simp only [Act.put, List.setIfInBounds_toArray, List.set_cons_zero, List.set_cons_succ]
  refine' wpAnyH_take (i := 5) (oi := _) (v := _) ?_ (by kernel_rfl) (by kernel_rfl) (by kernel_rfl) ?_ (Or.inl ⟨?_, ?_⟩) (by assumption) ?_
  rotate_left 2
  · (simp only [List.getElem?_toArray, List.getElem?_cons_succ, List.getElem?_cons_zero]; rfl)
  · first | exact fun _ _ _ h => h | exact fun _ _ _ h => nomatch h.1
  · rfl
  · (intro W hSW; (try dsimp only at hSW); go_split_ands; first | (go_simp; done) | (go_simp; with_reducible rfl))
  try simp only [Act.put, List.setIfInBounds_toArray, List.set_cons_zero, List.set_cons_succ]
  refine' wpAnyH_take (i := 6) (oi := _) (v := _) ?_ (by kernel_rfl) (by kernel_rfl) (by kernel_rfl) ?_ (Or.inl ⟨?_, ?_⟩) (by assumption) ?_
  rotate_left 2
  · (simp only [List.getElem?_toArray, List.getElem?_cons_succ, List.getElem?_cons_zero]; rfl)
  · first | exact fun _ _ _ h => h | exact fun _ _ _ h => nomatch h.1
  · rfl
  · (intro W hSW; (try dsimp only at hSW); go_split_ands; first | (go_simp; done) | (go_simp; with_reducible rfl))
  try simp only [Act.put, List.setIfInBounds_toArray, List.set_cons_zero, List.set_cons_succ]
  refine' wpAnyH_take (i := 7) (oi := _) (v := _) ?_ (by kernel_rfl) (by kernel_rfl) (by kernel_rfl) ?_ (Or.inl ⟨?_, ?_⟩) (by assumption) ?_
  rotate_left 2
  · (simp only [List.getElem?_toArray, List.getElem?_cons_succ, List.getElem?_cons_zero]; rfl)
  · first | exact fun _ _ _ h => h | exact fun _ _ _ h => nomatch h.1
  · rfl
  · (intro W hSW; (try dsimp only at hSW); go_split_ands; first | (go_simp; done) | (go_simp; with_reducible rfl))
  try simp only [Act.put, List.setIfInBounds_toArray, List.set_cons_zero, List.set_cons_succ]
  refine' wpAnyH_take (i := 8) (oi := _) (v := _) ?_ (by kernel_rfl) (by kernel_rfl) (by kernel_rfl) ?_ (Or.inl ⟨?_, ?_⟩) (by assumption) ?_
  rotate_left 2
  · (simp only [List.getElem?_toArray, List.getElem?_cons_succ, List.getElem?_cons_zero]; rfl)
  · first | exact fun _ _ _ h => h | exact fun _ _ _ h => nomatch h.1
  · rfl
  · (intro W hSW; (try dsimp only at hSW); go_split_ands; first | (go_simp; done) | (go_simp; with_reducible rfl))
  try simp only [Act.put, List.setIfInBounds_toArray, List.set_cons_zero, List.set_cons_succ]
  refine' wpAnyH_take (i := 9) (oi := _) (v := _) ?_ (by kernel_rfl) (by kernel_rfl) (by kernel_rfl) ?_ (Or.inl ⟨?_, ?_⟩) (by assumption) ?_
  rotate_left 2
  · (simp only [List.getElem?_toArray, List.getElem?_cons_succ, List.getElem?_cons_zero]; rfl)
  · first | exact fun _ _ _ h => h | exact fun _ _ _ h => nomatch h.1
  · rfl
  · (intro W hSW; (try dsimp only at hSW); go_split_ands; first | (go_simp; done) | (go_simp; with_reducible rfl))
  try simp only [Act.put, List.setIfInBounds_toArray, List.set_cons_zero, List.set_cons_succ]
  refine' wpAnyH_take (i := 10) (oi := _) (v := _) ?_ (by kernel_rfl) (by kernel_rfl) (by kernel_rfl) ?_ (Or.inl ⟨?_, ?_⟩) (by assumption) ?_
  rotate_left 2
  · (simp only [List.getElem?_toArray, List.getElem?_cons_succ, List.getElem?_cons_zero]; rfl)
  · first | exact fun _ _ _ h => h | exact fun _ _ _ h => nomatch h.1
  · rfl
  · (intro W hSW; (try dsimp only at hSW); go_split_ands; first | (go_simp; done) | (go_simp; with_reducible rfl))
  try simp only [Act.put, List.setIfInBounds_toArray, List.set_cons_zero, List.set_cons_succ]
  refine' wpAnyH_take (i := 11) (oi := _) (v := _) ?_ (by kernel_rfl) (by kernel_rfl) (by kernel_rfl) ?_ (Or.inl ⟨?_, ?_⟩) (by assumption) ?_
  rotate_left 2
  · (simp only [List.getElem?_toArray, List.getElem?_cons_succ, List.getElem?_cons_zero]; rfl)
  · first | exact fun _ _ _ h => h | exact fun _ _ _ h => nomatch h.1
  · rfl
  · (intro W hSW; (try dsimp only at hSW); go_split_ands; first | (go_simp; done) | (go_simp; with_reducible rfl))
  try simp only [Act.put, List.setIfInBounds_toArray, List.set_cons_zero, List.set_cons_succ]
  refine' wpAnyH_take (i := 12) (oi := _) (v := _) ?_ (by kernel_rfl) (by kernel_rfl) (by kernel_rfl) ?_ (Or.inl ⟨?_, ?_⟩) (by assumption) ?_
  rotate_left 2
  · (simp only [List.getElem?_toArray, List.getElem?_cons_succ, List.getElem?_cons_zero]; rfl)
  · first | exact fun _ _ _ h => h | exact fun _ _ _ h => nomatch h.1
  · rfl
  · (intro W hSW; (try dsimp only at hSW); go_split_ands; first | (go_simp; done) | (go_simp; with_reducible rfl))
  try simp only [Act.put, List.setIfInBounds_toArray, List.set_cons_zero, List.set_cons_succ]
  refine' wpAnyH_take (i := 13) (oi := _) (v := _) ?_ (by kernel_rfl) (by kernel_rfl) (by kernel_rfl) ?_ (Or.inl ⟨?_, ?_⟩) (by assumption) ?_
  rotate_left 2
  · (simp only [List.getElem?_toArray, List.getElem?_cons_succ, List.getElem?_cons_zero]; rfl)
  · first | exact fun _ _ _ h => h | exact fun _ _ _ h => nomatch h.1
  · rfl
  · (intro W hSW; (try dsimp only at hSW); go_split_ands; first | (go_simp; done) | (go_simp; with_reducible rfl))
  try simp only [Act.put, List.setIfInBounds_toArray, List.set_cons_zero, List.set_cons_succ]
  refine' wpAnyH_take (i := 14) (oi := _) (v := _) ?_ (by kernel_rfl) (by kernel_rfl) (by kernel_rfl) ?_ (Or.inl ⟨?_, ?_⟩) (by assumption) ?_
  rotate_left 2
  · (simp only [List.getElem?_toArray, List.getElem?_cons_succ, List.getElem?_cons_zero]; rfl)
  · first | exact fun _ _ _ h => h | exact fun _ _ _ h => nomatch h.1
  · rfl
  · (intro W hSW; (try dsimp only at hSW); go_split_ands; first | (go_simp; done) | (go_simp; with_reducible rfl))
  try simp only [Act.put, List.setIfInBounds_toArray, List.set_cons_zero, List.set_cons_succ]
  refine' wpAnyH_take (i := 15) (oi := _) (v := _) ?_ (by kernel_rfl) (by kernel_rfl) (by kernel_rfl) ?_ (Or.inl ⟨?_, ?_⟩) (by assumption) ?_
  rotate_left 2
  · (simp only [List.getElem?_toArray, List.getElem?_cons_succ, List.getElem?_cons_zero]; rfl)
  · first | exact fun _ _ _ h => h | exact fun _ _ _ h => nomatch h.1
  · rfl
  · (intro W hSW; (try dsimp only at hSW); go_split_ands; first | (go_simp; done) | (go_simp; with_reducible rfl))
  try simp only [Act.put, List.setIfInBounds_toArray, List.set_cons_zero, List.set_cons_succ]
  refine' wpAnyH_take (i := 16) (oi := _) (v := _) ?_ (by kernel_rfl) (by kernel_rfl) (by kernel_rfl) ?_ (Or.inl ⟨?_, ?_⟩) (by assumption) ?_
  rotate_left 2
  · (simp only [List.getElem?_toArray, List.getElem?_cons_succ, List.getElem?_cons_zero]; rfl)
  · first | exact fun _ _ _ h => h | exact fun _ _ _ h => nomatch h.1
  · rfl
  · (intro W hSW; (try dsimp only at hSW); go_split_ands; first | (go_simp; done) | (go_simp; with_reducible rfl))
  try simp only [Act.put, List.setIfInBounds_toArray, List.set_cons_zero, List.set_cons_succ]
  refine' wpAnyH_take (i := 17) (oi := _) (v := _) ?_ (by kernel_rfl) (by kernel_rfl) (by kernel_rfl) ?_ (Or.inl ⟨?_, ?_⟩) (by assumption) ?_
  rotate_left 2
  · (simp only [List.getElem?_toArray, List.getElem?_cons_succ, List.getElem?_cons_zero]; rfl)
  · first | exact fun _ _ _ h => h | exact fun _ _ _ h => nomatch h.1
  · rfl
  · (intro W hSW; (try dsimp only at hSW); go_split_ands; first | (go_simp; done) | (go_simp; with_reducible rfl))
  try simp only [Act.put, List.setIfInBounds_toArray, List.set_cons_zero, List.set_cons_succ]
  clear hHeld
  have hn := below_alloc X (.cells #[.int .i64 0, .int .i64 0, .int .u32 0, .int .i64 0, .int .i64 0, .int .u32 0] RenT)
  have r9 := Row.new (W := X) (cs := #[.int .i64 0, .int .i64 0, .int .u32 0, .int .i64 0, .int .i64 0, .int .u32 0]) (t := RenT)
  have hgr3 := block_lt_of_cell (a := ⟨gr, N * 8, none⟩) cK3
  have ha9 := r7.lt
  refine wpAnyH_ready (rs := [18]) (by kernel_rfl) (by simp) ?_
  refine' AllReadyH.cons (o := _) ?_ (fun K hK => ?_) AllReadyH.nil
  rotate_left 1
  · (simp only [List.getElem?_toArray, List.getElem?_cons_succ, List.getElem?_cons_zero]; rfl)
  go_simp
  replace rp := rp.on hn
  replace r5 := r5.on hn
  replace r6 := r6.on hn
  replace r7 := r7.on hn
  replace cK3 := keep_cell hn hgr3 cK3
  replace hbut := hbut.on hn
  replace hS3 := hS3.on hn
  clear hn hgr3
  generalize X.alloc _ = X1 at *
  generalize X.heap.size = a9 at *
  refine hK.out _ _ ⟨rp.cell, cK3, r5.cell, r7.cell⟩ (fun hHeld => ?_)
  clear hK K hHeld
  have y9 := r9.cell
  have u9 := r9.free
  have z9 := r9.lt
  refine wpAnyH_ready (rs := [19]) (by kernel_rfl) (by simp) ?_
  refine' AllReadyH.cons (o := _) ?_ (fun K hK => ?_) AllReadyH.nil
  rotate_left 1
  · (simp only [List.getElem?_toArray, List.getElem?_cons_succ, List.getElem?_cons_zero]; rfl)
  go_simp
  clear y9 u9 z9
  have na9 : w.heap.size + 1 < a9 := by omega
  have hpw := HH.out.fin p HH.out.fp
  have rp2 := ((((((rp.other (show a9 ≠ p by omega) 0 (.int .i64 1)).other (show a9 ≠ p by omega) 1 (.int .i64 i)).other (show a9 ≠ p by omega) 2 (.int .u32 sg)).other (show a9 ≠ p by omega) 3 (.int .i64 ((N : Int) + 1))).other (show a9 ≠ p by omega) 4 (.int .i64 N)).other (show a9 ≠ p by omega) 5 (.int .u32 1))
  have r52 := ((((((r5.other (show a9 ≠ w.heap.size by omega) 0 (.int .i64 1)).other (show a9 ≠ w.heap.size by omega) 1 (.int .i64 i)).other (show a9 ≠ w.heap.size by omega) 2 (.int .u32 sg)).other (show a9 ≠ w.heap.size by omega) 3 (.int .i64 ((N : Int) + 1))).other (show a9 ≠ w.heap.size by omega) 4 (.int .i64 N)).other (show a9 ≠ w.heap.size by omega) 5 (.int .u32 1))
  have r62 := ((((((r6.other (show a9 ≠ w.heap.size + 1 by omega) 0 (.int .i64 1)).other (show a9 ≠ w.heap.size + 1 by omega) 1 (.int .i64 i)).other (show a9 ≠ w.heap.size + 1 by omega) 2 (.int .u32 sg)).other (show a9 ≠ w.heap.size + 1 by omega) 3 (.int .i64 ((N : Int) + 1))).other (show a9 ≠ w.heap.size + 1 by omega) 4 (.int .i64 N)).other (show a9 ≠ w.heap.size + 1 by omega) 5 (.int .u32 1))
  have r72 := ((((((r7.other (show a9 ≠ a7 by omega) 0 (.int .i64 1)).other (show a9 ≠ a7 by omega) 1 (.int .i64 i)).other (show a9 ≠ a7 by omega) 2 (.int .u32 sg)).other (show a9 ≠ a7 by omega) 3 (.int .i64 ((N : Int) + 1))).other (show a9 ≠ a7 by omega) 4 (.int .i64 N)).other (show a9 ≠ a7 by omega) 5 (.int .u32 1))
  have r92 := ((((((r9.set  0 (.int .i64 1)).set  1 (.int .i64 i)).set  2 (.int .u32 sg)).set  3 (.int .i64 ((N : Int) + 1))).set  4 (.int .i64 N)).set  5 (.int .u32 1))
  simp only [List.setIfInBounds_toArray, List.set_cons_zero, List.set_cons_succ] at r92
  have hbut2 := ((((((hbut.setCell (y := a9) (fun h => absurd h (by omega)) 0 (.int .i64 1)).setCell (y := a9) (fun h => absurd h (by omega)) 1 (.int .i64 i)).setCell (y := a9) (fun h => absurd h (by omega)) 2 (.int .u32 sg)).setCell (y := a9) (fun h => absurd h (by omega)) 3 (.int .i64 ((N : Int) + 1))).setCell (y := a9) (fun h => absurd h (by omega)) 4 (.int .i64 N)).setCell (y := a9) (fun h => absurd h (by omega)) 5 (.int .u32 1))
  have cK4 : World.cell? _ ⟨gr, N * 8, none⟩ = some (.int .i64 1) := cK3
  have hgr9 : a9 ≠ gr := by omega
  have hz9 : ∀ b, (b = z ∨ vs.ownBlock = some b) → a9 ≠ b := fun b hb => by have := hG2 b hb; omega
  have hS32 := hS3.via (W' := ((((((X1.setCell ⟨a9, 0, none⟩ (.int .i64 1)).setCell ⟨a9, 1, none⟩ (.int .i64 i)).setCell ⟨a9, 2, none⟩ (.int .u32 sg)).setCell ⟨a9, 3, none⟩ (.int .i64 ((N : Int) + 1))).setCell ⟨a9, 4, none⟩ (.int .i64 N)).setCell ⟨a9, 5, none⟩ (.int .u32 1))) (by simp [World.setCell]) (fun b hb => by
    have hz := hz9 b hb
    rw [Below.heap_setCell _ _ _ b (fun e => hz e.symm), Below.heap_setCell _ _ _ b (fun e => hz e.symm), Below.heap_setCell _ _ _ b (fun e => hz e.symm), Below.heap_setCell _ _ _ b (fun e => hz e.symm), Below.heap_setCell _ _ _ b (fun e => hz e.symm), Below.heap_setCell _ _ _ b (fun e => hz e.symm)])
  have cK5 : ((((((X1.setCell ⟨a9, 0, none⟩ (.int .i64 1)).setCell ⟨a9, 1, none⟩ (.int .i64 i)).setCell ⟨a9, 2, none⟩ (.int .u32 sg)).setCell ⟨a9, 3, none⟩ (.int .i64 ((N : Int) + 1))).setCell ⟨a9, 4, none⟩ (.int .i64 N)).setCell ⟨a9, 5, none⟩ (.int .u32 1)).cell? ⟨gr, N * 8, none⟩ = some (.int .i64 1) := by
    rw [World.cell?_of_block (a := ⟨gr, N * 8, none⟩) (w := X1)]
    · exact cK3
    · rw [Below.heap_setCell _ _ _ gr (fun e => hgr9 e.symm), Below.heap_setCell _ _ _ gr (fun e => hgr9 e.symm), Below.heap_setCell _ _ _ gr (fun e => hgr9 e.symm), Below.heap_setCell _ _ _ gr (fun e => hgr9 e.symm), Below.heap_setCell _ _ _ gr (fun e => hgr9 e.symm), Below.heap_setCell _ _ _ gr (fun e => hgr9 e.symm)]
  refine hK.out _ _ ⟨rp2.cell, cK5, r52.cell, r72.cell⟩ (fun hHeld => ?_)
  clear hK K hHeld cK3 cK4 cK5 rp r5 r6 r7 r9 hbut hS3 r52
  generalize World.setCell _ _ _ = X2 at *
  refine wpAnyH_done (by kernel_rfl) ?_ _
  have HRP := Lib.hid rp2
  have HR6 := Lib.hid r62
  have HR7 := Lib.hid r72
  have HR9 := Lib.hid r92
  have HBUT := Lib.hid hbut2
  have HS3 := Lib.hid hS32
  have hcX : Below X2.heap.size X2 X2 := Below.refl _ _
  have HEL := Lib.hid (show ∀ W', Below X2.heap.size X2 W' → OwnsC RenT 6 0 W' (.slice a1 M c1) (enL 0 sl) from fun W' hb => HH.out.el.via (fun k hk => (hb.block k (Nat.lt_of_lt_of_le (HH.out.el.lt k hk).2 hbut2.size)).trans (hbut2.block k (HH.out.el.lt k hk).2 (HAP.out.2.1 k hk))))
  clear rp2 r62 r72 r92 hbut2 hS32 hz9
  apply_assumption
  refine wp_seq_k (fun K3 hK3 => ?_)
  go_cut [10] (fun s10 wx => s10 = .int .i64 0 ∧ wx = X2)
  case first =>
    go_wp2_with fail
    go_meet
    exact ⟨rfl, rfl⟩
  case rest =>
  obtain ⟨rfl, hwx⟩ := hcut
  have hwx2 := hwx.symm
  clear hwx
  subst hwx2
  refine hK3 _ _ ?_
  clear hK3 K3
  refine wp_seq_k (fun K4 hK4 => ?_)
  go_cut [10] (fun s10 wx => s10 = .int .i64 J ∧ Below X2.heap.size X2 wx)
  case first =>
    go_wp2_with fail
    go_loopw [10] (fun iv wr => ∃ j : Nat, j ≤ J ∧ iv = .int .i64 j ∧ Below X2.heap.size X2 wr) (fun iv _ => J - (intOf iv).toNat)
    case atStart => exact ⟨0, by omega, rfl, hcX⟩
    case round =>
      clear hcX
      obtain ⟨j, hj, rfl, hc⟩ := hrel
      have rp := HRP.out.on hc
      have r7 := HR7.out.on hc
      have y1 := rp.cell
      have z1 := rp.lt
      have y7 := r7.cell
      have z7 := r7.lt
      have j0 : (0 : Int) ≤ (j : Int) := by omega
      clear rp r7
      by_cases hlt : j < J
      · obtain ⟨i', g', k', hc1, hne'⟩ := HBE.out j hlt
        obtain ⟨b, cc, e, hb, c0, c1, c2, c3, c4, c5⟩ := en_six (HEL.out _ hc) hc1
        injection e with e1 e2 e3
        subst e1
        have j1 : (j : Int) < (M : Int) := by omega
        have d1 : (i' : Int) < (i : Int) := by omega
        clear e2 e3 hc1 c0 c2 c3 c4 c5
        go_upto_region 4 with fail
        go_quiet (fail)
        go_wp2_with fail
        go_roundw
        case rel => exact ⟨j + 1, by omega, by go_num, below_nth hc _⟩
        case measure => simp [intOf]; omega
      · obtain rfl : j = J := by omega
        by_cases hJ2 : j < M
        · obtain ⟨c, hc1⟩ : ∃ c, (enL 0 sl)[j]? = some c := ⟨_, List.getElem?_eq_getElem (by rw [HM.out]; exact hJ2)⟩
          obtain ⟨i', g', k', rfl, hii⟩ := HAF.out c hc1
          obtain ⟨b, cc, e, hb, c0, c1, c2, c3, c4, c5⟩ := en_six (HEL.out _ hc) hc1
          injection e with e1 e2 e3
          subst e1
          have j1 : (j : Int) < (M : Int) := by omega
          have d1 : ¬ ((i' : Int) < (i : Int)) := by omega
          clear e2 e3 hc1 c0 c2 c3 c4 c5
          go_upto_region 4 with fail
          go_quiet (fail)
          go_wp2_with fail
          go_meet
          exact ⟨rfl, below_nth hc _⟩
        · obtain rfl : j = M := by omega
          go_upto_region 4 with fail
          go_quiet (fail)
          go_wp2_with fail
          go_meet
          exact ⟨rfl, below_nth hc _⟩
  case rest =>
    obtain ⟨rfl, hc⟩ := hcut
    refine hK4 _ _ ?_
    clear hK4 K4
    have rp := HRP.out.on hc
    have r9 := HR9.out.on hc
    have hEL := HEL.out _ hc
    obtain ⟨alo, clo, hlo, hLO, hloB⟩ := hEL.low enL_one Tryz.underlying78 HI0.out HZ1.out (i := J) (by rw [HM.out]; exact hJM)
    obtain ⟨ahi, chi, hhi, hHI, hhiB⟩ := hEL.high enL_one Tryz.underlying78 HI0.out HZ1.out (i := J) (by rw [HM.out]; exact hJM)
    rw [HM.out] at hhi hHI hhiB
    have hloL : ∀ g, (Value.slice alo J clo).ownBlock = some g → g < wc.heap.size := fun g hg => (hEL.lt g (hloB g hg)).2
    have hhiL : ∀ g, (Value.slice ahi (M - J) chi).ownBlock = some g → g < wc.heap.size := fun g hg => (hEL.lt g (hhiB g hg)).2
    have hl8 : ([] : List (List Value)).length + ((enL 0 sl).take J).length = J := by rw [List.length_take, HM.out]; simp; omega
    have hl11 : ((enL 0 sl).take J).length + [(#[.int .i64 1, .int .i64 i, .int .u32 sg, .int .i64 ((N : Int) + 1), .int .i64 N, .int .u32 1] : Array Value).toList].length = J + 1 := by rw [List.length_take, HM.out]; simp; omega
    have hl18 : ((enL 0 sl).take J ++ [(#[.int .i64 1, .int .i64 i, .int .u32 sg, .int .i64 ((N : Int) + 1), .int .i64 N, .int .u32 1] : Array Value).toList]).length + ((enL 0 sl).drop J).length = M + 1 := by rw [List.length_append, List.length_take, List.length_drop, HM.out]; simp; omega
    have HEF2 := Lib.hid (show (enL 0 sl).take J ++ [(#[.int .i64 1, .int .i64 i, .int .u32 sg, .int .i64 ((N : Int) + 1), .int .i64 N, .int .u32 1] : Array Value).toList] ++ (enL 0 sl).drop J = enL 0 (sl.set i ⟨some N, sg⟩) from HEF.out)
    clear hloB hhiB hEL
    go_upto_region 6 with fail
    go_cut [] (fun wx => ∃ a18 c18, Row wx p #[ptr z, .slice a18 (M + 1) c18, .slice (some ⟨gr, 0, none⟩) rs.length cr] RtT ∧ OwnsC RenT 6 w.heap.size wx (.slice a18 (M + 1) c18) (enL 0 (sl.set i ⟨some N, sg⟩)) ∧ Row wx a9 #[.int .i64 1, .int .i64 i, .int .u32 sg, .int .i64 ((N : Int) + 1), .int .i64 N, .int .u32 1] RenT ∧ Row wx (w.heap.size + 1) #[.int .i64 0, .int .i64 0, .int .u32 0] 87 ∧ But (fun b => b = p ∨ b = w.heap.size + 1) X2 wx)
    case first =>
      refine region_last 21 (S := fun W' => (∀ j, W'.cell? ⟨p, j, none⟩ = (#[ptr z, .slice a1 M c1, .slice (some ⟨gr, 0, none⟩) rs.length cr] : Array Value)[j]?) ∧ (∀ j, W'.cell? ⟨a9, j, none⟩ = (#[.int .i64 1, .int .i64 i, .int .u32 sg, .int .i64 ((N : Int) + 1), .int .i64 N, .int .u32 1] : Array Value)[j]?)) (by kernel_rfl) ⟨rp.cell, r9.cell⟩ (fun hHeld => ?_)
      replace rp := rp.drew
      replace r9 := r9.drew
      replace hc := hc.drew
      replace hLO : Src wc.drew 6 (.slice alo J clo) ((enL 0 sl).take J) := hLO.keep (fun _ _ => rfl)
      replace hHI : Src wc.drew 6 (.slice ahi (M - J) chi) ((enL 0 sl).drop J) := hHI.keep (fun _ _ => rfl)
      replace hloL : ∀ g, (Value.slice alo J clo).ownBlock = some g → g < wc.drew.heap.size := hloL
      replace hhiL : ∀ g, (Value.slice ahi (M - J) chi).ownBlock = some g → g < wc.drew.heap.size := hhiL
      have hwX : w.heap.size ≤ wc.drew.heap.size := Nat.le_trans HBUT.out.size hc.size
      generalize wc.drew = X at *
      have hX : Below X.heap.size X X := Below.refl _ _
      have hRP := Lib.hid (fun W (hb : Below X.heap.size X W) => rp.on hb)
      have hR9 := Lib.hid (fun W (hb : Below X.heap.size X W) => r9.on hb)
      have hR6 := Lib.hid (fun W (hb : Below X.heap.size X W) => (HR6.out.on hc).on hb)
      have hbX := Lib.hid (fun W (hb : Below X.heap.size X W) => hc.trans (hb.mono hc.size))
      have hBW : X.heap.size ≤ X.heap.size := Nat.le_refl _
      obtain ⟨B0, hB0⟩ : ∃ B, X.heap.size = B := ⟨_, rfl⟩
      rw [hB0] at hRP hR9 hR6 hbX hX hloL hhiL hwX
      replace hBW : B0 ≤ X.heap.size := by rw [hB0]; exact Nat.le_refl _
      clear hB0 hc
      refine' anyL_take (i := 0) (oi := _) (v := _) ?_ (by kernel_rfl) (by kernel_rfl) (by kernel_rfl) (by kernel_rfl) ?_ (Or.inl ⟨?_, ?_⟩) (by assumption) ?_
      rotate_left 2
      · (simp only [List.getElem?_toArray, List.getElem?_cons_succ, List.getElem?_cons_zero]; rfl)
      · first | exact fun _ _ _ h => h | exact fun _ _ _ h => nomatch h.1
      · rfl
      · (intro W hSW; (try dsimp only at hSW); go_split_ands; first | (go_simp; done) | (go_simp; with_reducible rfl))
      try simp only [Act.put, List.setIfInBounds_toArray, List.set_cons_zero, List.set_cons_succ]
      refine' anyL_take (i := 2) (oi := _) (v := _) ?_ (by kernel_rfl) (by kernel_rfl) (by kernel_rfl) (by kernel_rfl) ?_ (Or.inl ⟨?_, ?_⟩) (by assumption) ?_
      rotate_left 2
      · (simp only [List.getElem?_toArray, List.getElem?_cons_succ, List.getElem?_cons_zero]; rfl)
      · first | exact fun _ _ _ h => h | exact fun _ _ _ h => nomatch h.1
      · rfl
      · (intro W hSW; (try dsimp only at hSW); go_split_ands; first | (go_simp; done) | (go_simp; with_reducible rfl))
      try simp only [Act.put, List.setIfInBounds_toArray, List.set_cons_zero, List.set_cons_succ]
      refine' anyL_take (i := 3) (oi := _) (v := _) ?_ (by kernel_rfl) (by kernel_rfl) (by kernel_rfl) (by kernel_rfl) ?_ (Or.inl ⟨?_, ?_⟩) (by assumption) ?_
      rotate_left 2
      · (simp only [List.getElem?_toArray, List.getElem?_cons_succ, List.getElem?_cons_zero]; rfl)
      · first | exact fun _ _ _ h => h | exact fun _ _ _ h => nomatch h.1
      · rfl
      · (intro W hSW; (try dsimp only at hSW); go_split_ands; first | (go_simp; done) | (go_simp; with_reducible rfl))
      try simp only [Act.put, List.setIfInBounds_toArray, List.set_cons_zero, List.set_cons_succ]
      refine' anyL_take (i := 4) (oi := _) (v := _) ?_ (by kernel_rfl) (by kernel_rfl) (by kernel_rfl) (by kernel_rfl) ?_ (Or.inl ⟨?_, ?_⟩) (by assumption) ?_
      rotate_left 2
      · (simp only [List.getElem?_toArray, List.getElem?_cons_succ, List.getElem?_cons_zero]; rfl)
      · first | exact fun _ _ _ h => h | exact fun _ _ _ h => nomatch h.1
      · rfl
      · (intro W hSW; (try dsimp only at hSW); go_split_ands; first | (go_simp; done) | (go_simp; with_reducible rfl))
      try simp only [Act.put, List.setIfInBounds_toArray, List.set_cons_zero, List.set_cons_succ]
      refine' anyL_take (i := 5) (oi := _) (v := _) ?_ (by kernel_rfl) (by kernel_rfl) (by kernel_rfl) (by kernel_rfl) ?_ (Or.inl ⟨?_, ?_⟩) (by assumption) ?_
      rotate_left 2
      · (simp only [List.getElem?_toArray, List.getElem?_cons_succ, List.getElem?_cons_zero]; rfl)
      · first | exact fun _ _ _ h => h | exact fun _ _ _ h => nomatch h.1
      · rfl
      · (intro W hSW; (try dsimp only at hSW); go_split_ands; first | (go_simp; done) | (go_simp; with_reducible rfl))
      try simp only [Act.put, List.setIfInBounds_toArray, List.set_cons_zero, List.set_cons_succ]
      refine' anyL_take (i := 6) (oi := _) (v := _) ?_ (by kernel_rfl) (by kernel_rfl) (by kernel_rfl) (by kernel_rfl) ?_ (Or.inl ⟨?_, ?_⟩) (by assumption) ?_
      rotate_left 2
      · (simp only [List.getElem?_toArray, List.getElem?_cons_succ, List.getElem?_cons_zero]; rfl)
      · first | exact fun _ _ _ h => h | exact fun _ _ _ h => nomatch h.1
      · rfl
      · (intro W hSW; (try dsimp only at hSW); go_split_ands; first | (go_simp; done) | (go_simp; with_reducible rfl))
      try simp only [Act.put, List.setIfInBounds_toArray, List.set_cons_zero, List.set_cons_succ]
      refine' anyL_take (i := 7) (oi := _) (v := _) ?_ (by kernel_rfl) (by kernel_rfl) (by kernel_rfl) (by kernel_rfl) ?_ (Or.inl ⟨?_, ?_⟩) (by assumption) ?_
      rotate_left 2
      · (simp only [List.getElem?_toArray, List.getElem?_cons_succ, List.getElem?_cons_zero]; rfl)
      · first | exact fun _ _ _ h => h | exact fun _ _ _ h => nomatch h.1
      · rfl
      · (intro W hSW; (try dsimp only at hSW); go_split_ands; first | (go_simp; done) | (go_simp; with_reducible rfl))
      try simp only [Act.put, List.setIfInBounds_toArray, List.set_cons_zero, List.set_cons_succ]
      refine' anyL_take (i := 9) (oi := _) (v := _) ?_ (by kernel_rfl) (by kernel_rfl) (by kernel_rfl) (by kernel_rfl) ?_ (Or.inl ⟨?_, ?_⟩) (by assumption) ?_
      rotate_left 2
      · (simp only [List.getElem?_toArray, List.getElem?_cons_succ, List.getElem?_cons_zero]; rfl)
      · first | exact fun _ _ _ h => h | exact fun _ _ _ h => nomatch h.1
      · rfl
      · (intro W hSW; (try dsimp only at hSW); go_split_ands; first | (go_simp; done) | (go_simp; with_reducible rfl))
      try simp only [Act.put, List.setIfInBounds_toArray, List.set_cons_zero, List.set_cons_succ]
      refine' anyL_take (i := 12) (oi := _) (v := _) ?_ (by kernel_rfl) (by kernel_rfl) (by kernel_rfl) (by kernel_rfl) ?_ (Or.inl ⟨?_, ?_⟩) (by assumption) ?_
      rotate_left 2
      · (simp only [List.getElem?_toArray, List.getElem?_cons_succ, List.getElem?_cons_zero]; rfl)
      · first | exact fun _ _ _ h => h | exact fun _ _ _ h => nomatch h.1
      · rfl
      · (intro W hSW; (try dsimp only at hSW); go_split_ands; first | (go_simp; done) | (go_simp; with_reducible rfl))
      try simp only [Act.put, List.setIfInBounds_toArray, List.set_cons_zero, List.set_cons_succ]
      refine' anyL_take (i := 13) (oi := _) (v := _) ?_ (by kernel_rfl) (by kernel_rfl) (by kernel_rfl) (by kernel_rfl) ?_ (Or.inl ⟨?_, ?_⟩) (by assumption) ?_
      rotate_left 2
      · (simp only [List.getElem?_toArray, List.getElem?_cons_succ, List.getElem?_cons_zero]; rfl)
      · first | exact fun _ _ _ h => h | exact fun _ _ _ h => nomatch h.1
      · rfl
      · (intro W hSW; (try dsimp only at hSW); go_split_ands; first | (go_simp; done) | (go_simp; with_reducible rfl))
      try simp only [Act.put, List.setIfInBounds_toArray, List.set_cons_zero, List.set_cons_succ]
      refine' anyL_take (i := 14) (oi := _) (v := _) ?_ (by kernel_rfl) (by kernel_rfl) (by kernel_rfl) (by kernel_rfl) ?_ (Or.inl ⟨?_, ?_⟩) (by assumption) ?_
      rotate_left 2
      · (simp only [List.getElem?_toArray, List.getElem?_cons_succ, List.getElem?_cons_zero]; rfl)
      · first | exact fun _ _ _ h => h | exact fun _ _ _ h => nomatch h.1
      · rfl
      · (intro W hSW; (try dsimp only at hSW); go_split_ands; first | (go_simp; done) | (go_simp; with_reducible rfl))
      try simp only [Act.put, List.setIfInBounds_toArray, List.set_cons_zero, List.set_cons_succ]
      refine' anyL_take (i := 15) (oi := _) (v := _) ?_ (by kernel_rfl) (by kernel_rfl) (by kernel_rfl) (by kernel_rfl) ?_ (Or.inl ⟨?_, ?_⟩) (by assumption) ?_
      rotate_left 2
      · (simp only [List.getElem?_toArray, List.getElem?_cons_succ, List.getElem?_cons_zero]; rfl)
      · first | exact fun _ _ _ h => h | exact fun _ _ _ h => nomatch h.1
      · rfl
      · (intro W hSW; (try dsimp only at hSW); go_split_ands; first | (go_simp; done) | (go_simp; with_reducible rfl))
      try simp only [Act.put, List.setIfInBounds_toArray, List.set_cons_zero, List.set_cons_succ]
      refine' anyL_take (i := 16) (oi := _) (v := _) ?_ (by kernel_rfl) (by kernel_rfl) (by kernel_rfl) (by kernel_rfl) ?_ (Or.inl ⟨?_, ?_⟩) (by assumption) ?_
      rotate_left 2
      · (simp only [List.getElem?_toArray, List.getElem?_cons_succ, List.getElem?_cons_zero]; rfl)
      · first | exact fun _ _ _ h => h | exact fun _ _ _ h => nomatch h.1
      · rfl
      · (intro W hSW; (try dsimp only at hSW); go_split_ands; first | (go_simp; done) | (go_simp; with_reducible rfl))
      try simp only [Act.put, List.setIfInBounds_toArray, List.set_cons_zero, List.set_cons_succ]
      refine' anyL_take (i := 17) (oi := _) (v := _) ?_ (by kernel_rfl) (by kernel_rfl) (by kernel_rfl) (by kernel_rfl) ?_ (Or.inl ⟨?_, ?_⟩) (by assumption) ?_
      rotate_left 2
      · (simp only [List.getElem?_toArray, List.getElem?_cons_succ, List.getElem?_cons_zero]; rfl)
      · first | exact fun _ _ _ h => h | exact fun _ _ _ h => nomatch h.1
      · rfl
      · (intro W hSW; (try dsimp only at hSW); go_split_ands; first | (go_simp; done) | (go_simp; with_reducible rfl))
      try simp only [Act.put, List.setIfInBounds_toArray, List.set_cons_zero, List.set_cons_succ]
      clear hHeld
      --REGION6
      refine anyL_ready (rs := [1, 10]) (by kernel_rfl) (by simp) ?_
      refine' ReadyL.cons (o := _) (by simp only [List.getElem?_toArray, List.getElem?_cons_succ, List.getElem?_cons_zero]; rfl) (fun K hK => ?_) (ReadyL.cons (o := _) (by simp only [List.getElem?_toArray, List.getElem?_cons_succ, List.getElem?_cons_zero]; rfl) (fun K hK => ?_) ReadyL.nil)
      · go_simp
        have hn := below_alloc X (.cells #[] RenT)
        have hmd := (OwnsC.made (t := RenT) (k := 6) (b := B0) X).2 hBW
        replace hX := hX.trans (hn.mono hBW)
        replace hBW := Nat.le_trans hBW hn.size
        clear hn
        generalize X.alloc _ = W1 at *
        generalize X.heap.size = aM at *
        refine hK.out _ _ (fun _ => ⟨(hRP.out _ hX).cell, (hR9.out _ hX).cell⟩) (fun hHeld0 => ?_)
        have hHeld := hHeld0 (by decide)
        clear hHeld0 hK K
        refine anyL_ready (rs := [8, 10]) (by kernel_rfl) (by simp) ?_
        refine' ReadyL.cons (o := _) (by simp only [List.getElem?_toArray, List.getElem?_cons_succ, List.getElem?_cons_zero]; rfl) (fun K hK => ?_) (ReadyL.cons (o := _) (by simp only [List.getElem?_toArray, List.getElem?_cons_succ, List.getElem?_cons_zero]; rfl) (fun K hK => ?_) ReadyL.nil)
        · have hlo2 := hLO.keep (W' := W1) (fun g hg => hX.block g (hloL g hg))
          refine step_app rfl (.tmp 61) (.tmp 67) 78 rfl (b := B0) Tryz.underlying78 HI0.out HZ0.out HZ1.out HZ2.out rfl (by decide) rfl rfl hmd hlo2 (by rw [hl8]; omega) (by decide) hBW ?_
          rw [hl8]
          intro a8 c8 W2 h8 hgrow
          rw [List.nil_append] at h8
          replace hX := hX.grown hgrow hBW (fun k hk => (hmd.lt k hk).1)
          replace hBW := Nat.le_trans hBW hgrow.size
          clear hgrow hmd hlo2
          go_simp
          refine hK.out _ _ (fun _ => ⟨(hRP.out _ hX).cell, (hR9.out _ hX).cell⟩) (fun hHeld0 => ?_)
          have hHeld := hHeld0 (by decide)
          clear hHeld0 hK K
          refine anyL_ready (rs := [10]) (by kernel_rfl) (by simp) ?_
          refine' ReadyL.cons (o := _) (by simp only [List.getElem?_toArray, List.getElem?_cons_succ, List.getElem?_cons_zero]; rfl) (fun K hK => ?_) ReadyL.nil
          go_simp
          have hn := below_alloc W2 (.cells #[.int .i64 1, .int .i64 i, .int .u32 sg, .int .i64 ((N : Int) + 1), .int .i64 N, .int .u32 1] RenT)
          have hit := src_row (t := RenT) (k := 6) W2 #[.int .i64 1, .int .i64 i, .int .u32 sg, .int .i64 ((N : Int) + 1), .int .i64 N, .int .u32 1] rfl (fun u hu => enL_oneC i N sg u hu)
          have haI : W2.heap.size < (W2.alloc (.cells #[.int .i64 1, .int .i64 i, .int .u32 sg, .int .i64 ((N : Int) + 1), .int .i64 N, .int .u32 1] RenT)).heap.size := by simp
          replace h8 := h8.on hn
          replace hX := hX.trans (hn.mono hBW)
          replace hBW := Nat.le_trans hBW hn.size
          clear hn
          generalize W2.alloc _ = W3 at *
          generalize W2.heap.size = aI at *
          refine hK.out _ _ (fun _ => ⟨(hRP.out _ hX).cell, (hR9.out _ hX).cell⟩) (fun hHeld0 => ?_)
          have hHeld := hHeld0 (by decide)
          clear hHeld0 hK K
          refine anyL_ready (rs := [11]) (by kernel_rfl) (by simp) ?_
          refine' ReadyL.cons (o := _) (by simp only [List.getElem?_toArray, List.getElem?_cons_succ, List.getElem?_cons_zero]; rfl) (fun K hK => ?_) ReadyL.nil
          refine step_app rfl (.tmp 68) (.tmp 70) 78 rfl (b := B0) Tryz.underlying78 HI0.out HZ0.out HZ1.out HZ2.out rfl (by decide) rfl rfl h8 hit (by rw [hl11]; omega) (by decide) hBW ?_
          rw [hl11]
          intro a11 c11 W11 h11 hgrow
          replace hX := hX.grown hgrow hBW (fun k hk => (h8.lt k hk).1)
          replace hBW := Nat.le_trans hBW hgrow.size
          clear hgrow h8 hit
          go_simp
          refine hK.out _ _ (fun _ => ⟨(hRP.out _ hX).cell, (hR9.out _ hX).cell⟩) (fun hHeld0 => ?_)
          have hHeld := hHeld0 (by decide)
          clear hHeld0 hK K
          refine anyL_ready (rs := [18]) (by kernel_rfl) (by simp) ?_
          refine' ReadyL.cons (o := _) (by simp only [List.getElem?_toArray, List.getElem?_cons_succ, List.getElem?_cons_zero]; rfl) (fun K hK => ?_) ReadyL.nil
          have hhi2 := hHI.keep (W' := W11) (fun g hg => hX.block g (hhiL g hg))
          refine step_app rfl (.tmp 71) (.tmp 77) 78 rfl (b := B0) Tryz.underlying78 HI0.out HZ0.out HZ1.out HZ2.out rfl (by decide) rfl rfl h11 hhi2 (by rw [hl18]; omega) (by decide) hBW ?_
          rw [hl18]
          intro a18 c18 W18 h18 hgrow
          replace hX := hX.grown hgrow hBW (fun k hk => (h11.lt k hk).1)
          replace hBW := Nat.le_trans hBW hgrow.size
          clear hgrow h11 hhi2
          rw [HEF2.out] at h18
          go_simp
          refine hK.out _ _ (fun _ => ⟨(hRP.out _ hX).cell, (hR9.out _ hX).cell⟩) (fun hHeld0 => ?_)
          have hHeld := hHeld0 (by decide)
          clear hHeld0 hK K
          refine anyL_ready (rs := [19]) (by kernel_rfl) (by simp) ?_
          refine' ReadyL.cons (o := _) ?_ (fun K hK => ?_) ReadyL.nil
          rotate_left 1
          · (simp only [List.getElem?_toArray, List.getElem?_cons_succ, List.getElem?_cons_zero]; rfl)
          go_simp
          refine hK.out _ _ (fun _ => ⟨(hRP.out _ hX).cell, (hR9.out _ hX).cell⟩) (fun hHeld0 => ?_)
          have hHeld := hHeld0 (by decide)
          clear hHeld0 hK K
          refine' anyL_take (i := 20) (oi := _) (v := _) ?_ (by kernel_rfl) (by kernel_rfl) (by kernel_rfl) (by kernel_rfl) ?_ (Or.inl ⟨?_, ?_⟩) (by assumption) ?_
          rotate_left 2
          · (simp only [List.getElem?_toArray, List.getElem?_cons_succ, List.getElem?_cons_zero]; rfl)
          · first | exact fun _ _ _ h => h | exact fun _ _ _ h => nomatch h.1
          · rfl
          · (intro W hSW; (try dsimp only at hSW); go_split_ands; first | (go_simp; done) | (go_simp; with_reducible rfl))
          try simp only [Act.put, List.setIfInBounds_toArray, List.set_cons_zero, List.set_cons_succ]
          clear hHeld
          have yp := (hRP.out _ hX).cell
          have zp := (hRP.out _ hX).lt
          have up := (hRP.out _ hX).free
          refine anyL_ready (rs := [21]) (by kernel_rfl) (by simp) ?_
          refine' ReadyL.cons (o := _) ?_ (fun K hK => ?_) ReadyL.nil
          rotate_left 1
          · (simp only [List.getElem?_toArray, List.getElem?_cons_succ, List.getElem?_cons_zero]; rfl)
          go_simp
          clear yp zp up
          refine hK.out _ _ (fun h => absurd rfl h) (fun _ => ?_)
          clear hK K
          refine anyL_done (by kernel_rfl) ?_ _
          have hpa6 : p ≠ w.heap.size + 1 := by omega
          have hcX := hbX.out _ hX
          have r9e := (hR9.out _ hX).other (show p ≠ a9 by omega) 1 (.slice a18 (M + 1) c18)
          have r6e := (hR6.out _ hX).other hpa6 1 (.slice a18 (M + 1) c18)
          have rpe := (hRP.out _ hX).set 1 (.slice a18 (M + 1) c18)
          simp only [List.setIfInBounds_toArray, List.set_cons_zero, List.set_cons_succ] at rpe
          have h18e := h18.other (h18.ne_row (hRP.out _ hX) (by decide)) 1 (.slice a18 (M + 1) c18)
          have hbe := (but_of (fun b => b = p ∨ b = w.heap.size + 1) hcX).setCell (y := p) (fun _ => .inl rfl) 1 (.slice a18 (M + 1) c18)
          clear hX h18 hcX hBW
          generalize World.setCell _ _ _ = Z at *
          go_wp2_with fail
          go_meet
          exact ⟨a18, c18, rpe, h18e.base hwX, r9e, r6e, hbe⟩
        · go_simp
          have hn := below_alloc W1 (.cells #[.int .i64 1, .int .i64 i, .int .u32 sg, .int .i64 ((N : Int) + 1), .int .i64 N, .int .u32 1] RenT)
          have hit := src_row (t := RenT) (k := 6) W1 #[.int .i64 1, .int .i64 i, .int .u32 sg, .int .i64 ((N : Int) + 1), .int .i64 N, .int .u32 1] rfl (fun u hu => enL_oneC i N sg u hu)
          have haI : W1.heap.size < (W1.alloc (.cells #[.int .i64 1, .int .i64 i, .int .u32 sg, .int .i64 ((N : Int) + 1), .int .i64 N, .int .u32 1] RenT)).heap.size := by simp
          have hIM : W1.heap.size ≠ aM := fun e => by have := (hmd.lt aM rfl).2; omega
          replace hmd := hmd.on hn
          replace hX := hX.trans (hn.mono hBW)
          replace hBW := Nat.le_trans hBW hn.size
          clear hn
          generalize W1.alloc _ = W2 at *
          generalize W1.heap.size = aI at *
          refine hK.out _ _ (fun _ => ⟨(hRP.out _ hX).cell, (hR9.out _ hX).cell⟩) (fun hHeld0 => ?_)
          have hHeld := hHeld0 (by decide)
          clear hHeld0 hK K
          refine anyL_ready (rs := [8]) (by kernel_rfl) (by simp) ?_
          refine' ReadyL.cons (o := _) (by simp only [List.getElem?_toArray, List.getElem?_cons_succ, List.getElem?_cons_zero]; rfl) (fun K hK => ?_) ReadyL.nil
          have hlo2 := hLO.keep (W' := W2) (fun g hg => hX.block g (hloL g hg))
          refine step_app rfl (.tmp 61) (.tmp 67) 78 rfl (b := B0) Tryz.underlying78 HI0.out HZ0.out HZ1.out HZ2.out rfl (by decide) rfl rfl hmd hlo2 (by rw [hl8]; omega) (by decide) hBW ?_
          rw [hl8]
          intro a8 c8 W3 h8 hgrow
          rw [List.nil_append] at h8
          replace hit := hit.keep (fun g hg => hgrow.block g (by have : aI = g := Option.some.inj hg; omega) (fun e => by have h1 : aI = g := Option.some.inj hg; have h2 : g = aM := Option.some.inj e; omega))
          replace hX := hX.grown hgrow hBW (fun k hk => (hmd.lt k hk).1)
          replace hBW := Nat.le_trans hBW hgrow.size
          clear hgrow hmd hlo2
          go_simp
          refine hK.out _ _ (fun _ => ⟨(hRP.out _ hX).cell, (hR9.out _ hX).cell⟩) (fun hHeld0 => ?_)
          have hHeld := hHeld0 (by decide)
          clear hHeld0 hK K
          refine anyL_ready (rs := [11]) (by kernel_rfl) (by simp) ?_
          refine' ReadyL.cons (o := _) (by simp only [List.getElem?_toArray, List.getElem?_cons_succ, List.getElem?_cons_zero]; rfl) (fun K hK => ?_) ReadyL.nil
          refine step_app rfl (.tmp 68) (.tmp 70) 78 rfl (b := B0) Tryz.underlying78 HI0.out HZ0.out HZ1.out HZ2.out rfl (by decide) rfl rfl h8 hit (by rw [hl11]; omega) (by decide) hBW ?_
          rw [hl11]
          intro a11 c11 W11 h11 hgrow
          replace hX := hX.grown hgrow hBW (fun k hk => (h8.lt k hk).1)
          replace hBW := Nat.le_trans hBW hgrow.size
          clear hgrow h8 hit
          go_simp
          refine hK.out _ _ (fun _ => ⟨(hRP.out _ hX).cell, (hR9.out _ hX).cell⟩) (fun hHeld0 => ?_)
          have hHeld := hHeld0 (by decide)
          clear hHeld0 hK K
          refine anyL_ready (rs := [18]) (by kernel_rfl) (by simp) ?_
          refine' ReadyL.cons (o := _) (by simp only [List.getElem?_toArray, List.getElem?_cons_succ, List.getElem?_cons_zero]; rfl) (fun K hK => ?_) ReadyL.nil
          have hhi2 := hHI.keep (W' := W11) (fun g hg => hX.block g (hhiL g hg))
          refine step_app rfl (.tmp 71) (.tmp 77) 78 rfl (b := B0) Tryz.underlying78 HI0.out HZ0.out HZ1.out HZ2.out rfl (by decide) rfl rfl h11 hhi2 (by rw [hl18]; omega) (by decide) hBW ?_
          rw [hl18]
          intro a18 c18 W18 h18 hgrow
          replace hX := hX.grown hgrow hBW (fun k hk => (h11.lt k hk).1)
          replace hBW := Nat.le_trans hBW hgrow.size
          clear hgrow h11 hhi2
          rw [HEF2.out] at h18
          go_simp
          refine hK.out _ _ (fun _ => ⟨(hRP.out _ hX).cell, (hR9.out _ hX).cell⟩) (fun hHeld0 => ?_)
          have hHeld := hHeld0 (by decide)
          clear hHeld0 hK K
          refine anyL_ready (rs := [19]) (by kernel_rfl) (by simp) ?_
          refine' ReadyL.cons (o := _) ?_ (fun K hK => ?_) ReadyL.nil
          rotate_left 1
          · (simp only [List.getElem?_toArray, List.getElem?_cons_succ, List.getElem?_cons_zero]; rfl)
          go_simp
          refine hK.out _ _ (fun _ => ⟨(hRP.out _ hX).cell, (hR9.out _ hX).cell⟩) (fun hHeld0 => ?_)
          have hHeld := hHeld0 (by decide)
          clear hHeld0 hK K
          refine' anyL_take (i := 20) (oi := _) (v := _) ?_ (by kernel_rfl) (by kernel_rfl) (by kernel_rfl) (by kernel_rfl) ?_ (Or.inl ⟨?_, ?_⟩) (by assumption) ?_
          rotate_left 2
          · (simp only [List.getElem?_toArray, List.getElem?_cons_succ, List.getElem?_cons_zero]; rfl)
          · first | exact fun _ _ _ h => h | exact fun _ _ _ h => nomatch h.1
          · rfl
          · (intro W hSW; (try dsimp only at hSW); go_split_ands; first | (go_simp; done) | (go_simp; with_reducible rfl))
          try simp only [Act.put, List.setIfInBounds_toArray, List.set_cons_zero, List.set_cons_succ]
          clear hHeld
          have yp := (hRP.out _ hX).cell
          have zp := (hRP.out _ hX).lt
          have up := (hRP.out _ hX).free
          refine anyL_ready (rs := [21]) (by kernel_rfl) (by simp) ?_
          refine' ReadyL.cons (o := _) ?_ (fun K hK => ?_) ReadyL.nil
          rotate_left 1
          · (simp only [List.getElem?_toArray, List.getElem?_cons_succ, List.getElem?_cons_zero]; rfl)
          go_simp
          clear yp zp up
          refine hK.out _ _ (fun h => absurd rfl h) (fun _ => ?_)
          clear hK K
          refine anyL_done (by kernel_rfl) ?_ _
          have hpa6 : p ≠ w.heap.size + 1 := by omega
          have hcX := hbX.out _ hX
          have r9e := (hR9.out _ hX).other (show p ≠ a9 by omega) 1 (.slice a18 (M + 1) c18)
          have r6e := (hR6.out _ hX).other hpa6 1 (.slice a18 (M + 1) c18)
          have rpe := (hRP.out _ hX).set 1 (.slice a18 (M + 1) c18)
          simp only [List.setIfInBounds_toArray, List.set_cons_zero, List.set_cons_succ] at rpe
          have h18e := h18.other (h18.ne_row (hRP.out _ hX) (by decide)) 1 (.slice a18 (M + 1) c18)
          have hbe := (but_of (fun b => b = p ∨ b = w.heap.size + 1) hcX).setCell (y := p) (fun _ => .inl rfl) 1 (.slice a18 (M + 1) c18)
          clear hX h18 hcX hBW
          generalize World.setCell _ _ _ = Z at *
          go_wp2_with fail
          go_meet
          exact ⟨a18, c18, rpe, h18e.base hwX, r9e, r6e, hbe⟩
      · go_simp
        have hn := below_alloc X (.cells #[.int .i64 1, .int .i64 i, .int .u32 sg, .int .i64 ((N : Int) + 1), .int .i64 N, .int .u32 1] RenT)
        have hit := src_row (t := RenT) (k := 6) X #[.int .i64 1, .int .i64 i, .int .u32 sg, .int .i64 ((N : Int) + 1), .int .i64 N, .int .u32 1] rfl (fun u hu => enL_oneC i N sg u hu)
        have haI : X.heap.size < (X.alloc (.cells #[.int .i64 1, .int .i64 i, .int .u32 sg, .int .i64 ((N : Int) + 1), .int .i64 N, .int .u32 1] RenT)).heap.size := by simp
        replace hX := hX.trans (hn.mono hBW)
        replace hBW := Nat.le_trans hBW hn.size
        clear hn
        generalize X.alloc _ = W1 at *
        generalize X.heap.size = aI at *
        refine hK.out _ _ (fun _ => ⟨(hRP.out _ hX).cell, (hR9.out _ hX).cell⟩) (fun hHeld0 => ?_)
        have hHeld := hHeld0 (by decide)
        clear hHeld0 hK K
        refine anyL_ready (rs := [1]) (by kernel_rfl) (by simp) ?_
        refine' ReadyL.cons (o := _) (by simp only [List.getElem?_toArray, List.getElem?_cons_succ, List.getElem?_cons_zero]; rfl) (fun K hK => ?_) ReadyL.nil
        go_simp
        have hn := below_alloc W1 (.cells #[] RenT)
        have hmd := (OwnsC.made (t := RenT) (k := 6) (b := B0) W1).2 hBW
        have hIM : aI ≠ W1.heap.size := by omega
        replace hit := hit.keep (fun g hg => hn.block g (by have : aI = g := Option.some.inj hg; omega))
        replace haI := Nat.lt_of_lt_of_le haI hn.size
        replace hX := hX.trans (hn.mono hBW)
        replace hBW := Nat.le_trans hBW hn.size
        clear hn
        generalize W1.alloc _ = W2 at *
        generalize W1.heap.size = aM at *
        refine hK.out _ _ (fun _ => ⟨(hRP.out _ hX).cell, (hR9.out _ hX).cell⟩) (fun hHeld0 => ?_)
        have hHeld := hHeld0 (by decide)
        clear hHeld0 hK K
        refine anyL_ready (rs := [8]) (by kernel_rfl) (by simp) ?_
        refine' ReadyL.cons (o := _) (by simp only [List.getElem?_toArray, List.getElem?_cons_succ, List.getElem?_cons_zero]; rfl) (fun K hK => ?_) ReadyL.nil
        have hlo2 := hLO.keep (W' := W2) (fun g hg => hX.block g (hloL g hg))
        refine step_app rfl (.tmp 61) (.tmp 67) 78 rfl (b := B0) Tryz.underlying78 HI0.out HZ0.out HZ1.out HZ2.out rfl (by decide) rfl rfl hmd hlo2 (by rw [hl8]; omega) (by decide) hBW ?_
        rw [hl8]
        intro a8 c8 W3 h8 hgrow
        rw [List.nil_append] at h8
        replace hit := hit.keep (fun g hg => hgrow.block g (by have : aI = g := Option.some.inj hg; omega) (fun e => by have h1 : aI = g := Option.some.inj hg; have h2 : g = aM := Option.some.inj e; omega))
        replace hX := hX.grown hgrow hBW (fun k hk => (hmd.lt k hk).1)
        replace hBW := Nat.le_trans hBW hgrow.size
        clear hgrow hmd hlo2
        go_simp
        refine hK.out _ _ (fun _ => ⟨(hRP.out _ hX).cell, (hR9.out _ hX).cell⟩) (fun hHeld0 => ?_)
        have hHeld := hHeld0 (by decide)
        clear hHeld0 hK K
        refine anyL_ready (rs := [11]) (by kernel_rfl) (by simp) ?_
        refine' ReadyL.cons (o := _) (by simp only [List.getElem?_toArray, List.getElem?_cons_succ, List.getElem?_cons_zero]; rfl) (fun K hK => ?_) ReadyL.nil
        refine step_app rfl (.tmp 68) (.tmp 70) 78 rfl (b := B0) Tryz.underlying78 HI0.out HZ0.out HZ1.out HZ2.out rfl (by decide) rfl rfl h8 hit (by rw [hl11]; omega) (by decide) hBW ?_
        rw [hl11]
        intro a11 c11 W11 h11 hgrow
        replace hX := hX.grown hgrow hBW (fun k hk => (h8.lt k hk).1)
        replace hBW := Nat.le_trans hBW hgrow.size
        clear hgrow h8 hit
        go_simp
        refine hK.out _ _ (fun _ => ⟨(hRP.out _ hX).cell, (hR9.out _ hX).cell⟩) (fun hHeld0 => ?_)
        have hHeld := hHeld0 (by decide)
        clear hHeld0 hK K
        refine anyL_ready (rs := [18]) (by kernel_rfl) (by simp) ?_
        refine' ReadyL.cons (o := _) (by simp only [List.getElem?_toArray, List.getElem?_cons_succ, List.getElem?_cons_zero]; rfl) (fun K hK => ?_) ReadyL.nil
        have hhi2 := hHI.keep (W' := W11) (fun g hg => hX.block g (hhiL g hg))
        refine step_app rfl (.tmp 71) (.tmp 77) 78 rfl (b := B0) Tryz.underlying78 HI0.out HZ0.out HZ1.out HZ2.out rfl (by decide) rfl rfl h11 hhi2 (by rw [hl18]; omega) (by decide) hBW ?_
        rw [hl18]
        intro a18 c18 W18 h18 hgrow
        replace hX := hX.grown hgrow hBW (fun k hk => (h11.lt k hk).1)
        replace hBW := Nat.le_trans hBW hgrow.size
        clear hgrow h11 hhi2
        rw [HEF2.out] at h18
        go_simp
        refine hK.out _ _ (fun _ => ⟨(hRP.out _ hX).cell, (hR9.out _ hX).cell⟩) (fun hHeld0 => ?_)
        have hHeld := hHeld0 (by decide)
        clear hHeld0 hK K
        refine anyL_ready (rs := [19]) (by kernel_rfl) (by simp) ?_
        refine' ReadyL.cons (o := _) ?_ (fun K hK => ?_) ReadyL.nil
        rotate_left 1
        · (simp only [List.getElem?_toArray, List.getElem?_cons_succ, List.getElem?_cons_zero]; rfl)
        go_simp
        refine hK.out _ _ (fun _ => ⟨(hRP.out _ hX).cell, (hR9.out _ hX).cell⟩) (fun hHeld0 => ?_)
        have hHeld := hHeld0 (by decide)
        clear hHeld0 hK K
        refine' anyL_take (i := 20) (oi := _) (v := _) ?_ (by kernel_rfl) (by kernel_rfl) (by kernel_rfl) (by kernel_rfl) ?_ (Or.inl ⟨?_, ?_⟩) (by assumption) ?_
        rotate_left 2
        · (simp only [List.getElem?_toArray, List.getElem?_cons_succ, List.getElem?_cons_zero]; rfl)
        · first | exact fun _ _ _ h => h | exact fun _ _ _ h => nomatch h.1
        · rfl
        · (intro W hSW; (try dsimp only at hSW); go_split_ands; first | (go_simp; done) | (go_simp; with_reducible rfl))
        try simp only [Act.put, List.setIfInBounds_toArray, List.set_cons_zero, List.set_cons_succ]
        clear hHeld
        have yp := (hRP.out _ hX).cell
        have zp := (hRP.out _ hX).lt
        have up := (hRP.out _ hX).free
        refine anyL_ready (rs := [21]) (by kernel_rfl) (by simp) ?_
        refine' ReadyL.cons (o := _) ?_ (fun K hK => ?_) ReadyL.nil
        rotate_left 1
        · (simp only [List.getElem?_toArray, List.getElem?_cons_succ, List.getElem?_cons_zero]; rfl)
        go_simp
        clear yp zp up
        refine hK.out _ _ (fun h => absurd rfl h) (fun _ => ?_)
        clear hK K
        refine anyL_done (by kernel_rfl) ?_ _
        have hpa6 : p ≠ w.heap.size + 1 := by omega
        have hcX := hbX.out _ hX
        have r9e := (hR9.out _ hX).other (show p ≠ a9 by omega) 1 (.slice a18 (M + 1) c18)
        have r6e := (hR6.out _ hX).other hpa6 1 (.slice a18 (M + 1) c18)
        have rpe := (hRP.out _ hX).set 1 (.slice a18 (M + 1) c18)
        simp only [List.setIfInBounds_toArray, List.set_cons_zero, List.set_cons_succ] at rpe
        have h18e := h18.other (h18.ne_row (hRP.out _ hX) (by decide)) 1 (.slice a18 (M + 1) c18)
        have hbe := (but_of (fun b => b = p ∨ b = w.heap.size + 1) hcX).setCell (y := p) (fun _ => .inl rfl) 1 (.slice a18 (M + 1) c18)
        clear hX h18 hcX hBW
        generalize World.setCell _ _ _ = Z at *
        go_wp2_with fail
        go_meet
        exact ⟨a18, c18, rpe, h18e.base hwX, r9e, r6e, hbe⟩
      --ENDREGION6
    case rest =>
      obtain ⟨a18, c18, rpe, h18e, r9e, r6e, hbe⟩ := hcut
      have y9 := r9e.cell
      have z9 := r9e.lt
      have y6 := r6e.cell
      have u6 := r6e.free
      have z6 := r6e.lt
      go_wp2_with fail
      refine bodyPost_ret (v := dV 1 i sg) (by simp [results, Tryz.results61, go_sem, y6, z6]) rfl ?_
      obtain ⟨q1, q2⟩ := radd_end HH.out HNN.out hil hsgen HS3.out HBUT.out (show w.heap.size ≤ w.heap.size + 1 by omega) r6e rpe h18e hbe (.int .i64 1) (.int .i64 i) (.int .u32 sg)
      exact ⟨rfl, q1, q2⟩
end Go.Proofs.YtkjpdciccablpaaGreatDoor
