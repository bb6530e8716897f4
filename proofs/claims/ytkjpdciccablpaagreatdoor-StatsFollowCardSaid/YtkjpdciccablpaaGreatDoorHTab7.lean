/- The program's table (chapter 37): Open. -/
import Derived.Test.YtkjpdciccablpaaGreatDoorL3a
namespace Go.Proofs.YtkjpdciccablpaaGreatDoor
open Go.RowKit
set_option linter.unusedVariables false
set_option linter.unusedSimpArgs false
set_option maxHeartbeats 16000000
set_option maxRecDepth 20000
theorem object_c (n : Nat) (hn : n < 256) (w : World) : Ret 51 #[.agg #[.int .i64 n, .int .u32 1]] w (.bool true) := by
  have n0 : ((n : Int) ≥ 0) := by omega
  have n1 : ((n : Int) < 256) := by omega
  go_enter Tryz.func51, Tryz.ntmps51
  go_wp2_with fail
  go_returns
  exact ⟨rfl, by go_grown⟩
theorem new_ok (n : Nat) (hn : n < 60) : newV 1 n 1 tagB = .tuple #[rV 1 n 1 1 0 0 0 tagB, .int .i64 0] := by
  have hd : dOk 64 1 n 1 = true := by unfold dOk; simp; omega
  have hp : pOk 1 n 1 1 0 0 0 = true := by rw [pOk_1 hd]; decide
  have he : rErr 1 n 1 1 0 0 0 tagB = 0 := by unfold rErr; rw [if_pos hp]; decide
  unfold newV
  rw [if_pos he]
theorem topen_c {w : World} {F : Nat → Prop} {p : Nat} {sl : List SlotR} {rs : List RS} {z m : Nat} {cs : Array Value} {v : Value} (h : TabIs w F p sl rs z m cs v) (hn : rs.length < 60) (hf : 0 < freeN sl) :
    Calls Tryz.prog 29 #[ptr p, .agg #[.int .i64 1, .int .i64 rs.length, .int .u32 1], .string tagB, .agg #[.int .i64 rs.length, .int .u32 1]] w fun e w' => ∃ s, sl[firstF sl]? = some s ∧ isFree s = true ∧ e = .returned (.tuple #[dV 1 (firstF sl : Nat) s.gen, .int .i64 0]) ∧ Tab w' (fun b => F b ∨ FreshL w w' b) p (sl.set (firstF sl) ⟨some rs.length, s.gen⟩) (rs ++ [⟨1, 0, 0⟩]) ∧ But F w w' := by
  obtain ⟨i0, hi, hz0, hz1, hz2⟩ := info_parts res_info
  have HI0 := Lib.hid hi
  have HZ0 := Lib.hid hz0
  have HZ1 := Lib.hid hz1
  have HZ2 := Lib.hid hz2
  clear hi hz0 hz1 hz2
  have HH := Lib.hid h
  have CC := Lib.hid (fun W (hb : Below w.heap.size w W) b hr => contains_c (h.on hb) b hr)
  have CH := Lib.hid (fun W (hb : Below w.heap.size w W) => handled_c (n := rs.length) (h.on hb) (fun i k g hs => by have := h.owns i _ k hs rfl; omega))
  have CF := Lib.hid (fun W (hW : Row W z cs SlT) => sl_free hW h.sa)
  have CO := Lib.hid (fun W => object_c rs.length (by omega) W)
  have cn := fun W => new_c 1 rs.length 1 tagB W (by omega) (by omega) (by decide)
  rw [new_ok _ hn] at cn
  have CN := Lib.hid cn
  obtain ⟨a0, c0, hv⟩ := h.list
  subst hv
  have rp := h.row
  have HF := Lib.hid hf
  obtain ⟨f0, hf0⟩ : ∃ f0, freeN sl = f0 + 1 := ⟨freeN sl - 1, by omega⟩
  rw [hf0] at CF
  have hfc : (((f0 : Int) + 1) == 0) = false := beq_eq_false_iff_ne.2 (by omega)
  have hfd : ¬ ((f0 : Int) + 1 = 0) := by omega
  obtain ⟨N, hN⟩ : ∃ N, rs.length = N := ⟨_, rfl⟩
  rw [hN] at HH CH CO CN CC rp hn ⊢
  have HN := Lib.hid hN
  clear h hf cn hN hf0
  have hn2 : ¬ ((2000 : Int) ≤ (N : Int)) := by omega
  go_enter Tryz.func29, Tryz.ntmps29
  go_upto_region 1 with fail
  have hb1 := below_alloc w (.cells #[.int .i64 1, .int .i64 N, .int .u32 1] 83)
  have r1 := Row.new (W := w) (cs := #[.int .i64 1, .int .i64 N, .int .u32 1]) (t := 83)
  have hs1 : (w.alloc (.cells #[.int .i64 1, .int .i64 N, .int .u32 1] 83)).heap.size = w.heap.size + 1 := by simp
  generalize w.alloc (.cells #[.int .i64 1, .int .i64 N, .int .u32 1] 83) = V1 at *
  have hb2 := below_alloc V1 (.cells #[.int .i64 N, .int .u32 1] 85)
  have r2 := Row.new (W := V1) (cs := #[.int .i64 N, .int .u32 1]) (t := 85)
  have hs2 : (V1.alloc (.cells #[.int .i64 N, .int .u32 1] 85)).heap.size = w.heap.size + 2 := by simp; omega
  rw [hs1] at r2
  generalize V1.alloc (.cells #[.int .i64 N, .int .u32 1] 85) = V2 at *
  have hb3 := below_alloc V2 (.cells #[.int .i64 0, .int .i64 0, .int .u32 0] 87)
  have r3 := Row.new (W := V2) (cs := #[.int .i64 0, .int .i64 0, .int .u32 0]) (t := 87)
  rw [hs2] at r3
  generalize V2.alloc _ = V3 at *
  have hc := chain (chain hb1 hb2) hb3
  replace r1 := (r1.on hb2).on hb3
  replace r2 := r2.on hb3
  replace rp := rp.on hc
  clear hb1 hb2 hb3 hs1 hs2
  have CV := Lib.hid (tvalid_c rp)
  go_wp2_with fail
  refine Calls.mono CV.out ?_
  rintro e V ⟨rfl, hW⟩
  subst V
  clear CV
  have y1 := r1.cell
  have z1 := r1.lt
  go_wp2_with fail
  refine Calls.mono (CN.out _) ?_
  rintro e V4 ⟨rfl, hn4⟩
  clear y1 z1 CN
  replace r1 := r1.on hn4
  replace r2 := r2.on hn4
  replace r3 := r3.on hn4
  replace rp := rp.on hn4
  replace hc := chain hc hn4
  clear hn4
  go_upto_region 4 with fail
  have hn4 := below_alloc V4 (.cells #[.int .i64 1, .int .i64 N, .int .u32 1, .int .i64 1, .int .i64 0, .int .i64 0, .int .i64 0, .string tagB] ResT)
  have r4 := Row.new (W := V4) (cs := #[.int .i64 1, .int .i64 N, .int .u32 1, .int .i64 1, .int .i64 0, .int .i64 0, .int .i64 0, .string tagB]) (t := ResT)
  have ha4 : w.heap.size + 2 < V4.heap.size := r3.lt
  replace r1 := r1.on hn4
  replace r2 := r2.on hn4
  replace r3 := r3.on hn4
  replace rp := rp.on hn4
  replace hc := chain hc hn4
  clear hn4
  generalize V4.alloc _ = V5 at *
  generalize V4.heap.size = a4 at *
  have y2 := r2.cell
  have z2 := r2.lt
  go_wp2_with fail
  refine Calls.mono (CO.out _) ?_
  rintro e V6 ⟨rfl, hn4⟩
  clear y2 z2 CO
  replace r1 := r1.on hn4
  replace r2 := r2.on hn4
  replace r3 := r3.on hn4
  replace r4 := r4.on hn4
  replace rp := rp.on hn4
  replace hc := chain hc hn4
  clear hn4
  have yp := rp.cell
  have zp := rp.lt
  go_wp2_with fail
  refine Calls.mono (CC.out _ hc _ r1) ?_
  rintro e V7 ⟨rfl, hn4⟩
  clear yp zp CC
  replace r1 := r1.on hn4
  replace r2 := r2.on hn4
  replace r3 := r3.on hn4
  replace r4 := r4.on hn4
  replace rp := rp.on hn4
  replace hc := chain hc hn4
  clear hn4
  have y2 := r2.cell
  have z2 := r2.lt
  go_wp2_with fail
  refine Calls.mono (CH.out _ hc) ?_
  rintro e V8 ⟨rfl, hn4⟩
  clear y2 z2 CH
  replace r1 := r1.on hn4
  replace r2 := r2.on hn4
  replace r3 := r3.on hn4
  replace r4 := r4.on hn4
  replace rp := rp.on hn4
  replace hc := chain hc hn4
  clear hn4
  have yp := rp.cell
  have zp := rp.lt
  go_wp2_with fail
  refine Calls.mono (CF.out _ (HH.out.on hc).rz) ?_
  rintro e V9 ⟨rfl, hn4⟩
  clear yp zp CF
  replace r1 := r1.on hn4
  replace r2 := r2.on hn4
  replace r3 := r3.on hn4
  replace r4 := r4.on hn4
  replace rp := rp.on hn4
  replace hc := chain hc hn4
  clear hn4
  go_upto_region 12 with fail
  refine wp_region_held_drew (S := fun W' => (∀ j, W'.cell? ⟨a4, j, none⟩ = (#[.int .i64 1, .int .i64 N, .int .u32 1, .int .i64 1, .int .i64 0, .int .i64 0, .int .i64 0, .string tagB] : Array Value)[j]?)) (by kernel_rfl) r4.cell (fun hHeld => ?_)
  have hT := (HH.out.on hc).drew
  replace r2 := r2.drew
  replace r3 := r3.drew
  replace r4 := r4.drew
  replace rp := rp.drew
  replace hc := hc.drew
  clear r1
  generalize V9.drew = X at *
  refine' wpAnyH_take (i := 0) (oi := _) (v := _) ?_ (by kernel_rfl) (by kernel_rfl) (by kernel_rfl) ?_ (Or.inl ⟨?_, ?_⟩) (by assumption) ?_
  rotate_left 2
  · (simp only [List.getElem?_toArray, List.getElem?_cons_succ, List.getElem?_cons_zero]; rfl)
  · first | exact fun _ _ _ h => h | exact fun _ _ _ h => nomatch h.1
  · rfl
  · (intro W hSW; (try dsimp only at hSW); go_split_ands; first | (go_simp; done) | (go_simp; with_reducible rfl))
  try simp only [Act.put, List.setIfInBounds_toArray, List.set_cons_zero, List.set_cons_succ]
  refine' wpAnyH_take (i := 1) (oi := _) (v := _) ?_ (by kernel_rfl) (by kernel_rfl) (by kernel_rfl) ?_ (Or.inl ⟨?_, ?_⟩) (by assumption) ?_
  rotate_left 2
  · (simp only [List.getElem?_toArray, List.getElem?_cons_succ, List.getElem?_cons_zero]; rfl)
  · first | exact fun _ _ _ h => h | exact fun _ _ _ h => nomatch h.1
  · rfl
  · (intro W hSW; (try dsimp only at hSW); go_split_ands; first | (go_simp; done) | (go_simp; with_reducible rfl))
  try simp only [Act.put, List.setIfInBounds_toArray, List.set_cons_zero, List.set_cons_succ]
  refine' wpAnyH_take (i := 2) (oi := _) (v := _) ?_ (by kernel_rfl) (by kernel_rfl) (by kernel_rfl) ?_ (Or.inl ⟨?_, ?_⟩) (by assumption) ?_
  rotate_left 2
  · (simp only [List.getElem?_toArray, List.getElem?_cons_succ, List.getElem?_cons_zero]; rfl)
  · first | exact fun _ _ _ h => h | exact fun _ _ _ h => nomatch h.1
  · rfl
  · (intro W hSW; (try dsimp only at hSW); go_split_ands; first | (go_simp; done) | (go_simp; with_reducible rfl))
  try simp only [Act.put, List.setIfInBounds_toArray, List.set_cons_zero, List.set_cons_succ]
  refine' wpAnyH_take (i := 3) (oi := _) (v := _) ?_ (by kernel_rfl) (by kernel_rfl) (by kernel_rfl) ?_ (Or.inl ⟨?_, ?_⟩) (by assumption) ?_
  rotate_left 2
  · (simp only [List.getElem?_toArray, List.getElem?_cons_succ, List.getElem?_cons_zero]; rfl)
  · first | exact fun _ _ _ h => h | exact fun _ _ _ h => nomatch h.1
  · rfl
  · (intro W hSW; (try dsimp only at hSW); go_split_ands; first | (go_simp; done) | (go_simp; with_reducible rfl))
  try simp only [Act.put, List.setIfInBounds_toArray, List.set_cons_zero, List.set_cons_succ]
  refine' wpAnyH_take (i := 5) (oi := _) (v := _) ?_ (by kernel_rfl) (by kernel_rfl) (by kernel_rfl) ?_ (Or.inl ⟨?_, ?_⟩) (by assumption) ?_
  rotate_left 2
  · (simp only [List.getElem?_toArray, List.getElem?_cons_succ, List.getElem?_cons_zero]; rfl)
  · first | exact fun _ _ _ h => h | exact fun _ _ _ h => nomatch h.1
  · rfl
  · (intro W hSW; (try dsimp only at hSW); go_split_ands; first | (go_simp; done) | (go_simp; with_reducible rfl))
  try simp only [Act.put, List.setIfInBounds_toArray, List.set_cons_zero, List.set_cons_succ]
  clear hHeld
  refine wpAnyH_ready (rs := [4, 6]) (by kernel_rfl) (by simp) ?_
  refine' AllReadyH.cons (o := _) (by simp only [List.getElem?_toArray, List.getElem?_cons_succ, List.getElem?_cons_zero]; rfl) (fun K hK => ?_) (AllReadyH.cons (o := _) (by simp only [List.getElem?_toArray, List.getElem?_cons_succ, List.getElem?_cons_zero]; rfl) (fun K hK => ?_) AllReadyH.nil)
  · have yp := rp.cell
    have zp := rp.lt
    go_simp
    clear yp zp
    refine hK.out _ _ r4.cell (fun hHeld => ?_)
    clear hK K hHeld
    refine wpAnyH_ready (rs := [6]) (by kernel_rfl) (by simp) ?_
    refine' AllReadyH.cons (o := _) ?_ (fun K hK => ?_) AllReadyH.nil
    rotate_left 1
    · (simp only [List.getElem?_toArray, List.getElem?_cons_succ, List.getElem?_cons_zero]; rfl)
    go_simp
    have hn7 := below_alloc X (.cells #[.int .i64 1, .int .i64 N, .int .u32 1, .int .i64 1, .int .i64 0, .int .i64 0, .int .i64 0, .string tagB] ResT)
    have hsrc := row_src X #[.int .i64 1, .int .i64 N, .int .u32 1, .int .i64 1, .int .i64 0, .int .i64 0, .int .i64 0, .string tagB] ResT
    have ha5 := r4.lt
    replace hT := hT.on hn7
    replace r2 := r2.on hn7
    replace r3 := r3.on hn7
    replace r4 := r4.on hn7
    replace rp := rp.on hn7
    replace hc := chain hc hn7
    clear hn7
    generalize X.alloc _ = X1 at *
    generalize X.heap.size = a5 at *
    refine hK.out _ _ r4.cell (fun hHeld => ?_)
    clear hK K hHeld
    have hown := hT.own.2
    rw [resL_len, HN.out] at hown
    refine wpAnyH_ready (rs := [7]) (by kernel_rfl) (by simp) ?_
    refine' AllReadyH.cons (o := _) (by simp only [List.getElem?_toArray, List.getElem?_cons_succ, List.getElem?_cons_zero]; rfl) (fun K hK => ?_) AllReadyH.nil
    refine step_append_lies _ rfl (.tmp 64) (.tmp 66) 72 rfl 0 ResT i0 (.agg #[.int .i64 0, .int .i64 0, .int .u32 0, .int .i64 0, .int .i64 0, .int .i64 0, .int .i64 0, .string ⟨#[]⟩]) 8 72 Tryz.underlying72 HI0.out HZ0.out HZ1.out HZ2.out rfl (by decide) (.slice a0 N c0) N (resL rs).flatten rfl hown ⟨a5, 0, none⟩ 1 1 [.int .i64 1, .int .i64 N, .int .u32 1, .int .i64 1, .int .i64 0, .int .i64 0, .int .i64 0, .string tagB] rfl rfl hsrc (by intro u hu; simp at hu; rcases hu with rfl | rfl | rfl | rfl | rfl | rfl | rfl | rfl <;> rfl) (by omega) (by unfold maxLen; omega) (by omega) (Nat.zero_le _) _ rfl ?_
    intro g1 cap X2 hown2 hgrow hat hlt2
    have hL := HH.out
    have hvlt : ∀ k, (Value.slice a0 N c0).ownBlock = some k → k < w.heap.size := fun k hk => hL.fin k (hL.fv k hk)
    have hszw := hc.size
    have h2l := r2.lt
    have h3l := r3.lt
    have h4l := r4.lt
    have hg1r : F g1 ∨ (w.heap.size + 2 < g1 ∧ a4 < g1) := hat.imp (fun h1 => hL.fv g1 h1) (fun h1 => by omega)
    have rz := row_grown hT.rz hgrow (hT.own.ne_row hT.rz (by decide))
    have mp : IMap X2 m (mapT sl) := hT.mp.via (hgrow.block m hT.mp.lt (fun e => hT.mp.ne_own hT.own e.symm))
    replace rp := row_grown rp hgrow (hT.own.ne_row rp (by decide))
    replace r2 := row_grown r2 hgrow (fun e => by have := hvlt _ e; omega)
    replace r3 := row_grown r3 hgrow (fun e => by have := hvlt _ e; omega)
    replace r4 := row_grown r4 hgrow (fun e => by have := hvlt _ e; omega)
    have hbut := (but_of F hc).grown hgrow (fun k hk _ => hL.fv k hk)
    have own2 : OwnsC ResT 8 0 X2 (.slice (some ⟨g1, 0, none⟩) (N + 1) cap) (resL (rs ++ [⟨1, 0, 0⟩])) := by
      rw [resL_snoc]
      have e8 : [.int .i64 1, .int .i64 N, .int .u32 1, .int .i64 1, .int .i64 0, .int .i64 0, .int .i64 0, .string tagB] = resC rs.length ⟨1, 0, 0⟩ := by rw [HN.out]; rfl
      rw [← e8]
      exact hT.own.more rfl (by rw [resL_len, HN.out]) hown2
    clear hown hown2 hT hsrc hgrow hc hat
    refine hK.out _ _ r4.cell (fun hHeld => ?_)
    clear hK K
    refine' wpAnyH_take (i := 8) (oi := _) (v := _) ?_ (by kernel_rfl) (by kernel_rfl) (by kernel_rfl) ?_ (Or.inl ⟨?_, ?_⟩) (by assumption) ?_
    rotate_left 2
    · (simp only [List.getElem?_toArray, List.getElem?_cons_succ, List.getElem?_cons_zero]; rfl)
    · first | exact fun _ _ _ h => h | exact fun _ _ _ h => nomatch h.1
    · rfl
    · (intro W hSW; (try dsimp only at hSW); go_split_ands; first | (go_simp; done) | (go_simp; with_reducible rfl))
    try simp only [Act.put, List.setIfInBounds_toArray, List.set_cons_zero, List.set_cons_succ]
    refine' wpAnyH_take (i := 9) (oi := _) (v := _) ?_ (by kernel_rfl) (by kernel_rfl) (by kernel_rfl) ?_ (Or.inl ⟨?_, ?_⟩) (by assumption) ?_
    rotate_left 2
    · (simp only [List.getElem?_toArray, List.getElem?_cons_succ, List.getElem?_cons_zero]; rfl)
    · first | exact fun _ _ _ h => h | exact fun _ _ _ h => nomatch h.1
    · rfl
    · (intro W hSW; (try dsimp only at hSW); go_split_ands; first | (go_simp; done) | (go_simp; with_reducible rfl))
    try simp only [Act.put, List.setIfInBounds_toArray, List.set_cons_zero, List.set_cons_succ]
    clear hHeld
    have yp := rp.cell
    have zp := rp.lt
    have up := rp.free
    refine wpAnyH_ready (rs := [10]) (by kernel_rfl) (by simp) ?_
    refine' AllReadyH.cons (o := _) ?_ (fun K hK => ?_) AllReadyH.nil
    rotate_left 1
    · (simp only [List.getElem?_toArray, List.getElem?_cons_succ, List.getElem?_cons_zero]; rfl)
    go_simp
    clear yp zp up
    have hpw := hL.fin p hL.fp
    have p2 : p ≠ w.heap.size + 1 := by omega
    have p3 : p ≠ w.heap.size + 2 := by omega
    have p4 : p ≠ a4 := by omega
    have pz : p ≠ z := row_ne_row rp rz (by decide)
    have pm : m ≠ p := mp.ne_row rp
    replace r2 := r2.other p2 2 (.slice (some ⟨g1, 0, none⟩) (N + 1) cap)
    replace r3 := r3.other p3 2 (.slice (some ⟨g1, 0, none⟩) (N + 1) cap)
    replace r4 := r4.other p4 2 (.slice (some ⟨g1, 0, none⟩) (N + 1) cap)
    replace rz := rz.other pz 2 (.slice (some ⟨g1, 0, none⟩) (N + 1) cap)
    replace mp := mp.other pm 2 (.slice (some ⟨g1, 0, none⟩) (N + 1) cap)
    replace own2 := own2.other (own2.ne_row rp (by decide)) 2 (.slice (some ⟨g1, 0, none⟩) (N + 1) cap)
    replace hbut := hbut.setCell (fun _ => hL.fp) 2 (.slice (some ⟨g1, 0, none⟩) (N + 1) cap)
    replace rp := rp.set 2 (.slice (some ⟨g1, 0, none⟩) (N + 1) cap)
    simp only [List.setIfInBounds_toArray, List.set_cons_zero, List.set_cons_succ] at rp
    refine hK.out _ _ r4.cell (fun hHeld => ?_)
    clear hK K hHeld r4
    replace hlt2 : g1 < (X2.setCell ⟨p, 2, none⟩ (.slice (some ⟨g1, 0, none⟩) (N + 1) cap)).heap.size := by simpa using hlt2
    generalize World.setCell _ _ _ = X3 at *
    refine wpAnyH_done (by kernel_rfl) ?_ _
    go_upto_region 13 with fail
    have hT3 : TabIs X3 (fun b => F b ∨ b = g1) p sl (rs ++ [⟨1, 0, 0⟩]) z m cs (.slice (some ⟨g1, 0, none⟩) (N + 1) cap) := {
      row := rp
      rz := rz
      sa := hL.sa
      mp := mp
      own := own2
      fp := .inl hL.fp
      fz := .inl hL.fz
      fm := .inl hL.fm
      fv := fun b hb => .inr (Option.some.inj hb).symm
      fin := fun b hb => by
        rcases hb with hb | hb
        · exact Nat.lt_of_lt_of_le (hL.fin b hb) hbut.size
        · rw [hb]; exact hlt2
      most := by rw [List.length_append, List.length_singleton, HN.out]; omega
      gens := hL.gens
      owns := fun i s k hi hk => by
        have := hL.owns i s k hi hk
        rw [List.length_append]
        omega }
    refine wp_region_held_drew (S := fun W' => (∀ j, W'.cell? ⟨p, j, none⟩ = (#[ptr z, .map (some m), .slice (some ⟨g1, 0, none⟩) (N + 1) cap] : Array Value)[j]?) ∧ (∀ j, W'.cell? ⟨w.heap.size + 1, j, none⟩ = (#[.int .i64 N, .int .u32 1] : Array Value)[j]?)) (by kernel_rfl) ⟨rp.cell, r2.cell⟩ (fun hHeld => ?_)
    replace hT3 := hT3.drew
    replace r2 := r2.drew
    replace r3 := r3.drew
    replace hbut := hbut.drew
    clear rp rz mp own2 hlt2
    generalize X3.drew = Y at *
    refine' wpAnyH_take (i := 0) (oi := _) (v := _) ?_ (by kernel_rfl) (by kernel_rfl) (by kernel_rfl) ?_ (Or.inl ⟨?_, ?_⟩) (by assumption) ?_
    rotate_left 2
    · (simp only [List.getElem?_toArray, List.getElem?_cons_succ, List.getElem?_cons_zero]; rfl)
    · first | exact fun _ _ _ h => h | exact fun _ _ _ h => nomatch h.1
    · rfl
    · (intro W hSW; (try dsimp only at hSW); go_split_ands; first | (go_simp; done) | (go_simp; with_reducible rfl))
    try simp only [Act.put, List.setIfInBounds_toArray, List.set_cons_zero, List.set_cons_succ]
    refine' wpAnyH_take (i := 1) (oi := _) (v := _) ?_ (by kernel_rfl) (by kernel_rfl) (by kernel_rfl) ?_ (Or.inl ⟨?_, ?_⟩) (by assumption) ?_
    rotate_left 2
    · (simp only [List.getElem?_toArray, List.getElem?_cons_succ, List.getElem?_cons_zero]; rfl)
    · first | exact fun _ _ _ h => h | exact fun _ _ _ h => nomatch h.1
    · rfl
    · (intro W hSW; (try dsimp only at hSW); go_split_ands; first | (go_simp; done) | (go_simp; with_reducible rfl))
    try simp only [Act.put, List.setIfInBounds_toArray, List.set_cons_zero, List.set_cons_succ]
    refine' wpAnyH_take (i := 2) (oi := _) (v := _) ?_ (by kernel_rfl) (by kernel_rfl) (by kernel_rfl) ?_ (Or.inl ⟨?_, ?_⟩) (by assumption) ?_
    rotate_left 2
    · (simp only [List.getElem?_toArray, List.getElem?_cons_succ, List.getElem?_cons_zero]; rfl)
    · first | exact fun _ _ _ h => h | exact fun _ _ _ h => nomatch h.1
    · rfl
    · (intro W hSW; (try dsimp only at hSW); go_split_ands; first | (go_simp; done) | (go_simp; with_reducible rfl))
    try simp only [Act.put, List.setIfInBounds_toArray, List.set_cons_zero, List.set_cons_succ]
    refine' wpAnyH_take (i := 3) (oi := _) (v := _) ?_ (by kernel_rfl) (by kernel_rfl) (by kernel_rfl) ?_ (Or.inl ⟨?_, ?_⟩) (by assumption) ?_
    rotate_left 2
    · (simp only [List.getElem?_toArray, List.getElem?_cons_succ, List.getElem?_cons_zero]; rfl)
    · first | exact fun _ _ _ h => h | exact fun _ _ _ h => nomatch h.1
    · rfl
    · (intro W hSW; (try dsimp only at hSW); go_split_ands; first | (go_simp; done) | (go_simp; with_reducible rfl))
    try simp only [Act.put, List.setIfInBounds_toArray, List.set_cons_zero, List.set_cons_succ]
    refine' wpAnyH_take (i := 4) (oi := _) (v := _) ?_ (by kernel_rfl) (by kernel_rfl) (by kernel_rfl) ?_ (Or.inl ⟨?_, ?_⟩) (by assumption) ?_
    rotate_left 2
    · (simp only [List.getElem?_toArray, List.getElem?_cons_succ, List.getElem?_cons_zero]; rfl)
    · first | exact fun _ _ _ h => h | exact fun _ _ _ h => nomatch h.1
    · rfl
    · (intro W hSW; (try dsimp only at hSW); go_split_ands; first | (go_simp; done) | (go_simp; with_reducible rfl))
    try simp only [Act.put, List.setIfInBounds_toArray, List.set_cons_zero, List.set_cons_succ]
    refine' wpAnyH_take (i := 5) (oi := _) (v := _) ?_ (by kernel_rfl) (by kernel_rfl) (by kernel_rfl) ?_ (Or.inl ⟨?_, ?_⟩) (by assumption) ?_
    rotate_left 2
    · (simp only [List.getElem?_toArray, List.getElem?_cons_succ, List.getElem?_cons_zero]; rfl)
    · first | exact fun _ _ _ h => h | exact fun _ _ _ h => nomatch h.1
    · rfl
    · (intro W hSW; (try dsimp only at hSW); go_split_ands; first | (go_simp; done) | (go_simp; with_reducible rfl))
    try simp only [Act.put, List.setIfInBounds_toArray, List.set_cons_zero, List.set_cons_succ]
    refine' wpAnyH_take (i := 6) (oi := _) (v := _) ?_ (by kernel_rfl) (by kernel_rfl) (by kernel_rfl) ?_ (Or.inl ⟨?_, ?_⟩) (by assumption) ?_
    rotate_left 2
    · (simp only [List.getElem?_toArray, List.getElem?_cons_succ, List.getElem?_cons_zero]; rfl)
    · first | exact fun _ _ _ h => h | exact fun _ _ _ h => nomatch h.1
    · rfl
    · (intro W hSW; (try dsimp only at hSW); go_split_ands; first | (go_simp; done) | (go_simp; with_reducible rfl))
    try simp only [Act.put, List.setIfInBounds_toArray, List.set_cons_zero, List.set_cons_succ]
    clear hHeld
    refine wpAnyH_ready (rs := [7]) (by kernel_rfl) (by simp) ?_
    refine' AllReadyH.cons (o := _) ?_ (fun K hK => ?_) AllReadyH.nil
    rotate_left 1
    · (simp only [List.getElem?_toArray, List.getElem?_cons_succ, List.getElem?_cons_zero]; rfl)
    go_simp
    refine (tadd_c hT3 (by rw [List.length_append, List.length_singleton, HN.out]) HF.out).mono ?_
    rintro e V ⟨s, hs1, hs2, rfl, ⟨cs', hT4⟩, hb4⟩
    have hne1 : ¬ (F (w.heap.size + 1) ∨ w.heap.size + 1 = g1) := fun h => by
      rcases h with h | h
      · have := hL.fin _ h; omega
      · rcases hg1r with h1 | h1
        · have := hL.fin _ h1; omega
        · omega
    have hne2 : ¬ (F (w.heap.size + 2) ∨ w.heap.size + 2 = g1) := fun h => by
      rcases h with h | h
      · have := hL.fin _ h; omega
      · rcases hg1r with h1 | h1
        · have := hL.fin _ h1; omega
        · omega
    replace r2 := hb4.row r2 hne1
    replace r3 := hb4.row r3 hne2
    replace hbut := hbut.trans hb4 (fun i hi h => by
      rcases h with h | h
      · exact h
      · rcases hg1r with h1 | h1
        · rw [h]; exact h1
        · omega)
    have HS := Lib.hid (show sl[firstF sl]? = some s ∧ isFree s = true from ⟨hs1, hs2⟩)
    clear hT3 hb4 hs1 hs2 hne1
    go_simp
    refine hK.out _ _ ⟨hT4.row.cell, r2.cell⟩ (fun hHeld => ?_)
    clear hK K
    refine' wpAnyH_take (i := 8) (oi := _) (v := _) ?_ (by kernel_rfl) (by kernel_rfl) (by kernel_rfl) ?_ (Or.inl ⟨?_, ?_⟩) (by assumption) ?_
    rotate_left 2
    · (simp only [List.getElem?_toArray, List.getElem?_cons_succ, List.getElem?_cons_zero]; rfl)
    · first | exact fun _ _ _ h => h | exact fun _ _ _ h => nomatch h.1
    · rfl
    · (intro W hSW; (try dsimp only at hSW); go_split_ands; first | (go_simp; done) | (go_simp; with_reducible rfl))
    try simp only [Act.put, List.setIfInBounds_toArray, List.set_cons_zero, List.set_cons_succ]
    refine' wpAnyH_take (i := 9) (oi := _) (v := _) ?_ (by kernel_rfl) (by kernel_rfl) (by kernel_rfl) ?_ (Or.inl ⟨?_, ?_⟩) (by assumption) ?_
    rotate_left 2
    · (simp only [List.getElem?_toArray, List.getElem?_cons_succ, List.getElem?_cons_zero]; rfl)
    · first | exact fun _ _ _ h => h | exact fun _ _ _ h => nomatch h.1
    · rfl
    · (intro W hSW; (try dsimp only at hSW); go_split_ands; first | (go_simp; done) | (go_simp; with_reducible rfl))
    try simp only [Act.put, List.setIfInBounds_toArray, List.set_cons_zero, List.set_cons_succ]
    clear hHeld
    have y3 := r3.cell
    have f3 := r3.free
    have z3 := r3.lt
    refine wpAnyH_ready (rs := [10]) (by kernel_rfl) (by simp) ?_
    refine' AllReadyH.cons (o := _) ?_ (fun K hK => ?_) AllReadyH.nil
    rotate_left 1
    · (simp only [List.getElem?_toArray, List.getElem?_cons_succ, List.getElem?_cons_zero]; rfl)
    go_simp
    have hnf : ∀ b, (F b ∨ b = g1) → b ≠ w.heap.size + 2 := fun b hb e => hne2 (by rw [← e]; exact hb)
    have hT5 := hT4.via (W' := ((V.setCell ⟨w.heap.size + 2, 0, none⟩ (.int .i64 1)).setCell ⟨w.heap.size + 2, 1, none⟩ (.int .i64 (firstF sl : Nat))).setCell ⟨w.heap.size + 2, 2, none⟩ (.int .u32 s.gen)) (by simp [World.setCell]) (fun b hb => by
      rw [Below.heap_setCell _ _ _ b (fun e => hnf b hb e), Below.heap_setCell _ _ _ b (fun e => hnf b hb e), Below.heap_setCell _ _ _ b (fun e => hnf b hb e)])
    have n21 : w.heap.size + 2 ≠ w.heap.size + 1 := by omega
    replace r2 := ((r2.other n21 0 (.int .i64 1)).other n21 1 (.int .i64 (firstF sl : Nat))).other n21 2 (.int .u32 s.gen)
    have hnb : w.heap.size + 2 < w.heap.size → F (w.heap.size + 2) := fun h => absurd h (by omega)
    replace hbut := ((hbut.setCell hnb 0 (.int .i64 1)).setCell hnb 1 (.int .i64 (firstF sl : Nat))).setCell hnb 2 (.int .u32 s.gen)
    replace r3 := ((r3.set 0 (.int .i64 1)).set 1 (.int .i64 (firstF sl : Nat))).set 2 (.int .u32 s.gen)
    simp only [List.setIfInBounds_toArray, List.set_cons_zero, List.set_cons_succ] at r3
    refine hK.out _ _ ⟨hT5.row.cell, r2.cell⟩ (fun hHeld => ?_)
    clear hK K y3 f3 z3 hT4
    generalize World.setCell _ _ _ = Z at *
    refine' wpAnyH_take (i := 11) (oi := _) (v := _) ?_ (by kernel_rfl) (by kernel_rfl) (by kernel_rfl) ?_ (Or.inl ⟨?_, ?_⟩) (by assumption) ?_
    rotate_left 2
    · (simp only [List.getElem?_toArray, List.getElem?_cons_succ, List.getElem?_cons_zero]; rfl)
    · first | exact fun _ _ _ h => h | exact fun _ _ _ h => nomatch h.1
    · rfl
    · (intro W hSW; (try dsimp only at hSW); go_split_ands; first | (go_simp; done) | (go_simp; with_reducible rfl))
    try simp only [Act.put, List.setIfInBounds_toArray, List.set_cons_zero, List.set_cons_succ]
    clear hHeld
    refine wpAnyH_done (by kernel_rfl) ?_ _
    have y3 := r3.cell
    have z3 := r3.lt
    go_wp2_with fail
    refine bodyPost_ret (v := .tuple #[dV 1 (firstF sl : Nat) s.gen, .int .i64 0]) (by simp [results, Tryz.results29, go_sem, y3, z3]) rfl ⟨s, HS.out.1, HS.out.2, rfl, ⟨z, m, cs', _, hT5.wide ?_ ?_⟩, hbut⟩
    · rintro b (hb | hb)
      · exact .inl hb
      · rcases hg1r with h1 | h1
        · rw [hb]; exact .inl h1
        · refine .inr ⟨by omega, ?_⟩
          exact hT5.fin b (.inr hb)
    · rintro b (hb | hb)
      · exact Nat.lt_of_lt_of_le (hL.fin b hb) hbut.size
      · exact hb.2
  · go_simp
    have hn7 := below_alloc X (.cells #[.int .i64 1, .int .i64 N, .int .u32 1, .int .i64 1, .int .i64 0, .int .i64 0, .int .i64 0, .string tagB] ResT)
    have hsrc := row_src X #[.int .i64 1, .int .i64 N, .int .u32 1, .int .i64 1, .int .i64 0, .int .i64 0, .int .i64 0, .string tagB] ResT
    have ha5 := r4.lt
    replace hT := hT.on hn7
    replace r2 := r2.on hn7
    replace r3 := r3.on hn7
    replace r4 := r4.on hn7
    replace rp := rp.on hn7
    replace hc := chain hc hn7
    clear hn7
    generalize X.alloc _ = X1 at *
    generalize X.heap.size = a5 at *
    refine hK.out _ _ r4.cell (fun hHeld => ?_)
    clear hK K hHeld
    have yp := rp.cell
    have zp := rp.lt
    refine wpAnyH_ready (rs := [4]) (by kernel_rfl) (by simp) ?_
    refine' AllReadyH.cons (o := _) ?_ (fun K hK => ?_) AllReadyH.nil
    rotate_left 1
    · (simp only [List.getElem?_toArray, List.getElem?_cons_succ, List.getElem?_cons_zero]; rfl)
    go_simp
    clear yp zp
    refine hK.out _ _ r4.cell (fun hHeld => ?_)
    clear hK K hHeld
    have hown := hT.own.2
    rw [resL_len, HN.out] at hown
    refine wpAnyH_ready (rs := [7]) (by kernel_rfl) (by simp) ?_
    refine' AllReadyH.cons (o := _) (by simp only [List.getElem?_toArray, List.getElem?_cons_succ, List.getElem?_cons_zero]; rfl) (fun K hK => ?_) AllReadyH.nil
    refine step_append_lies _ rfl (.tmp 64) (.tmp 66) 72 rfl 0 ResT i0 (.agg #[.int .i64 0, .int .i64 0, .int .u32 0, .int .i64 0, .int .i64 0, .int .i64 0, .int .i64 0, .string ⟨#[]⟩]) 8 72 Tryz.underlying72 HI0.out HZ0.out HZ1.out HZ2.out rfl (by decide) (.slice a0 N c0) N (resL rs).flatten rfl hown ⟨a5, 0, none⟩ 1 1 [.int .i64 1, .int .i64 N, .int .u32 1, .int .i64 1, .int .i64 0, .int .i64 0, .int .i64 0, .string tagB] rfl rfl hsrc (by intro u hu; simp at hu; rcases hu with rfl | rfl | rfl | rfl | rfl | rfl | rfl | rfl <;> rfl) (by omega) (by unfold maxLen; omega) (by omega) (Nat.zero_le _) _ rfl ?_
    intro g1 cap X2 hown2 hgrow hat hlt2
    have hL := HH.out
    have hvlt : ∀ k, (Value.slice a0 N c0).ownBlock = some k → k < w.heap.size := fun k hk => hL.fin k (hL.fv k hk)
    have hszw := hc.size
    have h2l := r2.lt
    have h3l := r3.lt
    have h4l := r4.lt
    have hg1r : F g1 ∨ (w.heap.size + 2 < g1 ∧ a4 < g1) := hat.imp (fun h1 => hL.fv g1 h1) (fun h1 => by omega)
    have rz := row_grown hT.rz hgrow (hT.own.ne_row hT.rz (by decide))
    have mp : IMap X2 m (mapT sl) := hT.mp.via (hgrow.block m hT.mp.lt (fun e => hT.mp.ne_own hT.own e.symm))
    replace rp := row_grown rp hgrow (hT.own.ne_row rp (by decide))
    replace r2 := row_grown r2 hgrow (fun e => by have := hvlt _ e; omega)
    replace r3 := row_grown r3 hgrow (fun e => by have := hvlt _ e; omega)
    replace r4 := row_grown r4 hgrow (fun e => by have := hvlt _ e; omega)
    have hbut := (but_of F hc).grown hgrow (fun k hk _ => hL.fv k hk)
    have own2 : OwnsC ResT 8 0 X2 (.slice (some ⟨g1, 0, none⟩) (N + 1) cap) (resL (rs ++ [⟨1, 0, 0⟩])) := by
      rw [resL_snoc]
      have e8 : [.int .i64 1, .int .i64 N, .int .u32 1, .int .i64 1, .int .i64 0, .int .i64 0, .int .i64 0, .string tagB] = resC rs.length ⟨1, 0, 0⟩ := by rw [HN.out]; rfl
      rw [← e8]
      exact hT.own.more rfl (by rw [resL_len, HN.out]) hown2
    clear hown hown2 hT hsrc hgrow hc hat
    refine hK.out _ _ r4.cell (fun hHeld => ?_)
    clear hK K
    refine' wpAnyH_take (i := 8) (oi := _) (v := _) ?_ (by kernel_rfl) (by kernel_rfl) (by kernel_rfl) ?_ (Or.inl ⟨?_, ?_⟩) (by assumption) ?_
    rotate_left 2
    · (simp only [List.getElem?_toArray, List.getElem?_cons_succ, List.getElem?_cons_zero]; rfl)
    · first | exact fun _ _ _ h => h | exact fun _ _ _ h => nomatch h.1
    · rfl
    · (intro W hSW; (try dsimp only at hSW); go_split_ands; first | (go_simp; done) | (go_simp; with_reducible rfl))
    try simp only [Act.put, List.setIfInBounds_toArray, List.set_cons_zero, List.set_cons_succ]
    refine' wpAnyH_take (i := 9) (oi := _) (v := _) ?_ (by kernel_rfl) (by kernel_rfl) (by kernel_rfl) ?_ (Or.inl ⟨?_, ?_⟩) (by assumption) ?_
    rotate_left 2
    · (simp only [List.getElem?_toArray, List.getElem?_cons_succ, List.getElem?_cons_zero]; rfl)
    · first | exact fun _ _ _ h => h | exact fun _ _ _ h => nomatch h.1
    · rfl
    · (intro W hSW; (try dsimp only at hSW); go_split_ands; first | (go_simp; done) | (go_simp; with_reducible rfl))
    try simp only [Act.put, List.setIfInBounds_toArray, List.set_cons_zero, List.set_cons_succ]
    clear hHeld
    have yp := rp.cell
    have zp := rp.lt
    have up := rp.free
    refine wpAnyH_ready (rs := [10]) (by kernel_rfl) (by simp) ?_
    refine' AllReadyH.cons (o := _) ?_ (fun K hK => ?_) AllReadyH.nil
    rotate_left 1
    · (simp only [List.getElem?_toArray, List.getElem?_cons_succ, List.getElem?_cons_zero]; rfl)
    go_simp
    clear yp zp up
    have hpw := hL.fin p hL.fp
    have p2 : p ≠ w.heap.size + 1 := by omega
    have p3 : p ≠ w.heap.size + 2 := by omega
    have p4 : p ≠ a4 := by omega
    have pz : p ≠ z := row_ne_row rp rz (by decide)
    have pm : m ≠ p := mp.ne_row rp
    replace r2 := r2.other p2 2 (.slice (some ⟨g1, 0, none⟩) (N + 1) cap)
    replace r3 := r3.other p3 2 (.slice (some ⟨g1, 0, none⟩) (N + 1) cap)
    replace r4 := r4.other p4 2 (.slice (some ⟨g1, 0, none⟩) (N + 1) cap)
    replace rz := rz.other pz 2 (.slice (some ⟨g1, 0, none⟩) (N + 1) cap)
    replace mp := mp.other pm 2 (.slice (some ⟨g1, 0, none⟩) (N + 1) cap)
    replace own2 := own2.other (own2.ne_row rp (by decide)) 2 (.slice (some ⟨g1, 0, none⟩) (N + 1) cap)
    replace hbut := hbut.setCell (fun _ => hL.fp) 2 (.slice (some ⟨g1, 0, none⟩) (N + 1) cap)
    replace rp := rp.set 2 (.slice (some ⟨g1, 0, none⟩) (N + 1) cap)
    simp only [List.setIfInBounds_toArray, List.set_cons_zero, List.set_cons_succ] at rp
    refine hK.out _ _ r4.cell (fun hHeld => ?_)
    clear hK K hHeld r4
    replace hlt2 : g1 < (X2.setCell ⟨p, 2, none⟩ (.slice (some ⟨g1, 0, none⟩) (N + 1) cap)).heap.size := by simpa using hlt2
    generalize World.setCell _ _ _ = X3 at *
    refine wpAnyH_done (by kernel_rfl) ?_ _
    go_upto_region 13 with fail
    have hT3 : TabIs X3 (fun b => F b ∨ b = g1) p sl (rs ++ [⟨1, 0, 0⟩]) z m cs (.slice (some ⟨g1, 0, none⟩) (N + 1) cap) := {
      row := rp
      rz := rz
      sa := hL.sa
      mp := mp
      own := own2
      fp := .inl hL.fp
      fz := .inl hL.fz
      fm := .inl hL.fm
      fv := fun b hb => .inr (Option.some.inj hb).symm
      fin := fun b hb => by
        rcases hb with hb | hb
        · exact Nat.lt_of_lt_of_le (hL.fin b hb) hbut.size
        · rw [hb]; exact hlt2
      most := by rw [List.length_append, List.length_singleton, HN.out]; omega
      gens := hL.gens
      owns := fun i s k hi hk => by
        have := hL.owns i s k hi hk
        rw [List.length_append]
        omega }
    refine wp_region_held_drew (S := fun W' => (∀ j, W'.cell? ⟨p, j, none⟩ = (#[ptr z, .map (some m), .slice (some ⟨g1, 0, none⟩) (N + 1) cap] : Array Value)[j]?) ∧ (∀ j, W'.cell? ⟨w.heap.size + 1, j, none⟩ = (#[.int .i64 N, .int .u32 1] : Array Value)[j]?)) (by kernel_rfl) ⟨rp.cell, r2.cell⟩ (fun hHeld => ?_)
    replace hT3 := hT3.drew
    replace r2 := r2.drew
    replace r3 := r3.drew
    replace hbut := hbut.drew
    clear rp rz mp own2 hlt2
    generalize X3.drew = Y at *
    refine' wpAnyH_take (i := 0) (oi := _) (v := _) ?_ (by kernel_rfl) (by kernel_rfl) (by kernel_rfl) ?_ (Or.inl ⟨?_, ?_⟩) (by assumption) ?_
    rotate_left 2
    · (simp only [List.getElem?_toArray, List.getElem?_cons_succ, List.getElem?_cons_zero]; rfl)
    · first | exact fun _ _ _ h => h | exact fun _ _ _ h => nomatch h.1
    · rfl
    · (intro W hSW; (try dsimp only at hSW); go_split_ands; first | (go_simp; done) | (go_simp; with_reducible rfl))
    try simp only [Act.put, List.setIfInBounds_toArray, List.set_cons_zero, List.set_cons_succ]
    refine' wpAnyH_take (i := 1) (oi := _) (v := _) ?_ (by kernel_rfl) (by kernel_rfl) (by kernel_rfl) ?_ (Or.inl ⟨?_, ?_⟩) (by assumption) ?_
    rotate_left 2
    · (simp only [List.getElem?_toArray, List.getElem?_cons_succ, List.getElem?_cons_zero]; rfl)
    · first | exact fun _ _ _ h => h | exact fun _ _ _ h => nomatch h.1
    · rfl
    · (intro W hSW; (try dsimp only at hSW); go_split_ands; first | (go_simp; done) | (go_simp; with_reducible rfl))
    try simp only [Act.put, List.setIfInBounds_toArray, List.set_cons_zero, List.set_cons_succ]
    refine' wpAnyH_take (i := 2) (oi := _) (v := _) ?_ (by kernel_rfl) (by kernel_rfl) (by kernel_rfl) ?_ (Or.inl ⟨?_, ?_⟩) (by assumption) ?_
    rotate_left 2
    · (simp only [List.getElem?_toArray, List.getElem?_cons_succ, List.getElem?_cons_zero]; rfl)
    · first | exact fun _ _ _ h => h | exact fun _ _ _ h => nomatch h.1
    · rfl
    · (intro W hSW; (try dsimp only at hSW); go_split_ands; first | (go_simp; done) | (go_simp; with_reducible rfl))
    try simp only [Act.put, List.setIfInBounds_toArray, List.set_cons_zero, List.set_cons_succ]
    refine' wpAnyH_take (i := 3) (oi := _) (v := _) ?_ (by kernel_rfl) (by kernel_rfl) (by kernel_rfl) ?_ (Or.inl ⟨?_, ?_⟩) (by assumption) ?_
    rotate_left 2
    · (simp only [List.getElem?_toArray, List.getElem?_cons_succ, List.getElem?_cons_zero]; rfl)
    · first | exact fun _ _ _ h => h | exact fun _ _ _ h => nomatch h.1
    · rfl
    · (intro W hSW; (try dsimp only at hSW); go_split_ands; first | (go_simp; done) | (go_simp; with_reducible rfl))
    try simp only [Act.put, List.setIfInBounds_toArray, List.set_cons_zero, List.set_cons_succ]
    refine' wpAnyH_take (i := 4) (oi := _) (v := _) ?_ (by kernel_rfl) (by kernel_rfl) (by kernel_rfl) ?_ (Or.inl ⟨?_, ?_⟩) (by assumption) ?_
    rotate_left 2
    · (simp only [List.getElem?_toArray, List.getElem?_cons_succ, List.getElem?_cons_zero]; rfl)
    · first | exact fun _ _ _ h => h | exact fun _ _ _ h => nomatch h.1
    · rfl
    · (intro W hSW; (try dsimp only at hSW); go_split_ands; first | (go_simp; done) | (go_simp; with_reducible rfl))
    try simp only [Act.put, List.setIfInBounds_toArray, List.set_cons_zero, List.set_cons_succ]
    refine' wpAnyH_take (i := 5) (oi := _) (v := _) ?_ (by kernel_rfl) (by kernel_rfl) (by kernel_rfl) ?_ (Or.inl ⟨?_, ?_⟩) (by assumption) ?_
    rotate_left 2
    · (simp only [List.getElem?_toArray, List.getElem?_cons_succ, List.getElem?_cons_zero]; rfl)
    · first | exact fun _ _ _ h => h | exact fun _ _ _ h => nomatch h.1
    · rfl
    · (intro W hSW; (try dsimp only at hSW); go_split_ands; first | (go_simp; done) | (go_simp; with_reducible rfl))
    try simp only [Act.put, List.setIfInBounds_toArray, List.set_cons_zero, List.set_cons_succ]
    refine' wpAnyH_take (i := 6) (oi := _) (v := _) ?_ (by kernel_rfl) (by kernel_rfl) (by kernel_rfl) ?_ (Or.inl ⟨?_, ?_⟩) (by assumption) ?_
    rotate_left 2
    · (simp only [List.getElem?_toArray, List.getElem?_cons_succ, List.getElem?_cons_zero]; rfl)
    · first | exact fun _ _ _ h => h | exact fun _ _ _ h => nomatch h.1
    · rfl
    · (intro W hSW; (try dsimp only at hSW); go_split_ands; first | (go_simp; done) | (go_simp; with_reducible rfl))
    try simp only [Act.put, List.setIfInBounds_toArray, List.set_cons_zero, List.set_cons_succ]
    clear hHeld
    refine wpAnyH_ready (rs := [7]) (by kernel_rfl) (by simp) ?_
    refine' AllReadyH.cons (o := _) ?_ (fun K hK => ?_) AllReadyH.nil
    rotate_left 1
    · (simp only [List.getElem?_toArray, List.getElem?_cons_succ, List.getElem?_cons_zero]; rfl)
    go_simp
    refine (tadd_c hT3 (by rw [List.length_append, List.length_singleton, HN.out]) HF.out).mono ?_
    rintro e V ⟨s, hs1, hs2, rfl, ⟨cs', hT4⟩, hb4⟩
    have hne1 : ¬ (F (w.heap.size + 1) ∨ w.heap.size + 1 = g1) := fun h => by
      rcases h with h | h
      · have := hL.fin _ h; omega
      · rcases hg1r with h1 | h1
        · have := hL.fin _ h1; omega
        · omega
    have hne2 : ¬ (F (w.heap.size + 2) ∨ w.heap.size + 2 = g1) := fun h => by
      rcases h with h | h
      · have := hL.fin _ h; omega
      · rcases hg1r with h1 | h1
        · have := hL.fin _ h1; omega
        · omega
    replace r2 := hb4.row r2 hne1
    replace r3 := hb4.row r3 hne2
    replace hbut := hbut.trans hb4 (fun i hi h => by
      rcases h with h | h
      · exact h
      · rcases hg1r with h1 | h1
        · rw [h]; exact h1
        · omega)
    have HS := Lib.hid (show sl[firstF sl]? = some s ∧ isFree s = true from ⟨hs1, hs2⟩)
    clear hT3 hb4 hs1 hs2 hne1
    go_simp
    refine hK.out _ _ ⟨hT4.row.cell, r2.cell⟩ (fun hHeld => ?_)
    clear hK K
    refine' wpAnyH_take (i := 8) (oi := _) (v := _) ?_ (by kernel_rfl) (by kernel_rfl) (by kernel_rfl) ?_ (Or.inl ⟨?_, ?_⟩) (by assumption) ?_
    rotate_left 2
    · (simp only [List.getElem?_toArray, List.getElem?_cons_succ, List.getElem?_cons_zero]; rfl)
    · first | exact fun _ _ _ h => h | exact fun _ _ _ h => nomatch h.1
    · rfl
    · (intro W hSW; (try dsimp only at hSW); go_split_ands; first | (go_simp; done) | (go_simp; with_reducible rfl))
    try simp only [Act.put, List.setIfInBounds_toArray, List.set_cons_zero, List.set_cons_succ]
    refine' wpAnyH_take (i := 9) (oi := _) (v := _) ?_ (by kernel_rfl) (by kernel_rfl) (by kernel_rfl) ?_ (Or.inl ⟨?_, ?_⟩) (by assumption) ?_
    rotate_left 2
    · (simp only [List.getElem?_toArray, List.getElem?_cons_succ, List.getElem?_cons_zero]; rfl)
    · first | exact fun _ _ _ h => h | exact fun _ _ _ h => nomatch h.1
    · rfl
    · (intro W hSW; (try dsimp only at hSW); go_split_ands; first | (go_simp; done) | (go_simp; with_reducible rfl))
    try simp only [Act.put, List.setIfInBounds_toArray, List.set_cons_zero, List.set_cons_succ]
    clear hHeld
    have y3 := r3.cell
    have f3 := r3.free
    have z3 := r3.lt
    refine wpAnyH_ready (rs := [10]) (by kernel_rfl) (by simp) ?_
    refine' AllReadyH.cons (o := _) ?_ (fun K hK => ?_) AllReadyH.nil
    rotate_left 1
    · (simp only [List.getElem?_toArray, List.getElem?_cons_succ, List.getElem?_cons_zero]; rfl)
    go_simp
    have hnf : ∀ b, (F b ∨ b = g1) → b ≠ w.heap.size + 2 := fun b hb e => hne2 (by rw [← e]; exact hb)
    have hT5 := hT4.via (W' := ((V.setCell ⟨w.heap.size + 2, 0, none⟩ (.int .i64 1)).setCell ⟨w.heap.size + 2, 1, none⟩ (.int .i64 (firstF sl : Nat))).setCell ⟨w.heap.size + 2, 2, none⟩ (.int .u32 s.gen)) (by simp [World.setCell]) (fun b hb => by
      rw [Below.heap_setCell _ _ _ b (fun e => hnf b hb e), Below.heap_setCell _ _ _ b (fun e => hnf b hb e), Below.heap_setCell _ _ _ b (fun e => hnf b hb e)])
    have n21 : w.heap.size + 2 ≠ w.heap.size + 1 := by omega
    replace r2 := ((r2.other n21 0 (.int .i64 1)).other n21 1 (.int .i64 (firstF sl : Nat))).other n21 2 (.int .u32 s.gen)
    have hnb : w.heap.size + 2 < w.heap.size → F (w.heap.size + 2) := fun h => absurd h (by omega)
    replace hbut := ((hbut.setCell hnb 0 (.int .i64 1)).setCell hnb 1 (.int .i64 (firstF sl : Nat))).setCell hnb 2 (.int .u32 s.gen)
    replace r3 := ((r3.set 0 (.int .i64 1)).set 1 (.int .i64 (firstF sl : Nat))).set 2 (.int .u32 s.gen)
    simp only [List.setIfInBounds_toArray, List.set_cons_zero, List.set_cons_succ] at r3
    refine hK.out _ _ ⟨hT5.row.cell, r2.cell⟩ (fun hHeld => ?_)
    clear hK K y3 f3 z3 hT4
    generalize World.setCell _ _ _ = Z at *
    refine' wpAnyH_take (i := 11) (oi := _) (v := _) ?_ (by kernel_rfl) (by kernel_rfl) (by kernel_rfl) ?_ (Or.inl ⟨?_, ?_⟩) (by assumption) ?_
    rotate_left 2
    · (simp only [List.getElem?_toArray, List.getElem?_cons_succ, List.getElem?_cons_zero]; rfl)
    · first | exact fun _ _ _ h => h | exact fun _ _ _ h => nomatch h.1
    · rfl
    · (intro W hSW; (try dsimp only at hSW); go_split_ands; first | (go_simp; done) | (go_simp; with_reducible rfl))
    try simp only [Act.put, List.setIfInBounds_toArray, List.set_cons_zero, List.set_cons_succ]
    clear hHeld
    refine wpAnyH_done (by kernel_rfl) ?_ _
    have y3 := r3.cell
    have z3 := r3.lt
    go_wp2_with fail
    refine bodyPost_ret (v := .tuple #[dV 1 (firstF sl : Nat) s.gen, .int .i64 0]) (by simp [results, Tryz.results29, go_sem, y3, z3]) rfl ⟨s, HS.out.1, HS.out.2, rfl, ⟨z, m, cs', _, hT5.wide ?_ ?_⟩, hbut⟩
    · rintro b (hb | hb)
      · exact .inl hb
      · rcases hg1r with h1 | h1
        · rw [hb]; exact .inl h1
        · refine .inr ⟨by omega, ?_⟩
          exact hT5.fin b (.inr hb)
    · rintro b (hb | hb)
      · exact Nat.lt_of_lt_of_le (hL.fin b hb) hbut.size
      · exact hb.2
end Go.Proofs.YtkjpdciccablpaaGreatDoor
