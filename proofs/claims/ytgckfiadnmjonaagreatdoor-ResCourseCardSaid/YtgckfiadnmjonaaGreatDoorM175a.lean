/- The statements' helpers tag and start: their contracts. -/
import Derived.Test.YtgckfiadnmjonaaGreatDoorL5a
import Derived.Deep.DeepCutAuto
import Derived.Test.YtgckfiadnmjonaaGreatDoorM170a
import Derived.Deep.CutBlock
namespace Go.Proofs.YtgckfiadnmjonaaGreatDoor
open Go.RowKit
set_option linter.unusedVariables false
set_option linter.unusedSimpArgs false
set_option maxHeartbeats 16000000
set_option maxRecDepth 20000
def tagS (n : Int) : ByteArray := if n % 6 = 0 then ⟨#[97]⟩ else if n % 6 = 1 then ⟨#[109, 97, 105, 110]⟩ else if n % 6 = 2 then ⟨#[120, 32, 121]⟩ else if n % 6 = 3 then ⟨#[34, 92]⟩ else if n % 6 = 4 then ⟨#[195, 169, 228, 184, 173]⟩ else ⟨#[45]⟩
theorem tagS_ok (n : Int) : tagOk (tagS n).data.toList = true := by
  unfold tagS
  repeat' split
  all_goals decide
theorem tagS_size (n : Int) : (tagS n).size ≤ 5 := by
  unfold tagS
  repeat' split
  all_goals decide
theorem tag_c (n : Int) (h0 : 0 ≤ n) (h1 : n ≤ 255) (w : World) : Ret 52 #[.int .u8 n] w (.string (tagS n)) := by
  have hm : n % 6 = 0 ∨ n % 6 = 1 ∨ n % 6 = 2 ∨ n % 6 = 3 ∨ n % 6 = 4 ∨ n % 6 = 5 := by omega
  have ht : n.tmod 6 = n % 6 := Int.tmod_eq_emod_of_nonneg h0
  unfold tagS
  rcases hm with h | h | h | h | h | h <;> rw [h] at ht ⊢
  all_goals
    go_enter Tryz.func52, Tryz.ntmps52
    go_wp2_with fail
    go_returns
    exact ⟨rfl, by go_grown⟩
def sK (kind : Int) : Int := 1 + kind % 3
def sI (id : Int) : Int := id % 64
def sG (gen : Int) : Int := max gen 1
theorem start_ok (k i g name : Int) (h : dOk 64 k i g = true) : rErr k i g 1 0 0 0 (tagS name) = 0 := by
  unfold rErr tagErr
  rw [pOk_1 h, tagS_ok]
  rfl
theorem oeq_O (k i g : Int) : ∀ W, (binOp .eql 24 (dV k i g) (dV k i g)).run Tryz.prog W = .ok (.bool true) W := by
  intro W
  go_simp
theorem start_c (kind id name gen : Int) (k0 : 0 ≤ kind) (k1 : kind ≤ 255) (i0 : 0 ≤ id) (i1 : id ≤ 255) (n0 : 0 ≤ name) (n1 : name ≤ 255) (g0 : 0 ≤ gen) (g1 : gen ≤ 4294967295) (w : World) :
    Ret 24 #[.int .u8 kind, .int .u8 id, .int .u8 name, .int .u32 gen] w (.tuple #[rV (sK kind) (sI id) (sG gen) 1 0 0 0 (tagS name), .bool true]) := by
  have e1 : kind.tmod 3 = kind % 3 := Int.tmod_eq_emod_of_nonneg k0
  have e2 : id.tmod 64 = id % 64 := Int.tmod_eq_emod_of_nonneg i0
  have hd : dOk 64 (1 + kind % 3) (id % 64) (max gen 1) = true := by
    rw [dOk_iff]; omega
  have c1 := fun w => tag_c name n0 n1 w
  have hsz := tagS_size name
  have c2 := fun w => new_c (1 + kind % 3) (id % 64) (max gen 1) (tagS name) w (by omega) (by omega) (by omega)
  rw [show newV (1 + kind % 3) (id % 64) (max gen 1) (tagS name) = .tuple #[rV (1 + kind % 3) (id % 64) (max gen 1) 1 0 0 0 (tagS name), .int .i64 0] by unfold newV; rw [if_pos (start_ok _ _ _ name hd)]] at c2
  have C1 := Lib.hid c1
  have C2 := Lib.hid c2
  clear c1 c2
  have he := oeq_O (1 + kind % 3) (id % 64) (max gen 1)
  have hc := Below.refl w.heap.size w
  unfold sK sI sG
  have es := str_beq_same (tagS name)
  go_enter Tryz.func24, Tryz.ntmps24
  go_upto_region 1 with fail
  have r8 := Row.new (W := w) (cs := #[.int .i64 0, .int .i64 0, .int .u32 0, .int .i64 0, .int .i64 0, .int .i64 0, .int .i64 0, .string ⟨#[]⟩]) (t := 26)
  have hn := below_alloc w (.cells #[.int .i64 0, .int .i64 0, .int .u32 0, .int .i64 0, .int .i64 0, .int .i64 0, .int .i64 0, .string ⟨#[]⟩] 26)
  have wr8 : w.heap.size ≤ w.heap.size := hc.size
  replace hc := chain hc hn
  clear hn
  generalize w.alloc (.cells #[.int .i64 0, .int .i64 0, .int .u32 0, .int .i64 0, .int .i64 0, .int .i64 0, .int .i64 0, .string ⟨#[]⟩] 26) = V1 at r8 hc ⊢
  have z8 := r8.lt
  have zw : w.heap.size < V1.heap.size := r8.lt
  have yr8 := r8.cell
  have zr8 := r8.lt
  go_upto_region 2 with fail
  clear yr8 zr8
  have r10 := Row.new (W := V1) (cs := #[.int .i64 (1 + kind % 3), .int .i64 (id % 64), .int .u32 (max gen 1)]) (t := 24)
  have hn := below_alloc V1 (.cells #[.int .i64 (1 + kind % 3), .int .i64 (id % 64), .int .u32 (max gen 1)] 24)
  have nr8_r10 : w.heap.size ≠ V1.heap.size := Nat.ne_of_lt r8.lt
  have wr10 : w.heap.size ≤ V1.heap.size := hc.size
  replace r8 := r8.on hn
  replace hc := chain hc hn
  clear hn
  generalize V1.alloc (.cells #[.int .i64 (1 + kind % 3), .int .i64 (id % 64), .int .u32 (max gen 1)] 24) = V2 at r8 r10 hc ⊢
  generalize V1.heap.size = b10 at *
  clear e1 e2 hd
  generalize q1 : 1 + kind % 3 = kk at *
  generalize q2 : id % 64 = ii at *
  generalize q3 : max gen 1 = gg at *
  generalize q4 : tagS name = tt at *
  go_cut [11, 12] (fun v u wx => ∃ b, v = .pointer (some ⟨b, 0, none⟩) ∧ u = .int .i64 0 ∧ Row wx w.heap.size #[.int .i64 0, .int .i64 0, .int .u32 0, .int .i64 0, .int .i64 0, .int .i64 0, .int .i64 0, .string ⟨#[]⟩] 26 ∧ Row wx b10 #[.int .i64 kk, .int .i64 ii, .int .u32 gg] 24 ∧ Row wx b (rC kk ii gg 1 0 0 0 tt) 26 ∧ Below w.heap.size w wx ∧ w.heap.size ≠ b)
  case first =>
    refine wp_region_held_drew (S := fun W' => (∀ j, W'.cell? ⟨b10, j, none⟩ = #[.int .i64 kk, .int .i64 ii, .int .u32 gg][j]?)) (by kernel_rfl) r10.cell (fun hHeld => ?_)
    replace r8 := r8.drew
    replace r10 := r10.drew
    replace hc := hc.drew
    generalize V2.drew = V3 at *
    refine' wpAnyH_take (i := 0) (oi := _) (v := _) ?_ (by kernel_rfl) (by kernel_rfl) (by kernel_rfl) ?_ (Or.inl ⟨?_, ?_⟩) (by assumption) ?_
    rotate_left 2
    · (simp only [List.getElem?_toArray, List.getElem?_cons_succ, List.getElem?_cons_zero]; rfl)
    · first | exact fun _ _ _ h => h | exact fun _ _ _ h => nomatch h.1
    · rfl
    · (intro W hSW; (try dsimp only at hSW); go_split_ands; first | (go_simp; done) | (go_simp; with_reducible rfl))
    try simp only [Act.put, List.setIfInBounds_toArray, List.set_cons_zero, List.set_cons_succ]
    refine' wpAnyH_take (i := 1) (oi := _) (v := _) ?_ (by kernel_rfl) (by kernel_rfl) (by kernel_rfl) ?_ (Or.inl ⟨?_, ?_⟩) (by assumption) ?_
    rotate_left 2
    · (simp only [List.getElem?_toArray, List.getElem?_cons_succ, List.getElem?_cons_zero]; rfl)
    · first | exact fun _ _ _ h => h | exact fun _ _ _ h => nomatch h.1
    · rfl
    · (intro W hSW; (try dsimp only at hSW); go_split_ands; first | (go_simp; done) | (go_simp; with_reducible rfl))
    try simp only [Act.put, List.setIfInBounds_toArray, List.set_cons_zero, List.set_cons_succ]
    clear hHeld
    refine wpAnyH_ready (rs := [2, 7]) (by kernel_rfl) (by simp) ?_
    refine' AllReadyH.cons (o := _) (by simp only [List.getElem?_toArray, List.getElem?_cons_succ, List.getElem?_cons_zero]; rfl) (fun K hK => ?_) (AllReadyH.cons (o := _) (by simp only [List.getElem?_toArray, List.getElem?_cons_succ, List.getElem?_cons_zero]; rfl) (fun K hK => ?_) AllReadyH.nil)
    · go_simp
      refine Calls.mono (C1.out _) ?_
      rintro e V4 ⟨rfl, hn⟩
      replace r8 := r8.on hn
      replace r10 := r10.on hn
      replace hc := chain hc hn
      clear hn
      go_simp
      refine hK.out _ _ r10.cell (fun hHeld => ?_)
      clear hK K
      clear hHeld
      refine wpAnyH_ready (rs := [3, 7]) (by kernel_rfl) (by simp) ?_
      refine' AllReadyH.cons (o := _) (by simp only [List.getElem?_toArray, List.getElem?_cons_succ, List.getElem?_cons_zero]; rfl) (fun K hK => ?_) (AllReadyH.cons (o := _) (by simp only [List.getElem?_toArray, List.getElem?_cons_succ, List.getElem?_cons_zero]; rfl) (fun K hK => ?_) AllReadyH.nil)
      · go_simp
        refine Calls.mono (C2.out _) ?_
        rintro e V5 ⟨rfl, hn⟩
        replace r8 := r8.on hn
        replace r10 := r10.on hn
        replace hc := chain hc hn
        clear hn
        go_simp
        refine hK.out _ _ r10.cell (fun hHeld => ?_)
        clear hK K
        refine' wpAnyH_take (i := 4) (oi := _) (v := _) ?_ (by kernel_rfl) (by kernel_rfl) (by kernel_rfl) ?_ (Or.inl ⟨?_, ?_⟩) (by assumption) ?_
        rotate_left 2
        · (simp only [List.getElem?_toArray, List.getElem?_cons_succ, List.getElem?_cons_zero]; rfl)
        · first | exact fun _ _ _ h => h | exact fun _ _ _ h => nomatch h.1
        · rfl
        · (intro W hSW; (try dsimp only at hSW); go_split_ands; first | (go_simp; done) | (go_simp; with_reducible rfl))
        try simp only [Act.put, List.setIfInBounds_toArray, List.set_cons_zero, List.set_cons_succ]
        refine' wpAnyH_take (i := 5) (oi := _) (v := _) ?_ (by kernel_rfl) (by kernel_rfl) (by kernel_rfl) ?_ (Or.inl ⟨?_, ?_⟩) (by assumption) ?_
        rotate_left 2
        · (simp only [List.getElem?_toArray, List.getElem?_cons_succ, List.getElem?_cons_zero]; rfl)
        · first | exact fun _ _ _ h => h | exact fun _ _ _ h => nomatch h.1
        · rfl
        · (intro W hSW; (try dsimp only at hSW); go_split_ands; first | (go_simp; done) | (go_simp; with_reducible rfl))
        try simp only [Act.put, List.setIfInBounds_toArray, List.set_cons_zero, List.set_cons_succ]
        refine' wpAnyH_take (i := 6) (oi := _) (v := _) ?_ (by kernel_rfl) (by kernel_rfl) (by kernel_rfl) ?_ (Or.inl ⟨?_, ?_⟩) (by assumption) ?_
        rotate_left 2
        · (simp only [List.getElem?_toArray, List.getElem?_cons_succ, List.getElem?_cons_zero]; rfl)
        · first | exact fun _ _ _ h => h | exact fun _ _ _ h => nomatch h.1
        · rfl
        · (intro W hSW; (try dsimp only at hSW); go_split_ands; first | (go_simp; done) | (go_simp; with_reducible rfl))
        try simp only [Act.put, List.setIfInBounds_toArray, List.set_cons_zero, List.set_cons_succ]
        clear hHeld
        refine wpAnyH_ready (rs := [7]) (by kernel_rfl) (by simp) ?_
        refine' AllReadyH.cons (o := _) ?_ (fun K hK => ?_) AllReadyH.nil
        rotate_left 1
        · (simp only [List.getElem?_toArray, List.getElem?_cons_succ, List.getElem?_cons_zero]; rfl)
        go_simp
        have r11 := Row.new (W := V5) (cs := #[.int .i64 0, .int .i64 0, .int .u32 0, .int .i64 0, .int .i64 0, .int .i64 0, .int .i64 0, .string ⟨#[]⟩]) (t := 26)
        have hn := below_alloc V5 (.cells #[.int .i64 0, .int .i64 0, .int .u32 0, .int .i64 0, .int .i64 0, .int .i64 0, .int .i64 0, .string ⟨#[]⟩] 26)
        have nr8_r11 : w.heap.size ≠ V5.heap.size := Nat.ne_of_lt r8.lt
        have nr10_r11 : b10 ≠ V5.heap.size := Nat.ne_of_lt r10.lt
        have wr11 : w.heap.size ≤ V5.heap.size := hc.size
        replace r8 := r8.on hn
        replace r10 := r10.on hn
        replace hc := chain hc hn
        clear hn
        generalize V5.alloc (.cells #[.int .i64 0, .int .i64 0, .int .u32 0, .int .i64 0, .int .i64 0, .int .i64 0, .int .i64 0, .string ⟨#[]⟩] 26) = V6 at r8 r10 r11 hc ⊢
        generalize V5.heap.size = b11 at *
        refine hK.out _ _ r10.cell (fun hHeld => ?_)
        clear hK K
        clear hHeld
        have yr11 := r11.cell
        have zr11 := r11.lt
        have ur11 := r11.free
        refine wpAnyH_ready (rs := [8]) (by kernel_rfl) (by simp) ?_
        refine' AllReadyH.cons (o := _) ?_ (fun K hK => ?_) AllReadyH.nil
        rotate_left 1
        · (simp only [List.getElem?_toArray, List.getElem?_cons_succ, List.getElem?_cons_zero]; rfl)
        go_simp
        clear yr11 zr11 ur11
        replace r8 := ((((((((r8.other nr8_r11.symm 0 (.int .i64 kk)).other nr8_r11.symm 1 (.int .i64 ii)).other nr8_r11.symm 2 (.int .u32 gg)).other nr8_r11.symm 3 (.int .i64 1)).other nr8_r11.symm 4 (.int .i64 0)).other nr8_r11.symm 5 (.int .i64 0)).other nr8_r11.symm 6 (.int .i64 0)).other nr8_r11.symm 7 (.string tt))
        replace r10 := ((((((((r10.other nr10_r11.symm 0 (.int .i64 kk)).other nr10_r11.symm 1 (.int .i64 ii)).other nr10_r11.symm 2 (.int .u32 gg)).other nr10_r11.symm 3 (.int .i64 1)).other nr10_r11.symm 4 (.int .i64 0)).other nr10_r11.symm 5 (.int .i64 0)).other nr10_r11.symm 6 (.int .i64 0)).other nr10_r11.symm 7 (.string tt))
        replace r11 := ((((((((r11.set 0 (.int .i64 kk)).set 1 (.int .i64 ii)).set 2 (.int .u32 gg)).set 3 (.int .i64 1)).set 4 (.int .i64 0)).set 5 (.int .i64 0)).set 6 (.int .i64 0)).set 7 (.string tt))
        simp only [List.setIfInBounds_toArray, List.set_cons_zero, List.set_cons_succ] at r11
        replace hc := ((((((((hc.setCell (p := ⟨b11, 0, none⟩) wr11 (.int .i64 kk)).setCell (p := ⟨b11, 1, none⟩) wr11 (.int .i64 ii)).setCell (p := ⟨b11, 2, none⟩) wr11 (.int .u32 gg)).setCell (p := ⟨b11, 3, none⟩) wr11 (.int .i64 1)).setCell (p := ⟨b11, 4, none⟩) wr11 (.int .i64 0)).setCell (p := ⟨b11, 5, none⟩) wr11 (.int .i64 0)).setCell (p := ⟨b11, 6, none⟩) wr11 (.int .i64 0)).setCell (p := ⟨b11, 7, none⟩) wr11 (.string tt))
        generalize hW : World.setCell _ _ _ = V7 at *
        clear hW
        refine hK.out _ _ r10.cell (fun hHeld => ?_)
        clear hK K
        refine' wpAnyH_take (i := 9) (oi := _) (v := _) ?_ (by kernel_rfl) (by kernel_rfl) (by kernel_rfl) ?_ (Or.inl ⟨?_, ?_⟩) (by assumption) ?_
        rotate_left 2
        · (simp only [List.getElem?_toArray, List.getElem?_cons_succ, List.getElem?_cons_zero]; rfl)
        · first | exact fun _ _ _ h => h | exact fun _ _ _ h => nomatch h.1
        · rfl
        · (intro W hSW; (try dsimp only at hSW); go_split_ands; first | (go_simp; done) | (go_simp; with_reducible rfl))
        try simp only [Act.put, List.setIfInBounds_toArray, List.set_cons_zero, List.set_cons_succ]
        clear hHeld
        refine wpAnyH_done (by kernel_rfl) ?_ _
        go_wp2_with fail
        go_meet
        exact ⟨_, rfl, by first | rfl | simp, r8, r10, r11, hc, nr8_r11⟩
      · go_simp
        have r11 := Row.new (W := V4) (cs := #[.int .i64 0, .int .i64 0, .int .u32 0, .int .i64 0, .int .i64 0, .int .i64 0, .int .i64 0, .string ⟨#[]⟩]) (t := 26)
        have hn := below_alloc V4 (.cells #[.int .i64 0, .int .i64 0, .int .u32 0, .int .i64 0, .int .i64 0, .int .i64 0, .int .i64 0, .string ⟨#[]⟩] 26)
        have nr8_r11 : w.heap.size ≠ V4.heap.size := Nat.ne_of_lt r8.lt
        have nr10_r11 : b10 ≠ V4.heap.size := Nat.ne_of_lt r10.lt
        have wr11 : w.heap.size ≤ V4.heap.size := hc.size
        replace r8 := r8.on hn
        replace r10 := r10.on hn
        replace hc := chain hc hn
        clear hn
        generalize V4.alloc (.cells #[.int .i64 0, .int .i64 0, .int .u32 0, .int .i64 0, .int .i64 0, .int .i64 0, .int .i64 0, .string ⟨#[]⟩] 26) = V5 at r8 r10 r11 hc ⊢
        generalize V4.heap.size = b11 at *
        refine hK.out _ _ r10.cell (fun hHeld => ?_)
        clear hK K
        clear hHeld
        refine wpAnyH_ready (rs := [3]) (by kernel_rfl) (by simp) ?_
        refine' AllReadyH.cons (o := _) ?_ (fun K hK => ?_) AllReadyH.nil
        rotate_left 1
        · (simp only [List.getElem?_toArray, List.getElem?_cons_succ, List.getElem?_cons_zero]; rfl)
        go_simp
        refine Calls.mono (C2.out _) ?_
        rintro e V6 ⟨rfl, hn⟩
        replace r8 := r8.on hn
        replace r10 := r10.on hn
        replace r11 := r11.on hn
        replace hc := chain hc hn
        clear hn
        go_simp
        refine hK.out _ _ r10.cell (fun hHeld => ?_)
        clear hK K
        refine' wpAnyH_take (i := 4) (oi := _) (v := _) ?_ (by kernel_rfl) (by kernel_rfl) (by kernel_rfl) ?_ (Or.inl ⟨?_, ?_⟩) (by assumption) ?_
        rotate_left 2
        · (simp only [List.getElem?_toArray, List.getElem?_cons_succ, List.getElem?_cons_zero]; rfl)
        · first | exact fun _ _ _ h => h | exact fun _ _ _ h => nomatch h.1
        · rfl
        · (intro W hSW; (try dsimp only at hSW); go_split_ands; first | (go_simp; done) | (go_simp; with_reducible rfl))
        try simp only [Act.put, List.setIfInBounds_toArray, List.set_cons_zero, List.set_cons_succ]
        refine' wpAnyH_take (i := 5) (oi := _) (v := _) ?_ (by kernel_rfl) (by kernel_rfl) (by kernel_rfl) ?_ (Or.inl ⟨?_, ?_⟩) (by assumption) ?_
        rotate_left 2
        · (simp only [List.getElem?_toArray, List.getElem?_cons_succ, List.getElem?_cons_zero]; rfl)
        · first | exact fun _ _ _ h => h | exact fun _ _ _ h => nomatch h.1
        · rfl
        · (intro W hSW; (try dsimp only at hSW); go_split_ands; first | (go_simp; done) | (go_simp; with_reducible rfl))
        try simp only [Act.put, List.setIfInBounds_toArray, List.set_cons_zero, List.set_cons_succ]
        refine' wpAnyH_take (i := 6) (oi := _) (v := _) ?_ (by kernel_rfl) (by kernel_rfl) (by kernel_rfl) ?_ (Or.inl ⟨?_, ?_⟩) (by assumption) ?_
        rotate_left 2
        · (simp only [List.getElem?_toArray, List.getElem?_cons_succ, List.getElem?_cons_zero]; rfl)
        · first | exact fun _ _ _ h => h | exact fun _ _ _ h => nomatch h.1
        · rfl
        · (intro W hSW; (try dsimp only at hSW); go_split_ands; first | (go_simp; done) | (go_simp; with_reducible rfl))
        try simp only [Act.put, List.setIfInBounds_toArray, List.set_cons_zero, List.set_cons_succ]
        clear hHeld
        have yr11 := r11.cell
        have zr11 := r11.lt
        have ur11 := r11.free
        refine wpAnyH_ready (rs := [8]) (by kernel_rfl) (by simp) ?_
        refine' AllReadyH.cons (o := _) ?_ (fun K hK => ?_) AllReadyH.nil
        rotate_left 1
        · (simp only [List.getElem?_toArray, List.getElem?_cons_succ, List.getElem?_cons_zero]; rfl)
        go_simp
        clear yr11 zr11 ur11
        replace r8 := ((((((((r8.other nr8_r11.symm 0 (.int .i64 kk)).other nr8_r11.symm 1 (.int .i64 ii)).other nr8_r11.symm 2 (.int .u32 gg)).other nr8_r11.symm 3 (.int .i64 1)).other nr8_r11.symm 4 (.int .i64 0)).other nr8_r11.symm 5 (.int .i64 0)).other nr8_r11.symm 6 (.int .i64 0)).other nr8_r11.symm 7 (.string tt))
        replace r10 := ((((((((r10.other nr10_r11.symm 0 (.int .i64 kk)).other nr10_r11.symm 1 (.int .i64 ii)).other nr10_r11.symm 2 (.int .u32 gg)).other nr10_r11.symm 3 (.int .i64 1)).other nr10_r11.symm 4 (.int .i64 0)).other nr10_r11.symm 5 (.int .i64 0)).other nr10_r11.symm 6 (.int .i64 0)).other nr10_r11.symm 7 (.string tt))
        replace r11 := ((((((((r11.set 0 (.int .i64 kk)).set 1 (.int .i64 ii)).set 2 (.int .u32 gg)).set 3 (.int .i64 1)).set 4 (.int .i64 0)).set 5 (.int .i64 0)).set 6 (.int .i64 0)).set 7 (.string tt))
        simp only [List.setIfInBounds_toArray, List.set_cons_zero, List.set_cons_succ] at r11
        replace hc := ((((((((hc.setCell (p := ⟨b11, 0, none⟩) wr11 (.int .i64 kk)).setCell (p := ⟨b11, 1, none⟩) wr11 (.int .i64 ii)).setCell (p := ⟨b11, 2, none⟩) wr11 (.int .u32 gg)).setCell (p := ⟨b11, 3, none⟩) wr11 (.int .i64 1)).setCell (p := ⟨b11, 4, none⟩) wr11 (.int .i64 0)).setCell (p := ⟨b11, 5, none⟩) wr11 (.int .i64 0)).setCell (p := ⟨b11, 6, none⟩) wr11 (.int .i64 0)).setCell (p := ⟨b11, 7, none⟩) wr11 (.string tt))
        generalize hW : World.setCell _ _ _ = V7 at *
        clear hW
        refine hK.out _ _ r10.cell (fun hHeld => ?_)
        clear hK K
        refine' wpAnyH_take (i := 9) (oi := _) (v := _) ?_ (by kernel_rfl) (by kernel_rfl) (by kernel_rfl) ?_ (Or.inl ⟨?_, ?_⟩) (by assumption) ?_
        rotate_left 2
        · (simp only [List.getElem?_toArray, List.getElem?_cons_succ, List.getElem?_cons_zero]; rfl)
        · first | exact fun _ _ _ h => h | exact fun _ _ _ h => nomatch h.1
        · rfl
        · (intro W hSW; (try dsimp only at hSW); go_split_ands; first | (go_simp; done) | (go_simp; with_reducible rfl))
        try simp only [Act.put, List.setIfInBounds_toArray, List.set_cons_zero, List.set_cons_succ]
        clear hHeld
        refine wpAnyH_done (by kernel_rfl) ?_ _
        go_wp2_with fail
        go_meet
        exact ⟨_, rfl, by first | rfl | simp, r8, r10, r11, hc, nr8_r11⟩
    · go_simp
      have r11 := Row.new (W := V3) (cs := #[.int .i64 0, .int .i64 0, .int .u32 0, .int .i64 0, .int .i64 0, .int .i64 0, .int .i64 0, .string ⟨#[]⟩]) (t := 26)
      have hn := below_alloc V3 (.cells #[.int .i64 0, .int .i64 0, .int .u32 0, .int .i64 0, .int .i64 0, .int .i64 0, .int .i64 0, .string ⟨#[]⟩] 26)
      have nr8_r11 : w.heap.size ≠ V3.heap.size := Nat.ne_of_lt r8.lt
      have nr10_r11 : b10 ≠ V3.heap.size := Nat.ne_of_lt r10.lt
      have wr11 : w.heap.size ≤ V3.heap.size := hc.size
      replace r8 := r8.on hn
      replace r10 := r10.on hn
      replace hc := chain hc hn
      clear hn
      generalize V3.alloc (.cells #[.int .i64 0, .int .i64 0, .int .u32 0, .int .i64 0, .int .i64 0, .int .i64 0, .int .i64 0, .string ⟨#[]⟩] 26) = V4 at r8 r10 r11 hc ⊢
      generalize V3.heap.size = b11 at *
      refine hK.out _ _ r10.cell (fun hHeld => ?_)
      clear hK K
      clear hHeld
      refine wpAnyH_ready (rs := [2]) (by kernel_rfl) (by simp) ?_
      refine' AllReadyH.cons (o := _) ?_ (fun K hK => ?_) AllReadyH.nil
      rotate_left 1
      · (simp only [List.getElem?_toArray, List.getElem?_cons_succ, List.getElem?_cons_zero]; rfl)
      go_simp
      refine Calls.mono (C1.out _) ?_
      rintro e V5 ⟨rfl, hn⟩
      replace r8 := r8.on hn
      replace r10 := r10.on hn
      replace r11 := r11.on hn
      replace hc := chain hc hn
      clear hn
      go_simp
      refine hK.out _ _ r10.cell (fun hHeld => ?_)
      clear hK K
      clear hHeld
      refine wpAnyH_ready (rs := [3]) (by kernel_rfl) (by simp) ?_
      refine' AllReadyH.cons (o := _) ?_ (fun K hK => ?_) AllReadyH.nil
      rotate_left 1
      · (simp only [List.getElem?_toArray, List.getElem?_cons_succ, List.getElem?_cons_zero]; rfl)
      go_simp
      refine Calls.mono (C2.out _) ?_
      rintro e V6 ⟨rfl, hn⟩
      replace r8 := r8.on hn
      replace r10 := r10.on hn
      replace r11 := r11.on hn
      replace hc := chain hc hn
      clear hn
      go_simp
      refine hK.out _ _ r10.cell (fun hHeld => ?_)
      clear hK K
      refine' wpAnyH_take (i := 4) (oi := _) (v := _) ?_ (by kernel_rfl) (by kernel_rfl) (by kernel_rfl) ?_ (Or.inl ⟨?_, ?_⟩) (by assumption) ?_
      rotate_left 2
      · (simp only [List.getElem?_toArray, List.getElem?_cons_succ, List.getElem?_cons_zero]; rfl)
      · first | exact fun _ _ _ h => h | exact fun _ _ _ h => nomatch h.1
      · rfl
      · (intro W hSW; (try dsimp only at hSW); go_split_ands; first | (go_simp; done) | (go_simp; with_reducible rfl))
      try simp only [Act.put, List.setIfInBounds_toArray, List.set_cons_zero, List.set_cons_succ]
      refine' wpAnyH_take (i := 5) (oi := _) (v := _) ?_ (by kernel_rfl) (by kernel_rfl) (by kernel_rfl) ?_ (Or.inl ⟨?_, ?_⟩) (by assumption) ?_
      rotate_left 2
      · (simp only [List.getElem?_toArray, List.getElem?_cons_succ, List.getElem?_cons_zero]; rfl)
      · first | exact fun _ _ _ h => h | exact fun _ _ _ h => nomatch h.1
      · rfl
      · (intro W hSW; (try dsimp only at hSW); go_split_ands; first | (go_simp; done) | (go_simp; with_reducible rfl))
      try simp only [Act.put, List.setIfInBounds_toArray, List.set_cons_zero, List.set_cons_succ]
      refine' wpAnyH_take (i := 6) (oi := _) (v := _) ?_ (by kernel_rfl) (by kernel_rfl) (by kernel_rfl) ?_ (Or.inl ⟨?_, ?_⟩) (by assumption) ?_
      rotate_left 2
      · (simp only [List.getElem?_toArray, List.getElem?_cons_succ, List.getElem?_cons_zero]; rfl)
      · first | exact fun _ _ _ h => h | exact fun _ _ _ h => nomatch h.1
      · rfl
      · (intro W hSW; (try dsimp only at hSW); go_split_ands; first | (go_simp; done) | (go_simp; with_reducible rfl))
      try simp only [Act.put, List.setIfInBounds_toArray, List.set_cons_zero, List.set_cons_succ]
      clear hHeld
      have yr11 := r11.cell
      have zr11 := r11.lt
      have ur11 := r11.free
      refine wpAnyH_ready (rs := [8]) (by kernel_rfl) (by simp) ?_
      refine' AllReadyH.cons (o := _) ?_ (fun K hK => ?_) AllReadyH.nil
      rotate_left 1
      · (simp only [List.getElem?_toArray, List.getElem?_cons_succ, List.getElem?_cons_zero]; rfl)
      go_simp
      clear yr11 zr11 ur11
      replace r8 := ((((((((r8.other nr8_r11.symm 0 (.int .i64 kk)).other nr8_r11.symm 1 (.int .i64 ii)).other nr8_r11.symm 2 (.int .u32 gg)).other nr8_r11.symm 3 (.int .i64 1)).other nr8_r11.symm 4 (.int .i64 0)).other nr8_r11.symm 5 (.int .i64 0)).other nr8_r11.symm 6 (.int .i64 0)).other nr8_r11.symm 7 (.string tt))
      replace r10 := ((((((((r10.other nr10_r11.symm 0 (.int .i64 kk)).other nr10_r11.symm 1 (.int .i64 ii)).other nr10_r11.symm 2 (.int .u32 gg)).other nr10_r11.symm 3 (.int .i64 1)).other nr10_r11.symm 4 (.int .i64 0)).other nr10_r11.symm 5 (.int .i64 0)).other nr10_r11.symm 6 (.int .i64 0)).other nr10_r11.symm 7 (.string tt))
      replace r11 := ((((((((r11.set 0 (.int .i64 kk)).set 1 (.int .i64 ii)).set 2 (.int .u32 gg)).set 3 (.int .i64 1)).set 4 (.int .i64 0)).set 5 (.int .i64 0)).set 6 (.int .i64 0)).set 7 (.string tt))
      simp only [List.setIfInBounds_toArray, List.set_cons_zero, List.set_cons_succ] at r11
      replace hc := ((((((((hc.setCell (p := ⟨b11, 0, none⟩) wr11 (.int .i64 kk)).setCell (p := ⟨b11, 1, none⟩) wr11 (.int .i64 ii)).setCell (p := ⟨b11, 2, none⟩) wr11 (.int .u32 gg)).setCell (p := ⟨b11, 3, none⟩) wr11 (.int .i64 1)).setCell (p := ⟨b11, 4, none⟩) wr11 (.int .i64 0)).setCell (p := ⟨b11, 5, none⟩) wr11 (.int .i64 0)).setCell (p := ⟨b11, 6, none⟩) wr11 (.int .i64 0)).setCell (p := ⟨b11, 7, none⟩) wr11 (.string tt))
      generalize hW : World.setCell _ _ _ = V7 at *
      clear hW
      refine hK.out _ _ r10.cell (fun hHeld => ?_)
      clear hK K
      refine' wpAnyH_take (i := 9) (oi := _) (v := _) ?_ (by kernel_rfl) (by kernel_rfl) (by kernel_rfl) ?_ (Or.inl ⟨?_, ?_⟩) (by assumption) ?_
      rotate_left 2
      · (simp only [List.getElem?_toArray, List.getElem?_cons_succ, List.getElem?_cons_zero]; rfl)
      · first | exact fun _ _ _ h => h | exact fun _ _ _ h => nomatch h.1
      · rfl
      · (intro W hSW; (try dsimp only at hSW); go_split_ands; first | (go_simp; done) | (go_simp; with_reducible rfl))
      try simp only [Act.put, List.setIfInBounds_toArray, List.set_cons_zero, List.set_cons_succ]
      clear hHeld
      refine wpAnyH_done (by kernel_rfl) ?_ _
      go_wp2_with fail
      go_meet
      exact ⟨_, rfl, by first | rfl | simp, r8, r10, r11, hc, nr8_r11⟩
  obtain ⟨b11, rfl, rfl, r8, r10, r11, hc, nr8_r11⟩ := hcut
  have wr8 : w.heap.size ≤ w.heap.size := Nat.le_refl _
  go_upto_region 3 with fail
  refine wp_region_held_drew (S := fun W' => (∀ j, W'.cell? ⟨b10, j, none⟩ = #[.int .i64 kk, .int .i64 ii, .int .u32 gg][j]?) ∧ (∀ j, W'.cell? ⟨b11, j, none⟩ = (rC kk ii gg 1 0 0 0 tt)[j]?)) (by kernel_rfl) ⟨r10.cell, r11.cell⟩ (fun hHeld => ?_)
  replace r8 := r8.drew
  replace r10 := r10.drew
  replace r11 := r11.drew
  replace hc := hc.drew
  generalize wc.drew = V3 at *
  refine' wpAnyH_take (i := 0) (oi := _) (v := _) ?_ (by kernel_rfl) (by kernel_rfl) (by kernel_rfl) ?_ (Or.inl ⟨?_, ?_⟩) (by assumption) ?_
  rotate_left 2
  · (simp only [List.getElem?_toArray, List.getElem?_cons_succ, List.getElem?_cons_zero]; rfl)
  · first | exact fun _ _ _ h => h | exact fun _ _ _ h => nomatch h.1
  · rfl
  · (intro W hSW; (try dsimp only at hSW); go_split_ands; first | (go_simp; done) | (go_simp; with_reducible rfl))
  try simp only [Act.put, List.setIfInBounds_toArray, List.set_cons_zero, List.set_cons_succ]
  refine' wpAnyH_take (i := 1) (oi := _) (v := _) ?_ (by kernel_rfl) (by kernel_rfl) (by kernel_rfl) ?_ (Or.inl ⟨?_, ?_⟩) (by assumption) ?_
  rotate_left 2
  · (simp only [List.getElem?_toArray, List.getElem?_cons_succ, List.getElem?_cons_zero]; rfl)
  · first | exact fun _ _ _ h => h | exact fun _ _ _ h => nomatch h.1
  · rfl
  · (intro W hSW; (try dsimp only at hSW); go_split_ands; first | (go_simp; done) | (go_simp; with_reducible rfl))
  try simp only [Act.put, List.setIfInBounds_toArray, List.set_cons_zero, List.set_cons_succ]
  refine' wpAnyH_take (i := 2) (oi := _) (v := _) ?_ (by kernel_rfl) (by kernel_rfl) (by kernel_rfl) ?_ (Or.inl ⟨?_, ?_⟩) (by assumption) ?_
  rotate_left 2
  · (simp only [List.getElem?_toArray, List.getElem?_cons_succ, List.getElem?_cons_zero]; rfl)
  · first | exact fun _ _ _ h => h | exact fun _ _ _ h => nomatch h.1
  · rfl
  · (intro W hSW; (try dsimp only at hSW); go_split_ands; first | (go_simp; done) | (go_simp; with_reducible rfl))
  try simp only [Act.put, List.setIfInBounds_toArray, List.set_cons_zero, List.set_cons_succ]
  refine' wpAnyH_take (i := 3) (oi := _) (v := _) ?_ (by kernel_rfl) (by kernel_rfl) (by kernel_rfl) ?_ (Or.inl ⟨?_, ?_⟩) (by assumption) ?_
  rotate_left 2
  · (simp only [List.getElem?_toArray, List.getElem?_cons_succ, List.getElem?_cons_zero]; rfl)
  · first | exact fun _ _ _ h => h | exact fun _ _ _ h => nomatch h.1
  · rfl
  · (intro W hSW; (try dsimp only at hSW); go_split_ands; first | (go_simp; done) | (go_simp; with_reducible rfl))
  try simp only [Act.put, List.setIfInBounds_toArray, List.set_cons_zero, List.set_cons_succ]
  refine' wpAnyH_take (i := 4) (oi := _) (v := _) ?_ (by kernel_rfl) (by kernel_rfl) (by kernel_rfl) ?_ (Or.inl ⟨?_, ?_⟩) (by assumption) ?_
  rotate_left 2
  · (simp only [List.getElem?_toArray, List.getElem?_cons_succ, List.getElem?_cons_zero]; rfl)
  · first | exact fun _ _ _ h => h | exact fun _ _ _ h => nomatch h.1
  · rfl
  · (intro W hSW; (try dsimp only at hSW); go_split_ands; first | (go_simp; done) | (go_simp; with_reducible rfl))
  try simp only [Act.put, List.setIfInBounds_toArray, List.set_cons_zero, List.set_cons_succ]
  refine' wpAnyH_take (i := 5) (oi := _) (v := _) ?_ (by kernel_rfl) (by kernel_rfl) (by kernel_rfl) ?_ (Or.inl ⟨?_, ?_⟩) (by assumption) ?_
  rotate_left 2
  · (simp only [List.getElem?_toArray, List.getElem?_cons_succ, List.getElem?_cons_zero]; rfl)
  · first | exact fun _ _ _ h => h | exact fun _ _ _ h => nomatch h.1
  · rfl
  · (intro W hSW; (try dsimp only at hSW); go_split_ands; first | (go_simp; done) | (go_simp; with_reducible rfl))
  try simp only [Act.put, List.setIfInBounds_toArray, List.set_cons_zero, List.set_cons_succ]
  refine' wpAnyH_take (i := 6) (oi := _) (v := _) ?_ (by kernel_rfl) (by kernel_rfl) (by kernel_rfl) ?_ (Or.inl ⟨?_, ?_⟩) (by assumption) ?_
  rotate_left 2
  · (simp only [List.getElem?_toArray, List.getElem?_cons_succ, List.getElem?_cons_zero]; rfl)
  · first | exact fun _ _ _ h => h | exact fun _ _ _ h => nomatch h.1
  · rfl
  · (intro W hSW; (try dsimp only at hSW); go_split_ands; first | (go_simp; done) | (go_simp; with_reducible rfl))
  try simp only [Act.put, List.setIfInBounds_toArray, List.set_cons_zero, List.set_cons_succ]
  refine' wpAnyH_take (i := 7) (oi := _) (v := _) ?_ (by kernel_rfl) (by kernel_rfl) (by kernel_rfl) ?_ (Or.inl ⟨?_, ?_⟩) (by assumption) ?_
  rotate_left 2
  · (simp only [List.getElem?_toArray, List.getElem?_cons_succ, List.getElem?_cons_zero]; rfl)
  · first | exact fun _ _ _ h => h | exact fun _ _ _ h => nomatch h.1
  · rfl
  · (intro W hSW; (try dsimp only at hSW); go_split_ands; first | (go_simp; done) | (go_simp; with_reducible rfl))
  try simp only [Act.put, List.setIfInBounds_toArray, List.set_cons_zero, List.set_cons_succ]
  refine' wpAnyH_take (i := 8) (oi := _) (v := _) ?_ (by kernel_rfl) (by kernel_rfl) (by kernel_rfl) ?_ (Or.inl ⟨?_, ?_⟩) (by assumption) ?_
  rotate_left 2
  · (simp only [List.getElem?_toArray, List.getElem?_cons_succ, List.getElem?_cons_zero]; rfl)
  · first | exact fun _ _ _ h => h | exact fun _ _ _ h => nomatch h.1
  · rfl
  · (intro W hSW; (try dsimp only at hSW); go_split_ands; first | (go_simp; done) | (go_simp; with_reducible rfl))
  try simp only [Act.put, List.setIfInBounds_toArray, List.set_cons_zero, List.set_cons_succ]
  refine' wpAnyH_take (i := 9) (oi := _) (v := _) ?_ (by kernel_rfl) (by kernel_rfl) (by kernel_rfl) ?_ (Or.inl ⟨?_, ?_⟩) (by assumption) ?_
  rotate_left 2
  · (simp only [List.getElem?_toArray, List.getElem?_cons_succ, List.getElem?_cons_zero]; rfl)
  · first | exact fun _ _ _ h => h | exact fun _ _ _ h => nomatch h.1
  · rfl
  · (intro W hSW; (try dsimp only at hSW); go_split_ands; first | (go_simp; done) | (go_simp; with_reducible rfl))
  try simp only [Act.put, List.setIfInBounds_toArray, List.set_cons_zero, List.set_cons_succ]
  refine' wpAnyH_take (i := 10) (oi := _) (v := _) ?_ (by kernel_rfl) (by kernel_rfl) (by kernel_rfl) ?_ (Or.inl ⟨?_, ?_⟩) (by assumption) ?_
  rotate_left 2
  · (simp only [List.getElem?_toArray, List.getElem?_cons_succ, List.getElem?_cons_zero]; rfl)
  · first | exact fun _ _ _ h => h | exact fun _ _ _ h => nomatch h.1
  · rfl
  · (intro W hSW; (try dsimp only at hSW); go_split_ands; first | (go_simp; done) | (go_simp; with_reducible rfl))
  try simp only [Act.put, List.setIfInBounds_toArray, List.set_cons_zero, List.set_cons_succ]
  refine' wpAnyH_take (i := 11) (oi := _) (v := _) ?_ (by kernel_rfl) (by kernel_rfl) (by kernel_rfl) ?_ (Or.inl ⟨?_, ?_⟩) (by assumption) ?_
  rotate_left 2
  · (simp only [List.getElem?_toArray, List.getElem?_cons_succ, List.getElem?_cons_zero]; rfl)
  · first | exact fun _ _ _ h => h | exact fun _ _ _ h => nomatch h.1
  · rfl
  · (intro W hSW; (try dsimp only at hSW); go_split_ands; first | (go_simp; done) | (go_simp; with_reducible rfl))
  try simp only [Act.put, List.setIfInBounds_toArray, List.set_cons_zero, List.set_cons_succ]
  refine' wpAnyH_take (i := 12) (oi := _) (v := _) ?_ (by kernel_rfl) (by kernel_rfl) (by kernel_rfl) ?_ (Or.inl ⟨?_, ?_⟩) (by assumption) ?_
  rotate_left 2
  · (simp only [List.getElem?_toArray, List.getElem?_cons_succ, List.getElem?_cons_zero]; rfl)
  · first | exact fun _ _ _ h => h | exact fun _ _ _ h => nomatch h.1
  · rfl
  · (intro W hSW; (try dsimp only at hSW); go_split_ands; first | (go_simp; done) | (go_simp; with_reducible rfl))
  try simp only [Act.put, List.setIfInBounds_toArray, List.set_cons_zero, List.set_cons_succ]
  clear hHeld
  refine wpAnyH_ready (rs := [13]) (by kernel_rfl) (by simp) ?_
  refine' AllReadyH.cons (o := _) ?_ (fun K hK => ?_) AllReadyH.nil
  rotate_left 1
  · (simp only [List.getElem?_toArray, List.getElem?_cons_succ, List.getElem?_cons_zero]; rfl)
  go_simp
  refine Calls.mono (C1.out _) ?_
  rintro e V4 ⟨rfl, hn⟩
  replace r8 := r8.on hn
  replace r10 := r10.on hn
  replace r11 := r11.on hn
  replace hc := chain hc hn
  clear hn
  go_simp
  refine hK.out _ _ ⟨r10.cell, r11.cell⟩ (fun hHeld => ?_)
  clear hK K
  refine' wpAnyH_take (i := 14) (oi := _) (v := _) ?_ (by kernel_rfl) (by kernel_rfl) (by kernel_rfl) ?_ (Or.inl ⟨?_, ?_⟩) (by assumption) ?_
  rotate_left 2
  · (simp only [List.getElem?_toArray, List.getElem?_cons_succ, List.getElem?_cons_zero]; rfl)
  · first | exact fun _ _ _ h => h | exact fun _ _ _ h => nomatch h.1
  · rfl
  · (intro W hSW; (try dsimp only at hSW); go_split_ands; first | (go_simp; done) | (go_simp; with_reducible rfl))
  try simp only [Act.put, List.setIfInBounds_toArray, List.set_cons_zero, List.set_cons_succ]
  refine' wpAnyH_take (i := 15) (oi := _) (v := _) ?_ (by kernel_rfl) (by kernel_rfl) (by kernel_rfl) ?_ (Or.inl ⟨?_, ?_⟩) (by assumption) ?_
  rotate_left 2
  · (simp only [List.getElem?_toArray, List.getElem?_cons_succ, List.getElem?_cons_zero]; rfl)
  · first | exact fun _ _ _ h => h | exact fun _ _ _ h => nomatch h.1
  · rfl
  · (intro W hSW; (try dsimp only at hSW); go_split_ands; first | (go_simp; done) | (go_simp; with_reducible rfl))
  try simp only [Act.put, List.setIfInBounds_toArray, List.set_cons_zero, List.set_cons_succ]
  refine' wpAnyH_take (i := 16) (oi := _) (v := _) ?_ (by kernel_rfl) (by kernel_rfl) (by kernel_rfl) ?_ (Or.inl ⟨?_, ?_⟩) (by assumption) ?_
  rotate_left 2
  · (simp only [List.getElem?_toArray, List.getElem?_cons_succ, List.getElem?_cons_zero]; rfl)
  · first | exact fun _ _ _ h => h | exact fun _ _ _ h => nomatch h.1
  · rfl
  · (intro W hSW; (try dsimp only at hSW); go_split_ands; first | (go_simp; done) | (go_simp; with_reducible rfl))
  try simp only [Act.put, List.setIfInBounds_toArray, List.set_cons_zero, List.set_cons_succ]
  refine' wpAnyH_take (i := 17) (oi := _) (v := _) ?_ (by kernel_rfl) (by kernel_rfl) (by kernel_rfl) ?_ (Or.inl ⟨?_, ?_⟩) (by assumption) ?_
  rotate_left 2
  · (simp only [List.getElem?_toArray, List.getElem?_cons_succ, List.getElem?_cons_zero]; rfl)
  · first | exact fun _ _ _ h => h | exact fun _ _ _ h => nomatch h.1
  · rfl
  · (intro W hSW; (try dsimp only at hSW); go_split_ands; first | (go_simp; done) | (go_simp; with_reducible rfl))
  try simp only [Act.put, List.setIfInBounds_toArray, List.set_cons_zero, List.set_cons_succ]
  refine' wpAnyH_take (i := 18) (oi := _) (v := _) ?_ (by kernel_rfl) (by kernel_rfl) (by kernel_rfl) ?_ (Or.inl ⟨?_, ?_⟩) (by assumption) ?_
  rotate_left 2
  · (simp only [List.getElem?_toArray, List.getElem?_cons_succ, List.getElem?_cons_zero]; rfl)
  · first | exact fun _ _ _ h => h | exact fun _ _ _ h => nomatch h.1
  · rfl
  · (intro W hSW; (try dsimp only at hSW); go_split_ands; first | (go_simp; done) | (go_simp; with_reducible rfl))
  try simp only [Act.put, List.setIfInBounds_toArray, List.set_cons_zero, List.set_cons_succ]
  refine' wpAnyH_take (i := 19) (oi := _) (v := _) ?_ (by kernel_rfl) (by kernel_rfl) (by kernel_rfl) ?_ (Or.inl ⟨?_, ?_⟩) (by assumption) ?_
  rotate_left 2
  · (simp only [List.getElem?_toArray, List.getElem?_cons_succ, List.getElem?_cons_zero]; rfl)
  · first | exact fun _ _ _ h => h | exact fun _ _ _ h => nomatch h.1
  · rfl
  · (intro W hSW; (try dsimp only at hSW); go_split_ands; first | (go_simp; done) | (go_simp; with_reducible rfl))
  try simp only [Act.put, List.setIfInBounds_toArray, List.set_cons_zero, List.set_cons_succ]
  refine' wpAnyH_take (i := 20) (oi := _) (v := _) ?_ (by kernel_rfl) (by kernel_rfl) (by kernel_rfl) ?_ (Or.inl ⟨?_, ?_⟩) (by assumption) ?_
  rotate_left 2
  · (simp only [List.getElem?_toArray, List.getElem?_cons_succ, List.getElem?_cons_zero]; rfl)
  · first | exact fun _ _ _ h => h | exact fun _ _ _ h => nomatch h.1
  · rfl
  · (intro W hSW; (try dsimp only at hSW); go_split_ands; first | (go_simp; done) | (go_simp; with_reducible rfl))
  try simp only [Act.put, List.setIfInBounds_toArray, List.set_cons_zero, List.set_cons_succ]
  clear hHeld
  have yr8 := r8.cell
  have zr8 := r8.lt
  have ur8 := r8.free
  refine wpAnyH_ready (rs := [21]) (by kernel_rfl) (by simp) ?_
  refine' AllReadyH.cons (o := _) ?_ (fun K hK => ?_) AllReadyH.nil
  rotate_left 1
  · (simp only [List.getElem?_toArray, List.getElem?_cons_succ, List.getElem?_cons_zero]; rfl)
  go_simp
  clear yr8 zr8 ur8
  replace r10 := ((((((((r10.other nr8_r10 0 (.int .i64 kk)).other nr8_r10 1 (.int .i64 ii)).other nr8_r10 2 (.int .u32 gg)).other nr8_r10 3 (.int .i64 1)).other nr8_r10 4 (.int .i64 0)).other nr8_r10 5 (.int .i64 0)).other nr8_r10 6 (.int .i64 0)).other nr8_r10 7 (.string tt))
  replace r11 := ((((((((r11.other nr8_r11 0 (.int .i64 kk)).other nr8_r11 1 (.int .i64 ii)).other nr8_r11 2 (.int .u32 gg)).other nr8_r11 3 (.int .i64 1)).other nr8_r11 4 (.int .i64 0)).other nr8_r11 5 (.int .i64 0)).other nr8_r11 6 (.int .i64 0)).other nr8_r11 7 (.string tt))
  replace r8 := ((((((((r8.set 0 (.int .i64 kk)).set 1 (.int .i64 ii)).set 2 (.int .u32 gg)).set 3 (.int .i64 1)).set 4 (.int .i64 0)).set 5 (.int .i64 0)).set 6 (.int .i64 0)).set 7 (.string tt))
  simp only [List.setIfInBounds_toArray, List.set_cons_zero, List.set_cons_succ] at r8
  replace hc := ((((((((hc.setCell (p := ⟨w.heap.size, 0, none⟩) wr8 (.int .i64 kk)).setCell (p := ⟨w.heap.size, 1, none⟩) wr8 (.int .i64 ii)).setCell (p := ⟨w.heap.size, 2, none⟩) wr8 (.int .u32 gg)).setCell (p := ⟨w.heap.size, 3, none⟩) wr8 (.int .i64 1)).setCell (p := ⟨w.heap.size, 4, none⟩) wr8 (.int .i64 0)).setCell (p := ⟨w.heap.size, 5, none⟩) wr8 (.int .i64 0)).setCell (p := ⟨w.heap.size, 6, none⟩) wr8 (.int .i64 0)).setCell (p := ⟨w.heap.size, 7, none⟩) wr8 (.string tt))
  generalize hW : World.setCell _ _ _ = V5 at *
  clear hW
  refine hK.out _ _ ⟨r10.cell, r11.cell⟩ (fun hHeld => ?_)
  clear hK K
  refine' wpAnyH_take (i := 22) (oi := _) (v := _) ?_ (by kernel_rfl) (by kernel_rfl) (by kernel_rfl) ?_ (Or.inl ⟨?_, ?_⟩) (by assumption) ?_
  rotate_left 2
  · (simp only [List.getElem?_toArray, List.getElem?_cons_succ, List.getElem?_cons_zero]; rfl)
  · first | exact fun _ _ _ h => h | exact fun _ _ _ h => nomatch h.1
  · rfl
  · (intro W hSW; (try dsimp only at hSW); go_split_ands; first | (go_simp; done) | (go_simp; with_reducible rfl))
  try simp only [Act.put, List.setIfInBounds_toArray, List.set_cons_zero, List.set_cons_succ]
  clear hHeld
  refine wpAnyH_done (by kernel_rfl) ?_ _
  go_wp2_with fail
  have y := r8.cell
  refine bodyPost_ret (v := .tuple #[rV kk ii gg 1 0 0 0 tt, .bool true]) (by simp [results, Tryz.results24, go_sem, y]) rfl ⟨by rw [q1, q2, q3, q4], hc⟩
end Go.Proofs.YtgckfiadnmjonaaGreatDoor

/- What calls give for possible resources (plain). -/
namespace Go.Proofs.YtgckfiadnmjonaaGreatDoor
open Go.RowKit
set_option linter.unusedVariables false
set_option linter.unusedSimpArgs false
theorem rErr_of {k i g st wy tr nx : Int} {tag : ByteArray} (h : pOk k i g st wy tr nx = true) (ht : tagOk tag.data.toList = true) : rErr k i g st wy tr nx tag = 0 := by
  unfold rErr tagErr
  rw [h, ht]
  rfl
/-- The ranges of a possible resource that is not live. -/
theorem ok_range {k i g st wy tr nx : Int} {tag : ByteArray} (h : rErr k i g st wy tr nx tag = 0) : dOk 64 k i g = true ∧ tagOk tag.data.toList = true ∧ ((st = 1 ∧ wy = 0 ∧ tr = 0 ∧ nx = 0) ∨ ((st = 2 ∨ st = 3 ∨ st = 4) ∧ (1 ≤ wy ∧ wy ≤ 3) ∧ (0 ≤ tr ∧ tr ≤ 10000) ∧ (0 ≤ nx ∧ nx ≤ 1099511627776) ∧ (st = 2 ∨ nx = 0))) := by
  obtain ⟨ho, ht⟩ := rErr_zero h
  obtain ⟨hd, hs⟩ := pOk_out ho
  refine ⟨hd, ht, ?_⟩
  rcases hs with rfl | rfl | rfl | rfl
  · rw [pOk_1 hd] at ho
    simp only [Bool.and_eq_true, inB_iff, isT_iff, decide_eq_true_iff] at ho
    exact .inl ⟨rfl, by omega, by omega, by omega⟩
  · rw [pOk_2 hd] at ho
    simp only [Bool.and_eq_true, inB_iff, isT_iff] at ho
    exact .inr ⟨.inl rfl, by omega, by omega, by omega, .inl rfl⟩
  · rw [pOk_34 hd (.inl rfl)] at ho
    simp only [Bool.and_eq_true, inB_iff, isT_iff, decide_eq_true_iff] at ho
    exact .inr ⟨.inr (.inl rfl), by omega, by omega, by omega, .inr (by omega)⟩
  · rw [pOk_34 hd (.inr rfl)] at ho
    simp only [Bool.and_eq_true, inB_iff, isT_iff, decide_eq_true_iff] at ho
    exact .inr ⟨.inr (.inr rfl), by omega, by omega, by omega, .inr (by omega)⟩
theorem ok_2 {k i g wy tr nx : Int} {tag : ByteArray} (hd : dOk 64 k i g = true) (ht : tagOk tag.data.toList = true) (hw : 1 ≤ wy ∧ wy ≤ 3) (h1 : 0 ≤ tr ∧ tr ≤ 10000) (h2 : 0 ≤ nx ∧ nx ≤ 1099511627776) : rErr k i g 2 wy tr nx tag = 0 :=
  rErr_of (by rw [pOk_2 hd]; simp only [Bool.and_eq_true, inB_iff, isT_iff]; omega) ht
theorem ok_34 {k i g st wy tr : Int} {tag : ByteArray} (hs : st = 3 ∨ st = 4) (hd : dOk 64 k i g = true) (ht : tagOk tag.data.toList = true) (hw : 1 ≤ wy ∧ wy ≤ 3) (h1 : 0 ≤ tr ∧ tr ≤ 10000) : rErr k i g st wy tr 0 tag = 0 :=
  rErr_of (by rw [pOk_34 hd hs, inB_iff.2 hw, inB_iff.2 h1]; rfl) ht
theorem close_live {k i g wy tr nx why now : Int} {tag : ByteArray} (h : rErr k i g 1 wy tr nx tag = 0) (hw : 1 ≤ why ∧ why ≤ 3) (hn : 0 ≤ now ∧ now ≤ 1099511627776) : closeV k i g 1 wy tr nx tag why now = .tuple #[rV k i g 2 why tr now tag, .int .i64 0] := by
  have : chkE k i g 1 wy tr nx tag (inB why 1 3 && isT now) 1 = 0 := by
    unfold chkE
    rw [if_neg (by omega), inB_iff.2 hw, isT_iff.2 hn]
    rfl
  unfold closeV
  rw [if_pos this]
theorem close_not {k i g st wy tr nx why now : Int} {tag : ByteArray} (h : rErr k i g st wy tr nx tag = 0) (hs : st ≠ 1) (hw : 1 ≤ why ∧ why ≤ 3) (hn : 0 ≤ now ∧ now ≤ 1099511627776) : closeV k i g st wy tr nx tag why now = .tuple #[r0V, .int .i64 8] := by
  have : chkE k i g st wy tr nx tag (inB why 1 3 && isT now) 1 = 8 := by
    unfold chkE
    rw [if_neg (by omega), inB_iff.2 hw, isT_iff.2 hn, if_neg (by decide), if_pos hs]
  unfold closeV
  rw [this, if_neg (by decide)]
theorem tried_chk {k i g st wy tr nx answer now wait : Int} {tag : ByteArray} (h : rErr k i g st wy tr nx tag = 0) (ha : 1 ≤ answer ∧ answer ≤ 3) (hn : 0 ≤ now ∧ now ≤ 1099511627776) (hw : 1 ≤ wait ∧ wait ≤ 1048576) : chkE k i g st wy tr nx tag (triedA answer now wait) 2 = if st = 2 then 0 else 8 := by
  unfold chkE triedA
  rw [if_neg (by omega), inB_iff.2 ha, isT_iff.2 hn, inB_iff.2 hw, if_neg (by decide)]
  by_cases hs : st = 2
  · rw [if_neg (by simpa using hs), if_pos hs]
  · rw [if_pos hs, if_neg hs]
theorem tried_not {k i g st wy tr nx answer now wait : Int} {tag : ByteArray} (h : rErr k i g st wy tr nx tag = 0) (hs : st ≠ 2) (ha : 1 ≤ answer ∧ answer ≤ 3) (hn : 0 ≤ now ∧ now ≤ 1099511627776) (hw : 1 ≤ wait ∧ wait ≤ 1048576) : triedV k i g st wy tr nx tag answer now wait = .tuple #[r0V, .int .i64 8] := by
  unfold triedV
  rw [tried_chk h ha hn hw, if_neg hs, if_neg (by decide)]
theorem tried_ok {k i g wy tr nx now wait : Int} {tag : ByteArray} (h : rErr k i g 2 wy tr nx tag = 0) (hn : 0 ≤ now ∧ now ≤ 1099511627776) (hw : 1 ≤ wait ∧ wait ≤ 1048576) : triedV k i g 2 wy tr nx tag 1 now wait = .tuple #[rV k i g 3 wy tr 0 tag, .int .i64 0] := by
  unfold triedV
  rw [tried_chk h (by omega) hn hw, if_pos rfl, if_pos rfl, if_pos rfl]
theorem tried_fail {k i g wy tr nx now wait : Int} {tag : ByteArray} (h : rErr k i g 2 wy tr nx tag = 0) (hn : 0 ≤ now ∧ now ≤ 1099511627776) (hw : 1 ≤ wait ∧ wait ≤ 1048576) : triedV k i g 2 wy tr nx tag 3 now wait = .tuple #[rV k i g 4 wy tr 0 tag, .int .i64 0] := by
  unfold triedV
  rw [tried_chk h (by omega) hn hw, if_pos rfl, if_pos rfl, if_neg (by decide), if_pos rfl]
theorem tried_later {k i g wy tr nx now wait : Int} {tag : ByteArray} (h : rErr k i g 2 wy tr nx tag = 0) (hn : 0 ≤ now ∧ now + wait ≤ 1099511627776) (hw : 1 ≤ wait ∧ wait ≤ 1048576) (ht : tr < 10000) : triedV k i g 2 wy tr nx tag 2 now wait = .tuple #[rV k i g 2 wy (tr + 1) (now + wait) tag, .int .i64 0] := by
  unfold triedV
  rw [tried_chk h (by omega) (by omega) hw, if_pos rfl, if_pos rfl, if_neg (by decide), if_neg (by decide), if_neg (by omega)]
theorem tried_over {k i g wy tr nx now wait : Int} {tag : ByteArray} (h : rErr k i g 2 wy tr nx tag = 0) (hn : 0 ≤ now ∧ now ≤ 1099511627776) (hw : 1 ≤ wait ∧ wait ≤ 1048576) (ho : 1099511627776 < now + wait ∨ 10000 ≤ tr) : triedV k i g 2 wy tr nx tag 2 now wait = .tuple #[r0V, .int .i64 17] := by
  unfold triedV
  rw [tried_chk h (by omega) hn hw, if_pos rfl, if_pos rfl, if_neg (by decide), if_neg (by decide), if_pos (by omega)]
theorem due_is {k i g st wy tr nx now : Int} {tag : ByteArray} (h : rErr k i g st wy tr nx tag = 0) (hn : 0 ≤ now ∧ now ≤ 1099511627776) : dueV k i g st wy tr nx tag now = .tuple #[.bool (decide (st = 2) && decide (nx ≤ now)), .int .i64 0] := by
  have : chkE k i g st wy tr nx tag (isT now) st = 0 := by
    unfold chkE
    rw [if_neg (by omega), isT_iff.2 hn, if_neg (by decide), if_neg (by simp)]
  unfold dueV
  rw [if_pos this]
theorem over_is {k i g st wy tr nx : Int} {tag : ByteArray} (h : rErr k i g st wy tr nx tag = 0) : overV k i g st wy tr nx tag = .tuple #[.bool (decide (st = 3) || decide (st = 4)), .int .i64 0] := by
  unfold overV
  rw [if_pos h]
end Go.Proofs.YtgckfiadnmjonaaGreatDoor

/- The statement ResCourse, walked. -/
namespace Go.Proofs.YtgckfiadnmjonaaGreatDoor
open Go.RowKit
set_option linter.unusedVariables false
set_option linter.unusedSimpArgs false
set_option maxHeartbeats 40000000
set_option maxRecDepth 20000
theorem bounds8 {n : Int} (h : (Lit.int .u8 n).wf = true) : 0 ≤ n ∧ n ≤ 255 := by
  have := bounds_u8 h
  omega
theorem deed_of {l : List Value} (h : OkL [.int .u8, .int .u8, .int .u8, .int .u8] l) : ∃ a b c d : Int, l = [.int .u8 a, .int .u8 b, .int .u8 c, .int .u8 d] ∧ (0 ≤ a ∧ a ≤ 255) ∧ (0 ≤ b ∧ b ≤ 255) ∧ (0 ≤ c ∧ c ≤ 255) ∧ (0 ≤ d ∧ d ≤ 255) := by
  obtain ⟨_, _, rfl, ⟨a, rfl, wa⟩, h1⟩ := OkL_cons h
  obtain ⟨_, _, rfl, ⟨b, rfl, wb⟩, h2⟩ := OkL_cons h1
  obtain ⟨_, _, rfl, ⟨c, rfl, wc⟩, h3⟩ := OkL_cons h2
  obtain ⟨_, _, rfl, ⟨d, rfl, wd⟩, h4⟩ := OkL_cons h3
  obtain rfl := OkL_nil h4
  exact ⟨a, b, c, d, rfl, bounds8 wa, bounds8 wb, bounds8 wc, bounds8 wd⟩
theorem course_walk (kind id name gen : Int) (v : Value) (n : Nat) (E : Nat → List Value) (w : World) (hsl : Sl w v [.int .u8, .int .u8, .int .u8, .int .u8] n E) (hE : EnvP w) (k0 : 0 ≤ kind) (k1 : kind ≤ 255) (i0 : 0 ≤ id) (i1 : id ≤ 255) (n0 : 0 ≤ name) (n1 : name ≤ 255) (g0 : 0 ≤ gen) (g1 : gen ≤ 4294967295) :
    Ret 6 #[.int .u8 kind, .int .u8 id, .int .u8 name, .int .u32 gen, v] w (.bool true) := by
  obtain ⟨⟨p, cap, rfl, hcap, hmax, hel⟩, hdeed⟩ := hsl
  have c1 := fun w => start_c kind id name gen k0 k1 i0 i1 n0 n1 g0 g1 w
  have hd : dOk 64 (sK kind) (sI id) (sG gen) = true := by rw [dOk_iff]; unfold sK sI sG; omega
  have hG : 0 ≤ sG gen ∧ sG gen ≤ 4294967295 := by unfold sG; omega
  have hT := tagS_ok name
  have hTs := tagS_size name
  have hr0 := start_ok _ _ _ name hd
  generalize sK kind = kk at *
  generalize sI id = ii at *
  generalize sG gen = gg at *
  generalize tagS name = tt at *
  have C1 := Lib.hid c1
  have HE := Lib.hid hE
  have HEL := Lib.hid hel
  clear c1 hE hel
  have hc := Below.refl w.heap.size w
  obtain ⟨N, hN1, hN2, eN⟩ : ∃ N : Nat, N ≤ n ∧ N ≤ 100 ∧ min (n : Int) 100 = (N : Int) := ⟨min n 100, by omega, by omega, by omega⟩
  have eM : max (N : Int) 0 = (N : Int) := by omega
  go_enter Tryz.func6, Tryz.ntmps6
  go_wp2_with fail
  refine Calls.mono (C1.out _) ?_
  rintro e V1 ⟨rfl, hn⟩
  replace hc := chain hc hn
  clear hn
  go_upto_region 2 with fail
  have r11 := Row.new (W := V1) (cs := (rC kk ii gg 1 0 0 0 tt)) (t := 26)
  have hn := below_alloc V1 (.cells (rC kk ii gg 1 0 0 0 tt) 26)
  have wr11 : w.heap.size ≤ V1.heap.size := hc.size
  replace hc := chain hc hn
  clear hn
  generalize V1.alloc (.cells (rC kk ii gg 1 0 0 0 tt) 26) = V2 at r11 hc ⊢
  generalize V1.heap.size = b11 at *
  go_wp2_with fail
  clear eN eM
  go_loopw [12, 13, 37] (fun okv nowv iv wr => ∃ (i : Nat) (st wy tr nx now : Int), i ≤ N ∧ iv = .int .i64 i ∧ okv = .bool true ∧ nowv = .int .i64 now ∧ 0 ≤ now ∧ now ≤ 255 * i ∧ tr ≤ i ∧ rErr kk ii gg st wy tr nx tt = 0 ∧ Row wr b11 (rC kk ii gg st wy tr nx tt) 26 ∧ Below w.heap.size w wr) (fun _ _ iv _ => N - (intOf iv).toNat)
  case atStart => exact ⟨0, 1, 0, 0, 0, 0, Nat.zero_le _, rfl, rfl, rfl, by omega, by omega, by omega, hr0, r11, hc⟩
  case round =>
    obtain ⟨i, st, wy, tr, nx, now, hiN, rfl, rfl, rfl, hn0, hn1, htr, hR, r11, hc⟩ := hrel
    by_cases hlt : i < N
    · rcases HEL.out with h0 | ⟨b, off, rfl, hb, hcell⟩
      · omega
      obtain ⟨x0, x1, x2, x3, hE4, bx0, bx1, bx2, bx3⟩ := deed_of (hdeed i (by omega))
      have q := hcell i (by omega)
      rw [hE4] at q
      have d0 : wr.cell? ⟨b, off + i * 4, none⟩ = some (.int .u8 x0) := (hc.cell (p := ⟨b, off + i * 4, none⟩) hb).trans (q 0 (by decide))
      have d1 : wr.cell? ⟨b, off + i * 4 + 1, none⟩ = some (.int .u8 x1) := (hc.cell (p := ⟨b, off + i * 4 + 1, none⟩) hb).trans (q 1 (by decide))
      have d2 : wr.cell? ⟨b, off + i * 4 + 2, none⟩ = some (.int .u8 x2) := (hc.cell (p := ⟨b, off + i * 4 + 2, none⟩) hb).trans (q 2 (by decide))
      have d3 : wr.cell? ⟨b, off + i * 4 + 3, none⟩ = some (.int .u8 x3) := (hc.cell (p := ⟨b, off + i * 4 + 3, none⟩) hb).trans (q 3 (by decide))
      clear q
      go_upto_region 6 with fail
      clear d0 d1 d2 d3
      have r15 := Row.new (W := wr) (cs := #[.int .u8 x0, .int .u8 x1, .int .u8 x2, .int .u8 x3]) (t := 57)
      have hn := below_alloc wr (.cells #[.int .u8 x0, .int .u8 x1, .int .u8 x2, .int .u8 x3] 57)
      have nr11_r15 : b11 ≠ wr.heap.size := Nat.ne_of_lt r11.lt
      have wr15 : w.heap.size ≤ wr.heap.size := hc.size
      replace r11 := r11.on hn
      replace hc := chain hc hn
      clear hn
      generalize wr.alloc (.cells #[.int .u8 x0, .int .u8 x1, .int .u8 x2, .int .u8 x3] 57) = V3 at r11 r15 hc ⊢
      generalize wr.heap.size = b15 at *
      have hw1 : IntKind.i64.wrap (now + x0) = now + x0 := IntWalk.i64_in _ ⟨by omega, by omega⟩
      have yr11 := r11.cell
      have zr11 := r11.lt
      have yr15 := r15.cell
      have zr15 := r15.lt
      go_upto_region 10 with fail
      clear yr11 yr15 zr11 zr15
      have r16 := Row.new (W := V3) (cs := (rC kk ii gg st wy tr nx tt)) (t := 26)
      have hn := below_alloc V3 (.cells (rC kk ii gg st wy tr nx tt) 26)
      have nr11_r16 : b11 ≠ V3.heap.size := Nat.ne_of_lt r11.lt
      have nr15_r16 : b15 ≠ V3.heap.size := Nat.ne_of_lt r15.lt
      have wr16 : w.heap.size ≤ V3.heap.size := hc.size
      replace r11 := r11.on hn
      replace r15 := r15.on hn
      replace hc := chain hc hn
      clear hn
      generalize V3.alloc (.cells (rC kk ii gg st wy tr nx tt) 26) = V4 at r11 r15 r16 hc ⊢
      generalize V3.heap.size = b16 at *
      have yr11 := r11.cell
      have zr11 := r11.lt
      have yr15 := r15.cell
      have zr15 := r15.lt
      have yr16 := r16.cell
      have zr16 := r16.lt
      go_upto_region 11 with fail
      clear yr11 yr15 yr16 zr11 zr15 zr16
      have r17 := Row.new (W := V4) (cs := #[.int .i64 0, .int .i64 0, .int .u32 0, .int .i64 0, .int .i64 0, .int .i64 0, .int .i64 0, .string ⟨#[]⟩]) (t := 26)
      have hn := below_alloc V4 (.cells #[.int .i64 0, .int .i64 0, .int .u32 0, .int .i64 0, .int .i64 0, .int .i64 0, .int .i64 0, .string ⟨#[]⟩] 26)
      have nr11_r17 : b11 ≠ V4.heap.size := Nat.ne_of_lt r11.lt
      have nr15_r17 : b15 ≠ V4.heap.size := Nat.ne_of_lt r15.lt
      have nr16_r17 : b16 ≠ V4.heap.size := Nat.ne_of_lt r16.lt
      have wr17 : w.heap.size ≤ V4.heap.size := hc.size
      replace r11 := r11.on hn
      replace r15 := r15.on hn
      replace r16 := r16.on hn
      replace hc := chain hc hn
      clear hn
      generalize V4.alloc (.cells #[.int .i64 0, .int .i64 0, .int .u32 0, .int .i64 0, .int .i64 0, .int .i64 0, .int .i64 0, .string ⟨#[]⟩] 26) = V5 at r11 r15 r16 r17 hc ⊢
      generalize V4.heap.size = b17 at *
      clear hw1
      have ek : x1.tmod 4 = x1 % 4 := Int.tmod_eq_emod_of_nonneg bx1.1
      have ea : x2.tmod 3 = x2 % 3 := Int.tmod_eq_emod_of_nonneg bx2.1
      have hA : x2 % 3 = 0 ∨ x2 % 3 = 1 ∨ x2 % 3 = 2 := by omega
      obtain ⟨now2, hnow⟩ : ∃ z, z = now + x0 := ⟨_, rfl⟩
      rw [← hnow]
      have hb2 : 0 ≤ now2 ∧ now2 ≤ 255 * i + 255 := by omega
      have hiN2 : i < 100 := by omega
      clear hnow
      obtain ⟨hd2, ht2, hrg⟩ := ok_range hR
      by_cases hk : x1 % 4 = 0
      · by_cases hst : st = 1
        · subst hst
          have e1 : (x1 % 4 == 0) = true := by rw [beq_iff_eq]; exact hk
          have hw2 : IntKind.i64.wrap (1 + x2 % 3) = 1 + x2 % 3 := IntWalk.i64_in _ ⟨by omega, by omega⟩
          obtain ⟨rfl, rfl, rfl⟩ : wy = 0 ∧ tr = 0 ∧ nx = 0 := by omega
          have c := fun w => close_c kk ii gg 1 0 0 0 (1 + x2 % 3) now2 tt w hG.1 hG.2 (by omega)
          rw [close_live hR (by omega) (by omega)] at c
          have C := Lib.hid c
          clear c
          have yr11 := r11.cell
          have zr11 := r11.lt
          have yr15 := r15.cell
          have zr15 := r15.lt
          have yr16 := r16.cell
          have zr16 := r16.lt
          have yr17 := r17.cell
          have zr17 := r17.lt
          go_wp2_with fail
          refine Calls.mono (C.out _) ?_
          rintro e V6 ⟨rfl, hn⟩
          clear yr11 yr15 yr16 yr17 zr11 zr15 zr16 zr17
          replace r11 := r11.on hn
          replace r15 := r15.on hn
          replace r16 := r16.on hn
          replace r17 := r17.on hn
          replace hc := chain hc hn
          clear hn
          have yr11 := r11.cell
          have zr11 := r11.lt
          have yr15 := r15.cell
          have zr15 := r15.lt
          have yr16 := r16.cell
          have zr16 := r16.lt
          have yr17 := r17.cell
          have zr17 := r17.lt
          have ur17 := r17.free
          go_upto_region 15 with fail
          clear yr11 yr15 yr16 yr17 zr11 zr15 zr16 zr17 ur17
          replace r11 := ((((((((r11.other nr11_r17.symm 0 (.int .i64 kk)).other nr11_r17.symm 1 (.int .i64 ii)).other nr11_r17.symm 2 (.int .u32 gg)).other nr11_r17.symm 3 (.int .i64 2)).other nr11_r17.symm 4 (.int .i64 (1 + x2 % 3))).other nr11_r17.symm 5 (.int .i64 0)).other nr11_r17.symm 6 (.int .i64 now2)).other nr11_r17.symm 7 (.string tt))
          replace r15 := ((((((((r15.other nr15_r17.symm 0 (.int .i64 kk)).other nr15_r17.symm 1 (.int .i64 ii)).other nr15_r17.symm 2 (.int .u32 gg)).other nr15_r17.symm 3 (.int .i64 2)).other nr15_r17.symm 4 (.int .i64 (1 + x2 % 3))).other nr15_r17.symm 5 (.int .i64 0)).other nr15_r17.symm 6 (.int .i64 now2)).other nr15_r17.symm 7 (.string tt))
          replace r16 := ((((((((r16.other nr16_r17.symm 0 (.int .i64 kk)).other nr16_r17.symm 1 (.int .i64 ii)).other nr16_r17.symm 2 (.int .u32 gg)).other nr16_r17.symm 3 (.int .i64 2)).other nr16_r17.symm 4 (.int .i64 (1 + x2 % 3))).other nr16_r17.symm 5 (.int .i64 0)).other nr16_r17.symm 6 (.int .i64 now2)).other nr16_r17.symm 7 (.string tt))
          replace r17 := ((((((((r17.set 0 (.int .i64 kk)).set 1 (.int .i64 ii)).set 2 (.int .u32 gg)).set 3 (.int .i64 2)).set 4 (.int .i64 (1 + x2 % 3))).set 5 (.int .i64 0)).set 6 (.int .i64 now2)).set 7 (.string tt))
          simp only [List.setIfInBounds_toArray, List.set_cons_zero, List.set_cons_succ] at r17
          replace hc := ((((((((hc.setCell (p := ⟨b17, 0, none⟩) wr17 (.int .i64 kk)).setCell (p := ⟨b17, 1, none⟩) wr17 (.int .i64 ii)).setCell (p := ⟨b17, 2, none⟩) wr17 (.int .u32 gg)).setCell (p := ⟨b17, 3, none⟩) wr17 (.int .i64 2)).setCell (p := ⟨b17, 4, none⟩) wr17 (.int .i64 (1 + x2 % 3))).setCell (p := ⟨b17, 5, none⟩) wr17 (.int .i64 0)).setCell (p := ⟨b17, 6, none⟩) wr17 (.int .i64 now2)).setCell (p := ⟨b17, 7, none⟩) wr17 (.string tt))
          generalize hW : World.setCell _ _ _ = V7 at *
          clear hW
          clear C
          have hok : rErr kk ii gg 2 (1 + x2 % 3) 0 now2 tt = 0 := ok_2 hd2 ht2 (by omega) (by omega) (by omega)
          have yr11 := r11.cell
          have zr11 := r11.lt
          have yr15 := r15.cell
          have zr15 := r15.lt
          have yr16 := r16.cell
          have zr16 := r16.lt
          have yr17 := r17.cell
          have zr17 := r17.lt
          have ur11 := r11.free
          go_upto_region 26 with fail
          clear yr11 yr15 yr16 yr17 zr11 zr15 zr16 zr17 ur11
          replace r15 := ((((((((r15.other nr11_r15 0 (.int .i64 kk)).other nr11_r15 1 (.int .i64 ii)).other nr11_r15 2 (.int .u32 gg)).other nr11_r15 3 (.int .i64 2)).other nr11_r15 4 (.int .i64 (1 + x2 % 3))).other nr11_r15 5 (.int .i64 0)).other nr11_r15 6 (.int .i64 now2)).other nr11_r15 7 (.string tt))
          replace r16 := ((((((((r16.other nr11_r16 0 (.int .i64 kk)).other nr11_r16 1 (.int .i64 ii)).other nr11_r16 2 (.int .u32 gg)).other nr11_r16 3 (.int .i64 2)).other nr11_r16 4 (.int .i64 (1 + x2 % 3))).other nr11_r16 5 (.int .i64 0)).other nr11_r16 6 (.int .i64 now2)).other nr11_r16 7 (.string tt))
          replace r17 := ((((((((r17.other nr11_r17 0 (.int .i64 kk)).other nr11_r17 1 (.int .i64 ii)).other nr11_r17 2 (.int .u32 gg)).other nr11_r17 3 (.int .i64 2)).other nr11_r17 4 (.int .i64 (1 + x2 % 3))).other nr11_r17 5 (.int .i64 0)).other nr11_r17 6 (.int .i64 now2)).other nr11_r17 7 (.string tt))
          replace r11 := ((((((((r11.set 0 (.int .i64 kk)).set 1 (.int .i64 ii)).set 2 (.int .u32 gg)).set 3 (.int .i64 2)).set 4 (.int .i64 (1 + x2 % 3))).set 5 (.int .i64 0)).set 6 (.int .i64 now2)).set 7 (.string tt))
          simp only [List.setIfInBounds_toArray, List.set_cons_zero, List.set_cons_succ] at r11
          replace hc := ((((((((hc.setCell (p := ⟨b11, 0, none⟩) wr11 (.int .i64 kk)).setCell (p := ⟨b11, 1, none⟩) wr11 (.int .i64 ii)).setCell (p := ⟨b11, 2, none⟩) wr11 (.int .u32 gg)).setCell (p := ⟨b11, 3, none⟩) wr11 (.int .i64 2)).setCell (p := ⟨b11, 4, none⟩) wr11 (.int .i64 (1 + x2 % 3))).setCell (p := ⟨b11, 5, none⟩) wr11 (.int .i64 0)).setCell (p := ⟨b11, 6, none⟩) wr11 (.int .i64 now2)).setCell (p := ⟨b11, 7, none⟩) wr11 (.string tt))
          generalize hW : World.setCell _ _ _ = V8 at *
          clear hW
          have ec := fun w => rerr_c kk ii gg 2 (1 + x2 % 3) 0 now2 tt w hG.1 hG.2 (by omega)
          rw [hok] at ec
          have EC := Lib.hid ec
          clear ec
          have hoe := oeq_O kk ii gg
          have hse := str_beq_same tt
          have yr11 := r11.cell
          have zr11 := r11.lt
          have yr15 := r15.cell
          have zr15 := r15.lt
          have yr16 := r16.cell
          have zr16 := r16.lt
          have yr17 := r17.cell
          have zr17 := r17.lt
          go_wp2_with fail
          refine Calls.mono (EC.out _) ?_
          rintro e V9 ⟨rfl, hn⟩
          clear yr11 yr15 yr16 yr17 zr11 zr15 zr16 zr17
          replace r11 := r11.on hn
          replace r15 := r15.on hn
          replace r16 := r16.on hn
          replace r17 := r17.on hn
          replace hc := chain hc hn
          clear hn
          have yr11 := r11.cell
          have zr11 := r11.lt
          have yr15 := r15.cell
          have zr15 := r15.lt
          have yr16 := r16.cell
          have zr16 := r16.lt
          have yr17 := r17.cell
          have zr17 := r17.lt
          go_wp2_with fail
          go_roundw
          case rel => exact ⟨i + 1, 2, (1 + x2 % 3), 0, now2, now2, by omega, by go_num, rfl, rfl, by omega, by omega, by omega, hok, r11, hc⟩
          case measure => simp [intOf]; omega
        · have e1 : (x1 % 4 == 0) = true := by rw [beq_iff_eq]; exact hk
          have hw2 : IntKind.i64.wrap (1 + x2 % 3) = 1 + x2 % 3 := IntWalk.i64_in _ ⟨by omega, by omega⟩
          have e2 : (st == 1) = false := by rw [beq_eq_false_iff_ne]; exact hst
          have c := fun w => close_c kk ii gg st wy tr nx (1 + x2 % 3) now2 tt w hG.1 hG.2 (by omega)
          rw [close_not hR hst (by omega) (by omega)] at c
          have C := Lib.hid c
          clear c
          have yr11 := r11.cell
          have zr11 := r11.lt
          have yr15 := r15.cell
          have zr15 := r15.lt
          have yr16 := r16.cell
          have zr16 := r16.lt
          have yr17 := r17.cell
          have zr17 := r17.lt
          go_wp2_with fail
          refine Calls.mono (C.out _) ?_
          rintro e V6 ⟨rfl, hn⟩
          clear yr11 yr15 yr16 yr17 zr11 zr15 zr16 zr17
          replace r11 := r11.on hn
          replace r15 := r15.on hn
          replace r16 := r16.on hn
          replace r17 := r17.on hn
          replace hc := chain hc hn
          clear hn
          have yr11 := r11.cell
          have zr11 := r11.lt
          have yr15 := r15.cell
          have zr15 := r15.lt
          have yr16 := r16.cell
          have zr16 := r16.lt
          have yr17 := r17.cell
          have zr17 := r17.lt
          have ur17 := r17.free
          go_upto_region 15 with fail
          clear yr11 yr15 yr16 yr17 zr11 zr15 zr16 zr17 ur17
          replace r11 := ((((((((r11.other nr11_r17.symm 0 (.int .i64 0)).other nr11_r17.symm 1 (.int .i64 0)).other nr11_r17.symm 2 (.int .u32 0)).other nr11_r17.symm 3 (.int .i64 0)).other nr11_r17.symm 4 (.int .i64 0)).other nr11_r17.symm 5 (.int .i64 0)).other nr11_r17.symm 6 (.int .i64 0)).other nr11_r17.symm 7 (.string ⟨#[]⟩))
          replace r15 := ((((((((r15.other nr15_r17.symm 0 (.int .i64 0)).other nr15_r17.symm 1 (.int .i64 0)).other nr15_r17.symm 2 (.int .u32 0)).other nr15_r17.symm 3 (.int .i64 0)).other nr15_r17.symm 4 (.int .i64 0)).other nr15_r17.symm 5 (.int .i64 0)).other nr15_r17.symm 6 (.int .i64 0)).other nr15_r17.symm 7 (.string ⟨#[]⟩))
          replace r16 := ((((((((r16.other nr16_r17.symm 0 (.int .i64 0)).other nr16_r17.symm 1 (.int .i64 0)).other nr16_r17.symm 2 (.int .u32 0)).other nr16_r17.symm 3 (.int .i64 0)).other nr16_r17.symm 4 (.int .i64 0)).other nr16_r17.symm 5 (.int .i64 0)).other nr16_r17.symm 6 (.int .i64 0)).other nr16_r17.symm 7 (.string ⟨#[]⟩))
          replace r17 := ((((((((r17.set 0 (.int .i64 0)).set 1 (.int .i64 0)).set 2 (.int .u32 0)).set 3 (.int .i64 0)).set 4 (.int .i64 0)).set 5 (.int .i64 0)).set 6 (.int .i64 0)).set 7 (.string ⟨#[]⟩))
          simp only [List.setIfInBounds_toArray, List.set_cons_zero, List.set_cons_succ] at r17
          replace hc := ((((((((hc.setCell (p := ⟨b17, 0, none⟩) wr17 (.int .i64 0)).setCell (p := ⟨b17, 1, none⟩) wr17 (.int .i64 0)).setCell (p := ⟨b17, 2, none⟩) wr17 (.int .u32 0)).setCell (p := ⟨b17, 3, none⟩) wr17 (.int .i64 0)).setCell (p := ⟨b17, 4, none⟩) wr17 (.int .i64 0)).setCell (p := ⟨b17, 5, none⟩) wr17 (.int .i64 0)).setCell (p := ⟨b17, 6, none⟩) wr17 (.int .i64 0)).setCell (p := ⟨b17, 7, none⟩) wr17 (.string ⟨#[]⟩))
          generalize hW : World.setCell _ _ _ = V7 at *
          clear hW
          clear C
          have hz := req_F 0 0 0 0 0 0 0 ⟨#[]⟩
          have yr11 := r11.cell
          have zr11 := r11.lt
          have yr15 := r15.cell
          have zr15 := r15.lt
          have yr16 := r16.cell
          have zr16 := r16.lt
          have yr17 := r17.cell
          have zr17 := r17.lt
          go_wp2_with fail
          go_roundw
          case rel => exact ⟨i + 1, st, wy, tr, nx, now2, by omega, by go_num, rfl, rfl, by omega, by omega, by omega, hR, r11, hc⟩
          case measure => simp [intOf]; omega
      · by_cases hst : st = 2
        · rcases hA with hAk | hAk | hAk
          · subst hst
            have e1 : (x1 % 4 == 0) = false := by rw [beq_eq_false_iff_ne]; exact hk
            rw [hAk] at ea
            have hw3 : IntKind.i64.wrap (1 + x3) = 1 + x3 := IntWalk.i64_in _ ⟨by omega, by omega⟩
            have hwy : 1 ≤ wy ∧ wy ≤ 3 := by omega
            have htr0 : 0 ≤ tr ∧ tr ≤ 10000 := by omega
            have c := fun w => tried_c kk ii gg 2 wy tr nx 1 now2 (1 + x3) tt w hG.1 hG.2 (by omega)
            rw [tried_ok hR (by omega) (by omega)] at c
            have C := Lib.hid c
            clear c
            have f1 : (wy == wy) = true := beq_self_eq_true _
            have f2 : decide (1 ≤ wy) = true := by simpa using hwy.1
            have yr11 := r11.cell
            have zr11 := r11.lt
            have yr15 := r15.cell
            have zr15 := r15.lt
            have yr16 := r16.cell
            have zr16 := r16.lt
            have yr17 := r17.cell
            have zr17 := r17.lt
            go_wp2_with fail
            refine Calls.mono (C.out _) ?_
            rintro e V6 ⟨rfl, hn⟩
            clear yr11 yr15 yr16 yr17 zr11 zr15 zr16 zr17
            replace r11 := r11.on hn
            replace r15 := r15.on hn
            replace r16 := r16.on hn
            replace r17 := r17.on hn
            replace hc := chain hc hn
            clear hn
            have yr11 := r11.cell
            have zr11 := r11.lt
            have yr15 := r15.cell
            have zr15 := r15.lt
            have yr16 := r16.cell
            have zr16 := r16.lt
            have yr17 := r17.cell
            have zr17 := r17.lt
            have ur17 := r17.free
            go_upto_region 20 with fail
            clear yr11 yr15 yr16 yr17 zr11 zr15 zr16 zr17 ur17
            replace r11 := ((((((((r11.other nr11_r17.symm 0 (.int .i64 kk)).other nr11_r17.symm 1 (.int .i64 ii)).other nr11_r17.symm 2 (.int .u32 gg)).other nr11_r17.symm 3 (.int .i64 3)).other nr11_r17.symm 4 (.int .i64 wy)).other nr11_r17.symm 5 (.int .i64 tr)).other nr11_r17.symm 6 (.int .i64 0)).other nr11_r17.symm 7 (.string tt))
            replace r15 := ((((((((r15.other nr15_r17.symm 0 (.int .i64 kk)).other nr15_r17.symm 1 (.int .i64 ii)).other nr15_r17.symm 2 (.int .u32 gg)).other nr15_r17.symm 3 (.int .i64 3)).other nr15_r17.symm 4 (.int .i64 wy)).other nr15_r17.symm 5 (.int .i64 tr)).other nr15_r17.symm 6 (.int .i64 0)).other nr15_r17.symm 7 (.string tt))
            replace r16 := ((((((((r16.other nr16_r17.symm 0 (.int .i64 kk)).other nr16_r17.symm 1 (.int .i64 ii)).other nr16_r17.symm 2 (.int .u32 gg)).other nr16_r17.symm 3 (.int .i64 3)).other nr16_r17.symm 4 (.int .i64 wy)).other nr16_r17.symm 5 (.int .i64 tr)).other nr16_r17.symm 6 (.int .i64 0)).other nr16_r17.symm 7 (.string tt))
            replace r17 := ((((((((r17.set 0 (.int .i64 kk)).set 1 (.int .i64 ii)).set 2 (.int .u32 gg)).set 3 (.int .i64 3)).set 4 (.int .i64 wy)).set 5 (.int .i64 tr)).set 6 (.int .i64 0)).set 7 (.string tt))
            simp only [List.setIfInBounds_toArray, List.set_cons_zero, List.set_cons_succ] at r17
            replace hc := ((((((((hc.setCell (p := ⟨b17, 0, none⟩) wr17 (.int .i64 kk)).setCell (p := ⟨b17, 1, none⟩) wr17 (.int .i64 ii)).setCell (p := ⟨b17, 2, none⟩) wr17 (.int .u32 gg)).setCell (p := ⟨b17, 3, none⟩) wr17 (.int .i64 3)).setCell (p := ⟨b17, 4, none⟩) wr17 (.int .i64 wy)).setCell (p := ⟨b17, 5, none⟩) wr17 (.int .i64 tr)).setCell (p := ⟨b17, 6, none⟩) wr17 (.int .i64 0)).setCell (p := ⟨b17, 7, none⟩) wr17 (.string tt))
            generalize hW : World.setCell _ _ _ = V7 at *
            clear hW
            clear C
            have yr11 := r11.cell
            have zr11 := r11.lt
            have yr15 := r15.cell
            have zr15 := r15.lt
            have yr16 := r16.cell
            have zr16 := r16.lt
            have yr17 := r17.cell
            have zr17 := r17.lt
            go_upto_region 22 with fail
            clear yr11 yr15 yr16 yr17 zr11 zr15 zr16 zr17
            have rs := Row.new (W := V7) (cs := #[.int .i64 3, .int .i64 2, .int .i64 4]) (t := 3)
            have hn := below_alloc V7 (.cells #[.int .i64 3, .int .i64 2, .int .i64 4] 3)
            have nr11_rs : b11 ≠ V7.heap.size := Nat.ne_of_lt r11.lt
            have nr15_rs : b15 ≠ V7.heap.size := Nat.ne_of_lt r15.lt
            have nr16_rs : b16 ≠ V7.heap.size := Nat.ne_of_lt r16.lt
            have nr17_rs : b17 ≠ V7.heap.size := Nat.ne_of_lt r17.lt
            have wrs : w.heap.size ≤ V7.heap.size := hc.size
            replace r11 := r11.on hn
            replace r15 := r15.on hn
            replace r16 := r16.on hn
            replace r17 := r17.on hn
            replace hc := chain hc hn
            clear hn
            generalize V7.alloc (.cells #[.int .i64 3, .int .i64 2, .int .i64 4] 3) = V8 at r11 r15 r16 r17 rs hc ⊢
            generalize V7.heap.size = bs at *
            have hok : rErr kk ii gg 3 wy tr 0 tt = 0 := ok_34 (.inl rfl) hd2 ht2 hwy htr0
            have yr11 := r11.cell
            have zr11 := r11.lt
            have yr15 := r15.cell
            have zr15 := r15.lt
            have yr16 := r16.cell
            have zr16 := r16.lt
            have yr17 := r17.cell
            have zr17 := r17.lt
            have yrs := rs.cell
            have zrs := rs.lt
            have ur11 := r11.free
            go_upto_region 26 with fail
            clear yr11 yr15 yr16 yr17 yrs zr11 zr15 zr16 zr17 zrs ur11
            replace r15 := ((((((((r15.other nr11_r15 0 (.int .i64 kk)).other nr11_r15 1 (.int .i64 ii)).other nr11_r15 2 (.int .u32 gg)).other nr11_r15 3 (.int .i64 3)).other nr11_r15 4 (.int .i64 wy)).other nr11_r15 5 (.int .i64 tr)).other nr11_r15 6 (.int .i64 0)).other nr11_r15 7 (.string tt))
            replace r16 := ((((((((r16.other nr11_r16 0 (.int .i64 kk)).other nr11_r16 1 (.int .i64 ii)).other nr11_r16 2 (.int .u32 gg)).other nr11_r16 3 (.int .i64 3)).other nr11_r16 4 (.int .i64 wy)).other nr11_r16 5 (.int .i64 tr)).other nr11_r16 6 (.int .i64 0)).other nr11_r16 7 (.string tt))
            replace r17 := ((((((((r17.other nr11_r17 0 (.int .i64 kk)).other nr11_r17 1 (.int .i64 ii)).other nr11_r17 2 (.int .u32 gg)).other nr11_r17 3 (.int .i64 3)).other nr11_r17 4 (.int .i64 wy)).other nr11_r17 5 (.int .i64 tr)).other nr11_r17 6 (.int .i64 0)).other nr11_r17 7 (.string tt))
            replace rs := ((((((((rs.other nr11_rs 0 (.int .i64 kk)).other nr11_rs 1 (.int .i64 ii)).other nr11_rs 2 (.int .u32 gg)).other nr11_rs 3 (.int .i64 3)).other nr11_rs 4 (.int .i64 wy)).other nr11_rs 5 (.int .i64 tr)).other nr11_rs 6 (.int .i64 0)).other nr11_rs 7 (.string tt))
            replace r11 := ((((((((r11.set 0 (.int .i64 kk)).set 1 (.int .i64 ii)).set 2 (.int .u32 gg)).set 3 (.int .i64 3)).set 4 (.int .i64 wy)).set 5 (.int .i64 tr)).set 6 (.int .i64 0)).set 7 (.string tt))
            simp only [List.setIfInBounds_toArray, List.set_cons_zero, List.set_cons_succ] at r11
            replace hc := ((((((((hc.setCell (p := ⟨b11, 0, none⟩) wr11 (.int .i64 kk)).setCell (p := ⟨b11, 1, none⟩) wr11 (.int .i64 ii)).setCell (p := ⟨b11, 2, none⟩) wr11 (.int .u32 gg)).setCell (p := ⟨b11, 3, none⟩) wr11 (.int .i64 3)).setCell (p := ⟨b11, 4, none⟩) wr11 (.int .i64 wy)).setCell (p := ⟨b11, 5, none⟩) wr11 (.int .i64 tr)).setCell (p := ⟨b11, 6, none⟩) wr11 (.int .i64 0)).setCell (p := ⟨b11, 7, none⟩) wr11 (.string tt))
            generalize hW : World.setCell _ _ _ = V9 at *
            clear hW
            have ec := fun w => rerr_c kk ii gg 3 wy tr 0 tt w hG.1 hG.2 (by omega)
            rw [hok] at ec
            have EC := Lib.hid ec
            clear ec
            have hoe := oeq_O kk ii gg
            have hse := str_beq_same tt
            have yr11 := r11.cell
            have zr11 := r11.lt
            have yr15 := r15.cell
            have zr15 := r15.lt
            have yr16 := r16.cell
            have zr16 := r16.lt
            have yr17 := r17.cell
            have zr17 := r17.lt
            have yrs := rs.cell
            have zrs := rs.lt
            go_wp2_with fail
            refine Calls.mono (EC.out _) ?_
            rintro e V10 ⟨rfl, hn⟩
            clear yr11 yr15 yr16 yr17 yrs zr11 zr15 zr16 zr17 zrs
            replace r11 := r11.on hn
            replace r15 := r15.on hn
            replace r16 := r16.on hn
            replace r17 := r17.on hn
            replace rs := rs.on hn
            replace hc := chain hc hn
            clear hn
            have yr11 := r11.cell
            have zr11 := r11.lt
            have yr15 := r15.cell
            have zr15 := r15.lt
            have yr16 := r16.cell
            have zr16 := r16.lt
            have yr17 := r17.cell
            have zr17 := r17.lt
            have yrs := rs.cell
            have zrs := rs.lt
            go_wp2_with fail
            go_roundw
            case rel => exact ⟨i + 1, 3, wy, tr, 0, now2, by omega, by go_num, rfl, rfl, by omega, by omega, by omega, hok, r11, hc⟩
            case measure => simp [intOf]; omega
          · subst hst
            have e1 : (x1 % 4 == 0) = false := by rw [beq_eq_false_iff_ne]; exact hk
            rw [hAk] at ea
            have hw3 : IntKind.i64.wrap (1 + x3) = 1 + x3 := IntWalk.i64_in _ ⟨by omega, by omega⟩
            have hwy : 1 ≤ wy ∧ wy ≤ 3 := by omega
            have htr0 : 0 ≤ tr ∧ tr ≤ 10000 := by omega
            have c := fun w => tried_c kk ii gg 2 wy tr nx 2 now2 (1 + x3) tt w hG.1 hG.2 (by omega)
            rw [tried_later hR (by omega) (by omega) (by omega)] at c
            have C := Lib.hid c
            clear c
            have f1 : (wy == wy) = true := beq_self_eq_true _
            have f2 : decide (1 ≤ wy) = true := by simpa using hwy.1
            have yr11 := r11.cell
            have zr11 := r11.lt
            have yr15 := r15.cell
            have zr15 := r15.lt
            have yr16 := r16.cell
            have zr16 := r16.lt
            have yr17 := r17.cell
            have zr17 := r17.lt
            go_wp2_with fail
            refine Calls.mono (C.out _) ?_
            rintro e V6 ⟨rfl, hn⟩
            clear yr11 yr15 yr16 yr17 zr11 zr15 zr16 zr17
            replace r11 := r11.on hn
            replace r15 := r15.on hn
            replace r16 := r16.on hn
            replace r17 := r17.on hn
            replace hc := chain hc hn
            clear hn
            have yr11 := r11.cell
            have zr11 := r11.lt
            have yr15 := r15.cell
            have zr15 := r15.lt
            have yr16 := r16.cell
            have zr16 := r16.lt
            have yr17 := r17.cell
            have zr17 := r17.lt
            have ur17 := r17.free
            go_upto_region 20 with fail
            clear yr11 yr15 yr16 yr17 zr11 zr15 zr16 zr17 ur17
            replace r11 := ((((((((r11.other nr11_r17.symm 0 (.int .i64 kk)).other nr11_r17.symm 1 (.int .i64 ii)).other nr11_r17.symm 2 (.int .u32 gg)).other nr11_r17.symm 3 (.int .i64 2)).other nr11_r17.symm 4 (.int .i64 wy)).other nr11_r17.symm 5 (.int .i64 (tr + 1))).other nr11_r17.symm 6 (.int .i64 (now2 + (1 + x3)))).other nr11_r17.symm 7 (.string tt))
            replace r15 := ((((((((r15.other nr15_r17.symm 0 (.int .i64 kk)).other nr15_r17.symm 1 (.int .i64 ii)).other nr15_r17.symm 2 (.int .u32 gg)).other nr15_r17.symm 3 (.int .i64 2)).other nr15_r17.symm 4 (.int .i64 wy)).other nr15_r17.symm 5 (.int .i64 (tr + 1))).other nr15_r17.symm 6 (.int .i64 (now2 + (1 + x3)))).other nr15_r17.symm 7 (.string tt))
            replace r16 := ((((((((r16.other nr16_r17.symm 0 (.int .i64 kk)).other nr16_r17.symm 1 (.int .i64 ii)).other nr16_r17.symm 2 (.int .u32 gg)).other nr16_r17.symm 3 (.int .i64 2)).other nr16_r17.symm 4 (.int .i64 wy)).other nr16_r17.symm 5 (.int .i64 (tr + 1))).other nr16_r17.symm 6 (.int .i64 (now2 + (1 + x3)))).other nr16_r17.symm 7 (.string tt))
            replace r17 := ((((((((r17.set 0 (.int .i64 kk)).set 1 (.int .i64 ii)).set 2 (.int .u32 gg)).set 3 (.int .i64 2)).set 4 (.int .i64 wy)).set 5 (.int .i64 (tr + 1))).set 6 (.int .i64 (now2 + (1 + x3)))).set 7 (.string tt))
            simp only [List.setIfInBounds_toArray, List.set_cons_zero, List.set_cons_succ] at r17
            replace hc := ((((((((hc.setCell (p := ⟨b17, 0, none⟩) wr17 (.int .i64 kk)).setCell (p := ⟨b17, 1, none⟩) wr17 (.int .i64 ii)).setCell (p := ⟨b17, 2, none⟩) wr17 (.int .u32 gg)).setCell (p := ⟨b17, 3, none⟩) wr17 (.int .i64 2)).setCell (p := ⟨b17, 4, none⟩) wr17 (.int .i64 wy)).setCell (p := ⟨b17, 5, none⟩) wr17 (.int .i64 (tr + 1))).setCell (p := ⟨b17, 6, none⟩) wr17 (.int .i64 (now2 + (1 + x3)))).setCell (p := ⟨b17, 7, none⟩) wr17 (.string tt))
            generalize hW : World.setCell _ _ _ = V7 at *
            clear hW
            clear C
            have yr11 := r11.cell
            have zr11 := r11.lt
            have yr15 := r15.cell
            have zr15 := r15.lt
            have yr16 := r16.cell
            have zr16 := r16.lt
            have yr17 := r17.cell
            have zr17 := r17.lt
            go_upto_region 22 with fail
            clear yr11 yr15 yr16 yr17 zr11 zr15 zr16 zr17
            have rs := Row.new (W := V7) (cs := #[.int .i64 3, .int .i64 2, .int .i64 4]) (t := 3)
            have hn := below_alloc V7 (.cells #[.int .i64 3, .int .i64 2, .int .i64 4] 3)
            have nr11_rs : b11 ≠ V7.heap.size := Nat.ne_of_lt r11.lt
            have nr15_rs : b15 ≠ V7.heap.size := Nat.ne_of_lt r15.lt
            have nr16_rs : b16 ≠ V7.heap.size := Nat.ne_of_lt r16.lt
            have nr17_rs : b17 ≠ V7.heap.size := Nat.ne_of_lt r17.lt
            have wrs : w.heap.size ≤ V7.heap.size := hc.size
            replace r11 := r11.on hn
            replace r15 := r15.on hn
            replace r16 := r16.on hn
            replace r17 := r17.on hn
            replace hc := chain hc hn
            clear hn
            generalize V7.alloc (.cells #[.int .i64 3, .int .i64 2, .int .i64 4] 3) = V8 at r11 r15 r16 r17 rs hc ⊢
            generalize V7.heap.size = bs at *
            have hok : rErr kk ii gg 2 wy (tr + 1) (now2 + (1 + x3)) tt = 0 := ok_2 hd2 ht2 hwy (by omega) (by omega)
            have yr11 := r11.cell
            have zr11 := r11.lt
            have yr15 := r15.cell
            have zr15 := r15.lt
            have yr16 := r16.cell
            have zr16 := r16.lt
            have yr17 := r17.cell
            have zr17 := r17.lt
            have yrs := rs.cell
            have zrs := rs.lt
            have ur11 := r11.free
            go_upto_region 26 with fail
            clear yr11 yr15 yr16 yr17 yrs zr11 zr15 zr16 zr17 zrs ur11
            replace r15 := ((((((((r15.other nr11_r15 0 (.int .i64 kk)).other nr11_r15 1 (.int .i64 ii)).other nr11_r15 2 (.int .u32 gg)).other nr11_r15 3 (.int .i64 2)).other nr11_r15 4 (.int .i64 wy)).other nr11_r15 5 (.int .i64 (tr + 1))).other nr11_r15 6 (.int .i64 (now2 + (1 + x3)))).other nr11_r15 7 (.string tt))
            replace r16 := ((((((((r16.other nr11_r16 0 (.int .i64 kk)).other nr11_r16 1 (.int .i64 ii)).other nr11_r16 2 (.int .u32 gg)).other nr11_r16 3 (.int .i64 2)).other nr11_r16 4 (.int .i64 wy)).other nr11_r16 5 (.int .i64 (tr + 1))).other nr11_r16 6 (.int .i64 (now2 + (1 + x3)))).other nr11_r16 7 (.string tt))
            replace r17 := ((((((((r17.other nr11_r17 0 (.int .i64 kk)).other nr11_r17 1 (.int .i64 ii)).other nr11_r17 2 (.int .u32 gg)).other nr11_r17 3 (.int .i64 2)).other nr11_r17 4 (.int .i64 wy)).other nr11_r17 5 (.int .i64 (tr + 1))).other nr11_r17 6 (.int .i64 (now2 + (1 + x3)))).other nr11_r17 7 (.string tt))
            replace rs := ((((((((rs.other nr11_rs 0 (.int .i64 kk)).other nr11_rs 1 (.int .i64 ii)).other nr11_rs 2 (.int .u32 gg)).other nr11_rs 3 (.int .i64 2)).other nr11_rs 4 (.int .i64 wy)).other nr11_rs 5 (.int .i64 (tr + 1))).other nr11_rs 6 (.int .i64 (now2 + (1 + x3)))).other nr11_rs 7 (.string tt))
            replace r11 := ((((((((r11.set 0 (.int .i64 kk)).set 1 (.int .i64 ii)).set 2 (.int .u32 gg)).set 3 (.int .i64 2)).set 4 (.int .i64 wy)).set 5 (.int .i64 (tr + 1))).set 6 (.int .i64 (now2 + (1 + x3)))).set 7 (.string tt))
            simp only [List.setIfInBounds_toArray, List.set_cons_zero, List.set_cons_succ] at r11
            replace hc := ((((((((hc.setCell (p := ⟨b11, 0, none⟩) wr11 (.int .i64 kk)).setCell (p := ⟨b11, 1, none⟩) wr11 (.int .i64 ii)).setCell (p := ⟨b11, 2, none⟩) wr11 (.int .u32 gg)).setCell (p := ⟨b11, 3, none⟩) wr11 (.int .i64 2)).setCell (p := ⟨b11, 4, none⟩) wr11 (.int .i64 wy)).setCell (p := ⟨b11, 5, none⟩) wr11 (.int .i64 (tr + 1))).setCell (p := ⟨b11, 6, none⟩) wr11 (.int .i64 (now2 + (1 + x3)))).setCell (p := ⟨b11, 7, none⟩) wr11 (.string tt))
            generalize hW : World.setCell _ _ _ = V9 at *
            clear hW
            have ec := fun w => rerr_c kk ii gg 2 wy (tr + 1) (now2 + (1 + x3)) tt w hG.1 hG.2 (by omega)
            rw [hok] at ec
            have EC := Lib.hid ec
            clear ec
            have hoe := oeq_O kk ii gg
            have hse := str_beq_same tt
            have yr11 := r11.cell
            have zr11 := r11.lt
            have yr15 := r15.cell
            have zr15 := r15.lt
            have yr16 := r16.cell
            have zr16 := r16.lt
            have yr17 := r17.cell
            have zr17 := r17.lt
            have yrs := rs.cell
            have zrs := rs.lt
            go_wp2_with fail
            refine Calls.mono (EC.out _) ?_
            rintro e V10 ⟨rfl, hn⟩
            clear yr11 yr15 yr16 yr17 yrs zr11 zr15 zr16 zr17 zrs
            replace r11 := r11.on hn
            replace r15 := r15.on hn
            replace r16 := r16.on hn
            replace r17 := r17.on hn
            replace rs := rs.on hn
            replace hc := chain hc hn
            clear hn
            have yr11 := r11.cell
            have zr11 := r11.lt
            have yr15 := r15.cell
            have zr15 := r15.lt
            have yr16 := r16.cell
            have zr16 := r16.lt
            have yr17 := r17.cell
            have zr17 := r17.lt
            have yrs := rs.cell
            have zrs := rs.lt
            go_wp2_with fail
            go_roundw
            case rel => exact ⟨i + 1, 2, wy, (tr + 1), (now2 + (1 + x3)), now2, by omega, by go_num, rfl, rfl, by omega, by omega, by omega, hok, r11, hc⟩
            case measure => simp [intOf]; omega
          · subst hst
            have e1 : (x1 % 4 == 0) = false := by rw [beq_eq_false_iff_ne]; exact hk
            rw [hAk] at ea
            have hw3 : IntKind.i64.wrap (1 + x3) = 1 + x3 := IntWalk.i64_in _ ⟨by omega, by omega⟩
            have hwy : 1 ≤ wy ∧ wy ≤ 3 := by omega
            have htr0 : 0 ≤ tr ∧ tr ≤ 10000 := by omega
            have c := fun w => tried_c kk ii gg 2 wy tr nx 3 now2 (1 + x3) tt w hG.1 hG.2 (by omega)
            rw [tried_fail hR (by omega) (by omega)] at c
            have C := Lib.hid c
            clear c
            have f1 : (wy == wy) = true := beq_self_eq_true _
            have f2 : decide (1 ≤ wy) = true := by simpa using hwy.1
            have yr11 := r11.cell
            have zr11 := r11.lt
            have yr15 := r15.cell
            have zr15 := r15.lt
            have yr16 := r16.cell
            have zr16 := r16.lt
            have yr17 := r17.cell
            have zr17 := r17.lt
            go_wp2_with fail
            refine Calls.mono (C.out _) ?_
            rintro e V6 ⟨rfl, hn⟩
            clear yr11 yr15 yr16 yr17 zr11 zr15 zr16 zr17
            replace r11 := r11.on hn
            replace r15 := r15.on hn
            replace r16 := r16.on hn
            replace r17 := r17.on hn
            replace hc := chain hc hn
            clear hn
            have yr11 := r11.cell
            have zr11 := r11.lt
            have yr15 := r15.cell
            have zr15 := r15.lt
            have yr16 := r16.cell
            have zr16 := r16.lt
            have yr17 := r17.cell
            have zr17 := r17.lt
            have ur17 := r17.free
            go_upto_region 20 with fail
            clear yr11 yr15 yr16 yr17 zr11 zr15 zr16 zr17 ur17
            replace r11 := ((((((((r11.other nr11_r17.symm 0 (.int .i64 kk)).other nr11_r17.symm 1 (.int .i64 ii)).other nr11_r17.symm 2 (.int .u32 gg)).other nr11_r17.symm 3 (.int .i64 4)).other nr11_r17.symm 4 (.int .i64 wy)).other nr11_r17.symm 5 (.int .i64 tr)).other nr11_r17.symm 6 (.int .i64 0)).other nr11_r17.symm 7 (.string tt))
            replace r15 := ((((((((r15.other nr15_r17.symm 0 (.int .i64 kk)).other nr15_r17.symm 1 (.int .i64 ii)).other nr15_r17.symm 2 (.int .u32 gg)).other nr15_r17.symm 3 (.int .i64 4)).other nr15_r17.symm 4 (.int .i64 wy)).other nr15_r17.symm 5 (.int .i64 tr)).other nr15_r17.symm 6 (.int .i64 0)).other nr15_r17.symm 7 (.string tt))
            replace r16 := ((((((((r16.other nr16_r17.symm 0 (.int .i64 kk)).other nr16_r17.symm 1 (.int .i64 ii)).other nr16_r17.symm 2 (.int .u32 gg)).other nr16_r17.symm 3 (.int .i64 4)).other nr16_r17.symm 4 (.int .i64 wy)).other nr16_r17.symm 5 (.int .i64 tr)).other nr16_r17.symm 6 (.int .i64 0)).other nr16_r17.symm 7 (.string tt))
            replace r17 := ((((((((r17.set 0 (.int .i64 kk)).set 1 (.int .i64 ii)).set 2 (.int .u32 gg)).set 3 (.int .i64 4)).set 4 (.int .i64 wy)).set 5 (.int .i64 tr)).set 6 (.int .i64 0)).set 7 (.string tt))
            simp only [List.setIfInBounds_toArray, List.set_cons_zero, List.set_cons_succ] at r17
            replace hc := ((((((((hc.setCell (p := ⟨b17, 0, none⟩) wr17 (.int .i64 kk)).setCell (p := ⟨b17, 1, none⟩) wr17 (.int .i64 ii)).setCell (p := ⟨b17, 2, none⟩) wr17 (.int .u32 gg)).setCell (p := ⟨b17, 3, none⟩) wr17 (.int .i64 4)).setCell (p := ⟨b17, 4, none⟩) wr17 (.int .i64 wy)).setCell (p := ⟨b17, 5, none⟩) wr17 (.int .i64 tr)).setCell (p := ⟨b17, 6, none⟩) wr17 (.int .i64 0)).setCell (p := ⟨b17, 7, none⟩) wr17 (.string tt))
            generalize hW : World.setCell _ _ _ = V7 at *
            clear hW
            clear C
            have yr11 := r11.cell
            have zr11 := r11.lt
            have yr15 := r15.cell
            have zr15 := r15.lt
            have yr16 := r16.cell
            have zr16 := r16.lt
            have yr17 := r17.cell
            have zr17 := r17.lt
            go_upto_region 22 with fail
            clear yr11 yr15 yr16 yr17 zr11 zr15 zr16 zr17
            have rs := Row.new (W := V7) (cs := #[.int .i64 3, .int .i64 2, .int .i64 4]) (t := 3)
            have hn := below_alloc V7 (.cells #[.int .i64 3, .int .i64 2, .int .i64 4] 3)
            have nr11_rs : b11 ≠ V7.heap.size := Nat.ne_of_lt r11.lt
            have nr15_rs : b15 ≠ V7.heap.size := Nat.ne_of_lt r15.lt
            have nr16_rs : b16 ≠ V7.heap.size := Nat.ne_of_lt r16.lt
            have nr17_rs : b17 ≠ V7.heap.size := Nat.ne_of_lt r17.lt
            have wrs : w.heap.size ≤ V7.heap.size := hc.size
            replace r11 := r11.on hn
            replace r15 := r15.on hn
            replace r16 := r16.on hn
            replace r17 := r17.on hn
            replace hc := chain hc hn
            clear hn
            generalize V7.alloc (.cells #[.int .i64 3, .int .i64 2, .int .i64 4] 3) = V8 at r11 r15 r16 r17 rs hc ⊢
            generalize V7.heap.size = bs at *
            have hok : rErr kk ii gg 4 wy tr 0 tt = 0 := ok_34 (.inr rfl) hd2 ht2 hwy htr0
            have yr11 := r11.cell
            have zr11 := r11.lt
            have yr15 := r15.cell
            have zr15 := r15.lt
            have yr16 := r16.cell
            have zr16 := r16.lt
            have yr17 := r17.cell
            have zr17 := r17.lt
            have yrs := rs.cell
            have zrs := rs.lt
            have ur11 := r11.free
            go_upto_region 26 with fail
            clear yr11 yr15 yr16 yr17 yrs zr11 zr15 zr16 zr17 zrs ur11
            replace r15 := ((((((((r15.other nr11_r15 0 (.int .i64 kk)).other nr11_r15 1 (.int .i64 ii)).other nr11_r15 2 (.int .u32 gg)).other nr11_r15 3 (.int .i64 4)).other nr11_r15 4 (.int .i64 wy)).other nr11_r15 5 (.int .i64 tr)).other nr11_r15 6 (.int .i64 0)).other nr11_r15 7 (.string tt))
            replace r16 := ((((((((r16.other nr11_r16 0 (.int .i64 kk)).other nr11_r16 1 (.int .i64 ii)).other nr11_r16 2 (.int .u32 gg)).other nr11_r16 3 (.int .i64 4)).other nr11_r16 4 (.int .i64 wy)).other nr11_r16 5 (.int .i64 tr)).other nr11_r16 6 (.int .i64 0)).other nr11_r16 7 (.string tt))
            replace r17 := ((((((((r17.other nr11_r17 0 (.int .i64 kk)).other nr11_r17 1 (.int .i64 ii)).other nr11_r17 2 (.int .u32 gg)).other nr11_r17 3 (.int .i64 4)).other nr11_r17 4 (.int .i64 wy)).other nr11_r17 5 (.int .i64 tr)).other nr11_r17 6 (.int .i64 0)).other nr11_r17 7 (.string tt))
            replace rs := ((((((((rs.other nr11_rs 0 (.int .i64 kk)).other nr11_rs 1 (.int .i64 ii)).other nr11_rs 2 (.int .u32 gg)).other nr11_rs 3 (.int .i64 4)).other nr11_rs 4 (.int .i64 wy)).other nr11_rs 5 (.int .i64 tr)).other nr11_rs 6 (.int .i64 0)).other nr11_rs 7 (.string tt))
            replace r11 := ((((((((r11.set 0 (.int .i64 kk)).set 1 (.int .i64 ii)).set 2 (.int .u32 gg)).set 3 (.int .i64 4)).set 4 (.int .i64 wy)).set 5 (.int .i64 tr)).set 6 (.int .i64 0)).set 7 (.string tt))
            simp only [List.setIfInBounds_toArray, List.set_cons_zero, List.set_cons_succ] at r11
            replace hc := ((((((((hc.setCell (p := ⟨b11, 0, none⟩) wr11 (.int .i64 kk)).setCell (p := ⟨b11, 1, none⟩) wr11 (.int .i64 ii)).setCell (p := ⟨b11, 2, none⟩) wr11 (.int .u32 gg)).setCell (p := ⟨b11, 3, none⟩) wr11 (.int .i64 4)).setCell (p := ⟨b11, 4, none⟩) wr11 (.int .i64 wy)).setCell (p := ⟨b11, 5, none⟩) wr11 (.int .i64 tr)).setCell (p := ⟨b11, 6, none⟩) wr11 (.int .i64 0)).setCell (p := ⟨b11, 7, none⟩) wr11 (.string tt))
            generalize hW : World.setCell _ _ _ = V9 at *
            clear hW
            have ec := fun w => rerr_c kk ii gg 4 wy tr 0 tt w hG.1 hG.2 (by omega)
            rw [hok] at ec
            have EC := Lib.hid ec
            clear ec
            have hoe := oeq_O kk ii gg
            have hse := str_beq_same tt
            have yr11 := r11.cell
            have zr11 := r11.lt
            have yr15 := r15.cell
            have zr15 := r15.lt
            have yr16 := r16.cell
            have zr16 := r16.lt
            have yr17 := r17.cell
            have zr17 := r17.lt
            have yrs := rs.cell
            have zrs := rs.lt
            go_wp2_with fail
            refine Calls.mono (EC.out _) ?_
            rintro e V10 ⟨rfl, hn⟩
            clear yr11 yr15 yr16 yr17 yrs zr11 zr15 zr16 zr17 zrs
            replace r11 := r11.on hn
            replace r15 := r15.on hn
            replace r16 := r16.on hn
            replace r17 := r17.on hn
            replace rs := rs.on hn
            replace hc := chain hc hn
            clear hn
            have yr11 := r11.cell
            have zr11 := r11.lt
            have yr15 := r15.cell
            have zr15 := r15.lt
            have yr16 := r16.cell
            have zr16 := r16.lt
            have yr17 := r17.cell
            have zr17 := r17.lt
            have yrs := rs.cell
            have zrs := rs.lt
            go_wp2_with fail
            go_roundw
            case rel => exact ⟨i + 1, 4, wy, tr, 0, now2, by omega, by go_num, rfl, rfl, by omega, by omega, by omega, hok, r11, hc⟩
            case measure => simp [intOf]; omega
        · have e1 : (x1 % 4 == 0) = false := by rw [beq_eq_false_iff_ne]; exact hk
          have hw2 : IntKind.i64.wrap (1 + x2 % 3) = 1 + x2 % 3 := IntWalk.i64_in _ ⟨by omega, by omega⟩
          have hw3 : IntKind.i64.wrap (1 + x3) = 1 + x3 := IntWalk.i64_in _ ⟨by omega, by omega⟩
          have e2 : (st == 2) = false := by rw [beq_eq_false_iff_ne]; exact hst
          have c := fun w => tried_c kk ii gg st wy tr nx (1 + x2 % 3) now2 (1 + x3) tt w hG.1 hG.2 (by omega)
          rw [tried_not hR hst (by omega) (by omega) (by omega)] at c
          have C := Lib.hid c
          clear c
          have yr11 := r11.cell
          have zr11 := r11.lt
          have yr15 := r15.cell
          have zr15 := r15.lt
          have yr16 := r16.cell
          have zr16 := r16.lt
          have yr17 := r17.cell
          have zr17 := r17.lt
          go_wp2_with fail
          refine Calls.mono (C.out _) ?_
          rintro e V6 ⟨rfl, hn⟩
          clear yr11 yr15 yr16 yr17 zr11 zr15 zr16 zr17
          replace r11 := r11.on hn
          replace r15 := r15.on hn
          replace r16 := r16.on hn
          replace r17 := r17.on hn
          replace hc := chain hc hn
          clear hn
          have yr11 := r11.cell
          have zr11 := r11.lt
          have yr15 := r15.cell
          have zr15 := r15.lt
          have yr16 := r16.cell
          have zr16 := r16.lt
          have yr17 := r17.cell
          have zr17 := r17.lt
          have ur17 := r17.free
          go_upto_region 20 with fail
          clear yr11 yr15 yr16 yr17 zr11 zr15 zr16 zr17 ur17
          replace r11 := ((((((((r11.other nr11_r17.symm 0 (.int .i64 0)).other nr11_r17.symm 1 (.int .i64 0)).other nr11_r17.symm 2 (.int .u32 0)).other nr11_r17.symm 3 (.int .i64 0)).other nr11_r17.symm 4 (.int .i64 0)).other nr11_r17.symm 5 (.int .i64 0)).other nr11_r17.symm 6 (.int .i64 0)).other nr11_r17.symm 7 (.string ⟨#[]⟩))
          replace r15 := ((((((((r15.other nr15_r17.symm 0 (.int .i64 0)).other nr15_r17.symm 1 (.int .i64 0)).other nr15_r17.symm 2 (.int .u32 0)).other nr15_r17.symm 3 (.int .i64 0)).other nr15_r17.symm 4 (.int .i64 0)).other nr15_r17.symm 5 (.int .i64 0)).other nr15_r17.symm 6 (.int .i64 0)).other nr15_r17.symm 7 (.string ⟨#[]⟩))
          replace r16 := ((((((((r16.other nr16_r17.symm 0 (.int .i64 0)).other nr16_r17.symm 1 (.int .i64 0)).other nr16_r17.symm 2 (.int .u32 0)).other nr16_r17.symm 3 (.int .i64 0)).other nr16_r17.symm 4 (.int .i64 0)).other nr16_r17.symm 5 (.int .i64 0)).other nr16_r17.symm 6 (.int .i64 0)).other nr16_r17.symm 7 (.string ⟨#[]⟩))
          replace r17 := ((((((((r17.set 0 (.int .i64 0)).set 1 (.int .i64 0)).set 2 (.int .u32 0)).set 3 (.int .i64 0)).set 4 (.int .i64 0)).set 5 (.int .i64 0)).set 6 (.int .i64 0)).set 7 (.string ⟨#[]⟩))
          simp only [List.setIfInBounds_toArray, List.set_cons_zero, List.set_cons_succ] at r17
          replace hc := ((((((((hc.setCell (p := ⟨b17, 0, none⟩) wr17 (.int .i64 0)).setCell (p := ⟨b17, 1, none⟩) wr17 (.int .i64 0)).setCell (p := ⟨b17, 2, none⟩) wr17 (.int .u32 0)).setCell (p := ⟨b17, 3, none⟩) wr17 (.int .i64 0)).setCell (p := ⟨b17, 4, none⟩) wr17 (.int .i64 0)).setCell (p := ⟨b17, 5, none⟩) wr17 (.int .i64 0)).setCell (p := ⟨b17, 6, none⟩) wr17 (.int .i64 0)).setCell (p := ⟨b17, 7, none⟩) wr17 (.string ⟨#[]⟩))
          generalize hW : World.setCell _ _ _ = V7 at *
          clear hW
          clear C
          have hz := req_F 0 0 0 0 0 0 0 ⟨#[]⟩
          have yr11 := r11.cell
          have zr11 := r11.lt
          have yr15 := r15.cell
          have zr15 := r15.lt
          have yr16 := r16.cell
          have zr16 := r16.lt
          have yr17 := r17.cell
          have zr17 := r17.lt
          go_wp2_with fail
          go_roundw
          case rel => exact ⟨i + 1, st, wy, tr, nx, now2, by omega, by go_num, rfl, rfl, by omega, by omega, by omega, hR, r11, hc⟩
          case measure => simp [intOf]; omega
    · have hiN3 : i = N := by omega
      obtain ⟨_, _, hrg⟩ := ok_range hR
      have h4 : st = 1 ∨ st = 2 ∨ st = 3 ∨ st = 4 := by omega
      have ho := fun w => over_c kk ii gg st wy tr nx tt w hG.1 hG.2 (by omega)
      rw [over_is hR] at ho
      have HO := Lib.hid ho
      clear ho hrg hR
      rcases h4 with rfl | rfl | rfl | rfl
      · have yr11 := r11.cell
        have zr11 := r11.lt
        go_wp2_with fail
        refine Calls.mono (HO.out _) ?_
        rintro e V3 ⟨rfl, hn⟩
        clear yr11 zr11
        replace r11 := r11.on hn
        replace hc := chain hc hn
        clear hn
        have yr11 := r11.cell
        have zr11 := r11.lt
        go_wp2_with fail
        refine Calls.mono (works _ (HE.out.on hc)) ?_
        rintro e V4 ⟨rfl, hn⟩
        clear yr11 zr11
        replace r11 := r11.on hn
        replace hc := chain hc hn
        clear hn
        have yr11 := r11.cell
        have zr11 := r11.lt
        go_wp2_with fail
        go_returns
        exact ⟨rfl, hc⟩
      · have yr11 := r11.cell
        have zr11 := r11.lt
        go_wp2_with fail
        refine Calls.mono (HO.out _) ?_
        rintro e V3 ⟨rfl, hn⟩
        clear yr11 zr11
        replace r11 := r11.on hn
        replace hc := chain hc hn
        clear hn
        have yr11 := r11.cell
        have zr11 := r11.lt
        go_wp2_with fail
        refine Calls.mono (works _ (HE.out.on hc)) ?_
        rintro e V4 ⟨rfl, hn⟩
        clear yr11 zr11
        replace r11 := r11.on hn
        replace hc := chain hc hn
        clear hn
        have yr11 := r11.cell
        have zr11 := r11.lt
        go_wp2_with fail
        go_returns
        exact ⟨rfl, hc⟩
      · have yr11 := r11.cell
        have zr11 := r11.lt
        go_wp2_with fail
        refine Calls.mono (HO.out _) ?_
        rintro e V3 ⟨rfl, hn⟩
        clear yr11 zr11
        replace r11 := r11.on hn
        replace hc := chain hc hn
        clear hn
        have yr11 := r11.cell
        have zr11 := r11.lt
        go_wp2_with fail
        refine Calls.mono (works _ (HE.out.on hc)) ?_
        rintro e V4 ⟨rfl, hn⟩
        clear yr11 zr11
        replace r11 := r11.on hn
        replace hc := chain hc hn
        clear hn
        have yr11 := r11.cell
        have zr11 := r11.lt
        go_wp2_with fail
        go_returns
        exact ⟨rfl, hc⟩
      · have yr11 := r11.cell
        have zr11 := r11.lt
        go_wp2_with fail
        refine Calls.mono (HO.out _) ?_
        rintro e V3 ⟨rfl, hn⟩
        clear yr11 zr11
        replace r11 := r11.on hn
        replace hc := chain hc hn
        clear hn
        have yr11 := r11.cell
        have zr11 := r11.lt
        go_wp2_with fail
        refine Calls.mono (works _ (HE.out.on hc)) ?_
        rintro e V4 ⟨rfl, hn⟩
        clear yr11 zr11
        replace r11 := r11.on hn
        replace hc := chain hc hn
        clear hn
        have yr11 := r11.cell
        have zr11 := r11.lt
        go_wp2_with fail
        go_returns
        exact ⟨rfl, hc⟩
end Go.Proofs.YtgckfiadnmjonaaGreatDoor
