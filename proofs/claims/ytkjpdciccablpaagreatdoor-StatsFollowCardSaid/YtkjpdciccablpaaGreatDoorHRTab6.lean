/- The reference's table (chapter 37): Open. -/
import Derived.Test.YtkjpdciccablpaaGreatDoorL4a
import Derived.Test.YtkjpdciccablpaaGreatDoorHRTab4
import Derived.Test.YtkjpdciccablpaaGreatDoorHTab7
namespace Go.Proofs.YtkjpdciccablpaaGreatDoor
open Go.RowKit
set_option linter.unusedVariables false
set_option linter.unusedSimpArgs false
set_option maxHeartbeats 16000000
set_option maxRecDepth 20000
theorem res_oneC (n : Nat) : ∀ u ∈ (#[.int .i64 1, .int .i64 n, .int .u32 1, .int .i64 1, .int .i64 0, .int .i64 0, .int .i64 0, .string tagB] : Array Value).toList, u.oneCell' = true := by
  intro u hu
  simp only [List.mem_cons, List.not_mem_nil, or_false] at hu
  rcases hu with rfl | rfl | rfl | rfl | rfl | rfl | rfl | rfl <;> rfl
/-- The table with one resource more. -/
theorem rt_grow {w X W : World} {F : Nat → Prop} {p : Nat} {sl : List SlotR} {rs : List RS} {z B0 : Nat} {vs vl vr v9 : Value} (h : RTb w F p sl rs z vs vl vr) (hX0 : Below w.heap.size w X) (hB : B0 = X.heap.size) (hX : Below B0 X W)
    (ho : OwnsC RrT 8 B0 W v9 (resL (rs ++ [⟨1, 0, 0⟩]))) (hn : rs.length < 60) :
    RTb (W.setCell ⟨p, 2, none⟩ v9) (fun b => F b ∨ v9.ownBlock = some b) p sl (rs ++ [⟨1, 0, 0⟩]) z vs vl v9 ∧ (∀ b, v9.ownBlock = some b → X.heap.size ≤ b) ∧ But F w (W.setCell ⟨p, 2, none⟩ v9) ∧ (∀ (x : Nat) (cs : Array Value) (t : TypeId), Row X x cs t → x ≠ p → Row (W.setCell ⟨p, 2, none⟩ v9) x cs t) := by
  subst hB
  have hwX : Below w.heap.size w W := hX0.trans (hX.mono hX0.size)
  have hb : But (fun b => b = p) w (W.setCell ⟨p, 2, none⟩ v9) := (but_of (fun b => b = p) hwX).setCell (y := p) (fun _ => rfl) 2 v9
  obtain ⟨q1, q2, q3⟩ := h.put hb
  have rpW := h.row.on hwX
  have rp := rpW.set 2 v9
  simp only [List.setIfInBounds_toArray, List.set_cons_zero, List.set_cons_succ] at rp
  have ho2 := ho.other (ho.ne_row rpW (by decide)) 2 v9
  have hG : ∀ b, (F b ∨ v9.ownBlock = some b) → b < (W.setCell ⟨p, 2, none⟩ v9).heap.size := fun b hF => by
    rcases hF with hF | hF
    · exact Nat.lt_of_lt_of_le (h.fin b hF) hb.size
    · exact (ho2.lt b hF).2
  refine ⟨{
    row := rp
    rsl := q1.wide (fun b h => .inl h) hG
    el := q2
    rl := ho2.base (Nat.zero_le _)
    fp := .inl h.fp
    fl := fun b hb => .inl (h.fl b hb)
    fr := fun b hb => .inr hb
    most := by rw [List.length_append, List.length_singleton]; omega
    gens := h.gens
    owns := fun i s k hi hk => by
      have := h.owns i s k hi hk
      rw [List.length_append]
      omega }, fun b hb => (ho.lt b hb).1, hb.wide (fun b hb => by rw [hb]; exact h.fp), fun x cs t hr hx => (hr.on hX).other (fun e => hx e.symm) 2 v9⟩
theorem rtopen_c {w : World} {F : Nat → Prop} {p : Nat} {sl : List SlotR} {rs : List RS} {z : Nat} {vs vl vr : Value} {i : Nat} {s : SlotR} (h : RTb w F p sl rs z vs vl vr) (hn : rs.length < 60) (hi : sl[i]? = some s) (hs : isFree s = true) (hbf : ∀ j x, j < i → sl[j]? = some x → isFree x = false) (hf : 0 < freeN sl) :
    Calls Tryz.prog 30 #[ptr p, .agg #[.int .i64 1, .int .i64 rs.length, .int .u32 1], .string tagB, .agg #[.int .i64 rs.length, .int .u32 1]] w fun e w' => e = .returned (.tuple #[dV 1 i s.gen, .int .i64 0]) ∧ RTab w' (fun b => F b ∨ FreshL w w' b) p (sl.set i ⟨some rs.length, s.gen⟩) (rs ++ [⟨1, 0, 0⟩]) ∧ But F w w' := by
  obtain ⟨i0, hi0, hz0, hz1, hz2⟩ := info_parts rres_info
  have HI0 := Lib.hid hi0
  have HZ0 := Lib.hid hz0
  have HZ1 := Lib.hid hz1
  have HZ2 := Lib.hid hz2
  clear hi0 hz0 hz1 hz2
  have HH := Lib.hid h
  have cn := fun W => rnew_c 1 rs.length 1 tagB W (by omega) (by decide)
  rw [new_ok rs.length hn] at cn
  have CN := Lib.hid cn
  have CH := Lib.hid (fun W (hb : Below w.heap.size w W) => rhas_c (n := rs.length) (h.on hb) (Nat.le_refl _) (by omega))
  have CO := Lib.hid (fun W => robject_c rs.length (by omega) W)
  have CF := Lib.hid (fun W (hb : Below w.heap.size w W) => rs_free (h.rsl.on hb))
  have HIS := Lib.hid (show sl[i]? = some s ∧ isFree s = true ∧ ∀ j x, j < i → sl[j]? = some x → isFree x = false from ⟨hi, hs, hbf⟩)
  obtain ⟨ar, cr, hvr⟩ := h.rlist
  have hfl : freeN sl ≤ 64 := by
    have h1 : freeN sl ≤ sl.length := List.countP_le_length
    rw [h.rsl.len] at h1
    exact h1
  have HLEN := Lib.hid (show rs.length = rs.length from rfl)
  obtain ⟨n, hnn⟩ : ∃ n, rs.length = n := ⟨_, rfl⟩
  have HN := Lib.hid hnn
  rw [hnn] at hvr hn CN CH CO ⊢
  subst hvr
  obtain ⟨fN, hfN⟩ : ∃ n, freeN sl = n := ⟨_, rfl⟩
  rw [hfN] at CF hf hfl
  clear h cn hi hs hbf hnn hfN
  have n0 : ¬ ((n : Int) ≥ 2000) := by omega
  have n1 : (0 : Int) ≤ (n : Int) := by omega
  have f0 : ((fN : Int) == 0) = false := by rw [beq_eq_false_iff_ne]; omega
  go_enter Tryz.func30, Tryz.ntmps30
  go_upto_region 1 with fail
  have hs1 : (w.alloc (.cells #[.int .i64 1, .int .i64 n, .int .u32 1] 83)).heap.size = w.heap.size + 1 := by simp
  have hb1 := below_alloc w (.cells #[.int .i64 1, .int .i64 n, .int .u32 1] 83)
  have r5 := Row.new (W := w) (cs := #[.int .i64 1, .int .i64 n, .int .u32 1]) (t := 83)
  generalize w.alloc _ = V1 at *
  have hs2 : (V1.alloc (.cells #[.int .i64 n, .int .u32 1] RefT)).heap.size = w.heap.size + 2 := by simp [hs1]
  have hb2 := below_alloc V1 (.cells #[.int .i64 n, .int .u32 1] RefT)
  have r7 := Row.new (W := V1) (cs := #[.int .i64 n, .int .u32 1]) (t := RefT)
  rw [hs1] at r7
  replace r5 := r5.on hb2
  replace hb2 := chain hb1 hb2
  clear hb1
  generalize V1.alloc _ = V2 at *
  have hb3 := below_alloc V2 (.cells #[.int .i64 0, .int .i64 0, .int .u32 0] 87)
  have r8 := Row.new (W := V2) (cs := #[.int .i64 0, .int .i64 0, .int .u32 0]) (t := 87)
  rw [hs2] at r8
  replace r5 := r5.on hb3
  replace r7 := r7.on hb3
  have hc := chain hb2 hb3
  clear hb2 hb3 hs1 hs2
  generalize V2.alloc _ = V3 at *
  go_wp2_with fail
  refine Calls.mono (rvalid_c (HH.out.on hc).row) ?_
  rintro e V4 ⟨rfl, hW⟩
  subst V4
  have y5 := r5.cell
  have z5 := r5.lt
  go_wp2_with fail
  refine Calls.mono (CN.out _) ?_
  rintro e V4 ⟨rfl, hn4⟩
  replace r5 := r5.on hn4
  replace r7 := r7.on hn4
  replace r8 := r8.on hn4
  replace hc := chain hc hn4
  clear hn4 y5 z5 CN
  go_upto_region 4 with fail
  have hn4 := below_alloc V4 (.cells #[.int .i64 1, .int .i64 n, .int .u32 1, .int .i64 1, .int .i64 0, .int .i64 0, .int .i64 0, .string tagB] RrT)
  have r10 := Row.new (W := V4) (cs := #[.int .i64 1, .int .i64 n, .int .u32 1, .int .i64 1, .int .i64 0, .int .i64 0, .int .i64 0, .string tagB]) (t := RrT)
  have ha10 := r8.lt
  replace r5 := r5.on hn4
  replace r7 := r7.on hn4
  replace r8 := r8.on hn4
  replace hc := chain hc hn4
  clear hn4
  generalize V4.alloc _ = V5 at *
  generalize V4.heap.size = a10 at *
  have y7 := r7.cell
  have z7 := r7.lt
  go_wp2_with fail
  refine Calls.mono (CO.out _) ?_
  rintro e V6 ⟨rfl, hn4⟩
  replace r5 := r5.on hn4
  replace r7 := r7.on hn4
  replace r8 := r8.on hn4
  replace r10 := r10.on hn4
  replace hc := chain hc hn4
  clear hn4 y7 z7 CO
  go_wp2_with fail
  go_loopw [12] (fun iv wr => ∃ j : Nat, j ≤ n ∧ iv = .int .i64 j ∧ Below V6.heap.size V6 wr) (fun iv _ => n - (intOf iv).toNat)
  case atStart => exact ⟨0, by omega, rfl, Below.refl _ _⟩
  case round =>
    obtain ⟨j, hj, rfl, hl⟩ := hrel
    have hc2 := hc.trans (hl.mono hc.size)
    have hT := HH.out.on hc2
    have y1 := hT.row.cell
    have z1 := hT.row.lt
    by_cases hlt : j < n
    · have j0 : (0 : Int) ≤ (j : Int) := by omega
      have j1 : (j : Int) < (n : Int) := by omega
      obtain ⟨r, hr⟩ : ∃ r, rs[j]? = some r := ⟨_, List.getElem?_eq_getElem (by rw [HN.out]; exact hlt)⟩
      obtain ⟨g, c', hv, hg, _, hc8⟩ := hT.res hr
      injection hv with hv1 hv2 hv3
      subst hv1
      obtain ⟨c0, c1, c2, c3, c4, c5, c6, c7⟩ := res_eight hc8
      have hne : ((j : Int) == (n : Int)) = false := by rw [beq_eq_false_iff_ne]; omega
      have y5 := (r5.on hl).cell
      have z5 := (r5.on hl).lt
      have HL := Lib.hid hl
      clear hT hr hv2 hv3 hc8 c3 c4 c5 c6 c7 hc2 hl
      go_wp2_with fail
      go_quiet (fail)
      go_wp2_with fail
      go_roundw
      case rel => exact ⟨j + 1, by omega, by go_num, below_nth HL.out _⟩
      case measure => simp [intOf]; omega
    · obtain rfl : j = n := by omega
      replace r7 := r7.on hl
      replace r8 := r8.on hl
      replace r10 := r10.on hl
      clear hT r5 hc
      have hc := hc2
      clear hc2 hl
      have y7 := r7.cell
      have z7 := r7.lt
      go_wp2_with fail
      refine Calls.mono (CH.out _ hc) ?_
      rintro e V7 ⟨rfl, hn4⟩
      replace r7 := r7.on hn4
      replace r8 := r8.on hn4
      replace r10 := r10.on hn4
      replace hc := chain hc hn4
      clear hn4 y7 z7 CH y1 z1
      have y1 := (HH.out.on hc).row.cell
      have z1 := (HH.out.on hc).row.lt
      go_wp2_with fail
      refine Calls.mono (CF.out _ hc) ?_
      rintro e V8 ⟨rfl, hn4⟩
      replace r7 := r7.on hn4
      replace r8 := r8.on hn4
      replace r10 := r10.on hn4
      replace hc := chain hc hn4
      clear hn4 y1 z1 CF
      go_upto_region 17 with fail
      go_cut [] (fun wx => ∃ v9, RTb wx (fun b => F b ∨ v9.ownBlock = some b) p sl (rs ++ [⟨1, 0, 0⟩]) z vs vl v9 ∧ (∀ b, v9.ownBlock = some b → w.heap.size + 2 < b) ∧ But F w wx ∧ Row wx (w.heap.size + 1) #[.int .i64 j, .int .u32 1] RefT ∧ Row wx (w.heap.size + 2) #[.int .i64 0, .int .i64 0, .int .u32 0] 87)
      case first =>
        have hT := HH.out.on hc
        have rp := hT.row
        have hSR0 := hT.rl.src resL_one2
        have hsrL : ∀ g, (Value.slice ar j cr).ownBlock = some g → g < V8.heap.size := fun g hg => (hT.rl.lt g hg).2
        clear hT
        refine region_last 12 (S := fun W' => (∀ q, W'.cell? ⟨p, q, none⟩ = (#[ptr z, vl, .slice ar j cr] : Array Value)[q]?) ∧ (∀ q, W'.cell? ⟨a10, q, none⟩ = (#[.int .i64 1, .int .i64 j, .int .u32 1, .int .i64 1, .int .i64 0, .int .i64 0, .int .i64 0, .string tagB] : Array Value)[q]?)) (by kernel_rfl) ⟨rp.cell, r10.cell⟩ (fun hHeld => ?_)
        replace rp := rp.drew
        replace r7 := r7.drew
        replace r8 := r8.drew
        replace r10 := r10.drew
        replace hc := hc.drew
        have hSR : Src V8.drew 8 (.slice ar j cr) (resL rs) := hSR0.keep (fun _ _ => rfl)
        replace hsrL : ∀ g, (Value.slice ar j cr).ownBlock = some g → g < V8.drew.heap.size := hsrL
        clear hSR0
        generalize V8.drew = X at *
        have hX : Below X.heap.size X X := Below.refl _ _
        have hRP := Lib.hid (fun W (hb : Below X.heap.size X W) => rp.on hb)
        have hR10 := Lib.hid (fun W (hb : Below X.heap.size X W) => r10.on hb)
        have hpw := HH.out.fin p HH.out.fp
        have ha10X := r10.lt
        have END := Lib.hid (show ∀ (a9 : Option Addr) (c9 : Nat) (W : World), Below X.heap.size X W → OwnsC RrT 8 X.heap.size W (.slice a9 (j + 1) c9) (resL (rs ++ [⟨1, 0, 0⟩])) → RTb (W.setCell ⟨p, 2, none⟩ (.slice a9 (j + 1) c9)) (fun b => F b ∨ (Value.slice a9 (j + 1) c9).ownBlock = some b) p sl (rs ++ [⟨1, 0, 0⟩]) z vs vl (.slice a9 (j + 1) c9) ∧ (∀ b, (Value.slice a9 (j + 1) c9).ownBlock = some b → w.heap.size + 2 < b) ∧ But F w (W.setCell ⟨p, 2, none⟩ (.slice a9 (j + 1) c9)) ∧ Row (W.setCell ⟨p, 2, none⟩ (.slice a9 (j + 1) c9)) (w.heap.size + 1) #[.int .i64 j, .int .u32 1] RefT ∧ Row (W.setCell ⟨p, 2, none⟩ (.slice a9 (j + 1) c9)) (w.heap.size + 2) #[.int .i64 0, .int .i64 0, .int .u32 0] 87 from fun a9 c9 W hX h9 => by
          obtain ⟨q1, q2, q3, q4⟩ := rt_grow HH.out hc rfl hX h9 (by rw [HN.out]; exact hn)
          exact ⟨q1, fun b hb => by have := q2 b hb; omega, q3, q4 _ _ _ r7 (by omega), q4 _ _ _ r8 (by omega)⟩)
        have hEQ := Lib.hid (show resL rs ++ [(#[.int .i64 1, .int .i64 j, .int .u32 1, .int .i64 1, .int .i64 0, .int .i64 0, .int .i64 0, .string tagB] : Array Value).toList] = resL (rs ++ [⟨1, 0, 0⟩]) by rw [resL_snoc, HN.out]; rfl)
        have hl6 : ([] : List (List Value)).length + (resL rs).length = j := by rw [resL_len, HN.out]; simp
        have hl9 : (resL rs).length + [(#[.int .i64 1, .int .i64 j, .int .u32 1, .int .i64 1, .int .i64 0, .int .i64 0, .int .i64 0, .string tagB] : Array Value).toList].length = j + 1 := by rw [resL_len, HN.out]; rfl
        clear r7 r8 rp r10
        obtain ⟨B0, hB0⟩ : ∃ B, X.heap.size = B := ⟨_, rfl⟩
        rw [hB0] at hRP hR10 hX hsrL END
        have hBW : B0 ≤ X.heap.size := by rw [hB0]; exact Nat.le_refl _
        clear hB0 hc ha10X
        refine' anyL_take (i := 0) (oi := _) (v := _) ?_ (by kernel_rfl) (by kernel_rfl) (by kernel_rfl) (by kernel_rfl) ?_ (Or.inl ⟨?_, ?_⟩) (by assumption) ?_
        rotate_left 2
        · (simp only [List.getElem?_toArray, List.getElem?_cons_succ, List.getElem?_cons_zero]; rfl)
        · first | exact fun _ _ _ h => h | exact fun _ _ _ h => nomatch h.1
        · rfl
        · (intro W hSW; (try dsimp only at hSW); go_split_ands; first | (go_simp; done) | (go_simp; with_reducible rfl))
        try simp only [Act.put, List.setIfInBounds_toArray, List.set_cons_zero, List.set_cons_succ]
        refine' anyL_take (i := 2) (oi := _) (v := _) ?_ (by kernel_rfl) (by kernel_rfl) (by kernel_rfl) (by kernel_rfl) ?_ (Or.inl ⟨?_, ?_⟩) (by assumption) ?_
        rotate_left 2
        · (simp only [List.getElem?_toArray, List.getElem?_cons_succ, List.getElem?_cons_zero]; rfl)
        · first | exact fun _ _ _ h => h | exact fun _ _ _ h => nomatch h.1
        · rfl
        · (intro W hSW; (try dsimp only at hSW); go_split_ands; first | (go_simp; done) | (go_simp; with_reducible rfl))
        try simp only [Act.put, List.setIfInBounds_toArray, List.set_cons_zero, List.set_cons_succ]
        refine' anyL_take (i := 3) (oi := _) (v := _) ?_ (by kernel_rfl) (by kernel_rfl) (by kernel_rfl) (by kernel_rfl) ?_ (Or.inl ⟨?_, ?_⟩) (by assumption) ?_
        rotate_left 2
        · (simp only [List.getElem?_toArray, List.getElem?_cons_succ, List.getElem?_cons_zero]; rfl)
        · first | exact fun _ _ _ h => h | exact fun _ _ _ h => nomatch h.1
        · rfl
        · (intro W hSW; (try dsimp only at hSW); go_split_ands; first | (go_simp; done) | (go_simp; with_reducible rfl))
        try simp only [Act.put, List.setIfInBounds_toArray, List.set_cons_zero, List.set_cons_succ]
        refine' anyL_take (i := 4) (oi := _) (v := _) ?_ (by kernel_rfl) (by kernel_rfl) (by kernel_rfl) (by kernel_rfl) ?_ (Or.inl ⟨?_, ?_⟩) (by assumption) ?_
        rotate_left 2
        · (simp only [List.getElem?_toArray, List.getElem?_cons_succ, List.getElem?_cons_zero]; rfl)
        · first | exact fun _ _ _ h => h | exact fun _ _ _ h => nomatch h.1
        · rfl
        · (intro W hSW; (try dsimp only at hSW); go_split_ands; first | (go_simp; done) | (go_simp; with_reducible rfl))
        try simp only [Act.put, List.setIfInBounds_toArray, List.set_cons_zero, List.set_cons_succ]
        refine' anyL_take (i := 5) (oi := _) (v := _) ?_ (by kernel_rfl) (by kernel_rfl) (by kernel_rfl) (by kernel_rfl) ?_ (Or.inl ⟨?_, ?_⟩) (by assumption) ?_
        rotate_left 2
        · (simp only [List.getElem?_toArray, List.getElem?_cons_succ, List.getElem?_cons_zero]; rfl)
        · first | exact fun _ _ _ h => h | exact fun _ _ _ h => nomatch h.1
        · rfl
        · (intro W hSW; (try dsimp only at hSW); go_split_ands; first | (go_simp; done) | (go_simp; with_reducible rfl))
        try simp only [Act.put, List.setIfInBounds_toArray, List.set_cons_zero, List.set_cons_succ]
        refine' anyL_take (i := 7) (oi := _) (v := _) ?_ (by kernel_rfl) (by kernel_rfl) (by kernel_rfl) (by kernel_rfl) ?_ (Or.inl ⟨?_, ?_⟩) (by assumption) ?_
        rotate_left 2
        · (simp only [List.getElem?_toArray, List.getElem?_cons_succ, List.getElem?_cons_zero]; rfl)
        · first | exact fun _ _ _ h => h | exact fun _ _ _ h => nomatch h.1
        · rfl
        · (intro W hSW; (try dsimp only at hSW); go_split_ands; first | (go_simp; done) | (go_simp; with_reducible rfl))
        try simp only [Act.put, List.setIfInBounds_toArray, List.set_cons_zero, List.set_cons_succ]
        clear hHeld
        refine anyL_ready (rs := [1, 8]) (by kernel_rfl) (by simp) ?_
        refine' ReadyL.cons (o := _) (by simp only [List.getElem?_toArray, List.getElem?_cons_succ, List.getElem?_cons_zero]; rfl) (fun K hK => ?_) (ReadyL.cons (o := _) (by simp only [List.getElem?_toArray, List.getElem?_cons_succ, List.getElem?_cons_zero]; rfl) (fun K hK => ?_) ReadyL.nil)
        · go_simp
          have hn := below_alloc X (.cells #[] RrT)
          have hmd := (OwnsC.made (t := RrT) (k := 8) (b := B0) X).2 hBW
          replace hX := hX.trans (hn.mono hBW)
          replace hBW := Nat.le_trans hBW hn.size
          clear hn
          generalize X.alloc _ = W1 at *
          generalize X.heap.size = aM at *
          refine hK.out _ _ (fun _ => ⟨(hRP.out _ hX).cell, (hR10.out _ hX).cell⟩) (fun hHeld0 => ?_)
          have hHeld := hHeld0 (by decide)
          clear hHeld0 hK K
          refine anyL_ready (rs := [6, 8]) (by kernel_rfl) (by simp) ?_
          refine' ReadyL.cons (o := _) (by simp only [List.getElem?_toArray, List.getElem?_cons_succ, List.getElem?_cons_zero]; rfl) (fun K hK => ?_) (ReadyL.cons (o := _) (by simp only [List.getElem?_toArray, List.getElem?_cons_succ, List.getElem?_cons_zero]; rfl) (fun K hK => ?_) ReadyL.nil)
          · have hsr2 := hSR.keep (W' := W1) (fun g hg => hX.block g (hsrL g hg))
            refine step_app rfl (.tmp 71) (.tmp 75) 79 rfl (b := B0) Tryz.underlying79 HI0.out HZ0.out HZ1.out HZ2.out rfl (by decide) rfl rfl hmd hsr2 (by rw [hl6]; omega) (by decide) hBW ?_
            rw [hl6]
            intro a6' c6' W2 h6 hgrow
            rw [List.nil_append] at h6
            replace hX := hX.grown hgrow hBW (fun k hk => (hmd.lt k hk).1)
            replace hBW := Nat.le_trans hBW hgrow.size
            clear hgrow hmd hsr2
            go_simp
            refine hK.out _ _ (fun _ => ⟨(hRP.out _ hX).cell, (hR10.out _ hX).cell⟩) (fun hHeld0 => ?_)
            have hHeld := hHeld0 (by decide)
            clear hHeld0 hK K
            refine anyL_ready (rs := [8]) (by kernel_rfl) (by simp) ?_
            refine' ReadyL.cons (o := _) (by simp only [List.getElem?_toArray, List.getElem?_cons_succ, List.getElem?_cons_zero]; rfl) (fun K hK => ?_) ReadyL.nil
            go_simp
            have hn := below_alloc W2 (.cells #[.int .i64 1, .int .i64 j, .int .u32 1, .int .i64 1, .int .i64 0, .int .i64 0, .int .i64 0, .string tagB] RrT)
            have hit := src_row (t := RrT) (k := 8) W2 #[.int .i64 1, .int .i64 j, .int .u32 1, .int .i64 1, .int .i64 0, .int .i64 0, .int .i64 0, .string tagB] rfl (fun u hu => res_oneC j u hu)
            have haI : W2.heap.size < (W2.alloc (.cells #[.int .i64 1, .int .i64 j, .int .u32 1, .int .i64 1, .int .i64 0, .int .i64 0, .int .i64 0, .string tagB] RrT)).heap.size := by simp
            replace h6 := h6.on hn
            replace hX := hX.trans (hn.mono hBW)
            replace hBW := Nat.le_trans hBW hn.size
            clear hn
            generalize W2.alloc _ = W3 at *
            generalize W2.heap.size = aI at *
            refine hK.out _ _ (fun _ => ⟨(hRP.out _ hX).cell, (hR10.out _ hX).cell⟩) (fun hHeld0 => ?_)
            have hHeld := hHeld0 (by decide)
            clear hHeld0 hK K
            refine anyL_ready (rs := [9]) (by kernel_rfl) (by simp) ?_
            refine' ReadyL.cons (o := _) (by simp only [List.getElem?_toArray, List.getElem?_cons_succ, List.getElem?_cons_zero]; rfl) (fun K hK => ?_) ReadyL.nil
            refine step_app rfl (.tmp 76) (.tmp 78) 79 rfl (b := B0) Tryz.underlying79 HI0.out HZ0.out HZ1.out HZ2.out rfl (by decide) rfl rfl h6 hit (by rw [hl9]; omega) (by decide) hBW ?_
            rw [hl9]
            intro a9' c9' W9 h9 hgrow
            replace hX := hX.grown hgrow hBW (fun k hk => (h6.lt k hk).1)
            replace hBW := Nat.le_trans hBW hgrow.size
            clear hgrow h6 hit
            rw [hEQ.out] at h9
            go_simp
            refine hK.out _ _ (fun _ => ⟨(hRP.out _ hX).cell, (hR10.out _ hX).cell⟩) (fun hHeld0 => ?_)
            have hHeld := hHeld0 (by decide)
            clear hHeld0 hK K
            refine anyL_ready (rs := [10]) (by kernel_rfl) (by simp) ?_
            refine' ReadyL.cons (o := _) ?_ (fun K hK => ?_) ReadyL.nil
            rotate_left 1
            · (simp only [List.getElem?_toArray, List.getElem?_cons_succ, List.getElem?_cons_zero]; rfl)
            go_simp
            refine hK.out _ _ (fun _ => ⟨(hRP.out _ hX).cell, (hR10.out _ hX).cell⟩) (fun hHeld0 => ?_)
            have hHeld := hHeld0 (by decide)
            clear hHeld0 hK K
            refine' anyL_take (i := 11) (oi := _) (v := _) ?_ (by kernel_rfl) (by kernel_rfl) (by kernel_rfl) (by kernel_rfl) ?_ (Or.inl ⟨?_, ?_⟩) (by assumption) ?_
            rotate_left 2
            · (simp only [List.getElem?_toArray, List.getElem?_cons_succ, List.getElem?_cons_zero]; rfl)
            · first | exact fun _ _ _ h => h | exact fun _ _ _ h => nomatch h.1
            · rfl
            · (intro W hSW; (try dsimp only at hSW); go_split_ands; first | (go_simp; done) | (go_simp; with_reducible rfl))
            try simp only [Act.put, List.setIfInBounds_toArray, List.set_cons_zero, List.set_cons_succ]
            clear hHeld
            have yp := (hRP.out _ hX).cell
            have zp := (hRP.out _ hX).lt
            have up := (hRP.out _ hX).free
            refine anyL_ready (rs := [12]) (by kernel_rfl) (by simp) ?_
            refine' ReadyL.cons (o := _) ?_ (fun K hK => ?_) ReadyL.nil
            rotate_left 1
            · (simp only [List.getElem?_toArray, List.getElem?_cons_succ, List.getElem?_cons_zero]; rfl)
            go_simp
            clear yp zp up
            refine hK.out _ _ (fun h => absurd rfl h) (fun _ => ?_)
            clear hK K
            refine anyL_done (by kernel_rfl) ?_ _
            have hE := END.out _ _ _ hX h9
            clear hX h9 hBW
            generalize World.setCell _ _ _ = Z at *
            go_wp2_with fail
            go_meet
            exact ⟨_, hE⟩
          · go_simp
            have hn := below_alloc W1 (.cells #[.int .i64 1, .int .i64 j, .int .u32 1, .int .i64 1, .int .i64 0, .int .i64 0, .int .i64 0, .string tagB] RrT)
            have hit := src_row (t := RrT) (k := 8) W1 #[.int .i64 1, .int .i64 j, .int .u32 1, .int .i64 1, .int .i64 0, .int .i64 0, .int .i64 0, .string tagB] rfl (fun u hu => res_oneC j u hu)
            have haI : W1.heap.size < (W1.alloc (.cells #[.int .i64 1, .int .i64 j, .int .u32 1, .int .i64 1, .int .i64 0, .int .i64 0, .int .i64 0, .string tagB] RrT)).heap.size := by simp
            have hIM : W1.heap.size ≠ aM := fun e => by have := (hmd.lt aM rfl).2; omega
            replace hmd := hmd.on hn
            replace hX := hX.trans (hn.mono hBW)
            replace hBW := Nat.le_trans hBW hn.size
            clear hn
            generalize W1.alloc _ = W2 at *
            generalize W1.heap.size = aI at *
            refine hK.out _ _ (fun _ => ⟨(hRP.out _ hX).cell, (hR10.out _ hX).cell⟩) (fun hHeld0 => ?_)
            have hHeld := hHeld0 (by decide)
            clear hHeld0 hK K
            refine anyL_ready (rs := [6]) (by kernel_rfl) (by simp) ?_
            refine' ReadyL.cons (o := _) (by simp only [List.getElem?_toArray, List.getElem?_cons_succ, List.getElem?_cons_zero]; rfl) (fun K hK => ?_) ReadyL.nil
            have hsr2 := hSR.keep (W' := W2) (fun g hg => hX.block g (hsrL g hg))
            refine step_app rfl (.tmp 71) (.tmp 75) 79 rfl (b := B0) Tryz.underlying79 HI0.out HZ0.out HZ1.out HZ2.out rfl (by decide) rfl rfl hmd hsr2 (by rw [hl6]; omega) (by decide) hBW ?_
            rw [hl6]
            intro a6' c6' W3 h6 hgrow
            rw [List.nil_append] at h6
            replace hit := hit.keep (fun g hg => hgrow.block g (by have : aI = g := Option.some.inj hg; omega) (fun e => by have h1 : aI = g := Option.some.inj hg; have h2 : g = aM := Option.some.inj e; omega))
            replace hX := hX.grown hgrow hBW (fun k hk => (hmd.lt k hk).1)
            replace hBW := Nat.le_trans hBW hgrow.size
            clear hgrow hmd hsr2
            go_simp
            refine hK.out _ _ (fun _ => ⟨(hRP.out _ hX).cell, (hR10.out _ hX).cell⟩) (fun hHeld0 => ?_)
            have hHeld := hHeld0 (by decide)
            clear hHeld0 hK K
            refine anyL_ready (rs := [9]) (by kernel_rfl) (by simp) ?_
            refine' ReadyL.cons (o := _) (by simp only [List.getElem?_toArray, List.getElem?_cons_succ, List.getElem?_cons_zero]; rfl) (fun K hK => ?_) ReadyL.nil
            refine step_app rfl (.tmp 76) (.tmp 78) 79 rfl (b := B0) Tryz.underlying79 HI0.out HZ0.out HZ1.out HZ2.out rfl (by decide) rfl rfl h6 hit (by rw [hl9]; omega) (by decide) hBW ?_
            rw [hl9]
            intro a9' c9' W9 h9 hgrow
            replace hX := hX.grown hgrow hBW (fun k hk => (h6.lt k hk).1)
            replace hBW := Nat.le_trans hBW hgrow.size
            clear hgrow h6 hit
            rw [hEQ.out] at h9
            go_simp
            refine hK.out _ _ (fun _ => ⟨(hRP.out _ hX).cell, (hR10.out _ hX).cell⟩) (fun hHeld0 => ?_)
            have hHeld := hHeld0 (by decide)
            clear hHeld0 hK K
            refine anyL_ready (rs := [10]) (by kernel_rfl) (by simp) ?_
            refine' ReadyL.cons (o := _) ?_ (fun K hK => ?_) ReadyL.nil
            rotate_left 1
            · (simp only [List.getElem?_toArray, List.getElem?_cons_succ, List.getElem?_cons_zero]; rfl)
            go_simp
            refine hK.out _ _ (fun _ => ⟨(hRP.out _ hX).cell, (hR10.out _ hX).cell⟩) (fun hHeld0 => ?_)
            have hHeld := hHeld0 (by decide)
            clear hHeld0 hK K
            refine' anyL_take (i := 11) (oi := _) (v := _) ?_ (by kernel_rfl) (by kernel_rfl) (by kernel_rfl) (by kernel_rfl) ?_ (Or.inl ⟨?_, ?_⟩) (by assumption) ?_
            rotate_left 2
            · (simp only [List.getElem?_toArray, List.getElem?_cons_succ, List.getElem?_cons_zero]; rfl)
            · first | exact fun _ _ _ h => h | exact fun _ _ _ h => nomatch h.1
            · rfl
            · (intro W hSW; (try dsimp only at hSW); go_split_ands; first | (go_simp; done) | (go_simp; with_reducible rfl))
            try simp only [Act.put, List.setIfInBounds_toArray, List.set_cons_zero, List.set_cons_succ]
            clear hHeld
            have yp := (hRP.out _ hX).cell
            have zp := (hRP.out _ hX).lt
            have up := (hRP.out _ hX).free
            refine anyL_ready (rs := [12]) (by kernel_rfl) (by simp) ?_
            refine' ReadyL.cons (o := _) ?_ (fun K hK => ?_) ReadyL.nil
            rotate_left 1
            · (simp only [List.getElem?_toArray, List.getElem?_cons_succ, List.getElem?_cons_zero]; rfl)
            go_simp
            clear yp zp up
            refine hK.out _ _ (fun h => absurd rfl h) (fun _ => ?_)
            clear hK K
            refine anyL_done (by kernel_rfl) ?_ _
            have hE := END.out _ _ _ hX h9
            clear hX h9 hBW
            generalize World.setCell _ _ _ = Z at *
            go_wp2_with fail
            go_meet
            exact ⟨_, hE⟩
        · go_simp
          have hn := below_alloc X (.cells #[.int .i64 1, .int .i64 j, .int .u32 1, .int .i64 1, .int .i64 0, .int .i64 0, .int .i64 0, .string tagB] RrT)
          have hit := src_row (t := RrT) (k := 8) X #[.int .i64 1, .int .i64 j, .int .u32 1, .int .i64 1, .int .i64 0, .int .i64 0, .int .i64 0, .string tagB] rfl (fun u hu => res_oneC j u hu)
          have haI : X.heap.size < (X.alloc (.cells #[.int .i64 1, .int .i64 j, .int .u32 1, .int .i64 1, .int .i64 0, .int .i64 0, .int .i64 0, .string tagB] RrT)).heap.size := by simp
          replace hX := hX.trans (hn.mono hBW)
          replace hBW := Nat.le_trans hBW hn.size
          clear hn
          generalize X.alloc _ = W1 at *
          generalize X.heap.size = aI at *
          refine hK.out _ _ (fun _ => ⟨(hRP.out _ hX).cell, (hR10.out _ hX).cell⟩) (fun hHeld0 => ?_)
          have hHeld := hHeld0 (by decide)
          clear hHeld0 hK K
          refine anyL_ready (rs := [1]) (by kernel_rfl) (by simp) ?_
          refine' ReadyL.cons (o := _) (by simp only [List.getElem?_toArray, List.getElem?_cons_succ, List.getElem?_cons_zero]; rfl) (fun K hK => ?_) ReadyL.nil
          go_simp
          have hn := below_alloc W1 (.cells #[] RrT)
          have hmd := (OwnsC.made (t := RrT) (k := 8) (b := B0) W1).2 hBW
          have hIM : aI ≠ W1.heap.size := by omega
          replace hit := hit.keep (fun g hg => hn.block g (by have : aI = g := Option.some.inj hg; omega))
          replace haI := Nat.lt_of_lt_of_le haI hn.size
          replace hX := hX.trans (hn.mono hBW)
          replace hBW := Nat.le_trans hBW hn.size
          clear hn
          generalize W1.alloc _ = W2 at *
          generalize W1.heap.size = aM at *
          refine hK.out _ _ (fun _ => ⟨(hRP.out _ hX).cell, (hR10.out _ hX).cell⟩) (fun hHeld0 => ?_)
          have hHeld := hHeld0 (by decide)
          clear hHeld0 hK K
          refine anyL_ready (rs := [6]) (by kernel_rfl) (by simp) ?_
          refine' ReadyL.cons (o := _) (by simp only [List.getElem?_toArray, List.getElem?_cons_succ, List.getElem?_cons_zero]; rfl) (fun K hK => ?_) ReadyL.nil
          have hsr2 := hSR.keep (W' := W2) (fun g hg => hX.block g (hsrL g hg))
          refine step_app rfl (.tmp 71) (.tmp 75) 79 rfl (b := B0) Tryz.underlying79 HI0.out HZ0.out HZ1.out HZ2.out rfl (by decide) rfl rfl hmd hsr2 (by rw [hl6]; omega) (by decide) hBW ?_
          rw [hl6]
          intro a6' c6' W3 h6 hgrow
          rw [List.nil_append] at h6
          replace hit := hit.keep (fun g hg => hgrow.block g (by have : aI = g := Option.some.inj hg; omega) (fun e => by have h1 : aI = g := Option.some.inj hg; have h2 : g = aM := Option.some.inj e; omega))
          replace hX := hX.grown hgrow hBW (fun k hk => (hmd.lt k hk).1)
          replace hBW := Nat.le_trans hBW hgrow.size
          clear hgrow hmd hsr2
          go_simp
          refine hK.out _ _ (fun _ => ⟨(hRP.out _ hX).cell, (hR10.out _ hX).cell⟩) (fun hHeld0 => ?_)
          have hHeld := hHeld0 (by decide)
          clear hHeld0 hK K
          refine anyL_ready (rs := [9]) (by kernel_rfl) (by simp) ?_
          refine' ReadyL.cons (o := _) (by simp only [List.getElem?_toArray, List.getElem?_cons_succ, List.getElem?_cons_zero]; rfl) (fun K hK => ?_) ReadyL.nil
          refine step_app rfl (.tmp 76) (.tmp 78) 79 rfl (b := B0) Tryz.underlying79 HI0.out HZ0.out HZ1.out HZ2.out rfl (by decide) rfl rfl h6 hit (by rw [hl9]; omega) (by decide) hBW ?_
          rw [hl9]
          intro a9' c9' W9 h9 hgrow
          replace hX := hX.grown hgrow hBW (fun k hk => (h6.lt k hk).1)
          replace hBW := Nat.le_trans hBW hgrow.size
          clear hgrow h6 hit
          rw [hEQ.out] at h9
          go_simp
          refine hK.out _ _ (fun _ => ⟨(hRP.out _ hX).cell, (hR10.out _ hX).cell⟩) (fun hHeld0 => ?_)
          have hHeld := hHeld0 (by decide)
          clear hHeld0 hK K
          refine anyL_ready (rs := [10]) (by kernel_rfl) (by simp) ?_
          refine' ReadyL.cons (o := _) ?_ (fun K hK => ?_) ReadyL.nil
          rotate_left 1
          · (simp only [List.getElem?_toArray, List.getElem?_cons_succ, List.getElem?_cons_zero]; rfl)
          go_simp
          refine hK.out _ _ (fun _ => ⟨(hRP.out _ hX).cell, (hR10.out _ hX).cell⟩) (fun hHeld0 => ?_)
          have hHeld := hHeld0 (by decide)
          clear hHeld0 hK K
          refine' anyL_take (i := 11) (oi := _) (v := _) ?_ (by kernel_rfl) (by kernel_rfl) (by kernel_rfl) (by kernel_rfl) ?_ (Or.inl ⟨?_, ?_⟩) (by assumption) ?_
          rotate_left 2
          · (simp only [List.getElem?_toArray, List.getElem?_cons_succ, List.getElem?_cons_zero]; rfl)
          · first | exact fun _ _ _ h => h | exact fun _ _ _ h => nomatch h.1
          · rfl
          · (intro W hSW; (try dsimp only at hSW); go_split_ands; first | (go_simp; done) | (go_simp; with_reducible rfl))
          try simp only [Act.put, List.setIfInBounds_toArray, List.set_cons_zero, List.set_cons_succ]
          clear hHeld
          have yp := (hRP.out _ hX).cell
          have zp := (hRP.out _ hX).lt
          have up := (hRP.out _ hX).free
          refine anyL_ready (rs := [12]) (by kernel_rfl) (by simp) ?_
          refine' ReadyL.cons (o := _) ?_ (fun K hK => ?_) ReadyL.nil
          rotate_left 1
          · (simp only [List.getElem?_toArray, List.getElem?_cons_succ, List.getElem?_cons_zero]; rfl)
          go_simp
          clear yp zp up
          refine hK.out _ _ (fun h => absurd rfl h) (fun _ => ?_)
          clear hK K
          refine anyL_done (by kernel_rfl) ?_ _
          have hE := END.out _ _ _ hX h9
          clear hX h9 hBW
          generalize World.setCell _ _ _ = Z at *
          go_wp2_with fail
          go_meet
          exact ⟨_, hE⟩
      case rest =>
        obtain ⟨v9, hT, hvb, hbut, r7, r8⟩ := hcut
        obtain ⟨a9, c9, hv9⟩ := hT.rlist
        have hlen : (rs ++ [(⟨1, 0, 0⟩ : RS)]).length = j + 1 := by rw [List.length_append, HN.out]; rfl
        rw [hlen] at hv9
        subst hv9
        clear hlen
        have hlen2 : (rs ++ [(⟨1, 0, 0⟩ : RS)]).length = j + 1 := by rw [List.length_append, HN.out]; rfl
        have HL2 := Lib.hid hlen2
        clear hlen2
        go_upto_region 18 with fail
        have hF' : ∀ b, (F b ∨ (Value.slice a9 (j + 1) c9).ownBlock = some b) → b ≠ w.heap.size + 1 ∧ b ≠ w.heap.size + 2 := fun b hb => by
          rcases hb with hb | hb
          · have := HH.out.fin b hb; omega
          · have := hvb b hb; omega
        refine wp_region_held_drew (S := fun W' => (∀ q, W'.cell? ⟨w.heap.size + 1, q, none⟩ = (#[.int .i64 j, .int .u32 1] : Array Value)[q]?)) (by kernel_rfl) r7.cell (fun hHeld => ?_)
        replace hT := hT.drew
        replace r7 := r7.drew
        replace r8 := r8.drew
        replace hbut := hbut.drew
        generalize wc.drew = X at *
        have hx8 := r8.lt
        refine' wpAnyH_take (i := 0) (oi := _) (v := _) ?_ (by kernel_rfl) (by kernel_rfl) (by kernel_rfl) ?_ (Or.inl ⟨?_, ?_⟩) (by assumption) ?_
        rotate_left 2
        · (simp only [List.getElem?_toArray, List.getElem?_cons_succ, List.getElem?_cons_zero]; rfl)
        · first | exact fun _ _ _ h => h | exact fun _ _ _ h => nomatch h.1
        · rfl
        · (intro W hSW; (try dsimp only at hSW); go_split_ands; first | (go_simp; done) | (go_simp; with_reducible rfl))
        try simp only [Act.put, List.setIfInBounds_toArray, List.set_cons_zero, List.set_cons_succ]
        refine' wpAnyH_take (i := 1) (oi := _) (v := _) ?_ (by kernel_rfl) (by kernel_rfl) (by kernel_rfl) ?_ (Or.inl ⟨?_, ?_⟩) (by assumption) ?_
        rotate_left 2
        · (simp only [List.getElem?_toArray, List.getElem?_cons_succ, List.getElem?_cons_zero]; rfl)
        · first | exact fun _ _ _ h => h | exact fun _ _ _ h => nomatch h.1
        · rfl
        · (intro W hSW; (try dsimp only at hSW); go_split_ands; first | (go_simp; done) | (go_simp; with_reducible rfl))
        try simp only [Act.put, List.setIfInBounds_toArray, List.set_cons_zero, List.set_cons_succ]
        refine' wpAnyH_take (i := 2) (oi := _) (v := _) ?_ (by kernel_rfl) (by kernel_rfl) (by kernel_rfl) ?_ (Or.inl ⟨?_, ?_⟩) (by assumption) ?_
        rotate_left 2
        · (simp only [List.getElem?_toArray, List.getElem?_cons_succ, List.getElem?_cons_zero]; rfl)
        · first | exact fun _ _ _ h => h | exact fun _ _ _ h => nomatch h.1
        · rfl
        · (intro W hSW; (try dsimp only at hSW); go_split_ands; first | (go_simp; done) | (go_simp; with_reducible rfl))
        try simp only [Act.put, List.setIfInBounds_toArray, List.set_cons_zero, List.set_cons_succ]
        refine' wpAnyH_take (i := 3) (oi := _) (v := _) ?_ (by kernel_rfl) (by kernel_rfl) (by kernel_rfl) ?_ (Or.inl ⟨?_, ?_⟩) (by assumption) ?_
        rotate_left 2
        · (simp only [List.getElem?_toArray, List.getElem?_cons_succ, List.getElem?_cons_zero]; rfl)
        · first | exact fun _ _ _ h => h | exact fun _ _ _ h => nomatch h.1
        · rfl
        · (intro W hSW; (try dsimp only at hSW); go_split_ands; first | (go_simp; done) | (go_simp; with_reducible rfl))
        try simp only [Act.put, List.setIfInBounds_toArray, List.set_cons_zero, List.set_cons_succ]
        refine' wpAnyH_take (i := 6) (oi := _) (v := _) ?_ (by kernel_rfl) (by kernel_rfl) (by kernel_rfl) ?_ (Or.inl ⟨?_, ?_⟩) (by assumption) ?_
        rotate_left 2
        · (simp only [List.getElem?_toArray, List.getElem?_cons_succ, List.getElem?_cons_zero]; rfl)
        · first | exact fun _ _ _ h => h | exact fun _ _ _ h => nomatch h.1
        · rfl
        · (intro W hSW; (try dsimp only at hSW); go_split_ands; first | (go_simp; done) | (go_simp; with_reducible rfl))
        try simp only [Act.put, List.setIfInBounds_toArray, List.set_cons_zero, List.set_cons_succ]
        clear hHeld
        have yp := hT.row.cell
        have zp := hT.row.lt
        refine wpAnyH_ready (rs := [4]) (by kernel_rfl) (by simp) ?_
        refine' AllReadyH.cons (o := _) ?_ (fun K hK => ?_) AllReadyH.nil
        rotate_left 1
        · (simp only [List.getElem?_toArray, List.getElem?_cons_succ, List.getElem?_cons_zero]; rfl)
        go_simp
        refine hK.out _ _ r7.cell (fun hHeld => ?_)
        clear hK K yp zp
        refine' wpAnyH_take (i := 5) (oi := _) (v := _) ?_ (by kernel_rfl) (by kernel_rfl) (by kernel_rfl) ?_ (Or.inl ⟨?_, ?_⟩) (by assumption) ?_
        rotate_left 2
        · (simp only [List.getElem?_toArray, List.getElem?_cons_succ, List.getElem?_cons_zero]; rfl)
        · first | exact fun _ _ _ h => h | exact fun _ _ _ h => nomatch h.1
        · rfl
        · (intro W hSW; (try dsimp only at hSW); go_split_ands; first | (go_simp; done) | (go_simp; with_reducible rfl))
        try simp only [Act.put, List.setIfInBounds_toArray, List.set_cons_zero, List.set_cons_succ]
        clear hHeld
        refine wpAnyH_ready (rs := [7]) (by kernel_rfl) (by simp) ?_
        refine' AllReadyH.cons (o := _) ?_ (fun K hK => ?_) AllReadyH.nil
        rotate_left 1
        · (simp only [List.getElem?_toArray, List.getElem?_cons_succ, List.getElem?_cons_zero]; rfl)
        go_simp
        refine (radd_c hT HL2.out HIS.out.1 HIS.out.2.1 HIS.out.2.2).mono ?_
        rintro e W ⟨rfl, hT2, hb2⟩
        go_simp
        replace r7 := hb2.row r7 (fun h => (hF' _ h).1 rfl)
        replace r8 := hb2.row r8 (fun h => (hF' _ h).2 rfl)
        have hXw := hbut.size
        have hXW := hb2.size
        replace hbut := hbut.trans hb2 (fun q hq h => by
          rcases h with h | h
          · exact h
          · have := hvb q h; omega)
        refine hK.out _ _ r7.cell (fun hHeld => ?_)
        clear hK K hHeld
        have y8 := r8.cell
        have u8 := r8.free
        have z8 := r8.lt
        refine wpAnyH_ready (rs := [8]) (by kernel_rfl) (by simp) ?_
        refine' AllReadyH.cons (o := _) ?_ (fun K hK => ?_) AllReadyH.nil
        rotate_left 1
        · (simp only [List.getElem?_toArray, List.getElem?_cons_succ, List.getElem?_cons_zero]; rfl)
        go_simp
        have h7' := ((r7.other (show w.heap.size + 2 ≠ w.heap.size + 1 by omega) 0 (.int .i64 1)).other (show w.heap.size + 2 ≠ w.heap.size + 1 by omega) 1 (.int .i64 i)).other (show w.heap.size + 2 ≠ w.heap.size + 1 by omega) 2 (.int .u32 s.gen)
        have h8' := ((r8.set 0 (.int .i64 1)).set 1 (.int .i64 i)).set 2 (.int .u32 s.gen)
        simp only [List.setIfInBounds_toArray, List.set_cons_zero, List.set_cons_succ] at h8'
        have hnb : w.heap.size + 2 < w.heap.size → F (w.heap.size + 2) := fun h => absurd h (by omega)
        have hbz := ((hbut.setCell hnb 0 (.int .i64 1)).setCell hnb 1 (.int .i64 i)).setCell hnb 2 (.int .u32 s.gen)
        have hbW : But (fun b => b = w.heap.size + 2) W (((W.setCell ⟨w.heap.size + 2, 0, none⟩ (.int .i64 1)).setCell ⟨w.heap.size + 2, 1, none⟩ (.int .i64 i)).setCell ⟨w.heap.size + 2, 2, none⟩ (.int .u32 s.gen)) := (((But.refl (fun b => b = w.heap.size + 2) W).setCell (y := w.heap.size + 2) (fun _ => rfl) 0 (.int .i64 1)).setCell (y := w.heap.size + 2) (fun _ => rfl) 1 (.int .i64 i)).setCell (y := w.heap.size + 2) (fun _ => rfl) 2 (.int .u32 s.gen)
        have hT3 := hT2.but hbW (fun b hb h => by
          rcases hb with hb | hb
          · exact (hF' b hb).2 h
          · have := hb.1; omega)
        refine hK.out _ _ h7'.cell (fun hHeld => ?_)
        clear hK K y8 u8 z8 r7 r8 hT hT2 hbut hbW h7'
        generalize World.setCell _ _ _ = Z at *
        refine' wpAnyH_take (i := 9) (oi := _) (v := _) ?_ (by kernel_rfl) (by kernel_rfl) (by kernel_rfl) ?_ (Or.inl ⟨?_, ?_⟩) (by assumption) ?_
        rotate_left 2
        · (simp only [List.getElem?_toArray, List.getElem?_cons_succ, List.getElem?_cons_zero]; rfl)
        · first | exact fun _ _ _ h => h | exact fun _ _ _ h => nomatch h.1
        · rfl
        · (intro W hSW; (try dsimp only at hSW); go_split_ands; first | (go_simp; done) | (go_simp; with_reducible rfl))
        try simp only [Act.put, List.setIfInBounds_toArray, List.set_cons_zero, List.set_cons_succ]
        clear hHeld
        refine wpAnyH_done (by kernel_rfl) ?_ _
        have y8 := h8'.cell
        have z8 := h8'.lt
        go_wp2_with fail
        refine bodyPost_ret (v := .tuple #[dV 1 i s.gen, .int .i64 0]) (by simp [results, Tryz.results30, go_sem, y8, z8]) rfl ⟨rfl, hT3.wide ?_ ?_, hbz⟩
        · rintro b ((hb | hb) | hb)
          · exact .inl hb
          · exact .inr ⟨by have := hvb b hb; omega, hT3.fin b (.inl (.inr hb))⟩
          · exact .inr ⟨by have := hb.1; omega, hT3.fin b (.inr hb)⟩
        · rintro b (hb | hb)
          · exact Nat.lt_of_lt_of_le (HH.out.fin b hb) hbz.size
          · exact hb.2
end Go.Proofs.YtkjpdciccablpaaGreatDoor
