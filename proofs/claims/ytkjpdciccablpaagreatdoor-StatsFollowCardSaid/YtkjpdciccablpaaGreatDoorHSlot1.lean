/- The program's slots (chapter 37): what they are in memory; valid, New, Free, Check, Give. -/
import Derived.Test.YtkjpdciccablpaaGreatDoorL0a
import Derived.Test.YtkjpdciccablpaaGreatDoorHRes1
import Derived.BigQuiet
namespace Go.Proofs.YtkjpdciccablpaaGreatDoor
open Go.RowKit
set_option linter.unusedVariables false
set_option linter.unusedSimpArgs false
set_option maxHeartbeats 16000000
set_option maxRecDepth 20000
abbrev SlT : TypeId := 121
abbrev ptr (p : Nat) : Value := .pointer (some ⟨p, 0, none⟩)
theorem zcs_size : Tryz.zeroCells121.size = 513 := by kernel_rfl
theorem zcs_one : Tryz.zeroCells121.all (·.oneCell') = true := by kernel_rfl
theorem all_setA {cs : Array Value} {p : Value → Bool} (h : cs.all p = true) (i : Nat) (v : Value) (hv : p v = true) : (cs.setIfInBounds i v).all p = true := by
  rw [Array.all_eq_true] at h ⊢
  intro j hj
  rw [Array.getElem_setIfInBounds]
  split
  · exact hv
  · exact h j (by simpa using hj)
def stS (s : SlotR) : Int := if isFree s then 0 else 1
structure SlA (cs : Array Value) (l : List SlotR) : Prop where
  size : cs.size = 513
  one : cs.all (·.oneCell') = true
  c0 : cs[0]? = some (.int .i64 64)
  len : l.length = 64
  st : ∀ i s, l[i]? = some s → cs[1 + i * 2]? = some (.int .i64 (stS s))
  gen : ∀ i s, l[i]? = some s → cs[1 + i * 2 + 1]? = some (.int .u32 s.gen)
theorem sl_valid {W : World} {z : Nat} {cs : Array Value} (h : Row W z cs SlT) (h0 : cs[0]? = some (.int .i64 64)) : Calls Tryz.prog 77 #[ptr z] W fun e w' => e = .returned (.bool true) ∧ w' = W := by
  have y : W.cell? ⟨z, 0, none⟩ = some (.int .i64 64) := (h.cell 0).trans h0
  have z := h.lt
  clear h h0
  go_enter Tryz.func77, Tryz.ntmps77
  go_wp2_with fail
  go_returns
  exact ⟨rfl, rfl⟩
/-- A table of slots under way: j generations are there. -/
structure SlMk (cs : Array Value) (j : Nat) : Prop where
  size : cs.size = 513
  one : cs.all (·.oneCell') = true
  c0 : cs[0]? = some (.int .i64 64)
  st : ∀ i, i < 64 → cs[1 + i * 2]? = some (.int .i64 0)
  gen : ∀ i, i < j → cs[1 + i * 2 + 1]? = some (.int .u32 1)
def zAt (cs : Array Value) (i : Nat) : Bool := match cs[1 + i * 2]? with
  | some (.int .i64 0) => true
  | _ => false
theorem zAt_eq {cs : Array Value} {i : Nat} (h : zAt cs i = true) : cs[1 + i * 2]? = some (.int .i64 0) := by
  unfold zAt at h
  split at h
  · assumption
  · cases h
theorem zc_st : (List.range 64).all (zAt Tryz.zeroCells121) = true := by kernel_rfl
theorem slmk_start : SlMk (Tryz.zeroCells121.setIfInBounds 0 (.int .i64 64)) 0 where
  size := by rw [Array.size_setIfInBounds]; exact zcs_size
  one := all_setA zcs_one _ _ rfl
  c0 := by rw [Array.getElem?_setIfInBounds, if_pos rfl, if_pos (by rw [zcs_size]; decide)]
  st := fun i hi => by
    rw [Array.getElem?_setIfInBounds, if_neg (by omega)]
    exact zAt_eq (List.all_eq_true.1 zc_st i (List.mem_range.2 hi))
  gen := fun i hi => by omega
theorem SlMk.next {cs : Array Value} {j : Nat} (h : SlMk cs j) (hj : j < 64) : SlMk (cs.setIfInBounds (1 + j * 2 + 1) (.int .u32 1)) (j + 1) where
  size := by rw [Array.size_setIfInBounds]; exact h.size
  one := all_setA h.one _ _ rfl
  c0 := by rw [Array.getElem?_setIfInBounds, if_neg (by omega)]; exact h.c0
  st := fun i hi => by rw [Array.getElem?_setIfInBounds, if_neg (by omega)]; exact h.st i hi
  gen := fun i hi => by
    rw [Array.getElem?_setIfInBounds]
    split
    · rw [if_pos (by rw [h.size]; omega)]
    · exact h.gen i (by omega)
theorem SlMk.done {cs : Array Value} (h : SlMk cs 64) : SlA cs emptyT.sl where
  size := h.size
  one := h.one
  c0 := h.c0
  len := by simp [emptyT]
  st := fun i s hs => by
    have hi := (List.getElem?_eq_some_iff.1 hs).1
    have e := List.eq_of_mem_replicate (List.mem_of_getElem? hs)
    rw [e]
    exact h.st i (by simpa [emptyT] using hi)
  gen := fun i s hs => by
    have hi := (List.getElem?_eq_some_iff.1 hs).1
    have e := List.eq_of_mem_replicate (List.mem_of_getElem? hs)
    rw [e]
    exact h.gen i (by simpa [emptyT] using hi)
/-- A slot is taken. -/
theorem SlA.take {cs : Array Value} {l : List SlotR} (h : SlA cs l) {i : Nat} {g : Int} {s : SlotR} (hi : l[i]? = some s) (hg : s.gen = g) (k : Nat) : SlA (cs.setIfInBounds (1 + i * 2) (.int .i64 1)) (l.set i ⟨some k, g⟩) := by
  have hl := (List.getElem?_eq_some_iff.1 hi).1
  have hlen := h.len
  refine ⟨by rw [Array.size_setIfInBounds]; exact h.size, all_setA h.one _ _ rfl, by rw [Array.getElem?_setIfInBounds, if_neg (by omega)]; exact h.c0, by rw [List.length_set]; exact h.len, fun j x hx => ?_, fun j x hx => ?_⟩
  · rw [List.getElem?_set] at hx
    rw [Array.getElem?_setIfInBounds]
    by_cases e : i = j
    · subst e
      rw [if_pos rfl, if_pos hl] at hx
      cases hx
      rw [if_pos rfl, if_pos (by rw [h.size]; omega)]
      rfl
    · rw [if_neg e] at hx
      rw [if_neg (by omega)]
      exact h.st j x hx
  · rw [List.getElem?_set] at hx
    rw [Array.getElem?_setIfInBounds, if_neg (by omega)]
    by_cases e : i = j
    · subst e
      rw [if_pos rfl, if_pos hl] at hx
      cases hx
      rw [h.gen i s hi, hg]
    · rw [if_neg e] at hx
      exact h.gen j x hx
/-- A slot is given back. -/
theorem SlA.give {cs : Array Value} {l : List SlotR} (h : SlA cs l) {i : Nat} (hl : i < l.length) (g : Int) : SlA ((cs.setIfInBounds (1 + i * 2) (.int .i64 0)).setIfInBounds (1 + i * 2 + 1) (.int .u32 g)) (l.set i ⟨none, g⟩) := by
  have hlen := h.len
  refine ⟨by rw [Array.size_setIfInBounds, Array.size_setIfInBounds]; exact h.size, all_setA (all_setA h.one _ _ rfl) _ _ rfl, by rw [Array.getElem?_setIfInBounds, if_neg (by omega), Array.getElem?_setIfInBounds, if_neg (by omega)]; exact h.c0, by rw [List.length_set]; exact h.len, fun j x hx => ?_, fun j x hx => ?_⟩
  · rw [List.getElem?_set] at hx
    rw [Array.getElem?_setIfInBounds, if_neg (by omega), Array.getElem?_setIfInBounds]
    by_cases e : i = j
    · subst e
      rw [if_pos rfl, if_pos hl] at hx
      cases hx
      rw [if_pos rfl, if_pos (by rw [h.size]; omega)]
      rfl
    · rw [if_neg e] at hx
      rw [if_neg (by omega)]
      exact h.st j x hx
  · rw [List.getElem?_set] at hx
    rw [Array.getElem?_setIfInBounds]
    by_cases e : i = j
    · subst e
      rw [if_pos rfl, if_pos hl] at hx
      cases hx
      rw [if_pos rfl, if_pos (by rw [Array.size_setIfInBounds, h.size]; omega)]
    · rw [if_neg e] at hx
      rw [if_neg (by omega), Array.getElem?_setIfInBounds, if_neg (by omega)]
      exact h.gen j x hx
theorem sl_new (w : World) : Calls Tryz.prog 27 #[.int .i64 64, .int .u32 1] w fun e w' => ∃ z cs, e = .returned (.tuple #[ptr z, .int .i64 0]) ∧ Row w' z cs SlT ∧ SlA cs emptyT.sl ∧ w.heap.size ≤ z ∧ Below w.heap.size w w' := by
  have ck := fun W => check_any 1 W (by omega) (by omega)
  rw [gErr_pos (by omega)] at ck
  go_enter Tryz.func27, Tryz.ntmps27
  go_wp2_with fail
  refine Calls.mono (ck _) ?_
  rintro e V ⟨rfl, hW⟩
  subst V
  clear ck
  go_upto_region 4 with fail
  have r1 := Row.new (W := w) (cs := Tryz.zeroCells121.setIfInBounds 0 (.int .i64 64)) (t := SlT)
  have hc := below_alloc w (.cells (Tryz.zeroCells121.setIfInBounds 0 (.int .i64 64)) SlT)
  have hm := slmk_start
  generalize Tryz.zeroCells121.setIfInBounds 0 (.int .i64 64) = cs0 at *
  generalize w.alloc (.cells cs0 SlT) = V at *
  have HM := Lib.hid hm
  clear hm
  go_wp2_with fail
  go_loopw [23] (fun iv wr => ∃ (j : Nat) (cs : Array Value), j ≤ 64 ∧ iv = .int .i64 j ∧ Row wr w.heap.size cs SlT ∧ RowKit.Hid (SlMk cs j) ∧ Below w.heap.size w wr) (fun iv _ => 64 - (intOf iv).toNat)
  case atStart => exact ⟨0, cs0, by omega, rfl, r1, HM, hc⟩
  case round =>
    clear r1 hc HM
    obtain ⟨j, cs, hj, rfl, r1, HM, hc⟩ := hrel
    have z1 := r1.lt
    by_cases hlt : j < 64
    · have j0 : (0 : Int) ≤ (j : Int) := by omega
      have j1 : (j : Int) < 64 := by omega
      have j2 : (j : Int) < 256 := by omega
      have y1 : wr.cell? ⟨w.heap.size, 1 + j * 2 + 1, none⟩ = cs[1 + j * 2 + 1]? := r1.cell _
      have u1 := r1.free
      obtain ⟨x1, hx1⟩ : ∃ x, cs[1 + j * 2 + 1]? = some x := ⟨_, Array.getElem?_eq_getElem (by have := HM.out.size; omega)⟩
      rw [hx1] at y1
      clear hx1
      go_wp2_with fail
      go_roundw
      case rel => exact ⟨j + 1, _, by omega, by go_num, r1.set _ _, Lib.hid (HM.out.next hlt), hc.setCell (by simp) _⟩
      case measure => simp [intOf]; omega
    · obtain rfl : j = 64 := by omega
      go_wp2_with fail
      go_returns
      exact ⟨_, cs, rfl, r1, HM.out.done, Nat.le_refl _, hc⟩
theorem free1_c (s g : Int) (w : World) : Ret 85 #[.agg #[.int .i64 s, .int .u32 g]] w (.bool (decide (s = 0))) := by
  by_cases h : s = 0
  · subst h
    go_enter Tryz.func85, Tryz.ntmps85
    go_wp2_with fail
    go_returns
    exact ⟨rfl, by go_grown⟩
  · have h2 : (s == (0 : Int)) = false := by simpa using h
    rw [decide_eq_false h]
    clear h
    go_enter Tryz.func85, Tryz.ntmps85
    go_wp2_with fail
    go_returns
    exact ⟨rfl, by go_grown⟩
theorem freeN_take {l : List SlotR} {j : Nat} {s : SlotR} (h : l[j]? = some s) : freeN (l.take (j + 1)) = freeN (l.take j) + (if isFree s then 1 else 0) := by
  have e : l.take (j + 1) = l.take j ++ [s] := by rw [List.take_add_one, h]; rfl
  unfold freeN
  rw [e, List.countP_append, List.countP_singleton]
theorem count_c {W : World} {z : Nat} {cs : Array Value} {l : List SlotR} (h : Row W z cs SlT) (ha : SlA cs l) : Ret 84 #[ptr z, .func (.func 85) #[] #[]] W (.int .i64 (freeN l : Nat)) := by
  have HA := Lib.hid ha
  have y0 : W.cell? ⟨z, 0, none⟩ = some (.int .i64 64) := (h.cell 0).trans ha.c0
  have z0 := h.lt
  clear ha
  have hc := Below.refl W.heap.size W
  go_enter Tryz.func84, Tryz.ntmps84
  go_wp2_with fail
  refine Calls.mono (sl_valid h HA.out.c0) ?_
  rintro e V1 ⟨rfl, hW⟩
  subst V1
  go_wp2_with fail
  refine wp_region_held_drew (S := fun W' => W'.cell? ⟨z, 0, none⟩ = some (.int .i64 64)) (by kernel_rfl) y0 (fun hHeld => ?_)
  replace h := h.drew
  replace hc := hc.drew
  clear y0 z0
  generalize hV : W.drew = X at *
  clear hV
  refine' wpAnyH_take (i := 0) (oi := _) (v := _) ?_ (by kernel_rfl) (by kernel_rfl) (by kernel_rfl) ?_ (Or.inl ⟨?_, ?_⟩) (by assumption) ?_
  rotate_left 2
  · (simp only [List.getElem?_toArray, List.getElem?_cons_succ, List.getElem?_cons_zero]; rfl)
  · first | exact fun _ _ _ h => h | exact fun _ _ _ h => nomatch h.1
  · rfl
  · (intro W hSW; (try dsimp only at hSW); go_split_ands; first | (go_simp; done) | (go_simp; with_reducible rfl))
  try simp only [Act.put, List.setIfInBounds_toArray, List.set_cons_zero, List.set_cons_succ]
  refine' wpAnyH_take (i := 1) (oi := _) (v := _) ?_ (by kernel_rfl) (by kernel_rfl) (by kernel_rfl) ?_ (Or.inl ⟨?_, ?_⟩) (by assumption) ?_
  rotate_left 2
  · (simp only [List.getElem?_toArray, List.getElem?_cons_succ, List.getElem?_cons_zero]; rfl)
  · first | exact fun _ _ _ h => h | exact fun _ _ _ h => nomatch h.1
  · rfl
  · (intro W hSW; (try dsimp only at hSW); go_split_ands; first | (go_simp; done) | (go_simp; with_reducible rfl))
  try simp only [Act.put, List.setIfInBounds_toArray, List.set_cons_zero, List.set_cons_succ]
  refine' wpAnyH_take (i := 2) (oi := _) (v := _) ?_ (by kernel_rfl) (by kernel_rfl) (by kernel_rfl) ?_ (Or.inl ⟨?_, ?_⟩) (by assumption) ?_
  rotate_left 2
  · (simp only [List.getElem?_toArray, List.getElem?_cons_succ, List.getElem?_cons_zero]; rfl)
  · first | exact fun _ _ _ h => h | exact fun _ _ _ h => nomatch h.1
  · rfl
  · (intro W hSW; (try dsimp only at hSW); go_split_ands; first | (go_simp; done) | (go_simp; with_reducible rfl))
  try simp only [Act.put, List.setIfInBounds_toArray, List.set_cons_zero, List.set_cons_succ]
  refine' wpAnyH_take (i := 3) (oi := _) (v := _) ?_ (by kernel_rfl) (by kernel_rfl) (by kernel_rfl) ?_ (Or.inl ⟨?_, ?_⟩) (by assumption) ?_
  rotate_left 2
  · (simp only [List.getElem?_toArray, List.getElem?_cons_succ, List.getElem?_cons_zero]; rfl)
  · first | exact fun _ _ _ h => h | exact fun _ _ _ h => nomatch h.1
  · rfl
  · (intro W hSW; (try dsimp only at hSW); go_split_ands; first | (go_simp; done) | (go_simp; with_reducible rfl))
  try simp only [Act.put, List.setIfInBounds_toArray, List.set_cons_zero, List.set_cons_succ]
  refine' wpAnyH_take (i := 4) (oi := _) (v := _) ?_ (by kernel_rfl) (by kernel_rfl) (by kernel_rfl) ?_ (Or.inl ⟨?_, ?_⟩) (by assumption) ?_
  rotate_left 2
  · (simp only [List.getElem?_toArray, List.getElem?_cons_succ, List.getElem?_cons_zero]; rfl)
  · first | exact fun _ _ _ h => h | exact fun _ _ _ h => nomatch h.1
  · rfl
  · (intro W hSW; (try dsimp only at hSW); go_split_ands; first | (go_simp; done) | (go_simp; with_reducible rfl))
  try simp only [Act.put, List.setIfInBounds_toArray, List.set_cons_zero, List.set_cons_succ]
  refine' wpAnyH_take (i := 5) (oi := _) (v := _) ?_ (by kernel_rfl) (by kernel_rfl) (by kernel_rfl) ?_ (Or.inl ⟨?_, ?_⟩) (by assumption) ?_
  rotate_left 2
  · (simp only [List.getElem?_toArray, List.getElem?_cons_succ, List.getElem?_cons_zero]; rfl)
  · first | exact fun _ _ _ h => h | exact fun _ _ _ h => nomatch h.1
  · rfl
  · (intro W hSW; (try dsimp only at hSW); go_split_ands; first | (go_simp; done) | (go_simp; with_reducible rfl))
  try simp only [Act.put, List.setIfInBounds_toArray, List.set_cons_zero, List.set_cons_succ]
  refine' wpAnyH_take (i := 6) (oi := _) (v := _) ?_ (by kernel_rfl) (by kernel_rfl) (by kernel_rfl) ?_ (Or.inl ⟨?_, ?_⟩) (by assumption) ?_
  rotate_left 2
  · (simp only [List.getElem?_toArray, List.getElem?_cons_succ, List.getElem?_cons_zero]; rfl)
  · first | exact fun _ _ _ h => h | exact fun _ _ _ h => nomatch h.1
  · rfl
  · (intro W hSW; (try dsimp only at hSW); go_split_ands; first | (go_simp; done) | (go_simp; with_reducible rfl))
  try simp only [Act.put, List.setIfInBounds_toArray, List.set_cons_zero, List.set_cons_succ]
  refine' wpAnyH_take (i := 7) (oi := _) (v := _) ?_ (by kernel_rfl) (by kernel_rfl) (by kernel_rfl) ?_ (Or.inl ⟨?_, ?_⟩) (by assumption) ?_
  rotate_left 2
  · (simp only [List.getElem?_toArray, List.getElem?_cons_succ, List.getElem?_cons_zero]; rfl)
  · first | exact fun _ _ _ h => h | exact fun _ _ _ h => nomatch h.1
  · rfl
  · (intro W hSW; (try dsimp only at hSW); go_split_ands; first | (go_simp; done) | (go_simp; with_reducible rfl))
  try simp only [Act.put, List.setIfInBounds_toArray, List.set_cons_zero, List.set_cons_succ]
  refine' wpAnyH_take (i := 8) (oi := _) (v := _) ?_ (by kernel_rfl) (by kernel_rfl) (by kernel_rfl) ?_ (Or.inl ⟨?_, ?_⟩) (by assumption) ?_
  rotate_left 2
  · (simp only [List.getElem?_toArray, List.getElem?_cons_succ, List.getElem?_cons_zero]; rfl)
  · first | exact fun _ _ _ h => h | exact fun _ _ _ h => nomatch h.1
  · rfl
  · (intro W hSW; (try dsimp only at hSW); go_split_ands; first | (go_simp; done) | (go_simp; with_reducible rfl))
  try simp only [Act.put, List.setIfInBounds_toArray, List.set_cons_zero, List.set_cons_succ]
  refine' wpAnyH_take (i := 9) (oi := _) (v := _) ?_ (by kernel_rfl) (by kernel_rfl) (by kernel_rfl) ?_ (Or.inl ⟨?_, ?_⟩) (by assumption) ?_
  rotate_left 2
  · (simp only [List.getElem?_toArray, List.getElem?_cons_succ, List.getElem?_cons_zero]; rfl)
  · first | exact fun _ _ _ h => h | exact fun _ _ _ h => nomatch h.1
  · rfl
  · (intro W hSW; (try dsimp only at hSW); go_split_ands; first | (go_simp; done) | (go_simp; with_reducible rfl))
  try simp only [Act.put, List.setIfInBounds_toArray, List.set_cons_zero, List.set_cons_succ]
  clear hHeld
  refine wpAnyH_done (by kernel_rfl) ?_ _
  go_wp2_with fail
  go_loopw [5, 20] (fun nv iv wr => ∃ (j : Nat), j ≤ 64 ∧ iv = .int .i64 j ∧ nv = .int .i64 (freeN (l.take j) : Nat) ∧ Row wr z cs SlT ∧ Below W.heap.size W wr) (fun _ iv _ => 64 - (intOf iv).toNat)
  case atStart => exact ⟨0, by omega, rfl, rfl, h, hc⟩
  case round =>
    clear h hc
    obtain ⟨j, hj, rfl, rfl, h, hc⟩ := hrel
    have z1 := h.lt
    by_cases hlt : j < 64
    · have j0 : (0 : Int) ≤ (j : Int) := by omega
      have j1 : (j : Int) < 64 := by omega
      obtain ⟨s, hs⟩ : ∃ s, l[j]? = some s := ⟨_, List.getElem?_eq_getElem (by have := HA.out.len; omega)⟩
      have y1 : wr.cell? ⟨z, 1 + j * 2, none⟩ = _ := (h.cell _).trans (HA.out.st j s hs)
      have y2 : wr.cell? ⟨z, 1 + j * 2 + 1, none⟩ = _ := (h.cell _).trans (HA.out.gen j s hs)
      have hfr := freeN_take hs
      obtain ⟨N, hN⟩ : ∃ N, freeN (l.take j) = N := ⟨_, rfl⟩
      have hNj : N ≤ 64 := by rw [← hN]; exact Nat.le_trans List.countP_le_length (by rw [List.length_take]; omega)
      rw [hN] at hfr ⊢
      have HFR := Lib.hid hfr
      have HNJ := Lib.hid hNj
      have HN := Lib.hid hN
      clear hfr hN hs hNj
      have cf := fun w => free1_c (stS s) s.gen w
      have e0 : decide (stS s = 0) = isFree s := by unfold stS; cases isFree s <;> rfl
      rw [e0] at cf
      generalize stS s = st at *
      generalize s.gen = g at *
      have kb := below_alloc wr (.cells #[.int .i64 st, .int .u32 g] 118)
      have HK := Lib.hid kb
      clear kb
      cases hf : isFree s with
      | true =>
        rw [hf] at cf HFR
        have CF := Lib.hid cf
        clear cf hf e0
        go_wp2_with fail
        refine Calls.mono (CF.out _) ?_
        rintro e V2 ⟨rfl, hn⟩
        have HC := Lib.hid (chain hc (chain HK.out hn))
        have HR := Lib.hid ((h.on HK.out).on hn)
        clear hn hc h HK CF
        have n0 : (0 : Int) ≤ (N : Int) := by omega
        have n1 : IntKind.i64.wrap ((N : Int) + 1) = (N : Int) + 1 := IntWalk.i64_in _ ⟨by omega, by have := HNJ.out; omega⟩
        go_wp2_with fail
        go_roundw
        case rel => exact ⟨j + 1, by omega, by go_num, by rw [HFR.out]; simp, HR.out, HC.out⟩
        case measure => simp [intOf]; omega
      | false =>
        rw [hf] at cf HFR
        have CF := Lib.hid cf
        clear cf hf e0
        go_wp2_with fail
        refine Calls.mono (CF.out _) ?_
        rintro e V2 ⟨rfl, hn⟩
        have HC := Lib.hid (chain hc (chain HK.out hn))
        have HR := Lib.hid ((h.on HK.out).on hn)
        clear hn hc h HK CF
        go_wp2_with fail
        go_roundw
        case rel => exact ⟨j + 1, by omega, by go_num, by rw [HFR.out]; simp, HR.out, HC.out⟩
        case measure => simp [intOf]; omega
    · obtain rfl : j = 64 := by omega
      rw [List.take_of_length_le (Nat.le_of_eq HA.out.len)]
      go_wp2_with fail
      go_returns
      exact ⟨rfl, hc⟩
theorem sl_free {W : World} {z : Nat} {cs : Array Value} {l : List SlotR} (h : Row W z cs SlT) (ha : SlA cs l) : Ret 55 #[ptr z] W (.int .i64 (freeN l : Nat)) := by
  have cc := count_c h ha
  clear h ha
  generalize freeN l = N at *
  go_enter Tryz.func55, Tryz.ntmps55
  go_wp2_with fail
  refine Calls.mono cc ?_
  rintro e V1 ⟨rfl, hn⟩
  go_wp2_with fail
  go_returns
  exact ⟨rfl, hn⟩
theorem below_nth {B : Nat} {w W : World} (h : Below B w W) (n : Nat) : Below B w (W.drewN n) := ⟨h.os, h.tape, h.output, h.size, h.block⟩
theorem sl_check {w : World} {z : Nat} {cs : Array Value} {l : List SlotR} (h : Row w z cs SlT) (ha : SlA cs l) {i : Nat} {k : Nat} {g : Int} (hi : l[i]? = some ⟨some k, g⟩) : Ret 106 #[ptr z, .agg #[.int .i64 i, .int .u32 g]] w (.int .i64 0) := by
  have hl := (List.getElem?_eq_some_iff.1 hi).1
  have hlen := ha.len
  have HA := Lib.hid ha
  have y0 : w.cell? ⟨z, 0, none⟩ = some (.int .i64 64) := (h.cell 0).trans ha.c0
  have y1 : w.cell? ⟨z, 1 + i * 2, none⟩ = some (.int .i64 1) := (h.cell _).trans (ha.st i _ hi)
  have y2 : w.cell? ⟨z, 1 + i * 2 + 1, none⟩ = some (.int .u32 g) := (h.cell _).trans (ha.gen i _ hi)
  have z0 := h.lt
  have i0 : (0 : Int) ≤ i := by omega
  have i1 : (i : Int) < 64 := by omega
  have i2 : (i : Int) < 256 := by omega
  have hc := below_alloc w (.cells #[.int .i64 i, .int .u32 g] 85)
  have CV := Lib.hid (sl_valid (h.on hc) ha.c0)
  have HC := Lib.hid hc
  have qn : ∀ W, (binOp .neq 118 (.agg #[.int .i64 1, .int .u32 g]) (.agg #[.int .i64 1, .int .u32 g])).run Tryz.prog W = .ok (.bool false) W := by intro W; go_simp
  clear hc h ha hi
  go_enter Tryz.func106, Tryz.ntmps106
  go_wp2_with fail
  refine Calls.mono CV.out ?_
  rintro e V ⟨rfl, hW⟩
  subst V
  go_wp2_with fail
  go_quiet (fail)
  go_wp2_with fail
  go_quiet (fail)
  go_wp2_with fail
  go_returns
  exact ⟨rfl, below_nth (below_nth HC.out _) _⟩
end Go.Proofs.YtkjpdciccablpaaGreatDoor
