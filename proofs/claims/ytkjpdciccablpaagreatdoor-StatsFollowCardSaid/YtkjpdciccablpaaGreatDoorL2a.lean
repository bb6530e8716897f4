/- The program's slots (chapter 37): the iterator over the free ones; Take. -/
import Derived.Test.YtkjpdciccablpaaGreatDoorHSlot1
import Derived.RangeFuncNested
import Derived.RangeFuncBound
import Derived.RangeFuncCalls
import Derived.RangeFuncLeaves
import Derived.RangeFuncBox
import Derived.Shelf.Abstract
import Derived.Shelf.RegionOpen
import Derived.OwnWalkIn
import Derived.Maps.AppendAt
import Derived.TacticsInMore
import Derived.LoopNIn
import Derived.LoopIn
import Derived.Test.YtkjpdciccablpaaGreatDoorL0a
import Derived.Test.YtkjpdciccablpaaGreatDoorHStats2
import Derived.Deep.LoopGhost
import Derived.Deep.AppendLies
import Derived.Deep.RegionLaw
import Derived.Handy
import Derived.Deep.DeepMust
import Derived.Lib.ItoaLen
namespace Go.Proofs.YtkjpdciccablpaaGreatDoor
open Go.RowKit Go.Shelf
set_option linter.unusedVariables false
set_option linter.unusedSimpArgs false
set_option maxHeartbeats 16000000
set_option maxRecDepth 20000
attribute [local go_sem] Oper.semAt_some
abbrev FS : Type := Fin 64 × Int
def encF (x : FS) : Array Value := #[.int .i64 (x.1.val : Nat), .int .u32 x.2]
def freeF (p : SlotR × Nat) : Option FS := if h : p.2 < 64 then (if isFree p.1 then some (⟨p.2, h⟩, p.1.gen) else none) else none
def freeL (l : List SlotR) : List FS := l.zipIdx.filterMap freeF
theorem zip_snoc {α β : Type} (f : α × Nat → Option β) (l : List α) (s : α) : (l ++ [s]).zipIdx.filterMap f = l.zipIdx.filterMap f ++ (f (s, l.length)).toList := by
  rw [List.zipIdx_append, List.filterMap_append]
  simp only [List.zipIdx_cons, List.zipIdx_nil, Nat.zero_add, List.filterMap_cons, List.filterMap_nil]
  cases f (s, l.length) <;> rfl
theorem zip_take {α β : Type} (f : α × Nat → Option β) (l : List α) {j : Nat} {s : α} (h : l[j]? = some s) : (l.take (j + 1)).zipIdx.filterMap f = (l.take j).zipIdx.filterMap f ++ (f (s, j)).toList := by
  have hl := (List.getElem?_eq_some_iff.1 h).1
  have e : l.take (j + 1) = l.take j ++ [s] := by rw [List.take_add_one, h]; rfl
  rw [e, zip_snoc, List.length_take, Nat.min_eq_left (by omega)]
theorem zip_pre {α β : Type} (f : α × Nat → Option β) (l : List α) (j : Nat) : (l.take j).zipIdx.filterMap f <+: l.zipIdx.filterMap f := by
  have e : l = l.take j ++ l.drop j := (List.take_append_drop j l).symm
  conv => rhs; rw [e]
  rw [List.zipIdx_append, List.filterMap_append]
  exact List.prefix_append _ _
theorem zip_len {α β : Type} (f : α × Nat → Option β) (l : List α) : (l.zipIdx.filterMap f).length ≤ l.length := by
  refine Nat.le_trans (List.length_filterMap_le _ _) ?_
  simp
/-- The first free slot, out of the list of all. -/
theorem free_head : ∀ (l : List SlotR) (k : Nat), k + l.length ≤ 64 → (l.zipIdx k).filterMap freeF = [] ∨ ∃ (x : FS) (r : List FS) (s : SlotR), (l.zipIdx k).filterMap freeF = x :: r ∧ x.1.val = k + firstF l ∧ l[firstF l]? = some s ∧ x.2 = s.gen ∧ isFree s = true
  | [], k, _ => .inl rfl
  | s :: l, k, h => by
    rw [List.zipIdx_cons, List.filterMap_cons]
    have hk : k < 64 := by simp at h; omega
    cases hs : isFree s with
    | true =>
      have e : freeF (s, k) = some (⟨k, hk⟩, s.gen) := by unfold freeF; rw [dif_pos hk, if_pos hs]
      rw [e]
      have hf : firstF (s :: l) = 0 := by unfold firstF; rw [List.findIdx_cons, hs]; rfl
      exact .inr ⟨_, _, s, rfl, by rw [hf]; rfl, by rw [hf]; rfl, rfl, hs⟩
    | false =>
      have e : freeF (s, k) = none := by unfold freeF; rw [dif_pos hk, if_neg (by rw [hs]; decide)]
      rw [e]
      have hf : firstF (s :: l) = firstF l + 1 := by unfold firstF; rw [List.findIdx_cons, hs]; rfl
      rcases free_head l (k + 1) (by simp at h; omega) with h1 | ⟨x, r, t, h1, h2, h3, h4, h5⟩
      · exact .inl h1
      · exact .inr ⟨x, r, t, h1, by rw [hf, h2]; omega, by rw [hf]; exact h3, h4, h5⟩
theorem free_none : ∀ (l : List SlotR) (k : Nat), k + l.length ≤ 64 → (l.zipIdx k).filterMap freeF = [] → freeN l = 0
  | [], _, _, _ => rfl
  | s :: l, k, h, hn => by
    have hk : k < 64 := by simp at h; omega
    rw [List.zipIdx_cons, List.filterMap_cons] at hn
    cases hs : isFree s with
    | true =>
      have e : freeF (s, k) = some (⟨k, hk⟩, s.gen) := by unfold freeF; rw [dif_pos hk, if_pos hs]
      rw [e] at hn
      cases hn
    | false =>
      have e : freeF (s, k) = none := by unfold freeF; rw [dif_pos hk, if_neg (by rw [hs]; decide)]
      rw [e] at hn
      have ih := free_none l (k + 1) (by simp at h; omega) hn
      unfold freeN at ih ⊢
      rw [List.countP_cons, ih, hs]
      rfl
/-- What an iterator over slots looks at. -/
structure InEnv (W : World) (n0 bL bS z : Nat) (cs : Array Value) : Prop where
  rL : Row W bL #[ptr z] 68
  rS : Row W bS #[.int .i64 0] 3
  rz : Row W z cs SlT
  nL : bL < n0
  nS : bS < n0
  nz : z < n0
theorem InEnv.on {W W' : World} {n0 bL bS z : Nat} {cs : Array Value} (h : InEnv W n0 bL bS z cs) (hb : ∀ b, b < n0 → W'.heap[b]? = W.heap[b]?) : InEnv W' n0 bL bS z cs where
  rL := ⟨(hb bL h.nL).trans h.rL.eq⟩
  rS := ⟨(hb bS h.nS).trans h.rS.eq⟩
  rz := ⟨(hb z h.nz).trans h.rz.eq⟩
  nL := h.nL
  nS := h.nS
  nz := h.nz
theorem InEnv.below {W W' : World} {n0 bL bS z : Nat} {cs : Array Value} (h : InEnv W n0 bL bS z cs) (hb : Below n0 W W') : InEnv W' n0 bL bS z cs := h.on (fun b hlt => hb.block b hlt)
theorem InEnv.grow {W W' : World} {n0 bL bS z : Nat} {cs : Array Value} (h : InEnv W n0 bL bS z cs) (hb : Below W.heap.size W W') : InEnv W' n0 bL bS z cs where
  rL := h.rL.on hb
  rS := h.rS.on hb
  rz := h.rz.on hb
  nL := h.nL
  nS := h.nS
  nz := h.nz
theorem in1_in (n : Nat) (hn : 1 ≤ n) (l n0 bL bS z : Nat) (cs : Array Value) (sl : List SlotR) (ha : SlA cs sl) (J Jx : List FS → World → Prop) (W : World)
    (hJd : ∀ s W, J s W → J s W.drew) (hJa : ∀ s W o, J s W → J s (W.alloc o))
    (hY : ∀ pre x W1, J pre W1 → pre.length < 65 → YieldAt Fence.wide (n - 1) Tryz.prog l (encF x) W1 fun e W' => (e = .returned (.bool true) ∧ J (pre ++ [x]) W' ∧ Below n0 W1 W') ∨ (e = .returned (.bool false) ∧ Jx (pre ++ [x]) W'))
    (hE : InEnv W n0 bL bS z cs) (h0 : J [] W) :
    CallsIn Fence.wide n Tryz.prog 120 #[.func (.yield l) #[] #[], .pointer (some ⟨bL, 0, none⟩), .pointer (some ⟨bS, 0, none⟩)] W fun e W' => (∃ v, e = .returned v) ∧
      ((∃ ys, ys = freeL sl ∧ J ys W') ∨ (∃ pre, pre <+: freeL sl ∧ Jx pre W')) := by
  have HA := Lib.hid ha
  have HJA := Lib.hid hJa
  have HY := Lib.hid hY
  have HE := Lib.hid hE
  have CM := Lib.hid (fun W (hr : Row W z cs SlT) => sl_valid hr ha.c0)
  clear ha hY hE hJa
  refine callsIn_of_wp Tryz.func120 rfl trivial ?_ rfl
  simp only [Tryz.ntmps120, List.size_toArray, List.length_cons, List.length_nil, Nat.reduceAdd, Nat.reduceSub, Array.replicate_succ, Array.replicate_zero, List.push_toArray, List.append_toArray, List.nil_append, List.cons_append]
  have y0 := HE.out.rL.cell
  gi_wp2_with fail
  refine ⟨trivial, ?_⟩
  gi_at_call 77
  refine (callsIn_wide.2 (CM.out _ HE.out.rz)).mono ?_
  rintro e w1 ⟨rfl, hw⟩
  have hw' := hw.symm
  subst hw'
  gi_wp2_with fail
  have hE1 : InEnv W.drew n0 bL bS z cs := HE.out.on (fun b _ => rfl)
  have hJ1 := hJd _ _ h0
  refine wpIn_wide.2 ?_
  refine wp_region_held_drew (S := fun W' => W'.cell? ⟨bL, 0, none⟩ = some (ptr z) ∧ W'.cell? ⟨z, 0, none⟩ = some (.int .i64 64)) (by kernel_rfl) ⟨hE1.rL.cell 0, (hE1.rz.cell 0).trans HA.out.c0⟩ (fun hHeld => ?_)
  clear HE h0 y0 hJd
  generalize W.drew = X at *
  have HE1 := Lib.hid hE1
  have HJ1 := Lib.hid hJ1
  clear hE1 hJ1
  refine' wpAnyH_take (i := 0) (oi := _) (v := _) ?_ (by kernel_rfl) (by kernel_rfl) (by kernel_rfl) ?_ (Or.inl ⟨?_, ?_⟩) (by assumption) ?_
  rotate_left 2
  · (simp only [List.getElem?_toArray, List.getElem?_cons_succ, List.getElem?_cons_zero]; rfl)
  · first | exact fun _ _ _ h => h | exact fun _ _ _ h => nomatch h.1
  · rfl
  · (intro W hSW; (try dsimp only at hSW); go_split_ands; first | (go_simp; done) | (go_simp; with_reducible rfl))
  try simp only [Act.put, List.setIfInBounds_toArray, List.set_cons_zero, List.set_cons_succ]
  refine' wpAnyH_take (i := 1) (oi := _) (v := _) ?_ (by kernel_rfl) (by kernel_rfl) (by kernel_rfl) ?_ (Or.inl ⟨?_, ?_⟩) (by assumption) ?_
  rotate_left 2
  · (simp only [List.getElem?_toArray, List.getElem?_cons_succ, List.getElem?_cons_zero]; rfl)
  · first | exact fun _ _ _ h => h | exact fun _ _ _ h => nomatch h.1
  · rfl
  · (intro W hSW; (try dsimp only at hSW); go_split_ands; first | (go_simp; done) | (go_simp; with_reducible rfl))
  try simp only [Act.put, List.setIfInBounds_toArray, List.set_cons_zero, List.set_cons_succ]
  refine' wpAnyH_take (i := 2) (oi := _) (v := _) ?_ (by kernel_rfl) (by kernel_rfl) (by kernel_rfl) ?_ (Or.inl ⟨?_, ?_⟩) (by assumption) ?_
  rotate_left 2
  · (simp only [List.getElem?_toArray, List.getElem?_cons_succ, List.getElem?_cons_zero]; rfl)
  · first | exact fun _ _ _ h => h | exact fun _ _ _ h => nomatch h.1
  · rfl
  · (intro W hSW; (try dsimp only at hSW); go_split_ands; first | (go_simp; done) | (go_simp; with_reducible rfl))
  try simp only [Act.put, List.setIfInBounds_toArray, List.set_cons_zero, List.set_cons_succ]
  refine' wpAnyH_take (i := 3) (oi := _) (v := _) ?_ (by kernel_rfl) (by kernel_rfl) (by kernel_rfl) ?_ (Or.inl ⟨?_, ?_⟩) (by assumption) ?_
  rotate_left 2
  · (simp only [List.getElem?_toArray, List.getElem?_cons_succ, List.getElem?_cons_zero]; rfl)
  · first | exact fun _ _ _ h => h | exact fun _ _ _ h => nomatch h.1
  · rfl
  · (intro W hSW; (try dsimp only at hSW); go_split_ands; first | (go_simp; done) | (go_simp; with_reducible rfl))
  try simp only [Act.put, List.setIfInBounds_toArray, List.set_cons_zero, List.set_cons_succ]
  refine' wpAnyH_take (i := 4) (oi := _) (v := _) ?_ (by kernel_rfl) (by kernel_rfl) (by kernel_rfl) ?_ (Or.inl ⟨?_, ?_⟩) (by assumption) ?_
  rotate_left 2
  · (simp only [List.getElem?_toArray, List.getElem?_cons_succ, List.getElem?_cons_zero]; rfl)
  · first | exact fun _ _ _ h => h | exact fun _ _ _ h => nomatch h.1
  · rfl
  · (intro W hSW; (try dsimp only at hSW); go_split_ands; first | (go_simp; done) | (go_simp; with_reducible rfl))
  try simp only [Act.put, List.setIfInBounds_toArray, List.set_cons_zero, List.set_cons_succ]
  refine' wpAnyH_take (i := 5) (oi := _) (v := _) ?_ (by kernel_rfl) (by kernel_rfl) (by kernel_rfl) ?_ (Or.inl ⟨?_, ?_⟩) (by assumption) ?_
  rotate_left 2
  · (simp only [List.getElem?_toArray, List.getElem?_cons_succ, List.getElem?_cons_zero]; rfl)
  · first | exact fun _ _ _ h => h | exact fun _ _ _ h => nomatch h.1
  · rfl
  · (intro W hSW; (try dsimp only at hSW); go_split_ands; first | (go_simp; done) | (go_simp; with_reducible rfl))
  try simp only [Act.put, List.setIfInBounds_toArray, List.set_cons_zero, List.set_cons_succ]
  refine' wpAnyH_take (i := 6) (oi := _) (v := _) ?_ (by kernel_rfl) (by kernel_rfl) (by kernel_rfl) ?_ (Or.inl ⟨?_, ?_⟩) (by assumption) ?_
  rotate_left 2
  · (simp only [List.getElem?_toArray, List.getElem?_cons_succ, List.getElem?_cons_zero]; rfl)
  · first | exact fun _ _ _ h => h | exact fun _ _ _ h => nomatch h.1
  · rfl
  · (intro W hSW; (try dsimp only at hSW); go_split_ands; first | (go_simp; done) | (go_simp; with_reducible rfl))
  try simp only [Act.put, List.setIfInBounds_toArray, List.set_cons_zero, List.set_cons_succ]
  refine' wpAnyH_take (i := 7) (oi := _) (v := _) ?_ (by kernel_rfl) (by kernel_rfl) (by kernel_rfl) ?_ (Or.inl ⟨?_, ?_⟩) (by assumption) ?_
  rotate_left 2
  · (simp only [List.getElem?_toArray, List.getElem?_cons_succ, List.getElem?_cons_zero]; rfl)
  · first | exact fun _ _ _ h => h | exact fun _ _ _ h => nomatch h.1
  · rfl
  · (intro W hSW; (try dsimp only at hSW); go_split_ands; first | (go_simp; done) | (go_simp; with_reducible rfl))
  try simp only [Act.put, List.setIfInBounds_toArray, List.set_cons_zero, List.set_cons_succ]
  refine' wpAnyH_take (i := 8) (oi := _) (v := _) ?_ (by kernel_rfl) (by kernel_rfl) (by kernel_rfl) ?_ (Or.inl ⟨?_, ?_⟩) (by assumption) ?_
  rotate_left 2
  · (simp only [List.getElem?_toArray, List.getElem?_cons_succ, List.getElem?_cons_zero]; rfl)
  · first | exact fun _ _ _ h => h | exact fun _ _ _ h => nomatch h.1
  · rfl
  · (intro W hSW; (try dsimp only at hSW); go_split_ands; first | (go_simp; done) | (go_simp; with_reducible rfl))
  try simp only [Act.put, List.setIfInBounds_toArray, List.set_cons_zero, List.set_cons_succ]
  refine' wpAnyH_take (i := 9) (oi := _) (v := _) ?_ (by kernel_rfl) (by kernel_rfl) (by kernel_rfl) ?_ (Or.inl ⟨?_, ?_⟩) (by assumption) ?_
  rotate_left 2
  · (simp only [List.getElem?_toArray, List.getElem?_cons_succ, List.getElem?_cons_zero]; rfl)
  · first | exact fun _ _ _ h => h | exact fun _ _ _ h => nomatch h.1
  · rfl
  · (intro W hSW; (try dsimp only at hSW); go_split_ands; first | (go_simp; done) | (go_simp; with_reducible rfl))
  try simp only [Act.put, List.setIfInBounds_toArray, List.set_cons_zero, List.set_cons_succ]
  clear hHeld
  refine wpAnyH_done (by kernel_rfl) ?_ _
  gi_wp2_with fail
  gi_loopw [18] (fun iv wr => ∃ j : Nat, j ≤ 64 ∧ iv = .int .i64 j ∧ J (freeL (sl.take j)) wr ∧ InEnv wr n0 bL bS z cs) (fun iv _ => 64 - (intOf iv).toNat)
  case atStart => exact ⟨0, by omega, rfl, by rw [List.take_zero]; exact HJ1.out, HE1.out⟩
  case round =>
    obtain ⟨j, hj, rfl, hJj, hEj⟩ := hrel
    clear HE1 HJ1
    by_cases hlt : j < 64
    · have j0 : (0 : Int) ≤ (j : Int) := by omega
      have j1 : (j : Int) < 64 := by omega
      obtain ⟨s, hs⟩ : ∃ s, sl[j]? = some s := ⟨_, List.getElem?_eq_getElem (by have := HA.out.len; omega)⟩
      have y1 : wr.cell? ⟨z, 1 + j * 2, none⟩ = _ := (hEj.rz.cell _).trans (HA.out.st j s hs)
      have y2 : wr.cell? ⟨z, 1 + j * 2 + 1, none⟩ = _ := (hEj.rz.cell _).trans (HA.out.gen j s hs)
      have y3 := hEj.rS.cell
      have z3 := hEj.rS.lt
      have htk : freeL (sl.take (j + 1)) = freeL (sl.take j) ++ (freeF (s, j)).toList := zip_take freeF sl hs
      have hlen : (freeL (sl.take j)).length < 65 := by
        have := zip_len freeF (sl.take j)
        rw [List.length_take] at this
        show ((sl.take j).zipIdx.filterMap freeF).length < 65
        omega
      have hpre : freeL (sl.take (j + 1)) <+: freeL sl := zip_pre freeF sl (j + 1)
      generalize hg : s.gen = g at *
      cases hf : isFree s with
      | true =>
        have e1 : freeF (s, j) = some (⟨j, hlt⟩, g) := by unfold freeF; rw [dif_pos hlt, if_pos hf, hg]
        have e2 : stS s = 0 := by unfold stS; rw [if_pos hf]
        rw [e1] at htk
        rw [e2] at y1
        have hJ2 := HJA.out _ _ (.cells #[.int .i64 0, .int .u32 g] 118) hJj
        obtain ⟨fn, tmps, assign, body, hy, hR⟩ := HY.out _ ((⟨j, hlt⟩, g) : FS) _ hJ2 hlen
        rw [show freeL (sl.take j) ++ [((⟨j, hlt⟩, g) : FS)] = freeL (sl.take (j + 1)) from htk.symm] at hR
        dsimp only [encF] at hy
        have HR := Lib.hid hR
        have HEj := Lib.hid hEj
        have HPR := Lib.hid hpre
        clear hR hJj hEj hJ2 hs hg hf e1 e2 htk hlen hpre HY HJA
        gi_wp2_with fail
        refine HR.out.mono ?_
        rintro e W3 (⟨rfl, hJ3, hk3⟩ | ⟨rfl, hJx3⟩)
        · have HJ3 := Lib.hid hJ3
          have HE3 := Lib.hid ((HEj.out.grow (below_alloc _ _)).below hk3)
          clear hJ3 hk3 HEj HR
          gi_wp2
          go_roundw
          case rel => exact ⟨j + 1, by omega, by go_num, HJ3.out, HE3.out⟩
          case measure => simp [intOf]; omega
        · have HJ3 := Lib.hid hJx3
          clear hJx3 HEj HR
          gi_wp2
          refine bodyPost_ret (results_none rfl _ _ _) rfl ?_
          exact ⟨⟨_, rfl⟩, .inr ⟨_, HPR.out, HJ3.out⟩⟩
      | false =>
        have e1 : freeF (s, j) = none := by unfold freeF; rw [dif_pos hlt, if_neg (by rw [hf]; decide)]
        have e2 : stS s = 1 := by unfold stS; rw [if_neg (by rw [hf]; decide)]
        rw [e1] at htk
        rw [e2] at y1
        have hJ2 := HJA.out _ _ (.cells #[.int .i64 1, .int .u32 g] 118) hJj
        rw [show freeL (sl.take j) = freeL (sl.take (j + 1)) by rw [htk]; simp] at hJ2
        have HJ3 := Lib.hid hJ2
        have HEj := Lib.hid hEj
        clear hJj hEj hJ2 hs hg hf e1 e2 htk hlen hpre HY HJA
        gi_wp2_with fail
        refine ⟨fun _ h => (by cases h), ?_⟩
        gi_wp2
        go_roundw
        case rel => exact ⟨j + 1, by omega, by go_num, HJ3.out, HEj.out.grow (below_alloc _ _)⟩
        case measure => simp [intOf]; omega
    · obtain rfl : j = 64 := by omega
      rw [List.take_of_length_le (Nat.le_of_eq HA.out.len)] at hJj
      have HJ3 := Lib.hid hJj
      clear hJj
      gi_wp2
      go_end0
      exact ⟨⟨_, rfl⟩, .inl ⟨_, rfl, HJ3.out⟩⟩
theorem grown_drewS (W : World) : W.grownBy W.drew none := ⟨rfl, rfl, rfl, Nat.le_refl _, fun _ _ _ => rfl⟩
theorem in1_stops (m : Nat) (hm : 1 ≤ m) (n0 bL bS z : Nat) (cs : Array Value) (sl : List SlotR) (ha : SlA cs sl) (w : World) (hE : InEnv w n0 bL bS z cs) (hn0 : n0 ≤ w.heap.size) :
    SeqStopsK Fence.wide m Tryz.prog 120 #[.pointer (some ⟨bL, 0, none⟩), .pointer (some ⟨bS, 0, none⟩)] encF (Below n0) (fun ys => ys = freeL sl) (fun pre => pre <+: freeL sl) 65 w := fun l J Jx W hW hJ hJx hY h0 =>
  in1_in m hm l n0 bL bS z cs sl ha J Jx W (fun s W h => hJ s W _ none h (grown_drewS W) (fun r e => by cases e)) (fun s W o h => hJ s W _ none h (World.grownBy_alloc W o none) (fun r e => by cases e)) hY (hE.on (fun b hb => hW.block b (Nat.lt_of_lt_of_le hb hn0))) h0
theorem sin_c (z : Nat) (w : World) : Calls Tryz.prog 102 #[ptr z, .int .i64 0] w fun e w' => e = .returned (.func (.func 120) #[] #[.pointer (some ⟨w.heap.size, 0, none⟩), .pointer (some ⟨w.heap.size + 1, 0, none⟩)]) ∧ w' = (w.alloc (.cells #[ptr z] 68)).alloc (.cells #[.int .i64 0] 3) := by
  go_enter Tryz.func102, Tryz.ntmps102
  go_wp2_with fail
  go_returns
  exact ⟨by simp, rfl⟩
theorem ownFrom_but {α : Type} {B : Nat} {F : Nat → Prop} {w : World} (hB : w.heap.size ≤ B) : OwnFrom B (fun (_ : α) W => But F w W) := fun s X Y row h hg hr => by
  refine But.grown h hg (fun k hk hlt => ?_)
  have := (hr k hk).1
  omega
theorem but_turn {F : Nat → Prop} {w W : World} (h : But F w W) (D : Nat) (o o' : Obj) (hD : w.heap.size ≤ D) (hK : W.heap[D]? = some o) : But F w (W.putObj D o') :=
  h.grown (grownBy_putObj' W D o') (fun k hk hlt => by cases hk; omega)
abbrev ref0 : Array Value := #[.int .i64 0, .int .u32 0]
theorem take_c {w : World} {z : Nat} {cs : Array Value} {sl : List SlotR} (h : Row w z cs SlT) (ha : SlA cs sl) (hf : 0 < freeN sl) : Calls Tryz.prog 86 #[ptr z] w fun e w' => ∃ s, sl[firstF sl]? = some s ∧ isFree s = true ∧ e = .returned (.tuple #[.agg #[.int .i64 (firstF sl : Nat), .int .u32 s.gen], .int .i64 0]) ∧ Row w' z (cs.setIfInBounds (1 + firstF sl * 2) (.int .i64 1)) SlT ∧ But (fun b => b = z) w w' := by
  have HA := Lib.hid ha
  have HF := Lib.hid hf
  have H := Lib.hid h
  clear ha hf h
  refine (callsIn_wide (n := 3)).1 ?_
  refine callsIn_of_wp_marks Tryz.func86 rfl trivial ?_ rfl
  simp only [Tryz.ntmps86, List.size_toArray, List.length_cons, List.length_nil, Nat.reduceAdd, Nat.reduceSub, Array.replicate_succ, Array.replicate_zero, List.push_toArray, List.append_toArray, List.nil_append, List.cons_append]
  refine wpIn_wide.2 ?_
  go_upto_region 1 with fail
  have hb1 := below_alloc w (.cells #[ptr z] 68)
  have r1 := Row.new (W := w) (cs := #[ptr z]) (t := 68)
  have hs1 : (w.alloc (.cells #[ptr z] 68)).heap.size = w.heap.size + 1 := by simp
  generalize w.alloc (.cells #[ptr z] 68) = V1 at *
  have hb2 := below_alloc V1 (.cells ref0 85)
  have r2 := Row.new (W := V1) (cs := ref0) (t := 85)
  have hs2 : (V1.alloc (.cells ref0 85)).heap.size = w.heap.size + 2 := by simp; omega
  rw [hs1] at r2
  generalize V1.alloc (.cells ref0 85) = V2 at *
  have hb3 := below_alloc V2 (.cells #[.int .i64 0] 32)
  have r3 := Row.new (W := V2) (cs := #[.int .i64 0]) (t := 32)
  have hs3 : (V2.alloc (.cells #[.int .i64 0] 32)).heap.size = w.heap.size + 3 := by simp; omega
  rw [hs2] at r3
  generalize V2.alloc (.cells #[.int .i64 0] 32) = V3 at *
  have hB3 := chain (chain hb1 hb2) hb3
  replace r2 := r2.on hb3
  replace r1 := (r1.on hb2).on hb3
  have hz := H.out.on hB3
  have y1 := r1.cell
  have z1 := r1.lt
  clear hb1 hb2 hb3 hs1 hs2
  go_wp2_with fail
  refine Calls.mono (sl_valid hz HA.out.c0) ?_
  rintro e V ⟨rfl, hW⟩
  subst V
  go_wp2_with fail
  refine Calls.mono (sin_c z _) ?_
  rintro e V4 ⟨rfl, hW⟩
  rw [hs3]
  obtain ⟨hbA, q4⟩ := (⟨below_alloc V3 (.cells #[ptr z] 68), Row.new⟩ : Below V3.heap.size V3 (V3.alloc (.cells #[ptr z] 68)) ∧ Row (V3.alloc (.cells #[ptr z] 68)) V3.heap.size #[ptr z] 68)
  have hbB := below_alloc (V3.alloc (.cells #[ptr z] 68)) (.cells #[.int .i64 0] 3)
  have q5 := Row.new (W := V3.alloc (.cells #[ptr z] 68)) (cs := #[.int .i64 0]) (t := 3)
  have hsA : (V3.alloc (.cells #[ptr z] 68)).heap.size = w.heap.size + 4 := by simp; omega
  rw [hsA] at q5
  rw [hs3] at q4
  have hs4 : V4.heap.size = w.heap.size + 5 := by rw [hW]; simp; omega
  rw [← hW] at hbB q5
  have hbC := chain hbA hbB
  replace q4 := q4.on hbB
  replace r1 := r1.on hbC
  replace r2 := r2.on hbC
  replace r3 := r3.on hbC
  have hB4 := chain hB3 hbC
  have hz4 := H.out.on hB4
  have hE0 : InEnv V4 V4.heap.size (w.heap.size + 3) (w.heap.size + 4) z cs := ⟨q4, q5, hz4, by omega, by omega, hz4.lt⟩
  clear y1 z1 hbA hbB hbC hsA hW hB3 hz hs3
  go_wp2_with fail
  have hro : Fence.wide.round = none := rfl
  refine wpIn_wide.1 (?_ : Code.wpIn Fence.wide 3 _ _ _ _ _)
  refine wpIn_rangeFunc_ownH hro (by omega) (gf := 120) (lb := #[.pointer (some ⟨w.heap.size + 3, 0, none⟩), .pointer (some ⟨w.heap.size + 4, 0, none⟩)]) rfl trivial (enters_of Tryz.func120 (by kernel_rfl) rfl)
    (in1_stops 2 (by omega) V4.heap.size (w.heap.size + 3) (w.heap.size + 4) z cs sl HA.out V4 hE0 (Nat.le_refl _)) belowK_t (belowK_b (by omega)) (Below.refl _ _) (fun _ => rfl)
    (fun pre W => (pre = [] ∧ Row W w.heap.size #[ptr z] 68 ∧ Row W (w.heap.size + 1) ref0 85 ∧ Row W (w.heap.size + 2) #[.int .i64 0] 32 ∧ Row W z cs SlT) ∧ But (fun b => b = z) w W)
    (fun c pre W => (c = .ret ∧ ∃ x : FS, pre = [x] ∧ Row W (w.heap.size + 1) #[.int .i64 (x.1.val : Nat), .int .u32 x.2] 85 ∧ Row W (w.heap.size + 2) #[.int .i64 0] 32 ∧ Row W z (cs.setIfInBounds (1 + x.1.val * 2) (.int .i64 1)) SlT) ∧ But (fun b => b = z) w W)
    (OwnFrom.and (Own.from (fun s A B row hs hg hr => ⟨hs.1, row_kept hs.2.1 hg hr, row_kept hs.2.2.1 hg hr, row_kept hs.2.2.2.1 hg hr, row_kept hs.2.2.2.2 hg hr⟩) _) (ownFrom_but (by omega)))
    (fun c => OwnFrom.and (Own.from (fun s A B row hs hg hr => by obtain ⟨h1, x, h2, h3, h4, h5⟩ := hs; exact ⟨h1, x, h2, row_kept h3 hg hr, row_kept h4 hg hr, row_kept h5 hg hr⟩) _) (ownFrom_but (by omega)))
    ⟨⟨rfl, r1, r2, r3, hz4⟩, but_of _ hB4⟩
    (fun x a' W => a' = { tmps := #[ptr z, .pointer (some ⟨w.heap.size, 0, none⟩), .pointer (some ⟨w.heap.size + 1, 0, none⟩), .pointer (some ⟨w.heap.size + 2, 0, none⟩), .int .i64 (x.1.val : Nat), .int .u32 x.2, ptr z, .bool true, .bool false, undef, ptr z, .func (.func 120) #[] #[.pointer (some ⟨w.heap.size + 3, 0, none⟩), .pointer (some ⟨w.heap.size + 4, 0, none⟩)], .int .i64 (x.1.val : Nat), .int .u32 x.2, undef, undef, undef, undef, undef, undef, undef, undef, undef, undef], defers := [] })
    (fun x a' _ X Y row hs hg hr => hs)
    ?assign ?body ?done ?stop
  case assign =>
    rintro l pre x W K hI hK
    dsimp only [encF]
    gi_wp2
    exact hK _ _ ((KeepsOthers.refl _).from _) (Below.refl _ W) hI rfl
  case body =>
    rintro l pre ⟨⟨i, hx⟩, g⟩ a' W hl ⟨r, hr⟩ ⟨⟨rfl, q1, q2, q3, qz⟩, hB⟩ rfl hlt
    have x0 : (0 : Int) ≤ (i : Int) := by omega
    have x1 : (i : Int) < 256 := by omega
    have hzw := H.out.lt
    have y1 := q1.cell
    have yz : W.cell? ⟨z, 1 + i * 2, none⟩ = cs[1 + i * 2]? := qz.cell _
    obtain ⟨u, hu⟩ : ∃ u, cs[1 + i * 2]? = some u := ⟨_, Array.getElem?_eq_getElem (by have := HA.out.size; omega)⟩
    rw [hu] at yz
    have fz := qz.free
    have zz := qz.lt
    have z1 := q1.lt
    have z2 := q2.lt
    have z3 := q3.lt
    have y2 := q2.cell
    have f2 := q2.free
    have y3 := q3.cell
    have f3 := q3.free
    clear hu
    gi_wp2
    have n1 : w.heap.size + 1 ≠ z := by omega
    have n2 : w.heap.size + 2 ≠ z := by omega
    have n3 : w.heap.size + 1 ≠ w.heap.size + 2 := by omega
    refine ⟨((((KeepsOthers.setCell W ⟨z, 1 + i * 2, none⟩ (.int .i64 1)).trans (KeepsOthers.setCell _ ⟨w.heap.size + 1, 0, none⟩ (.int .i64 i))).trans (KeepsOthers.setCell _ ⟨w.heap.size + 1, 1, none⟩ (.int .u32 g))).trans (KeepsOthers.setCell _ ⟨w.heap.size + 2, 0, none⟩ (.int .i64 0))).from _, ⟨rfl, _, rfl, ?_, ?_, ?_⟩, ?_⟩
    · exact ((((q2.other n1.symm _ _).set 0 _).set 1 _).other n3.symm _ _)
    · exact ((((q3.other n2.symm _ _).other n3 _ _).other n3 _ _).set 0 _)
    · exact ((((qz.set _ _).other n1 _ _).other n1 _ _).other n2 _ _)
    · exact (((hB.setCell (fun _ => rfl) _ _).setCell (fun h => absurd h (by omega)) _ _).setCell (fun h => absurd h (by omega)) _ _).setCell (fun h => absurd h (by omega)) _ _
  case done =>
    rintro D zs W hD hzs ⟨⟨rfl, _⟩, hB⟩ hK
    exfalso
    have := free_none sl 0 (by have := HA.out.len; omega) hzs.symm
    have := HF.out
    omega
  case stop =>
    rintro D c pre W hD hpre ⟨⟨rfl, x, rfl, q2, q3, qz⟩, hB⟩ hK
    have hfh := free_head sl 0 (by have := HA.out.len; omega)
    obtain ⟨t, ht⟩ := hpre
    have ht2 : sl.zipIdx.filterMap freeF = x :: t := ht.symm
    rw [ht2] at hfh
    rcases hfh with hfh | ⟨x', t', s, h1, h2, h3, h4, h5⟩
    · cases hfh
    obtain rfl : x = x' := by injection h1
    rw [Nat.zero_add] at h2
    have HS := Lib.hid (show sl[firstF sl]? = some s ∧ isFree s = true from ⟨h3, h5⟩)
    rw [h2] at q2 qz
    rw [h4] at q2
    clear h1 h2 h3 h4 h5 ht ht2
    gi_wp2
    refine ⟨by simp, .inl ⟨_, _, rfl, run_takeDeferred hK, ?_⟩⟩
    have k2 := row_kept q2 (grownBy_putObj' _ D (.deferred none)) (fun r e => by cases e; exact ⟨_, hK, rfl⟩)
    have k3 := row_kept q3 (grownBy_putObj' _ D (.deferred none)) (fun r e => by cases e; exact ⟨_, hK, rfl⟩)
    have kz := row_kept qz (grownBy_putObj' _ D (.deferred none)) (fun r e => by cases e; exact ⟨_, hK, rfl⟩)
    have y2 := k2.cell
    have y3 := k3.cell
    refine ⟨.tuple #[.agg #[.int .i64 (firstF sl : Nat), .int .u32 s.gen], .int .i64 0], ?_, s, HS.out.1, HS.out.2, rfl, kz, but_turn hB D _ _ (by omega) hK⟩
    simp [results, Tryz.f86, Tryz.results86, go_sem, y2, y3]
end Go.Proofs.YtkjpdciccablpaaGreatDoor

/- The reference's slots (chapter 37): what they are in memory; valid, New, Free. -/
namespace Go.Proofs.YtkjpdciccablpaaGreatDoor
open Go.RowKit
set_option linter.unusedVariables false
set_option linter.unusedSimpArgs false
set_option maxHeartbeats 16000000
set_option maxRecDepth 20000
abbrev RsT : TypeId := 124
abbrev RslT : TypeId := 126
def slC (s : SlotR) : List Value := [.int .i64 (stS s), .int .u32 s.gen]
def slL (l : List SlotR) : List (List Value) := l.map slC
theorem slL_len (l : List SlotR) : (slL l).length = l.length := by simp [slL]
theorem slL_get {l : List SlotR} {k : Nat} {s : SlotR} (h : l[k]? = some s) : (slL l)[k]? = some (slC s) := by simp [slL, h]
theorem slL_set (l : List SlotR) (k : Nat) (s : SlotR) : slL (l.set k s) = (slL l).set k (slC s) := by simp [slL, List.map_set]
theorem slot_info : (Tryz.prog.info? 126).map (fun i => (i.zero, i.size, i.bytes)) = some (some (.agg #[.int .i64 0, .int .u32 0]), 2, 16) := by kernel_rfl
theorem owns_slice {W : World} {b : Nat} {t : TypeId} {k : Nat} {v : Value} {n : Nat} {L : List Value} (h : W.ownsRow b t k v n L) : ∃ a c, v = .slice a n c := by
  rcases h.2 with ⟨h0, h1⟩ | ⟨g, cap, cur, h1, _⟩
  · rw [h1]; exact ⟨none, 0, h0⟩
  · exact ⟨_, _, h1⟩
structure RSl (W : World) (F : Nat → Prop) (z : Nat) (sl : List SlotR) (v : Value) : Prop where
  row : Row W z #[v] RsT
  own : OwnsC RslT 2 0 W v (slL sl)
  len : sl.length = 64
  fz : F z
  fv : ∀ b, v.ownBlock = some b → F b
  fin : ∀ b, F b → b < W.heap.size
section
variable {W W' : World} {F : Nat → Prop} {z : Nat} {sl : List SlotR} {v : Value}
theorem RSl.via (h : RSl W F z sl v) (hs : W.heap.size ≤ W'.heap.size) (hb : ∀ b, F b → W'.heap[b]? = W.heap[b]?) : RSl W' F z sl v :=
  { h with
    row := ⟨(hb z h.fz).trans h.row.eq⟩
    own := h.own.via (fun k hk => hb k (h.fv k hk))
    fin := fun b hF => Nat.lt_of_lt_of_le (h.fin b hF) hs }
theorem RSl.on (h : RSl W F z sl v) (hb : Below W.heap.size W W') : RSl W' F z sl v := h.via hb.size (fun b hF => hb.block b (h.fin b hF))
theorem RSl.drew (h : RSl W F z sl v) : RSl W.drew F z sl v := h.via (Nat.le_refl _) (fun b _ => rfl)
theorem RSl.wide {G : Nat → Prop} (h : RSl W F z sl v) (hF : ∀ b, F b → G b) (hG : ∀ b, G b → b < W.heap.size) : RSl W G z sl v :=
  { h with fz := hF _ h.fz, fv := fun b hb => hF _ (h.fv b hb), fin := hG }
theorem RSl.but {G : Nat → Prop} (h : RSl W F z sl v) (hb : But G W W') (hd : ∀ b, F b → ¬ G b) : RSl W' F z sl v := h.via hb.size (fun b hF => hb.block b (h.fin b hF) (hd b hF))
/-- The list, as the field. -/
theorem RSl.list (h : RSl W F z sl v) : ∃ g c, v = .slice (some ⟨g, 0, none⟩) 64 c ∧ F g ∧ g < W.heap.size := by
  obtain ⟨s, hs⟩ : ∃ s, sl[0]? = some s := ⟨_, List.getElem?_eq_getElem (by rw [h.len]; decide)⟩
  obtain ⟨g, c, e, h1, h2⟩ := h.own.cells (slL_get hs)
  rw [slL_len, h.len] at e
  exact ⟨g, c, e, h.fv g (by rw [e]; rfl), h1⟩
theorem RSl.slot {g n c : Nat} (h : RSl W F z sl (.slice (some ⟨g, 0, none⟩) n c)) {i : Nat} {s : SlotR} (hs : sl[i]? = some s) : W.cell? ⟨g, i * 2, none⟩ = some (.int .i64 (stS s)) ∧ W.cell? ⟨g, i * 2 + 1, none⟩ = some (.int .u32 s.gen) := by
  obtain ⟨g', c', e, h1, h2⟩ := h.own.cells (slL_get hs)
  injection e with e1 e2 e3
  injection e1 with e1
  injection e1 with e1
  subst e1
  exact ⟨h2 0 (by omega), h2 1 (by omega)⟩
end
theorem rs_valid {W : World} {z c : Nat} {a : Option Addr} (h : Row W z #[.slice a 64 c] RsT) : Calls Tryz.prog 103 #[ptr z] W fun e w' => e = .returned (.bool true) ∧ w' = W := by
  have y := h.cell
  have zz := h.lt
  clear h
  go_enter Tryz.func103, Tryz.ntmps103
  go_wp2_with fail
  go_returns
  exact ⟨rfl, rfl⟩
theorem rs_new (w : World) : Calls Tryz.prog 28 #[.int .i64 64, .int .u32 1] w fun e w' => ∃ z v, e = .returned (.tuple #[ptr z, .int .i64 0]) ∧ RSl w' (FreshL w w') z emptyT.sl v ∧ Below w.heap.size w w' := by
  obtain ⟨i0, hi, hz0, hz1, hz2⟩ := info_parts slot_info
  have HI0 := Lib.hid hi
  have HZ0 := Lib.hid hz0
  have HZ1 := Lib.hid hz1
  have HZ2 := Lib.hid hz2
  clear hi hz0 hz1 hz2
  have ck := fun W => ref_Check 1 W (by omega) (by omega)
  rw [gErr_pos (by omega)] at ck
  go_enter Tryz.func28, Tryz.ntmps28
  go_wp2_with fail
  refine Calls.mono (ck _) ?_
  rintro e V ⟨rfl, hW⟩
  subst V
  clear ck
  go_upto_region 4 with fail
  have r1 := Row.new (W := w) (cs := #[.slice none 0 0]) (t := RsT)
  have hc := below_alloc w (.cells #[.slice none 0 0] RsT)
  generalize w.alloc (.cells #[.slice none 0 0] RsT) = V at *
  go_wp2_with fail
  go_loopw [7] (fun iv wr => ∃ (j : Nat) (v : Value), j ≤ 64 ∧ iv = .int .i64 j ∧ Row wr w.heap.size #[v] RsT ∧ OwnsC RslT 2 w.heap.size wr v (slL (List.replicate j ⟨none, 1⟩)) ∧ Below w.heap.size w wr) (fun iv _ => 64 - (intOf iv).toNat)
  case atStart => exact ⟨0, .slice none 0 0, by omega, rfl, r1, OwnsC.nil _ _ _ _, hc⟩
  case round =>
    clear r1 hc
    obtain ⟨j, v, hj, rfl, r1, ho, hc⟩ := hrel
    have z1 := r1.lt
    by_cases hlt : j < 64
    · have j0 : (0 : Int) ≤ (j : Int) := by omega
      have j1 : (j : Int) < 64 := by omega
      have hlen : (slL (List.replicate j ⟨none, 1⟩)).length = j := by rw [slL_len, List.length_replicate]
      obtain ⟨ao, co, rfl⟩ := ho.len
      rw [hlen] at ho r1
      have y1 := r1.cell
      go_upto_region 7 with fail
      have kx := below_alloc wr (.cells #[.int .i64 0, .int .u32 1] RslT)
      have hsrc := row_src wr #[.int .i64 0, .int .u32 1] RslT
      have hq2 := (ho.on kx).2
      rw [hlen] at hq2
      have r2 := r1.on kx
      have HQ2 := Lib.hid hq2
      have HSRC := Lib.hid hsrc
      have HB := Lib.hid (chain hc kx)
      have HX := Lib.hid (Nat.le_trans hc.size kx.size)
      have HO := Lib.hid (ho.on kx)
      clear kx hsrc hq2 hc ho r1
      go_wp2_with (at_builtin; refine wpList_append_own _ rfl _ _ 122 rfl w.heap.size RslT i0 (.agg #[.int .i64 0, .int .u32 0]) 2 16 Tryz.underlying122 HI0.out HZ0.out HZ1.out HZ2.out rfl (by decide) _ j (slL (List.replicate j ⟨none, 1⟩)).flatten rfl HQ2.out ⟨wr.heap.size, 0, none⟩ 1 1 [.int .i64 0, .int .u32 1] rfl rfl HSRC.out (by intro u hu; rcases List.mem_cons.1 hu with rfl | hu; rfl; rw [List.mem_singleton.1 hu]; rfl) (by unfold maxLen; omega) (by omega) HX.out ?_; intro v' w1 hown' hgrow hnil; obtain ⟨av, cv, rfl⟩ := owns_slice hown'; clear y1 z1; have r3 := row_grown r2 hgrow (HO.out.ne_row r2 (by decide)); have y3 := r3.cell; have u3 := r3.free; have z3 := r3.lt; have HOWN := Lib.hid hown'; have HGR := Lib.hid hgrow; clear hown' hgrow hnil r2)
      go_roundw
      case rel =>
        have hrep : slL (List.replicate (j + 1) ⟨none, 1⟩) = slL (List.replicate j ⟨none, 1⟩) ++ [[.int .i64 0, .int .u32 1]] := by rw [List.replicate_succ']; simp [slL, slC, stS, isFree]
        have ho2 := OwnsC.more HO.out rfl (by rw [hlen]) HOWN.out
        rw [← hrep] at ho2
        have r4 := r3.set 0 (.slice av (j + 1) cv)
        simp only [List.setIfInBounds_toArray, List.set_cons_zero] at r4
        exact ⟨j + 1, _, by omega, by go_num, r4, ho2.other (ho2.ne_row r3 (by decide)) 0 _, (HB.out.grown HGR.out (by have := HB.out.size; omega) (fun k hk => (World.ownsRow.lt HQ2.out k hk).1)).setCell (by simp) _⟩
      case measure => simp [intOf]; omega
    · obtain rfl : j = 64 := by omega
      go_wp2_with fail
      go_returns
      have hlen : (slL (List.replicate 64 (⟨none, 1⟩ : SlotR))).length = 64 := by rw [slL_len, List.length_replicate]
      refine ⟨_, v, rfl, { row := r1, own := ho.base (Nat.zero_le _), len := by simp [emptyT], fz := ⟨Nat.le_refl _, r1.lt⟩, fv := fun b hb => ho.lt b hb, fin := fun b hb => hb.2 }, hc⟩
theorem rs_count {W : World} {F : Nat → Prop} {z : Nat} {sl : List SlotR} {v : Value} (h : RSl W F z sl v) : Ret 87 #[ptr z, .int .i64 0] W (.int .i64 (freeN sl : Nat)) := by
  have HH := Lib.hid h
  obtain ⟨g, c, rfl, hFg, hg⟩ := h.list
  have CV := Lib.hid (fun W' (hb : Below W.heap.size W W') => rs_valid (h.on hb).row)
  clear h
  have hc := Below.refl W.heap.size W
  go_enter Tryz.func87, Tryz.ntmps87
  go_wp2_with fail
  go_loopw [5, 6] (fun nv iv wr => ∃ (j : Nat), j ≤ 64 ∧ iv = .int .i64 j ∧ nv = .int .i64 (freeN (sl.take j) : Nat) ∧ Below W.heap.size W wr) (fun _ iv _ => 64 - (intOf iv).toNat)
  case atStart => exact ⟨0, by omega, rfl, rfl, hc⟩
  case round =>
    clear hc
    obtain ⟨j, hj, rfl, rfl, hc⟩ := hrel
    have hT := HH.out.on hc
    have y1 := hT.row.cell
    have z1 := hT.row.lt
    by_cases hlt : j < 64
    · have j0 : (0 : Int) ≤ (j : Int) := by omega
      have j1 : (j : Int) < 64 := by omega
      obtain ⟨s, hs⟩ : ∃ s, sl[j]? = some s := ⟨_, List.getElem?_eq_getElem (by have := HH.out.len; omega)⟩
      obtain ⟨y2, _⟩ := hT.slot hs
      have hfr := freeN_take hs
      obtain ⟨N, hN⟩ : ∃ N, freeN (sl.take j) = N := ⟨_, rfl⟩
      have hNj : N ≤ 64 := by rw [← hN]; exact Nat.le_trans List.countP_le_length (by rw [List.length_take]; omega)
      rw [hN] at hfr ⊢
      have HFR := Lib.hid hfr
      have HNJ := Lib.hid hNj
      have HN := Lib.hid hN
      clear hfr hN hs hNj hT
      cases hf : isFree s with
      | true =>
        rw [hf] at HFR
        have e0 : stS s = 0 := by unfold stS; rw [hf]; rfl
        rw [e0] at y2
        clear hf e0
        go_wp2_with fail
        refine Calls.mono (CV.out _ hc) ?_
        rintro e V2 ⟨rfl, hW⟩
        subst V2
        have n0 : (0 : Int) ≤ (N : Int) := by omega
        have n1 : (N : Int) ≤ 64 := by have := HNJ.out; omega
        have wn : IntKind.i64.wrap ((N : Int) + 1) = ((N + 1 : Nat) : Int) := by rw [show (N : Int) + 1 = ((N + 1 : Nat) : Int) by omega]; exact IntWalk.i64_in _ ⟨by omega, by omega⟩
        go_wp2_with fail
        go_roundw
        case rel => exact ⟨j + 1, by omega, by go_num, by rw [HFR.out]; simp [wn], hc⟩
        case measure => simp [intOf]; omega
      | false =>
        rw [hf] at HFR
        have e0 : stS s = 1 := by unfold stS; rw [hf]; rfl
        rw [e0] at y2
        clear hf e0
        go_wp2_with fail
        refine Calls.mono (CV.out _ hc) ?_
        rintro e V2 ⟨rfl, hW⟩
        subst V2
        go_wp2_with fail
        go_roundw
        case rel => exact ⟨j + 1, by omega, by go_num, by rw [HFR.out]; simp, hc⟩
        case measure => simp [intOf]; omega
    · obtain rfl : j = 64 := by omega
      rw [List.take_of_length_le (Nat.le_of_eq HH.out.len)]
      clear hT
      go_wp2_with fail
      refine Calls.mono (CV.out _ hc) ?_
      rintro e V2 ⟨rfl, hW⟩
      subst V2
      go_wp2_with fail
      go_returns
      exact ⟨rfl, hc⟩
theorem rs_free {W : World} {F : Nat → Prop} {z : Nat} {sl : List SlotR} {v : Value} (h : RSl W F z sl v) : Ret 60 #[ptr z] W (.int .i64 (freeN sl : Nat)) := by
  go_enter Tryz.func60, Tryz.ntmps60
  go_wp2_with fail
  refine Calls.mono (rs_count h) ?_
  rintro e V ⟨rfl, hn⟩
  go_wp2_with fail
  go_returns
  exact ⟨rfl, hn⟩
end Go.Proofs.YtkjpdciccablpaaGreatDoor

/- The contracts of stats.Used and stats.Add. -/
namespace Go.Proofs.YtkjpdciccablpaaGreatDoor
open Go.RowKit

set_option maxHeartbeats 2000000 in
theorem used_ok (o l c r q : Int) (w : World) (h : sOk o l c r q = true) : Ret 13 #[stV o l c r q] w (.tuple #[.int .i64 (o - r), .int .i64 0]) := by
  have hk := fun w => check_ok o l c r q w h
  have HK := Lib.hid hk
  unfold sOk at h
  rw [decide_eq_true_iff] at h
  obtain ⟨o0, o1, l0, l1, c0, c1, r0, r1, q0, q1, hs⟩ := h
  clear hk hs
  go_enter Tryz.func13, Tryz.ntmps13
  go_wp2_with fail
  refine Calls.mono (HK.out _) ?_
  rintro e w1 ⟨rfl, hb1⟩
  obtain ⟨k1, f1⟩ := bcell hb1
  go_wp2_with fail
  go_returns
  exact ⟨rfl, off_alloc hb1⟩
set_option maxHeartbeats 2000000 in
theorem used_bad (o l c r q : Int) (w : World) (h : sOk o l c r q = false) : Ret 13 #[stV o l c r q] w (.tuple #[.int .i64 0, .int .i64 2]) := by
  have hk := fun w => check_bad o l c r q w h
  have HK := Lib.hid hk
  clear hk h
  go_enter Tryz.func13, Tryz.ntmps13
  go_wp2_with fail
  refine Calls.mono (HK.out _) ?_
  rintro e w1 ⟨rfl, hb1⟩
  go_wp2_with fail
  go_returns
  exact ⟨rfl, off_alloc hb1⟩

end Go.Proofs.YtkjpdciccablpaaGreatDoor

/- stats.Add: what is refused. -/
namespace Go.Proofs.YtkjpdciccablpaaGreatDoor
open Go.RowKit

set_option maxHeartbeats 8000000 in
set_option maxRecDepth 20000 in
theorem add_bad (o l c r q f t : Int) (w : World) (h : sOk o l c r q = false) :
    Ret 11 #[stV o l c r q, .int .i64 f, .int .i64 t] w (.tuple #[stV 0 0 0 0 0, .int .i64 2]) := by
  have hk := fun w => check_bad o l c r q w h
  have HK := Lib.hid hk
  clear hk h
  go_enter Tryz.func11, Tryz.ntmps11
  go_wp2_with (go_at_call 25; go_in)
  go_wp2_with fail
  refine Calls.mono (HK.out _) ?_
  rintro e w1 ⟨rfl, hb1⟩
  have hB1 := hb1
  clear hb1
  obtain ⟨k1, f1⟩ := bcell hB1
  have z1_0 : w.heap.size < w1.heap.size := by have := hB1.size; simp at this; omega
  have z1_1 : w.heap.size + 1 < w1.heap.size := by have := hB1.size; simp at this; omega
  have z1_2 : w.heap.size + 1 + 1 < w1.heap.size := by have := hB1.size; simp at this; omega
  have z1_3 : w.heap.size + 1 + 1 + 1 < w1.heap.size := by have := hB1.size; simp at this; omega
  have z1_4 : w.heap.size + 1 + 1 + 1 + 1 < w1.heap.size := by have := hB1.size; simp at this; omega
  go_wp2_with fail
  refine bodyPost_ret (v := .tuple #[stV 0 0 0 0 0, .int .i64 2]) (by simp [results, Tryz.results11, go_sem, k1]) rfl ⟨rfl, ?_⟩
  repeat (refine Below.setCell ?_ (by simp) _)
  exact off_alloc (off_alloc (off_alloc (off_alloc (off_alloc hB1))))
end Go.Proofs.YtkjpdciccablpaaGreatDoor

/- stats.Text: the contract. -/
namespace Go.Proofs.YtkjpdciccablpaaGreatDoor
open Go.RowKit

theorem owns_below {B : Nat} {e : TypeId} {k : Nat} {v : Value} {n : Nat} {xs : List Value} {w w' : World} (h : w.ownsRow B e k v n xs) (hb : Below w.heap.size w w') : w'.ownsRow B e k v n xs :=
  h.kept (row := none) ⟨hb.os, hb.tape, hb.output, hb.size, fun j hj _ => hb.block j hj⟩ (by cases hv : v.ownBlock <;> simp)

def sWord : Nat → ByteArray
  | 0 => ⟨#[111, 112, 101, 110, 101, 100]⟩
  | 1 => ⟨#[108, 105, 118, 101]⟩
  | 2 => ⟨#[99, 108, 111, 115, 105, 110, 103]⟩
  | 3 => ⟨#[114, 101, 108, 101, 97, 115, 101, 100]⟩
  | _ => ⟨#[113, 117, 97, 114, 97, 110, 116, 105, 110, 101, 100]⟩
def sCnt (o l c r q : Int) : Nat → Int
  | 0 => o
  | 1 => l
  | 2 => c
  | 3 => r
  | _ => q
def sItems (o l c r q : Int) : Nat → List ByteArray
  | 0 => []
  | k + 1 => sItems o l c r q k ++ [sWord k, ⟨(Lib.itoa (sCnt o l c r q k)).toArray⟩]
def sText (o l c r q : Int) : ByteArray := ⟨(Lib.join ((sItems o l c r q 5).map (·.data.toList)) [32]).toArray⟩
abbrev wordsV : Value := .agg #[.string (sWord 0), .string (sWord 1), .string (sWord 2), .string (sWord 3), .string (sWord 4)]

theorem sItems_len (o l c r q : Int) (k : Nat) : (sItems o l c r q k).length = 2 * k := by
  induction k with
  | zero => rfl
  | succ k ih => simp [sItems, ih]; omega

set_option maxRecDepth 20000 in
theorem words_c (w : World) : Ret 45 #[] w wordsV := by
  go_enter Tryz.func45, Tryz.ntmps45
  go_wp2
  go_returns
  exact ⟨rfl, by go_grown⟩

theorem words_idx (k : Nat) (h : k < 5) : ∀ w, (Instr.index 110 wordsV (.int .i64 k)).run Tryz.prog w = .ok (.string (sWord k)) w := fun _ => by
  rcases (by omega : k = 0 ∨ k = 1 ∨ k = 2 ∨ k = 3 ∨ k = 4) with rfl | rfl | rfl | rfl | rfl <;> kernel_rfl
theorem cnt_idx (o l c r q : Int) (k : Nat) (h : k < 5) : ∀ w, (Instr.index 62 (.agg #[.int .i64 o, .int .i64 l, .int .i64 c, .int .i64 r, .int .i64 q]) (.int .i64 k)).run Tryz.prog w = .ok (.int .i64 (sCnt o l c r q k)) w := fun _ => by
  rcases (by omega : k = 0 ∨ k = 1 ∨ k = 2 ∨ k = 3 ∨ k = 4) with rfl | rfl | rfl | rfl | rfl <;> kernel_rfl
theorem strT_info : (Tryz.prog.info? 9).map (fun i => (i.zero, i.size, i.bytes)) = some (some (.string ⟨#[]⟩), 1, 16) := by kernel_rfl
end Go.Proofs.YtkjpdciccablpaaGreatDoor

/- stats.Text: the contract, for counts that fit together and for others. -/
namespace Go.Proofs.YtkjpdciccablpaaGreatDoor
open Go.RowKit

theorem sText_len (o l c r q : Int) (h : sOk o l c r q = true) : (Lib.join ((sItems o l c r q 5).map (·.data.toList)) [32]).length ≤ 140737488355328 := by
  unfold sOk at h
  rw [decide_eq_true_iff] at h
  have a0 := Lib.itoa_length_le o (by omega) (by omega)
  have a1 := Lib.itoa_length_le l (by omega) (by omega)
  have a2 := Lib.itoa_length_le c (by omega) (by omega)
  have a3 := Lib.itoa_length_le r (by omega) (by omega)
  have a4 := Lib.itoa_length_le q (by omega) (by omega)
  simp [sItems, sCnt, sWord, Lib.join, List.intercalate]
  omega

set_option maxHeartbeats 8000000 in
set_option maxRecDepth 20000 in
theorem text_ok (o l c r q : Int) (w : World) (hE : Env w) (h : sOk o l c r q = true) : Ret 24 #[stV o l c r q] w (.tuple #[.string (sText o l c r q), .int .i64 0]) := by
  have hk := fun w => check_ok o l c r q w h
  have HK := Lib.hid hk
  have HL := Lib.hid (sText_len o l c r q h)
  have hcnt : ∀ k, k < 5 → 0 ≤ sCnt o l c r q k ∧ sCnt o l c r q k ≤ 10000 := by
    unfold sOk at h
    rw [decide_eq_true_iff] at h
    intro k hk
    rcases (by omega : k = 0 ∨ k = 1 ∨ k = 2 ∨ k = 3 ∨ k = 4) with rfl | rfl | rfl | rfl | rfl <;> simp [sCnt] <;> omega
  have HC := Lib.hid hcnt
  have HE := Lib.hid hE
  clear hk h hcnt hE
  obtain ⟨i0, hi, hz0, hz1, hz2⟩ := info_parts strT_info
  have HI := Lib.hid hi
  have HZ := Lib.hid hz0
  have HZ1 := Lib.hid hz1
  have HZ2 := Lib.hid hz2
  clear hi hz0 hz1 hz2
  go_enter Tryz.func24, Tryz.ntmps24
  go_wp2_with fail
  refine Calls.mono (HK.out _) ?_
  rintro e w1 ⟨rfl, hb1⟩
  obtain ⟨k1, f1⟩ := bcell hb1
  have hB1 := off_alloc hb1
  have hE1 := HE.out.on hB1
  have z1 : w.heap.size < w1.heap.size := by have := hb1.size; simp at this; omega
  clear hb1
  go_wp2_with (go_at_call 25; go_in)
  go_loopw [5, 15] (fun v i wr => ∃ k : Nat, k ≤ 5 ∧ i = .int .i64 k ∧ wr.ownsRow w.heap.size 9 1 v (2 * k) ((sItems o l c r q k).map Value.string) ∧ Env wr ∧ Below w.heap.size w wr) (fun _ i _ => 5 - (intOf i).toNat)
  case atStart => exact ⟨0, by omega, rfl, ⟨rfl, .inl ⟨rfl, rfl⟩⟩, hE1.on (by go_grown), by go_grown⟩
  case round =>
    obtain ⟨k, hk, rfl, hO, hE2, hB2⟩ := hrel
    clear hE1 hB1 k1 f1 z1
    have HO := Lib.hid hO
    clear hO
    by_cases hlt : k < 5
    · have hlt' : (k : Int) < 5 := by omega
      have ci := cnt_idx o l c r q k hlt
      have wi := words_idx k hlt
      obtain ⟨c0, c1⟩ := HC.out k hlt
      go_wp2_with fail
      go_region_law (first
        | (refine step_append_lies _ rfl _ _ 109 (by rfl) w.heap.size 9 i0 (.string ⟨#[]⟩) 1 16 Tryz.underlying109 HI.out HZ.out HZ1.out HZ2.out rfl (by omega) _ (2 * k) ((sItems o l c r q k).map Value.string) (by rfl) ((owns_below HO.out hB4).alloc _) ⟨w4.heap.size, 0, none⟩ 2 2 [.string (sWord k), .string ⟨(Lib.itoa (sCnt o l c r q k)).toArray⟩] (by rfl) rfl (World.news_of_block (heap_alloc_new w4 _)) (by simp [Value.oneCell']) (by omega) (by simp [maxLen]; omega) (by omega) (by simp; have := hB2.size; have := hB4.size; omega) _ rfl ?_; intro g cap w5 hown hgrow hat hgl)
        | (go_simp; go_at_call 45; refine (words_c _).mono ?_; rintro e w3 ⟨rfl, hb3⟩; have hB3 := off_drew hb3)
        | (go_simp; go_at_call 46; refine (strconv_Itoa _ _ (hE2.on hB3) ?_ ?_).mono ?_; omega; omega; rintro e w4 ⟨rfl, hb4⟩; have hB4 := chain hB3 hb4))
      all_goals
        have hB5 := ((hB2.trans (hB4.mono hB2.size)).alloc (Nat.le_trans hB2.size hB4.size) _).grown hgrow (by simp; have := hB2.size; have := hB4.size; omega) (fun k hk => (HO.out.lt k hk).1)
        have hE5 := HE.out.on hB5
        go_wp2_with fail
        refine ⟨⟨k + 1, by omega, by simp, ?_, hE5, hB5⟩, by simp [intOf]; omega⟩
        rw [show 2 * (k + 1) = 2 * k + 2 by omega, sItems, List.map_append]
        exact hown
    · obtain rfl : k = 5 := by omega
      obtain ⟨g, cap, rfl, hg0, hg1⟩ := HO.out.form (by omega)
      have hjn := Tryz.strings_Join g 0 cap (sItems o l c r q 5) ⟨#[32]⟩ wr (by
        intro j x hx
        have hj : j < 2 * 5 := by
          have h1 := sItems_len o l c r q 5
          rcases Nat.lt_or_ge j (sItems o l c r q 5).length with h | h
          · omega
          · rw [List.getElem?_eq_none h] at hx; cases hx
        rw [Nat.zero_add, HO.out.cellAt j (by omega), List.getElem?_map, hx]
        rfl) hg1 (by rw [sItems_len]; omega) (by
          rw [sItems_len]
          rcases HO.out.2 with ⟨h, _⟩ | ⟨g', cap', cur, h, _, _, hn, _⟩
          · cases h
          · injection h with _ _ h3
            omega) HL.out
      rw [sItems_len] at hjn
      have HJ := Lib.hid hjn
      clear hjn
      go_wp2_with fail
      refine HJ.out.mono ?_
      rintro e w3 ⟨rfl, hb3⟩
      have hB3 := hB2.trans (hb3.mono hB2.size)
      go_wp2_with fail
      go_returns
      exact ⟨rfl, hB3⟩
set_option maxHeartbeats 2000000 in
theorem text_bad (o l c r q : Int) (w : World) (h : sOk o l c r q = false) : Ret 24 #[stV o l c r q] w (.tuple #[.string ⟨#[]⟩, .int .i64 2]) := by
  have hk := fun w => check_bad o l c r q w h
  have HK := Lib.hid hk
  clear hk h
  go_enter Tryz.func24, Tryz.ntmps24
  go_wp2_with fail
  refine Calls.mono (HK.out _) ?_
  rintro e w1 ⟨rfl, hb1⟩
  go_wp2_with fail
  go_returns
  exact ⟨rfl, off_alloc hb1⟩
end Go.Proofs.YtkjpdciccablpaaGreatDoor
