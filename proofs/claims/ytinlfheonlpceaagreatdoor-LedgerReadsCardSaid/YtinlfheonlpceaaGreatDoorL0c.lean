/- (*ledger.Ledger).Add: its contract (chapter 07). -/
import Derived.Test.YtinlfheonlpceaaGreatDoorL0b
import Derived.Deep.RegionWith
import Derived.Test.YtinlfheonlpceaaGreatDoorL0a
import Derived.RangeFuncCalls
import Derived.RangeFuncNested
import Derived.OrdersIn
import Derived.RangeFuncBound
import Derived.RangeFuncLeaves
import Derived.RangeFuncBox
import Derived.Shelf.Abstract
import Derived.Shelf.RegionOpen
import Derived.OwnWalkIn
import Derived.Maps.AppendAt
import Derived.TacticsInMore
import Derived.LoopNIn
import Derived.LoopIn
import Derived.Maps.RangeRun
import Derived.Laws.IdiomRangeMap
import Derived.Test.YtinlfheonlpceaaGreatDoorCards
import Derived.Test.YtinlfheonlpceaaGreatDoorTie
import Derived.ProofKit
import Derived.OpenShut
import Derived.Deep.DeepHandedRow
import Derived.Lib.LaidTab
import Derived.Stop.LaidErr
import Derived.ReadAgain
import Derived.ChangeBook
import Derived.ChangeOld
import Derived.ChangeReads
import Derived.Below
import Derived.WideShapes
import Derived.WalkKit
import Derived.Deep.Slices
namespace Go.Proofs.YtinlfheonlpceaaGreatDoor
open Go.RowKit
open Go.ChangeMaps (setBlock)
set_option linter.unusedVariables false
set_option linter.unusedSimpArgs false
set_option maxHeartbeats 16000000
set_option maxRecDepth 20000
theorem heap_ne {W : World} {a b : Nat} {o o' : Obj} (h : W.heap[a]? = some o) (h' : W.heap[b]? = some o') (hn : o ≠ o') : a ≠ b := fun e => hn (by rw [e, h'] at h; exact (Option.some.inj h).symm)
theorem Row.setBlock {W : World} {x b : Nat} {cs : Array Value} {t : TypeId} {o : Obj} (h : Row W x cs t) (hn : x ≠ b) : Row (setBlock W b o) x cs t := ⟨by
  show (W.heap.setIfInBounds b o)[x]? = _
  rw [Array.getElem?_setIfInBounds, if_neg (fun e => hn e.symm)]
  exact h.eq⟩
theorem setBlock_heap {W : World} {b : Nat} {o : Obj} (k : Nat) (hn : k ≠ b) : (setBlock W b o).heap[k]? = W.heap[k]? := by
  show (W.heap.setIfInBounds b o)[k]? = _
  rw [Array.getElem?_setIfInBounds, if_neg (fun e => hn e.symm)]
theorem setBlock_size {W : World} {b : Nat} {o : Obj} : (setBlock W b o).heap.size = W.heap.size := by
  show (W.heap.setIfInBounds b o).size = _
  simp
theorem setBlock_at {W : World} {b : Nat} {o : Obj} (h : b < W.heap.size) : (setBlock W b o).heap[b]? = some o := by
  show (W.heap.setIfInBounds b o)[b]? = _
  rw [Array.getElem?_setIfInBounds, if_pos rfl, if_pos h]
theorem But.grown {F : Nat → Prop} {a b c : World} {row : Option Nat} (h : But F a b) (hg : b.grownBy c row) (hF : ∀ k, row = some k → k < a.heap.size → F k) : But F a c :=
  ⟨hg.os.trans h.os, hg.tape.trans h.tape, hg.output.trans h.output, Nat.le_trans h.size hg.size, fun k hk hn => (hg.block k (Nat.lt_of_lt_of_le hk h.size) (fun e => hn (hF k e.symm hk))).trans (h.block k hk hn)⟩
theorem But.setCell {F : Nat → Prop} {a b : World} {y : Nat} (h : But F a b) (hF : F y) (j : Nat) (u : Value) : But F a (b.setCell ⟨y, j, none⟩ u) :=
  ⟨h.os, h.tape, h.output, by have := h.size; simp [World.setCell]; omega, fun k hk hn => by
    rw [← h.block k hk hn]
    exact Below.heap_setCell b _ u k (fun e => hn (by rw [show k = y from e]; exact hF))⟩
theorem But.setBlock {F : Nat → Prop} {a b : World} {y : Nat} (h : But F a b) (hF : F y) (o : Obj) : But F a (setBlock b y o) :=
  ⟨h.os, h.tape, h.output, by have := h.size; rw [setBlock_size]; omega, fun k hk hn => (setBlock_heap k (fun e => hn (by rw [e]; exact hF))).trans (h.block k hk hn)⟩
theorem But.drew {F : Nat → Prop} {a b : World} (h : But F a b) : But F a b.drew := ⟨h.os, h.tape, h.output, h.size, h.block⟩
theorem But.wide {F G : Nat → Prop} {a b : World} (h : But F a b) (hG : ∀ k, F k → G k) : But G a b := ⟨h.os, h.tape, h.output, h.size, fun k hk hn => h.block k hk (fun hf => hn (hG k hf))⟩
theorem row_grown {W W' : World} {row : Option Nat} {x : Nat} {cs : Array Value} {t : TypeId} (h : Row W x cs t) (hg : W.grownBy W' row) (hn : row ≠ some x) : Row W' x cs t := ⟨(hg.block x h.lt (fun e => hn e.symm)).trans h.eq⟩
theorem mapIs_grown {W W' : World} {row : Option Nat} {m : Nat} {es : List En} {c : Nat} (h : MapIs W m es c) (hg : W.grownBy W' row) (hn : row ≠ some m) : MapIs W' m es c := ⟨(hg.block m h.lt (fun e => hn e.symm)).trans h.eq⟩
theorem ownA_block {b : Nat} {W : World} {v : Value} {l : List AtR} (h : OwnsA b W v l) {k : Nat} (hk : v.ownBlock = some k) : ∃ cur, W.heap[k]? = some (.cells cur 43 (0, 0)) := by
  rcases h.2 with ⟨h0, h1⟩ | ⟨g, cap, cur, h1, h2, h3, h4⟩
  · rw [h0] at hk; simp [Value.ownBlock] at hk
  · rw [h1] at hk
    cases hk
    exact ⟨cur, h3⟩
theorem ownI_block {b : Nat} {W : World} {v : Value} {l : List Nat} (h : OwnsI b W v l) {k : Nat} (hk : v.ownBlock = some k) : ∃ cur, W.heap[k]? = some (.cells cur 3 (0, 0)) := by
  rcases h.2 with ⟨h0, h1⟩ | ⟨g, cap, cur, h1, h2, h3, h4⟩
  · rw [h0] at hk; simp [Value.ownBlock] at hk
  · rw [h1] at hk
    cases hk
    exact ⟨cur, h3⟩
theorem ownA_ne_row {b : Nat} {W : World} {v : Value} {l : List AtR} (h : OwnsA b W v l) {x : Nat} {cs : Array Value} {t : TypeId} (r : Row W x cs t) (ht : t ≠ 43) : v.ownBlock ≠ some x := fun e => by
  obtain ⟨cur, h1⟩ := ownA_block h e
  rw [r.eq] at h1
  injection h1 with h1
  injection h1 with _ h1
  exact ht h1
theorem ownI_ne_row {b : Nat} {W : World} {v : Value} {l : List Nat} (h : OwnsI b W v l) {x : Nat} {cs : Array Value} {t : TypeId} (r : Row W x cs t) (ht : t ≠ 3) : v.ownBlock ≠ some x := fun e => by
  obtain ⟨cur, h1⟩ := ownI_block h e
  rw [r.eq] at h1
  injection h1 with h1
  injection h1 with _ h1
  exact ht h1
theorem ownA_ne_map {b : Nat} {W : World} {v : Value} {l : List AtR} (h : OwnsA b W v l) {m : Nat} {es : List En} {c : Nat} (r : MapIs W m es c) : v.ownBlock ≠ some m := fun e => by
  obtain ⟨cur, h1⟩ := ownA_block h e
  rw [r.eq] at h1
  cases h1
theorem ownI_ne_map {b : Nat} {W : World} {v : Value} {l : List Nat} (h : OwnsI b W v l) {m : Nat} {es : List En} {c : Nat} (r : MapIs W m es c) : v.ownBlock ≠ some m := fun e => by
  obtain ⟨cur, h1⟩ := ownI_block h e
  rw [r.eq] at h1
  cases h1
theorem ownA_ne_ownI {b b' : Nat} {W : World} {v u : Value} {l : List AtR} {q : List Nat} (h : OwnsA b W v l) (h' : OwnsI b' W u q) {k : Nat} (hk : u.ownBlock = some k) : v.ownBlock ≠ some k := fun e => by
  obtain ⟨cur, h1⟩ := ownA_block h e
  obtain ⟨cur', h2⟩ := ownI_block h' hk
  rw [h1] at h2
  injection h2 with h2
  injection h2 with _ h2
  exact absurd h2 (by decide)
theorem row_ne_map {W : World} {x m : Nat} {cs : Array Value} {t : TypeId} {es : List En} {c : Nat} (r : Row W x cs t) (h : MapIs W m es c) : x ≠ m := fun e => by
  have h1 := h.eq
  rw [← e, r.eq] at h1
  cases h1
theorem row_ne_row {W : World} {x y : Nat} {cs cs' : Array Value} {t t' : TypeId} (r : Row W x cs t) (r' : Row W y cs' t') (ht : t ≠ t') : x ≠ y := fun e => by
  have h1 := r'.eq
  rw [← e, r.eq] at h1
  injection h1 with h1
  injection h1 with _ h1
  exact ht h1
theorem ownA_setCell {b : Nat} {W : World} {v : Value} {l : List AtR} (h : OwnsA b W v l) {y : Nat} (hn : v.ownBlock ≠ some y) (j : Nat) (u : Value) : OwnsA b (W.setCell ⟨y, j, none⟩ u) v l := h.via fun k hk => Below.heap_setCell W _ u k (fun e => hn (by rw [show y = k from e.symm]; exact hk))
theorem LedIs.at_other {W : World} {F : Nat → Prop} {p : Nat} {l : List AtR} {v : Value} {m : Nat} {es : List En} {clk : Nat} (h : LedIs W F p l v m es clk) {k i g : Int} {e : En} (he : e ∈ es) (hs : e.same k i g = false) {b : Nat} (hb : e.val.ownBlock = some b) : (atE k i g es).ownBlock ≠ some b := by
  intro h1
  cases hf : es.find? (En.same k i g) with
  | none => unfold atE at h1; rw [hf] at h1; simp [Value.ownBlock] at h1
  | some e2 =>
    obtain ⟨hm2, hs2⟩ := find_in hf
    rw [atE_mem h.apart hm2 hs2] at h1
    have hne : e ≠ e2 := fun e' => by rw [e', hs2] at hs; cases hs
    rcases List.append_of_mem he with ⟨pre, post, rfl⟩
    have hp := List.pairwise_append.1 h.rows
    have hp2 := List.pairwise_cons.1 hp.2.1
    rcases List.mem_append.1 hm2 with hq | hq
    · exact hp.2.2 e2 hq e (by simp) b h1 hb
    · rcases List.mem_cons.1 hq with hq | hq
      · exact hne hq.symm
      · exact hp2.1 e2 hq b hb h1
theorem LedIs.mine {W : World} {F : Nat → Prop} {p : Nat} {l : List AtR} {v : Value} {m : Nat} {es : List En} {clk : Nat} (h : LedIs W F p l v m es clk) {k i g : Int} {b : Nat} (hb : b = p ∨ v.ownBlock = some b ∨ b = m ∨ (atE k i g es).ownBlock = some b) : F b := by
  rcases hb with rfl | hb | rfl | hb
  · exact h.fp
  · exact h.fv b hb
  · exact h.fm
  · exact (h.at_ k i g).2 b hb
theorem LedIs.stay_ {W W' : World} {F : Nat → Prop} {p : Nat} {l : List AtR} {v : Value} {m : Nat} {es : List En} {clk : Nat} (h : LedIs W F p l v m es clk) {k i g : Int} {e : En} (he : e ∈ es) (hs : e.same k i g = false) {b : Nat} (hb : e.val.ownBlock = some b) (hw : But (fun b => b = p ∨ v.ownBlock = some b ∨ b = m ∨ (atE k i g es).ownBlock = some b) W W') : W'.heap[b]? = W.heap[b]? := by
  refine hw.block b ((h.ints e he).lt b hb).2 ?_
  rintro (rfl | h1 | rfl | h1)
  · exact ownI_ne_row (h.ints e he) h.row (by decide) hb
  · exact ownA_ne_ownI h.own (h.ints e he) hb h1
  · exact ownI_ne_map (h.ints e he) h.mp hb
  · exact h.at_other he hs hb h1
theorem int_infoL : (Tryz.prog.info? 3).map (fun i => (i.zero, i.size, i.bytes)) = some (some (.int .i64 0), 1, 8) := by kernel_rfl
/-- The last one's time, where it lies. -/
theorem last_cell {b : Nat} {W : World} {v : Value} {l : List AtR} (h : OwnsA b W v l) {N : Nat} (hN : l.length = N + 1) : ∃ g c x, v = .slice (some ⟨g, 0, none⟩) (N + 1) c ∧ l.getLast? = some x ∧ W.cell? ⟨g, N * 6, none⟩ = some (.int .i64 x.at_) := by
  rcases h.2 with ⟨h0, h1⟩ | ⟨g, cap, cur, h1, h2, h3, h4, h5, h6, h7⟩
  · omega
  · have hlt : N < l.length := by omega
    refine ⟨g, cap, l[N], by rw [h1, hN], by rw [List.getLast?_eq_getElem?, hN]; simp [hlt], ?_⟩
    have e : W.cell? ⟨g, N * 6, none⟩ = cur[N * 6]? := by simp [World.cell?, h3]
    have q := cellsA_get l N l[N] 0 (by omega) (List.getElem?_eq_getElem hlt)
    rw [e, ← Array.getElem?_toList]
    rw [← h7, List.getElem?_take, if_pos (by omega)] at q
    exact q
theorem ladd_arg {F : Nat → Prop} {p : Nat} {l : List AtR} {v : Value} {m : Nat} {es : List En} {clk : Nat} (a : AtR) (hg : gIn a) (w : World) (h : LedIs w F p l v m es clk) (hk : aOk a = false) : Ret 32 #[ledP p, atV a] w (.int .i64 2) := by
  have HH := Lib.hid h
  obtain ⟨a0, c0, hv0⟩ := h.own.holds.len
  subst hv0
  have cc := fun W => acheck_c a hg W
  rw [aErr_bad hk] at cc
  have CC := Lib.hid cc
  have rp := h.row
  clear cc h
  go_enter Tryz.func32, Tryz.ntmps32
  go_upto_region 1 with fail
  have hb := below_alloc w (.cells (atC a) 43)
  have r1 := Row.new (W := w) (cs := atC a) (t := 43)
  replace rp := rp.on hb
  have hc := hb
  clear hb
  generalize w.alloc (.cells (atC a) 43) = V at *
  generalize hbx : w.heap.size = bx at r1 ⊢
  have yp := rp.cell
  have zp := rp.lt
  have y1 := r1.cell
  have z1 := r1.lt
  go_wp2_with fail
  refine Calls.mono (llen_c rp) ?_
  rintro e V1 ⟨rfl, hW⟩
  subst hW
  go_wp2_with fail
  refine Calls.mono (lmade_c rp) ?_
  rintro e V1 ⟨rfl, hW⟩
  subst hW
  go_wp2_with fail
  refine Calls.mono (CC.out _) ?_
  rintro e V2 ⟨rfl, hn⟩
  clear yp zp y1 z1 CC
  replace rp := rp.on hn
  replace r1 := r1.on hn
  replace hc := chain hc hn
  clear hn
  have yp := rp.cell
  have zp := rp.lt
  have y1 := r1.cell
  have z1 := r1.lt
  go_wp2_with fail
  go_returns
  exact ⟨rfl, by first | exact hc | (rw [← hbx]; exact hc)⟩
theorem ladd_state {F : Nat → Prop} {p : Nat} {l : List AtR} {v : Value} {m : Nat} {es : List En} {clk : Nat} (a : AtR) (hg : gIn a) (w : World) (h : LedIs w F p l v m es clk) (hk : aOk a = true) {N : Nat} (hN : l.length = N + 1) (hN2 : N ≤ 10000) (hs : ∀ x, l.getLast? = some x → a.at_ < x.at_) : Ret 32 #[ledP p, atV a] w (.int .i64 8) := by
  have HH := Lib.hid h
  obtain ⟨a0, c0, hv0⟩ := h.own.holds.len
  subst hv0
  have cc := fun W => acheck_c a hg W
  rw [aErr_ok hk] at cc
  have CC := Lib.hid cc
  have rp := h.row
  obtain ⟨g, c1, x, hvv, hx, hcl⟩ := last_cell h.own hN
  injection hvv with hv1 hv2 hv3
  subst hv1
  subst hv3
  rw [hN] at rp
  clear hv2
  have hcl0 := block_lt_of_cell (a := ⟨g, N * 6, none⟩) hcl
  have q0 : IntKind.i64.wrap (N : Int) = (N : Int) := IntWalk.i64_in _ ⟨by omega, by omega⟩
  have q1 : (0 : Int) ≤ (N : Int) := by omega
  have q2 : (N : Int) < (N : Int) + 1 := by omega
  have hlt := hs x hx
  have hd : decide (a.at_ < x.at_) = true := decide_eq_true hlt
  clear hs hx hlt
  clear cc h
  go_enter Tryz.func32, Tryz.ntmps32
  go_upto_region 1 with fail
  have hb := below_alloc w (.cells (atC a) 43)
  have r1 := Row.new (W := w) (cs := atC a) (t := 43)
  replace rp := rp.on hb
  replace hcl := keep_cell hb hcl0 hcl
  replace hcl0 := keep_lt hb hcl0
  have hc := hb
  clear hb
  generalize w.alloc (.cells (atC a) 43) = V at *
  generalize hbx : w.heap.size = bx at r1 ⊢
  have yp := rp.cell
  have zp := rp.lt
  have y1 := r1.cell
  have z1 := r1.lt
  go_wp2_with fail
  refine Calls.mono (llen_c rp) ?_
  rintro e V1 ⟨rfl, hW⟩
  subst hW
  go_wp2_with fail
  refine Calls.mono (lmade_c rp) ?_
  rintro e V1 ⟨rfl, hW⟩
  subst hW
  go_wp2_with fail
  refine Calls.mono (CC.out _) ?_
  rintro e V2 ⟨rfl, hn⟩
  clear yp zp y1 z1 CC
  replace rp := rp.on hn
  replace r1 := r1.on hn
  replace hcl := keep_cell hn hcl0 hcl
  replace hcl0 := keep_lt hn hcl0
  replace hc := chain hc hn
  clear hn
  have yp := rp.cell
  have zp := rp.lt
  have y1 := r1.cell
  have z1 := r1.lt
  go_upto_region 8 with fail
  clear yp zp y1 z1
  refine wp_region_held_drew (S := fun W' => (∀ j, W'.cell? ⟨p, j, none⟩ = (#[.slice (some ⟨g, 0, none⟩) (N + 1) c0, .map (some m)] : Array Value)[j]?) ∧ (∀ j, W'.cell? ⟨bx, j, none⟩ = (atC a)[j]?) ∧ W'.cell? ⟨g, N * 6, none⟩ = some (.int .i64 x.at_)) (by kernel_rfl) ⟨rp.cell, r1.cell, hcl⟩ (fun hHeld => ?_)
  replace rp := rp.drew
  replace r1 := r1.drew
  replace hc := hc.drew
  generalize V2.drew = V3 at *
  refine' wpAnyH_take (i := 0) (oi := _) (v := _) ?_ (by kernel_rfl) (by kernel_rfl) (by kernel_rfl) ?_ (Or.inl ⟨?_, ?_⟩) (by assumption) ?_
  rotate_left 2
  · (simp only [List.getElem?_toArray, List.getElem?_cons_succ, List.getElem?_cons_zero]; rfl)
  · first | exact fun _ _ _ h => h | exact fun _ _ _ h => nomatch h.1
  · rfl
  · (intro W hSW; (try dsimp only at hSW); go_split_ands; first | (go_simp; done) | (go_simp; with_reducible rfl))
  try simp only [Act.put, List.setIfInBounds_toArray, List.set_cons_zero, List.set_cons_succ]
  refine' wpAnyH_take (i := 1) (oi := _) (v := _) ?_ (by kernel_rfl) (by kernel_rfl) (by kernel_rfl) ?_ (Or.inl ⟨?_, ?_⟩) (by assumption) ?_
  rotate_left 2
  · (simp only [List.getElem?_toArray, List.getElem?_cons_succ, List.getElem?_cons_zero]; rfl)
  · first | exact fun _ _ _ h => h | exact fun _ _ _ h => nomatch h.1
  · rfl
  · (intro W hSW; (try dsimp only at hSW); go_split_ands; first | (go_simp; done) | (go_simp; with_reducible rfl))
  try simp only [Act.put, List.setIfInBounds_toArray, List.set_cons_zero, List.set_cons_succ]
  refine' wpAnyH_take (i := 2) (oi := _) (v := _) ?_ (by kernel_rfl) (by kernel_rfl) (by kernel_rfl) ?_ (Or.inl ⟨?_, ?_⟩) (by assumption) ?_
  rotate_left 2
  · (simp only [List.getElem?_toArray, List.getElem?_cons_succ, List.getElem?_cons_zero]; rfl)
  · first | exact fun _ _ _ h => h | exact fun _ _ _ h => nomatch h.1
  · rfl
  · (intro W hSW; (try dsimp only at hSW); go_split_ands; first | (go_simp; done) | (go_simp; with_reducible rfl))
  try simp only [Act.put, List.setIfInBounds_toArray, List.set_cons_zero, List.set_cons_succ]
  refine' wpAnyH_take (i := 3) (oi := _) (v := _) ?_ (by kernel_rfl) (by kernel_rfl) (by kernel_rfl) ?_ (Or.inl ⟨?_, ?_⟩) (by assumption) ?_
  rotate_left 2
  · (simp only [List.getElem?_toArray, List.getElem?_cons_succ, List.getElem?_cons_zero]; rfl)
  · first | exact fun _ _ _ h => h | exact fun _ _ _ h => nomatch h.1
  · rfl
  · (intro W hSW; (try dsimp only at hSW); go_split_ands; first | (go_simp; done) | (go_simp; with_reducible rfl))
  try simp only [Act.put, List.setIfInBounds_toArray, List.set_cons_zero, List.set_cons_succ]
  refine' wpAnyH_take (i := 4) (oi := _) (v := _) ?_ (by kernel_rfl) (by kernel_rfl) (by kernel_rfl) ?_ (Or.inl ⟨?_, ?_⟩) (by assumption) ?_
  rotate_left 2
  · (simp only [List.getElem?_toArray, List.getElem?_cons_succ, List.getElem?_cons_zero]; rfl)
  · first | exact fun _ _ _ h => h | exact fun _ _ _ h => nomatch h.1
  · rfl
  · (intro W hSW; (try dsimp only at hSW); go_split_ands; first | (go_simp; done) | (go_simp; with_reducible rfl))
  try simp only [Act.put, List.setIfInBounds_toArray, List.set_cons_zero, List.set_cons_succ]
  refine' wpAnyH_take (i := 5) (oi := _) (v := _) ?_ (by kernel_rfl) (by kernel_rfl) (by kernel_rfl) ?_ (Or.inl ⟨?_, ?_⟩) (by assumption) ?_
  rotate_left 2
  · (simp only [List.getElem?_toArray, List.getElem?_cons_succ, List.getElem?_cons_zero]; rfl)
  · first | exact fun _ _ _ h => h | exact fun _ _ _ h => nomatch h.1
  · rfl
  · (intro W hSW; (try dsimp only at hSW); go_split_ands; first | (go_simp; done) | (go_simp; with_reducible rfl))
  try simp only [Act.put, List.setIfInBounds_toArray, List.set_cons_zero, List.set_cons_succ]
  refine' wpAnyH_take (i := 6) (oi := _) (v := _) ?_ (by kernel_rfl) (by kernel_rfl) (by kernel_rfl) ?_ (Or.inl ⟨?_, ?_⟩) (by assumption) ?_
  rotate_left 2
  · (simp only [List.getElem?_toArray, List.getElem?_cons_succ, List.getElem?_cons_zero]; rfl)
  · first | exact fun _ _ _ h => h | exact fun _ _ _ h => nomatch h.1
  · rfl
  · (intro W hSW; (try dsimp only at hSW); go_split_ands; first | (go_simp; done) | (go_simp; with_reducible rfl))
  try simp only [Act.put, List.setIfInBounds_toArray, List.set_cons_zero, List.set_cons_succ]
  refine' wpAnyH_take (i := 7) (oi := _) (v := _) ?_ (by kernel_rfl) (by kernel_rfl) (by kernel_rfl) ?_ (Or.inl ⟨?_, ?_⟩) (by assumption) ?_
  rotate_left 2
  · (simp only [List.getElem?_toArray, List.getElem?_cons_succ, List.getElem?_cons_zero]; rfl)
  · first | exact fun _ _ _ h => h | exact fun _ _ _ h => nomatch h.1
  · rfl
  · (intro W hSW; (try dsimp only at hSW); go_split_ands; first | (go_simp; done) | (go_simp; with_reducible rfl))
  try simp only [Act.put, List.setIfInBounds_toArray, List.set_cons_zero, List.set_cons_succ]
  refine' wpAnyH_take (i := 8) (oi := _) (v := _) ?_ (by kernel_rfl) (by kernel_rfl) (by kernel_rfl) ?_ (Or.inl ⟨?_, ?_⟩) (by assumption) ?_
  rotate_left 2
  · (simp only [List.getElem?_toArray, List.getElem?_cons_succ, List.getElem?_cons_zero]; rfl)
  · first | exact fun _ _ _ h => h | exact fun _ _ _ h => nomatch h.1
  · rfl
  · (intro W hSW; (try dsimp only at hSW); go_split_ands; first | (go_simp; done) | (go_simp; with_reducible rfl))
  try simp only [Act.put, List.setIfInBounds_toArray, List.set_cons_zero, List.set_cons_succ]
  refine' wpAnyH_take (i := 9) (oi := _) (v := _) ?_ (by kernel_rfl) (by kernel_rfl) (by kernel_rfl) ?_ (Or.inl ⟨?_, ?_⟩) (by assumption) ?_
  rotate_left 2
  · (simp only [List.getElem?_toArray, List.getElem?_cons_succ, List.getElem?_cons_zero]; rfl)
  · first | exact fun _ _ _ h => h | exact fun _ _ _ h => nomatch h.1
  · rfl
  · (intro W hSW; (try dsimp only at hSW); go_split_ands; first | (go_simp; done) | (go_simp; with_reducible rfl))
  try simp only [Act.put, List.setIfInBounds_toArray, List.set_cons_zero, List.set_cons_succ]
  refine' wpAnyH_take (i := 10) (oi := _) (v := _) ?_ (by kernel_rfl) (by kernel_rfl) (by kernel_rfl) ?_ (Or.inl ⟨?_, ?_⟩) (by assumption) ?_
  rotate_left 2
  · (simp only [List.getElem?_toArray, List.getElem?_cons_succ, List.getElem?_cons_zero]; rfl)
  · first | exact fun _ _ _ h => h | exact fun _ _ _ h => nomatch h.1
  · rfl
  · (intro W hSW; (try dsimp only at hSW); go_split_ands; first | (go_simp; done) | (go_simp; with_reducible rfl))
  try simp only [Act.put, List.setIfInBounds_toArray, List.set_cons_zero, List.set_cons_succ]
  refine' wpAnyH_take (i := 11) (oi := _) (v := _) ?_ (by kernel_rfl) (by kernel_rfl) (by kernel_rfl) ?_ (Or.inl ⟨?_, ?_⟩) (by assumption) ?_
  rotate_left 2
  · (simp only [List.getElem?_toArray, List.getElem?_cons_succ, List.getElem?_cons_zero]; rfl)
  · first | exact fun _ _ _ h => h | exact fun _ _ _ h => nomatch h.1
  · rfl
  · (intro W hSW; (try dsimp only at hSW); go_split_ands; first | (go_simp; done) | (go_simp; with_reducible rfl))
  try simp only [Act.put, List.setIfInBounds_toArray, List.set_cons_zero, List.set_cons_succ]
  refine' wpAnyH_take (i := 12) (oi := _) (v := _) ?_ (by kernel_rfl) (by kernel_rfl) (by kernel_rfl) ?_ (Or.inl ⟨?_, ?_⟩) (by assumption) ?_
  rotate_left 2
  · (simp only [List.getElem?_toArray, List.getElem?_cons_succ, List.getElem?_cons_zero]; rfl)
  · first | exact fun _ _ _ h => h | exact fun _ _ _ h => nomatch h.1
  · rfl
  · (intro W hSW; (try dsimp only at hSW); go_split_ands; first | (go_simp; done) | (go_simp; with_reducible rfl))
  try simp only [Act.put, List.setIfInBounds_toArray, List.set_cons_zero, List.set_cons_succ]
  refine' wpAnyH_take (i := 13) (oi := _) (v := _) ?_ (by kernel_rfl) (by kernel_rfl) (by kernel_rfl) ?_ (Or.inl ⟨?_, ?_⟩) (by assumption) ?_
  rotate_left 2
  · (simp only [List.getElem?_toArray, List.getElem?_cons_succ, List.getElem?_cons_zero]; rfl)
  · first | exact fun _ _ _ h => h | exact fun _ _ _ h => nomatch h.1
  · rfl
  · (intro W hSW; (try dsimp only at hSW); go_split_ands; first | (go_simp; done) | (go_simp; with_reducible rfl))
  try simp only [Act.put, List.setIfInBounds_toArray, List.set_cons_zero, List.set_cons_succ]
  refine' wpAnyH_take (i := 14) (oi := _) (v := _) ?_ (by kernel_rfl) (by kernel_rfl) (by kernel_rfl) ?_ (Or.inl ⟨?_, ?_⟩) (by assumption) ?_
  rotate_left 2
  · (simp only [List.getElem?_toArray, List.getElem?_cons_succ, List.getElem?_cons_zero]; rfl)
  · first | exact fun _ _ _ h => h | exact fun _ _ _ h => nomatch h.1
  · rfl
  · (intro W hSW; (try dsimp only at hSW); go_split_ands; first | (go_simp; done) | (go_simp; with_reducible rfl))
  try simp only [Act.put, List.setIfInBounds_toArray, List.set_cons_zero, List.set_cons_succ]
  refine' wpAnyH_take (i := 15) (oi := _) (v := _) ?_ (by kernel_rfl) (by kernel_rfl) (by kernel_rfl) ?_ (Or.inl ⟨?_, ?_⟩) (by assumption) ?_
  rotate_left 2
  · (simp only [List.getElem?_toArray, List.getElem?_cons_succ, List.getElem?_cons_zero]; rfl)
  · first | exact fun _ _ _ h => h | exact fun _ _ _ h => nomatch h.1
  · rfl
  · (intro W hSW; (try dsimp only at hSW); go_split_ands; first | (go_simp; done) | (go_simp; with_reducible rfl))
  try simp only [Act.put, List.setIfInBounds_toArray, List.set_cons_zero, List.set_cons_succ]
  refine' wpAnyH_take (i := 16) (oi := _) (v := _) ?_ (by kernel_rfl) (by kernel_rfl) (by kernel_rfl) ?_ (Or.inl ⟨?_, ?_⟩) (by assumption) ?_
  rotate_left 2
  · (simp only [List.getElem?_toArray, List.getElem?_cons_succ, List.getElem?_cons_zero]; rfl)
  · first | exact fun _ _ _ h => h | exact fun _ _ _ h => nomatch h.1
  · rfl
  · (intro W hSW; (try dsimp only at hSW); go_split_ands; first | (go_simp; done) | (go_simp; with_reducible rfl))
  try simp only [Act.put, List.setIfInBounds_toArray, List.set_cons_zero, List.set_cons_succ]
  clear hHeld
  refine wpAnyH_done (by kernel_rfl) ?_ _
  have yp := rp.cell
  have zp := rp.lt
  have y1 := r1.cell
  have z1 := r1.lt
  go_wp2_with fail
  go_returns
  exact ⟨rfl, by first | exact hc | (rw [← hbx]; exact hc)⟩
theorem ladd_full {F : Nat → Prop} {p : Nat} {l : List AtR} {v : Value} {m : Nat} {es : List En} {clk : Nat} (a : AtR) (hg : gIn a) (w : World) (h : LedIs w F p l v m es clk) (hk : aOk a = true) {N : Nat} (hN : l.length = N + 1) (hN2 : 10000 ≤ N + 1) (hN4 : N ≤ 20000) (hs : ∀ x, l.getLast? = some x → ¬ a.at_ < x.at_) : Ret 32 #[ledP p, atV a] w (.int .i64 4) := by
  have HH := Lib.hid h
  obtain ⟨a0, c0, hv0⟩ := h.own.holds.len
  subst hv0
  have cc := fun W => acheck_c a hg W
  rw [aErr_ok hk] at cc
  have CC := Lib.hid cc
  have rp := h.row
  obtain ⟨g, c1, x, hvv, hx, hcl⟩ := last_cell h.own hN
  injection hvv with hv1 hv2 hv3
  subst hv1
  subst hv3
  rw [hN] at rp
  clear hv2
  have hcl0 := block_lt_of_cell (a := ⟨g, N * 6, none⟩) hcl
  have q0 : IntKind.i64.wrap (N : Int) = (N : Int) := IntWalk.i64_in _ ⟨by omega, by omega⟩
  have q1 : (0 : Int) ≤ (N : Int) := by omega
  have q2 : (N : Int) < (N : Int) + 1 := by omega
  have hlt := hs x hx
  have hd : decide (a.at_ < x.at_) = false := decide_eq_false hlt
  have hN3 : (10000 : Int) ≤ (N : Int) + 1 := by omega
  clear hs hx hlt
  clear cc h
  go_enter Tryz.func32, Tryz.ntmps32
  go_upto_region 1 with fail
  have hb := below_alloc w (.cells (atC a) 43)
  have r1 := Row.new (W := w) (cs := atC a) (t := 43)
  replace rp := rp.on hb
  replace hcl := keep_cell hb hcl0 hcl
  replace hcl0 := keep_lt hb hcl0
  have hc := hb
  clear hb
  generalize w.alloc (.cells (atC a) 43) = V at *
  generalize hbx : w.heap.size = bx at r1 ⊢
  have yp := rp.cell
  have zp := rp.lt
  have y1 := r1.cell
  have z1 := r1.lt
  go_wp2_with fail
  refine Calls.mono (llen_c rp) ?_
  rintro e V1 ⟨rfl, hW⟩
  subst hW
  go_wp2_with fail
  refine Calls.mono (lmade_c rp) ?_
  rintro e V1 ⟨rfl, hW⟩
  subst hW
  go_wp2_with fail
  refine Calls.mono (CC.out _) ?_
  rintro e V2 ⟨rfl, hn⟩
  clear yp zp y1 z1 CC
  replace rp := rp.on hn
  replace r1 := r1.on hn
  replace hcl := keep_cell hn hcl0 hcl
  replace hcl0 := keep_lt hn hcl0
  replace hc := chain hc hn
  clear hn
  have yp := rp.cell
  have zp := rp.lt
  have y1 := r1.cell
  have z1 := r1.lt
  go_upto_region 8 with fail
  clear yp zp y1 z1
  refine wp_region_held_drew (S := fun W' => (∀ j, W'.cell? ⟨p, j, none⟩ = (#[.slice (some ⟨g, 0, none⟩) (N + 1) c0, .map (some m)] : Array Value)[j]?) ∧ (∀ j, W'.cell? ⟨bx, j, none⟩ = (atC a)[j]?) ∧ W'.cell? ⟨g, N * 6, none⟩ = some (.int .i64 x.at_)) (by kernel_rfl) ⟨rp.cell, r1.cell, hcl⟩ (fun hHeld => ?_)
  replace rp := rp.drew
  replace r1 := r1.drew
  replace hc := hc.drew
  generalize V2.drew = V3 at *
  refine' wpAnyH_take (i := 0) (oi := _) (v := _) ?_ (by kernel_rfl) (by kernel_rfl) (by kernel_rfl) ?_ (Or.inl ⟨?_, ?_⟩) (by assumption) ?_
  rotate_left 2
  · (simp only [List.getElem?_toArray, List.getElem?_cons_succ, List.getElem?_cons_zero]; rfl)
  · first | exact fun _ _ _ h => h | exact fun _ _ _ h => nomatch h.1
  · rfl
  · (intro W hSW; (try dsimp only at hSW); go_split_ands; first | (go_simp; done) | (go_simp; with_reducible rfl))
  try simp only [Act.put, List.setIfInBounds_toArray, List.set_cons_zero, List.set_cons_succ]
  refine' wpAnyH_take (i := 1) (oi := _) (v := _) ?_ (by kernel_rfl) (by kernel_rfl) (by kernel_rfl) ?_ (Or.inl ⟨?_, ?_⟩) (by assumption) ?_
  rotate_left 2
  · (simp only [List.getElem?_toArray, List.getElem?_cons_succ, List.getElem?_cons_zero]; rfl)
  · first | exact fun _ _ _ h => h | exact fun _ _ _ h => nomatch h.1
  · rfl
  · (intro W hSW; (try dsimp only at hSW); go_split_ands; first | (go_simp; done) | (go_simp; with_reducible rfl))
  try simp only [Act.put, List.setIfInBounds_toArray, List.set_cons_zero, List.set_cons_succ]
  refine' wpAnyH_take (i := 2) (oi := _) (v := _) ?_ (by kernel_rfl) (by kernel_rfl) (by kernel_rfl) ?_ (Or.inl ⟨?_, ?_⟩) (by assumption) ?_
  rotate_left 2
  · (simp only [List.getElem?_toArray, List.getElem?_cons_succ, List.getElem?_cons_zero]; rfl)
  · first | exact fun _ _ _ h => h | exact fun _ _ _ h => nomatch h.1
  · rfl
  · (intro W hSW; (try dsimp only at hSW); go_split_ands; first | (go_simp; done) | (go_simp; with_reducible rfl))
  try simp only [Act.put, List.setIfInBounds_toArray, List.set_cons_zero, List.set_cons_succ]
  refine' wpAnyH_take (i := 3) (oi := _) (v := _) ?_ (by kernel_rfl) (by kernel_rfl) (by kernel_rfl) ?_ (Or.inl ⟨?_, ?_⟩) (by assumption) ?_
  rotate_left 2
  · (simp only [List.getElem?_toArray, List.getElem?_cons_succ, List.getElem?_cons_zero]; rfl)
  · first | exact fun _ _ _ h => h | exact fun _ _ _ h => nomatch h.1
  · rfl
  · (intro W hSW; (try dsimp only at hSW); go_split_ands; first | (go_simp; done) | (go_simp; with_reducible rfl))
  try simp only [Act.put, List.setIfInBounds_toArray, List.set_cons_zero, List.set_cons_succ]
  refine' wpAnyH_take (i := 4) (oi := _) (v := _) ?_ (by kernel_rfl) (by kernel_rfl) (by kernel_rfl) ?_ (Or.inl ⟨?_, ?_⟩) (by assumption) ?_
  rotate_left 2
  · (simp only [List.getElem?_toArray, List.getElem?_cons_succ, List.getElem?_cons_zero]; rfl)
  · first | exact fun _ _ _ h => h | exact fun _ _ _ h => nomatch h.1
  · rfl
  · (intro W hSW; (try dsimp only at hSW); go_split_ands; first | (go_simp; done) | (go_simp; with_reducible rfl))
  try simp only [Act.put, List.setIfInBounds_toArray, List.set_cons_zero, List.set_cons_succ]
  refine' wpAnyH_take (i := 5) (oi := _) (v := _) ?_ (by kernel_rfl) (by kernel_rfl) (by kernel_rfl) ?_ (Or.inl ⟨?_, ?_⟩) (by assumption) ?_
  rotate_left 2
  · (simp only [List.getElem?_toArray, List.getElem?_cons_succ, List.getElem?_cons_zero]; rfl)
  · first | exact fun _ _ _ h => h | exact fun _ _ _ h => nomatch h.1
  · rfl
  · (intro W hSW; (try dsimp only at hSW); go_split_ands; first | (go_simp; done) | (go_simp; with_reducible rfl))
  try simp only [Act.put, List.setIfInBounds_toArray, List.set_cons_zero, List.set_cons_succ]
  refine' wpAnyH_take (i := 6) (oi := _) (v := _) ?_ (by kernel_rfl) (by kernel_rfl) (by kernel_rfl) ?_ (Or.inl ⟨?_, ?_⟩) (by assumption) ?_
  rotate_left 2
  · (simp only [List.getElem?_toArray, List.getElem?_cons_succ, List.getElem?_cons_zero]; rfl)
  · first | exact fun _ _ _ h => h | exact fun _ _ _ h => nomatch h.1
  · rfl
  · (intro W hSW; (try dsimp only at hSW); go_split_ands; first | (go_simp; done) | (go_simp; with_reducible rfl))
  try simp only [Act.put, List.setIfInBounds_toArray, List.set_cons_zero, List.set_cons_succ]
  refine' wpAnyH_take (i := 7) (oi := _) (v := _) ?_ (by kernel_rfl) (by kernel_rfl) (by kernel_rfl) ?_ (Or.inl ⟨?_, ?_⟩) (by assumption) ?_
  rotate_left 2
  · (simp only [List.getElem?_toArray, List.getElem?_cons_succ, List.getElem?_cons_zero]; rfl)
  · first | exact fun _ _ _ h => h | exact fun _ _ _ h => nomatch h.1
  · rfl
  · (intro W hSW; (try dsimp only at hSW); go_split_ands; first | (go_simp; done) | (go_simp; with_reducible rfl))
  try simp only [Act.put, List.setIfInBounds_toArray, List.set_cons_zero, List.set_cons_succ]
  refine' wpAnyH_take (i := 8) (oi := _) (v := _) ?_ (by kernel_rfl) (by kernel_rfl) (by kernel_rfl) ?_ (Or.inl ⟨?_, ?_⟩) (by assumption) ?_
  rotate_left 2
  · (simp only [List.getElem?_toArray, List.getElem?_cons_succ, List.getElem?_cons_zero]; rfl)
  · first | exact fun _ _ _ h => h | exact fun _ _ _ h => nomatch h.1
  · rfl
  · (intro W hSW; (try dsimp only at hSW); go_split_ands; first | (go_simp; done) | (go_simp; with_reducible rfl))
  try simp only [Act.put, List.setIfInBounds_toArray, List.set_cons_zero, List.set_cons_succ]
  refine' wpAnyH_take (i := 9) (oi := _) (v := _) ?_ (by kernel_rfl) (by kernel_rfl) (by kernel_rfl) ?_ (Or.inl ⟨?_, ?_⟩) (by assumption) ?_
  rotate_left 2
  · (simp only [List.getElem?_toArray, List.getElem?_cons_succ, List.getElem?_cons_zero]; rfl)
  · first | exact fun _ _ _ h => h | exact fun _ _ _ h => nomatch h.1
  · rfl
  · (intro W hSW; (try dsimp only at hSW); go_split_ands; first | (go_simp; done) | (go_simp; with_reducible rfl))
  try simp only [Act.put, List.setIfInBounds_toArray, List.set_cons_zero, List.set_cons_succ]
  refine' wpAnyH_take (i := 10) (oi := _) (v := _) ?_ (by kernel_rfl) (by kernel_rfl) (by kernel_rfl) ?_ (Or.inl ⟨?_, ?_⟩) (by assumption) ?_
  rotate_left 2
  · (simp only [List.getElem?_toArray, List.getElem?_cons_succ, List.getElem?_cons_zero]; rfl)
  · first | exact fun _ _ _ h => h | exact fun _ _ _ h => nomatch h.1
  · rfl
  · (intro W hSW; (try dsimp only at hSW); go_split_ands; first | (go_simp; done) | (go_simp; with_reducible rfl))
  try simp only [Act.put, List.setIfInBounds_toArray, List.set_cons_zero, List.set_cons_succ]
  refine' wpAnyH_take (i := 11) (oi := _) (v := _) ?_ (by kernel_rfl) (by kernel_rfl) (by kernel_rfl) ?_ (Or.inl ⟨?_, ?_⟩) (by assumption) ?_
  rotate_left 2
  · (simp only [List.getElem?_toArray, List.getElem?_cons_succ, List.getElem?_cons_zero]; rfl)
  · first | exact fun _ _ _ h => h | exact fun _ _ _ h => nomatch h.1
  · rfl
  · (intro W hSW; (try dsimp only at hSW); go_split_ands; first | (go_simp; done) | (go_simp; with_reducible rfl))
  try simp only [Act.put, List.setIfInBounds_toArray, List.set_cons_zero, List.set_cons_succ]
  refine' wpAnyH_take (i := 12) (oi := _) (v := _) ?_ (by kernel_rfl) (by kernel_rfl) (by kernel_rfl) ?_ (Or.inl ⟨?_, ?_⟩) (by assumption) ?_
  rotate_left 2
  · (simp only [List.getElem?_toArray, List.getElem?_cons_succ, List.getElem?_cons_zero]; rfl)
  · first | exact fun _ _ _ h => h | exact fun _ _ _ h => nomatch h.1
  · rfl
  · (intro W hSW; (try dsimp only at hSW); go_split_ands; first | (go_simp; done) | (go_simp; with_reducible rfl))
  try simp only [Act.put, List.setIfInBounds_toArray, List.set_cons_zero, List.set_cons_succ]
  refine' wpAnyH_take (i := 13) (oi := _) (v := _) ?_ (by kernel_rfl) (by kernel_rfl) (by kernel_rfl) ?_ (Or.inl ⟨?_, ?_⟩) (by assumption) ?_
  rotate_left 2
  · (simp only [List.getElem?_toArray, List.getElem?_cons_succ, List.getElem?_cons_zero]; rfl)
  · first | exact fun _ _ _ h => h | exact fun _ _ _ h => nomatch h.1
  · rfl
  · (intro W hSW; (try dsimp only at hSW); go_split_ands; first | (go_simp; done) | (go_simp; with_reducible rfl))
  try simp only [Act.put, List.setIfInBounds_toArray, List.set_cons_zero, List.set_cons_succ]
  refine' wpAnyH_take (i := 14) (oi := _) (v := _) ?_ (by kernel_rfl) (by kernel_rfl) (by kernel_rfl) ?_ (Or.inl ⟨?_, ?_⟩) (by assumption) ?_
  rotate_left 2
  · (simp only [List.getElem?_toArray, List.getElem?_cons_succ, List.getElem?_cons_zero]; rfl)
  · first | exact fun _ _ _ h => h | exact fun _ _ _ h => nomatch h.1
  · rfl
  · (intro W hSW; (try dsimp only at hSW); go_split_ands; first | (go_simp; done) | (go_simp; with_reducible rfl))
  try simp only [Act.put, List.setIfInBounds_toArray, List.set_cons_zero, List.set_cons_succ]
  refine' wpAnyH_take (i := 15) (oi := _) (v := _) ?_ (by kernel_rfl) (by kernel_rfl) (by kernel_rfl) ?_ (Or.inl ⟨?_, ?_⟩) (by assumption) ?_
  rotate_left 2
  · (simp only [List.getElem?_toArray, List.getElem?_cons_succ, List.getElem?_cons_zero]; rfl)
  · first | exact fun _ _ _ h => h | exact fun _ _ _ h => nomatch h.1
  · rfl
  · (intro W hSW; (try dsimp only at hSW); go_split_ands; first | (go_simp; done) | (go_simp; with_reducible rfl))
  try simp only [Act.put, List.setIfInBounds_toArray, List.set_cons_zero, List.set_cons_succ]
  refine' wpAnyH_take (i := 16) (oi := _) (v := _) ?_ (by kernel_rfl) (by kernel_rfl) (by kernel_rfl) ?_ (Or.inl ⟨?_, ?_⟩) (by assumption) ?_
  rotate_left 2
  · (simp only [List.getElem?_toArray, List.getElem?_cons_succ, List.getElem?_cons_zero]; rfl)
  · first | exact fun _ _ _ h => h | exact fun _ _ _ h => nomatch h.1
  · rfl
  · (intro W hSW; (try dsimp only at hSW); go_split_ands; first | (go_simp; done) | (go_simp; with_reducible rfl))
  try simp only [Act.put, List.setIfInBounds_toArray, List.set_cons_zero, List.set_cons_succ]
  clear hHeld
  refine wpAnyH_done (by kernel_rfl) ?_ _
  have yp := rp.cell
  have zp := rp.lt
  have y1 := r1.cell
  have z1 := r1.lt
  go_wp2_with fail
  go_returns
  exact ⟨rfl, by first | exact hc | (rw [← hbx]; exact hc)⟩
theorem ladd_ok1 {F : Nat → Prop} {p : Nat} {l : List AtR} {v : Value} {m : Nat} {es : List En} {clk : Nat} (a : AtR) (hg : gIn a) (w : World) (h : LedIs w F p l v m es clk) (hk : aOk a = true) {N : Nat} (hN : l.length = N + 1) (hN2 : N + 1 < 10000) (hs : ∀ x, l.getLast? = some x → ¬ a.at_ < x.at_) :
    Calls Tryz.prog 32 #[ledP p, atV a] w fun e w' => e = .returned (.int .i64 0) ∧ Led w' (fun b => F b ∨ FreshL w w' b) p (l ++ [a]) ∧ But F w w' := by
  have HK := Lib.hid hk
  obtain ⟨i0, hi, hz0, hz1, hz2⟩ := info_parts at_info
  have HI0 := Lib.hid hi
  have HZ0 := Lib.hid hz0
  have HZ1 := Lib.hid hz1
  have HZ2 := Lib.hid hz2
  clear hi hz0 hz1 hz2
  obtain ⟨i1, hi, hz0, hz1, hz2⟩ := info_parts int_infoL
  have JI0 := Lib.hid hi
  have JZ0 := Lib.hid hz0
  have JZ1 := Lib.hid hz1
  have JZ2 := Lib.hid hz2
  clear hi hz0 hz1 hz2
  have HH := Lib.hid h
  obtain ⟨a0, c0, hv0⟩ := h.own.holds.len
  subst hv0
  have cc := fun W => acheck_c a hg W
  rw [aErr_ok hk] at cc
  have CC := Lib.hid cc
  have rp := h.row
  obtain ⟨g, c1, x, hvv, hx, hcl⟩ := last_cell h.own hN
  injection hvv with hv1 hv2 hv3
  subst hv1
  subst hv3
  rw [hN] at rp
  clear hv2
  have hcl0 := block_lt_of_cell (a := ⟨g, N * 6, none⟩) hcl
  have q0 : IntKind.i64.wrap (N : Int) = (N : Int) := IntWalk.i64_in _ ⟨by omega, by omega⟩
  have q1 : (0 : Int) ≤ (N : Int) := by omega
  have q2 : (N : Int) < (N : Int) + 1 := by omega
  have hlt := hs x hx
  have hd : decide (a.at_ < x.at_) = false := decide_eq_false hlt
  have hN3 : decide ((10000 : Int) ≤ (N : Int) + 1) = false := decide_eq_false (by omega)
  have HN2 := Lib.hid hN2
  clear hN2
  have HN := Lib.hid hN
  clear hs hx hlt hN
  clear hk
  clear cc h
  go_enter Tryz.func32, Tryz.ntmps32
  go_upto_region 1 with fail
  have hb := below_alloc w (.cells (atC a) 43)
  have r1 := Row.new (W := w) (cs := atC a) (t := 43)
  replace rp := rp.on hb
  replace hcl := keep_cell hb hcl0 hcl
  replace hcl0 := keep_lt hb hcl0
  have hc := hb
  clear hb
  generalize w.alloc (.cells (atC a) 43) = V at *
  generalize hbx : w.heap.size = bx at r1 ⊢
  have yp := rp.cell
  have zp := rp.lt
  have y1 := r1.cell
  have z1 := r1.lt
  go_wp2_with fail
  refine Calls.mono (llen_c rp) ?_
  rintro e V1 ⟨rfl, hW⟩
  subst hW
  go_wp2_with fail
  refine Calls.mono (lmade_c rp) ?_
  rintro e V1 ⟨rfl, hW⟩
  subst hW
  go_wp2_with fail
  refine Calls.mono (CC.out _) ?_
  rintro e V2 ⟨rfl, hn⟩
  clear yp zp y1 z1 CC
  replace rp := rp.on hn
  replace r1 := r1.on hn
  replace hcl := keep_cell hn hcl0 hcl
  replace hcl0 := keep_lt hn hcl0
  replace hc := chain hc hn
  clear hn
  have yp := rp.cell
  have zp := rp.lt
  have y1 := r1.cell
  have z1 := r1.lt
  go_upto_region 8 with fail
  clear yp zp y1 z1
  refine wp_region_held_drew (S := fun W' => (∀ j, W'.cell? ⟨p, j, none⟩ = (#[.slice (some ⟨g, 0, none⟩) (N + 1) c0, .map (some m)] : Array Value)[j]?) ∧ (∀ j, W'.cell? ⟨bx, j, none⟩ = (atC a)[j]?) ∧ W'.cell? ⟨g, N * 6, none⟩ = some (.int .i64 x.at_)) (by kernel_rfl) ⟨rp.cell, r1.cell, hcl⟩ (fun hHeld => ?_)
  replace rp := rp.drew
  replace r1 := r1.drew
  replace hc := hc.drew
  generalize V2.drew = V3 at *
  refine' wpAnyH_take (i := 0) (oi := _) (v := _) ?_ (by kernel_rfl) (by kernel_rfl) (by kernel_rfl) ?_ (Or.inl ⟨?_, ?_⟩) (by assumption) ?_
  rotate_left 2
  · (simp only [List.getElem?_toArray, List.getElem?_cons_succ, List.getElem?_cons_zero]; rfl)
  · first | exact fun _ _ _ h => h | exact fun _ _ _ h => nomatch h.1
  · rfl
  · (intro W hSW; (try dsimp only at hSW); go_split_ands; first | (go_simp; done) | (go_simp; with_reducible rfl))
  try simp only [Act.put, List.setIfInBounds_toArray, List.set_cons_zero, List.set_cons_succ]
  refine' wpAnyH_take (i := 1) (oi := _) (v := _) ?_ (by kernel_rfl) (by kernel_rfl) (by kernel_rfl) ?_ (Or.inl ⟨?_, ?_⟩) (by assumption) ?_
  rotate_left 2
  · (simp only [List.getElem?_toArray, List.getElem?_cons_succ, List.getElem?_cons_zero]; rfl)
  · first | exact fun _ _ _ h => h | exact fun _ _ _ h => nomatch h.1
  · rfl
  · (intro W hSW; (try dsimp only at hSW); go_split_ands; first | (go_simp; done) | (go_simp; with_reducible rfl))
  try simp only [Act.put, List.setIfInBounds_toArray, List.set_cons_zero, List.set_cons_succ]
  refine' wpAnyH_take (i := 2) (oi := _) (v := _) ?_ (by kernel_rfl) (by kernel_rfl) (by kernel_rfl) ?_ (Or.inl ⟨?_, ?_⟩) (by assumption) ?_
  rotate_left 2
  · (simp only [List.getElem?_toArray, List.getElem?_cons_succ, List.getElem?_cons_zero]; rfl)
  · first | exact fun _ _ _ h => h | exact fun _ _ _ h => nomatch h.1
  · rfl
  · (intro W hSW; (try dsimp only at hSW); go_split_ands; first | (go_simp; done) | (go_simp; with_reducible rfl))
  try simp only [Act.put, List.setIfInBounds_toArray, List.set_cons_zero, List.set_cons_succ]
  refine' wpAnyH_take (i := 3) (oi := _) (v := _) ?_ (by kernel_rfl) (by kernel_rfl) (by kernel_rfl) ?_ (Or.inl ⟨?_, ?_⟩) (by assumption) ?_
  rotate_left 2
  · (simp only [List.getElem?_toArray, List.getElem?_cons_succ, List.getElem?_cons_zero]; rfl)
  · first | exact fun _ _ _ h => h | exact fun _ _ _ h => nomatch h.1
  · rfl
  · (intro W hSW; (try dsimp only at hSW); go_split_ands; first | (go_simp; done) | (go_simp; with_reducible rfl))
  try simp only [Act.put, List.setIfInBounds_toArray, List.set_cons_zero, List.set_cons_succ]
  refine' wpAnyH_take (i := 4) (oi := _) (v := _) ?_ (by kernel_rfl) (by kernel_rfl) (by kernel_rfl) ?_ (Or.inl ⟨?_, ?_⟩) (by assumption) ?_
  rotate_left 2
  · (simp only [List.getElem?_toArray, List.getElem?_cons_succ, List.getElem?_cons_zero]; rfl)
  · first | exact fun _ _ _ h => h | exact fun _ _ _ h => nomatch h.1
  · rfl
  · (intro W hSW; (try dsimp only at hSW); go_split_ands; first | (go_simp; done) | (go_simp; with_reducible rfl))
  try simp only [Act.put, List.setIfInBounds_toArray, List.set_cons_zero, List.set_cons_succ]
  refine' wpAnyH_take (i := 5) (oi := _) (v := _) ?_ (by kernel_rfl) (by kernel_rfl) (by kernel_rfl) ?_ (Or.inl ⟨?_, ?_⟩) (by assumption) ?_
  rotate_left 2
  · (simp only [List.getElem?_toArray, List.getElem?_cons_succ, List.getElem?_cons_zero]; rfl)
  · first | exact fun _ _ _ h => h | exact fun _ _ _ h => nomatch h.1
  · rfl
  · (intro W hSW; (try dsimp only at hSW); go_split_ands; first | (go_simp; done) | (go_simp; with_reducible rfl))
  try simp only [Act.put, List.setIfInBounds_toArray, List.set_cons_zero, List.set_cons_succ]
  refine' wpAnyH_take (i := 6) (oi := _) (v := _) ?_ (by kernel_rfl) (by kernel_rfl) (by kernel_rfl) ?_ (Or.inl ⟨?_, ?_⟩) (by assumption) ?_
  rotate_left 2
  · (simp only [List.getElem?_toArray, List.getElem?_cons_succ, List.getElem?_cons_zero]; rfl)
  · first | exact fun _ _ _ h => h | exact fun _ _ _ h => nomatch h.1
  · rfl
  · (intro W hSW; (try dsimp only at hSW); go_split_ands; first | (go_simp; done) | (go_simp; with_reducible rfl))
  try simp only [Act.put, List.setIfInBounds_toArray, List.set_cons_zero, List.set_cons_succ]
  refine' wpAnyH_take (i := 7) (oi := _) (v := _) ?_ (by kernel_rfl) (by kernel_rfl) (by kernel_rfl) ?_ (Or.inl ⟨?_, ?_⟩) (by assumption) ?_
  rotate_left 2
  · (simp only [List.getElem?_toArray, List.getElem?_cons_succ, List.getElem?_cons_zero]; rfl)
  · first | exact fun _ _ _ h => h | exact fun _ _ _ h => nomatch h.1
  · rfl
  · (intro W hSW; (try dsimp only at hSW); go_split_ands; first | (go_simp; done) | (go_simp; with_reducible rfl))
  try simp only [Act.put, List.setIfInBounds_toArray, List.set_cons_zero, List.set_cons_succ]
  refine' wpAnyH_take (i := 8) (oi := _) (v := _) ?_ (by kernel_rfl) (by kernel_rfl) (by kernel_rfl) ?_ (Or.inl ⟨?_, ?_⟩) (by assumption) ?_
  rotate_left 2
  · (simp only [List.getElem?_toArray, List.getElem?_cons_succ, List.getElem?_cons_zero]; rfl)
  · first | exact fun _ _ _ h => h | exact fun _ _ _ h => nomatch h.1
  · rfl
  · (intro W hSW; (try dsimp only at hSW); go_split_ands; first | (go_simp; done) | (go_simp; with_reducible rfl))
  try simp only [Act.put, List.setIfInBounds_toArray, List.set_cons_zero, List.set_cons_succ]
  refine' wpAnyH_take (i := 9) (oi := _) (v := _) ?_ (by kernel_rfl) (by kernel_rfl) (by kernel_rfl) ?_ (Or.inl ⟨?_, ?_⟩) (by assumption) ?_
  rotate_left 2
  · (simp only [List.getElem?_toArray, List.getElem?_cons_succ, List.getElem?_cons_zero]; rfl)
  · first | exact fun _ _ _ h => h | exact fun _ _ _ h => nomatch h.1
  · rfl
  · (intro W hSW; (try dsimp only at hSW); go_split_ands; first | (go_simp; done) | (go_simp; with_reducible rfl))
  try simp only [Act.put, List.setIfInBounds_toArray, List.set_cons_zero, List.set_cons_succ]
  refine' wpAnyH_take (i := 10) (oi := _) (v := _) ?_ (by kernel_rfl) (by kernel_rfl) (by kernel_rfl) ?_ (Or.inl ⟨?_, ?_⟩) (by assumption) ?_
  rotate_left 2
  · (simp only [List.getElem?_toArray, List.getElem?_cons_succ, List.getElem?_cons_zero]; rfl)
  · first | exact fun _ _ _ h => h | exact fun _ _ _ h => nomatch h.1
  · rfl
  · (intro W hSW; (try dsimp only at hSW); go_split_ands; first | (go_simp; done) | (go_simp; with_reducible rfl))
  try simp only [Act.put, List.setIfInBounds_toArray, List.set_cons_zero, List.set_cons_succ]
  refine' wpAnyH_take (i := 11) (oi := _) (v := _) ?_ (by kernel_rfl) (by kernel_rfl) (by kernel_rfl) ?_ (Or.inl ⟨?_, ?_⟩) (by assumption) ?_
  rotate_left 2
  · (simp only [List.getElem?_toArray, List.getElem?_cons_succ, List.getElem?_cons_zero]; rfl)
  · first | exact fun _ _ _ h => h | exact fun _ _ _ h => nomatch h.1
  · rfl
  · (intro W hSW; (try dsimp only at hSW); go_split_ands; first | (go_simp; done) | (go_simp; with_reducible rfl))
  try simp only [Act.put, List.setIfInBounds_toArray, List.set_cons_zero, List.set_cons_succ]
  refine' wpAnyH_take (i := 12) (oi := _) (v := _) ?_ (by kernel_rfl) (by kernel_rfl) (by kernel_rfl) ?_ (Or.inl ⟨?_, ?_⟩) (by assumption) ?_
  rotate_left 2
  · (simp only [List.getElem?_toArray, List.getElem?_cons_succ, List.getElem?_cons_zero]; rfl)
  · first | exact fun _ _ _ h => h | exact fun _ _ _ h => nomatch h.1
  · rfl
  · (intro W hSW; (try dsimp only at hSW); go_split_ands; first | (go_simp; done) | (go_simp; with_reducible rfl))
  try simp only [Act.put, List.setIfInBounds_toArray, List.set_cons_zero, List.set_cons_succ]
  refine' wpAnyH_take (i := 13) (oi := _) (v := _) ?_ (by kernel_rfl) (by kernel_rfl) (by kernel_rfl) ?_ (Or.inl ⟨?_, ?_⟩) (by assumption) ?_
  rotate_left 2
  · (simp only [List.getElem?_toArray, List.getElem?_cons_succ, List.getElem?_cons_zero]; rfl)
  · first | exact fun _ _ _ h => h | exact fun _ _ _ h => nomatch h.1
  · rfl
  · (intro W hSW; (try dsimp only at hSW); go_split_ands; first | (go_simp; done) | (go_simp; with_reducible rfl))
  try simp only [Act.put, List.setIfInBounds_toArray, List.set_cons_zero, List.set_cons_succ]
  refine' wpAnyH_take (i := 14) (oi := _) (v := _) ?_ (by kernel_rfl) (by kernel_rfl) (by kernel_rfl) ?_ (Or.inl ⟨?_, ?_⟩) (by assumption) ?_
  rotate_left 2
  · (simp only [List.getElem?_toArray, List.getElem?_cons_succ, List.getElem?_cons_zero]; rfl)
  · first | exact fun _ _ _ h => h | exact fun _ _ _ h => nomatch h.1
  · rfl
  · (intro W hSW; (try dsimp only at hSW); go_split_ands; first | (go_simp; done) | (go_simp; with_reducible rfl))
  try simp only [Act.put, List.setIfInBounds_toArray, List.set_cons_zero, List.set_cons_succ]
  refine' wpAnyH_take (i := 15) (oi := _) (v := _) ?_ (by kernel_rfl) (by kernel_rfl) (by kernel_rfl) ?_ (Or.inl ⟨?_, ?_⟩) (by assumption) ?_
  rotate_left 2
  · (simp only [List.getElem?_toArray, List.getElem?_cons_succ, List.getElem?_cons_zero]; rfl)
  · first | exact fun _ _ _ h => h | exact fun _ _ _ h => nomatch h.1
  · rfl
  · (intro W hSW; (try dsimp only at hSW); go_split_ands; first | (go_simp; done) | (go_simp; with_reducible rfl))
  try simp only [Act.put, List.setIfInBounds_toArray, List.set_cons_zero, List.set_cons_succ]
  refine' wpAnyH_take (i := 16) (oi := _) (v := _) ?_ (by kernel_rfl) (by kernel_rfl) (by kernel_rfl) ?_ (Or.inl ⟨?_, ?_⟩) (by assumption) ?_
  rotate_left 2
  · (simp only [List.getElem?_toArray, List.getElem?_cons_succ, List.getElem?_cons_zero]; rfl)
  · first | exact fun _ _ _ h => h | exact fun _ _ _ h => nomatch h.1
  · rfl
  · (intro W hSW; (try dsimp only at hSW); go_split_ands; first | (go_simp; done) | (go_simp; with_reducible rfl))
  try simp only [Act.put, List.setIfInBounds_toArray, List.set_cons_zero, List.set_cons_succ]
  clear hHeld
  refine wpAnyH_done (by kernel_rfl) ?_ _
  have yp := rp.cell
  have zp := rp.lt
  have y1 := r1.cell
  have z1 := r1.lt
  go_wp2_with fail
  clear yp zp y1 z1
  have hL := HH.out.on hc
  have hown := hL.own
  have hbut := but_of (fun b => b = p ∨ Value.ownBlock (.slice (some ⟨g, 0, none⟩) l.length c0) = some b ∨ b = m ∨ (atE a.k a.i a.g es).ownBlock = some b) hc
  rw [HN.out] at hbut hown
  replace hL := hL
  have hmp := hL.mp
  obtain ⟨hint, hatF⟩ := hL.at_ a.k a.i a.g
  refine wp_region_held_drew (S := fun W' => (∀ j, W'.cell? ⟨bx, j, none⟩ = (atC a)[j]?)) (by kernel_rfl) r1.cell (fun hHeld => ?_)
  replace rp := rp.drew
  replace r1 := r1.drew
  replace hc := hc.drew
  replace hbut := hbut.drew
  replace hown : OwnsA 0 V3.drew _ l := hown
  replace hint : OwnsI 0 V3.drew _ _ := hint
  replace hmp : MapIs V3.drew m es clk := ⟨hmp.eq⟩
  clear hL
  generalize V3.drew = X0 at *
  refine' wpAnyH_take (i := 0) (oi := _) (v := _) ?_ (by kernel_rfl) (by kernel_rfl) (by kernel_rfl) ?_ (Or.inl ⟨?_, ?_⟩) (by assumption) ?_
  rotate_left 2
  · (simp only [List.getElem?_toArray, List.getElem?_cons_succ, List.getElem?_cons_zero]; rfl)
  · first | exact fun _ _ _ h => h | exact fun _ _ _ h => nomatch h.1
  · rfl
  · (intro W hSW; (try dsimp only at hSW); go_split_ands; first | (go_simp; done) | (go_simp; with_reducible rfl))
  try simp only [Act.put, List.setIfInBounds_toArray, List.set_cons_zero, List.set_cons_succ]
  refine' wpAnyH_take (i := 1) (oi := _) (v := _) ?_ (by kernel_rfl) (by kernel_rfl) (by kernel_rfl) ?_ (Or.inl ⟨?_, ?_⟩) (by assumption) ?_
  rotate_left 2
  · (simp only [List.getElem?_toArray, List.getElem?_cons_succ, List.getElem?_cons_zero]; rfl)
  · first | exact fun _ _ _ h => h | exact fun _ _ _ h => nomatch h.1
  · rfl
  · (intro W hSW; (try dsimp only at hSW); go_split_ands; first | (go_simp; done) | (go_simp; with_reducible rfl))
  try simp only [Act.put, List.setIfInBounds_toArray, List.set_cons_zero, List.set_cons_succ]
  refine' wpAnyH_take (i := 2) (oi := _) (v := _) ?_ (by kernel_rfl) (by kernel_rfl) (by kernel_rfl) ?_ (Or.inl ⟨?_, ?_⟩) (by assumption) ?_
  rotate_left 2
  · (simp only [List.getElem?_toArray, List.getElem?_cons_succ, List.getElem?_cons_zero]; rfl)
  · first | exact fun _ _ _ h => h | exact fun _ _ _ h => nomatch h.1
  · rfl
  · (intro W hSW; (try dsimp only at hSW); go_split_ands; first | (go_simp; done) | (go_simp; with_reducible rfl))
  try simp only [Act.put, List.setIfInBounds_toArray, List.set_cons_zero, List.set_cons_succ]
  refine' wpAnyH_take (i := 3) (oi := _) (v := _) ?_ (by kernel_rfl) (by kernel_rfl) (by kernel_rfl) ?_ (Or.inl ⟨?_, ?_⟩) (by assumption) ?_
  rotate_left 2
  · (simp only [List.getElem?_toArray, List.getElem?_cons_succ, List.getElem?_cons_zero]; rfl)
  · first | exact fun _ _ _ h => h | exact fun _ _ _ h => nomatch h.1
  · rfl
  · (intro W hSW; (try dsimp only at hSW); go_split_ands; first | (go_simp; done) | (go_simp; with_reducible rfl))
  try simp only [Act.put, List.setIfInBounds_toArray, List.set_cons_zero, List.set_cons_succ]
  refine' wpAnyH_take (i := 5) (oi := _) (v := _) ?_ (by kernel_rfl) (by kernel_rfl) (by kernel_rfl) ?_ (Or.inl ⟨?_, ?_⟩) (by assumption) ?_
  rotate_left 2
  · (simp only [List.getElem?_toArray, List.getElem?_cons_succ, List.getElem?_cons_zero]; rfl)
  · first | exact fun _ _ _ h => h | exact fun _ _ _ h => nomatch h.1
  · rfl
  · (intro W hSW; (try dsimp only at hSW); go_split_ands; first | (go_simp; done) | (go_simp; with_reducible rfl))
  try simp only [Act.put, List.setIfInBounds_toArray, List.set_cons_zero, List.set_cons_succ]
  clear hHeld
  refine wpAnyH_ready (rs := [4, 6]) (by kernel_rfl) (by simp) ?_
  refine' AllReadyH.cons (o := _) (by simp only [List.getElem?_toArray, List.getElem?_cons_succ, List.getElem?_cons_zero]; rfl) (fun K hK => ?_) (AllReadyH.cons (o := _) (by simp only [List.getElem?_toArray, List.getElem?_cons_succ, List.getElem?_cons_zero]; rfl) (fun K hK => ?_) AllReadyH.nil)
  · have yp := rp.cell
    have zp := rp.lt
    go_simp
    clear yp zp
    refine hK.out _ _ r1.cell (fun hHeld => ?_)
    clear hK K hHeld
    refine wpAnyH_ready (rs := [6]) (by kernel_rfl) (by simp) ?_
    refine' AllReadyH.cons (o := _) ?_ (fun K hK => ?_) AllReadyH.nil
    rotate_left 1
    · (simp only [List.getElem?_toArray, List.getElem?_cons_succ, List.getElem?_cons_zero]; rfl)
    go_simp
    have hn := below_alloc X0 (.cells (atC a) 43)
    have hsrc := at_src X0 a
    have ra := Row.new (W := X0) (cs := atC a) (t := 43)
    have hnewA : w.heap.size ≤ X0.heap.size := hc.size
    replace rp := rp.on hn
    replace r1 := r1.on hn
    replace hown := hown.on hn
    replace hint := hint.on hn
    replace hmp := hmp.on hn
    replace hc := chain hc hn
    replace hbut := hbut.on hn
    clear hn
    generalize X0.alloc (.cells (atC a) 43) = X1 at *
    generalize X0.heap.size = a2 at *
    have hX1 := hc.size
    refine hK.out _ _ r1.cell (fun hHeld => ?_)
    clear hK K hHeld
    refine wpAnyH_ready (rs := [7]) (by kernel_rfl) (by simp) ?_
    refine' AllReadyH.cons (o := _) (by simp only [List.getElem?_toArray, List.getElem?_cons_succ, List.getElem?_cons_zero]; rfl) (fun K hK => ?_) AllReadyH.nil
    refine step_append_lies _ rfl (.tmp 12) (.tmp 14) 26 rfl 0 43 i0 (.agg #[.int .i64 0, .int .i64 0, .int .i64 0, .int .u32 0, .int .i64 0, .int .i64 0]) 6 48 Tryz.underlying26 HI0.out HZ0.out HZ1.out HZ2.out rfl (by decide) (.slice (some ⟨g, 0, none⟩) (N + 1) c0) (N + 1) (cellsA l) rfl (by have h9 := hown; unfold OwnsA at h9; rw [HN.out] at h9; exact h9) ⟨a2, 0, none⟩ 1 1 (atL a) rfl rfl hsrc (by intro u hu; simp at hu; rcases hu with rfl | rfl | rfl | rfl | rfl | rfl <;> rfl) (by omega) (by unfold maxLen; have := HN2.out; omega) (by have := HN2.out; omega) (Nat.zero_le _) _ rfl ?_
    intro g1 cap X2 hown2 hgrow hat hlt2
    have hvp : ((.slice (some ⟨g, 0, none⟩) (N + 1) c0) : Value).ownBlock ≠ some p := ownA_ne_row hown rp (by decide)
    have hvb : ((.slice (some ⟨g, 0, none⟩) (N + 1) c0) : Value).ownBlock ≠ some bx := fun e => by have := (HH.out.own.lt bx e).2; omega
    have hvm : ((.slice (some ⟨g, 0, none⟩) (N + 1) c0) : Value).ownBlock ≠ some m := ownA_ne_map hown hmp
    replace hint : OwnsI 0 X2 _ _ := hint.via (fun k hk => hgrow.block k (hint.lt k hk).2 (fun e => ownA_ne_ownI hown hint hk e.symm))
    replace rp := row_grown rp hgrow hvp
    replace r1 := row_grown r1 hgrow hvb
    replace hmp := mapIs_grown hmp hgrow hvm
    replace hbut := hbut.grown hgrow (fun k hk _ => .inr (.inl hk))
    replace hown2 : OwnsA 0 X2 (.slice (some ⟨g1, 0, none⟩) ((N + 1) + 1) cap) (l ++ [a]) := by
      unfold OwnsA
      rw [cellsA_snoc, List.length_append, List.length_singleton, HN.out]
      exact hown2
    refine hK.out _ _ r1.cell (fun hHeld => ?_)
    clear hK K hsrc hown ra
    refine' wpAnyH_take (i := 8) (oi := _) (v := _) ?_ (by kernel_rfl) (by kernel_rfl) (by kernel_rfl) ?_ (Or.inl ⟨?_, ?_⟩) (by assumption) ?_
    rotate_left 2
    · (simp only [List.getElem?_toArray, List.getElem?_cons_succ, List.getElem?_cons_zero]; rfl)
    · first | exact fun _ _ _ h => h | exact fun _ _ _ h => nomatch h.1
    · rfl
    · (intro W hSW; (try dsimp only at hSW); go_split_ands; first | (go_simp; done) | (go_simp; with_reducible rfl))
    try simp only [Act.put, List.setIfInBounds_toArray, List.set_cons_zero, List.set_cons_succ]
    refine' wpAnyH_take (i := 9) (oi := _) (v := _) ?_ (by kernel_rfl) (by kernel_rfl) (by kernel_rfl) ?_ (Or.inl ⟨?_, ?_⟩) (by assumption) ?_
    rotate_left 2
    · (simp only [List.getElem?_toArray, List.getElem?_cons_succ, List.getElem?_cons_zero]; rfl)
    · first | exact fun _ _ _ h => h | exact fun _ _ _ h => nomatch h.1
    · rfl
    · (intro W hSW; (try dsimp only at hSW); go_split_ands; first | (go_simp; done) | (go_simp; with_reducible rfl))
    try simp only [Act.put, List.setIfInBounds_toArray, List.set_cons_zero, List.set_cons_succ]
    clear hHeld
    have yp := rp.cell
    have zp := rp.lt
    have up := rp.free
    refine wpAnyH_ready (rs := [10]) (by kernel_rfl) (by simp) ?_
    refine' AllReadyH.cons (o := _) ?_ (fun K hK => ?_) AllReadyH.nil
    rotate_left 1
    · (simp only [List.getElem?_toArray, List.getElem?_cons_succ, List.getElem?_cons_zero]; rfl)
    go_simp
    clear yp zp up
    have hpb : p ≠ bx := row_ne_row rp r1 (by decide)
    have hpm : p ≠ m := row_ne_map rp hmp
    replace r1 := r1.other hpb 0 (.slice (some ⟨g1, 0, none⟩) ((N + 1) + 1) cap)
    replace hint : OwnsI 0 (X2.setCell ⟨p, 0, none⟩ (.slice (some ⟨g1, 0, none⟩) ((N + 1) + 1) cap)) _ _ := hint.via (fun k hk => Below.heap_setCell X2 _ _ k (fun e => ownI_ne_row hint rp (by decide) (by rw [show p = k from e.symm]; exact hk)))
    replace hown2 := ownA_setCell hown2 (ownA_ne_row hown2 rp (by decide)) 0 (.slice (some ⟨g1, 0, none⟩) ((N + 1) + 1) cap)
    replace hmp := hmp.other hpm 0 (.slice (some ⟨g1, 0, none⟩) ((N + 1) + 1) cap)
    replace hbut := hbut.setCell (y := p) (.inl rfl) 0 (.slice (some ⟨g1, 0, none⟩) ((N + 1) + 1) cap)
    replace rp := rp.set 0 (.slice (some ⟨g1, 0, none⟩) ((N + 1) + 1) cap)
    simp only [List.setIfInBounds_toArray, List.set_cons_zero, List.set_cons_succ] at rp
    generalize hW : World.setCell _ _ _ = X3 at *
    clear hW
    refine hK.out _ _ r1.cell (fun hHeld => ?_)
    clear hK K hHeld
    refine wpAnyH_done (by kernel_rfl) ?_ _
    have yp := rp.cell
    have zp := rp.lt
    have y1 := r1.cell
    have z1 := r1.lt
    go_wp2_with fail
    clear yp zp y1 z1
    clear hgrow hc
    have hat2 : (Value.ownBlock (.slice (some ⟨g, 0, none⟩) (N + 1) c0) = some g1) ∨ w.heap.size ≤ g1 := by exact hat.imp id (fun h1 => by omega)
    clear hat
    refine wp_region_held_drew (S := fun W' => (∀ j, W'.cell? ⟨p, j, none⟩ = (#[.slice (some ⟨g1, 0, none⟩) ((N + 1) + 1) cap, .map (some m)] : Array Value)[j]?) ∧ (∀ j, W'.cell? ⟨bx, j, none⟩ = (atC a)[j]?)) (by kernel_rfl) ⟨rp.cell, r1.cell⟩ (fun hHeld => ?_)
    replace rp := rp.drew
    replace r1 := r1.drew
    replace hbut := hbut.drew
    replace hown2 : OwnsA 0 X3.drew _ _ := hown2
    replace hint : OwnsI 0 X3.drew _ _ := hint
    replace hmp : MapIs X3.drew m es clk := ⟨hmp.eq⟩
    generalize X3.drew = Y0 at *
    refine' wpAnyH_take (i := 0) (oi := _) (v := _) ?_ (by kernel_rfl) (by kernel_rfl) (by kernel_rfl) ?_ (Or.inl ⟨?_, ?_⟩) (by assumption) ?_
    rotate_left 2
    · (simp only [List.getElem?_toArray, List.getElem?_cons_succ, List.getElem?_cons_zero]; rfl)
    · first | exact fun _ _ _ h => h | exact fun _ _ _ h => nomatch h.1
    · rfl
    · (intro W hSW; (try dsimp only at hSW); go_split_ands; first | (go_simp; done) | (go_simp; with_reducible rfl))
    try simp only [Act.put, List.setIfInBounds_toArray, List.set_cons_zero, List.set_cons_succ]
    refine' wpAnyH_take (i := 1) (oi := _) (v := _) ?_ (by kernel_rfl) (by kernel_rfl) (by kernel_rfl) ?_ (Or.inl ⟨?_, ?_⟩) (by assumption) ?_
    rotate_left 2
    · (simp only [List.getElem?_toArray, List.getElem?_cons_succ, List.getElem?_cons_zero]; rfl)
    · first | exact fun _ _ _ h => h | exact fun _ _ _ h => nomatch h.1
    · rfl
    · (intro W hSW; (try dsimp only at hSW); go_split_ands; first | (go_simp; done) | (go_simp; with_reducible rfl))
    try simp only [Act.put, List.setIfInBounds_toArray, List.set_cons_zero, List.set_cons_succ]
    refine' wpAnyH_take (i := 2) (oi := _) (v := _) ?_ (by kernel_rfl) (by kernel_rfl) (by kernel_rfl) ?_ (Or.inl ⟨?_, ?_⟩) (by assumption) ?_
    rotate_left 2
    · (simp only [List.getElem?_toArray, List.getElem?_cons_succ, List.getElem?_cons_zero]; rfl)
    · first | exact fun _ _ _ h => h | exact fun _ _ _ h => nomatch h.1
    · rfl
    · (intro W hSW; (try dsimp only at hSW); go_split_ands; first | (go_simp; done) | (go_simp; with_reducible rfl))
    try simp only [Act.put, List.setIfInBounds_toArray, List.set_cons_zero, List.set_cons_succ]
    refine' wpAnyH_take (i := 3) (oi := _) (v := _) ?_ (by kernel_rfl) (by kernel_rfl) (by kernel_rfl) ?_ (Or.inl ⟨?_, ?_⟩) (by assumption) ?_
    rotate_left 2
    · (simp only [List.getElem?_toArray, List.getElem?_cons_succ, List.getElem?_cons_zero]; rfl)
    · first | exact fun _ _ _ h => h | exact fun _ _ _ h => nomatch h.1
    · rfl
    · (intro W hSW; (try dsimp only at hSW); go_split_ands; first | (go_simp; done) | (go_simp; with_reducible rfl))
    try simp only [Act.put, List.setIfInBounds_toArray, List.set_cons_zero, List.set_cons_succ]
    refine' wpAnyH_take (i := 4) (oi := _) (v := _) ?_ (by kernel_rfl) (by kernel_rfl) (by kernel_rfl) ?_ (Or.inl ⟨?_, ?_⟩) (by assumption) ?_
    rotate_left 2
    · (simp only [List.getElem?_toArray, List.getElem?_cons_succ, List.getElem?_cons_zero]; rfl)
    · first | exact fun _ _ _ h => h | exact fun _ _ _ h => nomatch h.1
    · rfl
    · (intro W hSW; (try dsimp only at hSW); go_split_ands; first | (go_simp; done) | (go_simp; with_reducible rfl))
    try simp only [Act.put, List.setIfInBounds_toArray, List.set_cons_zero, List.set_cons_succ]
    refine' wpAnyH_take (i := 5) (oi := _) (v := _) ?_ (by kernel_rfl) (by kernel_rfl) (by kernel_rfl) ?_ (Or.inl ⟨?_, ?_⟩) (by assumption) ?_
    rotate_left 2
    · (simp only [List.getElem?_toArray, List.getElem?_cons_succ, List.getElem?_cons_zero]; rfl)
    · first | exact fun _ _ _ h => h | exact fun _ _ _ h => nomatch h.1
    · rfl
    · (intro W hSW; (try dsimp only at hSW); go_split_ands; first | (go_simp; done) | (go_simp; with_reducible rfl))
    try simp only [Act.put, List.setIfInBounds_toArray, List.set_cons_zero, List.set_cons_succ]
    refine' wpAnyH_take (i := 6) (oi := _) (v := _) ?_ (by kernel_rfl) (by kernel_rfl) (by kernel_rfl) ?_ (Or.inl ⟨?_, ?_⟩) (by assumption) ?_
    rotate_left 2
    · (simp only [List.getElem?_toArray, List.getElem?_cons_succ, List.getElem?_cons_zero]; rfl)
    · first | exact fun _ _ _ h => h | exact fun _ _ _ h => nomatch h.1
    · rfl
    · (intro W hSW; (try dsimp only at hSW); go_split_ands; first | (go_simp; done) | (go_simp; with_reducible rfl))
    try simp only [Act.put, List.setIfInBounds_toArray, List.set_cons_zero, List.set_cons_succ]
    clear hHeld
    obtain ⟨U, hU⟩ : ∃ U, atE a.k a.i a.g es = U := ⟨_, rfl⟩
    rw [hU] at hint
    have HU := Lib.hid hU
    have hPL : (posL a.k a.i a.g l).length ≤ 10000 := by rw [posL_len]; exact Nat.le_trans (ofL_len _ _ _ _) HH.out.len
    have HPL := Lib.hid hPL
    clear hPL
    refine wpAnyH_ready (rs := [7]) (by kernel_rfl) (by simp) ?_
    refine' AllReadyH.cons (o := _) ?_ (fun K hK => ?_) AllReadyH.nil
    rotate_left 1
    · (simp only [List.getElem?_toArray, List.getElem?_cons_succ, List.getElem?_cons_zero]; rfl)
    go_simp
    have hn := below_alloc Y0 (.cells #[.int .i64 ((N : Int) + 1)] 3)
    have hsrcI : ∀ (j : Nat) (u : Value), ([.int .i64 ((N : Int) + 1)] : List Value)[j]? = some u → (Y0.alloc (.cells #[.int .i64 ((N : Int) + 1)] 3)).cell? ((⟨Y0.heap.size, 0, none⟩ : Addr).add j) = some u := fun j u hj => by
      rw [add_off, Nat.zero_add, Row.cell (Row.new (W := Y0)) j]
      simpa using hj
    have hnewB : w.heap.size ≤ Y0.heap.size := hbut.size
    have ra := Row.new (W := Y0) (cs := #[.int .i64 ((N : Int) + 1)]) (t := 3)
    replace rp := rp.on hn
    replace r1 := r1.on hn
    replace hown2 := hown2.on hn
    replace hint := hint.on hn
    replace hmp := hmp.on hn
    replace hbut := hbut.on hn
    clear hn
    generalize Y0.alloc (.cells #[.int .i64 ((N : Int) + 1)] 3) = Y1 at *
    generalize Y0.heap.size = a3 at *
    refine hK.out _ _ ⟨rp.cell, r1.cell⟩ (fun hHeld => ?_)
    clear hK K
    clear hHeld
    have hme := run_mapEntry_o hmp HH.out.apart a.k a.i a.g
    rw [hU, show goInt (stampE a.k a.i a.g clk es) = .int .i64 (stampE a.k a.i a.g clk es : Int) from rfl] at hme
    clear hU
    refine wpAnyH_ready (rs := [8]) (by kernel_rfl) (by simp) ?_
    refine' AllReadyH.cons (o := _) ?_ (fun K hK => ?_) AllReadyH.nil
    rotate_left 1
    · (simp only [List.getElem?_toArray, List.getElem?_cons_succ, List.getElem?_cons_zero]; rfl)
    go_simp
    have ham : a3 ≠ m := row_ne_map ra hmp
    replace hsrcI : ∀ (j : Nat) (u : Value), ([.int .i64 ((N : Int) + 1)] : List Value)[j]? = some u → (setBlock Y1 m (.map ((putE a.k a.i a.g U clk es).map En.me).toArray (putC a.k a.i a.g clk es))).cell? ((⟨a3, 0, none⟩ : Addr).add j) = some u := fun j u hj => by
      rw [← hsrcI j u hj, add_off]
      simp only [World.cell?, setBlock_heap a3 ham]
    have hbm : bx ≠ m := row_ne_map r1 hmp
    have hpm2 : p ≠ m := row_ne_map rp hmp
    replace rp := Row.setBlock (b := m) (o := .map ((putE a.k a.i a.g U clk es).map En.me).toArray (putC a.k a.i a.g clk es)) rp hpm2
    replace r1 := Row.setBlock (b := m) (o := .map ((putE a.k a.i a.g U clk es).map En.me).toArray (putC a.k a.i a.g clk es)) r1 hbm
    replace hown2 : OwnsA 0 (setBlock Y1 m (.map ((putE a.k a.i a.g U clk es).map En.me).toArray (putC a.k a.i a.g clk es))) _ _ := hown2.via (fun k hk => setBlock_heap k (fun e => ownA_ne_map hown2 hmp (by rw [← e]; exact hk)))
    replace hint : OwnsI 0 (setBlock Y1 m (.map ((putE a.k a.i a.g U clk es).map En.me).toArray (putC a.k a.i a.g clk es))) _ _ := hint.via (fun k hk => setBlock_heap k (fun e => ownI_ne_map hint hmp (by rw [← e]; exact hk)))
    replace hbut := hbut.setBlock (y := m) (.inr (.inr (.inl rfl))) (.map ((putE a.k a.i a.g U clk es).map En.me).toArray (putC a.k a.i a.g clk es))
    have hmq : MapIs (setBlock Y1 m (.map ((putE a.k a.i a.g U clk es).map En.me).toArray (putC a.k a.i a.g clk es))) m (putE a.k a.i a.g U clk es) (putC a.k a.i a.g clk es) := ⟨setBlock_at hmp.lt⟩
    generalize setBlock Y1 m (.map ((putE a.k a.i a.g U clk es).map En.me).toArray (putC a.k a.i a.g clk es)) = Y2 at *
    clear hme hmp
    refine hK.out _ _ ⟨rp.cell, r1.cell⟩ (fun hHeld => ?_)
    clear hK K
    refine' wpAnyH_take (i := 9) (oi := _) (v := _) ?_ (by kernel_rfl) (by kernel_rfl) (by kernel_rfl) ?_ (Or.inl ⟨?_, ?_⟩) (by assumption) ?_
    rotate_left 2
    · (simp only [List.getElem?_toArray, List.getElem?_cons_succ, List.getElem?_cons_zero]; rfl)
    · first | exact fun _ _ _ h => h | exact fun _ _ _ h => nomatch h.1
    · rfl
    · (intro W hSW; (try dsimp only at hSW); go_split_ands; first | (go_simp; done) | (go_simp; with_reducible rfl))
    try simp only [Act.put, List.setIfInBounds_toArray, List.set_cons_zero, List.set_cons_succ]
    refine' wpAnyH_take (i := 11) (oi := _) (v := _) ?_ (by kernel_rfl) (by kernel_rfl) (by kernel_rfl) ?_ (Or.inl ⟨?_, ?_⟩) (by assumption) ?_
    rotate_left 2
    · (simp only [List.getElem?_toArray, List.getElem?_cons_succ, List.getElem?_cons_zero]; rfl)
    · first | exact fun _ _ _ h => h | exact fun _ _ _ h => nomatch h.1
    · rfl
    · (intro W hSW; (try dsimp only at hSW); go_split_ands; first | (go_simp; done) | (go_simp; with_reducible rfl))
    try simp only [Act.put, List.setIfInBounds_toArray, List.set_cons_zero, List.set_cons_succ]
    clear hHeld
    refine wpAnyH_ready (rs := [10]) (by kernel_rfl) (by simp) ?_
    refine' AllReadyH.cons (o := _) (by simp only [List.getElem?_toArray, List.getElem?_cons_succ, List.getElem?_cons_zero]; rfl) (fun K hK => ?_) AllReadyH.nil
    refine step_append_lies _ rfl (.tmp 24) (.tmp 26) 108 rfl 0 3 i1 (.int .i64 0) 1 8 Tryz.underlying108 JI0.out JZ0.out JZ1.out JZ2.out rfl (by decide) U (posL a.k a.i a.g l).length ((posL a.k a.i a.g l).map fun (n : Nat) => Value.int .i64 n) rfl hint ⟨a3, 0, none⟩ 1 1 [.int .i64 ((N : Int) + 1)] rfl rfl hsrcI (by intro u hu; simp at hu; subst hu; rfl) (by omega) (by have := HPL.out; unfold maxLen; omega) (by have := HPL.out; omega) (Nat.zero_le _) _ rfl ?_
    intro g2 cap2 Y3 hint3 hgrow2 hat3 hlt3
    have hup : U.ownBlock ≠ some p := ownI_ne_row hint rp (by decide)
    have hub : U.ownBlock ≠ some bx := ownI_ne_row hint r1 (by decide)
    have hum : U.ownBlock ≠ some m := ownI_ne_map hint hmq
    have hY2 := hbut.size
    replace hown2 : OwnsA 0 Y3 _ _ := hown2.via (fun k hk => hgrow2.block k (hown2.lt k hk).2 (fun e => ownA_ne_ownI hown2 hint e.symm hk))
    replace rp := row_grown rp hgrow2 hup
    replace r1 := row_grown r1 hgrow2 hub
    replace hmq := mapIs_grown hmq hgrow2 hum
    replace hbut := hbut.grown hgrow2 (fun k hk _ => .inr (.inr (.inr (by rw [HU.out]; exact hk))))
    replace hint3 : OwnsI 0 Y3 (.slice (some ⟨g2, 0, none⟩) ((posL a.k a.i a.g l).length + 1) cap2) (posL a.k a.i a.g l ++ [l.length]) := by
      unfold OwnsI
      rw [List.map_append, List.length_append, HN.out]
      exact hint3
    have hat4 : U.ownBlock = some g2 ∨ w.heap.size ≤ g2 := hat3.imp id (fun h1 => by omega)
    refine hK.out _ _ ⟨rp.cell, r1.cell⟩ (fun hHeld => ?_)
    clear hK K hHeld hsrcI hint hgrow2 hat3
    have hes := run_entryStore_o HH.out.apart HH.out.born HH.out.nodup hmq (.slice (some ⟨g2, 0, none⟩) ((posL a.k a.i a.g l).length + 1) cap2)
    rw [show goInt (stampE a.k a.i a.g clk es) = .int .i64 (stampE a.k a.i a.g clk es : Int) from rfl] at hes
    refine wpAnyH_ready (rs := [12]) (by kernel_rfl) (by simp) ?_
    refine' AllReadyH.cons (o := _) ?_ (fun K hK => ?_) AllReadyH.nil
    rotate_left 1
    · (simp only [List.getElem?_toArray, List.getElem?_cons_succ, List.getElem?_cons_zero]; rfl)
    go_simp
    have hbm3 : bx ≠ m := row_ne_map r1 hmq
    have hpm3 : p ≠ m := row_ne_map rp hmq
    obtain ⟨MO, hMO⟩ : ∃ MO : Obj, MO = .map ((putE a.k a.i a.g (.slice (some ⟨g2, 0, none⟩) ((posL a.k a.i a.g l).length + 1) cap2) clk es).map En.me).toArray (putC a.k a.i a.g clk es) := ⟨_, rfl⟩
    have HMO := Lib.hid hMO
    rw [← hMO]
    replace rp := Row.setBlock (b := m) (o := MO) rp hpm3
    replace r1 := Row.setBlock (b := m) (o := MO) r1 hbm3
    replace hown2 : OwnsA 0 (setBlock Y3 m MO) _ _ := hown2.via (fun k hk => setBlock_heap k (fun e => ownA_ne_map hown2 hmq (by rw [← e]; exact hk)))
    replace hint3 : OwnsI 0 (setBlock Y3 m MO) _ _ := hint3.via (fun k hk => setBlock_heap k (fun e => ownI_ne_map hint3 hmq (by rw [← e]; exact hk)))
    replace hbut := hbut.setBlock (y := m) (.inr (.inr (.inl rfl))) MO
    have hmz : MapIs (setBlock Y3 m MO) m (putE a.k a.i a.g (.slice (some ⟨g2, 0, none⟩) ((posL a.k a.i a.g l).length + 1) cap2) clk es) (putC a.k a.i a.g clk es) := ⟨by rw [setBlock_at hmq.lt, ← HMO.out]⟩
    generalize setBlock Y3 m MO = Y4 at *
    clear hMO HMO hes hmq
    refine hK.out _ _ ⟨rp.cell, r1.cell⟩ (fun hHeld => ?_)
    clear hK K hHeld
    refine wpAnyH_done (by kernel_rfl) ?_ _
    have yp := rp.cell
    have zp := rp.lt
    go_wp2_with fail
    go_returns
    refine ⟨rfl, ⟨_, _, _, _, HH.out.add a ⟨HK.out, hg⟩ (by rw [HN.out]; have := HN2.out; omega) hbut.size rp hown2 hint3 hmz (fun b hb => ?_) (fun b hb => ?_) (fun e he hs b hb => ?_)⟩, hbut.wide (fun b hb => ?_)⟩
    · obtain rfl : g1 = b := Option.some.inj hb
      exact hat2.imp (fun h1 => HH.out.fv _ h1) id
    · obtain rfl : g2 = b := Option.some.inj hb
      rw [HU.out]
      exact hat4
    · exact HH.out.stay_ he hs hb hbut
    · exact HH.out.mine hb
  · go_simp
    have hn := below_alloc X0 (.cells (atC a) 43)
    have hsrc := at_src X0 a
    have ra := Row.new (W := X0) (cs := atC a) (t := 43)
    have hnewA : w.heap.size ≤ X0.heap.size := hc.size
    replace rp := rp.on hn
    replace r1 := r1.on hn
    replace hown := hown.on hn
    replace hint := hint.on hn
    replace hmp := hmp.on hn
    replace hc := chain hc hn
    replace hbut := hbut.on hn
    clear hn
    generalize X0.alloc (.cells (atC a) 43) = X1 at *
    generalize X0.heap.size = a2 at *
    have hX1 := hc.size
    refine hK.out _ _ r1.cell (fun hHeld => ?_)
    clear hK K hHeld
    have yp := rp.cell
    have zp := rp.lt
    refine wpAnyH_ready (rs := [4]) (by kernel_rfl) (by simp) ?_
    refine' AllReadyH.cons (o := _) ?_ (fun K hK => ?_) AllReadyH.nil
    rotate_left 1
    · (simp only [List.getElem?_toArray, List.getElem?_cons_succ, List.getElem?_cons_zero]; rfl)
    go_simp
    clear yp zp
    refine hK.out _ _ r1.cell (fun hHeld => ?_)
    clear hK K hHeld
    refine wpAnyH_ready (rs := [7]) (by kernel_rfl) (by simp) ?_
    refine' AllReadyH.cons (o := _) (by simp only [List.getElem?_toArray, List.getElem?_cons_succ, List.getElem?_cons_zero]; rfl) (fun K hK => ?_) AllReadyH.nil
    refine step_append_lies _ rfl (.tmp 12) (.tmp 14) 26 rfl 0 43 i0 (.agg #[.int .i64 0, .int .i64 0, .int .i64 0, .int .u32 0, .int .i64 0, .int .i64 0]) 6 48 Tryz.underlying26 HI0.out HZ0.out HZ1.out HZ2.out rfl (by decide) (.slice (some ⟨g, 0, none⟩) (N + 1) c0) (N + 1) (cellsA l) rfl (by have h9 := hown; unfold OwnsA at h9; rw [HN.out] at h9; exact h9) ⟨a2, 0, none⟩ 1 1 (atL a) rfl rfl hsrc (by intro u hu; simp at hu; rcases hu with rfl | rfl | rfl | rfl | rfl | rfl <;> rfl) (by omega) (by unfold maxLen; have := HN2.out; omega) (by have := HN2.out; omega) (Nat.zero_le _) _ rfl ?_
    intro g1 cap X2 hown2 hgrow hat hlt2
    have hvp : ((.slice (some ⟨g, 0, none⟩) (N + 1) c0) : Value).ownBlock ≠ some p := ownA_ne_row hown rp (by decide)
    have hvb : ((.slice (some ⟨g, 0, none⟩) (N + 1) c0) : Value).ownBlock ≠ some bx := fun e => by have := (HH.out.own.lt bx e).2; omega
    have hvm : ((.slice (some ⟨g, 0, none⟩) (N + 1) c0) : Value).ownBlock ≠ some m := ownA_ne_map hown hmp
    replace hint : OwnsI 0 X2 _ _ := hint.via (fun k hk => hgrow.block k (hint.lt k hk).2 (fun e => ownA_ne_ownI hown hint hk e.symm))
    replace rp := row_grown rp hgrow hvp
    replace r1 := row_grown r1 hgrow hvb
    replace hmp := mapIs_grown hmp hgrow hvm
    replace hbut := hbut.grown hgrow (fun k hk _ => .inr (.inl hk))
    replace hown2 : OwnsA 0 X2 (.slice (some ⟨g1, 0, none⟩) ((N + 1) + 1) cap) (l ++ [a]) := by
      unfold OwnsA
      rw [cellsA_snoc, List.length_append, List.length_singleton, HN.out]
      exact hown2
    refine hK.out _ _ r1.cell (fun hHeld => ?_)
    clear hK K hsrc hown ra
    refine' wpAnyH_take (i := 8) (oi := _) (v := _) ?_ (by kernel_rfl) (by kernel_rfl) (by kernel_rfl) ?_ (Or.inl ⟨?_, ?_⟩) (by assumption) ?_
    rotate_left 2
    · (simp only [List.getElem?_toArray, List.getElem?_cons_succ, List.getElem?_cons_zero]; rfl)
    · first | exact fun _ _ _ h => h | exact fun _ _ _ h => nomatch h.1
    · rfl
    · (intro W hSW; (try dsimp only at hSW); go_split_ands; first | (go_simp; done) | (go_simp; with_reducible rfl))
    try simp only [Act.put, List.setIfInBounds_toArray, List.set_cons_zero, List.set_cons_succ]
    refine' wpAnyH_take (i := 9) (oi := _) (v := _) ?_ (by kernel_rfl) (by kernel_rfl) (by kernel_rfl) ?_ (Or.inl ⟨?_, ?_⟩) (by assumption) ?_
    rotate_left 2
    · (simp only [List.getElem?_toArray, List.getElem?_cons_succ, List.getElem?_cons_zero]; rfl)
    · first | exact fun _ _ _ h => h | exact fun _ _ _ h => nomatch h.1
    · rfl
    · (intro W hSW; (try dsimp only at hSW); go_split_ands; first | (go_simp; done) | (go_simp; with_reducible rfl))
    try simp only [Act.put, List.setIfInBounds_toArray, List.set_cons_zero, List.set_cons_succ]
    clear hHeld
    have yp := rp.cell
    have zp := rp.lt
    have up := rp.free
    refine wpAnyH_ready (rs := [10]) (by kernel_rfl) (by simp) ?_
    refine' AllReadyH.cons (o := _) ?_ (fun K hK => ?_) AllReadyH.nil
    rotate_left 1
    · (simp only [List.getElem?_toArray, List.getElem?_cons_succ, List.getElem?_cons_zero]; rfl)
    go_simp
    clear yp zp up
    have hpb : p ≠ bx := row_ne_row rp r1 (by decide)
    have hpm : p ≠ m := row_ne_map rp hmp
    replace r1 := r1.other hpb 0 (.slice (some ⟨g1, 0, none⟩) ((N + 1) + 1) cap)
    replace hint : OwnsI 0 (X2.setCell ⟨p, 0, none⟩ (.slice (some ⟨g1, 0, none⟩) ((N + 1) + 1) cap)) _ _ := hint.via (fun k hk => Below.heap_setCell X2 _ _ k (fun e => ownI_ne_row hint rp (by decide) (by rw [show p = k from e.symm]; exact hk)))
    replace hown2 := ownA_setCell hown2 (ownA_ne_row hown2 rp (by decide)) 0 (.slice (some ⟨g1, 0, none⟩) ((N + 1) + 1) cap)
    replace hmp := hmp.other hpm 0 (.slice (some ⟨g1, 0, none⟩) ((N + 1) + 1) cap)
    replace hbut := hbut.setCell (y := p) (.inl rfl) 0 (.slice (some ⟨g1, 0, none⟩) ((N + 1) + 1) cap)
    replace rp := rp.set 0 (.slice (some ⟨g1, 0, none⟩) ((N + 1) + 1) cap)
    simp only [List.setIfInBounds_toArray, List.set_cons_zero, List.set_cons_succ] at rp
    generalize hW : World.setCell _ _ _ = X3 at *
    clear hW
    refine hK.out _ _ r1.cell (fun hHeld => ?_)
    clear hK K hHeld
    refine wpAnyH_done (by kernel_rfl) ?_ _
    have yp := rp.cell
    have zp := rp.lt
    have y1 := r1.cell
    have z1 := r1.lt
    go_wp2_with fail
    clear yp zp y1 z1
    clear hgrow hc
    have hat2 : (Value.ownBlock (.slice (some ⟨g, 0, none⟩) (N + 1) c0) = some g1) ∨ w.heap.size ≤ g1 := by exact hat.imp id (fun h1 => by omega)
    clear hat
    refine wp_region_held_drew (S := fun W' => (∀ j, W'.cell? ⟨p, j, none⟩ = (#[.slice (some ⟨g1, 0, none⟩) ((N + 1) + 1) cap, .map (some m)] : Array Value)[j]?) ∧ (∀ j, W'.cell? ⟨bx, j, none⟩ = (atC a)[j]?)) (by kernel_rfl) ⟨rp.cell, r1.cell⟩ (fun hHeld => ?_)
    replace rp := rp.drew
    replace r1 := r1.drew
    replace hbut := hbut.drew
    replace hown2 : OwnsA 0 X3.drew _ _ := hown2
    replace hint : OwnsI 0 X3.drew _ _ := hint
    replace hmp : MapIs X3.drew m es clk := ⟨hmp.eq⟩
    generalize X3.drew = Y0 at *
    refine' wpAnyH_take (i := 0) (oi := _) (v := _) ?_ (by kernel_rfl) (by kernel_rfl) (by kernel_rfl) ?_ (Or.inl ⟨?_, ?_⟩) (by assumption) ?_
    rotate_left 2
    · (simp only [List.getElem?_toArray, List.getElem?_cons_succ, List.getElem?_cons_zero]; rfl)
    · first | exact fun _ _ _ h => h | exact fun _ _ _ h => nomatch h.1
    · rfl
    · (intro W hSW; (try dsimp only at hSW); go_split_ands; first | (go_simp; done) | (go_simp; with_reducible rfl))
    try simp only [Act.put, List.setIfInBounds_toArray, List.set_cons_zero, List.set_cons_succ]
    refine' wpAnyH_take (i := 1) (oi := _) (v := _) ?_ (by kernel_rfl) (by kernel_rfl) (by kernel_rfl) ?_ (Or.inl ⟨?_, ?_⟩) (by assumption) ?_
    rotate_left 2
    · (simp only [List.getElem?_toArray, List.getElem?_cons_succ, List.getElem?_cons_zero]; rfl)
    · first | exact fun _ _ _ h => h | exact fun _ _ _ h => nomatch h.1
    · rfl
    · (intro W hSW; (try dsimp only at hSW); go_split_ands; first | (go_simp; done) | (go_simp; with_reducible rfl))
    try simp only [Act.put, List.setIfInBounds_toArray, List.set_cons_zero, List.set_cons_succ]
    refine' wpAnyH_take (i := 2) (oi := _) (v := _) ?_ (by kernel_rfl) (by kernel_rfl) (by kernel_rfl) ?_ (Or.inl ⟨?_, ?_⟩) (by assumption) ?_
    rotate_left 2
    · (simp only [List.getElem?_toArray, List.getElem?_cons_succ, List.getElem?_cons_zero]; rfl)
    · first | exact fun _ _ _ h => h | exact fun _ _ _ h => nomatch h.1
    · rfl
    · (intro W hSW; (try dsimp only at hSW); go_split_ands; first | (go_simp; done) | (go_simp; with_reducible rfl))
    try simp only [Act.put, List.setIfInBounds_toArray, List.set_cons_zero, List.set_cons_succ]
    refine' wpAnyH_take (i := 3) (oi := _) (v := _) ?_ (by kernel_rfl) (by kernel_rfl) (by kernel_rfl) ?_ (Or.inl ⟨?_, ?_⟩) (by assumption) ?_
    rotate_left 2
    · (simp only [List.getElem?_toArray, List.getElem?_cons_succ, List.getElem?_cons_zero]; rfl)
    · first | exact fun _ _ _ h => h | exact fun _ _ _ h => nomatch h.1
    · rfl
    · (intro W hSW; (try dsimp only at hSW); go_split_ands; first | (go_simp; done) | (go_simp; with_reducible rfl))
    try simp only [Act.put, List.setIfInBounds_toArray, List.set_cons_zero, List.set_cons_succ]
    refine' wpAnyH_take (i := 4) (oi := _) (v := _) ?_ (by kernel_rfl) (by kernel_rfl) (by kernel_rfl) ?_ (Or.inl ⟨?_, ?_⟩) (by assumption) ?_
    rotate_left 2
    · (simp only [List.getElem?_toArray, List.getElem?_cons_succ, List.getElem?_cons_zero]; rfl)
    · first | exact fun _ _ _ h => h | exact fun _ _ _ h => nomatch h.1
    · rfl
    · (intro W hSW; (try dsimp only at hSW); go_split_ands; first | (go_simp; done) | (go_simp; with_reducible rfl))
    try simp only [Act.put, List.setIfInBounds_toArray, List.set_cons_zero, List.set_cons_succ]
    refine' wpAnyH_take (i := 5) (oi := _) (v := _) ?_ (by kernel_rfl) (by kernel_rfl) (by kernel_rfl) ?_ (Or.inl ⟨?_, ?_⟩) (by assumption) ?_
    rotate_left 2
    · (simp only [List.getElem?_toArray, List.getElem?_cons_succ, List.getElem?_cons_zero]; rfl)
    · first | exact fun _ _ _ h => h | exact fun _ _ _ h => nomatch h.1
    · rfl
    · (intro W hSW; (try dsimp only at hSW); go_split_ands; first | (go_simp; done) | (go_simp; with_reducible rfl))
    try simp only [Act.put, List.setIfInBounds_toArray, List.set_cons_zero, List.set_cons_succ]
    refine' wpAnyH_take (i := 6) (oi := _) (v := _) ?_ (by kernel_rfl) (by kernel_rfl) (by kernel_rfl) ?_ (Or.inl ⟨?_, ?_⟩) (by assumption) ?_
    rotate_left 2
    · (simp only [List.getElem?_toArray, List.getElem?_cons_succ, List.getElem?_cons_zero]; rfl)
    · first | exact fun _ _ _ h => h | exact fun _ _ _ h => nomatch h.1
    · rfl
    · (intro W hSW; (try dsimp only at hSW); go_split_ands; first | (go_simp; done) | (go_simp; with_reducible rfl))
    try simp only [Act.put, List.setIfInBounds_toArray, List.set_cons_zero, List.set_cons_succ]
    clear hHeld
    obtain ⟨U, hU⟩ : ∃ U, atE a.k a.i a.g es = U := ⟨_, rfl⟩
    rw [hU] at hint
    have HU := Lib.hid hU
    have hPL : (posL a.k a.i a.g l).length ≤ 10000 := by rw [posL_len]; exact Nat.le_trans (ofL_len _ _ _ _) HH.out.len
    have HPL := Lib.hid hPL
    clear hPL
    refine wpAnyH_ready (rs := [7]) (by kernel_rfl) (by simp) ?_
    refine' AllReadyH.cons (o := _) ?_ (fun K hK => ?_) AllReadyH.nil
    rotate_left 1
    · (simp only [List.getElem?_toArray, List.getElem?_cons_succ, List.getElem?_cons_zero]; rfl)
    go_simp
    have hn := below_alloc Y0 (.cells #[.int .i64 ((N : Int) + 1)] 3)
    have hsrcI : ∀ (j : Nat) (u : Value), ([.int .i64 ((N : Int) + 1)] : List Value)[j]? = some u → (Y0.alloc (.cells #[.int .i64 ((N : Int) + 1)] 3)).cell? ((⟨Y0.heap.size, 0, none⟩ : Addr).add j) = some u := fun j u hj => by
      rw [add_off, Nat.zero_add, Row.cell (Row.new (W := Y0)) j]
      simpa using hj
    have hnewB : w.heap.size ≤ Y0.heap.size := hbut.size
    have ra := Row.new (W := Y0) (cs := #[.int .i64 ((N : Int) + 1)]) (t := 3)
    replace rp := rp.on hn
    replace r1 := r1.on hn
    replace hown2 := hown2.on hn
    replace hint := hint.on hn
    replace hmp := hmp.on hn
    replace hbut := hbut.on hn
    clear hn
    generalize Y0.alloc (.cells #[.int .i64 ((N : Int) + 1)] 3) = Y1 at *
    generalize Y0.heap.size = a3 at *
    refine hK.out _ _ ⟨rp.cell, r1.cell⟩ (fun hHeld => ?_)
    clear hK K
    clear hHeld
    have hme := run_mapEntry_o hmp HH.out.apart a.k a.i a.g
    rw [hU, show goInt (stampE a.k a.i a.g clk es) = .int .i64 (stampE a.k a.i a.g clk es : Int) from rfl] at hme
    clear hU
    refine wpAnyH_ready (rs := [8]) (by kernel_rfl) (by simp) ?_
    refine' AllReadyH.cons (o := _) ?_ (fun K hK => ?_) AllReadyH.nil
    rotate_left 1
    · (simp only [List.getElem?_toArray, List.getElem?_cons_succ, List.getElem?_cons_zero]; rfl)
    go_simp
    have ham : a3 ≠ m := row_ne_map ra hmp
    replace hsrcI : ∀ (j : Nat) (u : Value), ([.int .i64 ((N : Int) + 1)] : List Value)[j]? = some u → (setBlock Y1 m (.map ((putE a.k a.i a.g U clk es).map En.me).toArray (putC a.k a.i a.g clk es))).cell? ((⟨a3, 0, none⟩ : Addr).add j) = some u := fun j u hj => by
      rw [← hsrcI j u hj, add_off]
      simp only [World.cell?, setBlock_heap a3 ham]
    have hbm : bx ≠ m := row_ne_map r1 hmp
    have hpm2 : p ≠ m := row_ne_map rp hmp
    replace rp := Row.setBlock (b := m) (o := .map ((putE a.k a.i a.g U clk es).map En.me).toArray (putC a.k a.i a.g clk es)) rp hpm2
    replace r1 := Row.setBlock (b := m) (o := .map ((putE a.k a.i a.g U clk es).map En.me).toArray (putC a.k a.i a.g clk es)) r1 hbm
    replace hown2 : OwnsA 0 (setBlock Y1 m (.map ((putE a.k a.i a.g U clk es).map En.me).toArray (putC a.k a.i a.g clk es))) _ _ := hown2.via (fun k hk => setBlock_heap k (fun e => ownA_ne_map hown2 hmp (by rw [← e]; exact hk)))
    replace hint : OwnsI 0 (setBlock Y1 m (.map ((putE a.k a.i a.g U clk es).map En.me).toArray (putC a.k a.i a.g clk es))) _ _ := hint.via (fun k hk => setBlock_heap k (fun e => ownI_ne_map hint hmp (by rw [← e]; exact hk)))
    replace hbut := hbut.setBlock (y := m) (.inr (.inr (.inl rfl))) (.map ((putE a.k a.i a.g U clk es).map En.me).toArray (putC a.k a.i a.g clk es))
    have hmq : MapIs (setBlock Y1 m (.map ((putE a.k a.i a.g U clk es).map En.me).toArray (putC a.k a.i a.g clk es))) m (putE a.k a.i a.g U clk es) (putC a.k a.i a.g clk es) := ⟨setBlock_at hmp.lt⟩
    generalize setBlock Y1 m (.map ((putE a.k a.i a.g U clk es).map En.me).toArray (putC a.k a.i a.g clk es)) = Y2 at *
    clear hme hmp
    refine hK.out _ _ ⟨rp.cell, r1.cell⟩ (fun hHeld => ?_)
    clear hK K
    refine' wpAnyH_take (i := 9) (oi := _) (v := _) ?_ (by kernel_rfl) (by kernel_rfl) (by kernel_rfl) ?_ (Or.inl ⟨?_, ?_⟩) (by assumption) ?_
    rotate_left 2
    · (simp only [List.getElem?_toArray, List.getElem?_cons_succ, List.getElem?_cons_zero]; rfl)
    · first | exact fun _ _ _ h => h | exact fun _ _ _ h => nomatch h.1
    · rfl
    · (intro W hSW; (try dsimp only at hSW); go_split_ands; first | (go_simp; done) | (go_simp; with_reducible rfl))
    try simp only [Act.put, List.setIfInBounds_toArray, List.set_cons_zero, List.set_cons_succ]
    refine' wpAnyH_take (i := 11) (oi := _) (v := _) ?_ (by kernel_rfl) (by kernel_rfl) (by kernel_rfl) ?_ (Or.inl ⟨?_, ?_⟩) (by assumption) ?_
    rotate_left 2
    · (simp only [List.getElem?_toArray, List.getElem?_cons_succ, List.getElem?_cons_zero]; rfl)
    · first | exact fun _ _ _ h => h | exact fun _ _ _ h => nomatch h.1
    · rfl
    · (intro W hSW; (try dsimp only at hSW); go_split_ands; first | (go_simp; done) | (go_simp; with_reducible rfl))
    try simp only [Act.put, List.setIfInBounds_toArray, List.set_cons_zero, List.set_cons_succ]
    clear hHeld
    refine wpAnyH_ready (rs := [10]) (by kernel_rfl) (by simp) ?_
    refine' AllReadyH.cons (o := _) (by simp only [List.getElem?_toArray, List.getElem?_cons_succ, List.getElem?_cons_zero]; rfl) (fun K hK => ?_) AllReadyH.nil
    refine step_append_lies _ rfl (.tmp 24) (.tmp 26) 108 rfl 0 3 i1 (.int .i64 0) 1 8 Tryz.underlying108 JI0.out JZ0.out JZ1.out JZ2.out rfl (by decide) U (posL a.k a.i a.g l).length ((posL a.k a.i a.g l).map fun (n : Nat) => Value.int .i64 n) rfl hint ⟨a3, 0, none⟩ 1 1 [.int .i64 ((N : Int) + 1)] rfl rfl hsrcI (by intro u hu; simp at hu; subst hu; rfl) (by omega) (by have := HPL.out; unfold maxLen; omega) (by have := HPL.out; omega) (Nat.zero_le _) _ rfl ?_
    intro g2 cap2 Y3 hint3 hgrow2 hat3 hlt3
    have hup : U.ownBlock ≠ some p := ownI_ne_row hint rp (by decide)
    have hub : U.ownBlock ≠ some bx := ownI_ne_row hint r1 (by decide)
    have hum : U.ownBlock ≠ some m := ownI_ne_map hint hmq
    have hY2 := hbut.size
    replace hown2 : OwnsA 0 Y3 _ _ := hown2.via (fun k hk => hgrow2.block k (hown2.lt k hk).2 (fun e => ownA_ne_ownI hown2 hint e.symm hk))
    replace rp := row_grown rp hgrow2 hup
    replace r1 := row_grown r1 hgrow2 hub
    replace hmq := mapIs_grown hmq hgrow2 hum
    replace hbut := hbut.grown hgrow2 (fun k hk _ => .inr (.inr (.inr (by rw [HU.out]; exact hk))))
    replace hint3 : OwnsI 0 Y3 (.slice (some ⟨g2, 0, none⟩) ((posL a.k a.i a.g l).length + 1) cap2) (posL a.k a.i a.g l ++ [l.length]) := by
      unfold OwnsI
      rw [List.map_append, List.length_append, HN.out]
      exact hint3
    have hat4 : U.ownBlock = some g2 ∨ w.heap.size ≤ g2 := hat3.imp id (fun h1 => by omega)
    refine hK.out _ _ ⟨rp.cell, r1.cell⟩ (fun hHeld => ?_)
    clear hK K hHeld hsrcI hint hgrow2 hat3
    have hes := run_entryStore_o HH.out.apart HH.out.born HH.out.nodup hmq (.slice (some ⟨g2, 0, none⟩) ((posL a.k a.i a.g l).length + 1) cap2)
    rw [show goInt (stampE a.k a.i a.g clk es) = .int .i64 (stampE a.k a.i a.g clk es : Int) from rfl] at hes
    refine wpAnyH_ready (rs := [12]) (by kernel_rfl) (by simp) ?_
    refine' AllReadyH.cons (o := _) ?_ (fun K hK => ?_) AllReadyH.nil
    rotate_left 1
    · (simp only [List.getElem?_toArray, List.getElem?_cons_succ, List.getElem?_cons_zero]; rfl)
    go_simp
    have hbm3 : bx ≠ m := row_ne_map r1 hmq
    have hpm3 : p ≠ m := row_ne_map rp hmq
    obtain ⟨MO, hMO⟩ : ∃ MO : Obj, MO = .map ((putE a.k a.i a.g (.slice (some ⟨g2, 0, none⟩) ((posL a.k a.i a.g l).length + 1) cap2) clk es).map En.me).toArray (putC a.k a.i a.g clk es) := ⟨_, rfl⟩
    have HMO := Lib.hid hMO
    rw [← hMO]
    replace rp := Row.setBlock (b := m) (o := MO) rp hpm3
    replace r1 := Row.setBlock (b := m) (o := MO) r1 hbm3
    replace hown2 : OwnsA 0 (setBlock Y3 m MO) _ _ := hown2.via (fun k hk => setBlock_heap k (fun e => ownA_ne_map hown2 hmq (by rw [← e]; exact hk)))
    replace hint3 : OwnsI 0 (setBlock Y3 m MO) _ _ := hint3.via (fun k hk => setBlock_heap k (fun e => ownI_ne_map hint3 hmq (by rw [← e]; exact hk)))
    replace hbut := hbut.setBlock (y := m) (.inr (.inr (.inl rfl))) MO
    have hmz : MapIs (setBlock Y3 m MO) m (putE a.k a.i a.g (.slice (some ⟨g2, 0, none⟩) ((posL a.k a.i a.g l).length + 1) cap2) clk es) (putC a.k a.i a.g clk es) := ⟨by rw [setBlock_at hmq.lt, ← HMO.out]⟩
    generalize setBlock Y3 m MO = Y4 at *
    clear hMO HMO hes hmq
    refine hK.out _ _ ⟨rp.cell, r1.cell⟩ (fun hHeld => ?_)
    clear hK K hHeld
    refine wpAnyH_done (by kernel_rfl) ?_ _
    have yp := rp.cell
    have zp := rp.lt
    go_wp2_with fail
    go_returns
    refine ⟨rfl, ⟨_, _, _, _, HH.out.add a ⟨HK.out, hg⟩ (by rw [HN.out]; have := HN2.out; omega) hbut.size rp hown2 hint3 hmz (fun b hb => ?_) (fun b hb => ?_) (fun e he hs b hb => ?_)⟩, hbut.wide (fun b hb => ?_)⟩
    · obtain rfl : g1 = b := Option.some.inj hb
      exact hat2.imp (fun h1 => HH.out.fv _ h1) id
    · obtain rfl : g2 = b := Option.some.inj hb
      rw [HU.out]
      exact hat4
    · exact HH.out.stay_ he hs hb hbut
    · exact HH.out.mine hb
theorem ladd_ok0 {F : Nat → Prop} {p : Nat} {l : List AtR} {v : Value} {m : Nat} {es : List En} {clk : Nat} (a : AtR) (hg : gIn a) (w : World) (h : LedIs w F p l v m es clk) (hk : aOk a = true) (hl0 : l = []) :
    Calls Tryz.prog 32 #[ledP p, atV a] w fun e w' => e = .returned (.int .i64 0) ∧ Led w' (fun b => F b ∨ FreshL w w' b) p (l ++ [a]) ∧ But F w w' := by
  have HK := Lib.hid hk
  obtain ⟨i0, hi, hz0, hz1, hz2⟩ := info_parts at_info
  have HI0 := Lib.hid hi
  have HZ0 := Lib.hid hz0
  have HZ1 := Lib.hid hz1
  have HZ2 := Lib.hid hz2
  clear hi hz0 hz1 hz2
  obtain ⟨i1, hi, hz0, hz1, hz2⟩ := info_parts int_infoL
  have JI0 := Lib.hid hi
  have JZ0 := Lib.hid hz0
  have JZ1 := Lib.hid hz1
  have JZ2 := Lib.hid hz2
  clear hi hz0 hz1 hz2
  have HH := Lib.hid h
  obtain ⟨a0, c0, hv0⟩ := h.own.holds.len
  subst hv0
  have cc := fun W => acheck_c a hg W
  rw [aErr_ok hk] at cc
  have CC := Lib.hid cc
  have rp := h.row
  have hlen0 : l.length = 0 := by rw [hl0]; rfl
  rw [hlen0] at rp
  have h2 := h
  rw [hlen0] at h2
  clear HH
  have HH := Lib.hid h2
  clear h2
  have HN := Lib.hid hlen0
  clear hlen0 hl0
  clear hk
  clear cc h
  go_enter Tryz.func32, Tryz.ntmps32
  go_upto_region 1 with fail
  have hb := below_alloc w (.cells (atC a) 43)
  have r1 := Row.new (W := w) (cs := atC a) (t := 43)
  replace rp := rp.on hb
  have hc := hb
  clear hb
  generalize w.alloc (.cells (atC a) 43) = V at *
  generalize hbx : w.heap.size = bx at r1 ⊢
  have yp := rp.cell
  have zp := rp.lt
  have y1 := r1.cell
  have z1 := r1.lt
  go_wp2_with fail
  refine Calls.mono (llen_c rp) ?_
  rintro e V1 ⟨rfl, hW⟩
  subst hW
  go_wp2_with fail
  refine Calls.mono (lmade_c rp) ?_
  rintro e V1 ⟨rfl, hW⟩
  subst hW
  go_wp2_with fail
  refine Calls.mono (CC.out _) ?_
  rintro e V2 ⟨rfl, hn⟩
  clear yp zp y1 z1 CC
  replace rp := rp.on hn
  replace r1 := r1.on hn
  replace hc := chain hc hn
  clear hn
  have yp := rp.cell
  have zp := rp.lt
  have y1 := r1.cell
  have z1 := r1.lt
  go_upto_region 8 with fail
  clear yp zp y1 z1
  refine wp_region_held_drew (S := fun W' => (∀ j, W'.cell? ⟨p, j, none⟩ = (#[.slice a0 0 c0, .map (some m)] : Array Value)[j]?) ∧ (∀ j, W'.cell? ⟨bx, j, none⟩ = (atC a)[j]?)) (by kernel_rfl) ⟨rp.cell, r1.cell⟩ (fun hHeld => ?_)
  replace rp := rp.drew
  replace r1 := r1.drew
  replace hc := hc.drew
  generalize V2.drew = V3 at *
  refine' wpAnyH_take (i := 0) (oi := _) (v := _) ?_ (by kernel_rfl) (by kernel_rfl) (by kernel_rfl) ?_ (Or.inl ⟨?_, ?_⟩) (by assumption) ?_
  rotate_left 2
  · (simp only [List.getElem?_toArray, List.getElem?_cons_succ, List.getElem?_cons_zero]; rfl)
  · first | exact fun _ _ _ h => h | exact fun _ _ _ h => nomatch h.1
  · rfl
  · (intro W hSW; (try dsimp only at hSW); go_split_ands; first | (go_simp; done) | (go_simp; with_reducible rfl))
  try simp only [Act.put, List.setIfInBounds_toArray, List.set_cons_zero, List.set_cons_succ]
  refine' wpAnyH_take (i := 1) (oi := _) (v := _) ?_ (by kernel_rfl) (by kernel_rfl) (by kernel_rfl) ?_ (Or.inl ⟨?_, ?_⟩) (by assumption) ?_
  rotate_left 2
  · (simp only [List.getElem?_toArray, List.getElem?_cons_succ, List.getElem?_cons_zero]; rfl)
  · first | exact fun _ _ _ h => h | exact fun _ _ _ h => nomatch h.1
  · rfl
  · (intro W hSW; (try dsimp only at hSW); go_split_ands; first | (go_simp; done) | (go_simp; with_reducible rfl))
  try simp only [Act.put, List.setIfInBounds_toArray, List.set_cons_zero, List.set_cons_succ]
  refine' wpAnyH_take (i := 2) (oi := _) (v := _) ?_ (by kernel_rfl) (by kernel_rfl) (by kernel_rfl) ?_ (Or.inl ⟨?_, ?_⟩) (by assumption) ?_
  rotate_left 2
  · (simp only [List.getElem?_toArray, List.getElem?_cons_succ, List.getElem?_cons_zero]; rfl)
  · first | exact fun _ _ _ h => h | exact fun _ _ _ h => nomatch h.1
  · rfl
  · (intro W hSW; (try dsimp only at hSW); go_split_ands; first | (go_simp; done) | (go_simp; with_reducible rfl))
  try simp only [Act.put, List.setIfInBounds_toArray, List.set_cons_zero, List.set_cons_succ]
  refine' wpAnyH_take (i := 3) (oi := _) (v := _) ?_ (by kernel_rfl) (by kernel_rfl) (by kernel_rfl) ?_ (Or.inr ⟨?_, rfl⟩) (by assumption) ?_
  rotate_left 1
  · (simp only [List.getElem?_toArray, List.getElem?_cons_succ, List.getElem?_cons_zero]; rfl)
  · first | exact fun _ _ _ h => h | exact fun _ _ _ h => nomatch h.1
  · rfl
  try simp only [Act.put, List.setIfInBounds_toArray, List.set_cons_zero, List.set_cons_succ]
  refine' wpAnyH_take (i := 4) (oi := _) (v := _) ?_ (by kernel_rfl) (by kernel_rfl) (by kernel_rfl) ?_ (Or.inr ⟨?_, rfl⟩) (by assumption) ?_
  rotate_left 1
  · (simp only [List.getElem?_toArray, List.getElem?_cons_succ, List.getElem?_cons_zero]; rfl)
  · first | exact fun _ _ _ h => h | exact fun _ _ _ h => nomatch h.1
  · rfl
  try simp only [Act.put, List.setIfInBounds_toArray, List.set_cons_zero, List.set_cons_succ]
  refine' wpAnyH_take (i := 5) (oi := _) (v := _) ?_ (by kernel_rfl) (by kernel_rfl) (by kernel_rfl) ?_ (Or.inr ⟨?_, rfl⟩) (by assumption) ?_
  rotate_left 1
  · (simp only [List.getElem?_toArray, List.getElem?_cons_succ, List.getElem?_cons_zero]; rfl)
  · first | exact fun _ _ _ h => h | exact fun _ _ _ h => nomatch h.1
  · rfl
  try simp only [Act.put, List.setIfInBounds_toArray, List.set_cons_zero, List.set_cons_succ]
  refine' wpAnyH_take (i := 6) (oi := _) (v := _) ?_ (by kernel_rfl) (by kernel_rfl) (by kernel_rfl) ?_ (Or.inr ⟨?_, rfl⟩) (by assumption) ?_
  rotate_left 1
  · (simp only [List.getElem?_toArray, List.getElem?_cons_succ, List.getElem?_cons_zero]; rfl)
  · first | exact fun _ _ _ h => h | exact fun _ _ _ h => nomatch h.1
  · rfl
  try simp only [Act.put, List.setIfInBounds_toArray, List.set_cons_zero, List.set_cons_succ]
  refine' wpAnyH_take (i := 7) (oi := _) (v := _) ?_ (by kernel_rfl) (by kernel_rfl) (by kernel_rfl) ?_ (Or.inr ⟨?_, rfl⟩) (by assumption) ?_
  rotate_left 1
  · (simp only [List.getElem?_toArray, List.getElem?_cons_succ, List.getElem?_cons_zero]; rfl)
  · first | exact fun _ _ _ h => h | exact fun _ _ _ h => nomatch h.1
  · rfl
  try simp only [Act.put, List.setIfInBounds_toArray, List.set_cons_zero, List.set_cons_succ]
  refine' wpAnyH_take (i := 8) (oi := _) (v := _) ?_ (by kernel_rfl) (by kernel_rfl) (by kernel_rfl) ?_ (Or.inr ⟨?_, rfl⟩) (by assumption) ?_
  rotate_left 1
  · (simp only [List.getElem?_toArray, List.getElem?_cons_succ, List.getElem?_cons_zero]; rfl)
  · first | exact fun _ _ _ h => h | exact fun _ _ _ h => nomatch h.1
  · rfl
  try simp only [Act.put, List.setIfInBounds_toArray, List.set_cons_zero, List.set_cons_succ]
  refine' wpAnyH_take (i := 9) (oi := _) (v := _) ?_ (by kernel_rfl) (by kernel_rfl) (by kernel_rfl) ?_ (Or.inr ⟨?_, rfl⟩) (by assumption) ?_
  rotate_left 1
  · (simp only [List.getElem?_toArray, List.getElem?_cons_succ, List.getElem?_cons_zero]; rfl)
  · first | exact fun _ _ _ h => h | exact fun _ _ _ h => nomatch h.1
  · rfl
  try simp only [Act.put, List.setIfInBounds_toArray, List.set_cons_zero, List.set_cons_succ]
  refine' wpAnyH_take (i := 10) (oi := _) (v := _) ?_ (by kernel_rfl) (by kernel_rfl) (by kernel_rfl) ?_ (Or.inr ⟨?_, rfl⟩) (by assumption) ?_
  rotate_left 1
  · (simp only [List.getElem?_toArray, List.getElem?_cons_succ, List.getElem?_cons_zero]; rfl)
  · first | exact fun _ _ _ h => h | exact fun _ _ _ h => nomatch h.1
  · rfl
  try simp only [Act.put, List.setIfInBounds_toArray, List.set_cons_zero, List.set_cons_succ]
  refine' wpAnyH_take (i := 11) (oi := _) (v := _) ?_ (by kernel_rfl) (by kernel_rfl) (by kernel_rfl) ?_ (Or.inr ⟨?_, rfl⟩) (by assumption) ?_
  rotate_left 1
  · (simp only [List.getElem?_toArray, List.getElem?_cons_succ, List.getElem?_cons_zero]; rfl)
  · first | exact fun _ _ _ h => h | exact fun _ _ _ h => nomatch h.1
  · rfl
  try simp only [Act.put, List.setIfInBounds_toArray, List.set_cons_zero, List.set_cons_succ]
  refine' wpAnyH_take (i := 12) (oi := _) (v := _) ?_ (by kernel_rfl) (by kernel_rfl) (by kernel_rfl) ?_ (Or.inr ⟨?_, rfl⟩) (by assumption) ?_
  rotate_left 1
  · (simp only [List.getElem?_toArray, List.getElem?_cons_succ, List.getElem?_cons_zero]; rfl)
  · first | exact fun _ _ _ h => h | exact fun _ _ _ h => nomatch h.1
  · rfl
  try simp only [Act.put, List.setIfInBounds_toArray, List.set_cons_zero, List.set_cons_succ]
  refine' wpAnyH_take (i := 13) (oi := _) (v := _) ?_ (by kernel_rfl) (by kernel_rfl) (by kernel_rfl) ?_ (Or.inr ⟨?_, rfl⟩) (by assumption) ?_
  rotate_left 1
  · (simp only [List.getElem?_toArray, List.getElem?_cons_succ, List.getElem?_cons_zero]; rfl)
  · first | exact fun _ _ _ h => h | exact fun _ _ _ h => nomatch h.1
  · rfl
  try simp only [Act.put, List.setIfInBounds_toArray, List.set_cons_zero, List.set_cons_succ]
  refine' wpAnyH_take (i := 14) (oi := _) (v := _) ?_ (by kernel_rfl) (by kernel_rfl) (by kernel_rfl) ?_ (Or.inr ⟨?_, rfl⟩) (by assumption) ?_
  rotate_left 1
  · (simp only [List.getElem?_toArray, List.getElem?_cons_succ, List.getElem?_cons_zero]; rfl)
  · first | exact fun _ _ _ h => h | exact fun _ _ _ h => nomatch h.1
  · rfl
  try simp only [Act.put, List.setIfInBounds_toArray, List.set_cons_zero, List.set_cons_succ]
  refine' wpAnyH_take (i := 15) (oi := _) (v := _) ?_ (by kernel_rfl) (by kernel_rfl) (by kernel_rfl) ?_ (Or.inl ⟨?_, ?_⟩) (by assumption) ?_
  rotate_left 2
  · (simp only [List.getElem?_toArray, List.getElem?_cons_succ, List.getElem?_cons_zero]; rfl)
  · first | exact fun _ _ _ h => h | exact fun _ _ _ h => nomatch h.1
  · rfl
  · (intro W hSW; (try dsimp only at hSW); go_split_ands; first | (go_simp; done) | (go_simp; with_reducible rfl))
  try simp only [Act.put, List.setIfInBounds_toArray, List.set_cons_zero, List.set_cons_succ]
  refine' wpAnyH_take (i := 16) (oi := _) (v := _) ?_ (by kernel_rfl) (by kernel_rfl) (by kernel_rfl) ?_ (Or.inl ⟨?_, ?_⟩) (by assumption) ?_
  rotate_left 2
  · (simp only [List.getElem?_toArray, List.getElem?_cons_succ, List.getElem?_cons_zero]; rfl)
  · first | exact fun _ _ _ h => h | exact fun _ _ _ h => nomatch h.1
  · rfl
  · (intro W hSW; (try dsimp only at hSW); go_split_ands; first | (go_simp; done) | (go_simp; with_reducible rfl))
  try simp only [Act.put, List.setIfInBounds_toArray, List.set_cons_zero, List.set_cons_succ]
  clear hHeld
  refine wpAnyH_done (by kernel_rfl) ?_ _
  have yp := rp.cell
  have zp := rp.lt
  have y1 := r1.cell
  have z1 := r1.lt
  go_wp2_with fail
  clear yp zp y1 z1
  have hL := HH.out.on hc
  have hown := hL.own
  have hbut := but_of (fun b => b = p ∨ Value.ownBlock (.slice a0 0 c0) = some b ∨ b = m ∨ (atE a.k a.i a.g es).ownBlock = some b) hc
  replace hL := hL
  have hmp := hL.mp
  obtain ⟨hint, hatF⟩ := hL.at_ a.k a.i a.g
  refine wp_region_held_drew (S := fun W' => (∀ j, W'.cell? ⟨bx, j, none⟩ = (atC a)[j]?)) (by kernel_rfl) r1.cell (fun hHeld => ?_)
  replace rp := rp.drew
  replace r1 := r1.drew
  replace hc := hc.drew
  replace hbut := hbut.drew
  replace hown : OwnsA 0 V3.drew _ l := hown
  replace hint : OwnsI 0 V3.drew _ _ := hint
  replace hmp : MapIs V3.drew m es clk := ⟨hmp.eq⟩
  clear hL
  generalize V3.drew = X0 at *
  refine' wpAnyH_take (i := 0) (oi := _) (v := _) ?_ (by kernel_rfl) (by kernel_rfl) (by kernel_rfl) ?_ (Or.inl ⟨?_, ?_⟩) (by assumption) ?_
  rotate_left 2
  · (simp only [List.getElem?_toArray, List.getElem?_cons_succ, List.getElem?_cons_zero]; rfl)
  · first | exact fun _ _ _ h => h | exact fun _ _ _ h => nomatch h.1
  · rfl
  · (intro W hSW; (try dsimp only at hSW); go_split_ands; first | (go_simp; done) | (go_simp; with_reducible rfl))
  try simp only [Act.put, List.setIfInBounds_toArray, List.set_cons_zero, List.set_cons_succ]
  refine' wpAnyH_take (i := 1) (oi := _) (v := _) ?_ (by kernel_rfl) (by kernel_rfl) (by kernel_rfl) ?_ (Or.inl ⟨?_, ?_⟩) (by assumption) ?_
  rotate_left 2
  · (simp only [List.getElem?_toArray, List.getElem?_cons_succ, List.getElem?_cons_zero]; rfl)
  · first | exact fun _ _ _ h => h | exact fun _ _ _ h => nomatch h.1
  · rfl
  · (intro W hSW; (try dsimp only at hSW); go_split_ands; first | (go_simp; done) | (go_simp; with_reducible rfl))
  try simp only [Act.put, List.setIfInBounds_toArray, List.set_cons_zero, List.set_cons_succ]
  refine' wpAnyH_take (i := 2) (oi := _) (v := _) ?_ (by kernel_rfl) (by kernel_rfl) (by kernel_rfl) ?_ (Or.inl ⟨?_, ?_⟩) (by assumption) ?_
  rotate_left 2
  · (simp only [List.getElem?_toArray, List.getElem?_cons_succ, List.getElem?_cons_zero]; rfl)
  · first | exact fun _ _ _ h => h | exact fun _ _ _ h => nomatch h.1
  · rfl
  · (intro W hSW; (try dsimp only at hSW); go_split_ands; first | (go_simp; done) | (go_simp; with_reducible rfl))
  try simp only [Act.put, List.setIfInBounds_toArray, List.set_cons_zero, List.set_cons_succ]
  refine' wpAnyH_take (i := 3) (oi := _) (v := _) ?_ (by kernel_rfl) (by kernel_rfl) (by kernel_rfl) ?_ (Or.inl ⟨?_, ?_⟩) (by assumption) ?_
  rotate_left 2
  · (simp only [List.getElem?_toArray, List.getElem?_cons_succ, List.getElem?_cons_zero]; rfl)
  · first | exact fun _ _ _ h => h | exact fun _ _ _ h => nomatch h.1
  · rfl
  · (intro W hSW; (try dsimp only at hSW); go_split_ands; first | (go_simp; done) | (go_simp; with_reducible rfl))
  try simp only [Act.put, List.setIfInBounds_toArray, List.set_cons_zero, List.set_cons_succ]
  refine' wpAnyH_take (i := 5) (oi := _) (v := _) ?_ (by kernel_rfl) (by kernel_rfl) (by kernel_rfl) ?_ (Or.inl ⟨?_, ?_⟩) (by assumption) ?_
  rotate_left 2
  · (simp only [List.getElem?_toArray, List.getElem?_cons_succ, List.getElem?_cons_zero]; rfl)
  · first | exact fun _ _ _ h => h | exact fun _ _ _ h => nomatch h.1
  · rfl
  · (intro W hSW; (try dsimp only at hSW); go_split_ands; first | (go_simp; done) | (go_simp; with_reducible rfl))
  try simp only [Act.put, List.setIfInBounds_toArray, List.set_cons_zero, List.set_cons_succ]
  clear hHeld
  refine wpAnyH_ready (rs := [4, 6]) (by kernel_rfl) (by simp) ?_
  refine' AllReadyH.cons (o := _) (by simp only [List.getElem?_toArray, List.getElem?_cons_succ, List.getElem?_cons_zero]; rfl) (fun K hK => ?_) (AllReadyH.cons (o := _) (by simp only [List.getElem?_toArray, List.getElem?_cons_succ, List.getElem?_cons_zero]; rfl) (fun K hK => ?_) AllReadyH.nil)
  · have yp := rp.cell
    have zp := rp.lt
    go_simp
    clear yp zp
    refine hK.out _ _ r1.cell (fun hHeld => ?_)
    clear hK K hHeld
    refine wpAnyH_ready (rs := [6]) (by kernel_rfl) (by simp) ?_
    refine' AllReadyH.cons (o := _) ?_ (fun K hK => ?_) AllReadyH.nil
    rotate_left 1
    · (simp only [List.getElem?_toArray, List.getElem?_cons_succ, List.getElem?_cons_zero]; rfl)
    go_simp
    have hn := below_alloc X0 (.cells (atC a) 43)
    have hsrc := at_src X0 a
    have ra := Row.new (W := X0) (cs := atC a) (t := 43)
    have hnewA : w.heap.size ≤ X0.heap.size := hc.size
    replace rp := rp.on hn
    replace r1 := r1.on hn
    replace hown := hown.on hn
    replace hint := hint.on hn
    replace hmp := hmp.on hn
    replace hc := chain hc hn
    replace hbut := hbut.on hn
    clear hn
    generalize X0.alloc (.cells (atC a) 43) = X1 at *
    generalize X0.heap.size = a2 at *
    have hX1 := hc.size
    refine hK.out _ _ r1.cell (fun hHeld => ?_)
    clear hK K hHeld
    refine wpAnyH_ready (rs := [7]) (by kernel_rfl) (by simp) ?_
    refine' AllReadyH.cons (o := _) (by simp only [List.getElem?_toArray, List.getElem?_cons_succ, List.getElem?_cons_zero]; rfl) (fun K hK => ?_) AllReadyH.nil
    refine step_append_lies _ rfl (.tmp 12) (.tmp 14) 26 rfl 0 43 i0 (.agg #[.int .i64 0, .int .i64 0, .int .i64 0, .int .u32 0, .int .i64 0, .int .i64 0]) 6 48 Tryz.underlying26 HI0.out HZ0.out HZ1.out HZ2.out rfl (by decide) (.slice a0 0 c0) 0 (cellsA l) rfl (by have h9 := hown; unfold OwnsA at h9; rw [HN.out] at h9; exact h9) ⟨a2, 0, none⟩ 1 1 (atL a) rfl rfl hsrc (by intro u hu; simp at hu; rcases hu with rfl | rfl | rfl | rfl | rfl | rfl <;> rfl) (by omega) (by unfold maxLen;  omega) (by  omega) (Nat.zero_le _) _ rfl ?_
    intro g1 cap X2 hown2 hgrow hat hlt2
    have hvp : ((.slice a0 0 c0) : Value).ownBlock ≠ some p := ownA_ne_row hown rp (by decide)
    have hvb : ((.slice a0 0 c0) : Value).ownBlock ≠ some bx := fun e => by have := (HH.out.own.lt bx e).2; omega
    have hvm : ((.slice a0 0 c0) : Value).ownBlock ≠ some m := ownA_ne_map hown hmp
    replace hint : OwnsI 0 X2 _ _ := hint.via (fun k hk => hgrow.block k (hint.lt k hk).2 (fun e => ownA_ne_ownI hown hint hk e.symm))
    replace rp := row_grown rp hgrow hvp
    replace r1 := row_grown r1 hgrow hvb
    replace hmp := mapIs_grown hmp hgrow hvm
    replace hbut := hbut.grown hgrow (fun k hk _ => .inr (.inl hk))
    replace hown2 : OwnsA 0 X2 (.slice (some ⟨g1, 0, none⟩) (0 + 1) cap) (l ++ [a]) := by
      unfold OwnsA
      rw [cellsA_snoc, List.length_append, List.length_singleton, HN.out]
      exact hown2
    refine hK.out _ _ r1.cell (fun hHeld => ?_)
    clear hK K hsrc hown ra
    refine' wpAnyH_take (i := 8) (oi := _) (v := _) ?_ (by kernel_rfl) (by kernel_rfl) (by kernel_rfl) ?_ (Or.inl ⟨?_, ?_⟩) (by assumption) ?_
    rotate_left 2
    · (simp only [List.getElem?_toArray, List.getElem?_cons_succ, List.getElem?_cons_zero]; rfl)
    · first | exact fun _ _ _ h => h | exact fun _ _ _ h => nomatch h.1
    · rfl
    · (intro W hSW; (try dsimp only at hSW); go_split_ands; first | (go_simp; done) | (go_simp; with_reducible rfl))
    try simp only [Act.put, List.setIfInBounds_toArray, List.set_cons_zero, List.set_cons_succ]
    refine' wpAnyH_take (i := 9) (oi := _) (v := _) ?_ (by kernel_rfl) (by kernel_rfl) (by kernel_rfl) ?_ (Or.inl ⟨?_, ?_⟩) (by assumption) ?_
    rotate_left 2
    · (simp only [List.getElem?_toArray, List.getElem?_cons_succ, List.getElem?_cons_zero]; rfl)
    · first | exact fun _ _ _ h => h | exact fun _ _ _ h => nomatch h.1
    · rfl
    · (intro W hSW; (try dsimp only at hSW); go_split_ands; first | (go_simp; done) | (go_simp; with_reducible rfl))
    try simp only [Act.put, List.setIfInBounds_toArray, List.set_cons_zero, List.set_cons_succ]
    clear hHeld
    have yp := rp.cell
    have zp := rp.lt
    have up := rp.free
    refine wpAnyH_ready (rs := [10]) (by kernel_rfl) (by simp) ?_
    refine' AllReadyH.cons (o := _) ?_ (fun K hK => ?_) AllReadyH.nil
    rotate_left 1
    · (simp only [List.getElem?_toArray, List.getElem?_cons_succ, List.getElem?_cons_zero]; rfl)
    go_simp
    clear yp zp up
    have hpb : p ≠ bx := row_ne_row rp r1 (by decide)
    have hpm : p ≠ m := row_ne_map rp hmp
    replace r1 := r1.other hpb 0 (.slice (some ⟨g1, 0, none⟩) (0 + 1) cap)
    replace hint : OwnsI 0 (X2.setCell ⟨p, 0, none⟩ (.slice (some ⟨g1, 0, none⟩) (0 + 1) cap)) _ _ := hint.via (fun k hk => Below.heap_setCell X2 _ _ k (fun e => ownI_ne_row hint rp (by decide) (by rw [show p = k from e.symm]; exact hk)))
    replace hown2 := ownA_setCell hown2 (ownA_ne_row hown2 rp (by decide)) 0 (.slice (some ⟨g1, 0, none⟩) (0 + 1) cap)
    replace hmp := hmp.other hpm 0 (.slice (some ⟨g1, 0, none⟩) (0 + 1) cap)
    replace hbut := hbut.setCell (y := p) (.inl rfl) 0 (.slice (some ⟨g1, 0, none⟩) (0 + 1) cap)
    replace rp := rp.set 0 (.slice (some ⟨g1, 0, none⟩) (0 + 1) cap)
    simp only [List.setIfInBounds_toArray, List.set_cons_zero, List.set_cons_succ] at rp
    generalize hW : World.setCell _ _ _ = X3 at *
    clear hW
    refine hK.out _ _ r1.cell (fun hHeld => ?_)
    clear hK K hHeld
    refine wpAnyH_done (by kernel_rfl) ?_ _
    have yp := rp.cell
    have zp := rp.lt
    have y1 := r1.cell
    have z1 := r1.lt
    go_wp2_with fail
    clear yp zp y1 z1
    clear hgrow hc
    have hat2 : (Value.ownBlock (.slice a0 0 c0) = some g1) ∨ w.heap.size ≤ g1 := by exact hat.imp id (fun h1 => by omega)
    clear hat
    refine wp_region_held_drew (S := fun W' => (∀ j, W'.cell? ⟨p, j, none⟩ = (#[.slice (some ⟨g1, 0, none⟩) (0 + 1) cap, .map (some m)] : Array Value)[j]?) ∧ (∀ j, W'.cell? ⟨bx, j, none⟩ = (atC a)[j]?)) (by kernel_rfl) ⟨rp.cell, r1.cell⟩ (fun hHeld => ?_)
    replace rp := rp.drew
    replace r1 := r1.drew
    replace hbut := hbut.drew
    replace hown2 : OwnsA 0 X3.drew _ _ := hown2
    replace hint : OwnsI 0 X3.drew _ _ := hint
    replace hmp : MapIs X3.drew m es clk := ⟨hmp.eq⟩
    generalize X3.drew = Y0 at *
    refine' wpAnyH_take (i := 0) (oi := _) (v := _) ?_ (by kernel_rfl) (by kernel_rfl) (by kernel_rfl) ?_ (Or.inl ⟨?_, ?_⟩) (by assumption) ?_
    rotate_left 2
    · (simp only [List.getElem?_toArray, List.getElem?_cons_succ, List.getElem?_cons_zero]; rfl)
    · first | exact fun _ _ _ h => h | exact fun _ _ _ h => nomatch h.1
    · rfl
    · (intro W hSW; (try dsimp only at hSW); go_split_ands; first | (go_simp; done) | (go_simp; with_reducible rfl))
    try simp only [Act.put, List.setIfInBounds_toArray, List.set_cons_zero, List.set_cons_succ]
    refine' wpAnyH_take (i := 1) (oi := _) (v := _) ?_ (by kernel_rfl) (by kernel_rfl) (by kernel_rfl) ?_ (Or.inl ⟨?_, ?_⟩) (by assumption) ?_
    rotate_left 2
    · (simp only [List.getElem?_toArray, List.getElem?_cons_succ, List.getElem?_cons_zero]; rfl)
    · first | exact fun _ _ _ h => h | exact fun _ _ _ h => nomatch h.1
    · rfl
    · (intro W hSW; (try dsimp only at hSW); go_split_ands; first | (go_simp; done) | (go_simp; with_reducible rfl))
    try simp only [Act.put, List.setIfInBounds_toArray, List.set_cons_zero, List.set_cons_succ]
    refine' wpAnyH_take (i := 2) (oi := _) (v := _) ?_ (by kernel_rfl) (by kernel_rfl) (by kernel_rfl) ?_ (Or.inl ⟨?_, ?_⟩) (by assumption) ?_
    rotate_left 2
    · (simp only [List.getElem?_toArray, List.getElem?_cons_succ, List.getElem?_cons_zero]; rfl)
    · first | exact fun _ _ _ h => h | exact fun _ _ _ h => nomatch h.1
    · rfl
    · (intro W hSW; (try dsimp only at hSW); go_split_ands; first | (go_simp; done) | (go_simp; with_reducible rfl))
    try simp only [Act.put, List.setIfInBounds_toArray, List.set_cons_zero, List.set_cons_succ]
    refine' wpAnyH_take (i := 3) (oi := _) (v := _) ?_ (by kernel_rfl) (by kernel_rfl) (by kernel_rfl) ?_ (Or.inl ⟨?_, ?_⟩) (by assumption) ?_
    rotate_left 2
    · (simp only [List.getElem?_toArray, List.getElem?_cons_succ, List.getElem?_cons_zero]; rfl)
    · first | exact fun _ _ _ h => h | exact fun _ _ _ h => nomatch h.1
    · rfl
    · (intro W hSW; (try dsimp only at hSW); go_split_ands; first | (go_simp; done) | (go_simp; with_reducible rfl))
    try simp only [Act.put, List.setIfInBounds_toArray, List.set_cons_zero, List.set_cons_succ]
    refine' wpAnyH_take (i := 4) (oi := _) (v := _) ?_ (by kernel_rfl) (by kernel_rfl) (by kernel_rfl) ?_ (Or.inl ⟨?_, ?_⟩) (by assumption) ?_
    rotate_left 2
    · (simp only [List.getElem?_toArray, List.getElem?_cons_succ, List.getElem?_cons_zero]; rfl)
    · first | exact fun _ _ _ h => h | exact fun _ _ _ h => nomatch h.1
    · rfl
    · (intro W hSW; (try dsimp only at hSW); go_split_ands; first | (go_simp; done) | (go_simp; with_reducible rfl))
    try simp only [Act.put, List.setIfInBounds_toArray, List.set_cons_zero, List.set_cons_succ]
    refine' wpAnyH_take (i := 5) (oi := _) (v := _) ?_ (by kernel_rfl) (by kernel_rfl) (by kernel_rfl) ?_ (Or.inl ⟨?_, ?_⟩) (by assumption) ?_
    rotate_left 2
    · (simp only [List.getElem?_toArray, List.getElem?_cons_succ, List.getElem?_cons_zero]; rfl)
    · first | exact fun _ _ _ h => h | exact fun _ _ _ h => nomatch h.1
    · rfl
    · (intro W hSW; (try dsimp only at hSW); go_split_ands; first | (go_simp; done) | (go_simp; with_reducible rfl))
    try simp only [Act.put, List.setIfInBounds_toArray, List.set_cons_zero, List.set_cons_succ]
    refine' wpAnyH_take (i := 6) (oi := _) (v := _) ?_ (by kernel_rfl) (by kernel_rfl) (by kernel_rfl) ?_ (Or.inl ⟨?_, ?_⟩) (by assumption) ?_
    rotate_left 2
    · (simp only [List.getElem?_toArray, List.getElem?_cons_succ, List.getElem?_cons_zero]; rfl)
    · first | exact fun _ _ _ h => h | exact fun _ _ _ h => nomatch h.1
    · rfl
    · (intro W hSW; (try dsimp only at hSW); go_split_ands; first | (go_simp; done) | (go_simp; with_reducible rfl))
    try simp only [Act.put, List.setIfInBounds_toArray, List.set_cons_zero, List.set_cons_succ]
    clear hHeld
    obtain ⟨U, hU⟩ : ∃ U, atE a.k a.i a.g es = U := ⟨_, rfl⟩
    rw [hU] at hint
    have HU := Lib.hid hU
    have hPL : (posL a.k a.i a.g l).length ≤ 10000 := by rw [posL_len]; exact Nat.le_trans (ofL_len _ _ _ _) HH.out.len
    have HPL := Lib.hid hPL
    clear hPL
    refine wpAnyH_ready (rs := [7]) (by kernel_rfl) (by simp) ?_
    refine' AllReadyH.cons (o := _) ?_ (fun K hK => ?_) AllReadyH.nil
    rotate_left 1
    · (simp only [List.getElem?_toArray, List.getElem?_cons_succ, List.getElem?_cons_zero]; rfl)
    go_simp
    have hn := below_alloc Y0 (.cells #[.int .i64 0] 3)
    have hsrcI : ∀ (j : Nat) (u : Value), ([.int .i64 0] : List Value)[j]? = some u → (Y0.alloc (.cells #[.int .i64 0] 3)).cell? ((⟨Y0.heap.size, 0, none⟩ : Addr).add j) = some u := fun j u hj => by
      rw [add_off, Nat.zero_add, Row.cell (Row.new (W := Y0)) j]
      simpa using hj
    have hnewB : w.heap.size ≤ Y0.heap.size := hbut.size
    have ra := Row.new (W := Y0) (cs := #[.int .i64 0]) (t := 3)
    replace rp := rp.on hn
    replace r1 := r1.on hn
    replace hown2 := hown2.on hn
    replace hint := hint.on hn
    replace hmp := hmp.on hn
    replace hbut := hbut.on hn
    clear hn
    generalize Y0.alloc (.cells #[.int .i64 0] 3) = Y1 at *
    generalize Y0.heap.size = a3 at *
    refine hK.out _ _ ⟨rp.cell, r1.cell⟩ (fun hHeld => ?_)
    clear hK K
    clear hHeld
    have hme := run_mapEntry_o hmp HH.out.apart a.k a.i a.g
    rw [hU, show goInt (stampE a.k a.i a.g clk es) = .int .i64 (stampE a.k a.i a.g clk es : Int) from rfl] at hme
    clear hU
    refine wpAnyH_ready (rs := [8]) (by kernel_rfl) (by simp) ?_
    refine' AllReadyH.cons (o := _) ?_ (fun K hK => ?_) AllReadyH.nil
    rotate_left 1
    · (simp only [List.getElem?_toArray, List.getElem?_cons_succ, List.getElem?_cons_zero]; rfl)
    go_simp
    have ham : a3 ≠ m := row_ne_map ra hmp
    replace hsrcI : ∀ (j : Nat) (u : Value), ([.int .i64 0] : List Value)[j]? = some u → (setBlock Y1 m (.map ((putE a.k a.i a.g U clk es).map En.me).toArray (putC a.k a.i a.g clk es))).cell? ((⟨a3, 0, none⟩ : Addr).add j) = some u := fun j u hj => by
      rw [← hsrcI j u hj, add_off]
      simp only [World.cell?, setBlock_heap a3 ham]
    have hbm : bx ≠ m := row_ne_map r1 hmp
    have hpm2 : p ≠ m := row_ne_map rp hmp
    replace rp := Row.setBlock (b := m) (o := .map ((putE a.k a.i a.g U clk es).map En.me).toArray (putC a.k a.i a.g clk es)) rp hpm2
    replace r1 := Row.setBlock (b := m) (o := .map ((putE a.k a.i a.g U clk es).map En.me).toArray (putC a.k a.i a.g clk es)) r1 hbm
    replace hown2 : OwnsA 0 (setBlock Y1 m (.map ((putE a.k a.i a.g U clk es).map En.me).toArray (putC a.k a.i a.g clk es))) _ _ := hown2.via (fun k hk => setBlock_heap k (fun e => ownA_ne_map hown2 hmp (by rw [← e]; exact hk)))
    replace hint : OwnsI 0 (setBlock Y1 m (.map ((putE a.k a.i a.g U clk es).map En.me).toArray (putC a.k a.i a.g clk es))) _ _ := hint.via (fun k hk => setBlock_heap k (fun e => ownI_ne_map hint hmp (by rw [← e]; exact hk)))
    replace hbut := hbut.setBlock (y := m) (.inr (.inr (.inl rfl))) (.map ((putE a.k a.i a.g U clk es).map En.me).toArray (putC a.k a.i a.g clk es))
    have hmq : MapIs (setBlock Y1 m (.map ((putE a.k a.i a.g U clk es).map En.me).toArray (putC a.k a.i a.g clk es))) m (putE a.k a.i a.g U clk es) (putC a.k a.i a.g clk es) := ⟨setBlock_at hmp.lt⟩
    generalize setBlock Y1 m (.map ((putE a.k a.i a.g U clk es).map En.me).toArray (putC a.k a.i a.g clk es)) = Y2 at *
    clear hme hmp
    refine hK.out _ _ ⟨rp.cell, r1.cell⟩ (fun hHeld => ?_)
    clear hK K
    refine' wpAnyH_take (i := 9) (oi := _) (v := _) ?_ (by kernel_rfl) (by kernel_rfl) (by kernel_rfl) ?_ (Or.inl ⟨?_, ?_⟩) (by assumption) ?_
    rotate_left 2
    · (simp only [List.getElem?_toArray, List.getElem?_cons_succ, List.getElem?_cons_zero]; rfl)
    · first | exact fun _ _ _ h => h | exact fun _ _ _ h => nomatch h.1
    · rfl
    · (intro W hSW; (try dsimp only at hSW); go_split_ands; first | (go_simp; done) | (go_simp; with_reducible rfl))
    try simp only [Act.put, List.setIfInBounds_toArray, List.set_cons_zero, List.set_cons_succ]
    refine' wpAnyH_take (i := 11) (oi := _) (v := _) ?_ (by kernel_rfl) (by kernel_rfl) (by kernel_rfl) ?_ (Or.inl ⟨?_, ?_⟩) (by assumption) ?_
    rotate_left 2
    · (simp only [List.getElem?_toArray, List.getElem?_cons_succ, List.getElem?_cons_zero]; rfl)
    · first | exact fun _ _ _ h => h | exact fun _ _ _ h => nomatch h.1
    · rfl
    · (intro W hSW; (try dsimp only at hSW); go_split_ands; first | (go_simp; done) | (go_simp; with_reducible rfl))
    try simp only [Act.put, List.setIfInBounds_toArray, List.set_cons_zero, List.set_cons_succ]
    clear hHeld
    refine wpAnyH_ready (rs := [10]) (by kernel_rfl) (by simp) ?_
    refine' AllReadyH.cons (o := _) (by simp only [List.getElem?_toArray, List.getElem?_cons_succ, List.getElem?_cons_zero]; rfl) (fun K hK => ?_) AllReadyH.nil
    refine step_append_lies _ rfl (.tmp 24) (.tmp 26) 108 rfl 0 3 i1 (.int .i64 0) 1 8 Tryz.underlying108 JI0.out JZ0.out JZ1.out JZ2.out rfl (by decide) U (posL a.k a.i a.g l).length ((posL a.k a.i a.g l).map fun (n : Nat) => Value.int .i64 n) rfl hint ⟨a3, 0, none⟩ 1 1 [.int .i64 0] rfl rfl hsrcI (by intro u hu; simp at hu; subst hu; rfl) (by omega) (by have := HPL.out; unfold maxLen; omega) (by have := HPL.out; omega) (Nat.zero_le _) _ rfl ?_
    intro g2 cap2 Y3 hint3 hgrow2 hat3 hlt3
    have hup : U.ownBlock ≠ some p := ownI_ne_row hint rp (by decide)
    have hub : U.ownBlock ≠ some bx := ownI_ne_row hint r1 (by decide)
    have hum : U.ownBlock ≠ some m := ownI_ne_map hint hmq
    have hY2 := hbut.size
    replace hown2 : OwnsA 0 Y3 _ _ := hown2.via (fun k hk => hgrow2.block k (hown2.lt k hk).2 (fun e => ownA_ne_ownI hown2 hint e.symm hk))
    replace rp := row_grown rp hgrow2 hup
    replace r1 := row_grown r1 hgrow2 hub
    replace hmq := mapIs_grown hmq hgrow2 hum
    replace hbut := hbut.grown hgrow2 (fun k hk _ => .inr (.inr (.inr (by rw [HU.out]; exact hk))))
    replace hint3 : OwnsI 0 Y3 (.slice (some ⟨g2, 0, none⟩) ((posL a.k a.i a.g l).length + 1) cap2) (posL a.k a.i a.g l ++ [l.length]) := by
      unfold OwnsI
      rw [List.map_append, List.length_append, HN.out]
      exact hint3
    have hat4 : U.ownBlock = some g2 ∨ w.heap.size ≤ g2 := hat3.imp id (fun h1 => by omega)
    refine hK.out _ _ ⟨rp.cell, r1.cell⟩ (fun hHeld => ?_)
    clear hK K hHeld hsrcI hint hgrow2 hat3
    have hes := run_entryStore_o HH.out.apart HH.out.born HH.out.nodup hmq (.slice (some ⟨g2, 0, none⟩) ((posL a.k a.i a.g l).length + 1) cap2)
    rw [show goInt (stampE a.k a.i a.g clk es) = .int .i64 (stampE a.k a.i a.g clk es : Int) from rfl] at hes
    refine wpAnyH_ready (rs := [12]) (by kernel_rfl) (by simp) ?_
    refine' AllReadyH.cons (o := _) ?_ (fun K hK => ?_) AllReadyH.nil
    rotate_left 1
    · (simp only [List.getElem?_toArray, List.getElem?_cons_succ, List.getElem?_cons_zero]; rfl)
    go_simp
    have hbm3 : bx ≠ m := row_ne_map r1 hmq
    have hpm3 : p ≠ m := row_ne_map rp hmq
    obtain ⟨MO, hMO⟩ : ∃ MO : Obj, MO = .map ((putE a.k a.i a.g (.slice (some ⟨g2, 0, none⟩) ((posL a.k a.i a.g l).length + 1) cap2) clk es).map En.me).toArray (putC a.k a.i a.g clk es) := ⟨_, rfl⟩
    have HMO := Lib.hid hMO
    rw [← hMO]
    replace rp := Row.setBlock (b := m) (o := MO) rp hpm3
    replace r1 := Row.setBlock (b := m) (o := MO) r1 hbm3
    replace hown2 : OwnsA 0 (setBlock Y3 m MO) _ _ := hown2.via (fun k hk => setBlock_heap k (fun e => ownA_ne_map hown2 hmq (by rw [← e]; exact hk)))
    replace hint3 : OwnsI 0 (setBlock Y3 m MO) _ _ := hint3.via (fun k hk => setBlock_heap k (fun e => ownI_ne_map hint3 hmq (by rw [← e]; exact hk)))
    replace hbut := hbut.setBlock (y := m) (.inr (.inr (.inl rfl))) MO
    have hmz : MapIs (setBlock Y3 m MO) m (putE a.k a.i a.g (.slice (some ⟨g2, 0, none⟩) ((posL a.k a.i a.g l).length + 1) cap2) clk es) (putC a.k a.i a.g clk es) := ⟨by rw [setBlock_at hmq.lt, ← HMO.out]⟩
    generalize setBlock Y3 m MO = Y4 at *
    clear hMO HMO hes hmq
    refine hK.out _ _ ⟨rp.cell, r1.cell⟩ (fun hHeld => ?_)
    clear hK K hHeld
    refine wpAnyH_done (by kernel_rfl) ?_ _
    have yp := rp.cell
    have zp := rp.lt
    go_wp2_with fail
    go_returns
    refine ⟨rfl, ⟨_, _, _, _, HH.out.add a ⟨HK.out, hg⟩ (by rw [HN.out]; omega) hbut.size rp hown2 hint3 hmz (fun b hb => ?_) (fun b hb => ?_) (fun e he hs b hb => ?_)⟩, hbut.wide (fun b hb => ?_)⟩
    · obtain rfl : g1 = b := Option.some.inj hb
      exact hat2.imp (fun h1 => HH.out.fv _ h1) id
    · obtain rfl : g2 = b := Option.some.inj hb
      rw [HU.out]
      exact hat4
    · exact HH.out.stay_ he hs hb hbut
    · exact HH.out.mine hb
  · go_simp
    have hn := below_alloc X0 (.cells (atC a) 43)
    have hsrc := at_src X0 a
    have ra := Row.new (W := X0) (cs := atC a) (t := 43)
    have hnewA : w.heap.size ≤ X0.heap.size := hc.size
    replace rp := rp.on hn
    replace r1 := r1.on hn
    replace hown := hown.on hn
    replace hint := hint.on hn
    replace hmp := hmp.on hn
    replace hc := chain hc hn
    replace hbut := hbut.on hn
    clear hn
    generalize X0.alloc (.cells (atC a) 43) = X1 at *
    generalize X0.heap.size = a2 at *
    have hX1 := hc.size
    refine hK.out _ _ r1.cell (fun hHeld => ?_)
    clear hK K hHeld
    have yp := rp.cell
    have zp := rp.lt
    refine wpAnyH_ready (rs := [4]) (by kernel_rfl) (by simp) ?_
    refine' AllReadyH.cons (o := _) ?_ (fun K hK => ?_) AllReadyH.nil
    rotate_left 1
    · (simp only [List.getElem?_toArray, List.getElem?_cons_succ, List.getElem?_cons_zero]; rfl)
    go_simp
    clear yp zp
    refine hK.out _ _ r1.cell (fun hHeld => ?_)
    clear hK K hHeld
    refine wpAnyH_ready (rs := [7]) (by kernel_rfl) (by simp) ?_
    refine' AllReadyH.cons (o := _) (by simp only [List.getElem?_toArray, List.getElem?_cons_succ, List.getElem?_cons_zero]; rfl) (fun K hK => ?_) AllReadyH.nil
    refine step_append_lies _ rfl (.tmp 12) (.tmp 14) 26 rfl 0 43 i0 (.agg #[.int .i64 0, .int .i64 0, .int .i64 0, .int .u32 0, .int .i64 0, .int .i64 0]) 6 48 Tryz.underlying26 HI0.out HZ0.out HZ1.out HZ2.out rfl (by decide) (.slice a0 0 c0) 0 (cellsA l) rfl (by have h9 := hown; unfold OwnsA at h9; rw [HN.out] at h9; exact h9) ⟨a2, 0, none⟩ 1 1 (atL a) rfl rfl hsrc (by intro u hu; simp at hu; rcases hu with rfl | rfl | rfl | rfl | rfl | rfl <;> rfl) (by omega) (by unfold maxLen;  omega) (by  omega) (Nat.zero_le _) _ rfl ?_
    intro g1 cap X2 hown2 hgrow hat hlt2
    have hvp : ((.slice a0 0 c0) : Value).ownBlock ≠ some p := ownA_ne_row hown rp (by decide)
    have hvb : ((.slice a0 0 c0) : Value).ownBlock ≠ some bx := fun e => by have := (HH.out.own.lt bx e).2; omega
    have hvm : ((.slice a0 0 c0) : Value).ownBlock ≠ some m := ownA_ne_map hown hmp
    replace hint : OwnsI 0 X2 _ _ := hint.via (fun k hk => hgrow.block k (hint.lt k hk).2 (fun e => ownA_ne_ownI hown hint hk e.symm))
    replace rp := row_grown rp hgrow hvp
    replace r1 := row_grown r1 hgrow hvb
    replace hmp := mapIs_grown hmp hgrow hvm
    replace hbut := hbut.grown hgrow (fun k hk _ => .inr (.inl hk))
    replace hown2 : OwnsA 0 X2 (.slice (some ⟨g1, 0, none⟩) (0 + 1) cap) (l ++ [a]) := by
      unfold OwnsA
      rw [cellsA_snoc, List.length_append, List.length_singleton, HN.out]
      exact hown2
    refine hK.out _ _ r1.cell (fun hHeld => ?_)
    clear hK K hsrc hown ra
    refine' wpAnyH_take (i := 8) (oi := _) (v := _) ?_ (by kernel_rfl) (by kernel_rfl) (by kernel_rfl) ?_ (Or.inl ⟨?_, ?_⟩) (by assumption) ?_
    rotate_left 2
    · (simp only [List.getElem?_toArray, List.getElem?_cons_succ, List.getElem?_cons_zero]; rfl)
    · first | exact fun _ _ _ h => h | exact fun _ _ _ h => nomatch h.1
    · rfl
    · (intro W hSW; (try dsimp only at hSW); go_split_ands; first | (go_simp; done) | (go_simp; with_reducible rfl))
    try simp only [Act.put, List.setIfInBounds_toArray, List.set_cons_zero, List.set_cons_succ]
    refine' wpAnyH_take (i := 9) (oi := _) (v := _) ?_ (by kernel_rfl) (by kernel_rfl) (by kernel_rfl) ?_ (Or.inl ⟨?_, ?_⟩) (by assumption) ?_
    rotate_left 2
    · (simp only [List.getElem?_toArray, List.getElem?_cons_succ, List.getElem?_cons_zero]; rfl)
    · first | exact fun _ _ _ h => h | exact fun _ _ _ h => nomatch h.1
    · rfl
    · (intro W hSW; (try dsimp only at hSW); go_split_ands; first | (go_simp; done) | (go_simp; with_reducible rfl))
    try simp only [Act.put, List.setIfInBounds_toArray, List.set_cons_zero, List.set_cons_succ]
    clear hHeld
    have yp := rp.cell
    have zp := rp.lt
    have up := rp.free
    refine wpAnyH_ready (rs := [10]) (by kernel_rfl) (by simp) ?_
    refine' AllReadyH.cons (o := _) ?_ (fun K hK => ?_) AllReadyH.nil
    rotate_left 1
    · (simp only [List.getElem?_toArray, List.getElem?_cons_succ, List.getElem?_cons_zero]; rfl)
    go_simp
    clear yp zp up
    have hpb : p ≠ bx := row_ne_row rp r1 (by decide)
    have hpm : p ≠ m := row_ne_map rp hmp
    replace r1 := r1.other hpb 0 (.slice (some ⟨g1, 0, none⟩) (0 + 1) cap)
    replace hint : OwnsI 0 (X2.setCell ⟨p, 0, none⟩ (.slice (some ⟨g1, 0, none⟩) (0 + 1) cap)) _ _ := hint.via (fun k hk => Below.heap_setCell X2 _ _ k (fun e => ownI_ne_row hint rp (by decide) (by rw [show p = k from e.symm]; exact hk)))
    replace hown2 := ownA_setCell hown2 (ownA_ne_row hown2 rp (by decide)) 0 (.slice (some ⟨g1, 0, none⟩) (0 + 1) cap)
    replace hmp := hmp.other hpm 0 (.slice (some ⟨g1, 0, none⟩) (0 + 1) cap)
    replace hbut := hbut.setCell (y := p) (.inl rfl) 0 (.slice (some ⟨g1, 0, none⟩) (0 + 1) cap)
    replace rp := rp.set 0 (.slice (some ⟨g1, 0, none⟩) (0 + 1) cap)
    simp only [List.setIfInBounds_toArray, List.set_cons_zero, List.set_cons_succ] at rp
    generalize hW : World.setCell _ _ _ = X3 at *
    clear hW
    refine hK.out _ _ r1.cell (fun hHeld => ?_)
    clear hK K hHeld
    refine wpAnyH_done (by kernel_rfl) ?_ _
    have yp := rp.cell
    have zp := rp.lt
    have y1 := r1.cell
    have z1 := r1.lt
    go_wp2_with fail
    clear yp zp y1 z1
    clear hgrow hc
    have hat2 : (Value.ownBlock (.slice a0 0 c0) = some g1) ∨ w.heap.size ≤ g1 := by exact hat.imp id (fun h1 => by omega)
    clear hat
    refine wp_region_held_drew (S := fun W' => (∀ j, W'.cell? ⟨p, j, none⟩ = (#[.slice (some ⟨g1, 0, none⟩) (0 + 1) cap, .map (some m)] : Array Value)[j]?) ∧ (∀ j, W'.cell? ⟨bx, j, none⟩ = (atC a)[j]?)) (by kernel_rfl) ⟨rp.cell, r1.cell⟩ (fun hHeld => ?_)
    replace rp := rp.drew
    replace r1 := r1.drew
    replace hbut := hbut.drew
    replace hown2 : OwnsA 0 X3.drew _ _ := hown2
    replace hint : OwnsI 0 X3.drew _ _ := hint
    replace hmp : MapIs X3.drew m es clk := ⟨hmp.eq⟩
    generalize X3.drew = Y0 at *
    refine' wpAnyH_take (i := 0) (oi := _) (v := _) ?_ (by kernel_rfl) (by kernel_rfl) (by kernel_rfl) ?_ (Or.inl ⟨?_, ?_⟩) (by assumption) ?_
    rotate_left 2
    · (simp only [List.getElem?_toArray, List.getElem?_cons_succ, List.getElem?_cons_zero]; rfl)
    · first | exact fun _ _ _ h => h | exact fun _ _ _ h => nomatch h.1
    · rfl
    · (intro W hSW; (try dsimp only at hSW); go_split_ands; first | (go_simp; done) | (go_simp; with_reducible rfl))
    try simp only [Act.put, List.setIfInBounds_toArray, List.set_cons_zero, List.set_cons_succ]
    refine' wpAnyH_take (i := 1) (oi := _) (v := _) ?_ (by kernel_rfl) (by kernel_rfl) (by kernel_rfl) ?_ (Or.inl ⟨?_, ?_⟩) (by assumption) ?_
    rotate_left 2
    · (simp only [List.getElem?_toArray, List.getElem?_cons_succ, List.getElem?_cons_zero]; rfl)
    · first | exact fun _ _ _ h => h | exact fun _ _ _ h => nomatch h.1
    · rfl
    · (intro W hSW; (try dsimp only at hSW); go_split_ands; first | (go_simp; done) | (go_simp; with_reducible rfl))
    try simp only [Act.put, List.setIfInBounds_toArray, List.set_cons_zero, List.set_cons_succ]
    refine' wpAnyH_take (i := 2) (oi := _) (v := _) ?_ (by kernel_rfl) (by kernel_rfl) (by kernel_rfl) ?_ (Or.inl ⟨?_, ?_⟩) (by assumption) ?_
    rotate_left 2
    · (simp only [List.getElem?_toArray, List.getElem?_cons_succ, List.getElem?_cons_zero]; rfl)
    · first | exact fun _ _ _ h => h | exact fun _ _ _ h => nomatch h.1
    · rfl
    · (intro W hSW; (try dsimp only at hSW); go_split_ands; first | (go_simp; done) | (go_simp; with_reducible rfl))
    try simp only [Act.put, List.setIfInBounds_toArray, List.set_cons_zero, List.set_cons_succ]
    refine' wpAnyH_take (i := 3) (oi := _) (v := _) ?_ (by kernel_rfl) (by kernel_rfl) (by kernel_rfl) ?_ (Or.inl ⟨?_, ?_⟩) (by assumption) ?_
    rotate_left 2
    · (simp only [List.getElem?_toArray, List.getElem?_cons_succ, List.getElem?_cons_zero]; rfl)
    · first | exact fun _ _ _ h => h | exact fun _ _ _ h => nomatch h.1
    · rfl
    · (intro W hSW; (try dsimp only at hSW); go_split_ands; first | (go_simp; done) | (go_simp; with_reducible rfl))
    try simp only [Act.put, List.setIfInBounds_toArray, List.set_cons_zero, List.set_cons_succ]
    refine' wpAnyH_take (i := 4) (oi := _) (v := _) ?_ (by kernel_rfl) (by kernel_rfl) (by kernel_rfl) ?_ (Or.inl ⟨?_, ?_⟩) (by assumption) ?_
    rotate_left 2
    · (simp only [List.getElem?_toArray, List.getElem?_cons_succ, List.getElem?_cons_zero]; rfl)
    · first | exact fun _ _ _ h => h | exact fun _ _ _ h => nomatch h.1
    · rfl
    · (intro W hSW; (try dsimp only at hSW); go_split_ands; first | (go_simp; done) | (go_simp; with_reducible rfl))
    try simp only [Act.put, List.setIfInBounds_toArray, List.set_cons_zero, List.set_cons_succ]
    refine' wpAnyH_take (i := 5) (oi := _) (v := _) ?_ (by kernel_rfl) (by kernel_rfl) (by kernel_rfl) ?_ (Or.inl ⟨?_, ?_⟩) (by assumption) ?_
    rotate_left 2
    · (simp only [List.getElem?_toArray, List.getElem?_cons_succ, List.getElem?_cons_zero]; rfl)
    · first | exact fun _ _ _ h => h | exact fun _ _ _ h => nomatch h.1
    · rfl
    · (intro W hSW; (try dsimp only at hSW); go_split_ands; first | (go_simp; done) | (go_simp; with_reducible rfl))
    try simp only [Act.put, List.setIfInBounds_toArray, List.set_cons_zero, List.set_cons_succ]
    refine' wpAnyH_take (i := 6) (oi := _) (v := _) ?_ (by kernel_rfl) (by kernel_rfl) (by kernel_rfl) ?_ (Or.inl ⟨?_, ?_⟩) (by assumption) ?_
    rotate_left 2
    · (simp only [List.getElem?_toArray, List.getElem?_cons_succ, List.getElem?_cons_zero]; rfl)
    · first | exact fun _ _ _ h => h | exact fun _ _ _ h => nomatch h.1
    · rfl
    · (intro W hSW; (try dsimp only at hSW); go_split_ands; first | (go_simp; done) | (go_simp; with_reducible rfl))
    try simp only [Act.put, List.setIfInBounds_toArray, List.set_cons_zero, List.set_cons_succ]
    clear hHeld
    obtain ⟨U, hU⟩ : ∃ U, atE a.k a.i a.g es = U := ⟨_, rfl⟩
    rw [hU] at hint
    have HU := Lib.hid hU
    have hPL : (posL a.k a.i a.g l).length ≤ 10000 := by rw [posL_len]; exact Nat.le_trans (ofL_len _ _ _ _) HH.out.len
    have HPL := Lib.hid hPL
    clear hPL
    refine wpAnyH_ready (rs := [7]) (by kernel_rfl) (by simp) ?_
    refine' AllReadyH.cons (o := _) ?_ (fun K hK => ?_) AllReadyH.nil
    rotate_left 1
    · (simp only [List.getElem?_toArray, List.getElem?_cons_succ, List.getElem?_cons_zero]; rfl)
    go_simp
    have hn := below_alloc Y0 (.cells #[.int .i64 0] 3)
    have hsrcI : ∀ (j : Nat) (u : Value), ([.int .i64 0] : List Value)[j]? = some u → (Y0.alloc (.cells #[.int .i64 0] 3)).cell? ((⟨Y0.heap.size, 0, none⟩ : Addr).add j) = some u := fun j u hj => by
      rw [add_off, Nat.zero_add, Row.cell (Row.new (W := Y0)) j]
      simpa using hj
    have hnewB : w.heap.size ≤ Y0.heap.size := hbut.size
    have ra := Row.new (W := Y0) (cs := #[.int .i64 0]) (t := 3)
    replace rp := rp.on hn
    replace r1 := r1.on hn
    replace hown2 := hown2.on hn
    replace hint := hint.on hn
    replace hmp := hmp.on hn
    replace hbut := hbut.on hn
    clear hn
    generalize Y0.alloc (.cells #[.int .i64 0] 3) = Y1 at *
    generalize Y0.heap.size = a3 at *
    refine hK.out _ _ ⟨rp.cell, r1.cell⟩ (fun hHeld => ?_)
    clear hK K
    clear hHeld
    have hme := run_mapEntry_o hmp HH.out.apart a.k a.i a.g
    rw [hU, show goInt (stampE a.k a.i a.g clk es) = .int .i64 (stampE a.k a.i a.g clk es : Int) from rfl] at hme
    clear hU
    refine wpAnyH_ready (rs := [8]) (by kernel_rfl) (by simp) ?_
    refine' AllReadyH.cons (o := _) ?_ (fun K hK => ?_) AllReadyH.nil
    rotate_left 1
    · (simp only [List.getElem?_toArray, List.getElem?_cons_succ, List.getElem?_cons_zero]; rfl)
    go_simp
    have ham : a3 ≠ m := row_ne_map ra hmp
    replace hsrcI : ∀ (j : Nat) (u : Value), ([.int .i64 0] : List Value)[j]? = some u → (setBlock Y1 m (.map ((putE a.k a.i a.g U clk es).map En.me).toArray (putC a.k a.i a.g clk es))).cell? ((⟨a3, 0, none⟩ : Addr).add j) = some u := fun j u hj => by
      rw [← hsrcI j u hj, add_off]
      simp only [World.cell?, setBlock_heap a3 ham]
    have hbm : bx ≠ m := row_ne_map r1 hmp
    have hpm2 : p ≠ m := row_ne_map rp hmp
    replace rp := Row.setBlock (b := m) (o := .map ((putE a.k a.i a.g U clk es).map En.me).toArray (putC a.k a.i a.g clk es)) rp hpm2
    replace r1 := Row.setBlock (b := m) (o := .map ((putE a.k a.i a.g U clk es).map En.me).toArray (putC a.k a.i a.g clk es)) r1 hbm
    replace hown2 : OwnsA 0 (setBlock Y1 m (.map ((putE a.k a.i a.g U clk es).map En.me).toArray (putC a.k a.i a.g clk es))) _ _ := hown2.via (fun k hk => setBlock_heap k (fun e => ownA_ne_map hown2 hmp (by rw [← e]; exact hk)))
    replace hint : OwnsI 0 (setBlock Y1 m (.map ((putE a.k a.i a.g U clk es).map En.me).toArray (putC a.k a.i a.g clk es))) _ _ := hint.via (fun k hk => setBlock_heap k (fun e => ownI_ne_map hint hmp (by rw [← e]; exact hk)))
    replace hbut := hbut.setBlock (y := m) (.inr (.inr (.inl rfl))) (.map ((putE a.k a.i a.g U clk es).map En.me).toArray (putC a.k a.i a.g clk es))
    have hmq : MapIs (setBlock Y1 m (.map ((putE a.k a.i a.g U clk es).map En.me).toArray (putC a.k a.i a.g clk es))) m (putE a.k a.i a.g U clk es) (putC a.k a.i a.g clk es) := ⟨setBlock_at hmp.lt⟩
    generalize setBlock Y1 m (.map ((putE a.k a.i a.g U clk es).map En.me).toArray (putC a.k a.i a.g clk es)) = Y2 at *
    clear hme hmp
    refine hK.out _ _ ⟨rp.cell, r1.cell⟩ (fun hHeld => ?_)
    clear hK K
    refine' wpAnyH_take (i := 9) (oi := _) (v := _) ?_ (by kernel_rfl) (by kernel_rfl) (by kernel_rfl) ?_ (Or.inl ⟨?_, ?_⟩) (by assumption) ?_
    rotate_left 2
    · (simp only [List.getElem?_toArray, List.getElem?_cons_succ, List.getElem?_cons_zero]; rfl)
    · first | exact fun _ _ _ h => h | exact fun _ _ _ h => nomatch h.1
    · rfl
    · (intro W hSW; (try dsimp only at hSW); go_split_ands; first | (go_simp; done) | (go_simp; with_reducible rfl))
    try simp only [Act.put, List.setIfInBounds_toArray, List.set_cons_zero, List.set_cons_succ]
    refine' wpAnyH_take (i := 11) (oi := _) (v := _) ?_ (by kernel_rfl) (by kernel_rfl) (by kernel_rfl) ?_ (Or.inl ⟨?_, ?_⟩) (by assumption) ?_
    rotate_left 2
    · (simp only [List.getElem?_toArray, List.getElem?_cons_succ, List.getElem?_cons_zero]; rfl)
    · first | exact fun _ _ _ h => h | exact fun _ _ _ h => nomatch h.1
    · rfl
    · (intro W hSW; (try dsimp only at hSW); go_split_ands; first | (go_simp; done) | (go_simp; with_reducible rfl))
    try simp only [Act.put, List.setIfInBounds_toArray, List.set_cons_zero, List.set_cons_succ]
    clear hHeld
    refine wpAnyH_ready (rs := [10]) (by kernel_rfl) (by simp) ?_
    refine' AllReadyH.cons (o := _) (by simp only [List.getElem?_toArray, List.getElem?_cons_succ, List.getElem?_cons_zero]; rfl) (fun K hK => ?_) AllReadyH.nil
    refine step_append_lies _ rfl (.tmp 24) (.tmp 26) 108 rfl 0 3 i1 (.int .i64 0) 1 8 Tryz.underlying108 JI0.out JZ0.out JZ1.out JZ2.out rfl (by decide) U (posL a.k a.i a.g l).length ((posL a.k a.i a.g l).map fun (n : Nat) => Value.int .i64 n) rfl hint ⟨a3, 0, none⟩ 1 1 [.int .i64 0] rfl rfl hsrcI (by intro u hu; simp at hu; subst hu; rfl) (by omega) (by have := HPL.out; unfold maxLen; omega) (by have := HPL.out; omega) (Nat.zero_le _) _ rfl ?_
    intro g2 cap2 Y3 hint3 hgrow2 hat3 hlt3
    have hup : U.ownBlock ≠ some p := ownI_ne_row hint rp (by decide)
    have hub : U.ownBlock ≠ some bx := ownI_ne_row hint r1 (by decide)
    have hum : U.ownBlock ≠ some m := ownI_ne_map hint hmq
    have hY2 := hbut.size
    replace hown2 : OwnsA 0 Y3 _ _ := hown2.via (fun k hk => hgrow2.block k (hown2.lt k hk).2 (fun e => ownA_ne_ownI hown2 hint e.symm hk))
    replace rp := row_grown rp hgrow2 hup
    replace r1 := row_grown r1 hgrow2 hub
    replace hmq := mapIs_grown hmq hgrow2 hum
    replace hbut := hbut.grown hgrow2 (fun k hk _ => .inr (.inr (.inr (by rw [HU.out]; exact hk))))
    replace hint3 : OwnsI 0 Y3 (.slice (some ⟨g2, 0, none⟩) ((posL a.k a.i a.g l).length + 1) cap2) (posL a.k a.i a.g l ++ [l.length]) := by
      unfold OwnsI
      rw [List.map_append, List.length_append, HN.out]
      exact hint3
    have hat4 : U.ownBlock = some g2 ∨ w.heap.size ≤ g2 := hat3.imp id (fun h1 => by omega)
    refine hK.out _ _ ⟨rp.cell, r1.cell⟩ (fun hHeld => ?_)
    clear hK K hHeld hsrcI hint hgrow2 hat3
    have hes := run_entryStore_o HH.out.apart HH.out.born HH.out.nodup hmq (.slice (some ⟨g2, 0, none⟩) ((posL a.k a.i a.g l).length + 1) cap2)
    rw [show goInt (stampE a.k a.i a.g clk es) = .int .i64 (stampE a.k a.i a.g clk es : Int) from rfl] at hes
    refine wpAnyH_ready (rs := [12]) (by kernel_rfl) (by simp) ?_
    refine' AllReadyH.cons (o := _) ?_ (fun K hK => ?_) AllReadyH.nil
    rotate_left 1
    · (simp only [List.getElem?_toArray, List.getElem?_cons_succ, List.getElem?_cons_zero]; rfl)
    go_simp
    have hbm3 : bx ≠ m := row_ne_map r1 hmq
    have hpm3 : p ≠ m := row_ne_map rp hmq
    obtain ⟨MO, hMO⟩ : ∃ MO : Obj, MO = .map ((putE a.k a.i a.g (.slice (some ⟨g2, 0, none⟩) ((posL a.k a.i a.g l).length + 1) cap2) clk es).map En.me).toArray (putC a.k a.i a.g clk es) := ⟨_, rfl⟩
    have HMO := Lib.hid hMO
    rw [← hMO]
    replace rp := Row.setBlock (b := m) (o := MO) rp hpm3
    replace r1 := Row.setBlock (b := m) (o := MO) r1 hbm3
    replace hown2 : OwnsA 0 (setBlock Y3 m MO) _ _ := hown2.via (fun k hk => setBlock_heap k (fun e => ownA_ne_map hown2 hmq (by rw [← e]; exact hk)))
    replace hint3 : OwnsI 0 (setBlock Y3 m MO) _ _ := hint3.via (fun k hk => setBlock_heap k (fun e => ownI_ne_map hint3 hmq (by rw [← e]; exact hk)))
    replace hbut := hbut.setBlock (y := m) (.inr (.inr (.inl rfl))) MO
    have hmz : MapIs (setBlock Y3 m MO) m (putE a.k a.i a.g (.slice (some ⟨g2, 0, none⟩) ((posL a.k a.i a.g l).length + 1) cap2) clk es) (putC a.k a.i a.g clk es) := ⟨by rw [setBlock_at hmq.lt, ← HMO.out]⟩
    generalize setBlock Y3 m MO = Y4 at *
    clear hMO HMO hes hmq
    refine hK.out _ _ ⟨rp.cell, r1.cell⟩ (fun hHeld => ?_)
    clear hK K hHeld
    refine wpAnyH_done (by kernel_rfl) ?_ _
    have yp := rp.cell
    have zp := rp.lt
    go_wp2_with fail
    go_returns
    refine ⟨rfl, ⟨_, _, _, _, HH.out.add a ⟨HK.out, hg⟩ (by rw [HN.out]; omega) hbut.size rp hown2 hint3 hmz (fun b hb => ?_) (fun b hb => ?_) (fun e he hs b hb => ?_)⟩, hbut.wide (fun b hb => ?_)⟩
    · obtain rfl : g1 = b := Option.some.inj hb
      exact hat2.imp (fun h1 => HH.out.fv _ h1) id
    · obtain rfl : g2 = b := Option.some.inj hb
      rw [HU.out]
      exact hat4
    · exact HH.out.stay_ he hs hb hbut
    · exact HH.out.mine hb
end Go.Proofs.YtinlfheonlpceaaGreatDoor

/- A region that draws its order within a round of a range over a function, held by hand: what is shown of it outside of rounds serves inside. -/
namespace Go.Proofs.YtinlfheonlpceaaGreatDoor
open Go.RowKit
set_option linter.unusedVariables false

def noDefer (o : Oper) : Bool := match o.op with
  | .defer _ => false
  | _ => true
theorem noDefer_spec {o : Oper} (h : noDefer o = true) : ∀ c, o.op ≠ .defer c := by
  intro c e
  unfold noDefer at h
  rw [e] at h
  cases h
theorem oper_round {l n : Nat} {P : Program} {Q : Exit → Act → World → Prop} {o : Oper} {a : Act} {w : World} {K : Act → World → Prop} (hd : noDefer o = true) (h : o.wp P a w K Q) : o.wpIn (Fence.wide.inRound l) n P a w K Q := by
  refine ⟨fun _ _ => trivial, ?_⟩
  rw [show (Fence.wide.inRound l).round = some l from rfl, Oper.semAt_some l _ o (noDefer_spec hd)]
  unfold Oper.wp at h
  generalize (execOp a.eval o).run P w = r at *
  cases r with
  | ok x w' =>
    cases x <;> simp only [Oper.upon, Oper.uponIn] at h ⊢ <;>
      first
        | exact h
        | exact ⟨fun hh => (by cases hh), CallsIn.inRound l (callsIn_wide.2 h)⟩
        | exact ⟨fun hh => (by cases hh), fun c cs _ => let ⟨v, w', r, s⟩ := h c cs; ⟨v, w', r, stepsIn_wide.2 s⟩⟩
  | halt x w' => cases x <;> simp only [Oper.upon, Oper.uponIn] at h ⊢ <;> exact h
theorem wpOp_round {l n : Nat} {P : Program} {ops : Array Oper} {Q : Exit → Act → World → Prop} {i : Nat} {a : Act} {w : World} {K : Act → World → Prop} (hd : ∀ o, ops[i]? = some o → noDefer o = true) (hl : ¬ LetsOut Q) (h : wpOp P ops Q i K a w) : wpOpIn (Fence.wide.inRound l) n P ops Q i K a w := by
  unfold wpOp at h
  unfold wpOpIn
  cases ho : ops[i]? with
  | none => rw [ho] at h; exact h
  | some o =>
    rw [ho] at h
    simp only at h ⊢
    split
    · rename_i hw
      rw [if_pos hw] at h
      exact oper_round (hd o ho) (h.resolve_right fun hh => hl hh.2)
    · rename_i hw
      rw [if_neg hw] at h
      exact ⟨fun _ _ => trivial, h⟩
theorem wpAny_round {l n : Nat} {P : Program} {md : Region.Mode} {ops : Array Oper} {Q : Exit → Act → World → Prop} (hd : ∀ (i : Nat) (o : Oper), ops[i]? = some o → noDefer o = true) (hl : ¬ LetsOut Q) :
    ∀ (fuel : Nat) (listed : Array Bool) (a : Act) (w : World), wpAny P md ops Q fuel listed a w → wpAnyIn (Fence.wide.inRound l) n P md ops Q fuel listed a w
  | 0, _, _, _, h => h
  | fuel + 1, listed, a, w, h => ⟨h.1, fun i hi => wpOpIn_mono (fun a' w' h' => wpAny_round hd hl fuel _ a' w' h') (wpOp_round (hd i) hl (h.2 i hi))⟩
theorem all_noDefer {ops : Array Oper} (h : ops.all noDefer = true) : ∀ (i : Nat) (o : Oper), ops[i]? = some o → noDefer o = true := by
  intro i o ho
  obtain ⟨hi, rfl⟩ := Array.getElem?_eq_some_iff.1 ho
  exact Array.all_eq_true.1 h i hi
/-- A region held by hand that does not panic: nothing is asked of what is behind a panic. -/
theorem wp_region_held_np {P : Program} {id : Nat} {ops : Array Oper} {Q : Exit → Act → World → Prop} {S : World → Prop} {a : Act} {w : World} (hm : P.follows .mixedOrders = true) (hS : S w.drew)
    (h : S w.drew → wpAnyH P .any ops (fun e a w => e = .normal ∧ Q e a w) S ops.size (Array.replicate ops.size false) a w.drew) : (Code.region id ops true).wp P Q a w :=
  Code.wp_mono (fun e a w hh => hh.2) (wp_region_held_drew hm hS h)
/-- The same region in a round. -/
theorem wpIn_region_round {l n : Nat} {P : Program} {id : Nat} {ops : Array Oper} {Q : Exit → Act → World → Prop} {S : World → Prop} {a : Act} {w : World} (hm : P.follows .mixedOrders = true) (hd : ops.all noDefer = true) (hS : S w.drew)
    (h : S w.drew → wpAnyH P .any ops (fun e a w => e ≠ .outgrown ∧ Q e a w) S ops.size (Array.replicate ops.size false) a w.drew) : (Code.region id ops true).wpIn (Fence.wide.inRound l) n P Q a w := by
  have h1 := wpAny_of_held _ _ _ _ (h hS)
  have hl : ¬ LetsOut (fun e a w => e ≠ Exit.outgrown ∧ Q e a w) := by
    rintro ⟨a, w, h1, _⟩
    exact h1 rfl
  have h2 := wpAny_round (l := l) (n := n) (all_noDefer hd) hl _ _ _ _ h1
  exact Code.wpIn_mono (fun e a w hh => hh.2) (wpIn_region_any hm h2)
theorem row_kept {W W' : World} {row : Option Nat} {x : Nat} {cs : Array Value} {t : TypeId} (h : Row W x cs t) (hg : W.grownBy W' row) (hrow : ∀ r, row = some r → ∃ o : Obj, W.heap[r]? = some o ∧ o.isCells = false) : Row W' x cs t :=
  ⟨(hg.block x h.lt (fun e => by
    obtain ⟨o, ho, hc⟩ := hrow x e.symm
    rw [h.eq] at ho
    injection ho with ho
    rw [← ho] at hc
    cases hc)).trans h.eq⟩
end Go.Proofs.YtinlfheonlpceaaGreatDoor

/- (*ledger.Ledger).Add as one contract; the iterator over the attempts for a resource (chapter 07). -/
namespace Go.Proofs.YtinlfheonlpceaaGreatDoor
open Go.RowKit Go.Shelf
set_option linter.unusedVariables false
set_option linter.unusedSimpArgs false
set_option maxHeartbeats 16000000
set_option maxRecDepth 20000
theorem LedIs.wide {W : World} {F G : Nat → Prop} {p : Nat} {l : List AtR} {v : Value} {m : Nat} {es : List En} {clk : Nat} (h : LedIs W F p l v m es clk) (hF : ∀ b, F b → G b) (hG : ∀ b, G b → b < W.heap.size) : LedIs W G p l v m es clk :=
  { h with fp := hF _ h.fp, fm := hF _ h.fm, fv := fun b hb => hF _ (h.fv b hb), fe := fun e he b hb => hF _ (h.fe e he b hb), fin := hG }
theorem Led.wide {W : World} {F G : Nat → Prop} {p : Nat} {l : List AtR} (h : Led W F p l) (hF : ∀ b, F b → G b) (hG : ∀ b, G b → b < W.heap.size) : Led W G p l := by
  obtain ⟨v, m, es, clk, h⟩ := h
  exact ⟨v, m, es, clk, h.wide hF hG⟩
/-- What a refused attempt leaves. -/
theorem led_same {w w' : World} {F : Nat → Prop} {p : Nat} {l : List AtR} (h : Led w F p l) (hb : Below w.heap.size w w') : Led w' (fun b => F b ∨ FreshL w w' b) p l ∧ But F w w' :=
  ⟨(h.on hb).wide (fun b hb => .inl hb) (fun b hb2 => hb2.elim (fun h1 => Nat.lt_of_lt_of_le (h.fin b h1) hb.size) (fun h1 => h1.2)), but_of F hb⟩
theorem ladd_c {F : Nat → Prop} {p : Nat} {l : List AtR} (a : AtR) (hg : gIn a) (w : World) (h : Led w F p l) :
    Calls Tryz.prog 32 #[ledP p, atV a] w fun e w' => e = .returned (.int .i64 (addE l a)) ∧ Led w' (fun b => F b ∨ FreshL w w' b) p (addL l a) ∧ But F w w' := by
  obtain ⟨v, m, es, clk, hi⟩ := h
  have hl : Led w F p l := ⟨v, m, es, clk, hi⟩
  have no : ∀ c : Int, c ≠ 0 → addE l a = c → Ret 32 #[ledP p, atV a] w (.int .i64 c) → Calls Tryz.prog 32 #[ledP p, atV a] w fun e w' => e = .returned (.int .i64 (addE l a)) ∧ Led w' (fun b => F b ∨ FreshL w w' b) p (addL l a) ∧ But F w w' := by
    intro c hc he hr
    refine Calls.mono hr ?_
    rintro e w' ⟨rfl, hb⟩
    rw [he, addL_no (by rw [he]; exact hc)]
    exact ⟨rfl, led_same hl hb⟩
  cases hk : aOk a with
  | false => exact no 2 (by decide) (by unfold addE; rw [if_pos hk]) (ladd_arg a hg w hi hk)
  | true =>
    have e0 : ¬ aOk a = false := by rw [hk]; decide
    by_cases hempty : l = []
    · have he : addE l a = 0 := by unfold addE; rw [if_neg e0, hempty]; rfl
      rw [he, addL_ok he]
      exact ladd_ok0 a hg w hi hk hempty
    · obtain ⟨N, hN⟩ : ∃ N, l.length = N + 1 := ⟨l.length - 1, by have := List.length_pos_iff.2 hempty; omega⟩
      have hlen := hi.len
      obtain ⟨x, hx⟩ : ∃ x, l.getLast? = some x := ⟨l.getLast hempty, List.getLast?_eq_some_getLast hempty⟩
      have hall : ∀ {P : AtR → Prop}, P x → ∀ y, l.getLast? = some y → P y := fun hP y hy => by rw [hx] at hy; cases hy; exact hP
      by_cases hlt : a.at_ < x.at_
      · exact no 8 (by decide) (by unfold addE; rw [if_neg e0, hx, if_pos (by simp [hlt])]) (ladd_state a hg w hi hk hN (by omega) (hall hlt))
      · have e1 : ¬ (l.getLast?.map fun b => decide (a.at_ < b.at_)) = some true := by rw [hx]; simpa using hlt
        by_cases hfull : 10000 ≤ N + 1
        · exact no 4 (by decide) (by unfold addE; rw [if_neg e0, if_neg e1, if_pos (by omega)]) (ladd_full a hg w hi hk hN hfull (by omega) (hall hlt))
        · have he : addE l a = 0 := by unfold addE; rw [if_neg e0, if_neg e1, if_neg (by omega)]
          rw [he, addL_ok he]
          exact ladd_ok1 a hg w hi hk hN (by omega) (hall hlt)
/-- What an iterator over a resource's attempts looks at. -/
structure OfEnv (W : World) (n0 bL bO p : Nat) (F : Nat → Prop) (k i g : Int) (L : List AtR) (v : Value) (m : Nat) (es : List En) (clk : Nat) : Prop where
  rL : Row W bL #[ledP p] 48
  rO : Row W bO #[.int .i64 k, .int .i64 i, .int .u32 g] 41
  led : LedIs W F p L v m es clk
  nL : bL < n0
  nO : bO < n0
  nF : ∀ b, F b → b < n0
theorem OfEnv.on {W W' : World} {n0 bL bO p : Nat} {F : Nat → Prop} {k i g : Int} {L : List AtR} {v : Value} {m : Nat} {es : List En} {clk : Nat} (h : OfEnv W n0 bL bO p F k i g L v m es clk) (hs : W.heap.size ≤ W'.heap.size) (hb : ∀ b, b < n0 → W'.heap[b]? = W.heap[b]?) : OfEnv W' n0 bL bO p F k i g L v m es clk where
  rL := ⟨(hb bL h.nL).trans h.rL.eq⟩
  rO := ⟨(hb bO h.nO).trans h.rO.eq⟩
  led := h.led.via hs (fun b hF => hb b (h.nF b hF))
  nL := h.nL
  nO := h.nO
  nF := h.nF
theorem OfEnv.below {W W' : World} {n0 bL bO p : Nat} {F : Nat → Prop} {k i g : Int} {L : List AtR} {v : Value} {m : Nat} {es : List En} {clk : Nat} (h : OfEnv W n0 bL bO p F k i g L v m es clk) (hb : Below n0 W W') : OfEnv W' n0 bL bO p F k i g L v m es clk := h.on hb.size (fun b hlt => hb.block b hlt)
theorem ofL_pre {k i g : Int} {L : List AtR} {j : Nat} (h : j < (ofL k i g L).length) : (ofL k i g L).take j ++ [(ofL k i g L)[j]] = (ofL k i g L).take (j + 1) := (List.take_succ_eq_append_getElem h).symm
/-- What the round of one attempt reads. -/
theorem round_cells {W : World} {F : Nat → Prop} {p : Nat} {L : List AtR} {v : Value} {m : Nat} {es : List En} {clk : Nat} (h : LedIs W F p L v m es clk) (k i g : Int) {j : Nat} (hj : j < (ofL k i g L).length) :
    ∃ g2 c2 q g1 c1, atE k i g es = .slice (some ⟨g2, 0, none⟩) (ofL k i g L).length c2 ∧ W.cell? ⟨g2, j, none⟩ = some (.int .i64 (q : Nat)) ∧ q < L.length ∧ v = .slice (some ⟨g1, 0, none⟩) L.length c1 ∧
      W.cell? ⟨g1, q * 6, none⟩ = some (.int .i64 (ofL k i g L)[j].at_) ∧ W.cell? ⟨g1, q * 6 + 1, none⟩ = some (.int .i64 (ofL k i g L)[j].k) ∧ W.cell? ⟨g1, q * 6 + 2, none⟩ = some (.int .i64 (ofL k i g L)[j].i) ∧ W.cell? ⟨g1, q * 6 + 3, none⟩ = some (.int .u32 (ofL k i g L)[j].g) ∧ W.cell? ⟨g1, q * 6 + 4, none⟩ = some (.int .i64 (ofL k i g L)[j].why) ∧ W.cell? ⟨g1, q * 6 + 5, none⟩ = some (.int .i64 (ofL k i g L)[j].ans) := by
  obtain ⟨ho, _⟩ := h.at_ k i g
  have hlen := posL_len k i g L
  rcases ho.form with ⟨_, h1⟩ | ⟨g2, c2, h1, h2, h3⟩
  · rw [← hlen, h1] at hj
    simp at hj
  · have hjp : j < (posL k i g L).length := by rw [hlen]; exact hj
    obtain ⟨q, hq⟩ : ∃ q, (posL k i g L)[j]? = some q := ⟨_, List.getElem?_eq_getElem hjp⟩
    obtain ⟨q1, q2⟩ := posL_get hq
    rw [List.getElem?_eq_getElem hj] at q2
    rcases h.own.holds with ⟨_, h4⟩ | ⟨g1, o1, c1, h4, h5⟩
    · rw [h4] at q1; simp at q1
    have ho0 : o1 = 0 := by
      rcases h.own.2 with ⟨h6, _⟩ | ⟨g3, cap, cur, h6, _⟩
      · rw [h6] at h4; cases h4
      · rw [h6] at h4; injection h4 with h4; injection h4 with h4; injection h4 with _ h4; exact h4.symm
    subst ho0
    have s6 := HoldsA.six (h5 q _ q2)
    rw [Nat.zero_add] at s6
    refine ⟨g2, c2, q, g1, c1, by rw [h1, hlen], h3 j q hq, q1, h4, s6⟩
theorem atE_slice {W : World} {F : Nat → Prop} {p : Nat} {L : List AtR} {v : Value} {m : Nat} {es : List En} {clk : Nat} (h : LedIs W F p L v m es clk) (k i g : Int) : ∃ a c, atE k i g es = .slice a (ofL k i g L).length c := by
  obtain ⟨ho, _⟩ := h.at_ k i g
  rw [← posL_len]
  rcases ho.form with ⟨h1, h2⟩ | ⟨g2, c2, h1, _⟩
  · rw [h1, h2]; exact ⟨_, _, rfl⟩
  · exact ⟨_, _, h1⟩
attribute [local go_sem] Oper.semAt_some
theorem of1_in (n : Nat) (hn : 1 ≤ n) (l n0 bL bO p : Nat) (F : Nat → Prop) (k i g : Int) (L : List AtR) (v : Value) (m : Nat) (es : List En) (clk : Nat) (J Jx : List AtR → World → Prop) (W : World)
    (hJd : ∀ s W, J s W → J s W.drew)
    (hY : ∀ pre x W1, J pre W1 → pre.length < 10001 → YieldAt Fence.wide (n - 1) Tryz.prog l #[atV x] W1 fun e W' => (e = .returned (.bool true) ∧ J (pre ++ [x]) W' ∧ Below n0 W1 W') ∨ (e = .returned (.bool false) ∧ Jx (pre ++ [x]) W'))
    (hE : OfEnv W n0 bL bO p F k i g L v m es clk) (h0 : J [] W) :
    CallsIn Fence.wide n Tryz.prog 108 #[.func (.yield l) #[] #[], .pointer (some ⟨bL, 0, none⟩), .pointer (some ⟨bO, 0, none⟩)] W fun e W' => (∃ v, e = .returned v) ∧
      ((∃ ys, ys = ofL k i g L ∧ J ys W') ∨ (∃ pre, pre <+: ofL k i g L ∧ Jx pre W')) := by
  have HJ := Lib.hid hJd
  have HY := Lib.hid hY
  have HE := Lib.hid hE
  have CM := Lib.hid (fun W (hr : Row W p #[v, .map (some m)] LedT) => lmade_c hr)
  clear hJd hY hE
  refine callsIn_of_wp Tryz.func108 rfl trivial ?_ rfl
  simp only [Tryz.ntmps108, List.size_toArray, List.length_cons, List.length_nil, Nat.reduceAdd, Nat.reduceSub, Array.replicate_succ, Array.replicate_zero, List.push_toArray, List.append_toArray, List.nil_append, List.cons_append]
  have y0 := HE.out.rL.cell
  gi_wp2_with fail
  refine ⟨trivial, ?_⟩
  gi_at_call 73
  refine (callsIn_wide.2 (CM.out _ HE.out.led.row)).mono ?_
  rintro e w1 ⟨rfl, hw⟩
  have hw' := hw.symm
  subst hw'
  gi_wp2_with fail
  have hE1 : OfEnv W.drew n0 bL bO p F k i g L v m es clk := HE.out.on (Nat.le_refl _) (fun b _ => rfl)
  have hJ1 := HJ.out _ _ h0
  refine wpIn_wide.2 ?_
  refine wp_region_held_drew (S := fun W' => (∀ j, W'.cell? ⟨bL, j, none⟩ = (#[ledP p] : Array Value)[j]?) ∧ (∀ j, W'.cell? ⟨bO, j, none⟩ = (#[.int .i64 k, .int .i64 i, .int .u32 g] : Array Value)[j]?) ∧ (∀ j, W'.cell? ⟨p, j, none⟩ = (#[v, .map (some m)] : Array Value)[j]?)) (by kernel_rfl) ⟨hE1.rL.cell, hE1.rO.cell, hE1.led.row.cell⟩ (fun hHeld => ?_)
  clear HE h0 y0
  generalize W.drew = X at *
  obtain ⟨a4, c4, hAE⟩ := atE_slice hE1.led k i g
  have hlk := run_lookup_o hE1.led.mp k i g
  rw [hAE] at hlk
  obtain ⟨KN, hK0⟩ : ∃ KN, (ofL k i g L).length = KN := ⟨_, rfl⟩
  rw [hK0] at hlk hAE
  have hKL : KN ≤ 10000 := by rw [← hK0]; exact Nat.le_trans (ofL_len _ _ _ _) hE1.led.len
  have HKL := Lib.hid hK0
  have HAE := Lib.hid hAE
  have H3 := Lib.hid (show _ ∧ _ ∧ _ from ⟨hE1.rL.cell, hE1.rO.cell, hE1.led.row.cell⟩)
  clear hK0 hAE
  refine' wpAnyH_take (i := 0) (oi := _) (v := _) ?_ (by kernel_rfl) (by kernel_rfl) (by kernel_rfl) ?_ (Or.inl ⟨?_, ?_⟩) (by assumption) ?_
  rotate_left 2
  · (simp only [List.getElem?_toArray, List.getElem?_cons_succ, List.getElem?_cons_zero]; rfl)
  · first | exact fun _ _ _ h => h | exact fun _ _ _ h => nomatch h.1
  · rfl
  · (intro W hSW; (try dsimp only at hSW); go_split_ands; first | (go_simp; done) | (go_simp; with_reducible rfl))
  try simp only [Act.put, List.setIfInBounds_toArray, List.set_cons_zero, List.set_cons_succ]
  refine' wpAnyH_take (i := 1) (oi := _) (v := _) ?_ (by kernel_rfl) (by kernel_rfl) (by kernel_rfl) ?_ (Or.inl ⟨?_, ?_⟩) (by assumption) ?_
  rotate_left 2
  · (simp only [List.getElem?_toArray, List.getElem?_cons_succ, List.getElem?_cons_zero]; rfl)
  · first | exact fun _ _ _ h => h | exact fun _ _ _ h => nomatch h.1
  · rfl
  · (intro W hSW; (try dsimp only at hSW); go_split_ands; first | (go_simp; done) | (go_simp; with_reducible rfl))
  try simp only [Act.put, List.setIfInBounds_toArray, List.set_cons_zero, List.set_cons_succ]
  refine' wpAnyH_take (i := 2) (oi := _) (v := _) ?_ (by kernel_rfl) (by kernel_rfl) (by kernel_rfl) ?_ (Or.inl ⟨?_, ?_⟩) (by assumption) ?_
  rotate_left 2
  · (simp only [List.getElem?_toArray, List.getElem?_cons_succ, List.getElem?_cons_zero]; rfl)
  · first | exact fun _ _ _ h => h | exact fun _ _ _ h => nomatch h.1
  · rfl
  · (intro W hSW; (try dsimp only at hSW); go_split_ands; first | (go_simp; done) | (go_simp; with_reducible rfl))
  try simp only [Act.put, List.setIfInBounds_toArray, List.set_cons_zero, List.set_cons_succ]
  refine' wpAnyH_take (i := 3) (oi := _) (v := _) ?_ (by kernel_rfl) (by kernel_rfl) (by kernel_rfl) ?_ (Or.inl ⟨?_, ?_⟩) (by assumption) ?_
  rotate_left 2
  · (simp only [List.getElem?_toArray, List.getElem?_cons_succ, List.getElem?_cons_zero]; rfl)
  · first | exact fun _ _ _ h => h | exact fun _ _ _ h => nomatch h.1
  · rfl
  · (intro W hSW; (try dsimp only at hSW); go_split_ands; first | (go_simp; done) | (go_simp; with_reducible rfl))
  try simp only [Act.put, List.setIfInBounds_toArray, List.set_cons_zero, List.set_cons_succ]
  refine' wpAnyH_take (i := 4) (oi := _) (v := _) ?_ (by kernel_rfl) (by kernel_rfl) (by kernel_rfl) ?_ (Or.inl ⟨?_, ?_⟩) (by assumption) ?_
  rotate_left 2
  · (simp only [List.getElem?_toArray, List.getElem?_cons_succ, List.getElem?_cons_zero]; rfl)
  · first | exact fun _ _ _ h => h | exact fun _ _ _ h => nomatch h.1
  · rfl
  · (intro W hSW; (try dsimp only at hSW); go_split_ands; first | (go_simp; done) | (go_simp; with_reducible rfl))
  try simp only [Act.put, List.setIfInBounds_toArray, List.set_cons_zero, List.set_cons_succ]
  refine' wpAnyH_take (i := 7) (oi := _) (v := _) ?_ (by kernel_rfl) (by kernel_rfl) (by kernel_rfl) ?_ (Or.inl ⟨?_, ?_⟩) (by assumption) ?_
  rotate_left 2
  · (simp only [List.getElem?_toArray, List.getElem?_cons_succ, List.getElem?_cons_zero]; rfl)
  · first | exact fun _ _ _ h => h | exact fun _ _ _ h => nomatch h.1
  · rfl
  · (intro W hSW; (try dsimp only at hSW); go_split_ands; first | (go_simp; done) | (go_simp; with_reducible rfl))
  try simp only [Act.put, List.setIfInBounds_toArray, List.set_cons_zero, List.set_cons_succ]
  clear hHeld
  refine wpAnyH_ready (rs := [5]) (by kernel_rfl) (by simp) ?_
  refine' AllReadyH.cons (o := _) ?_ (fun K hK => ?_) AllReadyH.nil
  rotate_left 1
  · (simp only [List.getElem?_toArray, List.getElem?_cons_succ, List.getElem?_cons_zero]; rfl)
  go_simp
  refine hK.out _ _ H3.out (fun hHeld => ?_)
  clear hK K
  refine' wpAnyH_take (i := 6) (oi := _) (v := _) ?_ (by kernel_rfl) (by kernel_rfl) (by kernel_rfl) ?_ (Or.inl ⟨?_, ?_⟩) (by assumption) ?_
  rotate_left 2
  · (simp only [List.getElem?_toArray, List.getElem?_cons_succ, List.getElem?_cons_zero]; rfl)
  · first | exact fun _ _ _ h => h | exact fun _ _ _ h => nomatch h.1
  · rfl
  · (intro W hSW; (try dsimp only at hSW); go_split_ands; first | (go_simp; done) | (go_simp; with_reducible rfl))
  try simp only [Act.put, List.setIfInBounds_toArray, List.set_cons_zero, List.set_cons_succ]
  clear hHeld
  refine wpAnyH_done (by kernel_rfl) ?_ _
  clear H3 hlk
  have HE1 := Lib.hid hE1
  have HJ1 := Lib.hid hJ1
  clear hE1 hJ1
  gi_wp2_with fail
  gi_loopw [16] (fun iv wr => ∃ j : Nat, j ≤ KN ∧ iv = .int .i64 j ∧ J ((ofL k i g L).take j) wr ∧ OfEnv wr n0 bL bO p F k i g L v m es clk) (fun iv _ => KN - (intOf iv).toNat)
  case atStart => exact ⟨0, by omega, rfl, by rw [List.take_zero]; exact HJ1.out, HE1.out⟩
  case round =>
    obtain ⟨j, hj, rfl, hJj, hEj⟩ := hrel
    clear HE1 HJ1
    by_cases hlt : j < KN
    · have hjl : j < (ofL k i g L).length := by rw [HKL.out]; exact hlt
      obtain ⟨g2, c2, q, g1, c1, e1, hcj, hq, e2, x0, x1, x2, x3, x4, x5⟩ := round_cells hEj.led k i g hjl
      rw [HAE.out, HKL.out] at e1
      injection e1 with e3 e4 e5
      subst e3
      subst e5
      have hpre := ofL_pre hjl
      have hlen : ((ofL k i g L).take j).length < 10001 := by rw [List.length_take]; omega
      obtain ⟨x, hx⟩ : ∃ x, x = (ofL k i g L)[j] := ⟨_, rfl⟩
      rw [← hx] at x0 x1 x2 x3 x4 x5 hpre
      have hYY := HY.out _ x _ hJj hlen
      rw [hpre] at hYY
      obtain ⟨fn, tmps, assign, body, hy, hR⟩ := hYY
      have HR := Lib.hid hR
      have HEj := Lib.hid hEj
      have rp := hEj.led.row
      rw [e2] at rp
      have yL := hEj.rL.cell
      have yp := rp.cell
      have hqi : (q : Int) < (L.length : Int) := by omega
      have hq0 : (0 : Int) ≤ (q : Int) := by omega
      have hji : (j : Int) < (KN : Int) := by omega
      have hj0 : (0 : Int) ≤ (j : Int) := by omega
      clear hR hJj hEj e2 hx hpre hlen hjl rp e4 HY
      gi_wp2_with fail
      refine HR.out.mono ?_
      rintro e W3 (⟨rfl, hJ3, hk3⟩ | ⟨rfl, hJx3⟩)
      · have HJ3 := Lib.hid hJ3
        have HE3 := Lib.hid (HEj.out.below hk3)
        clear hJ3 hk3 HEj HR
        gi_wp2
        go_roundw
        case rel => exact ⟨j + 1, by omega, by go_num, HJ3.out, HE3.out⟩
        case measure => simp [intOf]; omega
      · have HJ3 := Lib.hid hJx3
        clear hJx3 HEj HR
        gi_wp2
        refine bodyPost_ret (results_none rfl _ _ _) rfl ?_
        exact ⟨⟨_, rfl⟩, .inr ⟨_, List.take_prefix _ _, HJ3.out⟩⟩
    · obtain rfl : j = KN := by omega
      have HJ3 := Lib.hid hJj
      clear hJj
      gi_wp2
      go_end0
      refine ⟨⟨_, rfl⟩, .inl ⟨_, ?_, HJ3.out⟩⟩
      rw [List.take_of_length_le (by rw [HKL.out]; exact Nat.le_refl _)]
end Go.Proofs.YtinlfheonlpceaaGreatDoor

/- slices.Collect of a resource's attempts; Of (chapter 07). -/
namespace Go.Proofs.YtinlfheonlpceaaGreatDoor
open Go.RowKit Go.Shelf
set_option linter.unusedVariables false
set_option linter.unusedSimpArgs false
set_option maxHeartbeats 16000000
set_option maxRecDepth 20000
attribute [local go_sem] Oper.semAt_some
theorem grown_drewL (W : World) : W.grownBy W.drew none := ⟨rfl, rfl, rfl, Nat.le_refl _, fun _ _ _ => rfl⟩
theorem of_stops (m : Nat) (hm : 1 ≤ m) (n0 bL bO p : Nat) (F : Nat → Prop) (k i g : Int) (L : List AtR) (v : Value) (mp : Nat) (es : List En) (clk : Nat) (w : World) (hE : OfEnv w n0 bL bO p F k i g L v mp es clk) (hn0 : n0 ≤ w.heap.size) :
    SeqStopsK Fence.wide m Tryz.prog 108 #[.pointer (some ⟨bL, 0, none⟩), .pointer (some ⟨bO, 0, none⟩)] (fun x : AtR => #[atV x]) (Below n0) (fun ys => ys = ofL k i g L) (fun pre => pre <+: ofL k i g L) 10001 w := fun l J Jx W hW hJ hJx hY h0 =>
  of1_in m hm l n0 bL bO p F k i g L v mp es clk J Jx W (fun s W h => hJ s W _ none h (grown_drewL W) (fun r e => by cases e)) hY (hE.on hW.size (fun b hb => hW.block b (Nat.lt_of_lt_of_le hb hn0))) h0
theorem of_c (p : Nat) (k i g : Int) (w : World) : Calls Tryz.prog 78 #[ledP p, oV k i g] w fun e w' => e = .returned (.func (.func 108) #[] #[.pointer (some ⟨w.heap.size, 0, none⟩), .pointer (some ⟨w.heap.size + 1, 0, none⟩)]) ∧ w' = (w.alloc (.cells #[ledP p] 48)).alloc (.cells #[.int .i64 k, .int .i64 i, .int .u32 g] 41) := by
  go_enter Tryz.func78, Tryz.ntmps78
  go_wp2_with fail
  go_returns
  exact ⟨by simp, rfl⟩
/-- What lies there behind 'of'. -/
theorem of_env {w : World} {p : Nat} {F : Nat → Prop} {L : List AtR} {v : Value} {mp : Nat} {es : List En} {clk : Nat} (h : LedIs w F p L v mp es clk) (k i g : Int) : ∃ W, W = (w.alloc (.cells #[ledP p] 48)).alloc (.cells #[.int .i64 k, .int .i64 i, .int .u32 g] 41) ∧ Below w.heap.size w W ∧ OfEnv W W.heap.size w.heap.size (w.heap.size + 1) p F k i g L v mp es clk := by
  have hb1 := below_alloc w (.cells #[ledP p] 48)
  have hb2 := below_alloc (w.alloc (.cells #[ledP p] 48)) (.cells #[.int .i64 k, .int .i64 i, .int .u32 g] 41)
  have r1 := (Row.new (W := w) (cs := #[ledP p]) (t := 48)).on hb2
  have r2 := Row.new (W := w.alloc (.cells #[ledP p] 48)) (cs := #[.int .i64 k, .int .i64 i, .int .u32 g]) (t := 41)
  have hs : (w.alloc (.cells #[ledP p] 48)).heap.size = w.heap.size + 1 := by simp
  rw [hs] at r2
  have hB := chain hb1 hb2
  refine ⟨_, rfl, hB, ⟨r1, r2, h.on hB, r1.lt, r2.lt, fun b hb => Nat.lt_of_lt_of_le (h.fin b hb) hB.size⟩⟩
theorem append_seq_c (bL bO p : Nat) (F : Nat → Prop) (k i g : Int) (L : List AtR) (v : Value) (mp : Nat) (es : List En) (clk : Nat) (w : World) (hE : OfEnv w w.heap.size bL bO p F k i g L v mp es clk) :
    Calls Tryz.prog 107 #[.slice none 0 0, .func (.func 108) #[] #[.pointer (some ⟨bL, 0, none⟩), .pointer (some ⟨bO, 0, none⟩)]] w fun e w' => ∃ u, e = .returned u ∧ OwnsA w.heap.size w' u (ofL k i g L) ∧ Below w.heap.size w w' := by
  obtain ⟨i0, hi, hz0, hz1, hz2⟩ := info_parts at_info
  have HI0 := Lib.hid hi
  have HZ0 := Lib.hid hz0
  have HZ1 := Lib.hid hz1
  have HZ2 := Lib.hid hz2
  have HE := Lib.hid hE
  clear hi hz0 hz1 hz2 hE
  refine (callsIn_wide (n := 3)).1 ?_
  refine callsIn_of_wp_marks Tryz.func107 rfl trivial ?_ rfl
  simp only [Tryz.ntmps107, List.size_toArray, List.length_cons, List.length_nil, Nat.reduceAdd, Nat.reduceSub, Array.replicate_succ, Array.replicate_zero, List.push_toArray, List.append_toArray, List.nil_append, List.cons_append]
  refine wpIn_wide.2 ?_
  go_wp2_with fail
  have hb0 := below_alloc w (.cells #[.slice none 0 0] 26)
  have r0 := Row.new (W := w) (cs := #[.slice none 0 0]) (t := 26)
  have hE0 := HE.out.below hb0
  generalize w.alloc (.cells #[.slice none 0 0] 26) = W0 at *
  have hro : Fence.wide.round = none := rfl
  have hsz := r0.lt
  refine wpIn_wide.1 (?_ : Code.wpIn Fence.wide 3 _ _ _ _ _)
  refine wpIn_rangeFunc_ownH hro (by omega) (gf := 108) (lb := #[.pointer (some ⟨bL, 0, none⟩), .pointer (some ⟨bO, 0, none⟩)]) rfl trivial (enters_of Tryz.func108 (by kernel_rfl) rfl)
    (of_stops 2 (by omega) w.heap.size bL bO p F k i g L v mp es clk W0 hE0 hb0.size) belowK_t (belowK_b (by omega)) (Below.refl _ _) (fun _ => rfl)
    (fun pre W => (∃ u, Row W w.heap.size #[u] 26 ∧ OwnsA (w.heap.size + 1) W u pre) ∧ Below w.heap.size w W)
    (fun _ _ _ => False)
    (OwnFrom.and (Own.from (fun s A B row hs hg hr => by
      obtain ⟨u, h1, h2⟩ := hs
      refine ⟨u, row_kept h1 hg hr, h2.via (fun k hk => ?_)⟩
      obtain ⟨cur, hc⟩ := ownA_block h2 hk
      refine hg.block k (h2.lt k hk).2 (fun e' => ?_)
      obtain ⟨o, ho, hcc⟩ := hr k e'.symm
      rw [hc] at ho
      cases ho
      cases hcc) _) (ownFrom_below (Nat.le_refl _) (by omega)))
    (fun _ _ _ _ _ hs _ _ => hs)
    ⟨⟨_, r0, OwnsA.nil _ _⟩, hb0⟩
    (fun x a' W => ∃ Bx, w.heap.size < Bx ∧ Row W Bx (atC x) 43 ∧ a' = { tmps := #[.slice none 0 0, .func (.func 108) #[] #[.pointer (some ⟨bL, 0, none⟩), .pointer (some ⟨bO, 0, none⟩)], .pointer (some ⟨w.heap.size, 0, none⟩), undef, .slice none 0 0, .pointer (some ⟨Bx, 0, none⟩), .func (.func 108) #[] #[.pointer (some ⟨bL, 0, none⟩), .pointer (some ⟨bO, 0, none⟩)], atV x, undef, undef, undef, undef, undef], defers := [] })
    (fun x a' _ X Y row hs hg hr => by obtain ⟨Bx, h1, h2, h3⟩ := hs; exact ⟨Bx, h1, row_kept h2 hg (fun r e => (hr r e).2), h3⟩)
    ?assign ?body ?done ?stop
  case assign =>
    rintro l pre x W K ⟨⟨u, q1, q2⟩, hB⟩ hK
    have z1 := q1.lt
    gi_wp2
    have kb := below_alloc W (.cells (atC x) 43)
    exact hK _ _ ((KeepsOthers.alloc _ _).from _) ((Below.refl _ W).alloc hB.size _) ⟨⟨u, q1.on kb, q2.on kb⟩, hB.alloc hB.size _⟩ ⟨W.heap.size, z1, Row.new, rfl⟩
  case body =>
    rintro l pre x a' W hl ⟨r, hr⟩ ⟨⟨u, q1, q2⟩, hB⟩ ⟨Bx, hBx, qx, rfl⟩ hlt
    have z1 := q1.lt
    have zx := qx.lt
    have y1 := q1.cell 0
    have u1 := q1.free 0
    have yx := qx.cell
    have hwz := hB.size
    have hle : w.heap.size + 1 ≤ W.heap.size := by omega
    have kb := below_alloc W (.cells (atC x) 43)
    have q3 := q2.on kb
    have q4 := q1.on kb
    have hsrc := at_src W x
    have Q3 := Lib.hid q3
    have Q4 := Lib.hid q4
    have HSRC := Lib.hid hsrc
    clear q2 q3 q4 hsrc q1 kb
    gi_wp2_with (gi_at_builtin; refine wpListIn_append_own _ rfl _ _ 26 rfl (w.heap.size + 1) 43 i0 (.agg #[.int .i64 0, .int .i64 0, .int .i64 0, .int .u32 0, .int .i64 0, .int .i64 0]) 6 48 Tryz.underlying26 HI0.out HZ0.out HZ1.out HZ2.out rfl (by decide) _ _ _ rfl Q3.out ⟨W.heap.size, 0, none⟩ 1 1 (atL x) rfl rfl HSRC.out (by intro u hu; simp at hu; rcases hu with rfl | rfl | rfl | rfl | rfl | rfl <;> rfl) (by unfold maxLen; omega) (by omega) (by first | (simp; done) | (simp; omega)) ?_; intro v' w1 hown' hgrow hnil; obtain ⟨g', cap', rfl⟩ := ownsRow_succ hown'; have hlo : ∀ k, u.ownBlock = some k → w.heap.size + 1 ≤ k := fun k hk => (World.ownsRow.lt Q3.out _ hk).1; have hrow5 := row_grown Q4.out hgrow (fun e => by have := hlo _ e; omega); have y5 := hrow5.cell 0; have u5 := hrow5.free 0; have HOWN := Lib.hid hown'; have HGR := Lib.hid hgrow; have HR5 := Lib.hid hrow5; clear hown' hgrow hnil hrow5)
    have hlo : ∀ k, u.ownBlock = some k → w.heap.size + 1 ≤ k := fun k hk => (World.ownsRow.lt Q3.out _ hk).1
    have kk := (KeepsOthers.alloc W (.cells (atC x) 43)).trans (KeepsOthers.of_grownBy HGR.out (fun j o hj ho => by
      obtain ⟨cur, hc⟩ := ownA_block Q3.out hj
      rw [hc] at ho
      cases ho
      rfl))
    have hB6 := ((Below.refl w.heap.size W).alloc hB.size (.cells (atC x) 43)).grown HGR.out (by first | (simp; done) | (simp; omega)) (fun k hk => by have := hlo k hk; omega)
    have hBz := hB6.setCell (p := ⟨w.heap.size, 0, none⟩) (Nat.le_refl _) (.slice (some ⟨g', 0, none⟩) (pre.length + 1) cap')
    have ho : OwnsA (w.heap.size + 1) w1 (.slice (some ⟨g', 0, none⟩) (pre.length + 1) cap') (pre ++ [x]) := by
      unfold OwnsA
      rw [cellsA_snoc, List.length_append]
      exact HOWN.out
    refine ⟨(kk.trans (KeepsOthers.setCell _ _ _)).from _, hBz, ⟨_, HR5.out.set 0 (.slice (some ⟨g', 0, none⟩) (pre.length + 1) cap'), ownA_setCell ho (fun e => by have := (ho.lt _ e).1; omega) _ _⟩, hB.trans hBz⟩
  case done =>
    rintro D zs W hD rfl ⟨⟨u, q1, q2⟩, hB⟩ hK
    have y1 := q1.cell 0
    go_wp2_with fail
    refine ⟨by simp, .inl ⟨_, _, rfl, run_takeDeferred hK, ?_⟩⟩
    have q2' : OwnsA (w.heap.size + 1) (W.putObj D (.deferred none)) u (ofL k i g L) := ownsRow_putObj q2 _ hK rfl
    refine ⟨u, ?_, ⟨u, rfl, q2'.base (by omega), hB.trans (belowK_b (w := w) (Nat.le_refl _) W D _ _ (by omega) hK rfl rfl)⟩⟩
    simp [results, Tryz.f107, Tryz.results107, go_sem]
  case stop =>
    rintro D c pre W _ _ h _
    exact h.elim
end Go.Proofs.YtinlfheonlpceaaGreatDoor

/- Of, find, Ended, First of a ledger (chapter 07): their contracts. -/
namespace Go.Proofs.YtinlfheonlpceaaGreatDoor
open Go.RowKit Go.Shelf
set_option linter.unusedVariables false
set_option linter.unusedSimpArgs false
set_option maxHeartbeats 16000000
set_option maxRecDepth 20000
attribute [local go_sem] Oper.semAt_some
section
variable {F : Nat → Prop} {p : Nat} {L : List AtR} {v : Value} {mp : Nat} {es : List En} {clk : Nat}
theorem collect_c (bL bO p : Nat) (F : Nat → Prop) (k i g : Int) (L : List AtR) (v : Value) (mp : Nat) (es : List En) (clk : Nat) (w : World) (hE : OfEnv w w.heap.size bL bO p F k i g L v mp es clk) :
    Calls Tryz.prog 77 #[.func (.func 108) #[] #[.pointer (some ⟨bL, 0, none⟩), .pointer (some ⟨bO, 0, none⟩)]] w fun e w' => ∃ u, e = .returned u ∧ OwnsA w.heap.size w' u (ofL k i g L) ∧ Below w.heap.size w w' := by
  have C := Lib.hid (append_seq_c bL bO p F k i g L v mp es clk w hE)
  clear hE
  go_enter Tryz.func77, Tryz.ntmps77
  go_wp2_with fail
  refine Calls.mono C.out ?_
  rintro e V3 ⟨u, rfl, ho, hb3⟩
  have HO := Lib.hid ho
  clear ho
  go_wp2_with fail
  go_returns
  exact ⟨u, rfl, HO.out, hb3⟩
theorem lof_c (k i g : Int) (w : World) (h : LedIs w F p L v mp es clk) : Calls Tryz.prog 31 #[ledP p, oV k i g] w fun e w' => ∃ u, e = .returned u ∧ OwnsA w.heap.size w' u (ofL k i g L) ∧ Below w.heap.size w w' := by
  have HH := Lib.hid h
  clear h
  go_enter Tryz.func31, Tryz.ntmps31
  go_wp2_with fail
  have hb := below_alloc w (.cells #[.int .i64 k, .int .i64 i, .int .u32 g] 41)
  generalize w.alloc (.cells #[.int .i64 k, .int .i64 i, .int .u32 g] 41) = V at *
  refine Calls.mono (of_c p k i g V) ?_
  rintro e V1 ⟨rfl, hW⟩
  obtain ⟨V2, hV2, hb2, hE⟩ := of_env (HH.out.on hb) k i g
  rw [← hV2] at hW
  subst hW
  clear hV2
  have hB := chain hb hb2
  go_wp2_with fail
  refine Calls.mono (collect_c _ _ p F k i g L v mp es clk _ hE) ?_
  rintro e V3 ⟨u, rfl, ho, hb3⟩
  have HO := Lib.hid (ho.base hB.size)
  have hB3 := chain hB hb3
  clear ho
  go_wp2_with fail
  go_returns
  exact ⟨u, rfl, HO.out, hB3⟩
def qEnd (a : AtR) : Bool := decide (a.ans ≠ 2)
def qAll (_ : AtR) : Bool := true
theorem ended1_c (a : AtR) (w : World) : Ret 75 #[atV a] w (.bool (qEnd a)) := by
  unfold qEnd
  by_cases h : a.ans = 2
  · have h2 : (a.ans != (2 : Int)) = false := by rw [h]; rfl
    rw [decide_eq_false (by simpa using h)]
    clear h
    go_enter Tryz.func75, Tryz.ntmps75
    go_wp2_with fail
    go_returns
    exact ⟨rfl, by go_grown⟩
  · have h2 : (a.ans != (2 : Int)) = true := by rw [bne_iff_ne]; exact h
    rw [decide_eq_true h]
    clear h
    go_enter Tryz.func75, Tryz.ntmps75
    go_wp2_with fail
    go_returns
    exact ⟨rfl, by go_grown⟩
theorem first1_c (a : AtR) (w : World) : Ret 76 #[atV a] w (.bool (qAll a)) := by
  unfold qAll
  go_enter Tryz.func76, Tryz.ntmps76
  go_wp2_with fail
  go_returns
  exact ⟨rfl, by go_grown⟩
theorem keeps_belowL {W W' : World} (hb : Below W.heap.size W W') : KeepsOthers W W' := ⟨hb.size, fun k o hk _ => (hb.block k (Array.getElem?_eq_some_iff.1 hk).1).trans hk⟩
theorem find_pre {q : AtR → Bool} {pre l : List AtR} {x : AtR} (h : pre <+: l) (hx : pre.find? q = some x) : l.find? q = some x := by
  obtain ⟨t, rfl⟩ := h
  rw [List.find?_append, hx]
  rfl
theorem six_allocs (w : World) (c0 c1 c2 c3 c4 c5 : Array Value) (t0 t1 t2 t3 t4 t5 : TypeId) : ∃ W, W = (((((w.alloc (.cells c0 t0)).alloc (.cells c1 t1)).alloc (.cells c2 t2)).alloc (.cells c3 t3)).alloc (.cells c4 t4)).alloc (.cells c5 t5) ∧ W.heap.size = w.heap.size + 6 ∧ Below w.heap.size w W ∧
    Row W (w.heap.size + 1) c1 t1 ∧ Row W (w.heap.size + 2) c2 t2 ∧ Row W (w.heap.size + 3) c3 t3 ∧ Row W (w.heap.size + 4) c4 t4 ∧ Row W (w.heap.size + 5) c5 t5 := by
  refine ⟨_, rfl, by simp, by go_grown, ?_, ?_, ?_, ?_, ?_⟩
  · have := ((((Row.new (W := w.alloc (.cells c0 t0)) (cs := c1) (t := t1)).on (below_alloc _ (.cells c2 t2))).on (below_alloc _ (.cells c3 t3))).on (below_alloc _ (.cells c4 t4))).on (below_alloc _ (.cells c5 t5))
    simpa using this
  · have := (((Row.new (W := (w.alloc (.cells c0 t0)).alloc (.cells c1 t1)) (cs := c2) (t := t2)).on (below_alloc _ (.cells c3 t3))).on (below_alloc _ (.cells c4 t4))).on (below_alloc _ (.cells c5 t5))
    simpa using this
  · have := ((Row.new (W := ((w.alloc (.cells c0 t0)).alloc (.cells c1 t1)).alloc (.cells c2 t2)) (cs := c3) (t := t3)).on (below_alloc _ (.cells c4 t4))).on (below_alloc _ (.cells c5 t5))
    simpa using this
  · have := (Row.new (W := (((w.alloc (.cells c0 t0)).alloc (.cells c1 t1)).alloc (.cells c2 t2)).alloc (.cells c3 t3)) (cs := c4) (t := t4)).on (below_alloc _ (.cells c5 t5))
    simpa using this
  · have := Row.new (W := ((((w.alloc (.cells c0 t0)).alloc (.cells c1 t1)).alloc (.cells c2 t2)).alloc (.cells c3 t3)).alloc (.cells c4 t4)) (cs := c5) (t := t5)
    simpa using this
theorem find_ended (k i g : Int) (w : World) (h : LedIs w F p L v mp es clk) : Ret 74 #[ledP p, oV k i g, .func (.func 75) #[] #[]] w (.tuple #[atV (((ofL k i g L).find? qEnd).getD at0), .bool ((ofL k i g L).find? qEnd).isSome]) := by
  have HH := Lib.hid h
  have CI := Lib.hid (fun a W => ended1_c a W)
  clear h
  refine (callsIn_wide (n := 3)).1 ?_
  refine callsIn_of_wp_marks Tryz.func74 rfl trivial ?_ rfl
  simp only [Tryz.ntmps74, List.size_toArray, List.length_cons, List.length_nil, Nat.reduceAdd, Nat.reduceSub, Array.replicate_succ, Array.replicate_zero, List.push_toArray, List.append_toArray, List.nil_append, List.cons_append]
  refine wpIn_wide.2 ?_
  go_wp2_with fail
  refine Calls.mono (of_c p k i g _) ?_
  rintro e V1 ⟨rfl, hW⟩
  subst hW
  obtain ⟨W0, hW0, hz, hB0, r5, r6, r7, rL, rO⟩ := six_allocs w #[.int .i64 k, .int .i64 i, .int .u32 g] #[.func (.func 75) #[] #[]] (atC at0) #[.bool false] #[ledP p] #[.int .i64 k, .int .i64 i, .int .u32 g] 41 71 43 4 48 41
  have hE0 : OfEnv W0 W0.heap.size (w.heap.size + 4) (w.heap.size + 5) p F k i g L v mp es clk := ⟨rL, rO, HH.out.on hB0, by omega, by omega, fun b hb => Nat.lt_of_lt_of_le (HH.out.fin b hb) hB0.size⟩
  simp only [atC, at0] at hW0
  go_wp2_with fail
  rw [← hW0]
  clear hW0
  have hro : Fence.wide.round = none := rfl
  refine wpIn_wide.1 (?_ : Code.wpIn Fence.wide 3 _ _ _ _ _)
  refine wpIn_rangeFunc_ownH hro (by omega) (gf := 108) (lb := #[.pointer (some ⟨w.heap.size + 4, 0, none⟩), .pointer (some ⟨w.heap.size + 5, 0, none⟩)]) rfl trivial (enters_of Tryz.func108 (by kernel_rfl) rfl)
    (of_stops 2 (by omega) W0.heap.size (w.heap.size + 4) (w.heap.size + 5) p F k i g L v mp es clk W0 hE0 (Nat.le_refl _)) belowK_t (belowK_b (by omega)) (Below.refl _ _) (fun _ => rfl)
    (fun pre W => (Row W (w.heap.size + 1) #[.func (.func 75) #[] #[]] 71 ∧ Row W (w.heap.size + 2) (atC at0) 43 ∧ Row W (w.heap.size + 3) #[.bool false] 4 ∧ pre.find? qEnd = none ∧ w.heap.size + 6 ≤ W.heap.size) ∧ Below w.heap.size w W)
    (fun c pre W => (c = .ret ∧ ∃ x, pre.find? qEnd = some x ∧ Row W (w.heap.size + 2) (atC x) 43 ∧ Row W (w.heap.size + 3) #[.bool true] 4) ∧ Below w.heap.size w W)
    (OwnFrom.and (Own.from (fun s A B row hs hg hr => ⟨row_kept hs.1 hg hr, row_kept hs.2.1 hg hr, row_kept hs.2.2.1 hg hr, hs.2.2.2.1, Nat.le_trans hs.2.2.2.2 hg.size⟩) _) (ownFrom_below (Nat.le_refl _) (by omega)))
    (fun c => OwnFrom.and (Own.from (fun s A B row hs hg hr => by obtain ⟨h1, x, h2, h3, h4⟩ := hs; exact ⟨h1, x, h2, row_kept h3 hg hr, row_kept h4 hg hr⟩) _) (ownFrom_below (Nat.le_refl _) (by omega)))
    ⟨⟨r5, r6, r7, rfl, by omega⟩, hB0⟩
    (fun x a' W => ∃ Bx, w.heap.size + 5 < Bx ∧ Row W Bx (atC x) 43 ∧ a' = { tmps := #[ledP p, oV k i g, .func (.func 75) #[] #[], undef, .pointer (some ⟨w.heap.size, 0, none⟩), .pointer (some ⟨w.heap.size + 1, 0, none⟩), .pointer (some ⟨w.heap.size + 2, 0, none⟩), .pointer (some ⟨w.heap.size + 3, 0, none⟩), .pointer (some ⟨Bx, 0, none⟩), ledP p, oV k i g, .func (.func 108) #[] #[.pointer (some ⟨w.heap.size + 4, 0, none⟩), .pointer (some ⟨w.heap.size + 5, 0, none⟩)], atV x, undef, undef, undef, undef, undef], defers := [] })
    (fun x a' _ X Y row hs hg hr => by obtain ⟨Bx, h1, h2, h3⟩ := hs; exact ⟨Bx, h1, row_kept h2 hg (fun r e => (hr r e).2), h3⟩)
    ?assign ?body ?done ?stop
  case assign =>
    rintro l pre x W K ⟨⟨q1, q2, q3, q4, q5⟩, hB⟩ hK
    have z1 := q1.lt
    have hwz := hB.size
    gi_wp2
    have kb := below_alloc W (.cells (atC x) 43)
    exact hK _ _ ((KeepsOthers.alloc _ _).from _) ((Below.refl _ W).alloc (by omega) _) ⟨⟨q1.on kb, q2.on kb, q3.on kb, q4, Nat.le_trans q5 kb.size⟩, hB.alloc hB.size _⟩ ⟨W.heap.size, by omega, Row.new, rfl⟩
  case body =>
    rintro l pre x a' W hl ⟨r, hr⟩ ⟨⟨q1, q2, q3, q4, q5⟩, hB⟩ ⟨Bx, hBx, qx, rfl⟩ hlt
    have Q4 := Lib.hid q4
    have hwz := hB.size
    have ci := CI.out x
    have hsnoc : (pre ++ [x]).find? qEnd = if qEnd x then some x else none := by rw [List.find?_append, q4, Option.none_or, List.find?_cons]; cases qEnd x <;> rfl
    have HSN := Lib.hid hsnoc
    clear q4 hsnoc
    have y1 := q1.cell
    have yx := qx.cell
    have zx := qx.lt
    cases hq : qEnd x with
    | false =>
      rw [hq] at ci
      have HC := Lib.hid ci
      have HQ := Lib.hid hq
      clear ci hq
      gi_wp2
      refine ⟨trivial, ?_⟩
      gi_at_call 75
      refine (CallsIn.inRound l (callsIn_wide.2 (HC.out _))).mono ?_
      rintro e w5 ⟨rfl, hb5⟩
      clear y1 yx zx
      gi_wp2
      exact ⟨(keeps_belowL hb5).from _, hb5.mono (by omega), ⟨q1.on hb5, q2.on hb5, q3.on hb5, by rw [HSN.out, HQ.out]; rfl, by have := hb5.size; omega⟩, chain hB hb5⟩
    | true =>
      rw [hq] at ci
      have HC := Lib.hid ci
      have HQ := Lib.hid hq
      clear ci hq
      gi_wp2
      refine ⟨trivial, ?_⟩
      gi_at_call 75
      refine (CallsIn.inRound l (callsIn_wide.2 (HC.out _))).mono ?_
      rintro e w5 ⟨rfl, hb5⟩
      clear y1 yx zx
      replace q2 := q2.on hb5
      replace q3 := q3.on hb5
      replace qx := qx.on hb5
      have y2 := q2.cell
      have u2 := q2.free
      have y3 := q3.cell
      have u3 := q3.free
      have yx := qx.cell
      have z2 := q2.lt
      have z3 := q3.lt
      have zx := qx.lt
      gi_wp2
      have hn23 : w.heap.size + 2 ≠ w.heap.size + 3 := by omega
      replace q3 := (((((((q3.other hn23 0 (.int .i64 x.at_)).other hn23 1 (.int .i64 x.k)).other hn23 2 (.int .i64 x.i)).other hn23 3 (.int .u32 x.g)).other hn23 4 (.int .i64 x.why)).other hn23 5 (.int .i64 x.ans)).set 0 (.bool true))
      replace q2 := (((((((q2.set 0 (.int .i64 x.at_)).set 1 (.int .i64 x.k)).set 2 (.int .i64 x.i)).set 3 (.int .u32 x.g)).set 4 (.int .i64 x.why)).set 5 (.int .i64 x.ans)).other hn23.symm 0 (.bool true))
      simp only [List.setIfInBounds_toArray, List.set_cons_zero, List.set_cons_succ] at q2 q3
      exact ⟨((((((((keeps_belowL hb5).trans (KeepsOthers.setCell _ ⟨w.heap.size + 2, 0, none⟩ (.int .i64 x.at_))).trans (KeepsOthers.setCell _ ⟨w.heap.size + 2, 1, none⟩ (.int .i64 x.k))).trans (KeepsOthers.setCell _ ⟨w.heap.size + 2, 2, none⟩ (.int .i64 x.i))).trans (KeepsOthers.setCell _ ⟨w.heap.size + 2, 3, none⟩ (.int .u32 x.g))).trans (KeepsOthers.setCell _ ⟨w.heap.size + 2, 4, none⟩ (.int .i64 x.why))).trans (KeepsOthers.setCell _ ⟨w.heap.size + 2, 5, none⟩ (.int .i64 x.ans))).trans (KeepsOthers.setCell _ ⟨w.heap.size + 3, 0, none⟩ (.bool true))).from _, ⟨rfl, x, by rw [HSN.out, HQ.out]; rfl, q2, q3⟩, ((((((((chain hB hb5).setCell (p := ⟨w.heap.size + 2, 0, none⟩) (by simp) (.int .i64 x.at_)).setCell (p := ⟨w.heap.size + 2, 1, none⟩) (by simp) (.int .i64 x.k)).setCell (p := ⟨w.heap.size + 2, 2, none⟩) (by simp) (.int .i64 x.i)).setCell (p := ⟨w.heap.size + 2, 3, none⟩) (by simp) (.int .u32 x.g)).setCell (p := ⟨w.heap.size + 2, 4, none⟩) (by simp) (.int .i64 x.why)).setCell (p := ⟨w.heap.size + 2, 5, none⟩) (by simp) (.int .i64 x.ans)).setCell (p := ⟨w.heap.size + 3, 0, none⟩) (by simp) (.bool true))⟩
  case done =>
    rintro D zs W hD rfl ⟨⟨q1, q2, q3, q4, q5⟩, hB⟩ hK
    have hn23 : w.heap.size + 2 ≠ w.heap.size + 3 := by omega
    have Q4 := Lib.hid q4
    clear q4
    have y2 := q2.cell
    have u2 := q2.free
    have y3 := q3.cell
    have u3 := q3.free
    have z2 := q2.lt
    have z3 := q3.lt
    go_wp2_with fail
    replace q3 := (((((((q3.other hn23 0 (.int .i64 0)).other hn23 1 (.int .i64 0)).other hn23 2 (.int .i64 0)).other hn23 3 (.int .u32 0)).other hn23 4 (.int .i64 0)).other hn23 5 (.int .i64 0)).set 0 (.bool false))
    replace q2 := (((((((q2.set 0 (.int .i64 0)).set 1 (.int .i64 0)).set 2 (.int .i64 0)).set 3 (.int .u32 0)).set 4 (.int .i64 0)).set 5 (.int .i64 0)).other hn23.symm 0 (.bool false))
    simp only [List.setIfInBounds_toArray, List.set_cons_zero, List.set_cons_succ] at q2 q3
    replace hB := (((((((hB.setCell (p := ⟨w.heap.size + 2, 0, none⟩) (by simp) (.int .i64 0)).setCell (p := ⟨w.heap.size + 2, 1, none⟩) (by simp) (.int .i64 0)).setCell (p := ⟨w.heap.size + 2, 2, none⟩) (by simp) (.int .i64 0)).setCell (p := ⟨w.heap.size + 2, 3, none⟩) (by simp) (.int .u32 0)).setCell (p := ⟨w.heap.size + 2, 4, none⟩) (by simp) (.int .i64 0)).setCell (p := ⟨w.heap.size + 2, 5, none⟩) (by simp) (.int .i64 0)).setCell (p := ⟨w.heap.size + 3, 0, none⟩) (by simp) (.bool false))
    have kk := ((((((KeepsOthers.setCell W ⟨w.heap.size + 2, 0, none⟩ (.int .i64 0)).trans (KeepsOthers.setCell _ ⟨w.heap.size + 2, 1, none⟩ (.int .i64 0))).trans (KeepsOthers.setCell _ ⟨w.heap.size + 2, 2, none⟩ (.int .i64 0))).trans (KeepsOthers.setCell _ ⟨w.heap.size + 2, 3, none⟩ (.int .u32 0))).trans (KeepsOthers.setCell _ ⟨w.heap.size + 2, 4, none⟩ (.int .i64 0))).trans (KeepsOthers.setCell _ ⟨w.heap.size + 2, 5, none⟩ (.int .i64 0))).trans (KeepsOthers.setCell _ ⟨w.heap.size + 3, 0, none⟩ (.bool false))
    have hK' := kk.same D _ hK rfl
    clear kk y2 u2 y3 u3 z2 z3 hK
    change bodyPostM _ _ _ _ _ _ _ (((((((W.setCell ⟨w.heap.size + 2, 0, none⟩ (.int .i64 0)).setCell ⟨w.heap.size + 2, 1, none⟩ (.int .i64 0)).setCell ⟨w.heap.size + 2, 2, none⟩ (.int .i64 0)).setCell ⟨w.heap.size + 2, 3, none⟩ (.int .u32 0)).setCell ⟨w.heap.size + 2, 4, none⟩ (.int .i64 0)).setCell ⟨w.heap.size + 2, 5, none⟩ (.int .i64 0)).setCell ⟨w.heap.size + 3, 0, none⟩ (.bool false))
    generalize ((((((W.setCell ⟨w.heap.size + 2, 0, none⟩ (.int .i64 0)).setCell ⟨w.heap.size + 2, 1, none⟩ (.int .i64 0)).setCell ⟨w.heap.size + 2, 2, none⟩ (.int .i64 0)).setCell ⟨w.heap.size + 2, 3, none⟩ (.int .u32 0)).setCell ⟨w.heap.size + 2, 4, none⟩ (.int .i64 0)).setCell ⟨w.heap.size + 2, 5, none⟩ (.int .i64 0)).setCell ⟨w.heap.size + 3, 0, none⟩ (.bool false) = X at *
    refine ⟨by simp, .inl ⟨_, _, rfl, run_takeDeferred hK', ?_⟩⟩
    have k2 := row_kept q2 (grownBy_putObj' _ D (.deferred none)) (fun r e => by cases e; exact ⟨_, hK', rfl⟩)
    have k3 := row_kept q3 (grownBy_putObj' _ D (.deferred none)) (fun r e => by cases e; exact ⟨_, hK', rfl⟩)
    have y2 := k2.cell
    have y3 := k3.cell
    refine ⟨.tuple #[atV at0, .bool false], ?_, by rw [Q4.out]; rfl, hB.trans (belowK_b (w := w) (Nat.le_refl _) X D _ _ (by omega) hK' rfl rfl)⟩
    simp [results, Tryz.f74, Tryz.results74, go_sem, y2, y3]
  case stop =>
    rintro D c pre W hD hpre ⟨⟨rfl, x, hx, q2, q3⟩, hB⟩ hK
    have hx2 := find_pre hpre hx
    have HX := Lib.hid hx2
    clear hx hx2 hpre
    gi_wp2
    refine ⟨by simp, .inl ⟨_, _, rfl, run_takeDeferred hK, ?_⟩⟩
    have k2 := row_kept q2 (grownBy_putObj' _ D (.deferred none)) (fun r e => by cases e; exact ⟨_, hK, rfl⟩)
    have k3 := row_kept q3 (grownBy_putObj' _ D (.deferred none)) (fun r e => by cases e; exact ⟨_, hK, rfl⟩)
    have y2 := k2.cell
    have y3 := k3.cell
    refine ⟨.tuple #[atV x, .bool true], ?_, by rw [HX.out]; rfl, hB.trans (belowK_b (w := w) (Nat.le_refl _) W D _ _ (by omega) hK rfl rfl)⟩
    simp [results, Tryz.f74, Tryz.results74, go_sem, y2, y3]
theorem find_first (k i g : Int) (w : World) (h : LedIs w F p L v mp es clk) : Ret 74 #[ledP p, oV k i g, .func (.func 76) #[] #[]] w (.tuple #[atV (((ofL k i g L).find? qAll).getD at0), .bool ((ofL k i g L).find? qAll).isSome]) := by
  have HH := Lib.hid h
  have CI := Lib.hid (fun a W => first1_c a W)
  clear h
  refine (callsIn_wide (n := 3)).1 ?_
  refine callsIn_of_wp_marks Tryz.func74 rfl trivial ?_ rfl
  simp only [Tryz.ntmps74, List.size_toArray, List.length_cons, List.length_nil, Nat.reduceAdd, Nat.reduceSub, Array.replicate_succ, Array.replicate_zero, List.push_toArray, List.append_toArray, List.nil_append, List.cons_append]
  refine wpIn_wide.2 ?_
  go_wp2_with fail
  refine Calls.mono (of_c p k i g _) ?_
  rintro e V1 ⟨rfl, hW⟩
  subst hW
  obtain ⟨W0, hW0, hz, hB0, r5, r6, r7, rL, rO⟩ := six_allocs w #[.int .i64 k, .int .i64 i, .int .u32 g] #[.func (.func 76) #[] #[]] (atC at0) #[.bool false] #[ledP p] #[.int .i64 k, .int .i64 i, .int .u32 g] 41 71 43 4 48 41
  have hE0 : OfEnv W0 W0.heap.size (w.heap.size + 4) (w.heap.size + 5) p F k i g L v mp es clk := ⟨rL, rO, HH.out.on hB0, by omega, by omega, fun b hb => Nat.lt_of_lt_of_le (HH.out.fin b hb) hB0.size⟩
  simp only [atC, at0] at hW0
  go_wp2_with fail
  rw [← hW0]
  clear hW0
  have hro : Fence.wide.round = none := rfl
  refine wpIn_wide.1 (?_ : Code.wpIn Fence.wide 3 _ _ _ _ _)
  refine wpIn_rangeFunc_ownH hro (by omega) (gf := 108) (lb := #[.pointer (some ⟨w.heap.size + 4, 0, none⟩), .pointer (some ⟨w.heap.size + 5, 0, none⟩)]) rfl trivial (enters_of Tryz.func108 (by kernel_rfl) rfl)
    (of_stops 2 (by omega) W0.heap.size (w.heap.size + 4) (w.heap.size + 5) p F k i g L v mp es clk W0 hE0 (Nat.le_refl _)) belowK_t (belowK_b (by omega)) (Below.refl _ _) (fun _ => rfl)
    (fun pre W => (Row W (w.heap.size + 1) #[.func (.func 76) #[] #[]] 71 ∧ Row W (w.heap.size + 2) (atC at0) 43 ∧ Row W (w.heap.size + 3) #[.bool false] 4 ∧ pre.find? qAll = none ∧ w.heap.size + 6 ≤ W.heap.size) ∧ Below w.heap.size w W)
    (fun c pre W => (c = .ret ∧ ∃ x, pre.find? qAll = some x ∧ Row W (w.heap.size + 2) (atC x) 43 ∧ Row W (w.heap.size + 3) #[.bool true] 4) ∧ Below w.heap.size w W)
    (OwnFrom.and (Own.from (fun s A B row hs hg hr => ⟨row_kept hs.1 hg hr, row_kept hs.2.1 hg hr, row_kept hs.2.2.1 hg hr, hs.2.2.2.1, Nat.le_trans hs.2.2.2.2 hg.size⟩) _) (ownFrom_below (Nat.le_refl _) (by omega)))
    (fun c => OwnFrom.and (Own.from (fun s A B row hs hg hr => by obtain ⟨h1, x, h2, h3, h4⟩ := hs; exact ⟨h1, x, h2, row_kept h3 hg hr, row_kept h4 hg hr⟩) _) (ownFrom_below (Nat.le_refl _) (by omega)))
    ⟨⟨r5, r6, r7, rfl, by omega⟩, hB0⟩
    (fun x a' W => ∃ Bx, w.heap.size + 5 < Bx ∧ Row W Bx (atC x) 43 ∧ a' = { tmps := #[ledP p, oV k i g, .func (.func 76) #[] #[], undef, .pointer (some ⟨w.heap.size, 0, none⟩), .pointer (some ⟨w.heap.size + 1, 0, none⟩), .pointer (some ⟨w.heap.size + 2, 0, none⟩), .pointer (some ⟨w.heap.size + 3, 0, none⟩), .pointer (some ⟨Bx, 0, none⟩), ledP p, oV k i g, .func (.func 108) #[] #[.pointer (some ⟨w.heap.size + 4, 0, none⟩), .pointer (some ⟨w.heap.size + 5, 0, none⟩)], atV x, undef, undef, undef, undef, undef], defers := [] })
    (fun x a' _ X Y row hs hg hr => by obtain ⟨Bx, h1, h2, h3⟩ := hs; exact ⟨Bx, h1, row_kept h2 hg (fun r e => (hr r e).2), h3⟩)
    ?assign ?body ?done ?stop
  case assign =>
    rintro l pre x W K ⟨⟨q1, q2, q3, q4, q5⟩, hB⟩ hK
    have z1 := q1.lt
    have hwz := hB.size
    gi_wp2
    have kb := below_alloc W (.cells (atC x) 43)
    exact hK _ _ ((KeepsOthers.alloc _ _).from _) ((Below.refl _ W).alloc (by omega) _) ⟨⟨q1.on kb, q2.on kb, q3.on kb, q4, Nat.le_trans q5 kb.size⟩, hB.alloc hB.size _⟩ ⟨W.heap.size, by omega, Row.new, rfl⟩
  case body =>
    rintro l pre x a' W hl ⟨r, hr⟩ ⟨⟨q1, q2, q3, q4, q5⟩, hB⟩ ⟨Bx, hBx, qx, rfl⟩ hlt
    have Q4 := Lib.hid q4
    have hwz := hB.size
    have ci := CI.out x
    have hsnoc : (pre ++ [x]).find? qAll = if qAll x then some x else none := by rw [List.find?_append, q4, Option.none_or, List.find?_cons]; cases qAll x <;> rfl
    have HSN := Lib.hid hsnoc
    clear q4 hsnoc
    have y1 := q1.cell
    have yx := qx.cell
    have zx := qx.lt
    cases hq : qAll x with
    | false =>
      rw [hq] at ci
      have HC := Lib.hid ci
      have HQ := Lib.hid hq
      clear ci hq
      gi_wp2
      refine ⟨trivial, ?_⟩
      gi_at_call 76
      refine (CallsIn.inRound l (callsIn_wide.2 (HC.out _))).mono ?_
      rintro e w5 ⟨rfl, hb5⟩
      clear y1 yx zx
      gi_wp2
      exact ⟨(keeps_belowL hb5).from _, hb5.mono (by omega), ⟨q1.on hb5, q2.on hb5, q3.on hb5, by rw [HSN.out, HQ.out]; rfl, by have := hb5.size; omega⟩, chain hB hb5⟩
    | true =>
      rw [hq] at ci
      have HC := Lib.hid ci
      have HQ := Lib.hid hq
      clear ci hq
      gi_wp2
      refine ⟨trivial, ?_⟩
      gi_at_call 76
      refine (CallsIn.inRound l (callsIn_wide.2 (HC.out _))).mono ?_
      rintro e w5 ⟨rfl, hb5⟩
      clear y1 yx zx
      replace q2 := q2.on hb5
      replace q3 := q3.on hb5
      replace qx := qx.on hb5
      have y2 := q2.cell
      have u2 := q2.free
      have y3 := q3.cell
      have u3 := q3.free
      have yx := qx.cell
      have z2 := q2.lt
      have z3 := q3.lt
      have zx := qx.lt
      gi_wp2
      have hn23 : w.heap.size + 2 ≠ w.heap.size + 3 := by omega
      replace q3 := (((((((q3.other hn23 0 (.int .i64 x.at_)).other hn23 1 (.int .i64 x.k)).other hn23 2 (.int .i64 x.i)).other hn23 3 (.int .u32 x.g)).other hn23 4 (.int .i64 x.why)).other hn23 5 (.int .i64 x.ans)).set 0 (.bool true))
      replace q2 := (((((((q2.set 0 (.int .i64 x.at_)).set 1 (.int .i64 x.k)).set 2 (.int .i64 x.i)).set 3 (.int .u32 x.g)).set 4 (.int .i64 x.why)).set 5 (.int .i64 x.ans)).other hn23.symm 0 (.bool true))
      simp only [List.setIfInBounds_toArray, List.set_cons_zero, List.set_cons_succ] at q2 q3
      exact ⟨((((((((keeps_belowL hb5).trans (KeepsOthers.setCell _ ⟨w.heap.size + 2, 0, none⟩ (.int .i64 x.at_))).trans (KeepsOthers.setCell _ ⟨w.heap.size + 2, 1, none⟩ (.int .i64 x.k))).trans (KeepsOthers.setCell _ ⟨w.heap.size + 2, 2, none⟩ (.int .i64 x.i))).trans (KeepsOthers.setCell _ ⟨w.heap.size + 2, 3, none⟩ (.int .u32 x.g))).trans (KeepsOthers.setCell _ ⟨w.heap.size + 2, 4, none⟩ (.int .i64 x.why))).trans (KeepsOthers.setCell _ ⟨w.heap.size + 2, 5, none⟩ (.int .i64 x.ans))).trans (KeepsOthers.setCell _ ⟨w.heap.size + 3, 0, none⟩ (.bool true))).from _, ⟨rfl, x, by rw [HSN.out, HQ.out]; rfl, q2, q3⟩, ((((((((chain hB hb5).setCell (p := ⟨w.heap.size + 2, 0, none⟩) (by simp) (.int .i64 x.at_)).setCell (p := ⟨w.heap.size + 2, 1, none⟩) (by simp) (.int .i64 x.k)).setCell (p := ⟨w.heap.size + 2, 2, none⟩) (by simp) (.int .i64 x.i)).setCell (p := ⟨w.heap.size + 2, 3, none⟩) (by simp) (.int .u32 x.g)).setCell (p := ⟨w.heap.size + 2, 4, none⟩) (by simp) (.int .i64 x.why)).setCell (p := ⟨w.heap.size + 2, 5, none⟩) (by simp) (.int .i64 x.ans)).setCell (p := ⟨w.heap.size + 3, 0, none⟩) (by simp) (.bool true))⟩
  case done =>
    rintro D zs W hD rfl ⟨⟨q1, q2, q3, q4, q5⟩, hB⟩ hK
    have hn23 : w.heap.size + 2 ≠ w.heap.size + 3 := by omega
    have Q4 := Lib.hid q4
    clear q4
    have y2 := q2.cell
    have u2 := q2.free
    have y3 := q3.cell
    have u3 := q3.free
    have z2 := q2.lt
    have z3 := q3.lt
    go_wp2_with fail
    replace q3 := (((((((q3.other hn23 0 (.int .i64 0)).other hn23 1 (.int .i64 0)).other hn23 2 (.int .i64 0)).other hn23 3 (.int .u32 0)).other hn23 4 (.int .i64 0)).other hn23 5 (.int .i64 0)).set 0 (.bool false))
    replace q2 := (((((((q2.set 0 (.int .i64 0)).set 1 (.int .i64 0)).set 2 (.int .i64 0)).set 3 (.int .u32 0)).set 4 (.int .i64 0)).set 5 (.int .i64 0)).other hn23.symm 0 (.bool false))
    simp only [List.setIfInBounds_toArray, List.set_cons_zero, List.set_cons_succ] at q2 q3
    replace hB := (((((((hB.setCell (p := ⟨w.heap.size + 2, 0, none⟩) (by simp) (.int .i64 0)).setCell (p := ⟨w.heap.size + 2, 1, none⟩) (by simp) (.int .i64 0)).setCell (p := ⟨w.heap.size + 2, 2, none⟩) (by simp) (.int .i64 0)).setCell (p := ⟨w.heap.size + 2, 3, none⟩) (by simp) (.int .u32 0)).setCell (p := ⟨w.heap.size + 2, 4, none⟩) (by simp) (.int .i64 0)).setCell (p := ⟨w.heap.size + 2, 5, none⟩) (by simp) (.int .i64 0)).setCell (p := ⟨w.heap.size + 3, 0, none⟩) (by simp) (.bool false))
    have kk := ((((((KeepsOthers.setCell W ⟨w.heap.size + 2, 0, none⟩ (.int .i64 0)).trans (KeepsOthers.setCell _ ⟨w.heap.size + 2, 1, none⟩ (.int .i64 0))).trans (KeepsOthers.setCell _ ⟨w.heap.size + 2, 2, none⟩ (.int .i64 0))).trans (KeepsOthers.setCell _ ⟨w.heap.size + 2, 3, none⟩ (.int .u32 0))).trans (KeepsOthers.setCell _ ⟨w.heap.size + 2, 4, none⟩ (.int .i64 0))).trans (KeepsOthers.setCell _ ⟨w.heap.size + 2, 5, none⟩ (.int .i64 0))).trans (KeepsOthers.setCell _ ⟨w.heap.size + 3, 0, none⟩ (.bool false))
    have hK' := kk.same D _ hK rfl
    clear kk y2 u2 y3 u3 z2 z3 hK
    change bodyPostM _ _ _ _ _ _ _ (((((((W.setCell ⟨w.heap.size + 2, 0, none⟩ (.int .i64 0)).setCell ⟨w.heap.size + 2, 1, none⟩ (.int .i64 0)).setCell ⟨w.heap.size + 2, 2, none⟩ (.int .i64 0)).setCell ⟨w.heap.size + 2, 3, none⟩ (.int .u32 0)).setCell ⟨w.heap.size + 2, 4, none⟩ (.int .i64 0)).setCell ⟨w.heap.size + 2, 5, none⟩ (.int .i64 0)).setCell ⟨w.heap.size + 3, 0, none⟩ (.bool false))
    generalize ((((((W.setCell ⟨w.heap.size + 2, 0, none⟩ (.int .i64 0)).setCell ⟨w.heap.size + 2, 1, none⟩ (.int .i64 0)).setCell ⟨w.heap.size + 2, 2, none⟩ (.int .i64 0)).setCell ⟨w.heap.size + 2, 3, none⟩ (.int .u32 0)).setCell ⟨w.heap.size + 2, 4, none⟩ (.int .i64 0)).setCell ⟨w.heap.size + 2, 5, none⟩ (.int .i64 0)).setCell ⟨w.heap.size + 3, 0, none⟩ (.bool false) = X at *
    refine ⟨by simp, .inl ⟨_, _, rfl, run_takeDeferred hK', ?_⟩⟩
    have k2 := row_kept q2 (grownBy_putObj' _ D (.deferred none)) (fun r e => by cases e; exact ⟨_, hK', rfl⟩)
    have k3 := row_kept q3 (grownBy_putObj' _ D (.deferred none)) (fun r e => by cases e; exact ⟨_, hK', rfl⟩)
    have y2 := k2.cell
    have y3 := k3.cell
    refine ⟨.tuple #[atV at0, .bool false], ?_, by rw [Q4.out]; rfl, hB.trans (belowK_b (w := w) (Nat.le_refl _) X D _ _ (by omega) hK' rfl rfl)⟩
    simp [results, Tryz.f74, Tryz.results74, go_sem, y2, y3]
  case stop =>
    rintro D c pre W hD hpre ⟨⟨rfl, x, hx, q2, q3⟩, hB⟩ hK
    have hx2 := find_pre hpre hx
    have HX := Lib.hid hx2
    clear hx hx2 hpre
    gi_wp2
    refine ⟨by simp, .inl ⟨_, _, rfl, run_takeDeferred hK, ?_⟩⟩
    have k2 := row_kept q2 (grownBy_putObj' _ D (.deferred none)) (fun r e => by cases e; exact ⟨_, hK, rfl⟩)
    have k3 := row_kept q3 (grownBy_putObj' _ D (.deferred none)) (fun r e => by cases e; exact ⟨_, hK, rfl⟩)
    have y2 := k2.cell
    have y3 := k3.cell
    refine ⟨.tuple #[atV x, .bool true], ?_, by rw [HX.out]; rfl, hB.trans (belowK_b (w := w) (Nat.le_refl _) W D _ _ (by omega) hK rfl rfl)⟩
    simp [results, Tryz.f74, Tryz.results74, go_sem, y2, y3]
theorem lended_c (k i g : Int) (w : World) (h : LedIs w F p L v mp es clk) : Ret 29 #[ledP p, oV k i g] w (.tuple #[.int .i64 (((ofL k i g L).find? qEnd).getD at0).ans, .bool ((ofL k i g L).find? qEnd).isSome]) := by
  have HH := Lib.hid h
  have CF := Lib.hid (fun W (hb : Below w.heap.size w W) => find_ended k i g W (h.on hb))
  clear h
  generalize ((ofL k i g L).find? qEnd).getD at0 = x at *
  generalize ((ofL k i g L).find? qEnd).isSome = s at *
  go_enter Tryz.func29, Tryz.ntmps29
  go_wp2_with fail
  have hb := below_alloc w (.cells #[.int .i64 k, .int .i64 i, .int .u32 g] 41)
  generalize w.alloc (.cells #[.int .i64 k, .int .i64 i, .int .u32 g] 41) = V at *
  refine Calls.mono (CF.out V hb) ?_
  rintro e V1 ⟨rfl, hn⟩
  replace hb := chain hb hn
  go_upto_region 2 with fail
  have hn2 := below_alloc V1 (.cells (atC x) 43)
  have r1 := Row.new (W := V1) (cs := atC x) (t := 43)
  replace hb := chain hb hn2
  generalize V1.alloc (.cells (atC x) 43) = V2 at *
  have y1 := r1.cell
  have z1 := r1.lt
  go_wp2_with fail
  go_returns
  exact ⟨rfl, hb⟩
theorem lfirst_c (k i g : Int) (w : World) (h : LedIs w F p L v mp es clk) : Ret 30 #[ledP p, oV k i g] w (.tuple #[atV (((ofL k i g L).find? qAll).getD at0), .bool ((ofL k i g L).find? qAll).isSome]) := by
  have HH := Lib.hid h
  have CF := Lib.hid (fun W (hb : Below w.heap.size w W) => find_first k i g W (h.on hb))
  clear h
  generalize ((ofL k i g L).find? qAll).getD at0 = x at *
  generalize ((ofL k i g L).find? qAll).isSome = s at *
  go_enter Tryz.func30, Tryz.ntmps30
  go_upto_region 1 with fail
  have hb := below_alloc w (.cells #[.int .i64 k, .int .i64 i, .int .u32 g] 41)
  have r0 := Row.new (W := w) (cs := #[.int .i64 k, .int .i64 i, .int .u32 g]) (t := 41)
  have hs0 : (w.alloc (.cells #[.int .i64 k, .int .i64 i, .int .u32 g] 41)).heap.size = w.heap.size + 1 := by simp
  generalize w.alloc (.cells #[.int .i64 k, .int .i64 i, .int .u32 g] 41) = V at *
  have hn := below_alloc V (.cells (atC at0) 43)
  have r1 := Row.new (W := V) (cs := atC at0) (t := 43)
  rw [hs0] at r1
  replace r0 := r0.on hn
  replace hb := chain hb hn
  simp only [atC, at0] at r1 hn hb r0 ⊢
  generalize V.alloc _ = V1 at *
  clear hn hs0
  have y0 := r0.cell
  have z0 := r0.lt
  go_wp2_with fail
  refine Calls.mono (CF.out V1 hb) ?_
  rintro e V2 ⟨rfl, hn⟩
  replace hb := chain hb hn
  clear y0 z0
  replace r1 := r1.on hn
  have y1 := r1.cell
  have z1 := r1.lt
  have u1 := r1.free
  go_wp2_with fail
  refine bodyPost_ret (v := .tuple #[atV x, .bool s]) (by simp [results, Tryz.results30, go_sem, y1, z1]) rfl ⟨rfl, ?_⟩
  refine Below.setCell ?_ (by simp) _
  refine Below.setCell ?_ (by simp) _
  refine Below.setCell ?_ (by simp) _
  refine Below.setCell ?_ (by simp) _
  refine Below.setCell ?_ (by simp) _
  exact hb.setCell (by simp) _
end
end Go.Proofs.YtinlfheonlpceaaGreatDoor

/- (*ledger.Ledger).Copy: its contract (chapter 07). -/
namespace Go.Proofs.YtinlfheonlpceaaGreatDoor
open Go.RowKit
open Go.ChangeMaps (setBlock)
set_option linter.unusedVariables false
set_option linter.unusedSimpArgs false
set_option maxHeartbeats 16000000
set_option maxRecDepth 20000
/-- A store under a new key. -/
theorem run_mapUpdate_o {W : World} {m : Nat} {es : List En} {c : Nat} (h : MapIs W m es c) {k i g : Int} (hn : ∀ x ∈ es, x.same k i g = false) (u : Value) :
    (Instr.mapUpdate mapT (.map (some m)) (oV k i g) u).run Tryz.prog W = .ok () (setBlock W m (.map ((es ++ [(⟨k, i, g, u, c⟩ : En)]).map En.me).toArray (c + 1))) := by
  have hf := run_findK k i g W es
  have hq : findE k i g es 0 = none := by
    cases hq : findE k i g es 0 with
    | none => rfl
    | some q =>
      obtain ⟨pre, e, post, h1, _, h3, _⟩ := findE_some hq
      have := hn e (by rw [h1]; simp)
      rw [h3] at this
      cases this
  rw [hq] at hf
  simp [Instr.mapUpdate, run_underlying Tryz.underlying67, MapKept.run_getObj_map h.eq, out_check, hf, MapKept.run_setObj_map _ h.eq, Result.andThen, setBlock, En.me]
theorem cloneI_c (B : Nat) (v : Value) (q : List Nat) (w : World) (hv : OwnsI B w v q) (hl : q.length ≤ 100000) : Calls Tryz.prog 79 #[v] w fun e w' => ∃ u, e = .returned u ∧ OwnsI w.heap.size w' u q ∧ Below w.heap.size w w' := by
  rcases hv.form with ⟨rfl, rfl⟩ | ⟨g, c, rfl, hg, ha⟩
  · have hq := fun W => Lib.run_eql_slice_nil (P := Tryz.prog) W 108 _ none 0 0 0 0 Tryz.underlying108
    go_enter Tryz.func79, Tryz.ntmps79
    go_wp2_with fail
    go_returns
    exact ⟨_, rfl, OwnsI.nil _ _, by go_grown⟩
  · obtain ⟨i0, hi, hz0, hz1, hz2⟩ := info_parts int_infoL
    have HI0 := Lib.hid hi
    have HZ0 := Lib.hid hz0
    have HZ1 := Lib.hid hz1
    have HZ2 := Lib.hid hz2
    have HA := Lib.hid ha
    have hq := fun W => Lib.run_eql_slice_nil (P := Tryz.prog) W 108 _ (some ⟨g, 0, none⟩) q.length c 0 0 Tryz.underlying108
    clear hi hz0 hz1 hz2 ha
    have hb := below_alloc w (.cells #[] 3)
    have hsrc : ∀ j u, (q.map fun (n : Nat) => Value.int .i64 n)[j]? = some u → (w.alloc (.cells #[] 3)).cell? ((⟨g, 0, none⟩ : Addr).add j) = some u := fun j u hj => by
      rw [add_off, Nat.zero_add]
      rw [List.getElem?_map] at hj
      obtain ⟨n, hn, rfl⟩ := Option.map_eq_some_iff.1 hj
      exact keep_cell hb hg (HA.out j n hn)
    have HS := Lib.hid hsrc
    have HO := Lib.hid (World.ownsRow_made (base := w.heap.size) (e := 3) (size := 1) w #[] 0 (Nat.le_refl _) (by unfold maxLen; omega) rfl)
    have HB := Lib.hid hb
    clear hsrc hb hv
    go_enter Tryz.func79, Tryz.ntmps79
    go_wp2_with (at_builtin; refine wpList_append_own _ rfl _ _ 108 rfl w.heap.size 3 i0 (.int .i64 0) 1 8 Tryz.underlying108 HI0.out HZ0.out HZ1.out HZ2.out rfl (by decide) _ 0 [] rfl HO.out ⟨g, 0, none⟩ q.length c (q.map fun (n : Nat) => Value.int .i64 n) rfl (by simp) HS.out (by intro u hu; obtain ⟨n, _, rfl⟩ := List.mem_map.1 hu; rfl) (by unfold maxLen; omega) (by omega) (by simp) ?_; intro v' w9 hown' hgrow hnil; have HOWN := Lib.hid hown'; have HGR := Lib.hid hgrow; clear hown' hgrow hnil)
    go_returns
    refine ⟨_, rfl, ?_, HB.out.grown HGR.out (by simp) (fun k hk => Nat.le_of_eq (Option.some.inj (show some w.heap.size = some k from hk)))⟩
    have h9 := HOWN.out
    rw [Nat.zero_add, List.nil_append] at h9
    exact h9
/-- A copy under way: the entries that have been copied. -/
structure CopyInv (w wr : World) (l : List AtR) (es : List En) (clk m r q m2 : Nat) (v2 : Value) (seen : Array Nat) (c0 : Nat) (es2 : List En) (clk2 : Nat) : Prop where
  hc : Below w.heap.size w wr
  it : wr.heap[r]? = some (.mapIter (some m) clk seen c0)
  ir : w.heap.size ≤ r
  le : clk ≤ c0
  row : Row wr q #[v2, .map (some m2)] LedT
  own : OwnsA w.heap.size wr v2 l
  mp : MapIs wr m2 es2 clk2
  hq : w.heap.size ≤ q
  hm2 : w.heap.size ≤ m2
  apart : KeysApart es2
  born : ∀ e ∈ es2, e.born < clk2
  nodup : (es2.map (·.born)).Nodup
  ints : ∀ e ∈ es2, OwnsI w.heap.size wr e.val (posL e.k e.i e.g l)
  from_ : ∀ e ∈ es2, ∃ e0 ∈ es, seen.contains e0.born = true ∧ e0.k = e.k ∧ e0.i = e.i ∧ e0.g = e.g
  cover : ∀ e0 ∈ es, seen.contains e0.born = true → ∃ e ∈ es2, e.k = e0.k ∧ e.i = e0.i ∧ e.g = e0.g
  rows : es2.Pairwise fun x y => ∀ b, x.val.ownBlock = some b → y.val.ownBlock ≠ some b
/-- Other blocks may turn. -/
theorem CopyInv.via {w wr wr' : World} {l : List AtR} {es : List En} {clk m r q m2 : Nat} {v2 : Value} {seen : Array Nat} {c0 : Nat} {es2 : List En} {clk2 : Nat} (h : CopyInv w wr l es clk m r q m2 v2 seen c0 es2 clk2) (hb : Below wr.heap.size wr wr') : CopyInv w wr' l es clk m r q m2 v2 seen c0 es2 clk2 :=
  { h with
    hc := chain h.hc hb
    it := (hb.block r (Array.getElem?_eq_some_iff.1 h.it).1).trans h.it
    row := h.row.on hb
    own := h.own.on hb
    mp := h.mp.on hb
    ints := fun e he => (h.ints e he).on hb }
theorem copy_end {w wr : World} {F : Nat → Prop} {p : Nat} {l : List AtR} {v : Value} {es : List En} {clk m r q m2 : Nat} {v2 : Value} {seen : Array Nat} {c0 : Nat} {es2 : List En} {clk2 : Nat} (hL : LedIs w F p l v m es clk) (h : CopyInv w wr l es clk m r q m2 v2 seen c0 es2 clk2) (hall : ∀ e ∈ es, seen.contains e.born = true) : Led wr (FreshL w wr) q l :=
  ⟨v2, m2, es2, clk2, {
    row := h.row
    own := h.own.base (Nat.zero_le _)
    mp := h.mp
    apart := h.apart
    born := h.born
    nodup := h.nodup
    ints := fun e he => ⟨(h.ints e he).1, (h.ints e he).2.imp id (fun ⟨g, cap, cur, h1, h2, h3⟩ => ⟨g, cap, cur, h1, Nat.zero_le _, h3⟩)⟩
    has := fun k i g hx => hL.has k i g (fun e0 he0 => by
      cases hs : e0.same k i g with
      | false => rfl
      | true =>
        obtain ⟨e, he, h1, h2, h3⟩ := h.cover e0 he0 (hall e0 he0)
        obtain ⟨a1, a2, a3⟩ := En.same_iff.1 hs
        have := hx e he
        rw [En.same_iff.2 ⟨a1.trans h1.symm, a2.trans h2.symm, a3.trans h3.symm⟩] at this
        cases this)
    rows := h.rows
    fp := ⟨h.hq, h.row.lt⟩
    fm := ⟨h.hm2, h.mp.lt⟩
    fv := fun b hb => h.own.lt b hb
    fe := fun e he b hb => (h.ints e he).lt b hb
    fin := fun b hb => hb.2
    len := hL.len
    ok := hL.ok }⟩
theorem copy_step {w wr wr' : World} {F : Nat → Prop} {p : Nat} {l : List AtR} {v : Value} {es : List En} {clk m r q m2 : Nat} {v2 : Value} {seen : Array Nat} {c0 c1 : Nat} {es2 : List En} {clk2 : Nat} {e : En} {u : Value} (hL : LedIs w F p l v m es clk) (h : CopyInv w wr l es clk m r q m2 v2 seen c0 es2 clk2) (he : e ∈ es) (hse : seen.contains e.born = false) (hb : Below w.heap.size w wr') (hs : wr.heap.size ≤ wr'.heap.size)
    (hit : wr'.heap[r]? = some (.mapIter (some m) clk (seen.push e.born) c1)) (hc1 : clk ≤ c1) (hkeep : ∀ b, b < wr.heap.size → b ≠ r → b ≠ m2 → wr'.heap[b]? = wr.heap[b]?)
    (hu : OwnsI wr.heap.size wr' u (posL e.k e.i e.g l)) (hmp : MapIs wr' m2 (es2 ++ [⟨e.k, e.i, e.g, u, clk2⟩]) (clk2 + 1)) :
    CopyInv w wr' l es clk m r q m2 v2 (seen.push e.born) c1 (es2 ++ [⟨e.k, e.i, e.g, u, clk2⟩]) (clk2 + 1) := by
  have hrm : ∀ (x : Nat) (o : Obj), wr.heap[x]? = some o → (∀ a b c d, o ≠ .mapIter a b c d) → x ≠ r := fun x o hx ho e' => by
    rw [e', h.it] at hx
    exact ho _ _ _ _ (Option.some.inj hx).symm
  have hnew : ∀ x ∈ es2, ¬ (x.k = e.k ∧ x.i = e.i ∧ x.g = e.g) := by
    rintro x hx ⟨h1, h2, h3⟩
    obtain ⟨e0, he0, hs0, k1, k2, k3⟩ := h.from_ x hx
    have : e0 = e := by
      refine Classical.byContradiction fun hne => ?_
      rcases List.append_of_mem he with ⟨pre, post, rfl⟩
      have hp := List.pairwise_append.1 hL.apart
      have hp2 := List.pairwise_cons.1 hp.2.1
      have key : e0.k = e.k ∧ e0.i = e.i ∧ e0.g = e.g := ⟨k1.trans h1, k2.trans h2, k3.trans h3⟩
      rcases List.mem_append.1 he0 with hq | hq
      · exact hp.2.2 e0 hq e (by simp) key
      · rcases List.mem_cons.1 hq with hq | hq
        · exact hne hq
        · exact hp2.1 e0 hq ⟨key.1.symm, key.2.1.symm, key.2.2.symm⟩
    rw [this, hse] at hs0
    cases hs0
  have hcont : ∀ b, (seen.push e.born).contains b = (seen.contains b || b == e.born) := fun b => contains_push _ _ _
  refine ⟨hb, hit, h.ir, hc1, ?_, ?_, hmp, h.hq, h.hm2, ?_, ?_, ?_, ?_, ?_, ?_, ?_⟩
  · exact ⟨(hkeep q h.row.lt (hrm q _ h.row.eq (by intros; simp)) (row_ne_map h.row h.mp)).trans h.row.eq⟩
  · refine h.own.via (fun k hk => ?_)
    obtain ⟨cur, hcur⟩ := ownA_block h.own hk
    exact hkeep k (h.own.lt k hk).2 (hrm k _ hcur (by intros; simp)) (fun e' => ownA_ne_map h.own h.mp (by rw [← e']; exact hk))
  · refine List.pairwise_append.2 ⟨h.apart, by simp, fun x hx y hy => ?_⟩
    rw [List.mem_singleton] at hy
    subst hy
    exact hnew x hx
  · intro x hx
    rcases List.mem_append.1 hx with hx | hx
    · exact Nat.lt_succ_of_lt (h.born x hx)
    · rw [List.mem_singleton] at hx
      subst hx
      exact Nat.lt_succ_self _
  · rw [List.map_append]
    refine List.nodup_append.2 ⟨h.nodup, by simp, fun x hx y hy => ?_⟩
    obtain ⟨z, hz, rfl⟩ := List.mem_map.1 hx
    have := h.born z hz
    simp at hy
    omega
  · intro x hx
    rcases List.mem_append.1 hx with hx | hx
    · refine (h.ints x hx).via (fun k hk => ?_)
      obtain ⟨cur, hcur⟩ := ownI_block (h.ints x hx) hk
      exact hkeep k ((h.ints x hx).lt k hk).2 (hrm k _ hcur (by intros; simp)) (fun e' => ownI_ne_map (h.ints x hx) h.mp (by rw [← e']; exact hk))
    · rw [List.mem_singleton] at hx
      subst hx
      exact ⟨hu.1, hu.2.imp id (fun ⟨g, cap, cur, h1, h2, h3⟩ => ⟨g, cap, cur, h1, Nat.le_trans h.hc.size h2, h3⟩)⟩
  · intro x hx
    rcases List.mem_append.1 hx with hx | hx
    · obtain ⟨e0, he0, hs0, k1⟩ := h.from_ x hx
      exact ⟨e0, he0, by rw [hcont, hs0]; rfl, k1⟩
    · rw [List.mem_singleton] at hx
      subst hx
      exact ⟨e, he, by rw [hcont]; simp, rfl, rfl, rfl⟩
  · intro e0 he0 hs0
    rw [hcont] at hs0
    rcases Bool.or_eq_true _ _ ▸ hs0 with h1 | h1
    · obtain ⟨x, hx, k1⟩ := h.cover e0 he0 h1
      exact ⟨x, by simp [hx], k1⟩
    · have hbe : e0.born = e.born := by simpa using h1
      have : e0 = e := by
        refine Classical.byContradiction fun hne => ?_
        have hn := hL.nodup
        rcases List.append_of_mem he with ⟨pre, post, rfl⟩
        rw [List.map_append, List.map_cons] at hn
        have hn2 := List.nodup_append.1 hn
        have hn3 := List.nodup_cons.1 hn2.2.1
        rcases List.mem_append.1 he0 with hq | hq
        · exact hn2.2.2 e0.born (List.mem_map.2 ⟨e0, hq, rfl⟩) e.born (by simp) hbe
        · rcases List.mem_cons.1 hq with hq | hq
          · exact hne hq
          · exact hn3.1 (List.mem_map.2 ⟨e0, hq, hbe⟩)
      rw [this]
      exact ⟨⟨e.k, e.i, e.g, u, clk2⟩, by simp, rfl, rfl, rfl⟩
  · refine List.pairwise_append.2 ⟨h.rows, by simp, fun x hx y hy b hb1 hb2 => ?_⟩
    rw [List.mem_singleton] at hy
    subst hy
    have h1 := ((h.ints x hx).lt b hb1).2
    have h2 := (hu.lt b hb2).1
    omega
theorem lcopy_c {F : Nat → Prop} {p : Nat} {l : List AtR} {v : Value} {m : Nat} {es : List En} {clk : Nat} (w : World) (h : LedIs w F p l v m es clk) : Calls Tryz.prog 35 #[ledP p] w fun e w' => ∃ q, e = .returned (ledP q) ∧ Led w' (FreshL w w') q l ∧ Below w.heap.size w w' := by
  have HH := Lib.hid h
  have rp := h.row
  have CA := Lib.hid (fun W (hb : Below w.heap.size w W) => cloneA_c v l W (h.own.holds.on hb) (by have := h.len; omega))
  clear h
  have hc := Below.refl w.heap.size w
  have y0 := rp.cell
  have z0 := rp.lt
  go_enter Tryz.func35, Tryz.ntmps35
  go_wp2_with fail
  refine Calls.mono (lmade_c rp) ?_
  rintro e V1 ⟨rfl, hW⟩
  subst V1
  go_wp2_with fail
  refine Calls.mono (lnew_c _) ?_
  rintro e V1 ⟨q, m2, rfl, hN, hn⟩
  clear y0 z0
  replace rp := rp.on hn
  replace hc := chain hc hn
  have rq := hN.row
  have hmq := hN.mp
  have hqf := hN.fp.1
  have hmf := hN.fm.1
  clear hN hn
  have y0 := rp.cell
  have z0 := rp.lt
  have y1 := rq.cell
  have z1 := rq.lt
  go_wp2_with fail
  refine Calls.mono (CA.out _ hc) ?_
  rintro e V2 ⟨u, rfl, ho, hn⟩
  clear y0 z0 y1 z1 CA
  obtain ⟨au, cu, rfl⟩ := ho.holds.len
  have HO := Lib.hid (ho.base hc.size)
  clear ho
  replace rp := rp.on hn
  replace rq := rq.on hn
  replace hmq := hmq.on hn
  replace hc := chain hc hn
  clear hn
  have y0 := rp.cell
  have z0 := rp.lt
  have y1 := rq.cell
  have z1 := rq.lt
  have u1 := rq.free
  go_upto_region 5 with fail
  clear y0 z0 y1 z1 u1
  have hpq : q ≠ p := fun e => by have := HH.out.row.lt; omega
  have hqm : q ≠ m2 := row_ne_map rq hmq
  replace rp := rp.other hpq 0 (.slice au l.length cu)
  replace hmq := hmq.other hqm 0 (.slice au l.length cu)
  replace HO : RowKit.Hid (OwnsA w.heap.size (V2.setCell ⟨q, 0, none⟩ (.slice au l.length cu)) _ _) := ownA_setCell HO.out (ownA_ne_row HO.out rq (by decide)) 0 (.slice au l.length cu)
  replace rq := rq.set 0 (.slice au l.length cu)
  simp only [List.setIfInBounds_toArray, List.set_cons_zero, List.set_cons_succ] at rq
  replace hc := hc.setCell (p := ⟨q, 0, none⟩) hqf (.slice au l.length cu)
  generalize V2.setCell ⟨q, 0, none⟩ (.slice au l.length cu) = X1 at *
  have hL := HH.out.on hc
  have hrg := run_range_map (P := Tryz.prog) X1 mapT _ _ m (es.map En.me).toArray clk Tryz.underlying67 hL.mp.eq
  have y0 := rp.cell
  have z0 := rp.lt
  go_wp2_with fail
  clear y0 z0 hrg
  have hI : CopyInv w (X1.alloc (.mapIter (some m) clk #[] clk)) l es clk m X1.heap.size q m2 (.slice au l.length cu) #[] clk [] 0 := {
    hc := chain hc (below_alloc X1 _)
    it := by show (X1.heap.push _)[X1.heap.size]? = _; simp
    ir := hc.size
    le := Nat.le_refl _
    row := rq.on (below_alloc X1 _)
    own := HO.out.on (below_alloc X1 _)
    mp := hmq.on (below_alloc X1 _)
    hq := hqf
    hm2 := hmf
    apart := List.Pairwise.nil
    born := fun e he => by simp at he
    nodup := List.nodup_nil
    ints := fun e he => by simp at he
    from_ := fun e he => by simp at he
    cover := fun e0 he0 h0 => by simp at h0
    rows := List.Pairwise.nil }
  generalize X1.alloc (.mapIter (some m) clk #[] clk) = X2 at *
  generalize X1.heap.size = r at *
  have HI := Lib.hid hI
  clear hI rp rq hmq HO hc hL
  go_loopw [4] (fun sv wr => ∃ seen c0 es2 clk2, CopyInv w wr l es clk m r q m2 (.slice au l.length cu) seen c0 es2 clk2) (fun _ wr => (leftOf (es.map En.me).toArray (wr.iterSeen r)).size)
  case atStart => exact ⟨#[], clk, [], 0, HI.out⟩
  case round =>
    obtain ⟨seen, c0, es2, clk2, hI⟩ := hrel
    clear HI
    have hL := HH.out.on hI.hc
    have hold : ∀ x ∈ (es.map En.me).toArray.toList, x.born < clk := fun x hx => by
      simp only [List.toList_toArray] at hx
      obtain ⟨e, he, rfl⟩ := List.mem_map.1 hx
      exact hL.born e he
    rcases run_next_at (P := Tryz.prog) wr 0 r m clk c0 seen (es.map En.me).toArray clk hI.it hL.mp.eq hold hI.le with ⟨h0, hrun⟩ | ⟨me, hme, w1, hal, hrun⟩
    · have hall : ∀ e ∈ es, seen.contains e.born = true := fun e he => all_seen (es.map En.me).toArray seen h0 (En.me e) (by rw [List.toList_toArray]; exact List.mem_map.2 ⟨e, he, rfl⟩)
      have hend := copy_end HH.out hI hall
      have HEND := Lib.hid hend
      have HB := Lib.hid hI.hc
      clear hend hold hI hall
      go_wp2_with fail
      go_returns
      exact ⟨q, rfl, HEND.out, HB.out⟩
    · obtain ⟨hm1, hm2⟩ := mem_left hme
      simp only [List.toList_toArray] at hm1
      obtain ⟨e0, he0, rfl⟩ := List.mem_map.1 hm1
      have hw1 := hal
      have hsz1 : w1.heap.size = wr.heap.size := by rcases hw1 with rfl | rfl <;> rfl
      have hk1 : ∀ b : Nat, w1.heap[b]? = wr.heap[b]? := fun b => by rcases hw1 with rfl | rfl <;> rfl
      have hrl : r < wr.heap.size := (Array.getElem?_eq_some_iff.1 hI.it).1
      have hmp0 := hL.mp
      have hrm : r ≠ m := fun e => by have h1 := hI.it; rw [e, hmp0.eq] at h1; cases h1
      have hrq : q ≠ r := fun e => by have h1 := hI.row.eq; rw [e, hI.it] at h1; cases h1
      have hit3 : (setBlock w1 r (.mapIter (some m) clk (seen.push (En.me e0).born) clk)).heap[r]? = some (.mapIter (some m) clk (seen.push (En.me e0).born) clk) := setBlock_at (by rw [hsz1]; exact hrl)
      have hkp3 : ∀ b : Nat, b ≠ r → (setBlock w1 r (.mapIter (some m) clk (seen.push (En.me e0).born) clk)).heap[b]? = wr.heap[b]? := fun b hb => (setBlock_heap b hb).trans (hk1 b)
      have hs3 : (setBlock w1 r (.mapIter (some m) clk (seen.push (En.me e0).born) clk)).heap.size = wr.heap.size := by rw [setBlock_size, hsz1]
      have hc3 : Below w.heap.size w (setBlock w1 r (.mapIter (some m) clk (seen.push (En.me e0).born) clk)) := by
        have hIc := hI.hc
        have hIr := hI.ir
        refine ⟨?_, ?_, ?_, by rw [hs3]; exact hIc.size, fun b hb => (hkp3 b (by omega)).trans (hIc.block b hb)⟩
        · rcases hw1 with rfl | rfl <;> exact hIc.os
        · rcases hw1 with rfl | rfl <;> exact hIc.tape
        · rcases hw1 with rfl | rfl <;> exact hIc.output
      generalize setBlock w1 r (.mapIter (some m) clk (seen.push (En.me e0).born) clk) = W3 at *
      have hent := run_entry_at (P := Tryz.prog) W3 r m clk seen (es.map En.me).toArray clk (En.me e0) hit3 ((hkp3 m hrm.symm).trans hmp0.eq) (by rw [List.toList_toArray]; exact hm1) (by
        have := hL.nodup
        simpa [Function.comp_def, En.me] using this)
      have hints := hL.ints e0 he0
      have hclk := hI.le
      have HI := Lib.hid hI
      have HL := Lib.hid hL
      simp only [En.me] at hrun hent hit3
      have rq3 : Row W3 q #[.slice au l.length cu, .map (some m2)] LedT := ⟨(hkp3 q hrq).trans hI.row.eq⟩
      clear hold hI hm1 hw1 hal hL hmp0 hk1 hsz1
      go_wp2_with fail
      clear hrun hent
      have hn := below_alloc W3 (.cells #[.int .i64 e0.k, .int .i64 e0.i, .int .u32 e0.g] 41)
      have rb := Row.new (W := W3) (cs := #[.int .i64 e0.k, .int .i64 e0.i, .int .u32 e0.g]) (t := 41)
      rw [hs3] at rb
      have hgr : ∀ b : Nat, b < wr.heap.size → b ≠ r → (W3.alloc (.cells #[.int .i64 e0.k, .int .i64 e0.i, .int .u32 e0.g] 41)).heap[b]? = wr.heap[b]? := fun b hb hbr => (hn.block b (by rw [hs3]; exact hb)).trans (hkp3 b hbr)
      have hi4 := (hn.block r (by rw [hs3]; exact hrl)).trans hit3
      have rq4 := rq3.on hn
      have hc4 := chain hc3 hn
      have hs4 : wr.heap.size ≤ (W3.alloc (.cells #[.int .i64 e0.k, .int .i64 e0.i, .int .u32 e0.g] 41)).heap.size := by have := hn.size; omega
      clear hn rq3 hit3 hkp3 hs3 hc3
      generalize W3.alloc (.cells #[.int .i64 e0.k, .int .i64 e0.i, .int .u32 e0.g] 41) = W4 at *
      have hbq : wr.heap.size ≠ q := fun e => by have := HI.out.row.lt; omega
      refine wp_region_held_drew (S := fun W' => (∀ j, W'.cell? ⟨q, j, none⟩ = (#[.slice au l.length cu, .map (some m2)] : Array Value)[j]?) ∧ (∀ j, W'.cell? ⟨wr.heap.size, j, none⟩ = (#[.int .i64 e0.k, .int .i64 e0.i, .int .u32 e0.g] : Array Value)[j]?)) (by kernel_rfl) ⟨rq4.cell, rb.cell⟩ (fun hHeld => ?_)
      replace rq4 := rq4.drew
      replace rb := rb.drew
      replace hc4 := hc4.drew
      replace hgr : ∀ b : Nat, b < wr.heap.size → b ≠ r → W4.drew.heap[b]? = wr.heap[b]? := hgr
      replace hi4 : W4.drew.heap[r]? = some (.mapIter (some m) clk (seen.push e0.born) clk) := hi4
      replace hs4 : wr.heap.size ≤ W4.drew.heap.size := hs4
      generalize W4.drew = W5 at *
      have hmn : ∀ (x : Nat) (o : Obj), wr.heap[x]? = some o → (∀ a b c d, o ≠ .mapIter a b c d) → x ≠ r := fun x o hx ho e' => by
        rw [e', HI.out.it] at hx
        exact ho _ _ _ _ (Option.some.inj hx).symm
      have hi5 : OwnsI 0 W5 e0.val (posL e0.k e0.i e0.g l) := hints.via (fun k hk => by
        obtain ⟨cur, hcur⟩ := ownI_block hints hk
        exact hgr k (hints.lt k hk).2 (hmn k _ hcur (by intros; simp)))
      have hm5 : MapIs W5 m2 es2 clk2 := ⟨(hgr m2 HI.out.mp.lt (hmn m2 _ HI.out.mp.eq (by intros; simp))).trans HI.out.mp.eq⟩
      have CI := Lib.hid (cloneI_c 0 e0.val _ W5 hi5 (by rw [posL_len]; exact Nat.le_trans (ofL_len _ _ _ _) (by have := HH.out.len; omega)))
      clear hi5 hints
      refine' wpAnyH_take (i := 0) (oi := _) (v := _) ?_ (by kernel_rfl) (by kernel_rfl) (by kernel_rfl) ?_ (Or.inl ⟨?_, ?_⟩) (by assumption) ?_
      rotate_left 2
      · (simp only [List.getElem?_toArray, List.getElem?_cons_succ, List.getElem?_cons_zero]; rfl)
      · first | exact fun _ _ _ h => h | exact fun _ _ _ h => nomatch h.1
      · rfl
      · (intro W hSW; (try dsimp only at hSW); go_split_ands; first | (go_simp; done) | (go_simp; with_reducible rfl))
      try simp only [Act.put, List.setIfInBounds_toArray, List.set_cons_zero, List.set_cons_succ]
      refine' wpAnyH_take (i := 1) (oi := _) (v := _) ?_ (by kernel_rfl) (by kernel_rfl) (by kernel_rfl) ?_ (Or.inl ⟨?_, ?_⟩) (by assumption) ?_
      rotate_left 2
      · (simp only [List.getElem?_toArray, List.getElem?_cons_succ, List.getElem?_cons_zero]; rfl)
      · first | exact fun _ _ _ h => h | exact fun _ _ _ h => nomatch h.1
      · rfl
      · (intro W hSW; (try dsimp only at hSW); go_split_ands; first | (go_simp; done) | (go_simp; with_reducible rfl))
      try simp only [Act.put, List.setIfInBounds_toArray, List.set_cons_zero, List.set_cons_succ]
      refine' wpAnyH_take (i := 2) (oi := _) (v := _) ?_ (by kernel_rfl) (by kernel_rfl) (by kernel_rfl) ?_ (Or.inl ⟨?_, ?_⟩) (by assumption) ?_
      rotate_left 2
      · (simp only [List.getElem?_toArray, List.getElem?_cons_succ, List.getElem?_cons_zero]; rfl)
      · first | exact fun _ _ _ h => h | exact fun _ _ _ h => nomatch h.1
      · rfl
      · (intro W hSW; (try dsimp only at hSW); go_split_ands; first | (go_simp; done) | (go_simp; with_reducible rfl))
      try simp only [Act.put, List.setIfInBounds_toArray, List.set_cons_zero, List.set_cons_succ]
      refine' wpAnyH_take (i := 3) (oi := _) (v := _) ?_ (by kernel_rfl) (by kernel_rfl) (by kernel_rfl) ?_ (Or.inl ⟨?_, ?_⟩) (by assumption) ?_
      rotate_left 2
      · (simp only [List.getElem?_toArray, List.getElem?_cons_succ, List.getElem?_cons_zero]; rfl)
      · first | exact fun _ _ _ h => h | exact fun _ _ _ h => nomatch h.1
      · rfl
      · (intro W hSW; (try dsimp only at hSW); go_split_ands; first | (go_simp; done) | (go_simp; with_reducible rfl))
      try simp only [Act.put, List.setIfInBounds_toArray, List.set_cons_zero, List.set_cons_succ]
      refine' wpAnyH_take (i := 4) (oi := _) (v := _) ?_ (by kernel_rfl) (by kernel_rfl) (by kernel_rfl) ?_ (Or.inl ⟨?_, ?_⟩) (by assumption) ?_
      rotate_left 2
      · (simp only [List.getElem?_toArray, List.getElem?_cons_succ, List.getElem?_cons_zero]; rfl)
      · first | exact fun _ _ _ h => h | exact fun _ _ _ h => nomatch h.1
      · rfl
      · (intro W hSW; (try dsimp only at hSW); go_split_ands; first | (go_simp; done) | (go_simp; with_reducible rfl))
      try simp only [Act.put, List.setIfInBounds_toArray, List.set_cons_zero, List.set_cons_succ]
      refine' wpAnyH_take (i := 5) (oi := _) (v := _) ?_ (by kernel_rfl) (by kernel_rfl) (by kernel_rfl) ?_ (Or.inl ⟨?_, ?_⟩) (by assumption) ?_
      rotate_left 2
      · (simp only [List.getElem?_toArray, List.getElem?_cons_succ, List.getElem?_cons_zero]; rfl)
      · first | exact fun _ _ _ h => h | exact fun _ _ _ h => nomatch h.1
      · rfl
      · (intro W hSW; (try dsimp only at hSW); go_split_ands; first | (go_simp; done) | (go_simp; with_reducible rfl))
      try simp only [Act.put, List.setIfInBounds_toArray, List.set_cons_zero, List.set_cons_succ]
      clear hHeld
      refine wpAnyH_ready (rs := [6]) (by kernel_rfl) (by simp) ?_
      refine' AllReadyH.cons (o := _) ?_ (fun K hK => ?_) AllReadyH.nil
      rotate_left 1
      · (simp only [List.getElem?_toArray, List.getElem?_cons_succ, List.getElem?_cons_zero]; rfl)
      go_simp
      refine Calls.mono CI.out ?_
      rintro e W6 ⟨u, rfl, hu, hn⟩
      go_simp
      replace rq4 := rq4.on hn
      replace rb := rb.on hn
      replace hc4 := chain hc4 hn
      replace hm5 := hm5.on hn
      have hi6 := (hn.block r (Nat.lt_of_lt_of_le hrl hs4)).trans hi4
      have hg6 : ∀ b : Nat, b < wr.heap.size → b ≠ r → W6.heap[b]? = wr.heap[b]? := fun b hb hbr => (hn.block b (Nat.lt_of_lt_of_le hb hs4)).trans (hgr b hb hbr)
      have hs6 := Nat.le_trans hs4 hn.size
      refine hK.out _ _ ⟨rq4.cell, rb.cell⟩ (fun hHeld => ?_)
      clear hK K hHeld hn hi4 hgr CI
      have hnew : ∀ x ∈ es2, x.same e0.k e0.i e0.g = false := fun x hx => by
        cases hs : x.same e0.k e0.i e0.g with
        | false => rfl
        | true =>
          obtain ⟨a1, a2, a3⟩ := En.same_iff.1 hs
          obtain ⟨e1, he1, hs1, k1, k2, k3⟩ := HI.out.from_ x hx
          have hap := HH.out.apart
          have : e1 = e0 := by
            refine Classical.byContradiction fun hne => ?_
            rcases List.append_of_mem he0 with ⟨pre, post, rfl⟩
            have hp := List.pairwise_append.1 hap
            have hp2 := List.pairwise_cons.1 hp.2.1
            have key : e1.k = e0.k ∧ e1.i = e0.i ∧ e1.g = e0.g := ⟨k1.trans a1.symm, k2.trans a2.symm, k3.trans a3.symm⟩
            rcases List.mem_append.1 he1 with hq | hq
            · exact hp.2.2 e1 hq e0 (by simp) key
            · rcases List.mem_cons.1 hq with hq | hq
              · exact hne hq
              · exact hp2.1 e1 hq ⟨key.1.symm, key.2.1.symm, key.2.2.symm⟩
          rw [this] at hs1
          exact Bool.noConfusion (hs1.symm.trans hm2)
      have hup := run_mapUpdate_o hm5 hnew u
      obtain ⟨MO, hMO⟩ : ∃ MO : Obj, MO = .map ((es2 ++ [(⟨e0.k, e0.i, e0.g, u, clk2⟩ : En)]).map En.me).toArray (clk2 + 1) := ⟨_, rfl⟩
      rw [← hMO] at hup
      have HMO := Lib.hid hMO
      clear hMO
      refine wpAnyH_ready (rs := [7]) (by kernel_rfl) (by simp) ?_
      refine' AllReadyH.cons (o := _) ?_ (fun K hK => ?_) AllReadyH.nil
      rotate_left 1
      · (simp only [List.getElem?_toArray, List.getElem?_cons_succ, List.getElem?_cons_zero]; rfl)
      go_simp
      have hqm5 : q ≠ m2 := hqm
      have hbm : wr.heap.size ≠ m2 := fun e => by have := HI.out.mp.lt; omega
      replace rq4 := Row.setBlock (b := m2) (o := MO) rq4 hqm
      replace rb := Row.setBlock (b := m2) (o := MO) rb hbm
      have hrm2 : r ≠ m2 := fun e => by have h1 := HI.out.it; rw [e, HI.out.mp.eq] at h1; cases h1
      have hstep := copy_step (wr' := setBlock W6 m2 MO) (c1 := clk) (u := u) HH.out HI.out he0 hm2 (by
        refine ⟨hc4.os, hc4.tape, hc4.output, by rw [setBlock_size]; exact hc4.size, fun b hb => (setBlock_heap b (fun e => by omega)).trans (hc4.block b hb)⟩) (by rw [setBlock_size]; exact hs6) ((setBlock_heap r hrm2).trans hi6) (Nat.le_refl _) (fun b hb hbr hbm2 => (setBlock_heap b hbm2).trans (hg6 b hb hbr))
        (by
          have hub := OwnsI.via (W' := setBlock W6 m2 MO) hu (fun k hk => setBlock_heap k (fun e => ownI_ne_map hu hm5 (by rw [← e]; exact hk)))
          exact ⟨hub.1, hub.2.imp id (fun ⟨g, cap, cur, h1, h2, h3⟩ => ⟨g, cap, cur, h1, Nat.le_trans hs4 h2, h3⟩)⟩) ⟨by rw [setBlock_at hm5.lt, HMO.out]⟩
      clear hup hg6 hi6 hu hm5 hc4
      generalize setBlock W6 m2 MO = W7 at *
      refine hK.out _ _ ⟨rq4.cell, rb.cell⟩ (fun hHeld => ?_)
      clear hK K hHeld
      refine wpAnyH_done (by kernel_rfl) ?_ _
      have HST := Lib.hid hstep
      clear hstep
      go_wp2_with fail
      refine ⟨⟨_, _, _, _, HST.out⟩, ?_⟩
      have e1 : W7.iterSeen r = seen.push e0.born := by unfold World.iterSeen; rw [HST.out.it]
      have e2 : wr.iterSeen r = seen := by unfold World.iterSeen; rw [HI.out.it]
      rw [e1, e2]
      exact left_shrinks _ seen (En.me e0) hme
end Go.Proofs.YtinlfheonlpceaaGreatDoor

/- Package descr: Order; and the reference's. -/
namespace Go.Proofs.YtinlfheonlpceaaGreatDoor
open Go.RowKit

def cmpI (x y : Int) : Int := if x < y then -1 else if y < x then 1 else 0
def orI (a b c : Int) : Int := if a ≠ 0 then a else if b ≠ 0 then b else c
def dOrd (k s g k' s' g' : Int) : Int := orI (cmpI k k') (cmpI s s') (cmpI g g')
theorem cmpI_lt {x y : Int} (h : x < y) : cmpI x y = -1 := if_pos h
theorem cmpI_gt {x y : Int} (h : y < x) : cmpI x y = 1 := by unfold cmpI; rw [if_neg (by omega), if_pos h]
theorem cmpI_eq (x : Int) : cmpI x x = 0 := by unfold cmpI; rw [if_neg (by omega), if_neg (by omega)]
theorem cmpI_cases (x y : Int) : (x < y ∧ cmpI x y = -1) ∨ (y < x ∧ cmpI x y = 1) ∨ (x = y ∧ cmpI x y = 0) := by
  unfold cmpI
  by_cases h : x < y
  · exact .inl ⟨h, if_pos h⟩
  · by_cases h2 : y < x
    · exact .inr (.inl ⟨h2, by rw [if_neg h, if_pos h2]⟩)
    · exact .inr (.inr ⟨by omega, by rw [if_neg h, if_neg h2]⟩)
end Go.Proofs.YtinlfheonlpceaaGreatDoor

/- The contract of the references' Digits: the decimal numeral. -/
namespace Go.Proofs.YtinlfheonlpceaaGreatDoor
open Go.RowKit
open Go.Lib (decDigits)

theorem digits_small {n : Int} (h0 : 0 ≤ n) (h : n < 10) : digits n.toNat = ⟨#[UInt8.ofNat (48 + n).toNat]⟩ := by
  unfold digits
  rw [decDigits_step, if_pos (by omega), show (48 + n).toNat = 48 + n.toNat by omega]
theorem digits_app {n : Int} (h : 10 ≤ n) : digits n.toNat = digits (n / 10).toNat ++ ⟨#[UInt8.ofNat (48 + n % 10).toNat]⟩ := by
  rw [show (48 + n % 10).toNat = 48 + (n % 10).toNat by omega]
  apply str_ext
  have e1 : (n / 10).toNat = n.toNat / 10 := by omega
  have e2 : (n % 10).toNat = n.toNat % 10 := by omega
  rw [e1, e2, digits_list, decDigits_step, if_neg (by omega)]
  simp [digits]

/-- A slice of one byte, made into a string. -/
theorem conv_one (b : Int) (h0 : 0 ≤ b) (h1 : b ≤ 255) (a : Addr) (W : World) (hc : W.cell? a = some (.int .u8 b)) :
    (convert 79 9 (.slice (some a) 1 1)).run Tryz.prog W = .ok (.string ⟨#[UInt8.ofNat b.toNat]⟩) W := by
  have h := run_convert_bytes_back (P := Tryz.prog) W 79 9 5 a 1 [UInt8.ofNat b.toNat] Tryz.underlying79 Tryz.underlying5 Tryz.underlying9 (fun j hj => by
    have hj0 : j = 0 := by simpa using hj
    subst hj0
    rw [show a.add 0 = a from rfl, hc]
    have e : (UInt8.ofNat b.toNat).toNat = b.toNat := by rw [UInt8.toNat_ofNat']; omega
    simp only [List.getElem_cons_zero, e]
    rw [Int.toNat_of_nonneg h0])
  exact h

set_option maxHeartbeats 1000000 in
theorem refDigits_any (k : Nat) : ∀ (n : Int) (w : World), n ≤ k → 0 ≤ n → n ≤ 18446744073709551615 →
    Ret 135 #[.int .u64 n] w (.string (digits n.toNat)) := by
  induction k with
  | zero =>
    intro n w hk h0 h1
    obtain rfl : n = 0 := by omega
    have hc := conv_one 48 (by omega) (by omega)
    have hd : digits (0 : Int).toNat = ⟨#[48]⟩ := digits_small (n := 0) (by omega) (by omega)
    rw [hd]
    clear hd
    go_enter Tryz.func135, Tryz.ntmps135
    go_wp2_with fail
    go_returns
    exact ⟨rfl, by go_grown⟩
  | succ k ih =>
    intro n w hk h0 h1
    have IH := Lib.hid ih
    clear ih
    by_cases h : n < 10
    · have hc := conv_one (48 + n) (by omega) (by omega)
      have hd := digits_small h0 h
      rw [hd]
      clear hd
      go_enter Tryz.func135, Tryz.ntmps135
      go_wp2_with fail
      go_returns
      exact ⟨rfl, by go_grown⟩
    · have hd := digits_app (n := n) (by omega)
      have hrun : ∀ W, (Op.stringOp .add (digits (n / 10).toNat) ⟨#[UInt8.ofNat (48 + n % 10).toNat]⟩).run Tryz.prog W = .ok (.string (digits n.toNat)) W := fun W => by
        rw [hd]
        have h1 := digits_size_le (n / 10).toNat (by omega)
        exact run_string_add_sum W _ _ (by rw [show (ByteArray.mk #[UInt8.ofNat (48 + n % 10).toNat]).size = 1 from rfl]; omega)
      have hc := conv_one (48 + n % 10) (by omega) (by omega)
      have q1 : IntKind.u64.wrap (n.tdiv 10) = n / 10 := by rw [Int.tdiv_eq_ediv_of_nonneg h0, IntKind.wrap_u64]; omega
      have q2 : n.tmod 10 = n % 10 := Int.tmod_eq_emod_of_nonneg h0
      have q3 : IntKind.u64.wrap (48 + n % 10) = 48 + n % 10 := by rw [IntKind.wrap_u64]; omega
      have q4 : IntKind.u8.wrap (48 + n % 10) = 48 + n % 10 := by rw [IntKind.wrap_u8]; omega
      have r1 : n / 10 ≤ k := by omega
      have r2 : 0 ≤ n / 10 := by omega
      have r3 : n / 10 ≤ 18446744073709551615 := by omega
      clear hd hk
      go_enter Tryz.func135, Tryz.ntmps135
      go_wp2_with fail
      go_region_with (first | (go_at_call 135; refine ((IH.out) _ _ ?_ ?_ ?_).mono ?_; exact r1; exact r2; exact r3; rintro e w' ⟨rfl, hb⟩; try have hc1 := keep_new_drew hb))
      all_goals
        go_wp2
        go_returns
        refine ⟨rfl, ?_⟩
        first
          | exact off_alloc (off_drew hb)
          | exact (off_drew hb).alloc (off_drew hb).size _
theorem ref_Digits (n : Int) (w : World) (h0 : 0 ≤ n) (h1 : n ≤ 18446744073709551615) : Ret 135 #[.int .u64 n] w (.string (digits n.toNat)) :=
  refDigits_any n.toNat n w (by omega) h0 h1
end Go.Proofs.YtinlfheonlpceaaGreatDoor

/- The contracts of the references of chapter 01: Number, and (where they stand in the cut) Check, Left, After, Next, Newer, Text, Parse. -/
namespace Go.Proofs.YtinlfheonlpceaaGreatDoor
open Go.RowKit
open Go.Lib (decDigits)

theorem isGen_numB {l : List UInt8} (h : isGen l = true) : numB l = true := by
  obtain ⟨n, h1, h2, h3⟩ := (isGen_iff l).1 h
  unfold numB
  rw [decide_eq_true_iff]
  subst h3
  rw [val_decDigits]
  exact ⟨nDigits_le_10 n (by omega), rfl⟩
theorem take_snoc (s : ByteArray) (k : Nat) (h : k < s.size) : s.data.toList.take (k + 1) = s.data.toList.take k ++ [s[k]] := by
  rw [List.take_succ_eq_append_getElem (by simpa using h)]; rfl

/-- a byte that is no digit, somewhere -/
theorem all_take_snoc (s : ByteArray) (k : Nat) (h : k < s.size) : (s.data.toList.take (k + 1)).all isDig = ((s.data.toList.take k).all isDig && isDig s[k]) := by
  rw [take_snoc s k h, List.all_append]; simp
theorem not_all_of {s : ByteArray} {k : Nat} (h : k < s.size) (hd : isDig s[k] = false) : s.data.toList.all isDig = false := by
  rw [Bool.eq_false_iff]
  intro ha
  rw [List.all_eq_true] at ha
  have := ha s[k] (by
    have e : s[k] = s.data.toList[k]'(by simpa using h) := rfl
    rw [e]; exact List.getElem_mem _)
  rw [hd] at this; cases this
theorem val_snoc (s : ByteArray) (k : Nat) (h : k < s.size) : valFrom 0 (s.data.toList.take (k + 1)) = valFrom 0 (s.data.toList.take k) * 10 + (s[k].toNat - 48) := by
  rw [take_snoc s k h, valFrom_append, valFrom_one]

set_option maxHeartbeats 1000000 in
theorem ref_Number_short (s : ByteArray) (w : World) (hs : s.size ≤ 10) (h0 : 1 ≤ s.size) :
    Ret 154 #[.string s] w (.tuple #[.int .u64 (numV s.data.toList), .bool (numB s.data.toList)]) := by
  have hl := len_bytes s
  have HL := Lib.hid hl
  clear hl
  have e0 : ((s.size : Int) == 0) = false := by rw [beq_eq_false_iff_ne]; omega
  go_enter Tryz.func154, Tryz.ntmps154
  go_wp2_with fail
  go_loop [4, 5] (fun n i => ∃ k : Nat, k ≤ s.size ∧ i = .int .i64 k ∧ n = .int .u64 (valFrom 0 (s.data.toList.take k)) ∧ (s.data.toList.take k).all isDig = true) (fun _ i => s.size - (intOf i).toNat)
  case atStart => exact ⟨0, Nat.zero_le _, rfl, rfl, rfl⟩
  case round =>
    obtain ⟨k, hk, rfl, rfl, hall⟩ := hrel
    have hv := valFrom_lt_10 _ hall (by rw [List.length_take]; omega)
    have HA := Lib.hid hall
    clear hall
    by_cases hlt : k < s.size
    · have hval := val_snoc s k hlt
      have hat := all_take_snoc s k hlt
      have HV := Lib.hid hval
      have HT := Lib.hid hat
      clear hval hat
      by_cases hd : 48 ≤ s[k].toNat ∧ s[k].toNat ≤ 57
      · obtain ⟨d1, d2⟩ := hd
        have c1 : (48 : Int) ≤ (s[k].toNat : Int) := by omega
        have c2 : (s[k].toNat : Int) ≤ 57 := by omega
        go_wp2_with fail
        go_round
        case rel => exact ⟨k + 1, by omega, by go_num, by rw [HV.out]; go_num, by rw [HT.out, HA.out]; simp [isDig, d1, d2]⟩
        case measure => simp [intOf]; omega
      · have hdig : isDig s[k] = false := by unfold isDig; simpa using hd
        have hn := not_all_of hlt hdig
        have hV : numV s.data.toList = 0 := by unfold numV; rw [if_neg (fun h => by rw [hn] at h; cases h.2)]
        have hB : numB s.data.toList = false := by
          rw [Bool.eq_false_iff]; intro h
          have := (numB_val h).2
          have h2 := decDigits_all (valFrom 0 s.data.toList)
          rw [this, hn] at h2; cases h2
        have HV := Lib.hid hV
        have HB := Lib.hid hB
        have HH := Lib.hid hd
        clear hd hdig hn hV hB
        by_cases c1 : (s[k].toNat : Int) < 48
        · go_wp2_with fail
          go_ret2
          exact ⟨by rw [HV.out, HB.out]; rfl, Below.refl _ _⟩
        · have c2 : (57 : Int) < (s[k].toNat : Int) := by have := HH.out; omega
          go_wp2_with fail
          go_ret2
          exact ⟨by rw [HV.out, HB.out]; rfl, Below.refl _ _⟩
    · have ek : k = s.size := by omega
      have et : s.data.toList.take k = s.data.toList := by rw [ek]; exact List.take_of_length_le (by rw [HL.out]; exact Nat.le_refl _)
      have hV : numV s.data.toList = (valFrom 0 (s.data.toList.take k) : Int) := by
        unfold numV
        rw [if_pos ⟨by rw [HL.out]; exact hs, by rw [← et]; exact HA.out⟩, et]
      have hB : numB s.data.toList = ((digits (valFrom 0 (s.data.toList.take k))).toList == s.toList) := by
        rw [et, ByteArray.toList_eq, digits_list, ByteArray.toList_eq]
        unfold numB
        rw [HL.out, Bool.eq_iff_iff, decide_eq_true_iff, beq_iff_eq]
        exact ⟨fun h => h.2, fun h => ⟨hs, h⟩⟩
      have HV := Lib.hid hV
      have HB := Lib.hid hB
      clear ek et hV hB
      go_wp2_with fail
      refine (ref_Digits _ _ (by omega) (by omega)).mono ?_
      rintro e w1 ⟨rfl, hb⟩
      rw [Int.toNat_natCast]
      go_wp2_with fail
      go_ret2
      exact ⟨by rw [HV.out, HB.out]; rfl, hb⟩
theorem ref_Number_long (s : ByteArray) (w : World) (hs : 10 < s.size) :
    Ret 154 #[.string s] w (.tuple #[.int .u64 (numV s.data.toList), .bool (numB s.data.toList)]) := by
  have hl := len_bytes s
  have hV : numV s.data.toList = 0 := by unfold numV; rw [if_neg (by omega)]
  have hB : numB s.data.toList = false := by unfold numB; simp; omega
  rw [hV, hB]
  clear hl hV hB
  have e0 : ((s.size : Int) == 0) = false := by rw [beq_eq_false_iff_ne]; omega
  go_enter Tryz.func154, Tryz.ntmps154
  go_wp2_with fail
  go_ret2
  exact ⟨rfl, Below.refl _ _⟩
theorem ref_Number_empty (w : World) :
    Ret 154 #[.string ⟨#[]⟩] w (.tuple #[.int .u64 0, .bool false]) := by
  go_enter Tryz.func154, Tryz.ntmps154
  go_wp2_with fail
  go_ret2
  exact ⟨rfl, Below.refl _ _⟩
theorem numV_nil : numV [] = 0 := rfl
theorem numB_nil : numB [] = false := by
  rw [Bool.eq_false_iff]; intro h
  exact decDigits_ne_nil _ (numB_val h).2
theorem ref_Number (s : ByteArray) (w : World) :
    Ret 154 #[.string s] w (.tuple #[.int .u64 (numV s.data.toList), .bool (numB s.data.toList)]) := by
  by_cases h : s.size ≤ 10
  · by_cases h1 : 1 ≤ s.size
    · exact ref_Number_short s w h h1
    · have e : s = ⟨#[]⟩ := by
        apply str_ext
        apply List.eq_nil_of_length_eq_zero
        have := len_bytes s
        omega
      subst e
      exact (ref_Number_empty w).to (by rw [numV_nil, numB_nil])
  · exact ref_Number_long s w (by omega)
end Go.Proofs.YtinlfheonlpceaaGreatDoor

/- The references of chapter 05: Check, CheckOuter, letter, Text, OuterText, Pack, Unpack. -/
namespace Go.Proofs.YtinlfheonlpceaaGreatDoor
open Go.RowKit
open Go.Lib (decDigits)

theorem letter_c (k : Int) (w : World) (h1 : 1 ≤ k) (h2 : k ≤ 3) : Calls Tryz.prog 134 #[.int .i64 k] w fun e w' => e = .returned (.string ⟨#[letterB k]⟩) ∧ w' = w := by
  rcases (by omega : k = 1 ∨ k = 2 ∨ k = 3) with rfl | rfl | rfl
  all_goals
    go_enter Tryz.func134, Tryz.ntmps134
    go_wp2
    go_returns
    exact ⟨rfl, rfl⟩
set_option maxHeartbeats 4000000 in
theorem ro_check (k s g : Int) (w : World) (g0 : 0 ≤ g) : Ret 80 #[dV k s g] w (.int .i64 (dErr 64 k s g)) := by
  cases h : dOk 64 k s g with
  | true =>
    rw [dErr_ok h]
    rw [dOk_iff] at h
    obtain ⟨k1, k3, s0, s1, hg⟩ := h
    have e1 : (g == 0) = false := beq_eq_false_iff_ne.2 hg
    clear hg
    go_enter Tryz.func80, Tryz.ntmps80
    go_wp2
    go_returns
    exact ⟨rfl, by go_grown⟩
  | false =>
    rw [dErr_bad h]
    have h' := dOk_not h
    have h2 : k < 1 ∨ (1 ≤ k ∧ (3 < k ∨ (k ≤ 3 ∧ (s < 0 ∨ (0 ≤ s ∧ (64 ≤ s ∨ (s < 64 ∧ g = 0))))))) := by omega
    clear h h' g0
    rcases h2 with h | ⟨h1, h | ⟨h2, h | ⟨h3, h | ⟨h4, rfl⟩⟩⟩⟩
    all_goals
      go_enter Tryz.func80, Tryz.ntmps80
      go_wp2
      go_returns
      exact ⟨rfl, by go_grown⟩
set_option linter.unusedSimpArgs false in
set_option maxHeartbeats 4000000 in
set_option maxRecDepth 20000 in
theorem ro_text_ok (k s g : Int) (w : World) (h : dOk 64 k s g = true) (g0 : 0 ≤ g) (g1 : g ≤ 4294967295) : Ret 111 #[dV k s g] w (.tuple #[.string (dText 58 k s g), .int .i64 0]) := by
  have hk := fun w => ro_check k s g w g0
  rw [dErr_ok h] at hk
  rw [dOk_iff] at h
  obtain ⟨k1, k3, s0, s1, _⟩ := h
  have hl := fun w => letter_c k w k1 k3
  have hz1 := digits_size_le s.toNat (by omega)
  have hz2 := digits_size_le g.toNat (by omega)
  have hca := cat_text 58 k s g
  obtain ⟨t1, h1⟩ : ∃ t1, ByteArray.mk #[letterB k] ++ digits s.toNat = t1 := ⟨_, rfl⟩
  obtain ⟨t2, h2⟩ : ∃ t2, t1 ++ ⟨#[58]⟩ = t2 := ⟨_, rfl⟩
  rw [h1, h2] at hca
  have e1 : t1.size ≤ 21 := by rw [← h1, ByteArray.size_append]; simp only [show (ByteArray.mk #[letterB k]).size = 1 from rfl]; omega
  have e2 : t2.size ≤ 22 := by rw [← h2, ByteArray.size_append]; simp only [show (ByteArray.mk #[58]).size = 1 from rfl]; omega
  have r1 := add_run h1 (by simp only [show (ByteArray.mk #[letterB k]).size = 1 from rfl]; omega)
  have r2 := add_run h2 (by simp only [show (ByteArray.mk #[58]).size = 1 from rfl]; omega)
  have r3 := add_run hca (by omega)
  have c1 : IntKind.u64.wrap s = s := by rw [IntKind.wrap_u64]; omega
  have c2 : IntKind.u64.wrap g = g := by rw [IntKind.wrap_u64]; omega
  have HK := Lib.hid hk
  have HL := Lib.hid hl
  generalize dText 58 k s g = T at *
  clear e1 e2 hz1 hz2 h1 h2 hca hk hl
  go_enter Tryz.func111, Tryz.ntmps111
  go_wp2_with fail
  refine (HK.out _).mono ?_
  rintro e w1 ⟨rfl, hb1⟩
  obtain ⟨q1, f1⟩ := bcell hb1
  have b1 := under (w := w) hb1
  have z1 : w.heap.size < w1.heap.size := by have := hb1.size; simp at this; omega
  have p0 : w1.cell? ⟨w.heap.size, 0, none⟩ = some (.int .i64 k) := by rw [q1 _ _ (by simp)]; simp
  have p1 : w1.cell? ⟨w.heap.size, 1, none⟩ = some (.int .i64 s) := by rw [q1 _ _ (by simp)]; simp
  have p2 : w1.cell? ⟨w.heap.size, 2, none⟩ = some (.int .u32 g) := by rw [q1 _ _ (by simp)]; simp
  clear q1 f1 hb1
  go_wp2_with fail
  refine wp_region_held_drew (S := fun W' => W'.cell? ⟨w.heap.size, 0, none⟩ = some (.int .i64 k) ∧ W'.cell? ⟨w.heap.size, 1, none⟩ = some (.int .i64 s) ∧ W'.cell? ⟨w.heap.size, 2, none⟩ = some (.int .u32 g)) (by kernel_rfl) ?_ (fun hHeld => ?_)
  · go_keep
  refine' wpAnyH_take (i := 0) (oi := _) (v := _) ?_ (by kernel_rfl) (by kernel_rfl) (by kernel_rfl) ?_ (Or.inl ⟨?_, ?_⟩) (by assumption) ?_
  rotate_left 2
  · (simp only [List.getElem?_toArray, List.getElem?_cons_succ, List.getElem?_cons_zero]; rfl)
  · first | exact fun _ _ _ h => h | exact fun _ _ _ h => nomatch h.1
  · rfl
  · (intro W hSW; (try dsimp only at hSW); go_split_ands; first | (go_simp; done) | (go_simp; with_reducible rfl))
  try simp only [Act.put, List.setIfInBounds_toArray, List.set_cons_zero, List.set_cons_succ]
  refine' wpAnyH_take (i := 1) (oi := _) (v := _) ?_ (by kernel_rfl) (by kernel_rfl) (by kernel_rfl) ?_ (Or.inl ⟨?_, ?_⟩) (by assumption) ?_
  rotate_left 2
  · (simp only [List.getElem?_toArray, List.getElem?_cons_succ, List.getElem?_cons_zero]; rfl)
  · first | exact fun _ _ _ h => h | exact fun _ _ _ h => nomatch h.1
  · rfl
  · (intro W hSW; (try dsimp only at hSW); go_split_ands; first | (go_simp; done) | (go_simp; with_reducible rfl))
  try simp only [Act.put, List.setIfInBounds_toArray, List.set_cons_zero, List.set_cons_succ]
  refine' wpAnyH_take (i := 3) (oi := _) (v := _) ?_ (by kernel_rfl) (by kernel_rfl) (by kernel_rfl) ?_ (Or.inl ⟨?_, ?_⟩) (by assumption) ?_
  rotate_left 2
  · (simp only [List.getElem?_toArray, List.getElem?_cons_succ, List.getElem?_cons_zero]; rfl)
  · first | exact fun _ _ _ h => h | exact fun _ _ _ h => nomatch h.1
  · rfl
  · (intro W hSW; (try dsimp only at hSW); go_split_ands; first | (go_simp; done) | (go_simp; with_reducible rfl))
  try simp only [Act.put, List.setIfInBounds_toArray, List.set_cons_zero, List.set_cons_succ]
  refine' wpAnyH_take (i := 4) (oi := _) (v := _) ?_ (by kernel_rfl) (by kernel_rfl) (by kernel_rfl) ?_ (Or.inl ⟨?_, ?_⟩) (by assumption) ?_
  rotate_left 2
  · (simp only [List.getElem?_toArray, List.getElem?_cons_succ, List.getElem?_cons_zero]; rfl)
  · first | exact fun _ _ _ h => h | exact fun _ _ _ h => nomatch h.1
  · rfl
  · (intro W hSW; (try dsimp only at hSW); go_split_ands; first | (go_simp; done) | (go_simp; with_reducible rfl))
  try simp only [Act.put, List.setIfInBounds_toArray, List.set_cons_zero, List.set_cons_succ]
  refine' wpAnyH_take (i := 5) (oi := _) (v := _) ?_ (by kernel_rfl) (by kernel_rfl) (by kernel_rfl) ?_ (Or.inl ⟨?_, ?_⟩) (by assumption) ?_
  rotate_left 2
  · (simp only [List.getElem?_toArray, List.getElem?_cons_succ, List.getElem?_cons_zero]; rfl)
  · first | exact fun _ _ _ h => h | exact fun _ _ _ h => nomatch h.1
  · rfl
  · (intro W hSW; (try dsimp only at hSW); go_split_ands; first | (go_simp; done) | (go_simp; with_reducible rfl))
  try simp only [Act.put, List.setIfInBounds_toArray, List.set_cons_zero, List.set_cons_succ]
  refine' wpAnyH_take (i := 9) (oi := _) (v := _) ?_ (by kernel_rfl) (by kernel_rfl) (by kernel_rfl) ?_ (Or.inl ⟨?_, ?_⟩) (by assumption) ?_
  rotate_left 2
  · (simp only [List.getElem?_toArray, List.getElem?_cons_succ, List.getElem?_cons_zero]; rfl)
  · first | exact fun _ _ _ h => h | exact fun _ _ _ h => nomatch h.1
  · rfl
  · (intro W hSW; (try dsimp only at hSW); go_split_ands; first | (go_simp; done) | (go_simp; with_reducible rfl))
  try simp only [Act.put, List.setIfInBounds_toArray, List.set_cons_zero, List.set_cons_succ]
  refine' wpAnyH_take (i := 10) (oi := _) (v := _) ?_ (by kernel_rfl) (by kernel_rfl) (by kernel_rfl) ?_ (Or.inl ⟨?_, ?_⟩) (by assumption) ?_
  rotate_left 2
  · (simp only [List.getElem?_toArray, List.getElem?_cons_succ, List.getElem?_cons_zero]; rfl)
  · first | exact fun _ _ _ h => h | exact fun _ _ _ h => nomatch h.1
  · rfl
  · (intro W hSW; (try dsimp only at hSW); go_split_ands; first | (go_simp; done) | (go_simp; with_reducible rfl))
  try simp only [Act.put, List.setIfInBounds_toArray, List.set_cons_zero, List.set_cons_succ]
  refine' wpAnyH_take (i := 11) (oi := _) (v := _) ?_ (by kernel_rfl) (by kernel_rfl) (by kernel_rfl) ?_ (Or.inl ⟨?_, ?_⟩) (by assumption) ?_
  rotate_left 2
  · (simp only [List.getElem?_toArray, List.getElem?_cons_succ, List.getElem?_cons_zero]; rfl)
  · first | exact fun _ _ _ h => h | exact fun _ _ _ h => nomatch h.1
  · rfl
  · (intro W hSW; (try dsimp only at hSW); go_split_ands; first | (go_simp; done) | (go_simp; with_reducible rfl))
  try simp only [Act.put, List.setIfInBounds_toArray, List.set_cons_zero, List.set_cons_succ]
  refine wpAnyH_ready (rs := [2]) (by kernel_rfl) (by simp) ?_
  refine' AllReadyH.cons (o := _) ?_ (fun K hK => ?_) AllReadyH.nil
  rotate_left 1
  · (simp only [List.getElem?_toArray, List.getElem?_cons_succ, List.getElem?_cons_zero]; rfl)
  go_simp
  refine (HL.out _).mono ?_
  rintro e w2 ⟨rfl, rfl⟩
  go_simp
  refine hK.out _ _ hHeld (fun hHeld => ?_)
  clear hK K
  refine wpAnyH_ready (rs := [6]) (by kernel_rfl) (by simp) ?_
  refine' AllReadyH.cons (o := _) ?_ (fun K hK => ?_) AllReadyH.nil
  rotate_left 1
  · (simp only [List.getElem?_toArray, List.getElem?_cons_succ, List.getElem?_cons_zero]; rfl)
  go_simp
  refine (ref_Digits _ _ (by omega) (by omega)).mono ?_
  rintro e w2 ⟨rfl, hb2⟩
  have b2 := b1.trans ((off_drew hb2).mono b1.size)
  have z2 : w.heap.size < w2.heap.size := Nat.lt_of_lt_of_le z1 hb2.size
  go_simp
  refine hK.out _ _ ?_ (fun hHeld => ?_)
  · (go_split_ands; refine ⟨?_, ?_, ?_⟩ <;> exact keep_cell hb2 z1 (by assumption))
  clear hK K
  refine' wpAnyH_take (i := 7) (oi := _) (v := _) ?_ (by kernel_rfl) (by kernel_rfl) (by kernel_rfl) ?_ (Or.inl ⟨?_, ?_⟩) (by assumption) ?_
  rotate_left 2
  · (simp only [List.getElem?_toArray, List.getElem?_cons_succ, List.getElem?_cons_zero]; rfl)
  · first | exact fun _ _ _ h => h | exact fun _ _ _ h => nomatch h.1
  · rfl
  · (intro W hSW; (try dsimp only at hSW); go_split_ands; first | (go_simp; done) | (go_simp; with_reducible rfl))
  try simp only [Act.put, List.setIfInBounds_toArray, List.set_cons_zero, List.set_cons_succ]
  refine' wpAnyH_take (i := 8) (oi := _) (v := _) ?_ (by kernel_rfl) (by kernel_rfl) (by kernel_rfl) ?_ (Or.inl ⟨?_, ?_⟩) (by assumption) ?_
  rotate_left 2
  · (simp only [List.getElem?_toArray, List.getElem?_cons_succ, List.getElem?_cons_zero]; rfl)
  · first | exact fun _ _ _ h => h | exact fun _ _ _ h => nomatch h.1
  · rfl
  · (intro W hSW; (try dsimp only at hSW); go_split_ands; first | (go_simp; done) | (go_simp; with_reducible rfl))
  try simp only [Act.put, List.setIfInBounds_toArray, List.set_cons_zero, List.set_cons_succ]
  refine wpAnyH_ready (rs := [12]) (by kernel_rfl) (by simp) ?_
  refine' AllReadyH.cons (o := _) ?_ (fun K hK => ?_) AllReadyH.nil
  rotate_left 1
  · (simp only [List.getElem?_toArray, List.getElem?_cons_succ, List.getElem?_cons_zero]; rfl)
  go_simp
  refine (ref_Digits _ _ (by omega) (by omega)).mono ?_
  rintro e w3 ⟨rfl, hb3⟩
  go_simp
  refine hK.out _ _ ?_ (fun hHeld => ?_)
  · (go_split_ands; refine ⟨?_, ?_, ?_⟩ <;> exact keep_cell hb3 z2 (by assumption))
  clear hK K
  refine' wpAnyH_take (i := 13) (oi := _) (v := _) ?_ (by kernel_rfl) (by kernel_rfl) (by kernel_rfl) ?_ (Or.inl ⟨?_, ?_⟩) (by assumption) ?_
  rotate_left 2
  · (simp only [List.getElem?_toArray, List.getElem?_cons_succ, List.getElem?_cons_zero]; rfl)
  · first | exact fun _ _ _ h => h | exact fun _ _ _ h => nomatch h.1
  · rfl
  · (intro W hSW; (try dsimp only at hSW); go_split_ands; first | (go_simp; done) | (go_simp; with_reducible rfl))
  try simp only [Act.put, List.setIfInBounds_toArray, List.set_cons_zero, List.set_cons_succ]
  refine' wpAnyH_take (i := 14) (oi := _) (v := _) ?_ (by kernel_rfl) (by kernel_rfl) (by kernel_rfl) ?_ (Or.inl ⟨?_, ?_⟩) (by assumption) ?_
  rotate_left 2
  · (simp only [List.getElem?_toArray, List.getElem?_cons_succ, List.getElem?_cons_zero]; rfl)
  · first | exact fun _ _ _ h => h | exact fun _ _ _ h => nomatch h.1
  · rfl
  · (intro W hSW; (try dsimp only at hSW); go_split_ands; first | (go_simp; done) | (go_simp; with_reducible rfl))
  try simp only [Act.put, List.setIfInBounds_toArray, List.set_cons_zero, List.set_cons_succ]
  refine' wpAnyH_take (i := 15) (oi := _) (v := _) ?_ (by kernel_rfl) (by kernel_rfl) (by kernel_rfl) ?_ (Or.inl ⟨?_, ?_⟩) (by assumption) ?_
  rotate_left 2
  · (simp only [List.getElem?_toArray, List.getElem?_cons_succ, List.getElem?_cons_zero]; rfl)
  · first | exact fun _ _ _ h => h | exact fun _ _ _ h => nomatch h.1
  · rfl
  · (intro W hSW; (try dsimp only at hSW); go_split_ands; first | (go_simp; done) | (go_simp; with_reducible rfl))
  try simp only [Act.put, List.setIfInBounds_toArray, List.set_cons_zero, List.set_cons_succ]
  refine wpAnyH_done (by kernel_rfl) ?_ _
  go_wp2_with fail
  go_returns
  exact ⟨rfl, chain b2 hb3⟩
theorem ro_text_bad (k s g : Int) (w : World) (h : dOk 64 k s g = false) (g0 : 0 ≤ g) : Ret 111 #[dV k s g] w (.tuple #[.string ⟨#[]⟩, .int .i64 2]) := by
  have hk := fun w => ro_check k s g w g0
  rw [dErr_bad h] at hk
  have HK := Lib.hid hk
  clear hk h
  go_enter Tryz.func111, Tryz.ntmps111
  go_wp2_with fail
  refine (HK.out _).mono ?_
  rintro e w1 ⟨rfl, hb1⟩
  go_wp2_with fail
  go_returns
  exact ⟨rfl, under hb1⟩
end Go.Proofs.YtinlfheonlpceaaGreatDoor

/- What the rows' lists of package-level variables give; one world for the witness, in which each lies as its initialiser lays it. Written by mkcard.py. -/
namespace Go.Proofs.YtinlfheonlpceaaGreatDoor
open Go.ChangeShapes Go.WideShapes Go.ChangeAt Go.RowKit
set_option maxRecDepth 100000

theorem own : ownKnob Tryz.prog.godebug = none := by kernel_rfl
theorem lt_of_var {W : World} {n : String} {g : Nat} {cs : Array Value} (hg : Tryz.prog.globalNamed n = some g) (hv : W.var? Tryz.prog n = some cs) : g < W.heap.size := by
  unfold World.var? at hv
  simp only [hg, Option.bind_some] at hv
  rcases Nat.lt_or_ge g W.heap.size with h | h
  · exact h
  · rw [Array.getElem?_eq_none h] at hv
    cases hv
theorem g_math_bits_deBruijn32tab : Tryz.prog.globalNamed "math/bits.deBruijn32tab" = some 7 := by kernel_rfl
theorem ty_math_bits_deBruijn32tab : (Tryz.prog.globals[7]?).map (·.type) = some 197 := by kernel_rfl
theorem g_math_bits_deBruijn64tab : Tryz.prog.globalNamed "math/bits.deBruijn64tab" = some 8 := by kernel_rfl
theorem ty_math_bits_deBruijn64tab : (Tryz.prog.globals[8]?).map (·.type) = some 198 := by kernel_rfl
theorem g_internal_strconv_uint64pow10 : Tryz.prog.globalNamed "internal/strconv.uint64pow10" = some 4 := by kernel_rfl
theorem ty_internal_strconv_uint64pow10 : (Tryz.prog.globals[4]?).map (·.type) = some 169 := by kernel_rfl
theorem g_unicode_utf8_acceptRanges : Tryz.prog.globalNamed "unicode/utf8.acceptRanges" = some 2 := by kernel_rfl
theorem g_strconv_ErrRange : Tryz.prog.globalNamed "strconv.ErrRange" = some 6 := by kernel_rfl
theorem ty_strconv_ErrRange : (Tryz.prog.globals[6]?).map (·.type) = some 84 := by kernel_rfl
theorem g_strconv_ErrSyntax : Tryz.prog.globalNamed "strconv.ErrSyntax" = some 5 := by kernel_rfl
theorem ty_strconv_ErrSyntax : (Tryz.prog.globals[5]?).map (·.type) = some 84 := by kernel_rfl
theorem g_unicode_CaseRanges : Tryz.prog.globalNamed "unicode.CaseRanges" = some 3 := by kernel_rfl
theorem g_unicode_utf8_first : Tryz.prog.globalNamed "unicode/utf8.first" = some 1 := by kernel_rfl
theorem laid_out_b : laidOutB Tryz.prog = true := by kernel_rfl
theorem slices_full : ((List.range Tryz.prog.types.size).all fun t => match Tryz.prog.underlying t with | some (.slice e) => decide (0 < Tryz.prog.cellsOf e) | _ => true) = true := by kernel_rfl
theorem star : "*" ++ "errors.errorString" = "*errors.errorString" := by decide
theorem row_es (u : TypeId) (h : Tryz.prog.typeName? 3 u = some "*errors.errorString") : u = 199 :=
  typeName_ptr_named (nm := "errors.errorString") (by rw [star]; kernel_rfl) (by kernel_rfl) (by decide) u (by rw [star]; exact h)
theorem cells_es : Tryz.prog.cellsOf 201 = 1 := by kernel_rfl
theorem cells_str : Tryz.prog.cellsOf 9 = 1 := by kernel_rfl
theorem env_0 {W : World} (h : laidMetH Tryz.prog [("math/bits.deBruijn32tab", Rows.laid_math_bits_deBruijn32tab), ("math/bits.deBruijn64tab", Rows.laid_math_bits_deBruijn64tab), ("internal/strconv.uint64pow10", Rows.laid_internal_strconv_uint64pow10), ("unicode/utf8.acceptRanges", Rows.laid_unicode_utf8_acceptRanges), ("strconv.ErrRange", Rows.laid_strconv_ErrRange), ("strconv.ErrSyntax", Rows.laid_strconv_ErrSyntax), ("unicode.CaseRanges", Rows.laid_unicode_CaseRanges), ("unicode/utf8.first", Rows.laid_unicode_utf8_first)] W) (hs : W.ShapedOpen Tryz.prog) : EnvP W := by
  have v_internal_strconv_uint64pow10 : Lib.TabIs Tryz.prog W "internal/strconv.uint64pow10" .u64 Lib.pow10Tab := Lib.tabIs_of_head g_internal_strconv_uint64pow10 ty_internal_strconv_uint64pow10 Tryz.underlying169 Tryz.underlying138 (by kernel_rfl) (by kernel_rfl) h.tail.tail
  obtain ⟨a_strconv_ErrSyntax, s_strconv_ErrSyntax, v_strconv_ErrSyntax, -, -, -⟩ := laid_sentinel h.tail.tail.tail.tail.tail g_strconv_ErrSyntax ty_strconv_ErrSyntax Tryz.underlying84 row_es Tryz.underlying199 Tryz.underlying201 rfl rfl Tryz.underlying9 cells_es cells_str
  obtain ⟨a_strconv_ErrRange, s_strconv_ErrRange, v_strconv_ErrRange, -, -, -⟩ := laid_sentinel h.tail.tail.tail.tail g_strconv_ErrRange ty_strconv_ErrRange Tryz.underlying84 row_es Tryz.underlying199 Tryz.underlying201 rfl rfl Tryz.underlying9 cells_es cells_str
  exact ⟨⟨⟨_, lt_of_var g_internal_strconv_uint64pow10 v_internal_strconv_uint64pow10, g_internal_strconv_uint64pow10, v_internal_strconv_uint64pow10⟩, hs⟩, ⟨_, _, _, lt_of_var g_strconv_ErrSyntax v_strconv_ErrSyntax, g_strconv_ErrSyntax, v_strconv_ErrSyntax⟩, ⟨_, _, _, lt_of_var g_strconv_ErrRange v_strconv_ErrRange, g_strconv_ErrRange, v_strconv_ErrRange⟩⟩
theorem env_1 {W : World} (h : laidMetH Tryz.prog [("math/bits.deBruijn32tab", Rows.laid_math_bits_deBruijn32tab), ("math/bits.deBruijn64tab", Rows.laid_math_bits_deBruijn64tab), ("internal/strconv.uint64pow10", Rows.laid_internal_strconv_uint64pow10), ("unicode/utf8.acceptRanges", Rows.laid_unicode_utf8_acceptRanges), ("strconv.ErrRange", Rows.laid_strconv_ErrRange), ("strconv.ErrSyntax", Rows.laid_strconv_ErrSyntax), ("unicode/utf8.first", Rows.laid_unicode_utf8_first)] W) (hs : W.ShapedOpen Tryz.prog) : EnvP W := by
  have v_internal_strconv_uint64pow10 : Lib.TabIs Tryz.prog W "internal/strconv.uint64pow10" .u64 Lib.pow10Tab := Lib.tabIs_of_head g_internal_strconv_uint64pow10 ty_internal_strconv_uint64pow10 Tryz.underlying169 Tryz.underlying138 (by kernel_rfl) (by kernel_rfl) h.tail.tail
  obtain ⟨a_strconv_ErrSyntax, s_strconv_ErrSyntax, v_strconv_ErrSyntax, -, -, -⟩ := laid_sentinel h.tail.tail.tail.tail.tail g_strconv_ErrSyntax ty_strconv_ErrSyntax Tryz.underlying84 row_es Tryz.underlying199 Tryz.underlying201 rfl rfl Tryz.underlying9 cells_es cells_str
  obtain ⟨a_strconv_ErrRange, s_strconv_ErrRange, v_strconv_ErrRange, -, -, -⟩ := laid_sentinel h.tail.tail.tail.tail g_strconv_ErrRange ty_strconv_ErrRange Tryz.underlying84 row_es Tryz.underlying199 Tryz.underlying201 rfl rfl Tryz.underlying9 cells_es cells_str
  exact ⟨⟨⟨_, lt_of_var g_internal_strconv_uint64pow10 v_internal_strconv_uint64pow10, g_internal_strconv_uint64pow10, v_internal_strconv_uint64pow10⟩, hs⟩, ⟨_, _, _, lt_of_var g_strconv_ErrSyntax v_strconv_ErrSyntax, g_strconv_ErrSyntax, v_strconv_ErrSyntax⟩, ⟨_, _, _, lt_of_var g_strconv_ErrRange v_strconv_ErrRange, g_strconv_ErrRange, v_strconv_ErrRange⟩⟩
noncomputable def low : Nat := (World.holding Tryz.prog default ⟨#[], #[], []⟩).heap.size
noncomputable def laidWorld (os : Os) : World :=
  let w0 := World.holding Tryz.prog os ⟨#[.cells #[.string ⟨#[118, 97, 108, 117, 101, 32, 111, 117, 116, 32, 111, 102, 32, 114, 97, 110, 103, 101]⟩] 201, .cells #[.string ⟨#[105, 110, 118, 97, 108, 105, 100, 32, 115, 121, 110, 116, 97, 120]⟩] 201], #[], []⟩
  { w0 with heap := (((((((w0.heap.modify 7 fun
      | .cells _ t frozen => .cells #[.int .u8 0, .int .u8 1, .int .u8 28, .int .u8 2, .int .u8 29, .int .u8 14, .int .u8 24, .int .u8 3, .int .u8 30, .int .u8 22, .int .u8 20, .int .u8 15, .int .u8 25, .int .u8 17, .int .u8 4, .int .u8 8, .int .u8 31, .int .u8 27, .int .u8 13, .int .u8 23, .int .u8 21, .int .u8 19, .int .u8 16, .int .u8 7, .int .u8 26, .int .u8 12, .int .u8 18, .int .u8 6, .int .u8 11, .int .u8 5, .int .u8 10, .int .u8 9] t frozen
      | o => o).modify 8 fun
      | .cells _ t frozen => .cells #[.int .u8 0, .int .u8 1, .int .u8 56, .int .u8 2, .int .u8 57, .int .u8 49, .int .u8 28, .int .u8 3, .int .u8 61, .int .u8 58, .int .u8 42, .int .u8 50, .int .u8 38, .int .u8 29, .int .u8 17, .int .u8 4, .int .u8 62, .int .u8 47, .int .u8 59, .int .u8 36, .int .u8 45, .int .u8 43, .int .u8 51, .int .u8 22, .int .u8 53, .int .u8 39, .int .u8 33, .int .u8 30, .int .u8 24, .int .u8 18, .int .u8 12, .int .u8 5, .int .u8 63, .int .u8 55, .int .u8 48, .int .u8 27, .int .u8 60, .int .u8 41, .int .u8 37, .int .u8 16, .int .u8 46, .int .u8 35, .int .u8 44, .int .u8 21, .int .u8 52, .int .u8 32, .int .u8 23, .int .u8 11, .int .u8 54, .int .u8 26, .int .u8 40, .int .u8 15, .int .u8 34, .int .u8 20, .int .u8 31, .int .u8 10, .int .u8 25, .int .u8 14, .int .u8 19, .int .u8 9, .int .u8 13, .int .u8 8, .int .u8 7, .int .u8 6] t frozen
      | o => o).modify 4 fun
      | .cells _ t frozen => .cells #[.int .u64 1, .int .u64 10, .int .u64 100, .int .u64 1000, .int .u64 10000, .int .u64 100000, .int .u64 1000000, .int .u64 10000000, .int .u64 100000000, .int .u64 1000000000, .int .u64 10000000000, .int .u64 100000000000, .int .u64 1000000000000, .int .u64 10000000000000, .int .u64 100000000000000, .int .u64 1000000000000000, .int .u64 10000000000000000, .int .u64 100000000000000000, .int .u64 1000000000000000000, .int .u64 10000000000000000000] t frozen
      | o => o).modify 2 fun
      | .cells _ t frozen => .cells #[.int .u8 128, .int .u8 191, .int .u8 160, .int .u8 191, .int .u8 128, .int .u8 159, .int .u8 144, .int .u8 191, .int .u8 128, .int .u8 143, .int .u8 0, .int .u8 0, .int .u8 0, .int .u8 0, .int .u8 0, .int .u8 0, .int .u8 0, .int .u8 0, .int .u8 0, .int .u8 0, .int .u8 0, .int .u8 0, .int .u8 0, .int .u8 0, .int .u8 0, .int .u8 0, .int .u8 0, .int .u8 0, .int .u8 0, .int .u8 0, .int .u8 0, .int .u8 0] t frozen
      | o => o).modify 6 fun
      | .cells _ t frozen => .cells #[.iface 199 (.pointer (some ⟨low + 0, 0, none⟩))] t frozen
      | o => o).modify 5 fun
      | .cells _ t frozen => .cells #[.iface 199 (.pointer (some ⟨low + 1, 0, none⟩))] t frozen
      | o => o).modify 1 fun
      | .cells _ t frozen => .cells (Go.Pinned.utf8FirstZ.map fun (n : Nat) => Value.int .u8 (n : Int)).toArray t frozen
      | o => o) }
end Go.Proofs.YtinlfheonlpceaaGreatDoor

/- Arguments opened, whatever their types: numbers, bools, strings, structs and arrays of these; and every argument's reading kept over a call that turns no old memory. No program in sight. -/
namespace Go.Proofs.YtinlfheonlpceaaGreatDoor
open Go.ChangeShapes Go.WideShapes Go.RowKit

section
variable {H : Type} {enc : TypeId × Value → H} {P : Program}

theorem kept_arg (hl : laidOutB P = true) (hz : ((List.range P.types.size).all fun t => match P.underlying t with | some (.slice e) => decide (0 < P.cellsOf e) | _ => true) = true)
    {t : TypeId} (hT : InBook P t t) (hr : P.readableRec t = true) {w w' : World} {v : Value} {d : DataW H} {p : List MemPlace}
    (h : DataW.Trod enc P w 0 (fun _ => true) true t v d p) (hb : Below w.heap.size w w') : DataW.Trod enc P w' 0 (fun b => decide (b < w.heap.size)) true t v d p := by
  obtain ⟨n, hn⟩ := h
  have hlt := DataW.trod_lt n _ _ _ hn
  have hc := DataW.trod_carry (w' := w') n _ _ _ hn (fun q hq => by
    have hq' := hlt q hq
    cases q with
    | cell b off => exact hb.cell (p := ⟨b, off, none⟩) hq'
    | map b => exact hb.block b hq')
  exact DataW.Trod.respare (T := InBook P t) (kids_book hl hr) (fun a e ha => slices_full_of P hz a e ha.1) hT ⟨n, hc⟩ (fun q hq => by simpa using hlt q hq)

inductive Leaf
  | int (k : IntKind) | bool | str
def Leaf.ok : Leaf → Value → Prop
  | .int k, v => ∃ n, v = .int k n ∧ (Lit.int k n).wf = true
  | .bool, v => ∃ b, v = .bool b
  | .str, v => ∃ s : ByteArray, v = .string s ∧ s.size ≤ maxLen
def OkL : List Leaf → List Value → Prop
  | [], [] => True
  | l :: ls, v :: vs => l.ok v ∧ OkL ls vs
  | _, _ => False
theorem OkL_nil {l : List Value} (h : OkL [] l) : l = [] := by
  cases l with
  | nil => rfl
  | cons a r => exact h.elim
theorem OkL_cons {x : Leaf} {ls : List Leaf} {l : List Value} (h : OkL (x :: ls) l) : ∃ v r, l = v :: r ∧ x.ok v ∧ OkL ls r := by
  cases l with
  | nil => exact h.elim
  | cons v r => exact ⟨v, r, rfl, h.1, h.2⟩
theorem OkL_append : ∀ {a : List Leaf} {xs : List Value} {b : List Leaf} {ys : List Value}, OkL a xs → OkL b ys → OkL (a ++ b) (xs ++ ys)
  | [], [], _, _, _, h => h
  | _ :: _, _ :: _, _, _, h1, h2 => ⟨h1.1, OkL_append h1.2 h2⟩
  | [], _ :: _, _, _, h, _ => h.elim
  | _ :: _, [], _, _, h, _ => h.elim
theorem OkL_length : ∀ {a : List Leaf} {xs : List Value}, OkL a xs → xs.length = a.length
  | [], [], _ => rfl
  | _ :: _, _ :: _, h => by simp [OkL_length h.2]
  | [], _ :: _, h => h.elim
  | _ :: _, [], h => h.elim

def fieldsL (g : TypeId → Option (List Leaf)) (size : TypeId → Nat) (tot : Nat) : Nat → List Field → Option (List Leaf)
  | off, [] => if off = tot then some [] else none
  | off, f :: fs => match g f.type with
    | some ls => if f.offset = off ∧ size f.type = ls.length then (fieldsL g size tot (off + ls.length) fs).map (ls ++ ·) else none
    | none => none
def leaves (P : Program) : Nat → TypeId → Option (List Leaf)
  | 0, _ => none
  | n + 1, t => match P.underlying t with
    | some (.int k) => some [.int k]
    | some .bool => some [.bool]
    | some .string => some [.str]
    | some (.array m e) => match leaves P n e with
      | some ls => if P.cellsOf e = ls.length ∧ P.cellsOf t = m * ls.length then some (List.replicate m ls).flatten else none
      | none => none
    | some (.struct fs) => fieldsL (leaves P n) P.cellsOf (P.cellsOf t) 0 fs.toList
    | _ => none

variable {w : World} {base : Nat} {spare : Nat → Bool} {held : Bool}

theorem fieldsL_ok {g : TypeId → Option (List Leaf)} {size : TypeId → Nat} {tot : Nat} {cs : List Value} (hlen : cs.length = tot) {Tr : TypeId → List Value → Prop} (hg : ∀ t ls cs, g t = some ls → Tr t cs → OkL ls cs) :
    ∀ (fs : List Field) (off : Nat) (ls : List Leaf), fieldsL g size tot off fs = some ls → (∀ f ∈ fs, Tr f.type ((cs.drop f.offset).take (size f.type))) → OkL ls (cs.drop off)
  | [], off, ls, h, _ => by
    simp only [fieldsL] at h
    split at h
    · rename_i e
      injection h with h
      rw [← h, e, ← hlen, List.drop_length]
      trivial
    · cases h
  | f :: fs, off, ls, h, hf => by
    simp only [fieldsL] at h
    split at h
    · rename_i l1 hl1
      split at h
      · rename_i e
        obtain ⟨r, hr, hls⟩ := Option.map_eq_some_iff.1 h
        have h1 := hg _ _ _ hl1 (hf f (List.mem_cons_self ..))
        have h2 := fieldsL_ok hlen hg fs _ _ hr (fun x hx => hf x (List.mem_cons_of_mem _ hx))
        rw [e.1, e.2] at h1
        rw [← hls, ← List.take_append_drop l1.length (cs.drop off), List.drop_drop]
        exact OkL_append h1 h2
      · cases h
    · cases h
theorem array_ok {ls : List Leaf} : ∀ (m : Nat) (cs : List Value), cs.length = m * ls.length → (∀ i, i < m → OkL ls ((cs.drop (i * ls.length)).take ls.length)) → OkL (List.replicate m ls).flatten cs
  | 0, cs, hl, _ => by
    have : cs = [] := List.eq_nil_of_length_eq_zero (by simpa using hl)
    subst this
    trivial
  | m + 1, cs, hl, h => by
    rw [List.replicate_succ, List.flatten_cons, ← List.take_append_drop ls.length cs]
    refine OkL_append (by simpa using h 0 (Nat.succ_pos _)) (array_ok m _ (by rw [List.length_drop, hl, Nat.succ_mul]; omega) (fun i hi => ?_))
    have := h (i + 1) (by omega)
    rw [Nat.succ_mul, Nat.add_comm] at this
    rw [List.drop_drop]
    exact this
theorem leaves_ok : ∀ (n : Nat) (t : TypeId) (ls : List Leaf) (cs : List Value) (fuel : Nat) (x : DataW H × List MemPlace), leaves P n t = some ls → DataW.trod enc P w base spare held fuel t cs = some x → OkL ls cs
  | 0, _, _, _, _, _, h, _ => by simp [leaves] at h
  | n + 1, t, ls, cs, fuel, x, h, hx => by
    simp only [leaves] at h
    split at h
    · rename_i k hu
      injection h with h; subst h
      obtain ⟨m, rfl, _, hw⟩ := DataW.trod_int hu hx
      exact ⟨⟨m, rfl, hw⟩, trivial⟩
    · rename_i hu
      injection h with h; subst h
      obtain ⟨b, rfl, _⟩ := DataW.trod_bool hu hx
      exact ⟨⟨b, rfl⟩, trivial⟩
    · rename_i hu
      injection h with h; subst h
      obtain ⟨s, rfl, _, hs⟩ := DataW.trod_string hu hx
      exact ⟨⟨s, rfl, hs⟩, trivial⟩
    · rename_i m e hu
      split at h
      · rename_i l1 hl1
        split at h
        · rename_i hc
          injection h with h; subst h
          obtain ⟨xs, k, _, _, hlen, hxl, hi⟩ := DataW.trod_array hu hx
          refine array_ok m cs (by rw [hlen, hc.2]) (fun i him => ?_)
          have h1 := hi i him
          rw [List.getElem?_eq_getElem (by omega), hc.1] at h1
          exact leaves_ok n _ _ _ _ _ hl1 h1
        · cases h
      · cases h
    · rename_i fs hu
      obtain ⟨xs, k, _, _, hlen, hxl, hi⟩ := DataW.trod_struct hu hx
      have := fieldsL_ok (Tr := fun t cs => ∃ x, DataW.trod enc P w base spare held k t cs = some x) hlen (fun t l c hl ⟨y, hy⟩ => leaves_ok n _ _ _ _ _ hl hy) fs.toList 0 ls h (fun f hf => by
        obtain ⟨i, hi', hfi⟩ := List.getElem_of_mem hf
        have hil : i < fs.size := by simpa using hi'
        have h1 := hi i f (by rw [Array.getElem?_eq_getElem hil]; exact congrArg some (by simpa using hfi))
        rw [List.getElem?_eq_getElem (by omega)] at h1
        exact ⟨_, h1⟩)
      simpa using this
    · cases h
theorem okWide_array {r : Reach} {b0 : Nat} {t e : TypeId} {n : Nat} {v : Value} (ht : P.underlying t = some (.array n e)) (h : Value.okWide P w r b0 t v) : ∃ cs, v = .agg cs := by
  simp only [Value.okWide, ht] at h
  obtain ⟨cs, h1, _⟩ := h
  exact ⟨cs, h1⟩
theorem open_agg {r : Reach} {b0 : Nat} {t : TypeId} {fs : Array Field} {v : Value} {d : DataW H} {p : List MemPlace} {ls : List Leaf} (n : Nat) (hs : P.underlying t = some (.struct fs)) (hl : leaves P n t = some ls)
    (hv : Value.okWide P w r b0 t v) (h : DataW.Trod enc P w base spare held t v d p) : ∃ l : List Value, v = .agg l.toArray ∧ OkL ls l := by
  obtain ⟨cs, rfl, _⟩ := okWide_struct hs hv
  obtain ⟨fuel, hf⟩ := h
  exact ⟨cs.toList, rfl, leaves_ok n t ls _ fuel _ hl hf⟩
theorem open_arr {r : Reach} {b0 : Nat} {t e : TypeId} {m : Nat} {v : Value} {d : DataW H} {p : List MemPlace} {ls : List Leaf} (n : Nat) (hs : P.underlying t = some (.array m e)) (hl : leaves P n t = some ls)
    (hv : Value.okWide P w r b0 t v) (h : DataW.Trod enc P w base spare held t v d p) : ∃ l : List Value, v = .agg l.toArray ∧ OkL ls l := by
  obtain ⟨cs, rfl⟩ := okWide_array hs hv
  obtain ⟨fuel, hf⟩ := h
  exact ⟨cs.toList, rfl, leaves_ok n t ls _ fuel _ hl hf⟩
end
end Go.Proofs.YtinlfheonlpceaaGreatDoor

/- Slices among the arguments, opened. No program in sight. -/
namespace Go.Proofs.YtinlfheonlpceaaGreatDoor
open Go.ChangeShapes Go.WideShapes Go.RowKit
section
variable {H : Type} {enc : TypeId × Value → H} {P : Program} {w : World} {base : Nat} {spare : Nat → Bool} {held : Bool}
/-- A slice of numbers, bools, strings, or structs and arrays of these. -/
structure Sl (w : World) (v : Value) (ls : List Leaf) (n : Nat) (E : Nat → List Value) : Prop where
  ex : ∃ p cap, v = .slice p n cap ∧ n ≤ cap ∧ cap ≤ maxLen ∧ (n = 0 ∨ ∃ b off, p = some ⟨b, off, none⟩ ∧ b < w.heap.size ∧ ∀ i, i < n → ∀ j, j < ls.length → w.cell? ⟨b, off + i * ls.length + j, none⟩ = (E i)[j]?)
  ok : ∀ i, i < n → OkL ls (E i)
theorem open_sl {t e : TypeId} {v : Value} {d : DataW H} {p : List MemPlace} {ls : List Leaf} (n : Nat) (ht : P.underlying t = some (.slice e)) (hl : leaves P n e = some ls) (hk : P.cellsOf e = ls.length) (h0 : 0 < ls.length) {r : Reach} {b0 : Nat} (hval : Value.okWide P w r b0 t v)
    (h : DataW.Trod enc P w base spare held t v d p) : ∃ m E, Sl w v ls m E := by
  obtain ⟨p0, len0, cap0, rfl⟩ := okWide_slice ht hval
  obtain ⟨fuel, hf⟩ := h
  rcases Go.Deep.open_slice ht hf with ⟨hv, _⟩ | ⟨a, len, cap, m, n', D, Pl, hv, hb, hlc, hcm, hm, _, hx⟩
  · replace hv : Value.slice p0 len0 cap0 = _ := (List.cons.inj hv).1
    exact ⟨0, fun _ => [], ⟨none, 0, hv, Nat.le_refl _, by unfold maxLen; omega, .inl rfl⟩, fun i hi => absurd hi (Nat.not_lt_zero _)⟩
  · replace hv : Value.slice p0 len0 cap0 = _ := (List.cons.inj hv).1
    have hlm : len ≤ m := by rw [hm]; split <;> omega
    have each : ∀ i, i < len → ∃ l : List Value, OkL ls l ∧ ∀ j, j < ls.length → w.cell? ((a.add (i * ls.length)).add j) = l[j]? := fun i hi => by
      obtain ⟨cs', h1, h2⟩ := hx i (by omega)
      rw [hk] at h1
      obtain ⟨_, hlen, hcell⟩ := World.cells?_some h1
      exact ⟨cs', leaves_ok n e ls cs' _ _ hl h2, hcell⟩
    classical
    refine ⟨len, fun i => if hi : i < len then Classical.choose (each i hi) else [], ⟨some a, cap, hv, hlc, hcm, ?_⟩, fun i hi => ?_⟩
    · by_cases hz : len = 0
      · exact .inl hz
      · refine .inr ?_
        have hpos : 0 < len := Nat.pos_of_ne_zero hz
        obtain ⟨l0, ok0, hc0⟩ := each 0 hpos
        have hs0 := hc0 0 h0
        have hlen0 := OkL_length ok0
        have ha : a.spot = none ∧ a.block < w.heap.size := by
          rw [Nat.zero_mul] at hs0
          have e0 : (a.add 0).add 0 = a := by simp [Addr.add]
          rw [e0, List.getElem?_eq_getElem (by omega)] at hs0
          unfold World.cell? at hs0
          split at hs0
          · rename_i c _ _ hblk
            refine ⟨?_, (Array.getElem?_eq_some_iff.1 hblk).1⟩
            cases hsp : a.spot with
            | none => rfl
            | some x => rw [hsp] at hs0; simp at hs0
          · cases hs0
        obtain ⟨b, off, sp⟩ := a
        obtain ⟨rfl, hblk⟩ := ha
        refine ⟨b, off, rfl, hblk, fun i hi j hj => ?_⟩
        have := (Classical.choose_spec (each i hi)).2 j hj
        rw [Go.Deep.add_add] at this
        simp only [dif_pos hi]
        rw [← this]
        unfold Addr.add
        by_cases hij : i * ls.length + j = 0
        · rw [if_pos hij, Nat.add_assoc, hij, Nat.add_zero]
        · rw [if_neg hij, Nat.add_assoc]
    · simp only [dif_pos hi]
      exact (Classical.choose_spec (each i hi)).1
end
end Go.Proofs.YtinlfheonlpceaaGreatDoor
