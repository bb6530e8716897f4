/- Of, First, Ended, Add, Copy of a ledger that is nil (chapter 07). Printed by nil07.py. -/
import Derived.Test.YtinlfheonlpceaaGreatDoorL0c
namespace Go.Proofs.YtinlfheonlpceaaGreatDoor
open Go.RowKit Go.Shelf
set_option linter.unusedVariables false
set_option linter.unusedSimpArgs false
set_option maxHeartbeats 16000000
set_option maxRecDepth 20000
attribute [local go_sem] Oper.semAt_some
def noL : List AtR := []
theorem noL_find (q : AtR → Bool) : noL.find? q = none := rfl
/-- A nil ledger. -/
structure LedN (W : World) (p : Nat) : Prop where
  tr : True
theorem LedN.on {W W' : World} {p : Nat} (h : LedN W p) (hb : Below W.heap.size W W') : LedN W' p := ⟨trivial⟩
theorem LedN.lt {W : World} {p n a : Nat} (h : LedN W p) (hb : a ≤ n) : True := trivial
theorem LedN.made {W : World} {p : Nat} (h : LedN W p) : Calls Tryz.prog 73 #[.pointer none] W fun e w' => e = .returned (.bool false) ∧ w' = W := lmade_nil W
structure OfN (W : World) (n0 bL bO p : Nat) (k i g : Int) : Prop where
  rL : Row W bL #[.pointer none] 48
  rO : Row W bO #[.int .i64 k, .int .i64 i, .int .u32 g] 41
  led : LedN W p
  nL : bL < n0
  nO : bO < n0
  nP : True
theorem OfN.on {W W' : World} {n0 bL bO p : Nat} {k i g : Int} (h : OfN W n0 bL bO p k i g) (hs : W.heap.size ≤ W'.heap.size) (hb : ∀ b, b < n0 → W'.heap[b]? = W.heap[b]?) : OfN W' n0 bL bO p k i g where
  rL := ⟨(hb bL h.nL).trans h.rL.eq⟩
  rO := ⟨(hb bO h.nO).trans h.rO.eq⟩
  led := ⟨trivial⟩
  nL := h.nL
  nO := h.nO
  nP := h.nP
theorem OfN.below {W W' : World} {n0 bL bO p : Nat} {k i g : Int} (h : OfN W n0 bL bO p k i g) (hb : Below n0 W W') : OfN W' n0 bL bO p k i g := h.on hb.size (fun b hlt => hb.block b hlt)
theorem of1_inN (n : Nat) (hn : 1 ≤ n) (l n0 bL bO p : Nat) (k i g : Int) (J Jx : List AtR → World → Prop) (W : World)
    (hJd : ∀ s W, J s W → J s W.drew)
    (hY : ∀ pre x W1, J pre W1 → pre.length < 10001 → YieldAt Fence.wide (n - 1) Tryz.prog l #[atV x] W1 fun e W' => (e = .returned (.bool true) ∧ J (pre ++ [x]) W' ∧ Below n0 W1 W') ∨ (e = .returned (.bool false) ∧ Jx (pre ++ [x]) W'))
    (hE : OfN W n0 bL bO p k i g) (h0 : J [] W) :
    CallsIn Fence.wide n Tryz.prog 108 #[.func (.yield l) #[] #[], .pointer (some ⟨bL, 0, none⟩), .pointer (some ⟨bO, 0, none⟩)] W fun e W' => (∃ v, e = .returned v) ∧
      ((∃ ys, ys = noL ∧ J ys W') ∨ (∃ pre, pre <+: noL ∧ Jx pre W')) := by
  have HJ := Lib.hid hJd
  have HE := Lib.hid hE
  have CM := Lib.hid hE.led.made
  clear hJd hY hE
  refine callsIn_of_wp Tryz.func108 rfl trivial ?_ rfl
  simp only [Tryz.ntmps108, List.size_toArray, List.length_cons, List.length_nil, Nat.reduceAdd, Nat.reduceSub, Array.replicate_succ, Array.replicate_zero, List.push_toArray, List.append_toArray, List.nil_append, List.cons_append]
  have y0 := HE.out.rL.cell
  gi_wp2_with fail
  refine ⟨trivial, ?_⟩
  gi_at_call 73
  refine (callsIn_wide.2 CM.out).mono ?_
  rintro e w1 ⟨rfl, hw⟩
  have hw' := hw.symm
  subst hw'
  have H0 := Lib.hid h0
  clear h0
  gi_wp2_with fail
  refine bodyPost_ret (results_none rfl _ _ _) rfl ?_
  exact ⟨⟨_, rfl⟩, .inl ⟨_, rfl, H0.out⟩⟩
theorem of_stopsN (m : Nat) (hm : 1 ≤ m) (n0 bL bO p : Nat) (k i g : Int) (w : World) (hE : OfN w n0 bL bO p k i g) (hn0 : n0 ≤ w.heap.size) :
    SeqStopsK Fence.wide m Tryz.prog 108 #[.pointer (some ⟨bL, 0, none⟩), .pointer (some ⟨bO, 0, none⟩)] (fun x : AtR => #[atV x]) (Below n0) (fun ys => ys = noL) (fun pre => pre <+: noL) 10001 w := fun l J Jx W hW hJ hJx hY h0 =>
  of1_inN m hm l n0 bL bO p k i g J Jx W (fun s W h => hJ s W _ none h (grown_drewL W) (fun r e => by cases e)) hY (hE.on hW.size (fun b hb => hW.block b (Nat.lt_of_lt_of_le hb hn0))) h0
theorem of_cN (p : Nat) (k i g : Int) (w : World) : Calls Tryz.prog 78 #[.pointer none, oV k i g] w fun e w' => e = .returned (.func (.func 108) #[] #[.pointer (some ⟨w.heap.size, 0, none⟩), .pointer (some ⟨w.heap.size + 1, 0, none⟩)]) ∧ w' = (w.alloc (.cells #[.pointer none] 48)).alloc (.cells #[.int .i64 k, .int .i64 i, .int .u32 g] 41) := by
  go_enter Tryz.func78, Tryz.ntmps78
  go_wp2_with fail
  go_returns
  exact ⟨by simp, rfl⟩
/-- What lies there behind 'of'. -/
theorem of_envN {w : World} {p : Nat} (h : LedN w p) (k i g : Int) : ∃ W, W = (w.alloc (.cells #[.pointer none] 48)).alloc (.cells #[.int .i64 k, .int .i64 i, .int .u32 g] 41) ∧ Below w.heap.size w W ∧ OfN W W.heap.size w.heap.size (w.heap.size + 1) p k i g := by
  have hb1 := below_alloc w (.cells #[.pointer none] 48)
  have hb2 := below_alloc (w.alloc (.cells #[.pointer none] 48)) (.cells #[.int .i64 k, .int .i64 i, .int .u32 g] 41)
  have r1 := (Row.new (W := w) (cs := #[.pointer none]) (t := 48)).on hb2
  have r2 := Row.new (W := w.alloc (.cells #[.pointer none] 48)) (cs := #[.int .i64 k, .int .i64 i, .int .u32 g]) (t := 41)
  have hs : (w.alloc (.cells #[.pointer none] 48)).heap.size = w.heap.size + 1 := by simp
  rw [hs] at r2
  have hB := chain hb1 hb2
  refine ⟨_, rfl, hB, ⟨r1, r2, h.on hB, r1.lt, r2.lt, h.lt hB.size⟩⟩
theorem append_seq_cN (bL bO p : Nat) (k i g : Int) (w : World) (hE : OfN w w.heap.size bL bO p k i g) :
    Calls Tryz.prog 107 #[.slice none 0 0, .func (.func 108) #[] #[.pointer (some ⟨bL, 0, none⟩), .pointer (some ⟨bO, 0, none⟩)]] w fun e w' => ∃ u, e = .returned u ∧ OwnsA w.heap.size w' u noL ∧ Below w.heap.size w w' := by
  obtain ⟨i0, hi, hz0, hz1, hz2⟩ := info_parts at_info
  have HI0 := Lib.hid hi
  have HZ0 := Lib.hid hz0
  have HZ1 := Lib.hid hz1
  have HZ2 := Lib.hid hz2
  have HE := Lib.hid hE
  clear hi hz0 hz1 hz2 hE
  refine (callsIn_wide (n := 3)).1 ?_
  refine callsIn_of_wp_marks Tryz.func107 rfl trivial ?_ rfl
  simp only [Tryz.ntmps107, List.size_toArray, List.length_cons, List.length_nil, Nat.reduceAdd, Nat.reduceSub, Array.replicate_succ, Array.replicate_zero, List.push_toArray, List.append_toArray, List.nil_append, List.cons_append]
  refine wpIn_wide.2 ?_
  go_wp2_with fail
  have hb0 := below_alloc w (.cells #[.slice none 0 0] 26)
  have r0 := Row.new (W := w) (cs := #[.slice none 0 0]) (t := 26)
  have hE0 := HE.out.below hb0
  generalize w.alloc (.cells #[.slice none 0 0] 26) = W0 at *
  have hro : Fence.wide.round = none := rfl
  have hsz := r0.lt
  refine wpIn_wide.1 (?_ : Code.wpIn Fence.wide 3 _ _ _ _ _)
  refine wpIn_rangeFunc_ownH hro (by omega) (gf := 108) (lb := #[.pointer (some ⟨bL, 0, none⟩), .pointer (some ⟨bO, 0, none⟩)]) rfl trivial (enters_of Tryz.func108 (by kernel_rfl) rfl)
    (of_stopsN 2 (by omega) w.heap.size bL bO p k i g W0 hE0 hb0.size) belowK_t (belowK_b (by omega)) (Below.refl _ _) (fun _ => rfl)
    (fun pre W => (∃ u, Row W w.heap.size #[u] 26 ∧ OwnsA (w.heap.size + 1) W u pre) ∧ Below w.heap.size w W)
    (fun _ _ _ => False)
    (OwnFrom.and (Own.from (fun s A B row hs hg hr => by
      obtain ⟨u, h1, h2⟩ := hs
      refine ⟨u, row_kept h1 hg hr, h2.via (fun k hk => ?_)⟩
      obtain ⟨cur, hc⟩ := ownA_block h2 hk
      refine hg.block k (h2.lt k hk).2 (fun e' => ?_)
      obtain ⟨o, ho, hcc⟩ := hr k e'.symm
      rw [hc] at ho
      cases ho
      cases hcc) _) (ownFrom_below (Nat.le_refl _) (by omega)))
    (fun _ _ _ _ _ hs _ _ => hs)
    ⟨⟨_, r0, OwnsA.nil _ _⟩, hb0⟩
    (fun x a' W => ∃ Bx, w.heap.size < Bx ∧ Row W Bx (atC x) 43 ∧ a' = { tmps := #[.slice none 0 0, .func (.func 108) #[] #[.pointer (some ⟨bL, 0, none⟩), .pointer (some ⟨bO, 0, none⟩)], .pointer (some ⟨w.heap.size, 0, none⟩), undef, .slice none 0 0, .pointer (some ⟨Bx, 0, none⟩), .func (.func 108) #[] #[.pointer (some ⟨bL, 0, none⟩), .pointer (some ⟨bO, 0, none⟩)], atV x, undef, undef, undef, undef, undef], defers := [] })
    (fun x a' _ X Y row hs hg hr => by obtain ⟨Bx, h1, h2, h3⟩ := hs; exact ⟨Bx, h1, row_kept h2 hg (fun r e => (hr r e).2), h3⟩)
    ?assign ?body ?done ?stop
  case assign =>
    rintro l pre x W K ⟨⟨u, q1, q2⟩, hB⟩ hK
    have z1 := q1.lt
    gi_wp2
    have kb := below_alloc W (.cells (atC x) 43)
    exact hK _ _ ((KeepsOthers.alloc _ _).from _) ((Below.refl _ W).alloc hB.size _) ⟨⟨u, q1.on kb, q2.on kb⟩, hB.alloc hB.size _⟩ ⟨W.heap.size, z1, Row.new, rfl⟩
  case body =>
    rintro l pre x a' W hl ⟨r, hr⟩ ⟨⟨u, q1, q2⟩, hB⟩ ⟨Bx, hBx, qx, rfl⟩ hlt
    have z1 := q1.lt
    have zx := qx.lt
    have y1 := q1.cell 0
    have u1 := q1.free 0
    have yx := qx.cell
    have hwz := hB.size
    have hle : w.heap.size + 1 ≤ W.heap.size := by omega
    have kb := below_alloc W (.cells (atC x) 43)
    have q3 := q2.on kb
    have q4 := q1.on kb
    have hsrc := at_src W x
    have Q3 := Lib.hid q3
    have Q4 := Lib.hid q4
    have HSRC := Lib.hid hsrc
    clear q2 q3 q4 hsrc q1 kb
    gi_wp2_with (gi_at_builtin; refine wpListIn_append_own _ rfl _ _ 26 rfl (w.heap.size + 1) 43 i0 (.agg #[.int .i64 0, .int .i64 0, .int .i64 0, .int .u32 0, .int .i64 0, .int .i64 0]) 6 48 Tryz.underlying26 HI0.out HZ0.out HZ1.out HZ2.out rfl (by decide) _ _ _ rfl Q3.out ⟨W.heap.size, 0, none⟩ 1 1 (atL x) rfl rfl HSRC.out (by intro u hu; simp at hu; rcases hu with rfl | rfl | rfl | rfl | rfl | rfl <;> rfl) (by unfold maxLen; omega) (by omega) (by first | (simp; done) | (simp; omega)) ?_; intro v' w1 hown' hgrow hnil; obtain ⟨g', cap', rfl⟩ := ownsRow_succ hown'; have hlo : ∀ k, u.ownBlock = some k → w.heap.size + 1 ≤ k := fun k hk => (World.ownsRow.lt Q3.out _ hk).1; have hrow5 := row_grown Q4.out hgrow (fun e => by have := hlo _ e; omega); have y5 := hrow5.cell 0; have u5 := hrow5.free 0; have HOWN := Lib.hid hown'; have HGR := Lib.hid hgrow; have HR5 := Lib.hid hrow5; clear hown' hgrow hnil hrow5)
    have hlo : ∀ k, u.ownBlock = some k → w.heap.size + 1 ≤ k := fun k hk => (World.ownsRow.lt Q3.out _ hk).1
    have kk := (KeepsOthers.alloc W (.cells (atC x) 43)).trans (KeepsOthers.of_grownBy HGR.out (fun j o hj ho => by
      obtain ⟨cur, hc⟩ := ownA_block Q3.out hj
      rw [hc] at ho
      cases ho
      rfl))
    have hB6 := ((Below.refl w.heap.size W).alloc hB.size (.cells (atC x) 43)).grown HGR.out (by first | (simp; done) | (simp; omega)) (fun k hk => by have := hlo k hk; omega)
    have hBz := hB6.setCell (p := ⟨w.heap.size, 0, none⟩) (Nat.le_refl _) (.slice (some ⟨g', 0, none⟩) (pre.length + 1) cap')
    have ho : OwnsA (w.heap.size + 1) w1 (.slice (some ⟨g', 0, none⟩) (pre.length + 1) cap') (pre ++ [x]) := by
      unfold OwnsA
      rw [cellsA_snoc, List.length_append]
      exact HOWN.out
    refine ⟨(kk.trans (KeepsOthers.setCell _ _ _)).from _, hBz, ⟨_, HR5.out.set 0 (.slice (some ⟨g', 0, none⟩) (pre.length + 1) cap'), ownA_setCell ho (fun e => by have := (ho.lt _ e).1; omega) _ _⟩, hB.trans hBz⟩
  case done =>
    rintro D zs W hD rfl ⟨⟨u, q1, q2⟩, hB⟩ hK
    have y1 := q1.cell 0
    go_wp2_with fail
    refine ⟨by simp, .inl ⟨_, _, rfl, run_takeDeferred hK, ?_⟩⟩
    have q2' : OwnsA (w.heap.size + 1) (W.putObj D (.deferred none)) u noL := ownsRow_putObj q2 _ hK rfl
    refine ⟨u, ?_, ⟨u, rfl, q2'.base (by omega), hB.trans (belowK_b (w := w) (Nat.le_refl _) W D _ _ (by omega) hK rfl rfl)⟩⟩
    simp [results, Tryz.f107, Tryz.results107, go_sem]
  case stop =>
    rintro D c pre W _ _ h _
    exact h.elim
section
variable {p : Nat}
theorem collect_cN (bL bO p : Nat) (k i g : Int) (w : World) (hE : OfN w w.heap.size bL bO p k i g) :
    Calls Tryz.prog 77 #[.func (.func 108) #[] #[.pointer (some ⟨bL, 0, none⟩), .pointer (some ⟨bO, 0, none⟩)]] w fun e w' => ∃ u, e = .returned u ∧ OwnsA w.heap.size w' u noL ∧ Below w.heap.size w w' := by
  have C := Lib.hid (append_seq_cN bL bO p k i g w hE)
  clear hE
  go_enter Tryz.func77, Tryz.ntmps77
  go_wp2_with fail
  refine Calls.mono C.out ?_
  rintro e V3 ⟨u, rfl, ho, hb3⟩
  have HO := Lib.hid ho
  clear ho
  go_wp2_with fail
  go_returns
  exact ⟨u, rfl, HO.out, hb3⟩
theorem lof_cN (k i g : Int) (w : World) (h : LedN w p) : Calls Tryz.prog 31 #[.pointer none, oV k i g] w fun e w' => ∃ u, e = .returned u ∧ OwnsA w.heap.size w' u noL ∧ Below w.heap.size w w' := by
  have HH := Lib.hid h
  clear h
  go_enter Tryz.func31, Tryz.ntmps31
  go_wp2_with fail
  have hb := below_alloc w (.cells #[.int .i64 k, .int .i64 i, .int .u32 g] 41)
  generalize w.alloc (.cells #[.int .i64 k, .int .i64 i, .int .u32 g] 41) = V at *
  refine Calls.mono (of_cN p k i g V) ?_
  rintro e V1 ⟨rfl, hW⟩
  obtain ⟨V2, hV2, hb2, hE⟩ := of_envN (HH.out.on hb) k i g
  rw [← hV2] at hW
  subst hW
  clear hV2
  have hB := chain hb hb2
  go_wp2_with fail
  refine Calls.mono (collect_cN _ _ p k i g _ hE) ?_
  rintro e V3 ⟨u, rfl, ho, hb3⟩
  have HO := Lib.hid (ho.base hB.size)
  have hB3 := chain hB hb3
  clear ho
  go_wp2_with fail
  go_returns
  exact ⟨u, rfl, HO.out, hB3⟩
theorem find_endedN (k i g : Int) (w : World) (h : LedN w p) : Ret 74 #[.pointer none, oV k i g, .func (.func 75) #[] #[]] w (.tuple #[atV ((noL.find? qEnd).getD at0), .bool (noL.find? qEnd).isSome]) := by
  have HH := Lib.hid h
  have CI := Lib.hid (fun a W => ended1_c a W)
  clear h
  refine (callsIn_wide (n := 3)).1 ?_
  refine callsIn_of_wp_marks Tryz.func74 rfl trivial ?_ rfl
  simp only [Tryz.ntmps74, List.size_toArray, List.length_cons, List.length_nil, Nat.reduceAdd, Nat.reduceSub, Array.replicate_succ, Array.replicate_zero, List.push_toArray, List.append_toArray, List.nil_append, List.cons_append]
  refine wpIn_wide.2 ?_
  go_wp2_with fail
  refine Calls.mono (of_cN p k i g _) ?_
  rintro e V1 ⟨rfl, hW⟩
  subst hW
  obtain ⟨W0, hW0, hz, hB0, r5, r6, r7, rL, rO⟩ := six_allocs w #[.int .i64 k, .int .i64 i, .int .u32 g] #[.func (.func 75) #[] #[]] (atC at0) #[.bool false] #[.pointer none] #[.int .i64 k, .int .i64 i, .int .u32 g] 41 71 43 4 48 41
  have hE0 : OfN W0 W0.heap.size (w.heap.size + 4) (w.heap.size + 5) p k i g := ⟨rL, rO, HH.out.on hB0, by omega, by omega, HH.out.lt hB0.size⟩
  simp only [atC, at0] at hW0
  go_wp2_with fail
  rw [← hW0]
  clear hW0
  have hro : Fence.wide.round = none := rfl
  refine wpIn_wide.1 (?_ : Code.wpIn Fence.wide 3 _ _ _ _ _)
  refine wpIn_rangeFunc_ownH hro (by omega) (gf := 108) (lb := #[.pointer (some ⟨w.heap.size + 4, 0, none⟩), .pointer (some ⟨w.heap.size + 5, 0, none⟩)]) rfl trivial (enters_of Tryz.func108 (by kernel_rfl) rfl)
    (of_stopsN 2 (by omega) W0.heap.size (w.heap.size + 4) (w.heap.size + 5) p k i g W0 hE0 (Nat.le_refl _)) belowK_t (belowK_b (by omega)) (Below.refl _ _) (fun _ => rfl)
    (fun pre W => (Row W (w.heap.size + 1) #[.func (.func 75) #[] #[]] 71 ∧ Row W (w.heap.size + 2) (atC at0) 43 ∧ Row W (w.heap.size + 3) #[.bool false] 4 ∧ pre.find? qEnd = none ∧ w.heap.size + 6 ≤ W.heap.size) ∧ Below w.heap.size w W)
    (fun c pre W => (c = .ret ∧ ∃ x, pre.find? qEnd = some x ∧ Row W (w.heap.size + 2) (atC x) 43 ∧ Row W (w.heap.size + 3) #[.bool true] 4) ∧ Below w.heap.size w W)
    (OwnFrom.and (Own.from (fun s A B row hs hg hr => ⟨row_kept hs.1 hg hr, row_kept hs.2.1 hg hr, row_kept hs.2.2.1 hg hr, hs.2.2.2.1, Nat.le_trans hs.2.2.2.2 hg.size⟩) _) (ownFrom_below (Nat.le_refl _) (by omega)))
    (fun c => OwnFrom.and (Own.from (fun s A B row hs hg hr => by obtain ⟨h1, x, h2, h3, h4⟩ := hs; exact ⟨h1, x, h2, row_kept h3 hg hr, row_kept h4 hg hr⟩) _) (ownFrom_below (Nat.le_refl _) (by omega)))
    ⟨⟨r5, r6, r7, rfl, by omega⟩, hB0⟩
    (fun x a' W => ∃ Bx, w.heap.size + 5 < Bx ∧ Row W Bx (atC x) 43 ∧ a' = { tmps := #[.pointer none, oV k i g, .func (.func 75) #[] #[], undef, .pointer (some ⟨w.heap.size, 0, none⟩), .pointer (some ⟨w.heap.size + 1, 0, none⟩), .pointer (some ⟨w.heap.size + 2, 0, none⟩), .pointer (some ⟨w.heap.size + 3, 0, none⟩), .pointer (some ⟨Bx, 0, none⟩), .pointer none, oV k i g, .func (.func 108) #[] #[.pointer (some ⟨w.heap.size + 4, 0, none⟩), .pointer (some ⟨w.heap.size + 5, 0, none⟩)], atV x, undef, undef, undef, undef, undef], defers := [] })
    (fun x a' _ X Y row hs hg hr => by obtain ⟨Bx, h1, h2, h3⟩ := hs; exact ⟨Bx, h1, row_kept h2 hg (fun r e => (hr r e).2), h3⟩)
    ?assign ?body ?done ?stop
  case assign =>
    rintro l pre x W K ⟨⟨q1, q2, q3, q4, q5⟩, hB⟩ hK
    have z1 := q1.lt
    have hwz := hB.size
    gi_wp2
    have kb := below_alloc W (.cells (atC x) 43)
    exact hK _ _ ((KeepsOthers.alloc _ _).from _) ((Below.refl _ W).alloc (by omega) _) ⟨⟨q1.on kb, q2.on kb, q3.on kb, q4, Nat.le_trans q5 kb.size⟩, hB.alloc hB.size _⟩ ⟨W.heap.size, by omega, Row.new, rfl⟩
  case body =>
    rintro l pre x a' W hl ⟨r, hr⟩ ⟨⟨q1, q2, q3, q4, q5⟩, hB⟩ ⟨Bx, hBx, qx, rfl⟩ hlt
    have Q4 := Lib.hid q4
    have hwz := hB.size
    have ci := CI.out x
    have hsnoc : (pre ++ [x]).find? qEnd = if qEnd x then some x else none := by rw [List.find?_append, q4, Option.none_or, List.find?_cons]; cases qEnd x <;> rfl
    have HSN := Lib.hid hsnoc
    clear q4 hsnoc
    have y1 := q1.cell
    have yx := qx.cell
    have zx := qx.lt
    cases hq : qEnd x with
    | false =>
      rw [hq] at ci
      have HC := Lib.hid ci
      have HQ := Lib.hid hq
      clear ci hq
      gi_wp2
      refine ⟨trivial, ?_⟩
      gi_at_call 75
      refine (CallsIn.inRound l (callsIn_wide.2 (HC.out _))).mono ?_
      rintro e w5 ⟨rfl, hb5⟩
      clear y1 yx zx
      gi_wp2
      exact ⟨(keeps_belowL hb5).from _, hb5.mono (by omega), ⟨q1.on hb5, q2.on hb5, q3.on hb5, by rw [HSN.out, HQ.out]; rfl, by have := hb5.size; omega⟩, chain hB hb5⟩
    | true =>
      rw [hq] at ci
      have HC := Lib.hid ci
      have HQ := Lib.hid hq
      clear ci hq
      gi_wp2
      refine ⟨trivial, ?_⟩
      gi_at_call 75
      refine (CallsIn.inRound l (callsIn_wide.2 (HC.out _))).mono ?_
      rintro e w5 ⟨rfl, hb5⟩
      clear y1 yx zx
      replace q2 := q2.on hb5
      replace q3 := q3.on hb5
      replace qx := qx.on hb5
      have y2 := q2.cell
      have u2 := q2.free
      have y3 := q3.cell
      have u3 := q3.free
      have yx := qx.cell
      have z2 := q2.lt
      have z3 := q3.lt
      have zx := qx.lt
      gi_wp2
      have hn23 : w.heap.size + 2 ≠ w.heap.size + 3 := by omega
      replace q3 := (((((((q3.other hn23 0 (.int .i64 x.at_)).other hn23 1 (.int .i64 x.k)).other hn23 2 (.int .i64 x.i)).other hn23 3 (.int .u32 x.g)).other hn23 4 (.int .i64 x.why)).other hn23 5 (.int .i64 x.ans)).set 0 (.bool true))
      replace q2 := (((((((q2.set 0 (.int .i64 x.at_)).set 1 (.int .i64 x.k)).set 2 (.int .i64 x.i)).set 3 (.int .u32 x.g)).set 4 (.int .i64 x.why)).set 5 (.int .i64 x.ans)).other hn23.symm 0 (.bool true))
      simp only [List.setIfInBounds_toArray, List.set_cons_zero, List.set_cons_succ] at q2 q3
      exact ⟨((((((((keeps_belowL hb5).trans (KeepsOthers.setCell _ ⟨w.heap.size + 2, 0, none⟩ (.int .i64 x.at_))).trans (KeepsOthers.setCell _ ⟨w.heap.size + 2, 1, none⟩ (.int .i64 x.k))).trans (KeepsOthers.setCell _ ⟨w.heap.size + 2, 2, none⟩ (.int .i64 x.i))).trans (KeepsOthers.setCell _ ⟨w.heap.size + 2, 3, none⟩ (.int .u32 x.g))).trans (KeepsOthers.setCell _ ⟨w.heap.size + 2, 4, none⟩ (.int .i64 x.why))).trans (KeepsOthers.setCell _ ⟨w.heap.size + 2, 5, none⟩ (.int .i64 x.ans))).trans (KeepsOthers.setCell _ ⟨w.heap.size + 3, 0, none⟩ (.bool true))).from _, ⟨rfl, x, by rw [HSN.out, HQ.out]; rfl, q2, q3⟩, ((((((((chain hB hb5).setCell (p := ⟨w.heap.size + 2, 0, none⟩) (by simp) (.int .i64 x.at_)).setCell (p := ⟨w.heap.size + 2, 1, none⟩) (by simp) (.int .i64 x.k)).setCell (p := ⟨w.heap.size + 2, 2, none⟩) (by simp) (.int .i64 x.i)).setCell (p := ⟨w.heap.size + 2, 3, none⟩) (by simp) (.int .u32 x.g)).setCell (p := ⟨w.heap.size + 2, 4, none⟩) (by simp) (.int .i64 x.why)).setCell (p := ⟨w.heap.size + 2, 5, none⟩) (by simp) (.int .i64 x.ans)).setCell (p := ⟨w.heap.size + 3, 0, none⟩) (by simp) (.bool true))⟩
  case done =>
    rintro D zs W hD rfl ⟨⟨q1, q2, q3, q4, q5⟩, hB⟩ hK
    have hn23 : w.heap.size + 2 ≠ w.heap.size + 3 := by omega
    have Q4 := Lib.hid q4
    clear q4
    have y2 := q2.cell
    have u2 := q2.free
    have y3 := q3.cell
    have u3 := q3.free
    have z2 := q2.lt
    have z3 := q3.lt
    go_wp2_with fail
    replace q3 := (((((((q3.other hn23 0 (.int .i64 0)).other hn23 1 (.int .i64 0)).other hn23 2 (.int .i64 0)).other hn23 3 (.int .u32 0)).other hn23 4 (.int .i64 0)).other hn23 5 (.int .i64 0)).set 0 (.bool false))
    replace q2 := (((((((q2.set 0 (.int .i64 0)).set 1 (.int .i64 0)).set 2 (.int .i64 0)).set 3 (.int .u32 0)).set 4 (.int .i64 0)).set 5 (.int .i64 0)).other hn23.symm 0 (.bool false))
    simp only [List.setIfInBounds_toArray, List.set_cons_zero, List.set_cons_succ] at q2 q3
    replace hB := (((((((hB.setCell (p := ⟨w.heap.size + 2, 0, none⟩) (by simp) (.int .i64 0)).setCell (p := ⟨w.heap.size + 2, 1, none⟩) (by simp) (.int .i64 0)).setCell (p := ⟨w.heap.size + 2, 2, none⟩) (by simp) (.int .i64 0)).setCell (p := ⟨w.heap.size + 2, 3, none⟩) (by simp) (.int .u32 0)).setCell (p := ⟨w.heap.size + 2, 4, none⟩) (by simp) (.int .i64 0)).setCell (p := ⟨w.heap.size + 2, 5, none⟩) (by simp) (.int .i64 0)).setCell (p := ⟨w.heap.size + 3, 0, none⟩) (by simp) (.bool false))
    have kk := ((((((KeepsOthers.setCell W ⟨w.heap.size + 2, 0, none⟩ (.int .i64 0)).trans (KeepsOthers.setCell _ ⟨w.heap.size + 2, 1, none⟩ (.int .i64 0))).trans (KeepsOthers.setCell _ ⟨w.heap.size + 2, 2, none⟩ (.int .i64 0))).trans (KeepsOthers.setCell _ ⟨w.heap.size + 2, 3, none⟩ (.int .u32 0))).trans (KeepsOthers.setCell _ ⟨w.heap.size + 2, 4, none⟩ (.int .i64 0))).trans (KeepsOthers.setCell _ ⟨w.heap.size + 2, 5, none⟩ (.int .i64 0))).trans (KeepsOthers.setCell _ ⟨w.heap.size + 3, 0, none⟩ (.bool false))
    have hK' := kk.same D _ hK rfl
    clear kk y2 u2 y3 u3 z2 z3 hK
    change bodyPostM _ _ _ _ _ _ _ (((((((W.setCell ⟨w.heap.size + 2, 0, none⟩ (.int .i64 0)).setCell ⟨w.heap.size + 2, 1, none⟩ (.int .i64 0)).setCell ⟨w.heap.size + 2, 2, none⟩ (.int .i64 0)).setCell ⟨w.heap.size + 2, 3, none⟩ (.int .u32 0)).setCell ⟨w.heap.size + 2, 4, none⟩ (.int .i64 0)).setCell ⟨w.heap.size + 2, 5, none⟩ (.int .i64 0)).setCell ⟨w.heap.size + 3, 0, none⟩ (.bool false))
    generalize ((((((W.setCell ⟨w.heap.size + 2, 0, none⟩ (.int .i64 0)).setCell ⟨w.heap.size + 2, 1, none⟩ (.int .i64 0)).setCell ⟨w.heap.size + 2, 2, none⟩ (.int .i64 0)).setCell ⟨w.heap.size + 2, 3, none⟩ (.int .u32 0)).setCell ⟨w.heap.size + 2, 4, none⟩ (.int .i64 0)).setCell ⟨w.heap.size + 2, 5, none⟩ (.int .i64 0)).setCell ⟨w.heap.size + 3, 0, none⟩ (.bool false) = X at *
    refine ⟨by simp, .inl ⟨_, _, rfl, run_takeDeferred hK', ?_⟩⟩
    have k2 := row_kept q2 (grownBy_putObj' _ D (.deferred none)) (fun r e => by cases e; exact ⟨_, hK', rfl⟩)
    have k3 := row_kept q3 (grownBy_putObj' _ D (.deferred none)) (fun r e => by cases e; exact ⟨_, hK', rfl⟩)
    have y2 := k2.cell
    have y3 := k3.cell
    refine ⟨.tuple #[atV at0, .bool false], ?_, by rw [Q4.out]; rfl, hB.trans (belowK_b (w := w) (Nat.le_refl _) X D _ _ (by omega) hK' rfl rfl)⟩
    simp [results, Tryz.f74, Tryz.results74, go_sem, y2, y3]
  case stop =>
    rintro D c pre W hD hpre ⟨⟨rfl, x, hx, q2, q3⟩, hB⟩ hK
    have hx2 := find_pre hpre hx
    have HX := Lib.hid hx2
    clear hx hx2 hpre
    gi_wp2
    refine ⟨by simp, .inl ⟨_, _, rfl, run_takeDeferred hK, ?_⟩⟩
    have k2 := row_kept q2 (grownBy_putObj' _ D (.deferred none)) (fun r e => by cases e; exact ⟨_, hK, rfl⟩)
    have k3 := row_kept q3 (grownBy_putObj' _ D (.deferred none)) (fun r e => by cases e; exact ⟨_, hK, rfl⟩)
    have y2 := k2.cell
    have y3 := k3.cell
    refine ⟨.tuple #[atV x, .bool true], ?_, by rw [HX.out]; rfl, hB.trans (belowK_b (w := w) (Nat.le_refl _) W D _ _ (by omega) hK rfl rfl)⟩
    simp [results, Tryz.f74, Tryz.results74, go_sem, y2, y3]
theorem find_firstN (k i g : Int) (w : World) (h : LedN w p) : Ret 74 #[.pointer none, oV k i g, .func (.func 76) #[] #[]] w (.tuple #[atV ((noL.find? qAll).getD at0), .bool (noL.find? qAll).isSome]) := by
  have HH := Lib.hid h
  have CI := Lib.hid (fun a W => first1_c a W)
  clear h
  refine (callsIn_wide (n := 3)).1 ?_
  refine callsIn_of_wp_marks Tryz.func74 rfl trivial ?_ rfl
  simp only [Tryz.ntmps74, List.size_toArray, List.length_cons, List.length_nil, Nat.reduceAdd, Nat.reduceSub, Array.replicate_succ, Array.replicate_zero, List.push_toArray, List.append_toArray, List.nil_append, List.cons_append]
  refine wpIn_wide.2 ?_
  go_wp2_with fail
  refine Calls.mono (of_cN p k i g _) ?_
  rintro e V1 ⟨rfl, hW⟩
  subst hW
  obtain ⟨W0, hW0, hz, hB0, r5, r6, r7, rL, rO⟩ := six_allocs w #[.int .i64 k, .int .i64 i, .int .u32 g] #[.func (.func 76) #[] #[]] (atC at0) #[.bool false] #[.pointer none] #[.int .i64 k, .int .i64 i, .int .u32 g] 41 71 43 4 48 41
  have hE0 : OfN W0 W0.heap.size (w.heap.size + 4) (w.heap.size + 5) p k i g := ⟨rL, rO, HH.out.on hB0, by omega, by omega, HH.out.lt hB0.size⟩
  simp only [atC, at0] at hW0
  go_wp2_with fail
  rw [← hW0]
  clear hW0
  have hro : Fence.wide.round = none := rfl
  refine wpIn_wide.1 (?_ : Code.wpIn Fence.wide 3 _ _ _ _ _)
  refine wpIn_rangeFunc_ownH hro (by omega) (gf := 108) (lb := #[.pointer (some ⟨w.heap.size + 4, 0, none⟩), .pointer (some ⟨w.heap.size + 5, 0, none⟩)]) rfl trivial (enters_of Tryz.func108 (by kernel_rfl) rfl)
    (of_stopsN 2 (by omega) W0.heap.size (w.heap.size + 4) (w.heap.size + 5) p k i g W0 hE0 (Nat.le_refl _)) belowK_t (belowK_b (by omega)) (Below.refl _ _) (fun _ => rfl)
    (fun pre W => (Row W (w.heap.size + 1) #[.func (.func 76) #[] #[]] 71 ∧ Row W (w.heap.size + 2) (atC at0) 43 ∧ Row W (w.heap.size + 3) #[.bool false] 4 ∧ pre.find? qAll = none ∧ w.heap.size + 6 ≤ W.heap.size) ∧ Below w.heap.size w W)
    (fun c pre W => (c = .ret ∧ ∃ x, pre.find? qAll = some x ∧ Row W (w.heap.size + 2) (atC x) 43 ∧ Row W (w.heap.size + 3) #[.bool true] 4) ∧ Below w.heap.size w W)
    (OwnFrom.and (Own.from (fun s A B row hs hg hr => ⟨row_kept hs.1 hg hr, row_kept hs.2.1 hg hr, row_kept hs.2.2.1 hg hr, hs.2.2.2.1, Nat.le_trans hs.2.2.2.2 hg.size⟩) _) (ownFrom_below (Nat.le_refl _) (by omega)))
    (fun c => OwnFrom.and (Own.from (fun s A B row hs hg hr => by obtain ⟨h1, x, h2, h3, h4⟩ := hs; exact ⟨h1, x, h2, row_kept h3 hg hr, row_kept h4 hg hr⟩) _) (ownFrom_below (Nat.le_refl _) (by omega)))
    ⟨⟨r5, r6, r7, rfl, by omega⟩, hB0⟩
    (fun x a' W => ∃ Bx, w.heap.size + 5 < Bx ∧ Row W Bx (atC x) 43 ∧ a' = { tmps := #[.pointer none, oV k i g, .func (.func 76) #[] #[], undef, .pointer (some ⟨w.heap.size, 0, none⟩), .pointer (some ⟨w.heap.size + 1, 0, none⟩), .pointer (some ⟨w.heap.size + 2, 0, none⟩), .pointer (some ⟨w.heap.size + 3, 0, none⟩), .pointer (some ⟨Bx, 0, none⟩), .pointer none, oV k i g, .func (.func 108) #[] #[.pointer (some ⟨w.heap.size + 4, 0, none⟩), .pointer (some ⟨w.heap.size + 5, 0, none⟩)], atV x, undef, undef, undef, undef, undef], defers := [] })
    (fun x a' _ X Y row hs hg hr => by obtain ⟨Bx, h1, h2, h3⟩ := hs; exact ⟨Bx, h1, row_kept h2 hg (fun r e => (hr r e).2), h3⟩)
    ?assign ?body ?done ?stop
  case assign =>
    rintro l pre x W K ⟨⟨q1, q2, q3, q4, q5⟩, hB⟩ hK
    have z1 := q1.lt
    have hwz := hB.size
    gi_wp2
    have kb := below_alloc W (.cells (atC x) 43)
    exact hK _ _ ((KeepsOthers.alloc _ _).from _) ((Below.refl _ W).alloc (by omega) _) ⟨⟨q1.on kb, q2.on kb, q3.on kb, q4, Nat.le_trans q5 kb.size⟩, hB.alloc hB.size _⟩ ⟨W.heap.size, by omega, Row.new, rfl⟩
  case body =>
    rintro l pre x a' W hl ⟨r, hr⟩ ⟨⟨q1, q2, q3, q4, q5⟩, hB⟩ ⟨Bx, hBx, qx, rfl⟩ hlt
    have Q4 := Lib.hid q4
    have hwz := hB.size
    have ci := CI.out x
    have hsnoc : (pre ++ [x]).find? qAll = if qAll x then some x else none := by rw [List.find?_append, q4, Option.none_or, List.find?_cons]; cases qAll x <;> rfl
    have HSN := Lib.hid hsnoc
    clear q4 hsnoc
    have y1 := q1.cell
    have yx := qx.cell
    have zx := qx.lt
    cases hq : qAll x with
    | false =>
      rw [hq] at ci
      have HC := Lib.hid ci
      have HQ := Lib.hid hq
      clear ci hq
      gi_wp2
      refine ⟨trivial, ?_⟩
      gi_at_call 76
      refine (CallsIn.inRound l (callsIn_wide.2 (HC.out _))).mono ?_
      rintro e w5 ⟨rfl, hb5⟩
      clear y1 yx zx
      gi_wp2
      exact ⟨(keeps_belowL hb5).from _, hb5.mono (by omega), ⟨q1.on hb5, q2.on hb5, q3.on hb5, by rw [HSN.out, HQ.out]; rfl, by have := hb5.size; omega⟩, chain hB hb5⟩
    | true =>
      rw [hq] at ci
      have HC := Lib.hid ci
      have HQ := Lib.hid hq
      clear ci hq
      gi_wp2
      refine ⟨trivial, ?_⟩
      gi_at_call 76
      refine (CallsIn.inRound l (callsIn_wide.2 (HC.out _))).mono ?_
      rintro e w5 ⟨rfl, hb5⟩
      clear y1 yx zx
      replace q2 := q2.on hb5
      replace q3 := q3.on hb5
      replace qx := qx.on hb5
      have y2 := q2.cell
      have u2 := q2.free
      have y3 := q3.cell
      have u3 := q3.free
      have yx := qx.cell
      have z2 := q2.lt
      have z3 := q3.lt
      have zx := qx.lt
      gi_wp2
      have hn23 : w.heap.size + 2 ≠ w.heap.size + 3 := by omega
      replace q3 := (((((((q3.other hn23 0 (.int .i64 x.at_)).other hn23 1 (.int .i64 x.k)).other hn23 2 (.int .i64 x.i)).other hn23 3 (.int .u32 x.g)).other hn23 4 (.int .i64 x.why)).other hn23 5 (.int .i64 x.ans)).set 0 (.bool true))
      replace q2 := (((((((q2.set 0 (.int .i64 x.at_)).set 1 (.int .i64 x.k)).set 2 (.int .i64 x.i)).set 3 (.int .u32 x.g)).set 4 (.int .i64 x.why)).set 5 (.int .i64 x.ans)).other hn23.symm 0 (.bool true))
      simp only [List.setIfInBounds_toArray, List.set_cons_zero, List.set_cons_succ] at q2 q3
      exact ⟨((((((((keeps_belowL hb5).trans (KeepsOthers.setCell _ ⟨w.heap.size + 2, 0, none⟩ (.int .i64 x.at_))).trans (KeepsOthers.setCell _ ⟨w.heap.size + 2, 1, none⟩ (.int .i64 x.k))).trans (KeepsOthers.setCell _ ⟨w.heap.size + 2, 2, none⟩ (.int .i64 x.i))).trans (KeepsOthers.setCell _ ⟨w.heap.size + 2, 3, none⟩ (.int .u32 x.g))).trans (KeepsOthers.setCell _ ⟨w.heap.size + 2, 4, none⟩ (.int .i64 x.why))).trans (KeepsOthers.setCell _ ⟨w.heap.size + 2, 5, none⟩ (.int .i64 x.ans))).trans (KeepsOthers.setCell _ ⟨w.heap.size + 3, 0, none⟩ (.bool true))).from _, ⟨rfl, x, by rw [HSN.out, HQ.out]; rfl, q2, q3⟩, ((((((((chain hB hb5).setCell (p := ⟨w.heap.size + 2, 0, none⟩) (by simp) (.int .i64 x.at_)).setCell (p := ⟨w.heap.size + 2, 1, none⟩) (by simp) (.int .i64 x.k)).setCell (p := ⟨w.heap.size + 2, 2, none⟩) (by simp) (.int .i64 x.i)).setCell (p := ⟨w.heap.size + 2, 3, none⟩) (by simp) (.int .u32 x.g)).setCell (p := ⟨w.heap.size + 2, 4, none⟩) (by simp) (.int .i64 x.why)).setCell (p := ⟨w.heap.size + 2, 5, none⟩) (by simp) (.int .i64 x.ans)).setCell (p := ⟨w.heap.size + 3, 0, none⟩) (by simp) (.bool true))⟩
  case done =>
    rintro D zs W hD rfl ⟨⟨q1, q2, q3, q4, q5⟩, hB⟩ hK
    have hn23 : w.heap.size + 2 ≠ w.heap.size + 3 := by omega
    have Q4 := Lib.hid q4
    clear q4
    have y2 := q2.cell
    have u2 := q2.free
    have y3 := q3.cell
    have u3 := q3.free
    have z2 := q2.lt
    have z3 := q3.lt
    go_wp2_with fail
    replace q3 := (((((((q3.other hn23 0 (.int .i64 0)).other hn23 1 (.int .i64 0)).other hn23 2 (.int .i64 0)).other hn23 3 (.int .u32 0)).other hn23 4 (.int .i64 0)).other hn23 5 (.int .i64 0)).set 0 (.bool false))
    replace q2 := (((((((q2.set 0 (.int .i64 0)).set 1 (.int .i64 0)).set 2 (.int .i64 0)).set 3 (.int .u32 0)).set 4 (.int .i64 0)).set 5 (.int .i64 0)).other hn23.symm 0 (.bool false))
    simp only [List.setIfInBounds_toArray, List.set_cons_zero, List.set_cons_succ] at q2 q3
    replace hB := (((((((hB.setCell (p := ⟨w.heap.size + 2, 0, none⟩) (by simp) (.int .i64 0)).setCell (p := ⟨w.heap.size + 2, 1, none⟩) (by simp) (.int .i64 0)).setCell (p := ⟨w.heap.size + 2, 2, none⟩) (by simp) (.int .i64 0)).setCell (p := ⟨w.heap.size + 2, 3, none⟩) (by simp) (.int .u32 0)).setCell (p := ⟨w.heap.size + 2, 4, none⟩) (by simp) (.int .i64 0)).setCell (p := ⟨w.heap.size + 2, 5, none⟩) (by simp) (.int .i64 0)).setCell (p := ⟨w.heap.size + 3, 0, none⟩) (by simp) (.bool false))
    have kk := ((((((KeepsOthers.setCell W ⟨w.heap.size + 2, 0, none⟩ (.int .i64 0)).trans (KeepsOthers.setCell _ ⟨w.heap.size + 2, 1, none⟩ (.int .i64 0))).trans (KeepsOthers.setCell _ ⟨w.heap.size + 2, 2, none⟩ (.int .i64 0))).trans (KeepsOthers.setCell _ ⟨w.heap.size + 2, 3, none⟩ (.int .u32 0))).trans (KeepsOthers.setCell _ ⟨w.heap.size + 2, 4, none⟩ (.int .i64 0))).trans (KeepsOthers.setCell _ ⟨w.heap.size + 2, 5, none⟩ (.int .i64 0))).trans (KeepsOthers.setCell _ ⟨w.heap.size + 3, 0, none⟩ (.bool false))
    have hK' := kk.same D _ hK rfl
    clear kk y2 u2 y3 u3 z2 z3 hK
    change bodyPostM _ _ _ _ _ _ _ (((((((W.setCell ⟨w.heap.size + 2, 0, none⟩ (.int .i64 0)).setCell ⟨w.heap.size + 2, 1, none⟩ (.int .i64 0)).setCell ⟨w.heap.size + 2, 2, none⟩ (.int .i64 0)).setCell ⟨w.heap.size + 2, 3, none⟩ (.int .u32 0)).setCell ⟨w.heap.size + 2, 4, none⟩ (.int .i64 0)).setCell ⟨w.heap.size + 2, 5, none⟩ (.int .i64 0)).setCell ⟨w.heap.size + 3, 0, none⟩ (.bool false))
    generalize ((((((W.setCell ⟨w.heap.size + 2, 0, none⟩ (.int .i64 0)).setCell ⟨w.heap.size + 2, 1, none⟩ (.int .i64 0)).setCell ⟨w.heap.size + 2, 2, none⟩ (.int .i64 0)).setCell ⟨w.heap.size + 2, 3, none⟩ (.int .u32 0)).setCell ⟨w.heap.size + 2, 4, none⟩ (.int .i64 0)).setCell ⟨w.heap.size + 2, 5, none⟩ (.int .i64 0)).setCell ⟨w.heap.size + 3, 0, none⟩ (.bool false) = X at *
    refine ⟨by simp, .inl ⟨_, _, rfl, run_takeDeferred hK', ?_⟩⟩
    have k2 := row_kept q2 (grownBy_putObj' _ D (.deferred none)) (fun r e => by cases e; exact ⟨_, hK', rfl⟩)
    have k3 := row_kept q3 (grownBy_putObj' _ D (.deferred none)) (fun r e => by cases e; exact ⟨_, hK', rfl⟩)
    have y2 := k2.cell
    have y3 := k3.cell
    refine ⟨.tuple #[atV at0, .bool false], ?_, by rw [Q4.out]; rfl, hB.trans (belowK_b (w := w) (Nat.le_refl _) X D _ _ (by omega) hK' rfl rfl)⟩
    simp [results, Tryz.f74, Tryz.results74, go_sem, y2, y3]
  case stop =>
    rintro D c pre W hD hpre ⟨⟨rfl, x, hx, q2, q3⟩, hB⟩ hK
    have hx2 := find_pre hpre hx
    have HX := Lib.hid hx2
    clear hx hx2 hpre
    gi_wp2
    refine ⟨by simp, .inl ⟨_, _, rfl, run_takeDeferred hK, ?_⟩⟩
    have k2 := row_kept q2 (grownBy_putObj' _ D (.deferred none)) (fun r e => by cases e; exact ⟨_, hK, rfl⟩)
    have k3 := row_kept q3 (grownBy_putObj' _ D (.deferred none)) (fun r e => by cases e; exact ⟨_, hK, rfl⟩)
    have y2 := k2.cell
    have y3 := k3.cell
    refine ⟨.tuple #[atV x, .bool true], ?_, by rw [HX.out]; rfl, hB.trans (belowK_b (w := w) (Nat.le_refl _) W D _ _ (by omega) hK rfl rfl)⟩
    simp [results, Tryz.f74, Tryz.results74, go_sem, y2, y3]
theorem lended_cN (k i g : Int) (w : World) (h : LedN w p) : Ret 29 #[.pointer none, oV k i g] w (.tuple #[.int .i64 ((noL.find? qEnd).getD at0).ans, .bool (noL.find? qEnd).isSome]) := by
  have HH := Lib.hid h
  have CF := Lib.hid (fun W (hb : Below w.heap.size w W) => find_endedN k i g W (h.on hb))
  clear h
  generalize (noL.find? qEnd).getD at0 = x at *
  generalize (noL.find? qEnd).isSome = s at *
  go_enter Tryz.func29, Tryz.ntmps29
  go_wp2_with fail
  have hb := below_alloc w (.cells #[.int .i64 k, .int .i64 i, .int .u32 g] 41)
  generalize w.alloc (.cells #[.int .i64 k, .int .i64 i, .int .u32 g] 41) = V at *
  refine Calls.mono (CF.out V hb) ?_
  rintro e V1 ⟨rfl, hn⟩
  replace hb := chain hb hn
  go_upto_region 2 with fail
  have hn2 := below_alloc V1 (.cells (atC x) 43)
  have r1 := Row.new (W := V1) (cs := atC x) (t := 43)
  replace hb := chain hb hn2
  generalize V1.alloc (.cells (atC x) 43) = V2 at *
  have y1 := r1.cell
  have z1 := r1.lt
  go_wp2_with fail
  go_returns
  exact ⟨rfl, hb⟩
theorem lfirst_cN (k i g : Int) (w : World) (h : LedN w p) : Ret 30 #[.pointer none, oV k i g] w (.tuple #[atV ((noL.find? qAll).getD at0), .bool (noL.find? qAll).isSome]) := by
  have HH := Lib.hid h
  have CF := Lib.hid (fun W (hb : Below w.heap.size w W) => find_firstN k i g W (h.on hb))
  clear h
  generalize (noL.find? qAll).getD at0 = x at *
  generalize (noL.find? qAll).isSome = s at *
  go_enter Tryz.func30, Tryz.ntmps30
  go_upto_region 1 with fail
  have hb := below_alloc w (.cells #[.int .i64 k, .int .i64 i, .int .u32 g] 41)
  have r0 := Row.new (W := w) (cs := #[.int .i64 k, .int .i64 i, .int .u32 g]) (t := 41)
  have hs0 : (w.alloc (.cells #[.int .i64 k, .int .i64 i, .int .u32 g] 41)).heap.size = w.heap.size + 1 := by simp
  generalize w.alloc (.cells #[.int .i64 k, .int .i64 i, .int .u32 g] 41) = V at *
  have hn := below_alloc V (.cells (atC at0) 43)
  have r1 := Row.new (W := V) (cs := atC at0) (t := 43)
  rw [hs0] at r1
  replace r0 := r0.on hn
  replace hb := chain hb hn
  simp only [atC, at0] at r1 hn hb r0 ⊢
  generalize V.alloc _ = V1 at *
  clear hn hs0
  have y0 := r0.cell
  have z0 := r0.lt
  go_wp2_with fail
  refine Calls.mono (CF.out V1 hb) ?_
  rintro e V2 ⟨rfl, hn⟩
  replace hb := chain hb hn
  clear y0 z0
  replace r1 := r1.on hn
  have y1 := r1.cell
  have z1 := r1.lt
  have u1 := r1.free
  go_wp2_with fail
  refine bodyPost_ret (v := .tuple #[atV x, .bool s]) (by simp [results, Tryz.results30, go_sem, y1, z1]) rfl ⟨rfl, ?_⟩
  refine Below.setCell ?_ (by simp) _
  refine Below.setCell ?_ (by simp) _
  refine Below.setCell ?_ (by simp) _
  refine Below.setCell ?_ (by simp) _
  refine Below.setCell ?_ (by simp) _
  exact hb.setCell (by simp) _
end
theorem ladd_noN (a : AtR) (w : World) {p : Nat} (h : LedN w p) : Ret 32 #[.pointer none, atV a] w (.int .i64 1) := by
  have HH := Lib.hid h
  have hc := Below.refl w.heap.size w
  clear h
  go_enter Tryz.func32, Tryz.ntmps32
  go_upto_region 1 with fail
  have r1 := Row.new (W := w) (cs := atC a) (t := 43)
  have hn := below_alloc w (.cells (atC a) 43)
  have HH2 := Lib.hid (HH.out.on hn)
  replace hc := chain hc hn
  clear hn HH
  simp only [atC] at r1 HH2 hc
  generalize w.alloc (.cells #[.int .i64 a.at_, .int .i64 a.k, .int .i64 a.i, .int .u32 a.g, .int .i64 a.why, .int .i64 a.ans] 43) = V at *
  go_wp2_with fail
  refine Calls.mono (llen_no HH2.out.made) ?_
  rintro e W1 ⟨rfl, hw⟩
  subst hw
  go_wp2_with fail
  refine Calls.mono HH2.out.made ?_
  rintro e W2 ⟨rfl, hw⟩
  subst hw
  go_wp2_with fail
  go_returns
  exact ⟨rfl, hc⟩
theorem lcopy_noN (w : World) {p : Nat} (h : LedN w p) : Ret 35 #[.pointer none] w (.pointer none) := by
  have HH := Lib.hid h
  clear h
  go_enter Tryz.func35, Tryz.ntmps35
  go_wp2_with fail
  refine Calls.mono HH.out.made ?_
  rintro e W1 ⟨rfl, hw⟩
  subst hw
  go_wp2_with fail
  go_returns
  exact ⟨rfl, Below.refl _ _⟩
end Go.Proofs.YtinlfheonlpceaaGreatDoor

/- Of, First, Ended, Add, Copy of a ledger that is zero (chapter 07). Printed by nil07.py. -/
namespace Go.Proofs.YtinlfheonlpceaaGreatDoor
open Go.RowKit Go.Shelf
set_option linter.unusedVariables false
set_option linter.unusedSimpArgs false
set_option maxHeartbeats 16000000
set_option maxRecDepth 20000
attribute [local go_sem] Oper.semAt_some
/-- A zero ledger. -/
structure LedZ (W : World) (p : Nat) : Prop where
  row : Row W p #[.slice none 0 0, .map none] LedT
theorem LedZ.on {W W' : World} {p : Nat} (h : LedZ W p) (hb : Below W.heap.size W W') : LedZ W' p := ⟨h.row.on hb⟩
theorem LedZ.lt {W : World} {p n : Nat} (h : LedZ W p) (hb : W.heap.size ≤ n) : p < n := Nat.lt_of_lt_of_le h.row.lt hb
theorem LedZ.made {W : World} {p : Nat} (h : LedZ W p) : Calls Tryz.prog 73 #[ledP p] W fun e w' => e = .returned (.bool false) ∧ w' = W := lmade_zero h.row
structure OfZ (W : World) (n0 bL bO p : Nat) (k i g : Int) : Prop where
  rL : Row W bL #[ledP p] 48
  rO : Row W bO #[.int .i64 k, .int .i64 i, .int .u32 g] 41
  led : LedZ W p
  nL : bL < n0
  nO : bO < n0
  nP : p < n0
theorem OfZ.on {W W' : World} {n0 bL bO p : Nat} {k i g : Int} (h : OfZ W n0 bL bO p k i g) (hs : W.heap.size ≤ W'.heap.size) (hb : ∀ b, b < n0 → W'.heap[b]? = W.heap[b]?) : OfZ W' n0 bL bO p k i g where
  rL := ⟨(hb bL h.nL).trans h.rL.eq⟩
  rO := ⟨(hb bO h.nO).trans h.rO.eq⟩
  led := ⟨⟨(hb p h.nP).trans h.led.row.eq⟩⟩
  nL := h.nL
  nO := h.nO
  nP := h.nP
theorem OfZ.below {W W' : World} {n0 bL bO p : Nat} {k i g : Int} (h : OfZ W n0 bL bO p k i g) (hb : Below n0 W W') : OfZ W' n0 bL bO p k i g := h.on hb.size (fun b hlt => hb.block b hlt)
theorem of1_inZ (n : Nat) (hn : 1 ≤ n) (l n0 bL bO p : Nat) (k i g : Int) (J Jx : List AtR → World → Prop) (W : World)
    (hJd : ∀ s W, J s W → J s W.drew)
    (hY : ∀ pre x W1, J pre W1 → pre.length < 10001 → YieldAt Fence.wide (n - 1) Tryz.prog l #[atV x] W1 fun e W' => (e = .returned (.bool true) ∧ J (pre ++ [x]) W' ∧ Below n0 W1 W') ∨ (e = .returned (.bool false) ∧ Jx (pre ++ [x]) W'))
    (hE : OfZ W n0 bL bO p k i g) (h0 : J [] W) :
    CallsIn Fence.wide n Tryz.prog 108 #[.func (.yield l) #[] #[], .pointer (some ⟨bL, 0, none⟩), .pointer (some ⟨bO, 0, none⟩)] W fun e W' => (∃ v, e = .returned v) ∧
      ((∃ ys, ys = noL ∧ J ys W') ∨ (∃ pre, pre <+: noL ∧ Jx pre W')) := by
  have HJ := Lib.hid hJd
  have HE := Lib.hid hE
  have CM := Lib.hid hE.led.made
  clear hJd hY hE
  refine callsIn_of_wp Tryz.func108 rfl trivial ?_ rfl
  simp only [Tryz.ntmps108, List.size_toArray, List.length_cons, List.length_nil, Nat.reduceAdd, Nat.reduceSub, Array.replicate_succ, Array.replicate_zero, List.push_toArray, List.append_toArray, List.nil_append, List.cons_append]
  have y0 := HE.out.rL.cell
  gi_wp2_with fail
  refine ⟨trivial, ?_⟩
  gi_at_call 73
  refine (callsIn_wide.2 CM.out).mono ?_
  rintro e w1 ⟨rfl, hw⟩
  have hw' := hw.symm
  subst hw'
  have H0 := Lib.hid h0
  clear h0
  gi_wp2_with fail
  refine bodyPost_ret (results_none rfl _ _ _) rfl ?_
  exact ⟨⟨_, rfl⟩, .inl ⟨_, rfl, H0.out⟩⟩
theorem of_stopsZ (m : Nat) (hm : 1 ≤ m) (n0 bL bO p : Nat) (k i g : Int) (w : World) (hE : OfZ w n0 bL bO p k i g) (hn0 : n0 ≤ w.heap.size) :
    SeqStopsK Fence.wide m Tryz.prog 108 #[.pointer (some ⟨bL, 0, none⟩), .pointer (some ⟨bO, 0, none⟩)] (fun x : AtR => #[atV x]) (Below n0) (fun ys => ys = noL) (fun pre => pre <+: noL) 10001 w := fun l J Jx W hW hJ hJx hY h0 =>
  of1_inZ m hm l n0 bL bO p k i g J Jx W (fun s W h => hJ s W _ none h (grown_drewL W) (fun r e => by cases e)) hY (hE.on hW.size (fun b hb => hW.block b (Nat.lt_of_lt_of_le hb hn0))) h0
theorem of_cZ (p : Nat) (k i g : Int) (w : World) : Calls Tryz.prog 78 #[ledP p, oV k i g] w fun e w' => e = .returned (.func (.func 108) #[] #[.pointer (some ⟨w.heap.size, 0, none⟩), .pointer (some ⟨w.heap.size + 1, 0, none⟩)]) ∧ w' = (w.alloc (.cells #[ledP p] 48)).alloc (.cells #[.int .i64 k, .int .i64 i, .int .u32 g] 41) := by
  go_enter Tryz.func78, Tryz.ntmps78
  go_wp2_with fail
  go_returns
  exact ⟨by simp, rfl⟩
/-- What lies there behind 'of'. -/
theorem of_envZ {w : World} {p : Nat} (h : LedZ w p) (k i g : Int) : ∃ W, W = (w.alloc (.cells #[ledP p] 48)).alloc (.cells #[.int .i64 k, .int .i64 i, .int .u32 g] 41) ∧ Below w.heap.size w W ∧ OfZ W W.heap.size w.heap.size (w.heap.size + 1) p k i g := by
  have hb1 := below_alloc w (.cells #[ledP p] 48)
  have hb2 := below_alloc (w.alloc (.cells #[ledP p] 48)) (.cells #[.int .i64 k, .int .i64 i, .int .u32 g] 41)
  have r1 := (Row.new (W := w) (cs := #[ledP p]) (t := 48)).on hb2
  have r2 := Row.new (W := w.alloc (.cells #[ledP p] 48)) (cs := #[.int .i64 k, .int .i64 i, .int .u32 g]) (t := 41)
  have hs : (w.alloc (.cells #[ledP p] 48)).heap.size = w.heap.size + 1 := by simp
  rw [hs] at r2
  have hB := chain hb1 hb2
  refine ⟨_, rfl, hB, ⟨r1, r2, h.on hB, r1.lt, r2.lt, h.lt hB.size⟩⟩
theorem append_seq_cZ (bL bO p : Nat) (k i g : Int) (w : World) (hE : OfZ w w.heap.size bL bO p k i g) :
    Calls Tryz.prog 107 #[.slice none 0 0, .func (.func 108) #[] #[.pointer (some ⟨bL, 0, none⟩), .pointer (some ⟨bO, 0, none⟩)]] w fun e w' => ∃ u, e = .returned u ∧ OwnsA w.heap.size w' u noL ∧ Below w.heap.size w w' := by
  obtain ⟨i0, hi, hz0, hz1, hz2⟩ := info_parts at_info
  have HI0 := Lib.hid hi
  have HZ0 := Lib.hid hz0
  have HZ1 := Lib.hid hz1
  have HZ2 := Lib.hid hz2
  have HE := Lib.hid hE
  clear hi hz0 hz1 hz2 hE
  refine (callsIn_wide (n := 3)).1 ?_
  refine callsIn_of_wp_marks Tryz.func107 rfl trivial ?_ rfl
  simp only [Tryz.ntmps107, List.size_toArray, List.length_cons, List.length_nil, Nat.reduceAdd, Nat.reduceSub, Array.replicate_succ, Array.replicate_zero, List.push_toArray, List.append_toArray, List.nil_append, List.cons_append]
  refine wpIn_wide.2 ?_
  go_wp2_with fail
  have hb0 := below_alloc w (.cells #[.slice none 0 0] 26)
  have r0 := Row.new (W := w) (cs := #[.slice none 0 0]) (t := 26)
  have hE0 := HE.out.below hb0
  generalize w.alloc (.cells #[.slice none 0 0] 26) = W0 at *
  have hro : Fence.wide.round = none := rfl
  have hsz := r0.lt
  refine wpIn_wide.1 (?_ : Code.wpIn Fence.wide 3 _ _ _ _ _)
  refine wpIn_rangeFunc_ownH hro (by omega) (gf := 108) (lb := #[.pointer (some ⟨bL, 0, none⟩), .pointer (some ⟨bO, 0, none⟩)]) rfl trivial (enters_of Tryz.func108 (by kernel_rfl) rfl)
    (of_stopsZ 2 (by omega) w.heap.size bL bO p k i g W0 hE0 hb0.size) belowK_t (belowK_b (by omega)) (Below.refl _ _) (fun _ => rfl)
    (fun pre W => (∃ u, Row W w.heap.size #[u] 26 ∧ OwnsA (w.heap.size + 1) W u pre) ∧ Below w.heap.size w W)
    (fun _ _ _ => False)
    (OwnFrom.and (Own.from (fun s A B row hs hg hr => by
      obtain ⟨u, h1, h2⟩ := hs
      refine ⟨u, row_kept h1 hg hr, h2.via (fun k hk => ?_)⟩
      obtain ⟨cur, hc⟩ := ownA_block h2 hk
      refine hg.block k (h2.lt k hk).2 (fun e' => ?_)
      obtain ⟨o, ho, hcc⟩ := hr k e'.symm
      rw [hc] at ho
      cases ho
      cases hcc) _) (ownFrom_below (Nat.le_refl _) (by omega)))
    (fun _ _ _ _ _ hs _ _ => hs)
    ⟨⟨_, r0, OwnsA.nil _ _⟩, hb0⟩
    (fun x a' W => ∃ Bx, w.heap.size < Bx ∧ Row W Bx (atC x) 43 ∧ a' = { tmps := #[.slice none 0 0, .func (.func 108) #[] #[.pointer (some ⟨bL, 0, none⟩), .pointer (some ⟨bO, 0, none⟩)], .pointer (some ⟨w.heap.size, 0, none⟩), undef, .slice none 0 0, .pointer (some ⟨Bx, 0, none⟩), .func (.func 108) #[] #[.pointer (some ⟨bL, 0, none⟩), .pointer (some ⟨bO, 0, none⟩)], atV x, undef, undef, undef, undef, undef], defers := [] })
    (fun x a' _ X Y row hs hg hr => by obtain ⟨Bx, h1, h2, h3⟩ := hs; exact ⟨Bx, h1, row_kept h2 hg (fun r e => (hr r e).2), h3⟩)
    ?assign ?body ?done ?stop
  case assign =>
    rintro l pre x W K ⟨⟨u, q1, q2⟩, hB⟩ hK
    have z1 := q1.lt
    gi_wp2
    have kb := below_alloc W (.cells (atC x) 43)
    exact hK _ _ ((KeepsOthers.alloc _ _).from _) ((Below.refl _ W).alloc hB.size _) ⟨⟨u, q1.on kb, q2.on kb⟩, hB.alloc hB.size _⟩ ⟨W.heap.size, z1, Row.new, rfl⟩
  case body =>
    rintro l pre x a' W hl ⟨r, hr⟩ ⟨⟨u, q1, q2⟩, hB⟩ ⟨Bx, hBx, qx, rfl⟩ hlt
    have z1 := q1.lt
    have zx := qx.lt
    have y1 := q1.cell 0
    have u1 := q1.free 0
    have yx := qx.cell
    have hwz := hB.size
    have hle : w.heap.size + 1 ≤ W.heap.size := by omega
    have kb := below_alloc W (.cells (atC x) 43)
    have q3 := q2.on kb
    have q4 := q1.on kb
    have hsrc := at_src W x
    have Q3 := Lib.hid q3
    have Q4 := Lib.hid q4
    have HSRC := Lib.hid hsrc
    clear q2 q3 q4 hsrc q1 kb
    gi_wp2_with (gi_at_builtin; refine wpListIn_append_own _ rfl _ _ 26 rfl (w.heap.size + 1) 43 i0 (.agg #[.int .i64 0, .int .i64 0, .int .i64 0, .int .u32 0, .int .i64 0, .int .i64 0]) 6 48 Tryz.underlying26 HI0.out HZ0.out HZ1.out HZ2.out rfl (by decide) _ _ _ rfl Q3.out ⟨W.heap.size, 0, none⟩ 1 1 (atL x) rfl rfl HSRC.out (by intro u hu; simp at hu; rcases hu with rfl | rfl | rfl | rfl | rfl | rfl <;> rfl) (by unfold maxLen; omega) (by omega) (by first | (simp; done) | (simp; omega)) ?_; intro v' w1 hown' hgrow hnil; obtain ⟨g', cap', rfl⟩ := ownsRow_succ hown'; have hlo : ∀ k, u.ownBlock = some k → w.heap.size + 1 ≤ k := fun k hk => (World.ownsRow.lt Q3.out _ hk).1; have hrow5 := row_grown Q4.out hgrow (fun e => by have := hlo _ e; omega); have y5 := hrow5.cell 0; have u5 := hrow5.free 0; have HOWN := Lib.hid hown'; have HGR := Lib.hid hgrow; have HR5 := Lib.hid hrow5; clear hown' hgrow hnil hrow5)
    have hlo : ∀ k, u.ownBlock = some k → w.heap.size + 1 ≤ k := fun k hk => (World.ownsRow.lt Q3.out _ hk).1
    have kk := (KeepsOthers.alloc W (.cells (atC x) 43)).trans (KeepsOthers.of_grownBy HGR.out (fun j o hj ho => by
      obtain ⟨cur, hc⟩ := ownA_block Q3.out hj
      rw [hc] at ho
      cases ho
      rfl))
    have hB6 := ((Below.refl w.heap.size W).alloc hB.size (.cells (atC x) 43)).grown HGR.out (by first | (simp; done) | (simp; omega)) (fun k hk => by have := hlo k hk; omega)
    have hBz := hB6.setCell (p := ⟨w.heap.size, 0, none⟩) (Nat.le_refl _) (.slice (some ⟨g', 0, none⟩) (pre.length + 1) cap')
    have ho : OwnsA (w.heap.size + 1) w1 (.slice (some ⟨g', 0, none⟩) (pre.length + 1) cap') (pre ++ [x]) := by
      unfold OwnsA
      rw [cellsA_snoc, List.length_append]
      exact HOWN.out
    refine ⟨(kk.trans (KeepsOthers.setCell _ _ _)).from _, hBz, ⟨_, HR5.out.set 0 (.slice (some ⟨g', 0, none⟩) (pre.length + 1) cap'), ownA_setCell ho (fun e => by have := (ho.lt _ e).1; omega) _ _⟩, hB.trans hBz⟩
  case done =>
    rintro D zs W hD rfl ⟨⟨u, q1, q2⟩, hB⟩ hK
    have y1 := q1.cell 0
    go_wp2_with fail
    refine ⟨by simp, .inl ⟨_, _, rfl, run_takeDeferred hK, ?_⟩⟩
    have q2' : OwnsA (w.heap.size + 1) (W.putObj D (.deferred none)) u noL := ownsRow_putObj q2 _ hK rfl
    refine ⟨u, ?_, ⟨u, rfl, q2'.base (by omega), hB.trans (belowK_b (w := w) (Nat.le_refl _) W D _ _ (by omega) hK rfl rfl)⟩⟩
    simp [results, Tryz.f107, Tryz.results107, go_sem]
  case stop =>
    rintro D c pre W _ _ h _
    exact h.elim
section
variable {p : Nat}
theorem collect_cZ (bL bO p : Nat) (k i g : Int) (w : World) (hE : OfZ w w.heap.size bL bO p k i g) :
    Calls Tryz.prog 77 #[.func (.func 108) #[] #[.pointer (some ⟨bL, 0, none⟩), .pointer (some ⟨bO, 0, none⟩)]] w fun e w' => ∃ u, e = .returned u ∧ OwnsA w.heap.size w' u noL ∧ Below w.heap.size w w' := by
  have C := Lib.hid (append_seq_cZ bL bO p k i g w hE)
  clear hE
  go_enter Tryz.func77, Tryz.ntmps77
  go_wp2_with fail
  refine Calls.mono C.out ?_
  rintro e V3 ⟨u, rfl, ho, hb3⟩
  have HO := Lib.hid ho
  clear ho
  go_wp2_with fail
  go_returns
  exact ⟨u, rfl, HO.out, hb3⟩
theorem lof_cZ (k i g : Int) (w : World) (h : LedZ w p) : Calls Tryz.prog 31 #[ledP p, oV k i g] w fun e w' => ∃ u, e = .returned u ∧ OwnsA w.heap.size w' u noL ∧ Below w.heap.size w w' := by
  have HH := Lib.hid h
  clear h
  go_enter Tryz.func31, Tryz.ntmps31
  go_wp2_with fail
  have hb := below_alloc w (.cells #[.int .i64 k, .int .i64 i, .int .u32 g] 41)
  generalize w.alloc (.cells #[.int .i64 k, .int .i64 i, .int .u32 g] 41) = V at *
  refine Calls.mono (of_cZ p k i g V) ?_
  rintro e V1 ⟨rfl, hW⟩
  obtain ⟨V2, hV2, hb2, hE⟩ := of_envZ (HH.out.on hb) k i g
  rw [← hV2] at hW
  subst hW
  clear hV2
  have hB := chain hb hb2
  go_wp2_with fail
  refine Calls.mono (collect_cZ _ _ p k i g _ hE) ?_
  rintro e V3 ⟨u, rfl, ho, hb3⟩
  have HO := Lib.hid (ho.base hB.size)
  have hB3 := chain hB hb3
  clear ho
  go_wp2_with fail
  go_returns
  exact ⟨u, rfl, HO.out, hB3⟩
theorem find_endedZ (k i g : Int) (w : World) (h : LedZ w p) : Ret 74 #[ledP p, oV k i g, .func (.func 75) #[] #[]] w (.tuple #[atV ((noL.find? qEnd).getD at0), .bool (noL.find? qEnd).isSome]) := by
  have HH := Lib.hid h
  have CI := Lib.hid (fun a W => ended1_c a W)
  clear h
  refine (callsIn_wide (n := 3)).1 ?_
  refine callsIn_of_wp_marks Tryz.func74 rfl trivial ?_ rfl
  simp only [Tryz.ntmps74, List.size_toArray, List.length_cons, List.length_nil, Nat.reduceAdd, Nat.reduceSub, Array.replicate_succ, Array.replicate_zero, List.push_toArray, List.append_toArray, List.nil_append, List.cons_append]
  refine wpIn_wide.2 ?_
  go_wp2_with fail
  refine Calls.mono (of_cZ p k i g _) ?_
  rintro e V1 ⟨rfl, hW⟩
  subst hW
  obtain ⟨W0, hW0, hz, hB0, r5, r6, r7, rL, rO⟩ := six_allocs w #[.int .i64 k, .int .i64 i, .int .u32 g] #[.func (.func 75) #[] #[]] (atC at0) #[.bool false] #[ledP p] #[.int .i64 k, .int .i64 i, .int .u32 g] 41 71 43 4 48 41
  have hE0 : OfZ W0 W0.heap.size (w.heap.size + 4) (w.heap.size + 5) p k i g := ⟨rL, rO, HH.out.on hB0, by omega, by omega, HH.out.lt hB0.size⟩
  simp only [atC, at0] at hW0
  go_wp2_with fail
  rw [← hW0]
  clear hW0
  have hro : Fence.wide.round = none := rfl
  refine wpIn_wide.1 (?_ : Code.wpIn Fence.wide 3 _ _ _ _ _)
  refine wpIn_rangeFunc_ownH hro (by omega) (gf := 108) (lb := #[.pointer (some ⟨w.heap.size + 4, 0, none⟩), .pointer (some ⟨w.heap.size + 5, 0, none⟩)]) rfl trivial (enters_of Tryz.func108 (by kernel_rfl) rfl)
    (of_stopsZ 2 (by omega) W0.heap.size (w.heap.size + 4) (w.heap.size + 5) p k i g W0 hE0 (Nat.le_refl _)) belowK_t (belowK_b (by omega)) (Below.refl _ _) (fun _ => rfl)
    (fun pre W => (Row W (w.heap.size + 1) #[.func (.func 75) #[] #[]] 71 ∧ Row W (w.heap.size + 2) (atC at0) 43 ∧ Row W (w.heap.size + 3) #[.bool false] 4 ∧ pre.find? qEnd = none ∧ w.heap.size + 6 ≤ W.heap.size) ∧ Below w.heap.size w W)
    (fun c pre W => (c = .ret ∧ ∃ x, pre.find? qEnd = some x ∧ Row W (w.heap.size + 2) (atC x) 43 ∧ Row W (w.heap.size + 3) #[.bool true] 4) ∧ Below w.heap.size w W)
    (OwnFrom.and (Own.from (fun s A B row hs hg hr => ⟨row_kept hs.1 hg hr, row_kept hs.2.1 hg hr, row_kept hs.2.2.1 hg hr, hs.2.2.2.1, Nat.le_trans hs.2.2.2.2 hg.size⟩) _) (ownFrom_below (Nat.le_refl _) (by omega)))
    (fun c => OwnFrom.and (Own.from (fun s A B row hs hg hr => by obtain ⟨h1, x, h2, h3, h4⟩ := hs; exact ⟨h1, x, h2, row_kept h3 hg hr, row_kept h4 hg hr⟩) _) (ownFrom_below (Nat.le_refl _) (by omega)))
    ⟨⟨r5, r6, r7, rfl, by omega⟩, hB0⟩
    (fun x a' W => ∃ Bx, w.heap.size + 5 < Bx ∧ Row W Bx (atC x) 43 ∧ a' = { tmps := #[ledP p, oV k i g, .func (.func 75) #[] #[], undef, .pointer (some ⟨w.heap.size, 0, none⟩), .pointer (some ⟨w.heap.size + 1, 0, none⟩), .pointer (some ⟨w.heap.size + 2, 0, none⟩), .pointer (some ⟨w.heap.size + 3, 0, none⟩), .pointer (some ⟨Bx, 0, none⟩), ledP p, oV k i g, .func (.func 108) #[] #[.pointer (some ⟨w.heap.size + 4, 0, none⟩), .pointer (some ⟨w.heap.size + 5, 0, none⟩)], atV x, undef, undef, undef, undef, undef], defers := [] })
    (fun x a' _ X Y row hs hg hr => by obtain ⟨Bx, h1, h2, h3⟩ := hs; exact ⟨Bx, h1, row_kept h2 hg (fun r e => (hr r e).2), h3⟩)
    ?assign ?body ?done ?stop
  case assign =>
    rintro l pre x W K ⟨⟨q1, q2, q3, q4, q5⟩, hB⟩ hK
    have z1 := q1.lt
    have hwz := hB.size
    gi_wp2
    have kb := below_alloc W (.cells (atC x) 43)
    exact hK _ _ ((KeepsOthers.alloc _ _).from _) ((Below.refl _ W).alloc (by omega) _) ⟨⟨q1.on kb, q2.on kb, q3.on kb, q4, Nat.le_trans q5 kb.size⟩, hB.alloc hB.size _⟩ ⟨W.heap.size, by omega, Row.new, rfl⟩
  case body =>
    rintro l pre x a' W hl ⟨r, hr⟩ ⟨⟨q1, q2, q3, q4, q5⟩, hB⟩ ⟨Bx, hBx, qx, rfl⟩ hlt
    have Q4 := Lib.hid q4
    have hwz := hB.size
    have ci := CI.out x
    have hsnoc : (pre ++ [x]).find? qEnd = if qEnd x then some x else none := by rw [List.find?_append, q4, Option.none_or, List.find?_cons]; cases qEnd x <;> rfl
    have HSN := Lib.hid hsnoc
    clear q4 hsnoc
    have y1 := q1.cell
    have yx := qx.cell
    have zx := qx.lt
    cases hq : qEnd x with
    | false =>
      rw [hq] at ci
      have HC := Lib.hid ci
      have HQ := Lib.hid hq
      clear ci hq
      gi_wp2
      refine ⟨trivial, ?_⟩
      gi_at_call 75
      refine (CallsIn.inRound l (callsIn_wide.2 (HC.out _))).mono ?_
      rintro e w5 ⟨rfl, hb5⟩
      clear y1 yx zx
      gi_wp2
      exact ⟨(keeps_belowL hb5).from _, hb5.mono (by omega), ⟨q1.on hb5, q2.on hb5, q3.on hb5, by rw [HSN.out, HQ.out]; rfl, by have := hb5.size; omega⟩, chain hB hb5⟩
    | true =>
      rw [hq] at ci
      have HC := Lib.hid ci
      have HQ := Lib.hid hq
      clear ci hq
      gi_wp2
      refine ⟨trivial, ?_⟩
      gi_at_call 75
      refine (CallsIn.inRound l (callsIn_wide.2 (HC.out _))).mono ?_
      rintro e w5 ⟨rfl, hb5⟩
      clear y1 yx zx
      replace q2 := q2.on hb5
      replace q3 := q3.on hb5
      replace qx := qx.on hb5
      have y2 := q2.cell
      have u2 := q2.free
      have y3 := q3.cell
      have u3 := q3.free
      have yx := qx.cell
      have z2 := q2.lt
      have z3 := q3.lt
      have zx := qx.lt
      gi_wp2
      have hn23 : w.heap.size + 2 ≠ w.heap.size + 3 := by omega
      replace q3 := (((((((q3.other hn23 0 (.int .i64 x.at_)).other hn23 1 (.int .i64 x.k)).other hn23 2 (.int .i64 x.i)).other hn23 3 (.int .u32 x.g)).other hn23 4 (.int .i64 x.why)).other hn23 5 (.int .i64 x.ans)).set 0 (.bool true))
      replace q2 := (((((((q2.set 0 (.int .i64 x.at_)).set 1 (.int .i64 x.k)).set 2 (.int .i64 x.i)).set 3 (.int .u32 x.g)).set 4 (.int .i64 x.why)).set 5 (.int .i64 x.ans)).other hn23.symm 0 (.bool true))
      simp only [List.setIfInBounds_toArray, List.set_cons_zero, List.set_cons_succ] at q2 q3
      exact ⟨((((((((keeps_belowL hb5).trans (KeepsOthers.setCell _ ⟨w.heap.size + 2, 0, none⟩ (.int .i64 x.at_))).trans (KeepsOthers.setCell _ ⟨w.heap.size + 2, 1, none⟩ (.int .i64 x.k))).trans (KeepsOthers.setCell _ ⟨w.heap.size + 2, 2, none⟩ (.int .i64 x.i))).trans (KeepsOthers.setCell _ ⟨w.heap.size + 2, 3, none⟩ (.int .u32 x.g))).trans (KeepsOthers.setCell _ ⟨w.heap.size + 2, 4, none⟩ (.int .i64 x.why))).trans (KeepsOthers.setCell _ ⟨w.heap.size + 2, 5, none⟩ (.int .i64 x.ans))).trans (KeepsOthers.setCell _ ⟨w.heap.size + 3, 0, none⟩ (.bool true))).from _, ⟨rfl, x, by rw [HSN.out, HQ.out]; rfl, q2, q3⟩, ((((((((chain hB hb5).setCell (p := ⟨w.heap.size + 2, 0, none⟩) (by simp) (.int .i64 x.at_)).setCell (p := ⟨w.heap.size + 2, 1, none⟩) (by simp) (.int .i64 x.k)).setCell (p := ⟨w.heap.size + 2, 2, none⟩) (by simp) (.int .i64 x.i)).setCell (p := ⟨w.heap.size + 2, 3, none⟩) (by simp) (.int .u32 x.g)).setCell (p := ⟨w.heap.size + 2, 4, none⟩) (by simp) (.int .i64 x.why)).setCell (p := ⟨w.heap.size + 2, 5, none⟩) (by simp) (.int .i64 x.ans)).setCell (p := ⟨w.heap.size + 3, 0, none⟩) (by simp) (.bool true))⟩
  case done =>
    rintro D zs W hD rfl ⟨⟨q1, q2, q3, q4, q5⟩, hB⟩ hK
    have hn23 : w.heap.size + 2 ≠ w.heap.size + 3 := by omega
    have Q4 := Lib.hid q4
    clear q4
    have y2 := q2.cell
    have u2 := q2.free
    have y3 := q3.cell
    have u3 := q3.free
    have z2 := q2.lt
    have z3 := q3.lt
    go_wp2_with fail
    replace q3 := (((((((q3.other hn23 0 (.int .i64 0)).other hn23 1 (.int .i64 0)).other hn23 2 (.int .i64 0)).other hn23 3 (.int .u32 0)).other hn23 4 (.int .i64 0)).other hn23 5 (.int .i64 0)).set 0 (.bool false))
    replace q2 := (((((((q2.set 0 (.int .i64 0)).set 1 (.int .i64 0)).set 2 (.int .i64 0)).set 3 (.int .u32 0)).set 4 (.int .i64 0)).set 5 (.int .i64 0)).other hn23.symm 0 (.bool false))
    simp only [List.setIfInBounds_toArray, List.set_cons_zero, List.set_cons_succ] at q2 q3
    replace hB := (((((((hB.setCell (p := ⟨w.heap.size + 2, 0, none⟩) (by simp) (.int .i64 0)).setCell (p := ⟨w.heap.size + 2, 1, none⟩) (by simp) (.int .i64 0)).setCell (p := ⟨w.heap.size + 2, 2, none⟩) (by simp) (.int .i64 0)).setCell (p := ⟨w.heap.size + 2, 3, none⟩) (by simp) (.int .u32 0)).setCell (p := ⟨w.heap.size + 2, 4, none⟩) (by simp) (.int .i64 0)).setCell (p := ⟨w.heap.size + 2, 5, none⟩) (by simp) (.int .i64 0)).setCell (p := ⟨w.heap.size + 3, 0, none⟩) (by simp) (.bool false))
    have kk := ((((((KeepsOthers.setCell W ⟨w.heap.size + 2, 0, none⟩ (.int .i64 0)).trans (KeepsOthers.setCell _ ⟨w.heap.size + 2, 1, none⟩ (.int .i64 0))).trans (KeepsOthers.setCell _ ⟨w.heap.size + 2, 2, none⟩ (.int .i64 0))).trans (KeepsOthers.setCell _ ⟨w.heap.size + 2, 3, none⟩ (.int .u32 0))).trans (KeepsOthers.setCell _ ⟨w.heap.size + 2, 4, none⟩ (.int .i64 0))).trans (KeepsOthers.setCell _ ⟨w.heap.size + 2, 5, none⟩ (.int .i64 0))).trans (KeepsOthers.setCell _ ⟨w.heap.size + 3, 0, none⟩ (.bool false))
    have hK' := kk.same D _ hK rfl
    clear kk y2 u2 y3 u3 z2 z3 hK
    change bodyPostM _ _ _ _ _ _ _ (((((((W.setCell ⟨w.heap.size + 2, 0, none⟩ (.int .i64 0)).setCell ⟨w.heap.size + 2, 1, none⟩ (.int .i64 0)).setCell ⟨w.heap.size + 2, 2, none⟩ (.int .i64 0)).setCell ⟨w.heap.size + 2, 3, none⟩ (.int .u32 0)).setCell ⟨w.heap.size + 2, 4, none⟩ (.int .i64 0)).setCell ⟨w.heap.size + 2, 5, none⟩ (.int .i64 0)).setCell ⟨w.heap.size + 3, 0, none⟩ (.bool false))
    generalize ((((((W.setCell ⟨w.heap.size + 2, 0, none⟩ (.int .i64 0)).setCell ⟨w.heap.size + 2, 1, none⟩ (.int .i64 0)).setCell ⟨w.heap.size + 2, 2, none⟩ (.int .i64 0)).setCell ⟨w.heap.size + 2, 3, none⟩ (.int .u32 0)).setCell ⟨w.heap.size + 2, 4, none⟩ (.int .i64 0)).setCell ⟨w.heap.size + 2, 5, none⟩ (.int .i64 0)).setCell ⟨w.heap.size + 3, 0, none⟩ (.bool false) = X at *
    refine ⟨by simp, .inl ⟨_, _, rfl, run_takeDeferred hK', ?_⟩⟩
    have k2 := row_kept q2 (grownBy_putObj' _ D (.deferred none)) (fun r e => by cases e; exact ⟨_, hK', rfl⟩)
    have k3 := row_kept q3 (grownBy_putObj' _ D (.deferred none)) (fun r e => by cases e; exact ⟨_, hK', rfl⟩)
    have y2 := k2.cell
    have y3 := k3.cell
    refine ⟨.tuple #[atV at0, .bool false], ?_, by rw [Q4.out]; rfl, hB.trans (belowK_b (w := w) (Nat.le_refl _) X D _ _ (by omega) hK' rfl rfl)⟩
    simp [results, Tryz.f74, Tryz.results74, go_sem, y2, y3]
  case stop =>
    rintro D c pre W hD hpre ⟨⟨rfl, x, hx, q2, q3⟩, hB⟩ hK
    have hx2 := find_pre hpre hx
    have HX := Lib.hid hx2
    clear hx hx2 hpre
    gi_wp2
    refine ⟨by simp, .inl ⟨_, _, rfl, run_takeDeferred hK, ?_⟩⟩
    have k2 := row_kept q2 (grownBy_putObj' _ D (.deferred none)) (fun r e => by cases e; exact ⟨_, hK, rfl⟩)
    have k3 := row_kept q3 (grownBy_putObj' _ D (.deferred none)) (fun r e => by cases e; exact ⟨_, hK, rfl⟩)
    have y2 := k2.cell
    have y3 := k3.cell
    refine ⟨.tuple #[atV x, .bool true], ?_, by rw [HX.out]; rfl, hB.trans (belowK_b (w := w) (Nat.le_refl _) W D _ _ (by omega) hK rfl rfl)⟩
    simp [results, Tryz.f74, Tryz.results74, go_sem, y2, y3]
theorem find_firstZ (k i g : Int) (w : World) (h : LedZ w p) : Ret 74 #[ledP p, oV k i g, .func (.func 76) #[] #[]] w (.tuple #[atV ((noL.find? qAll).getD at0), .bool (noL.find? qAll).isSome]) := by
  have HH := Lib.hid h
  have CI := Lib.hid (fun a W => first1_c a W)
  clear h
  refine (callsIn_wide (n := 3)).1 ?_
  refine callsIn_of_wp_marks Tryz.func74 rfl trivial ?_ rfl
  simp only [Tryz.ntmps74, List.size_toArray, List.length_cons, List.length_nil, Nat.reduceAdd, Nat.reduceSub, Array.replicate_succ, Array.replicate_zero, List.push_toArray, List.append_toArray, List.nil_append, List.cons_append]
  refine wpIn_wide.2 ?_
  go_wp2_with fail
  refine Calls.mono (of_cZ p k i g _) ?_
  rintro e V1 ⟨rfl, hW⟩
  subst hW
  obtain ⟨W0, hW0, hz, hB0, r5, r6, r7, rL, rO⟩ := six_allocs w #[.int .i64 k, .int .i64 i, .int .u32 g] #[.func (.func 76) #[] #[]] (atC at0) #[.bool false] #[ledP p] #[.int .i64 k, .int .i64 i, .int .u32 g] 41 71 43 4 48 41
  have hE0 : OfZ W0 W0.heap.size (w.heap.size + 4) (w.heap.size + 5) p k i g := ⟨rL, rO, HH.out.on hB0, by omega, by omega, HH.out.lt hB0.size⟩
  simp only [atC, at0] at hW0
  go_wp2_with fail
  rw [← hW0]
  clear hW0
  have hro : Fence.wide.round = none := rfl
  refine wpIn_wide.1 (?_ : Code.wpIn Fence.wide 3 _ _ _ _ _)
  refine wpIn_rangeFunc_ownH hro (by omega) (gf := 108) (lb := #[.pointer (some ⟨w.heap.size + 4, 0, none⟩), .pointer (some ⟨w.heap.size + 5, 0, none⟩)]) rfl trivial (enters_of Tryz.func108 (by kernel_rfl) rfl)
    (of_stopsZ 2 (by omega) W0.heap.size (w.heap.size + 4) (w.heap.size + 5) p k i g W0 hE0 (Nat.le_refl _)) belowK_t (belowK_b (by omega)) (Below.refl _ _) (fun _ => rfl)
    (fun pre W => (Row W (w.heap.size + 1) #[.func (.func 76) #[] #[]] 71 ∧ Row W (w.heap.size + 2) (atC at0) 43 ∧ Row W (w.heap.size + 3) #[.bool false] 4 ∧ pre.find? qAll = none ∧ w.heap.size + 6 ≤ W.heap.size) ∧ Below w.heap.size w W)
    (fun c pre W => (c = .ret ∧ ∃ x, pre.find? qAll = some x ∧ Row W (w.heap.size + 2) (atC x) 43 ∧ Row W (w.heap.size + 3) #[.bool true] 4) ∧ Below w.heap.size w W)
    (OwnFrom.and (Own.from (fun s A B row hs hg hr => ⟨row_kept hs.1 hg hr, row_kept hs.2.1 hg hr, row_kept hs.2.2.1 hg hr, hs.2.2.2.1, Nat.le_trans hs.2.2.2.2 hg.size⟩) _) (ownFrom_below (Nat.le_refl _) (by omega)))
    (fun c => OwnFrom.and (Own.from (fun s A B row hs hg hr => by obtain ⟨h1, x, h2, h3, h4⟩ := hs; exact ⟨h1, x, h2, row_kept h3 hg hr, row_kept h4 hg hr⟩) _) (ownFrom_below (Nat.le_refl _) (by omega)))
    ⟨⟨r5, r6, r7, rfl, by omega⟩, hB0⟩
    (fun x a' W => ∃ Bx, w.heap.size + 5 < Bx ∧ Row W Bx (atC x) 43 ∧ a' = { tmps := #[ledP p, oV k i g, .func (.func 76) #[] #[], undef, .pointer (some ⟨w.heap.size, 0, none⟩), .pointer (some ⟨w.heap.size + 1, 0, none⟩), .pointer (some ⟨w.heap.size + 2, 0, none⟩), .pointer (some ⟨w.heap.size + 3, 0, none⟩), .pointer (some ⟨Bx, 0, none⟩), ledP p, oV k i g, .func (.func 108) #[] #[.pointer (some ⟨w.heap.size + 4, 0, none⟩), .pointer (some ⟨w.heap.size + 5, 0, none⟩)], atV x, undef, undef, undef, undef, undef], defers := [] })
    (fun x a' _ X Y row hs hg hr => by obtain ⟨Bx, h1, h2, h3⟩ := hs; exact ⟨Bx, h1, row_kept h2 hg (fun r e => (hr r e).2), h3⟩)
    ?assign ?body ?done ?stop
  case assign =>
    rintro l pre x W K ⟨⟨q1, q2, q3, q4, q5⟩, hB⟩ hK
    have z1 := q1.lt
    have hwz := hB.size
    gi_wp2
    have kb := below_alloc W (.cells (atC x) 43)
    exact hK _ _ ((KeepsOthers.alloc _ _).from _) ((Below.refl _ W).alloc (by omega) _) ⟨⟨q1.on kb, q2.on kb, q3.on kb, q4, Nat.le_trans q5 kb.size⟩, hB.alloc hB.size _⟩ ⟨W.heap.size, by omega, Row.new, rfl⟩
  case body =>
    rintro l pre x a' W hl ⟨r, hr⟩ ⟨⟨q1, q2, q3, q4, q5⟩, hB⟩ ⟨Bx, hBx, qx, rfl⟩ hlt
    have Q4 := Lib.hid q4
    have hwz := hB.size
    have ci := CI.out x
    have hsnoc : (pre ++ [x]).find? qAll = if qAll x then some x else none := by rw [List.find?_append, q4, Option.none_or, List.find?_cons]; cases qAll x <;> rfl
    have HSN := Lib.hid hsnoc
    clear q4 hsnoc
    have y1 := q1.cell
    have yx := qx.cell
    have zx := qx.lt
    cases hq : qAll x with
    | false =>
      rw [hq] at ci
      have HC := Lib.hid ci
      have HQ := Lib.hid hq
      clear ci hq
      gi_wp2
      refine ⟨trivial, ?_⟩
      gi_at_call 76
      refine (CallsIn.inRound l (callsIn_wide.2 (HC.out _))).mono ?_
      rintro e w5 ⟨rfl, hb5⟩
      clear y1 yx zx
      gi_wp2
      exact ⟨(keeps_belowL hb5).from _, hb5.mono (by omega), ⟨q1.on hb5, q2.on hb5, q3.on hb5, by rw [HSN.out, HQ.out]; rfl, by have := hb5.size; omega⟩, chain hB hb5⟩
    | true =>
      rw [hq] at ci
      have HC := Lib.hid ci
      have HQ := Lib.hid hq
      clear ci hq
      gi_wp2
      refine ⟨trivial, ?_⟩
      gi_at_call 76
      refine (CallsIn.inRound l (callsIn_wide.2 (HC.out _))).mono ?_
      rintro e w5 ⟨rfl, hb5⟩
      clear y1 yx zx
      replace q2 := q2.on hb5
      replace q3 := q3.on hb5
      replace qx := qx.on hb5
      have y2 := q2.cell
      have u2 := q2.free
      have y3 := q3.cell
      have u3 := q3.free
      have yx := qx.cell
      have z2 := q2.lt
      have z3 := q3.lt
      have zx := qx.lt
      gi_wp2
      have hn23 : w.heap.size + 2 ≠ w.heap.size + 3 := by omega
      replace q3 := (((((((q3.other hn23 0 (.int .i64 x.at_)).other hn23 1 (.int .i64 x.k)).other hn23 2 (.int .i64 x.i)).other hn23 3 (.int .u32 x.g)).other hn23 4 (.int .i64 x.why)).other hn23 5 (.int .i64 x.ans)).set 0 (.bool true))
      replace q2 := (((((((q2.set 0 (.int .i64 x.at_)).set 1 (.int .i64 x.k)).set 2 (.int .i64 x.i)).set 3 (.int .u32 x.g)).set 4 (.int .i64 x.why)).set 5 (.int .i64 x.ans)).other hn23.symm 0 (.bool true))
      simp only [List.setIfInBounds_toArray, List.set_cons_zero, List.set_cons_succ] at q2 q3
      exact ⟨((((((((keeps_belowL hb5).trans (KeepsOthers.setCell _ ⟨w.heap.size + 2, 0, none⟩ (.int .i64 x.at_))).trans (KeepsOthers.setCell _ ⟨w.heap.size + 2, 1, none⟩ (.int .i64 x.k))).trans (KeepsOthers.setCell _ ⟨w.heap.size + 2, 2, none⟩ (.int .i64 x.i))).trans (KeepsOthers.setCell _ ⟨w.heap.size + 2, 3, none⟩ (.int .u32 x.g))).trans (KeepsOthers.setCell _ ⟨w.heap.size + 2, 4, none⟩ (.int .i64 x.why))).trans (KeepsOthers.setCell _ ⟨w.heap.size + 2, 5, none⟩ (.int .i64 x.ans))).trans (KeepsOthers.setCell _ ⟨w.heap.size + 3, 0, none⟩ (.bool true))).from _, ⟨rfl, x, by rw [HSN.out, HQ.out]; rfl, q2, q3⟩, ((((((((chain hB hb5).setCell (p := ⟨w.heap.size + 2, 0, none⟩) (by simp) (.int .i64 x.at_)).setCell (p := ⟨w.heap.size + 2, 1, none⟩) (by simp) (.int .i64 x.k)).setCell (p := ⟨w.heap.size + 2, 2, none⟩) (by simp) (.int .i64 x.i)).setCell (p := ⟨w.heap.size + 2, 3, none⟩) (by simp) (.int .u32 x.g)).setCell (p := ⟨w.heap.size + 2, 4, none⟩) (by simp) (.int .i64 x.why)).setCell (p := ⟨w.heap.size + 2, 5, none⟩) (by simp) (.int .i64 x.ans)).setCell (p := ⟨w.heap.size + 3, 0, none⟩) (by simp) (.bool true))⟩
  case done =>
    rintro D zs W hD rfl ⟨⟨q1, q2, q3, q4, q5⟩, hB⟩ hK
    have hn23 : w.heap.size + 2 ≠ w.heap.size + 3 := by omega
    have Q4 := Lib.hid q4
    clear q4
    have y2 := q2.cell
    have u2 := q2.free
    have y3 := q3.cell
    have u3 := q3.free
    have z2 := q2.lt
    have z3 := q3.lt
    go_wp2_with fail
    replace q3 := (((((((q3.other hn23 0 (.int .i64 0)).other hn23 1 (.int .i64 0)).other hn23 2 (.int .i64 0)).other hn23 3 (.int .u32 0)).other hn23 4 (.int .i64 0)).other hn23 5 (.int .i64 0)).set 0 (.bool false))
    replace q2 := (((((((q2.set 0 (.int .i64 0)).set 1 (.int .i64 0)).set 2 (.int .i64 0)).set 3 (.int .u32 0)).set 4 (.int .i64 0)).set 5 (.int .i64 0)).other hn23.symm 0 (.bool false))
    simp only [List.setIfInBounds_toArray, List.set_cons_zero, List.set_cons_succ] at q2 q3
    replace hB := (((((((hB.setCell (p := ⟨w.heap.size + 2, 0, none⟩) (by simp) (.int .i64 0)).setCell (p := ⟨w.heap.size + 2, 1, none⟩) (by simp) (.int .i64 0)).setCell (p := ⟨w.heap.size + 2, 2, none⟩) (by simp) (.int .i64 0)).setCell (p := ⟨w.heap.size + 2, 3, none⟩) (by simp) (.int .u32 0)).setCell (p := ⟨w.heap.size + 2, 4, none⟩) (by simp) (.int .i64 0)).setCell (p := ⟨w.heap.size + 2, 5, none⟩) (by simp) (.int .i64 0)).setCell (p := ⟨w.heap.size + 3, 0, none⟩) (by simp) (.bool false))
    have kk := ((((((KeepsOthers.setCell W ⟨w.heap.size + 2, 0, none⟩ (.int .i64 0)).trans (KeepsOthers.setCell _ ⟨w.heap.size + 2, 1, none⟩ (.int .i64 0))).trans (KeepsOthers.setCell _ ⟨w.heap.size + 2, 2, none⟩ (.int .i64 0))).trans (KeepsOthers.setCell _ ⟨w.heap.size + 2, 3, none⟩ (.int .u32 0))).trans (KeepsOthers.setCell _ ⟨w.heap.size + 2, 4, none⟩ (.int .i64 0))).trans (KeepsOthers.setCell _ ⟨w.heap.size + 2, 5, none⟩ (.int .i64 0))).trans (KeepsOthers.setCell _ ⟨w.heap.size + 3, 0, none⟩ (.bool false))
    have hK' := kk.same D _ hK rfl
    clear kk y2 u2 y3 u3 z2 z3 hK
    change bodyPostM _ _ _ _ _ _ _ (((((((W.setCell ⟨w.heap.size + 2, 0, none⟩ (.int .i64 0)).setCell ⟨w.heap.size + 2, 1, none⟩ (.int .i64 0)).setCell ⟨w.heap.size + 2, 2, none⟩ (.int .i64 0)).setCell ⟨w.heap.size + 2, 3, none⟩ (.int .u32 0)).setCell ⟨w.heap.size + 2, 4, none⟩ (.int .i64 0)).setCell ⟨w.heap.size + 2, 5, none⟩ (.int .i64 0)).setCell ⟨w.heap.size + 3, 0, none⟩ (.bool false))
    generalize ((((((W.setCell ⟨w.heap.size + 2, 0, none⟩ (.int .i64 0)).setCell ⟨w.heap.size + 2, 1, none⟩ (.int .i64 0)).setCell ⟨w.heap.size + 2, 2, none⟩ (.int .i64 0)).setCell ⟨w.heap.size + 2, 3, none⟩ (.int .u32 0)).setCell ⟨w.heap.size + 2, 4, none⟩ (.int .i64 0)).setCell ⟨w.heap.size + 2, 5, none⟩ (.int .i64 0)).setCell ⟨w.heap.size + 3, 0, none⟩ (.bool false) = X at *
    refine ⟨by simp, .inl ⟨_, _, rfl, run_takeDeferred hK', ?_⟩⟩
    have k2 := row_kept q2 (grownBy_putObj' _ D (.deferred none)) (fun r e => by cases e; exact ⟨_, hK', rfl⟩)
    have k3 := row_kept q3 (grownBy_putObj' _ D (.deferred none)) (fun r e => by cases e; exact ⟨_, hK', rfl⟩)
    have y2 := k2.cell
    have y3 := k3.cell
    refine ⟨.tuple #[atV at0, .bool false], ?_, by rw [Q4.out]; rfl, hB.trans (belowK_b (w := w) (Nat.le_refl _) X D _ _ (by omega) hK' rfl rfl)⟩
    simp [results, Tryz.f74, Tryz.results74, go_sem, y2, y3]
  case stop =>
    rintro D c pre W hD hpre ⟨⟨rfl, x, hx, q2, q3⟩, hB⟩ hK
    have hx2 := find_pre hpre hx
    have HX := Lib.hid hx2
    clear hx hx2 hpre
    gi_wp2
    refine ⟨by simp, .inl ⟨_, _, rfl, run_takeDeferred hK, ?_⟩⟩
    have k2 := row_kept q2 (grownBy_putObj' _ D (.deferred none)) (fun r e => by cases e; exact ⟨_, hK, rfl⟩)
    have k3 := row_kept q3 (grownBy_putObj' _ D (.deferred none)) (fun r e => by cases e; exact ⟨_, hK, rfl⟩)
    have y2 := k2.cell
    have y3 := k3.cell
    refine ⟨.tuple #[atV x, .bool true], ?_, by rw [HX.out]; rfl, hB.trans (belowK_b (w := w) (Nat.le_refl _) W D _ _ (by omega) hK rfl rfl)⟩
    simp [results, Tryz.f74, Tryz.results74, go_sem, y2, y3]
theorem lended_cZ (k i g : Int) (w : World) (h : LedZ w p) : Ret 29 #[ledP p, oV k i g] w (.tuple #[.int .i64 ((noL.find? qEnd).getD at0).ans, .bool (noL.find? qEnd).isSome]) := by
  have HH := Lib.hid h
  have CF := Lib.hid (fun W (hb : Below w.heap.size w W) => find_endedZ k i g W (h.on hb))
  clear h
  generalize (noL.find? qEnd).getD at0 = x at *
  generalize (noL.find? qEnd).isSome = s at *
  go_enter Tryz.func29, Tryz.ntmps29
  go_wp2_with fail
  have hb := below_alloc w (.cells #[.int .i64 k, .int .i64 i, .int .u32 g] 41)
  generalize w.alloc (.cells #[.int .i64 k, .int .i64 i, .int .u32 g] 41) = V at *
  refine Calls.mono (CF.out V hb) ?_
  rintro e V1 ⟨rfl, hn⟩
  replace hb := chain hb hn
  go_upto_region 2 with fail
  have hn2 := below_alloc V1 (.cells (atC x) 43)
  have r1 := Row.new (W := V1) (cs := atC x) (t := 43)
  replace hb := chain hb hn2
  generalize V1.alloc (.cells (atC x) 43) = V2 at *
  have y1 := r1.cell
  have z1 := r1.lt
  go_wp2_with fail
  go_returns
  exact ⟨rfl, hb⟩
theorem lfirst_cZ (k i g : Int) (w : World) (h : LedZ w p) : Ret 30 #[ledP p, oV k i g] w (.tuple #[atV ((noL.find? qAll).getD at0), .bool (noL.find? qAll).isSome]) := by
  have HH := Lib.hid h
  have CF := Lib.hid (fun W (hb : Below w.heap.size w W) => find_firstZ k i g W (h.on hb))
  clear h
  generalize (noL.find? qAll).getD at0 = x at *
  generalize (noL.find? qAll).isSome = s at *
  go_enter Tryz.func30, Tryz.ntmps30
  go_upto_region 1 with fail
  have hb := below_alloc w (.cells #[.int .i64 k, .int .i64 i, .int .u32 g] 41)
  have r0 := Row.new (W := w) (cs := #[.int .i64 k, .int .i64 i, .int .u32 g]) (t := 41)
  have hs0 : (w.alloc (.cells #[.int .i64 k, .int .i64 i, .int .u32 g] 41)).heap.size = w.heap.size + 1 := by simp
  generalize w.alloc (.cells #[.int .i64 k, .int .i64 i, .int .u32 g] 41) = V at *
  have hn := below_alloc V (.cells (atC at0) 43)
  have r1 := Row.new (W := V) (cs := atC at0) (t := 43)
  rw [hs0] at r1
  replace r0 := r0.on hn
  replace hb := chain hb hn
  simp only [atC, at0] at r1 hn hb r0 ⊢
  generalize V.alloc _ = V1 at *
  clear hn hs0
  have y0 := r0.cell
  have z0 := r0.lt
  go_wp2_with fail
  refine Calls.mono (CF.out V1 hb) ?_
  rintro e V2 ⟨rfl, hn⟩
  replace hb := chain hb hn
  clear y0 z0
  replace r1 := r1.on hn
  have y1 := r1.cell
  have z1 := r1.lt
  have u1 := r1.free
  go_wp2_with fail
  refine bodyPost_ret (v := .tuple #[atV x, .bool s]) (by simp [results, Tryz.results30, go_sem, y1, z1]) rfl ⟨rfl, ?_⟩
  refine Below.setCell ?_ (by simp) _
  refine Below.setCell ?_ (by simp) _
  refine Below.setCell ?_ (by simp) _
  refine Below.setCell ?_ (by simp) _
  refine Below.setCell ?_ (by simp) _
  exact hb.setCell (by simp) _
end
theorem ladd_noZ (a : AtR) (w : World) {p : Nat} (h : LedZ w p) : Ret 32 #[ledP p, atV a] w (.int .i64 1) := by
  have HH := Lib.hid h
  have hc := Below.refl w.heap.size w
  clear h
  go_enter Tryz.func32, Tryz.ntmps32
  go_upto_region 1 with fail
  have r1 := Row.new (W := w) (cs := atC a) (t := 43)
  have hn := below_alloc w (.cells (atC a) 43)
  have HH2 := Lib.hid (HH.out.on hn)
  replace hc := chain hc hn
  clear hn HH
  simp only [atC] at r1 HH2 hc
  generalize w.alloc (.cells #[.int .i64 a.at_, .int .i64 a.k, .int .i64 a.i, .int .u32 a.g, .int .i64 a.why, .int .i64 a.ans] 43) = V at *
  go_wp2_with fail
  refine Calls.mono (llen_no HH2.out.made) ?_
  rintro e W1 ⟨rfl, hw⟩
  subst hw
  go_wp2_with fail
  refine Calls.mono HH2.out.made ?_
  rintro e W2 ⟨rfl, hw⟩
  subst hw
  go_wp2_with fail
  go_returns
  exact ⟨rfl, hc⟩
theorem lcopy_noZ (w : World) {p : Nat} (h : LedZ w p) : Ret 35 #[ledP p] w (.pointer none) := by
  have HH := Lib.hid h
  clear h
  go_enter Tryz.func35, Tryz.ntmps35
  go_wp2_with fail
  refine Calls.mono HH.out.made ?_
  rintro e W1 ⟨rfl, hw⟩
  subst hw
  go_wp2_with fail
  go_returns
  exact ⟨rfl, Below.refl _ _⟩
end Go.Proofs.YtinlfheonlpceaaGreatDoor
