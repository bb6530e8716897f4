/- LedgerNil walked. -/
import Derived.Test.YtinlfheonlpceaaGreatDoorM61a
import Derived.Test.YtinlfheonlpceaaGreatDoorM90a
namespace Go.Proofs.YtinlfheonlpceaaGreatDoor
open Go.RowKit
set_option linter.unusedVariables false
set_option linter.unusedSimpArgs false
set_option maxHeartbeats 40000000
set_option maxRecDepth 20000
theorem firstN (k i g : Int) (W : World) {p : Nat} (h : LedN W p) : Ret 30 #[.pointer none, oV k i g] W (.tuple #[.agg #[.int .i64 0, .int .i64 0, .int .i64 0, .int .u32 0, .int .i64 0, .int .i64 0], .bool false]) := lfirst_cN k i g W h
theorem endedN (k i g : Int) (W : World) {p : Nat} (h : LedN W p) : Ret 29 #[.pointer none, oV k i g] W (.tuple #[.int .i64 0, .bool false]) := lended_cN k i g W h
theorem ofN (k i g : Int) (W : World) {p : Nat} (h : LedN W p) : Calls Tryz.prog 31 #[.pointer none, oV k i g] W fun e w' => (∃ a c, e = .returned (.slice a 0 c)) ∧ Below W.heap.size W w' := by
  refine Calls.mono (lof_cN k i g W h) ?_
  rintro e w' ⟨u, rfl, h1, h2⟩
  obtain ⟨a, c, rfl⟩ := (OwnsA.holds h1).len
  exact ⟨⟨a, c, rfl⟩, h2⟩
theorem firstZ (k i g : Int) (W : World) {p : Nat} (h : LedZ W p) : Ret 30 #[ledP p, oV k i g] W (.tuple #[.agg #[.int .i64 0, .int .i64 0, .int .i64 0, .int .u32 0, .int .i64 0, .int .i64 0], .bool false]) := lfirst_cZ k i g W h
theorem endedZ (k i g : Int) (W : World) {p : Nat} (h : LedZ W p) : Ret 29 #[ledP p, oV k i g] W (.tuple #[.int .i64 0, .bool false]) := lended_cZ k i g W h
theorem ofZ (k i g : Int) (W : World) {p : Nat} (h : LedZ W p) : Calls Tryz.prog 31 #[ledP p, oV k i g] W fun e w' => (∃ a c, e = .returned (.slice a 0 c)) ∧ Below W.heap.size W w' := by
  refine Calls.mono (lof_cZ k i g W h) ?_
  rintro e w' ⟨u, rfl, h1, h2⟩
  obtain ⟨a, c, rfl⟩ := (OwnsA.holds h1).len
  exact ⟨⟨a, c, rfl⟩, h2⟩
theorem nil_walk (a k i g y n : Int) (w : World) (hE : EnvP w) (i0 : 0 ≤ g) (i1 : g ≤ 4294967295) :
    Ret 9 #[.agg #[.int .i64 a, .int .i64 k, .int .i64 i, .int .u32 g, .int .i64 y, .int .i64 n]] w (.bool true) := by
  have HE := Lib.hid hE
  have hc := Below.refl w.heap.size w
  have qz := neq_at at0 at0
  rw [decide_eq_true rfl] at qz
  have QZ := Lib.hid qz
  clear hE qz i0 i1
  go_enter Tryz.func9, Tryz.ntmps9
  go_upto_region 1 with fail
  have rx := Row.new (W := w) (cs := #[.int .i64 a, .int .i64 k, .int .i64 i, .int .u32 g, .int .i64 y, .int .i64 n]) (t := 43)
  have hn := below_alloc w (.cells #[.int .i64 a, .int .i64 k, .int .i64 i, .int .u32 g, .int .i64 y, .int .i64 n] 43)
  have wrx : w.heap.size ≤ w.heap.size := hc.size
  replace hc := chain hc hn
  clear hn
  generalize w.alloc (.cells #[.int .i64 a, .int .i64 k, .int .i64 i, .int .u32 g, .int .i64 y, .int .i64 n] 43) = V1 at rx hc ⊢
  have yrx := rx.cell
  have zrx := rx.lt
  go_upto_region 3 with fail
  clear yrx zrx
  have hs2 : ∀ X : World, X = V1.alloc (.cells #[.slice none 0 0, .map none] 69) → X.heap.size = V1.heap.size + 1 := by rintro X rfl; simp
  obtain ⟨X2, hX2⟩ : ∃ X, X = V1.alloc (.cells #[.slice none 0 0, .map none] 69) := ⟨_, rfl⟩
  replace hs2 := hs2 _ hX2
  rw [← hX2]
  have rz := Row.new (W := V1) (cs := #[.slice none 0 0, .map none]) (t := 69)
  have hn := below_alloc V1 (.cells #[.slice none 0 0, .map none] 69)
  rw [← hX2] at rz hn
  clear hX2
  replace rx := rx.on hn
  replace hc := chain hc hn
  clear hn
  have ra := Row.new (W := X2) (cs := #[.pointer none, ledP V1.heap.size]) (t := 48)
  have hn := below_alloc X2 (.cells #[.pointer none, ledP V1.heap.size] 48)
  rw [hs2] at ra
  replace rx := rx.on hn
  replace rz := rz.on hn
  replace hc := chain hc hn
  clear hn
  generalize X2.alloc (.cells #[.pointer none, ledP V1.heap.size] 48) = V3 at *
  generalize V1.heap.size = bZ at *
  clear hs2
  refine wp_loop_rounds 3 ?_
  rw [rounds_succ]
  have yrx := rx.cell
  have zrx := rx.lt
  have yrz := rz.cell
  have zrz := rz.lt
  have yra := ra.cell
  have zra := ra.lt
  go_wp2_with fail
  refine Calls.mono (firstN k i g _ (⟨trivial⟩ : LedN _ 0)) ?_
  rintro e V4 ⟨rfl, hn⟩
  clear yrx yrz yra zrx zrz zra
  replace rx := rx.on hn
  replace rz := rz.on hn
  replace ra := ra.on hn
  replace hc := chain hc hn
  clear hn
  have yrx := rx.cell
  have zrx := rx.lt
  have yrz := rz.cell
  have zrz := rz.lt
  have yra := ra.cell
  have zra := ra.lt
  go_upto_region 6 with fail
  clear yrx yrz yra zrx zrz zra
  have r6 := Row.new (W := V4) (cs := #[.int .i64 0, .int .i64 0, .int .i64 0, .int .u32 0, .int .i64 0, .int .i64 0]) (t := 43)
  have hn := below_alloc V4 (.cells #[.int .i64 0, .int .i64 0, .int .i64 0, .int .u32 0, .int .i64 0, .int .i64 0] 43)
  have nrx_r6 : w.heap.size ≠ V4.heap.size := Nat.ne_of_lt rx.lt
  have wr6 : w.heap.size ≤ V4.heap.size := hc.size
  replace rx := rx.on hn
  replace rz := rz.on hn
  replace ra := ra.on hn
  replace hc := chain hc hn
  clear hn
  generalize V4.alloc (.cells #[.int .i64 0, .int .i64 0, .int .i64 0, .int .u32 0, .int .i64 0, .int .i64 0] 43) = V5 at rx rz ra r6 hc ⊢
  generalize V4.heap.size = b6N at *
  have yrx := rx.cell
  have zrx := rx.lt
  have yrz := rz.cell
  have zrz := rz.lt
  have yra := ra.cell
  have zra := ra.lt
  have yr6 := r6.cell
  have zr6 := r6.lt
  go_wp2_with fail
  refine Calls.mono (endedN k i g _ (⟨trivial⟩ : LedN _ 0)) ?_
  rintro e V6 ⟨rfl, hn⟩
  clear yrx yrz yra yr6 zrx zrz zra zr6
  replace rx := rx.on hn
  replace rz := rz.on hn
  replace ra := ra.on hn
  replace r6 := r6.on hn
  replace hc := chain hc hn
  clear hn
  have yrx := rx.cell
  have zrx := rx.lt
  have yrz := rz.cell
  have zrz := rz.lt
  have yra := ra.cell
  have zra := ra.lt
  have yr6 := r6.cell
  have zr6 := r6.lt
  go_wp2_with fail
  refine Calls.mono (ladd_noN ⟨a, k, i, g, y, n⟩ _ (⟨trivial⟩ : LedN _ 0)) ?_
  rintro e V7 ⟨rfl, hn⟩
  clear yrx yrz yra yr6 zrx zrz zra zr6
  replace rx := rx.on hn
  replace rz := rz.on hn
  replace ra := ra.on hn
  replace r6 := r6.on hn
  replace hc := chain hc hn
  clear hn
  have yrx := rx.cell
  have zrx := rx.lt
  have yrz := rz.cell
  have zrz := rz.lt
  have yra := ra.cell
  have zra := ra.lt
  have yr6 := r6.cell
  have zr6 := r6.lt
  go_wp2_with fail
  refine Calls.mono (lall_no (LedN.made (⟨trivial⟩ : LedN _ 0))) ?_
  rintro e X ⟨rfl, hw⟩
  subst hw
  clear yrx yrz yra yr6 zrx zrz zra zr6
  have yrx := rx.cell
  have zrx := rx.lt
  have yrz := rz.cell
  have zrz := rz.lt
  have yra := ra.cell
  have zra := ra.lt
  have yr6 := r6.cell
  have zr6 := r6.lt
  go_wp2_with fail
  refine Calls.mono (ofN k i g _ (⟨trivial⟩ : LedN _ 0)) ?_
  rintro e V8 ⟨⟨a9, c9, rfl⟩, hn⟩
  clear yrx yrz yra yr6 zrx zrz zra zr6
  replace rx := rx.on hn
  replace rz := rz.on hn
  replace ra := ra.on hn
  replace r6 := r6.on hn
  replace hc := chain hc hn
  clear hn
  have qz := QZ.out
  have yrx := rx.cell
  have zrx := rx.lt
  have yrz := rz.cell
  have zrz := rz.lt
  have yra := ra.cell
  have zra := ra.lt
  have yr6 := r6.cell
  have zr6 := r6.lt
  go_wp2_with fail
  refine Calls.mono (llen_no (LedN.made (⟨trivial⟩ : LedN _ 0))) ?_
  rintro e X ⟨rfl, hw⟩
  subst hw
  clear yrx yrz yra yr6 zrx zrz zra zr6
  clear qz
  have yrx := rx.cell
  have zrx := rx.lt
  have yrz := rz.cell
  have zrz := rz.lt
  have yra := ra.cell
  have zra := ra.lt
  have yr6 := r6.cell
  have zr6 := r6.lt
  go_wp2_with fail
  refine Calls.mono (lcopy_noN _ (⟨trivial⟩ : LedN _ 0)) ?_
  rintro e V9 ⟨rfl, hn⟩
  clear yrx yrz yra yr6 zrx zrz zra zr6
  replace rx := rx.on hn
  replace rz := rz.on hn
  replace ra := ra.on hn
  replace r6 := r6.on hn
  replace hc := chain hc hn
  clear hn
  have yrx := rx.cell
  have zrx := rx.lt
  have yrz := rz.cell
  have zrz := rz.lt
  have yra := ra.cell
  have zra := ra.lt
  have yr6 := r6.cell
  have zr6 := r6.lt
  go_wp2_with fail
  clear yrx yrz yra yr6 zrx zrz zra zr6
  clear r6
  rw [rounds_succ]
  have yrx := rx.cell
  have zrx := rx.lt
  have yrz := rz.cell
  have zrz := rz.lt
  have yra := ra.cell
  have zra := ra.lt
  go_wp2_with fail
  refine Calls.mono (firstZ k i g _ (⟨rz⟩ : LedZ _ bZ)) ?_
  rintro e V10 ⟨rfl, hn⟩
  clear yrx yrz yra zrx zrz zra
  replace rx := rx.on hn
  replace rz := rz.on hn
  replace ra := ra.on hn
  replace hc := chain hc hn
  clear hn
  have yrx := rx.cell
  have zrx := rx.lt
  have yrz := rz.cell
  have zrz := rz.lt
  have yra := ra.cell
  have zra := ra.lt
  go_upto_region 6 with fail
  clear yrx yrz yra zrx zrz zra
  have r6 := Row.new (W := V10) (cs := #[.int .i64 0, .int .i64 0, .int .i64 0, .int .u32 0, .int .i64 0, .int .i64 0]) (t := 43)
  have hn := below_alloc V10 (.cells #[.int .i64 0, .int .i64 0, .int .i64 0, .int .u32 0, .int .i64 0, .int .i64 0] 43)
  have nrx_r6 : w.heap.size ≠ V10.heap.size := Nat.ne_of_lt rx.lt
  have wr6 : w.heap.size ≤ V10.heap.size := hc.size
  replace rx := rx.on hn
  replace rz := rz.on hn
  replace ra := ra.on hn
  replace hc := chain hc hn
  clear hn
  generalize V10.alloc (.cells #[.int .i64 0, .int .i64 0, .int .i64 0, .int .u32 0, .int .i64 0, .int .i64 0] 43) = V11 at rx rz ra r6 hc ⊢
  generalize V10.heap.size = b6Z at *
  have yrx := rx.cell
  have zrx := rx.lt
  have yrz := rz.cell
  have zrz := rz.lt
  have yra := ra.cell
  have zra := ra.lt
  have yr6 := r6.cell
  have zr6 := r6.lt
  go_wp2_with fail
  refine Calls.mono (endedZ k i g _ (⟨rz⟩ : LedZ _ bZ)) ?_
  rintro e V12 ⟨rfl, hn⟩
  clear yrx yrz yra yr6 zrx zrz zra zr6
  replace rx := rx.on hn
  replace rz := rz.on hn
  replace ra := ra.on hn
  replace r6 := r6.on hn
  replace hc := chain hc hn
  clear hn
  have yrx := rx.cell
  have zrx := rx.lt
  have yrz := rz.cell
  have zrz := rz.lt
  have yra := ra.cell
  have zra := ra.lt
  have yr6 := r6.cell
  have zr6 := r6.lt
  go_wp2_with fail
  refine Calls.mono (ladd_noZ ⟨a, k, i, g, y, n⟩ _ (⟨rz⟩ : LedZ _ bZ)) ?_
  rintro e V13 ⟨rfl, hn⟩
  clear yrx yrz yra yr6 zrx zrz zra zr6
  replace rx := rx.on hn
  replace rz := rz.on hn
  replace ra := ra.on hn
  replace r6 := r6.on hn
  replace hc := chain hc hn
  clear hn
  have yrx := rx.cell
  have zrx := rx.lt
  have yrz := rz.cell
  have zrz := rz.lt
  have yra := ra.cell
  have zra := ra.lt
  have yr6 := r6.cell
  have zr6 := r6.lt
  go_wp2_with fail
  refine Calls.mono (lall_no (LedZ.made (⟨rz⟩ : LedZ _ bZ))) ?_
  rintro e X ⟨rfl, hw⟩
  subst hw
  clear yrx yrz yra yr6 zrx zrz zra zr6
  have yrx := rx.cell
  have zrx := rx.lt
  have yrz := rz.cell
  have zrz := rz.lt
  have yra := ra.cell
  have zra := ra.lt
  have yr6 := r6.cell
  have zr6 := r6.lt
  go_wp2_with fail
  refine Calls.mono (ofZ k i g _ (⟨rz⟩ : LedZ _ bZ)) ?_
  rintro e V14 ⟨⟨a9, c9, rfl⟩, hn⟩
  clear yrx yrz yra yr6 zrx zrz zra zr6
  replace rx := rx.on hn
  replace rz := rz.on hn
  replace ra := ra.on hn
  replace r6 := r6.on hn
  replace hc := chain hc hn
  clear hn
  have qz := QZ.out
  have yrx := rx.cell
  have zrx := rx.lt
  have yrz := rz.cell
  have zrz := rz.lt
  have yra := ra.cell
  have zra := ra.lt
  have yr6 := r6.cell
  have zr6 := r6.lt
  go_wp2_with fail
  refine Calls.mono (llen_no (LedZ.made (⟨rz⟩ : LedZ _ bZ))) ?_
  rintro e X ⟨rfl, hw⟩
  subst hw
  clear yrx yrz yra yr6 zrx zrz zra zr6
  clear qz
  have yrx := rx.cell
  have zrx := rx.lt
  have yrz := rz.cell
  have zrz := rz.lt
  have yra := ra.cell
  have zra := ra.lt
  have yr6 := r6.cell
  have zr6 := r6.lt
  go_wp2_with fail
  refine Calls.mono (lcopy_noZ _ (⟨rz⟩ : LedZ _ bZ)) ?_
  rintro e V15 ⟨rfl, hn⟩
  clear yrx yrz yra yr6 zrx zrz zra zr6
  replace rx := rx.on hn
  replace rz := rz.on hn
  replace ra := ra.on hn
  replace r6 := r6.on hn
  replace hc := chain hc hn
  clear hn
  have yrx := rx.cell
  have zrx := rx.lt
  have yrz := rz.cell
  have zrz := rz.lt
  have yra := ra.cell
  have zra := ra.lt
  have yr6 := r6.cell
  have zr6 := r6.lt
  go_wp2_with fail
  clear yrx yrz yra yr6 zrx zrz zra zr6
  clear r6
  rw [rounds_succ]
  go_wp2_with fail
  refine Calls.mono (works _ (HE.out.on hc)) ?_
  rintro e V16 ⟨rfl, hn⟩
  replace hc := chain hc hn
  clear hn
  go_wp2_with fail
  go_returns
  exact ⟨rfl, hc⟩
end Go.Proofs.YtinlfheonlpceaaGreatDoor
