/- A valid operation out of numbers: the contract of Made. -/
import Derived.Test.YtbbleafcflhmiaaGreatDoorL0b
import Derived.Test.YtbbleafcflhmiaaGreatDoorL2a
namespace Go.Proofs.YtbbleafcflhmiaaGreatDoor
open Go.RowKit
set_option linter.unusedVariables false
set_option linter.unusedSimpArgs false
set_option maxHeartbeats 16000000
set_option maxRecDepth 20000
theorem tm (a n : Int) (h0 : 0 ≤ a) (hn : 0 < n) : 0 ≤ a % n ∧ a % n < n := ⟨Int.emod_nonneg a (by omega), Int.emod_lt_of_pos a hn⟩
theorem w64 (n : Int) (h : -1 ≤ n) (h2 : n ≤ 9000000000000000000) : wrap64 n = n := IntWalk.wrap64_in n ⟨by omega, by omega⟩
theorem rep_z (w : World) : Ret 26 #[.string ⟨#[122]⟩, .int .i64 24] w (.string ⟨#[122, 122, 122, 122, 122, 122, 122, 122, 122, 122, 122, 122, 122, 122, 122, 122, 122, 122, 122, 122, 122, 122, 122, 122]⟩) :=
  Tryz.strings_Repeat ⟨#[122]⟩ 24 w (by decide) (by decide)
theorem rep_olf (n : Nat) (hn : n ≤ 33) (w : World) : Ret 26 #[.string ⟨#[111, 108, 102]⟩, .int .i64 n] w (.string ⟨(Lib.repeatL [111, 108, 102] n).toArray⟩) :=
  Tryz.strings_Repeat ⟨#[111, 108, 102]⟩ n w (by omega) (by show 3 * n ≤ _; omega)
theorem ans_rep (n : Nat) (h1 : 1 ≤ n) (h2 : n ≤ 33) : ansOk (Lib.repeatL [111, 108, 102] n) = true := by
  have hl : (Lib.repeatL [111, 108, 102] n).length = n * 3 := Lib.repeatL_length _ n
  have ha : ∀ n, (Lib.repeatL [111, 108, 102] n).all olf = true := fun n => by
    induction n with
    | zero => rfl
    | succ n ih =>
      show (([111, 108, 102] : List UInt8) ++ Lib.repeatL [111, 108, 102] n).all olf = true
      rw [List.all_append, ih]
      rfl
  unfold ansOk
  rw [ha, hl, decide_eq_true (show 1 ≤ n * 3 by omega), decide_eq_true (show n * 3 ≤ 100 by omega)]
  rfl
def MadeP (w : World) (e : Ending) (w' : World) : Prop := (∃ p : OpR, e = .returned (opRV p) ∧ okR p = true) ∧ Below w.heap.size w w'
theorem made_1 (k m t a b c : Int) (w : World) (hk : k % 17 = 0) (k0 : 0 ≤ k) (k1 : k ≤ 255) (m0 : 0 ≤ m) (m1 : m ≤ 255) (t0 : 0 ≤ t) (t1 : t ≤ 255) (a0 : 0 ≤ a) (a1 : a ≤ 4294967295) (b0 : 0 ≤ b) (b1 : b ≤ 4294967295) (c0 : 0 ≤ c) (c1 : c ≤ 4294967295) :
    Calls Tryz.prog 9 #[.agg #[.int .u8 k, .int .u8 m, .int .u8 t, .int .u32 a, .int .u32 b, .int .u32 c]] w (MadeP w) := by
  have hc := Below.refl w.heap.size w
  have q1 : IntKind.i64.wrap k = k := IntWalk.i64_in _ ⟨by omega, by omega⟩
  have q2 : IntKind.i64.wrap m = m := IntWalk.i64_in _ ⟨by omega, by omega⟩
  have q3 : IntKind.i64.wrap a = a := IntWalk.i64_in _ ⟨by omega, by omega⟩
  have q4 : IntKind.i64.wrap b = b := IntWalk.i64_in _ ⟨by omega, by omega⟩
  have q5 : IntKind.i64.wrap c = c := IntWalk.i64_in _ ⟨by omega, by omega⟩
  have q6 : IntKind.i64.wrap t = t := IntWalk.i64_in _ ⟨by omega, by omega⟩
  obtain ⟨ga5, la5⟩ := tm a 5 a0 (by decide)
  obtain ⟨gm, lm⟩ := tm m 4 m0 (by decide)
  go_enter Tryz.func9, Tryz.ntmps9
  go_upto_region 1 with fail
  have r1 := Row.new (W := w) (cs := #[.int .u8 k, .int .u8 m, .int .u8 t, .int .u32 a, .int .u32 b, .int .u32 c]) (t := 24)
  have hn := below_alloc w (.cells #[.int .u8 k, .int .u8 m, .int .u8 t, .int .u32 a, .int .u32 b, .int .u32 c] 24)
  replace hc := chain hc hn
  have hz1 : (w.alloc (.cells #[.int .u8 k, .int .u8 m, .int .u8 t, .int .u32 a, .int .u32 b, .int .u32 c] 24)).heap.size = w.heap.size + 1 := by simp
  clear hn
  generalize w.alloc (.cells #[.int .u8 k, .int .u8 m, .int .u8 t, .int .u32 a, .int .u32 b, .int .u32 c] 24) = V1 at r1 hc hz1 ⊢
  have r2 := Row.new (W := V1) (cs := #[.int .i64 0, .int .i64 0, .int .i64 0, .int .i64 0, .int .i64 0, .string ⟨#[]⟩]) (t := 31)
  have hn := below_alloc V1 (.cells #[.int .i64 0, .int .i64 0, .int .i64 0, .int .i64 0, .int .i64 0, .string ⟨#[]⟩] 31)
  replace r1 := r1.on hn
  replace hc := chain hc hn
  rw [hz1] at r2
  clear hn hz1
  generalize V1.alloc (.cells #[.int .i64 0, .int .i64 0, .int .i64 0, .int .i64 0, .int .i64 0, .string ⟨#[]⟩] 31) = V2 at r1 r2 hc ⊢
  have nr1_r2 : w.heap.size ≠ w.heap.size + 1 := by omega
  have wr2 : w.heap.size ≤ w.heap.size + 1 := by omega
  have wr1 : w.heap.size ≤ w.heap.size := Nat.le_refl _
  have yr1 := r1.cell
  have zr1 := r1.lt
  have yr2 := r2.cell
  have zr2 := r2.lt
  go_upto_region 2 with fail
  clear yr1 yr2 zr1 zr2
  have r3 := Row.new (W := V2) (cs := #[.int .i64 1, .int .i64 0, .int .i64 0, .int .i64 0, .int .i64 0, .string ⟨#[]⟩]) (t := 31)
  have hn := below_alloc V2 (.cells #[.int .i64 1, .int .i64 0, .int .i64 0, .int .i64 0, .int .i64 0, .string ⟨#[]⟩] 31)
  have nr1_r3 : w.heap.size ≠ V2.heap.size := Nat.ne_of_lt r1.lt
  have nr2_r3 : w.heap.size + 1 ≠ V2.heap.size := Nat.ne_of_lt r2.lt
  have wr3 : w.heap.size ≤ V2.heap.size := hc.size
  replace r1 := r1.on hn
  replace r2 := r2.on hn
  replace hc := chain hc hn
  clear hn
  generalize V2.alloc (.cells #[.int .i64 1, .int .i64 0, .int .i64 0, .int .i64 0, .int .i64 0, .string ⟨#[]⟩] 31) = V3 at r1 r2 r3 hc ⊢
  generalize V2.heap.size = b3 at *
  have yr1 := r1.cell
  have zr1 := r1.lt
  have yr2 := r2.cell
  have zr2 := r2.lt
  have yr3 := r3.cell
  have zr3 := r3.lt
  have ur3 := r3.free
  go_upto_region 4 with fail
  clear yr1 yr2 yr3 zr1 zr2 zr3 ur3
  replace r1 := (r1.other nr1_r3.symm 1 (.int .i64 (m % 4)))
  replace r2 := (r2.other nr2_r3.symm 1 (.int .i64 (m % 4)))
  replace r3 := (r3.set 1 (.int .i64 (m % 4)))
  simp only [List.setIfInBounds_toArray, List.set_cons_zero, List.set_cons_succ] at r3
  replace hc := (hc.setCell (p := ⟨b3, 1, none⟩) wr3 (.int .i64 (m % 4)))
  generalize hW : World.setCell _ _ _ = V4 at *
  clear hW
  refine wp_region_held_drew (S := fun W' => (∀ j, W'.cell? ⟨w.heap.size, j, none⟩ = (#[.int .u8 k, .int .u8 m, .int .u8 t, .int .u32 a, .int .u32 b, .int .u32 c] : Array Value)[j]?)) (by kernel_rfl) r1.cell (fun hHeld => ?_)
  replace r1 := r1.drew
  replace r2 := r2.drew
  replace r3 := r3.drew
  replace hc := hc.drew
  generalize V4.drew = X0 at *
  refine' wpAnyH_take (i := 0) (oi := _) (v := _) ?_ (by kernel_rfl) (by kernel_rfl) (by kernel_rfl) ?_ (Or.inl ⟨?_, ?_⟩) (by assumption) ?_
  rotate_left 2
  · (simp only [List.getElem?_toArray, List.getElem?_cons_succ, List.getElem?_cons_zero]; rfl)
  · first | exact fun _ _ _ h => h | exact fun _ _ _ h => nomatch h.1
  · rfl
  · (intro W hSW; (try dsimp only at hSW); go_split_ands; first | (go_simp; done) | (go_simp; with_reducible rfl))
  try simp only [Act.put, List.setIfInBounds_toArray, List.set_cons_zero, List.set_cons_succ]
  refine' wpAnyH_take (i := 1) (oi := _) (v := _) ?_ (by kernel_rfl) (by kernel_rfl) (by kernel_rfl) ?_ (Or.inl ⟨?_, ?_⟩) (by assumption) ?_
  rotate_left 2
  · (simp only [List.getElem?_toArray, List.getElem?_cons_succ, List.getElem?_cons_zero]; rfl)
  · first | exact fun _ _ _ h => h | exact fun _ _ _ h => nomatch h.1
  · rfl
  · (intro W hSW; (try dsimp only at hSW); go_split_ands; first | (go_simp; done) | (go_simp; with_reducible rfl))
  try simp only [Act.put, List.setIfInBounds_toArray, List.set_cons_zero, List.set_cons_succ]
  refine' wpAnyH_take (i := 2) (oi := _) (v := _) ?_ (by kernel_rfl) (by kernel_rfl) (by kernel_rfl) ?_ (Or.inl ⟨?_, ?_⟩) (by assumption) ?_
  rotate_left 2
  · (simp only [List.getElem?_toArray, List.getElem?_cons_succ, List.getElem?_cons_zero]; rfl)
  · first | exact fun _ _ _ h => h | exact fun _ _ _ h => nomatch h.1
  · rfl
  · (intro W hSW; (try dsimp only at hSW); go_split_ands; first | (go_simp; done) | (go_simp; with_reducible rfl))
  try simp only [Act.put, List.setIfInBounds_toArray, List.set_cons_zero, List.set_cons_succ]
  refine' wpAnyH_take (i := 3) (oi := _) (v := _) ?_ (by kernel_rfl) (by kernel_rfl) (by kernel_rfl) ?_ (Or.inl ⟨?_, ?_⟩) (by assumption) ?_
  rotate_left 2
  · (simp only [List.getElem?_toArray, List.getElem?_cons_succ, List.getElem?_cons_zero]; rfl)
  · first | exact fun _ _ _ h => h | exact fun _ _ _ h => nomatch h.1
  · rfl
  · (intro W hSW; (try dsimp only at hSW); go_split_ands; first | (go_simp; done) | (go_simp; with_reducible rfl))
  try simp only [Act.put, List.setIfInBounds_toArray, List.set_cons_zero, List.set_cons_succ]
  refine' wpAnyH_take (i := 4) (oi := _) (v := _) ?_ (by kernel_rfl) (by kernel_rfl) (by kernel_rfl) ?_ (Or.inl ⟨?_, ?_⟩) (by assumption) ?_
  rotate_left 2
  · (simp only [List.getElem?_toArray, List.getElem?_cons_succ, List.getElem?_cons_zero]; rfl)
  · first | exact fun _ _ _ h => h | exact fun _ _ _ h => nomatch h.1
  · rfl
  · (intro W hSW; (try dsimp only at hSW); go_split_ands; first | (go_simp; done) | (go_simp; with_reducible rfl))
  try simp only [Act.put, List.setIfInBounds_toArray, List.set_cons_zero, List.set_cons_succ]
  refine' wpAnyH_take (i := 5) (oi := _) (v := _) ?_ (by kernel_rfl) (by kernel_rfl) (by kernel_rfl) ?_ (Or.inl ⟨?_, ?_⟩) (by assumption) ?_
  rotate_left 2
  · (simp only [List.getElem?_toArray, List.getElem?_cons_succ, List.getElem?_cons_zero]; rfl)
  · first | exact fun _ _ _ h => h | exact fun _ _ _ h => nomatch h.1
  · rfl
  · (intro W hSW; (try dsimp only at hSW); go_split_ands; first | (go_simp; done) | (go_simp; with_reducible rfl))
  try simp only [Act.put, List.setIfInBounds_toArray, List.set_cons_zero, List.set_cons_succ]
  refine' wpAnyH_take (i := 6) (oi := _) (v := _) ?_ (by kernel_rfl) (by kernel_rfl) (by kernel_rfl) ?_ (Or.inl ⟨?_, ?_⟩) (by assumption) ?_
  rotate_left 2
  · (simp only [List.getElem?_toArray, List.getElem?_cons_succ, List.getElem?_cons_zero]; rfl)
  · first | exact fun _ _ _ h => h | exact fun _ _ _ h => nomatch h.1
  · rfl
  · (intro W hSW; (try dsimp only at hSW); go_split_ands; first | (go_simp; done) | (go_simp; with_reducible rfl))
  try simp only [Act.put, List.setIfInBounds_toArray, List.set_cons_zero, List.set_cons_succ]
  refine' wpAnyH_take (i := 7) (oi := _) (v := _) ?_ (by kernel_rfl) (by kernel_rfl) (by kernel_rfl) ?_ (Or.inl ⟨?_, ?_⟩) (by assumption) ?_
  rotate_left 2
  · (simp only [List.getElem?_toArray, List.getElem?_cons_succ, List.getElem?_cons_zero]; rfl)
  · first | exact fun _ _ _ h => h | exact fun _ _ _ h => nomatch h.1
  · rfl
  · (intro W hSW; (try dsimp only at hSW); go_split_ands; first | (go_simp; done) | (go_simp; with_reducible rfl))
  try simp only [Act.put, List.setIfInBounds_toArray, List.set_cons_zero, List.set_cons_succ]
  clear hHeld
  refine wpAnyH_done (by kernel_rfl) ?_ _
  have yr1 := r1.cell
  have zr1 := r1.lt
  have yr2 := r2.cell
  have zr2 := r2.lt
  have yr3 := r3.cell
  have zr3 := r3.lt
  have ur3 := r3.free
  go_upto_region 32 with fail
  clear yr1 yr2 yr3 zr1 zr2 zr3 ur3
  replace r1 := (r1.other nr1_r3.symm 2 (.int .i64 (a % 5)))
  replace r2 := (r2.other nr2_r3.symm 2 (.int .i64 (a % 5)))
  replace r3 := (r3.set 2 (.int .i64 (a % 5)))
  simp only [List.setIfInBounds_toArray, List.set_cons_zero, List.set_cons_succ] at r3
  replace hc := (hc.setCell (p := ⟨b3, 2, none⟩) wr3 (.int .i64 (a % 5)))
  generalize hW : World.setCell _ _ _ = V5 at *
  clear hW
  have yr1 := r1.cell
  have zr1 := r1.lt
  have yr2 := r2.cell
  have zr2 := r2.lt
  have yr3 := r3.cell
  have zr3 := r3.lt
  have ur2 := r2.free
  go_wp2_with fail
  clear yr1 yr2 yr3 zr1 zr2 zr3 ur2
  replace r2 := r2.set 0 (.int .i64 1)
  replace r2 := r2.set 1 (.int .i64 (m % 4))
  replace r2 := r2.set 2 (.int .i64 (a % 5))
  replace r2 := r2.set 3 (.int .i64 0)
  replace r2 := r2.set 4 (.int .i64 0)
  replace r2 := r2.set 5 (.string ⟨#[]⟩)
  replace hc := hc.setCell (p := ⟨w.heap.size + 1, 0, none⟩) wr2 (.int .i64 1)
  replace hc := hc.setCell (p := ⟨w.heap.size + 1, 1, none⟩) wr2 (.int .i64 (m % 4))
  replace hc := hc.setCell (p := ⟨w.heap.size + 1, 2, none⟩) wr2 (.int .i64 (a % 5))
  replace hc := hc.setCell (p := ⟨w.heap.size + 1, 3, none⟩) wr2 (.int .i64 0)
  replace hc := hc.setCell (p := ⟨w.heap.size + 1, 4, none⟩) wr2 (.int .i64 0)
  replace hc := hc.setCell (p := ⟨w.heap.size + 1, 5, none⟩) wr2 (.string ⟨#[]⟩)
  simp only [List.setIfInBounds_toArray, List.set_cons_zero, List.set_cons_succ] at r2
  generalize hW : World.setCell _ _ _ = Z9 at *
  clear hW
  have z9 := r2.cell
  refine bodyPost_ret (v := opRV (1, ⟨(m % 4), (a % 5), 0, 0, ⟨#[]⟩⟩)) (by simp [results, Tryz.results9, go_sem, z9]) rfl ⟨⟨_, rfl, ?_⟩, hc⟩
  unfold okR
  rw [opOk_iff]
  simp (decide := true) only [mHi, aLo, aHi, bLo, bHi, cLo, cHi, tgOk]
  simp; omega
theorem made_2 (k m t a b c : Int) (w : World) (hk : k % 17 = 1) (k0 : 0 ≤ k) (k1 : k ≤ 255) (m0 : 0 ≤ m) (m1 : m ≤ 255) (t0 : 0 ≤ t) (t1 : t ≤ 255) (a0 : 0 ≤ a) (a1 : a ≤ 4294967295) (b0 : 0 ≤ b) (b1 : b ≤ 4294967295) (c0 : 0 ≤ c) (c1 : c ≤ 4294967295) :
    Calls Tryz.prog 9 #[.agg #[.int .u8 k, .int .u8 m, .int .u8 t, .int .u32 a, .int .u32 b, .int .u32 c]] w (MadeP w) := by
  have hc := Below.refl w.heap.size w
  have q1 : IntKind.i64.wrap k = k := IntWalk.i64_in _ ⟨by omega, by omega⟩
  have q2 : IntKind.i64.wrap m = m := IntWalk.i64_in _ ⟨by omega, by omega⟩
  have q3 : IntKind.i64.wrap a = a := IntWalk.i64_in _ ⟨by omega, by omega⟩
  have q4 : IntKind.i64.wrap b = b := IntWalk.i64_in _ ⟨by omega, by omega⟩
  have q5 : IntKind.i64.wrap c = c := IntWalk.i64_in _ ⟨by omega, by omega⟩
  have q6 : IntKind.i64.wrap t = t := IntWalk.i64_in _ ⟨by omega, by omega⟩
  obtain ⟨ga32, la32⟩ := tm a 32 a0 (by decide)
  obtain ⟨gb4, lb4⟩ := tm b 4 b0 (by decide)
  obtain ⟨gm, lm⟩ := tm m 4 m0 (by decide)
  go_enter Tryz.func9, Tryz.ntmps9
  go_upto_region 1 with fail
  have r1 := Row.new (W := w) (cs := #[.int .u8 k, .int .u8 m, .int .u8 t, .int .u32 a, .int .u32 b, .int .u32 c]) (t := 24)
  have hn := below_alloc w (.cells #[.int .u8 k, .int .u8 m, .int .u8 t, .int .u32 a, .int .u32 b, .int .u32 c] 24)
  replace hc := chain hc hn
  have hz1 : (w.alloc (.cells #[.int .u8 k, .int .u8 m, .int .u8 t, .int .u32 a, .int .u32 b, .int .u32 c] 24)).heap.size = w.heap.size + 1 := by simp
  clear hn
  generalize w.alloc (.cells #[.int .u8 k, .int .u8 m, .int .u8 t, .int .u32 a, .int .u32 b, .int .u32 c] 24) = V1 at r1 hc hz1 ⊢
  have r2 := Row.new (W := V1) (cs := #[.int .i64 0, .int .i64 0, .int .i64 0, .int .i64 0, .int .i64 0, .string ⟨#[]⟩]) (t := 31)
  have hn := below_alloc V1 (.cells #[.int .i64 0, .int .i64 0, .int .i64 0, .int .i64 0, .int .i64 0, .string ⟨#[]⟩] 31)
  replace r1 := r1.on hn
  replace hc := chain hc hn
  rw [hz1] at r2
  clear hn hz1
  generalize V1.alloc (.cells #[.int .i64 0, .int .i64 0, .int .i64 0, .int .i64 0, .int .i64 0, .string ⟨#[]⟩] 31) = V2 at r1 r2 hc ⊢
  have nr1_r2 : w.heap.size ≠ w.heap.size + 1 := by omega
  have wr2 : w.heap.size ≤ w.heap.size + 1 := by omega
  have wr1 : w.heap.size ≤ w.heap.size := Nat.le_refl _
  have yr1 := r1.cell
  have zr1 := r1.lt
  have yr2 := r2.cell
  have zr2 := r2.lt
  go_upto_region 2 with fail
  clear yr1 yr2 zr1 zr2
  have r3 := Row.new (W := V2) (cs := #[.int .i64 2, .int .i64 0, .int .i64 0, .int .i64 0, .int .i64 0, .string ⟨#[]⟩]) (t := 31)
  have hn := below_alloc V2 (.cells #[.int .i64 2, .int .i64 0, .int .i64 0, .int .i64 0, .int .i64 0, .string ⟨#[]⟩] 31)
  have nr1_r3 : w.heap.size ≠ V2.heap.size := Nat.ne_of_lt r1.lt
  have nr2_r3 : w.heap.size + 1 ≠ V2.heap.size := Nat.ne_of_lt r2.lt
  have wr3 : w.heap.size ≤ V2.heap.size := hc.size
  replace r1 := r1.on hn
  replace r2 := r2.on hn
  replace hc := chain hc hn
  clear hn
  generalize V2.alloc (.cells #[.int .i64 2, .int .i64 0, .int .i64 0, .int .i64 0, .int .i64 0, .string ⟨#[]⟩] 31) = V3 at r1 r2 r3 hc ⊢
  generalize V2.heap.size = b3 at *
  have yr1 := r1.cell
  have zr1 := r1.lt
  have yr2 := r2.cell
  have zr2 := r2.lt
  have yr3 := r3.cell
  have zr3 := r3.lt
  have ur3 := r3.free
  go_upto_region 4 with fail
  clear yr1 yr2 yr3 zr1 zr2 zr3 ur3
  replace r1 := (r1.other nr1_r3.symm 1 (.int .i64 (m % 4)))
  replace r2 := (r2.other nr2_r3.symm 1 (.int .i64 (m % 4)))
  replace r3 := (r3.set 1 (.int .i64 (m % 4)))
  simp only [List.setIfInBounds_toArray, List.set_cons_zero, List.set_cons_succ] at r3
  replace hc := (hc.setCell (p := ⟨b3, 1, none⟩) wr3 (.int .i64 (m % 4)))
  generalize hW : World.setCell _ _ _ = V4 at *
  clear hW
  refine wp_region_held_drew (S := fun W' => (∀ j, W'.cell? ⟨w.heap.size, j, none⟩ = (#[.int .u8 k, .int .u8 m, .int .u8 t, .int .u32 a, .int .u32 b, .int .u32 c] : Array Value)[j]?)) (by kernel_rfl) r1.cell (fun hHeld => ?_)
  replace r1 := r1.drew
  replace r2 := r2.drew
  replace r3 := r3.drew
  replace hc := hc.drew
  generalize V4.drew = X0 at *
  refine' wpAnyH_take (i := 0) (oi := _) (v := _) ?_ (by kernel_rfl) (by kernel_rfl) (by kernel_rfl) ?_ (Or.inl ⟨?_, ?_⟩) (by assumption) ?_
  rotate_left 2
  · (simp only [List.getElem?_toArray, List.getElem?_cons_succ, List.getElem?_cons_zero]; rfl)
  · first | exact fun _ _ _ h => h | exact fun _ _ _ h => nomatch h.1
  · rfl
  · (intro W hSW; (try dsimp only at hSW); go_split_ands; first | (go_simp; done) | (go_simp; with_reducible rfl))
  try simp only [Act.put, List.setIfInBounds_toArray, List.set_cons_zero, List.set_cons_succ]
  refine' wpAnyH_take (i := 1) (oi := _) (v := _) ?_ (by kernel_rfl) (by kernel_rfl) (by kernel_rfl) ?_ (Or.inl ⟨?_, ?_⟩) (by assumption) ?_
  rotate_left 2
  · (simp only [List.getElem?_toArray, List.getElem?_cons_succ, List.getElem?_cons_zero]; rfl)
  · first | exact fun _ _ _ h => h | exact fun _ _ _ h => nomatch h.1
  · rfl
  · (intro W hSW; (try dsimp only at hSW); go_split_ands; first | (go_simp; done) | (go_simp; with_reducible rfl))
  try simp only [Act.put, List.setIfInBounds_toArray, List.set_cons_zero, List.set_cons_succ]
  refine' wpAnyH_take (i := 2) (oi := _) (v := _) ?_ (by kernel_rfl) (by kernel_rfl) (by kernel_rfl) ?_ (Or.inl ⟨?_, ?_⟩) (by assumption) ?_
  rotate_left 2
  · (simp only [List.getElem?_toArray, List.getElem?_cons_succ, List.getElem?_cons_zero]; rfl)
  · first | exact fun _ _ _ h => h | exact fun _ _ _ h => nomatch h.1
  · rfl
  · (intro W hSW; (try dsimp only at hSW); go_split_ands; first | (go_simp; done) | (go_simp; with_reducible rfl))
  try simp only [Act.put, List.setIfInBounds_toArray, List.set_cons_zero, List.set_cons_succ]
  refine' wpAnyH_take (i := 3) (oi := _) (v := _) ?_ (by kernel_rfl) (by kernel_rfl) (by kernel_rfl) ?_ (Or.inl ⟨?_, ?_⟩) (by assumption) ?_
  rotate_left 2
  · (simp only [List.getElem?_toArray, List.getElem?_cons_succ, List.getElem?_cons_zero]; rfl)
  · first | exact fun _ _ _ h => h | exact fun _ _ _ h => nomatch h.1
  · rfl
  · (intro W hSW; (try dsimp only at hSW); go_split_ands; first | (go_simp; done) | (go_simp; with_reducible rfl))
  try simp only [Act.put, List.setIfInBounds_toArray, List.set_cons_zero, List.set_cons_succ]
  refine' wpAnyH_take (i := 4) (oi := _) (v := _) ?_ (by kernel_rfl) (by kernel_rfl) (by kernel_rfl) ?_ (Or.inl ⟨?_, ?_⟩) (by assumption) ?_
  rotate_left 2
  · (simp only [List.getElem?_toArray, List.getElem?_cons_succ, List.getElem?_cons_zero]; rfl)
  · first | exact fun _ _ _ h => h | exact fun _ _ _ h => nomatch h.1
  · rfl
  · (intro W hSW; (try dsimp only at hSW); go_split_ands; first | (go_simp; done) | (go_simp; with_reducible rfl))
  try simp only [Act.put, List.setIfInBounds_toArray, List.set_cons_zero, List.set_cons_succ]
  refine' wpAnyH_take (i := 5) (oi := _) (v := _) ?_ (by kernel_rfl) (by kernel_rfl) (by kernel_rfl) ?_ (Or.inl ⟨?_, ?_⟩) (by assumption) ?_
  rotate_left 2
  · (simp only [List.getElem?_toArray, List.getElem?_cons_succ, List.getElem?_cons_zero]; rfl)
  · first | exact fun _ _ _ h => h | exact fun _ _ _ h => nomatch h.1
  · rfl
  · (intro W hSW; (try dsimp only at hSW); go_split_ands; first | (go_simp; done) | (go_simp; with_reducible rfl))
  try simp only [Act.put, List.setIfInBounds_toArray, List.set_cons_zero, List.set_cons_succ]
  refine' wpAnyH_take (i := 6) (oi := _) (v := _) ?_ (by kernel_rfl) (by kernel_rfl) (by kernel_rfl) ?_ (Or.inl ⟨?_, ?_⟩) (by assumption) ?_
  rotate_left 2
  · (simp only [List.getElem?_toArray, List.getElem?_cons_succ, List.getElem?_cons_zero]; rfl)
  · first | exact fun _ _ _ h => h | exact fun _ _ _ h => nomatch h.1
  · rfl
  · (intro W hSW; (try dsimp only at hSW); go_split_ands; first | (go_simp; done) | (go_simp; with_reducible rfl))
  try simp only [Act.put, List.setIfInBounds_toArray, List.set_cons_zero, List.set_cons_succ]
  refine' wpAnyH_take (i := 7) (oi := _) (v := _) ?_ (by kernel_rfl) (by kernel_rfl) (by kernel_rfl) ?_ (Or.inl ⟨?_, ?_⟩) (by assumption) ?_
  rotate_left 2
  · (simp only [List.getElem?_toArray, List.getElem?_cons_succ, List.getElem?_cons_zero]; rfl)
  · first | exact fun _ _ _ h => h | exact fun _ _ _ h => nomatch h.1
  · rfl
  · (intro W hSW; (try dsimp only at hSW); go_split_ands; first | (go_simp; done) | (go_simp; with_reducible rfl))
  try simp only [Act.put, List.setIfInBounds_toArray, List.set_cons_zero, List.set_cons_succ]
  clear hHeld
  refine wpAnyH_done (by kernel_rfl) ?_ _
  have yr1 := r1.cell
  have zr1 := r1.lt
  have yr2 := r2.cell
  have zr2 := r2.lt
  have yr3 := r3.cell
  have zr3 := r3.lt
  have ur3 := r3.free
  go_upto_region 32 with fail
  clear yr1 yr2 yr3 zr1 zr2 zr3 ur3
  replace r1 := ((r1.other nr1_r3.symm 2 (.int .i64 (a % 32))).other nr1_r3.symm 3 (.int .i64 (b % 4)))
  replace r2 := ((r2.other nr2_r3.symm 2 (.int .i64 (a % 32))).other nr2_r3.symm 3 (.int .i64 (b % 4)))
  replace r3 := ((r3.set 2 (.int .i64 (a % 32))).set 3 (.int .i64 (b % 4)))
  simp only [List.setIfInBounds_toArray, List.set_cons_zero, List.set_cons_succ] at r3
  replace hc := ((hc.setCell (p := ⟨b3, 2, none⟩) wr3 (.int .i64 (a % 32))).setCell (p := ⟨b3, 3, none⟩) wr3 (.int .i64 (b % 4)))
  generalize hW : World.setCell _ _ _ = V5 at *
  clear hW
  have yr1 := r1.cell
  have zr1 := r1.lt
  have yr2 := r2.cell
  have zr2 := r2.lt
  have yr3 := r3.cell
  have zr3 := r3.lt
  have ur2 := r2.free
  go_wp2_with fail
  clear yr1 yr2 yr3 zr1 zr2 zr3 ur2
  replace r2 := r2.set 0 (.int .i64 2)
  replace r2 := r2.set 1 (.int .i64 (m % 4))
  replace r2 := r2.set 2 (.int .i64 (a % 32))
  replace r2 := r2.set 3 (.int .i64 (b % 4))
  replace r2 := r2.set 4 (.int .i64 0)
  replace r2 := r2.set 5 (.string ⟨#[]⟩)
  replace hc := hc.setCell (p := ⟨w.heap.size + 1, 0, none⟩) wr2 (.int .i64 2)
  replace hc := hc.setCell (p := ⟨w.heap.size + 1, 1, none⟩) wr2 (.int .i64 (m % 4))
  replace hc := hc.setCell (p := ⟨w.heap.size + 1, 2, none⟩) wr2 (.int .i64 (a % 32))
  replace hc := hc.setCell (p := ⟨w.heap.size + 1, 3, none⟩) wr2 (.int .i64 (b % 4))
  replace hc := hc.setCell (p := ⟨w.heap.size + 1, 4, none⟩) wr2 (.int .i64 0)
  replace hc := hc.setCell (p := ⟨w.heap.size + 1, 5, none⟩) wr2 (.string ⟨#[]⟩)
  simp only [List.setIfInBounds_toArray, List.set_cons_zero, List.set_cons_succ] at r2
  generalize hW : World.setCell _ _ _ = Z9 at *
  clear hW
  have z9 := r2.cell
  refine bodyPost_ret (v := opRV (2, ⟨(m % 4), (a % 32), (b % 4), 0, ⟨#[]⟩⟩)) (by simp [results, Tryz.results9, go_sem, z9]) rfl ⟨⟨_, rfl, ?_⟩, hc⟩
  unfold okR
  rw [opOk_iff]
  simp (decide := true) only [mHi, aLo, aHi, bLo, bHi, cLo, cHi, tgOk]
  simp; omega
theorem made_3 (k m t a b c : Int) (w : World) (hk : k % 17 = 2) (k0 : 0 ≤ k) (k1 : k ≤ 255) (m0 : 0 ≤ m) (m1 : m ≤ 255) (t0 : 0 ≤ t) (t1 : t ≤ 255) (a0 : 0 ≤ a) (a1 : a ≤ 4294967295) (b0 : 0 ≤ b) (b1 : b ≤ 4294967295) (c0 : 0 ≤ c) (c1 : c ≤ 4294967295) :
    Calls Tryz.prog 9 #[.agg #[.int .u8 k, .int .u8 m, .int .u8 t, .int .u32 a, .int .u32 b, .int .u32 c]] w (MadeP w) := by
  have hc := Below.refl w.heap.size w
  have q1 : IntKind.i64.wrap k = k := IntWalk.i64_in _ ⟨by omega, by omega⟩
  have q2 : IntKind.i64.wrap m = m := IntWalk.i64_in _ ⟨by omega, by omega⟩
  have q3 : IntKind.i64.wrap a = a := IntWalk.i64_in _ ⟨by omega, by omega⟩
  have q4 : IntKind.i64.wrap b = b := IntWalk.i64_in _ ⟨by omega, by omega⟩
  have q5 : IntKind.i64.wrap c = c := IntWalk.i64_in _ ⟨by omega, by omega⟩
  have q6 : IntKind.i64.wrap t = t := IntWalk.i64_in _ ⟨by omega, by omega⟩
  obtain ⟨ga32, la32⟩ := tm a 32 a0 (by decide)
  obtain ⟨gb4, lb4⟩ := tm b 4 b0 (by decide)
  obtain ⟨gc, lc⟩ := tm c 33 c0 (by decide)
  obtain ⟨gm, lm⟩ := tm m 4 m0 (by decide)
  have x2 := w64 ((c % 33) - 1) (by omega) (by omega)
  go_enter Tryz.func9, Tryz.ntmps9
  go_upto_region 1 with fail
  have r1 := Row.new (W := w) (cs := #[.int .u8 k, .int .u8 m, .int .u8 t, .int .u32 a, .int .u32 b, .int .u32 c]) (t := 24)
  have hn := below_alloc w (.cells #[.int .u8 k, .int .u8 m, .int .u8 t, .int .u32 a, .int .u32 b, .int .u32 c] 24)
  replace hc := chain hc hn
  have hz1 : (w.alloc (.cells #[.int .u8 k, .int .u8 m, .int .u8 t, .int .u32 a, .int .u32 b, .int .u32 c] 24)).heap.size = w.heap.size + 1 := by simp
  clear hn
  generalize w.alloc (.cells #[.int .u8 k, .int .u8 m, .int .u8 t, .int .u32 a, .int .u32 b, .int .u32 c] 24) = V1 at r1 hc hz1 ⊢
  have r2 := Row.new (W := V1) (cs := #[.int .i64 0, .int .i64 0, .int .i64 0, .int .i64 0, .int .i64 0, .string ⟨#[]⟩]) (t := 31)
  have hn := below_alloc V1 (.cells #[.int .i64 0, .int .i64 0, .int .i64 0, .int .i64 0, .int .i64 0, .string ⟨#[]⟩] 31)
  replace r1 := r1.on hn
  replace hc := chain hc hn
  rw [hz1] at r2
  clear hn hz1
  generalize V1.alloc (.cells #[.int .i64 0, .int .i64 0, .int .i64 0, .int .i64 0, .int .i64 0, .string ⟨#[]⟩] 31) = V2 at r1 r2 hc ⊢
  have nr1_r2 : w.heap.size ≠ w.heap.size + 1 := by omega
  have wr2 : w.heap.size ≤ w.heap.size + 1 := by omega
  have wr1 : w.heap.size ≤ w.heap.size := Nat.le_refl _
  have yr1 := r1.cell
  have zr1 := r1.lt
  have yr2 := r2.cell
  have zr2 := r2.lt
  go_upto_region 2 with fail
  clear yr1 yr2 zr1 zr2
  have r3 := Row.new (W := V2) (cs := #[.int .i64 3, .int .i64 0, .int .i64 0, .int .i64 0, .int .i64 0, .string ⟨#[]⟩]) (t := 31)
  have hn := below_alloc V2 (.cells #[.int .i64 3, .int .i64 0, .int .i64 0, .int .i64 0, .int .i64 0, .string ⟨#[]⟩] 31)
  have nr1_r3 : w.heap.size ≠ V2.heap.size := Nat.ne_of_lt r1.lt
  have nr2_r3 : w.heap.size + 1 ≠ V2.heap.size := Nat.ne_of_lt r2.lt
  have wr3 : w.heap.size ≤ V2.heap.size := hc.size
  replace r1 := r1.on hn
  replace r2 := r2.on hn
  replace hc := chain hc hn
  clear hn
  generalize V2.alloc (.cells #[.int .i64 3, .int .i64 0, .int .i64 0, .int .i64 0, .int .i64 0, .string ⟨#[]⟩] 31) = V3 at r1 r2 r3 hc ⊢
  generalize V2.heap.size = b3 at *
  have yr1 := r1.cell
  have zr1 := r1.lt
  have yr2 := r2.cell
  have zr2 := r2.lt
  have yr3 := r3.cell
  have zr3 := r3.lt
  have ur3 := r3.free
  go_upto_region 4 with fail
  clear yr1 yr2 yr3 zr1 zr2 zr3 ur3
  replace r1 := (r1.other nr1_r3.symm 1 (.int .i64 (m % 4)))
  replace r2 := (r2.other nr2_r3.symm 1 (.int .i64 (m % 4)))
  replace r3 := (r3.set 1 (.int .i64 (m % 4)))
  simp only [List.setIfInBounds_toArray, List.set_cons_zero, List.set_cons_succ] at r3
  replace hc := (hc.setCell (p := ⟨b3, 1, none⟩) wr3 (.int .i64 (m % 4)))
  generalize hW : World.setCell _ _ _ = V4 at *
  clear hW
  refine wp_region_held_drew (S := fun W' => (∀ j, W'.cell? ⟨w.heap.size, j, none⟩ = (#[.int .u8 k, .int .u8 m, .int .u8 t, .int .u32 a, .int .u32 b, .int .u32 c] : Array Value)[j]?)) (by kernel_rfl) r1.cell (fun hHeld => ?_)
  replace r1 := r1.drew
  replace r2 := r2.drew
  replace r3 := r3.drew
  replace hc := hc.drew
  generalize V4.drew = X0 at *
  refine' wpAnyH_take (i := 0) (oi := _) (v := _) ?_ (by kernel_rfl) (by kernel_rfl) (by kernel_rfl) ?_ (Or.inl ⟨?_, ?_⟩) (by assumption) ?_
  rotate_left 2
  · (simp only [List.getElem?_toArray, List.getElem?_cons_succ, List.getElem?_cons_zero]; rfl)
  · first | exact fun _ _ _ h => h | exact fun _ _ _ h => nomatch h.1
  · rfl
  · (intro W hSW; (try dsimp only at hSW); go_split_ands; first | (go_simp; done) | (go_simp; with_reducible rfl))
  try simp only [Act.put, List.setIfInBounds_toArray, List.set_cons_zero, List.set_cons_succ]
  refine' wpAnyH_take (i := 1) (oi := _) (v := _) ?_ (by kernel_rfl) (by kernel_rfl) (by kernel_rfl) ?_ (Or.inl ⟨?_, ?_⟩) (by assumption) ?_
  rotate_left 2
  · (simp only [List.getElem?_toArray, List.getElem?_cons_succ, List.getElem?_cons_zero]; rfl)
  · first | exact fun _ _ _ h => h | exact fun _ _ _ h => nomatch h.1
  · rfl
  · (intro W hSW; (try dsimp only at hSW); go_split_ands; first | (go_simp; done) | (go_simp; with_reducible rfl))
  try simp only [Act.put, List.setIfInBounds_toArray, List.set_cons_zero, List.set_cons_succ]
  refine' wpAnyH_take (i := 2) (oi := _) (v := _) ?_ (by kernel_rfl) (by kernel_rfl) (by kernel_rfl) ?_ (Or.inl ⟨?_, ?_⟩) (by assumption) ?_
  rotate_left 2
  · (simp only [List.getElem?_toArray, List.getElem?_cons_succ, List.getElem?_cons_zero]; rfl)
  · first | exact fun _ _ _ h => h | exact fun _ _ _ h => nomatch h.1
  · rfl
  · (intro W hSW; (try dsimp only at hSW); go_split_ands; first | (go_simp; done) | (go_simp; with_reducible rfl))
  try simp only [Act.put, List.setIfInBounds_toArray, List.set_cons_zero, List.set_cons_succ]
  refine' wpAnyH_take (i := 3) (oi := _) (v := _) ?_ (by kernel_rfl) (by kernel_rfl) (by kernel_rfl) ?_ (Or.inl ⟨?_, ?_⟩) (by assumption) ?_
  rotate_left 2
  · (simp only [List.getElem?_toArray, List.getElem?_cons_succ, List.getElem?_cons_zero]; rfl)
  · first | exact fun _ _ _ h => h | exact fun _ _ _ h => nomatch h.1
  · rfl
  · (intro W hSW; (try dsimp only at hSW); go_split_ands; first | (go_simp; done) | (go_simp; with_reducible rfl))
  try simp only [Act.put, List.setIfInBounds_toArray, List.set_cons_zero, List.set_cons_succ]
  refine' wpAnyH_take (i := 4) (oi := _) (v := _) ?_ (by kernel_rfl) (by kernel_rfl) (by kernel_rfl) ?_ (Or.inl ⟨?_, ?_⟩) (by assumption) ?_
  rotate_left 2
  · (simp only [List.getElem?_toArray, List.getElem?_cons_succ, List.getElem?_cons_zero]; rfl)
  · first | exact fun _ _ _ h => h | exact fun _ _ _ h => nomatch h.1
  · rfl
  · (intro W hSW; (try dsimp only at hSW); go_split_ands; first | (go_simp; done) | (go_simp; with_reducible rfl))
  try simp only [Act.put, List.setIfInBounds_toArray, List.set_cons_zero, List.set_cons_succ]
  refine' wpAnyH_take (i := 5) (oi := _) (v := _) ?_ (by kernel_rfl) (by kernel_rfl) (by kernel_rfl) ?_ (Or.inl ⟨?_, ?_⟩) (by assumption) ?_
  rotate_left 2
  · (simp only [List.getElem?_toArray, List.getElem?_cons_succ, List.getElem?_cons_zero]; rfl)
  · first | exact fun _ _ _ h => h | exact fun _ _ _ h => nomatch h.1
  · rfl
  · (intro W hSW; (try dsimp only at hSW); go_split_ands; first | (go_simp; done) | (go_simp; with_reducible rfl))
  try simp only [Act.put, List.setIfInBounds_toArray, List.set_cons_zero, List.set_cons_succ]
  refine' wpAnyH_take (i := 6) (oi := _) (v := _) ?_ (by kernel_rfl) (by kernel_rfl) (by kernel_rfl) ?_ (Or.inl ⟨?_, ?_⟩) (by assumption) ?_
  rotate_left 2
  · (simp only [List.getElem?_toArray, List.getElem?_cons_succ, List.getElem?_cons_zero]; rfl)
  · first | exact fun _ _ _ h => h | exact fun _ _ _ h => nomatch h.1
  · rfl
  · (intro W hSW; (try dsimp only at hSW); go_split_ands; first | (go_simp; done) | (go_simp; with_reducible rfl))
  try simp only [Act.put, List.setIfInBounds_toArray, List.set_cons_zero, List.set_cons_succ]
  refine' wpAnyH_take (i := 7) (oi := _) (v := _) ?_ (by kernel_rfl) (by kernel_rfl) (by kernel_rfl) ?_ (Or.inl ⟨?_, ?_⟩) (by assumption) ?_
  rotate_left 2
  · (simp only [List.getElem?_toArray, List.getElem?_cons_succ, List.getElem?_cons_zero]; rfl)
  · first | exact fun _ _ _ h => h | exact fun _ _ _ h => nomatch h.1
  · rfl
  · (intro W hSW; (try dsimp only at hSW); go_split_ands; first | (go_simp; done) | (go_simp; with_reducible rfl))
  try simp only [Act.put, List.setIfInBounds_toArray, List.set_cons_zero, List.set_cons_succ]
  clear hHeld
  refine wpAnyH_done (by kernel_rfl) ?_ _
  have yr1 := r1.cell
  have zr1 := r1.lt
  have yr2 := r2.cell
  have zr2 := r2.lt
  have yr3 := r3.cell
  have zr3 := r3.lt
  have ur3 := r3.free
  go_upto_region 32 with fail
  clear yr1 yr2 yr3 zr1 zr2 zr3 ur3
  replace r1 := ((r1.other nr1_r3.symm 2 (.int .i64 (a % 32))).other nr1_r3.symm 3 (.int .i64 (b % 4)))
  replace r2 := ((r2.other nr2_r3.symm 2 (.int .i64 (a % 32))).other nr2_r3.symm 3 (.int .i64 (b % 4)))
  replace r3 := ((r3.set 2 (.int .i64 (a % 32))).set 3 (.int .i64 (b % 4)))
  simp only [List.setIfInBounds_toArray, List.set_cons_zero, List.set_cons_succ] at r3
  replace hc := ((hc.setCell (p := ⟨b3, 2, none⟩) wr3 (.int .i64 (a % 32))).setCell (p := ⟨b3, 3, none⟩) wr3 (.int .i64 (b % 4)))
  generalize hW : World.setCell _ _ _ = V5 at *
  clear hW
  have yr1 := r1.cell
  have zr1 := r1.lt
  have yr2 := r2.cell
  have zr2 := r2.lt
  have yr3 := r3.cell
  have zr3 := r3.lt
  have ur3 := r3.free
  go_upto_region 34 with fail
  clear yr1 yr2 yr3 zr1 zr2 zr3 ur3
  replace r1 := (r1.other nr1_r3.symm 4 (.int .i64 ((c % 33) - 1)))
  replace r2 := (r2.other nr2_r3.symm 4 (.int .i64 ((c % 33) - 1)))
  replace r3 := (r3.set 4 (.int .i64 ((c % 33) - 1)))
  simp only [List.setIfInBounds_toArray, List.set_cons_zero, List.set_cons_succ] at r3
  replace hc := (hc.setCell (p := ⟨b3, 4, none⟩) wr3 (.int .i64 ((c % 33) - 1)))
  generalize hW : World.setCell _ _ _ = V6 at *
  clear hW
  have yr1 := r1.cell
  have zr1 := r1.lt
  have yr2 := r2.cell
  have zr2 := r2.lt
  have yr3 := r3.cell
  have zr3 := r3.lt
  have ur2 := r2.free
  go_wp2_with fail
  clear yr1 yr2 yr3 zr1 zr2 zr3 ur2
  replace r2 := r2.set 0 (.int .i64 3)
  replace r2 := r2.set 1 (.int .i64 (m % 4))
  replace r2 := r2.set 2 (.int .i64 (a % 32))
  replace r2 := r2.set 3 (.int .i64 (b % 4))
  replace r2 := r2.set 4 (.int .i64 ((c % 33) - 1))
  replace r2 := r2.set 5 (.string ⟨#[]⟩)
  replace hc := hc.setCell (p := ⟨w.heap.size + 1, 0, none⟩) wr2 (.int .i64 3)
  replace hc := hc.setCell (p := ⟨w.heap.size + 1, 1, none⟩) wr2 (.int .i64 (m % 4))
  replace hc := hc.setCell (p := ⟨w.heap.size + 1, 2, none⟩) wr2 (.int .i64 (a % 32))
  replace hc := hc.setCell (p := ⟨w.heap.size + 1, 3, none⟩) wr2 (.int .i64 (b % 4))
  replace hc := hc.setCell (p := ⟨w.heap.size + 1, 4, none⟩) wr2 (.int .i64 ((c % 33) - 1))
  replace hc := hc.setCell (p := ⟨w.heap.size + 1, 5, none⟩) wr2 (.string ⟨#[]⟩)
  simp only [List.setIfInBounds_toArray, List.set_cons_zero, List.set_cons_succ] at r2
  generalize hW : World.setCell _ _ _ = Z9 at *
  clear hW
  have z9 := r2.cell
  refine bodyPost_ret (v := opRV (3, ⟨(m % 4), (a % 32), (b % 4), ((c % 33) - 1), ⟨#[]⟩⟩)) (by simp [results, Tryz.results9, go_sem, z9]) rfl ⟨⟨_, rfl, ?_⟩, hc⟩
  unfold okR
  rw [opOk_iff]
  simp (decide := true) only [mHi, aLo, aHi, bLo, bHi, cLo, cHi, tgOk]
  simp; omega
theorem made_4 (k m t a b c : Int) (w : World) (hk : k % 17 = 3) (k0 : 0 ≤ k) (k1 : k ≤ 255) (m0 : 0 ≤ m) (m1 : m ≤ 255) (t0 : 0 ≤ t) (t1 : t ≤ 255) (a0 : 0 ≤ a) (a1 : a ≤ 4294967295) (b0 : 0 ≤ b) (b1 : b ≤ 4294967295) (c0 : 0 ≤ c) (c1 : c ≤ 4294967295) :
    Calls Tryz.prog 9 #[.agg #[.int .u8 k, .int .u8 m, .int .u8 t, .int .u32 a, .int .u32 b, .int .u32 c]] w (MadeP w) := by
  have hc := Below.refl w.heap.size w
  have q1 : IntKind.i64.wrap k = k := IntWalk.i64_in _ ⟨by omega, by omega⟩
  have q2 : IntKind.i64.wrap m = m := IntWalk.i64_in _ ⟨by omega, by omega⟩
  have q3 : IntKind.i64.wrap a = a := IntWalk.i64_in _ ⟨by omega, by omega⟩
  have q4 : IntKind.i64.wrap b = b := IntWalk.i64_in _ ⟨by omega, by omega⟩
  have q5 : IntKind.i64.wrap c = c := IntWalk.i64_in _ ⟨by omega, by omega⟩
  have q6 : IntKind.i64.wrap t = t := IntWalk.i64_in _ ⟨by omega, by omega⟩
  obtain ⟨ga32, la32⟩ := tm a 32 a0 (by decide)
  obtain ⟨gm, lm⟩ := tm m 4 m0 (by decide)
  go_enter Tryz.func9, Tryz.ntmps9
  go_upto_region 1 with fail
  have r1 := Row.new (W := w) (cs := #[.int .u8 k, .int .u8 m, .int .u8 t, .int .u32 a, .int .u32 b, .int .u32 c]) (t := 24)
  have hn := below_alloc w (.cells #[.int .u8 k, .int .u8 m, .int .u8 t, .int .u32 a, .int .u32 b, .int .u32 c] 24)
  replace hc := chain hc hn
  have hz1 : (w.alloc (.cells #[.int .u8 k, .int .u8 m, .int .u8 t, .int .u32 a, .int .u32 b, .int .u32 c] 24)).heap.size = w.heap.size + 1 := by simp
  clear hn
  generalize w.alloc (.cells #[.int .u8 k, .int .u8 m, .int .u8 t, .int .u32 a, .int .u32 b, .int .u32 c] 24) = V1 at r1 hc hz1 ⊢
  have r2 := Row.new (W := V1) (cs := #[.int .i64 0, .int .i64 0, .int .i64 0, .int .i64 0, .int .i64 0, .string ⟨#[]⟩]) (t := 31)
  have hn := below_alloc V1 (.cells #[.int .i64 0, .int .i64 0, .int .i64 0, .int .i64 0, .int .i64 0, .string ⟨#[]⟩] 31)
  replace r1 := r1.on hn
  replace hc := chain hc hn
  rw [hz1] at r2
  clear hn hz1
  generalize V1.alloc (.cells #[.int .i64 0, .int .i64 0, .int .i64 0, .int .i64 0, .int .i64 0, .string ⟨#[]⟩] 31) = V2 at r1 r2 hc ⊢
  have nr1_r2 : w.heap.size ≠ w.heap.size + 1 := by omega
  have wr2 : w.heap.size ≤ w.heap.size + 1 := by omega
  have wr1 : w.heap.size ≤ w.heap.size := Nat.le_refl _
  have yr1 := r1.cell
  have zr1 := r1.lt
  have yr2 := r2.cell
  have zr2 := r2.lt
  go_upto_region 2 with fail
  clear yr1 yr2 zr1 zr2
  have r3 := Row.new (W := V2) (cs := #[.int .i64 4, .int .i64 0, .int .i64 0, .int .i64 0, .int .i64 0, .string ⟨#[]⟩]) (t := 31)
  have hn := below_alloc V2 (.cells #[.int .i64 4, .int .i64 0, .int .i64 0, .int .i64 0, .int .i64 0, .string ⟨#[]⟩] 31)
  have nr1_r3 : w.heap.size ≠ V2.heap.size := Nat.ne_of_lt r1.lt
  have nr2_r3 : w.heap.size + 1 ≠ V2.heap.size := Nat.ne_of_lt r2.lt
  have wr3 : w.heap.size ≤ V2.heap.size := hc.size
  replace r1 := r1.on hn
  replace r2 := r2.on hn
  replace hc := chain hc hn
  clear hn
  generalize V2.alloc (.cells #[.int .i64 4, .int .i64 0, .int .i64 0, .int .i64 0, .int .i64 0, .string ⟨#[]⟩] 31) = V3 at r1 r2 r3 hc ⊢
  generalize V2.heap.size = b3 at *
  have yr1 := r1.cell
  have zr1 := r1.lt
  have yr2 := r2.cell
  have zr2 := r2.lt
  have yr3 := r3.cell
  have zr3 := r3.lt
  have ur3 := r3.free
  go_upto_region 4 with fail
  clear yr1 yr2 yr3 zr1 zr2 zr3 ur3
  replace r1 := (r1.other nr1_r3.symm 1 (.int .i64 (m % 4)))
  replace r2 := (r2.other nr2_r3.symm 1 (.int .i64 (m % 4)))
  replace r3 := (r3.set 1 (.int .i64 (m % 4)))
  simp only [List.setIfInBounds_toArray, List.set_cons_zero, List.set_cons_succ] at r3
  replace hc := (hc.setCell (p := ⟨b3, 1, none⟩) wr3 (.int .i64 (m % 4)))
  generalize hW : World.setCell _ _ _ = V4 at *
  clear hW
  refine wp_region_held_drew (S := fun W' => (∀ j, W'.cell? ⟨w.heap.size, j, none⟩ = (#[.int .u8 k, .int .u8 m, .int .u8 t, .int .u32 a, .int .u32 b, .int .u32 c] : Array Value)[j]?)) (by kernel_rfl) r1.cell (fun hHeld => ?_)
  replace r1 := r1.drew
  replace r2 := r2.drew
  replace r3 := r3.drew
  replace hc := hc.drew
  generalize V4.drew = X0 at *
  refine' wpAnyH_take (i := 0) (oi := _) (v := _) ?_ (by kernel_rfl) (by kernel_rfl) (by kernel_rfl) ?_ (Or.inl ⟨?_, ?_⟩) (by assumption) ?_
  rotate_left 2
  · (simp only [List.getElem?_toArray, List.getElem?_cons_succ, List.getElem?_cons_zero]; rfl)
  · first | exact fun _ _ _ h => h | exact fun _ _ _ h => nomatch h.1
  · rfl
  · (intro W hSW; (try dsimp only at hSW); go_split_ands; first | (go_simp; done) | (go_simp; with_reducible rfl))
  try simp only [Act.put, List.setIfInBounds_toArray, List.set_cons_zero, List.set_cons_succ]
  refine' wpAnyH_take (i := 1) (oi := _) (v := _) ?_ (by kernel_rfl) (by kernel_rfl) (by kernel_rfl) ?_ (Or.inl ⟨?_, ?_⟩) (by assumption) ?_
  rotate_left 2
  · (simp only [List.getElem?_toArray, List.getElem?_cons_succ, List.getElem?_cons_zero]; rfl)
  · first | exact fun _ _ _ h => h | exact fun _ _ _ h => nomatch h.1
  · rfl
  · (intro W hSW; (try dsimp only at hSW); go_split_ands; first | (go_simp; done) | (go_simp; with_reducible rfl))
  try simp only [Act.put, List.setIfInBounds_toArray, List.set_cons_zero, List.set_cons_succ]
  refine' wpAnyH_take (i := 2) (oi := _) (v := _) ?_ (by kernel_rfl) (by kernel_rfl) (by kernel_rfl) ?_ (Or.inl ⟨?_, ?_⟩) (by assumption) ?_
  rotate_left 2
  · (simp only [List.getElem?_toArray, List.getElem?_cons_succ, List.getElem?_cons_zero]; rfl)
  · first | exact fun _ _ _ h => h | exact fun _ _ _ h => nomatch h.1
  · rfl
  · (intro W hSW; (try dsimp only at hSW); go_split_ands; first | (go_simp; done) | (go_simp; with_reducible rfl))
  try simp only [Act.put, List.setIfInBounds_toArray, List.set_cons_zero, List.set_cons_succ]
  refine' wpAnyH_take (i := 3) (oi := _) (v := _) ?_ (by kernel_rfl) (by kernel_rfl) (by kernel_rfl) ?_ (Or.inl ⟨?_, ?_⟩) (by assumption) ?_
  rotate_left 2
  · (simp only [List.getElem?_toArray, List.getElem?_cons_succ, List.getElem?_cons_zero]; rfl)
  · first | exact fun _ _ _ h => h | exact fun _ _ _ h => nomatch h.1
  · rfl
  · (intro W hSW; (try dsimp only at hSW); go_split_ands; first | (go_simp; done) | (go_simp; with_reducible rfl))
  try simp only [Act.put, List.setIfInBounds_toArray, List.set_cons_zero, List.set_cons_succ]
  refine' wpAnyH_take (i := 4) (oi := _) (v := _) ?_ (by kernel_rfl) (by kernel_rfl) (by kernel_rfl) ?_ (Or.inl ⟨?_, ?_⟩) (by assumption) ?_
  rotate_left 2
  · (simp only [List.getElem?_toArray, List.getElem?_cons_succ, List.getElem?_cons_zero]; rfl)
  · first | exact fun _ _ _ h => h | exact fun _ _ _ h => nomatch h.1
  · rfl
  · (intro W hSW; (try dsimp only at hSW); go_split_ands; first | (go_simp; done) | (go_simp; with_reducible rfl))
  try simp only [Act.put, List.setIfInBounds_toArray, List.set_cons_zero, List.set_cons_succ]
  refine' wpAnyH_take (i := 5) (oi := _) (v := _) ?_ (by kernel_rfl) (by kernel_rfl) (by kernel_rfl) ?_ (Or.inl ⟨?_, ?_⟩) (by assumption) ?_
  rotate_left 2
  · (simp only [List.getElem?_toArray, List.getElem?_cons_succ, List.getElem?_cons_zero]; rfl)
  · first | exact fun _ _ _ h => h | exact fun _ _ _ h => nomatch h.1
  · rfl
  · (intro W hSW; (try dsimp only at hSW); go_split_ands; first | (go_simp; done) | (go_simp; with_reducible rfl))
  try simp only [Act.put, List.setIfInBounds_toArray, List.set_cons_zero, List.set_cons_succ]
  refine' wpAnyH_take (i := 6) (oi := _) (v := _) ?_ (by kernel_rfl) (by kernel_rfl) (by kernel_rfl) ?_ (Or.inl ⟨?_, ?_⟩) (by assumption) ?_
  rotate_left 2
  · (simp only [List.getElem?_toArray, List.getElem?_cons_succ, List.getElem?_cons_zero]; rfl)
  · first | exact fun _ _ _ h => h | exact fun _ _ _ h => nomatch h.1
  · rfl
  · (intro W hSW; (try dsimp only at hSW); go_split_ands; first | (go_simp; done) | (go_simp; with_reducible rfl))
  try simp only [Act.put, List.setIfInBounds_toArray, List.set_cons_zero, List.set_cons_succ]
  refine' wpAnyH_take (i := 7) (oi := _) (v := _) ?_ (by kernel_rfl) (by kernel_rfl) (by kernel_rfl) ?_ (Or.inl ⟨?_, ?_⟩) (by assumption) ?_
  rotate_left 2
  · (simp only [List.getElem?_toArray, List.getElem?_cons_succ, List.getElem?_cons_zero]; rfl)
  · first | exact fun _ _ _ h => h | exact fun _ _ _ h => nomatch h.1
  · rfl
  · (intro W hSW; (try dsimp only at hSW); go_split_ands; first | (go_simp; done) | (go_simp; with_reducible rfl))
  try simp only [Act.put, List.setIfInBounds_toArray, List.set_cons_zero, List.set_cons_succ]
  clear hHeld
  refine wpAnyH_done (by kernel_rfl) ?_ _
  have yr1 := r1.cell
  have zr1 := r1.lt
  have yr2 := r2.cell
  have zr2 := r2.lt
  have yr3 := r3.cell
  have zr3 := r3.lt
  have ur3 := r3.free
  go_upto_region 32 with fail
  clear yr1 yr2 yr3 zr1 zr2 zr3 ur3
  replace r1 := (r1.other nr1_r3.symm 2 (.int .i64 (a % 32)))
  replace r2 := (r2.other nr2_r3.symm 2 (.int .i64 (a % 32)))
  replace r3 := (r3.set 2 (.int .i64 (a % 32)))
  simp only [List.setIfInBounds_toArray, List.set_cons_zero, List.set_cons_succ] at r3
  replace hc := (hc.setCell (p := ⟨b3, 2, none⟩) wr3 (.int .i64 (a % 32)))
  generalize hW : World.setCell _ _ _ = V5 at *
  clear hW
  have yr1 := r1.cell
  have zr1 := r1.lt
  have yr2 := r2.cell
  have zr2 := r2.lt
  have yr3 := r3.cell
  have zr3 := r3.lt
  have ur2 := r2.free
  go_wp2_with fail
  clear yr1 yr2 yr3 zr1 zr2 zr3 ur2
  replace r2 := r2.set 0 (.int .i64 4)
  replace r2 := r2.set 1 (.int .i64 (m % 4))
  replace r2 := r2.set 2 (.int .i64 (a % 32))
  replace r2 := r2.set 3 (.int .i64 0)
  replace r2 := r2.set 4 (.int .i64 0)
  replace r2 := r2.set 5 (.string ⟨#[]⟩)
  replace hc := hc.setCell (p := ⟨w.heap.size + 1, 0, none⟩) wr2 (.int .i64 4)
  replace hc := hc.setCell (p := ⟨w.heap.size + 1, 1, none⟩) wr2 (.int .i64 (m % 4))
  replace hc := hc.setCell (p := ⟨w.heap.size + 1, 2, none⟩) wr2 (.int .i64 (a % 32))
  replace hc := hc.setCell (p := ⟨w.heap.size + 1, 3, none⟩) wr2 (.int .i64 0)
  replace hc := hc.setCell (p := ⟨w.heap.size + 1, 4, none⟩) wr2 (.int .i64 0)
  replace hc := hc.setCell (p := ⟨w.heap.size + 1, 5, none⟩) wr2 (.string ⟨#[]⟩)
  simp only [List.setIfInBounds_toArray, List.set_cons_zero, List.set_cons_succ] at r2
  generalize hW : World.setCell _ _ _ = Z9 at *
  clear hW
  have z9 := r2.cell
  refine bodyPost_ret (v := opRV (4, ⟨(m % 4), (a % 32), 0, 0, ⟨#[]⟩⟩)) (by simp [results, Tryz.results9, go_sem, z9]) rfl ⟨⟨_, rfl, ?_⟩, hc⟩
  unfold okR
  rw [opOk_iff]
  simp (decide := true) only [mHi, aLo, aHi, bLo, bHi, cLo, cHi, tgOk]
  simp; omega
theorem made_5 (k m t a b c : Int) (w : World) (hk : k % 17 = 4) (k0 : 0 ≤ k) (k1 : k ≤ 255) (m0 : 0 ≤ m) (m1 : m ≤ 255) (t0 : 0 ≤ t) (t1 : t ≤ 255) (a0 : 0 ≤ a) (a1 : a ≤ 4294967295) (b0 : 0 ≤ b) (b1 : b ≤ 4294967295) (c0 : 0 ≤ c) (c1 : c ≤ 4294967295) :
    Calls Tryz.prog 9 #[.agg #[.int .u8 k, .int .u8 m, .int .u8 t, .int .u32 a, .int .u32 b, .int .u32 c]] w (MadeP w) := by
  have hc := Below.refl w.heap.size w
  have q1 : IntKind.i64.wrap k = k := IntWalk.i64_in _ ⟨by omega, by omega⟩
  have q2 : IntKind.i64.wrap m = m := IntWalk.i64_in _ ⟨by omega, by omega⟩
  have q3 : IntKind.i64.wrap a = a := IntWalk.i64_in _ ⟨by omega, by omega⟩
  have q4 : IntKind.i64.wrap b = b := IntWalk.i64_in _ ⟨by omega, by omega⟩
  have q5 : IntKind.i64.wrap c = c := IntWalk.i64_in _ ⟨by omega, by omega⟩
  have q6 : IntKind.i64.wrap t = t := IntWalk.i64_in _ ⟨by omega, by omega⟩
  obtain ⟨ga33, la33⟩ := tm a 33 a0 (by decide)
  obtain ⟨gb8, lb8⟩ := tm b 8 b0 (by decide)
  obtain ⟨gm, lm⟩ := tm m 4 m0 (by decide)
  have x0 := w64 ((a % 33) - 1) (by omega) (by omega)
  go_enter Tryz.func9, Tryz.ntmps9
  go_upto_region 1 with fail
  have r1 := Row.new (W := w) (cs := #[.int .u8 k, .int .u8 m, .int .u8 t, .int .u32 a, .int .u32 b, .int .u32 c]) (t := 24)
  have hn := below_alloc w (.cells #[.int .u8 k, .int .u8 m, .int .u8 t, .int .u32 a, .int .u32 b, .int .u32 c] 24)
  replace hc := chain hc hn
  have hz1 : (w.alloc (.cells #[.int .u8 k, .int .u8 m, .int .u8 t, .int .u32 a, .int .u32 b, .int .u32 c] 24)).heap.size = w.heap.size + 1 := by simp
  clear hn
  generalize w.alloc (.cells #[.int .u8 k, .int .u8 m, .int .u8 t, .int .u32 a, .int .u32 b, .int .u32 c] 24) = V1 at r1 hc hz1 ⊢
  have r2 := Row.new (W := V1) (cs := #[.int .i64 0, .int .i64 0, .int .i64 0, .int .i64 0, .int .i64 0, .string ⟨#[]⟩]) (t := 31)
  have hn := below_alloc V1 (.cells #[.int .i64 0, .int .i64 0, .int .i64 0, .int .i64 0, .int .i64 0, .string ⟨#[]⟩] 31)
  replace r1 := r1.on hn
  replace hc := chain hc hn
  rw [hz1] at r2
  clear hn hz1
  generalize V1.alloc (.cells #[.int .i64 0, .int .i64 0, .int .i64 0, .int .i64 0, .int .i64 0, .string ⟨#[]⟩] 31) = V2 at r1 r2 hc ⊢
  have nr1_r2 : w.heap.size ≠ w.heap.size + 1 := by omega
  have wr2 : w.heap.size ≤ w.heap.size + 1 := by omega
  have wr1 : w.heap.size ≤ w.heap.size := Nat.le_refl _
  have yr1 := r1.cell
  have zr1 := r1.lt
  have yr2 := r2.cell
  have zr2 := r2.lt
  go_upto_region 2 with fail
  clear yr1 yr2 zr1 zr2
  have r3 := Row.new (W := V2) (cs := #[.int .i64 5, .int .i64 0, .int .i64 0, .int .i64 0, .int .i64 0, .string ⟨#[]⟩]) (t := 31)
  have hn := below_alloc V2 (.cells #[.int .i64 5, .int .i64 0, .int .i64 0, .int .i64 0, .int .i64 0, .string ⟨#[]⟩] 31)
  have nr1_r3 : w.heap.size ≠ V2.heap.size := Nat.ne_of_lt r1.lt
  have nr2_r3 : w.heap.size + 1 ≠ V2.heap.size := Nat.ne_of_lt r2.lt
  have wr3 : w.heap.size ≤ V2.heap.size := hc.size
  replace r1 := r1.on hn
  replace r2 := r2.on hn
  replace hc := chain hc hn
  clear hn
  generalize V2.alloc (.cells #[.int .i64 5, .int .i64 0, .int .i64 0, .int .i64 0, .int .i64 0, .string ⟨#[]⟩] 31) = V3 at r1 r2 r3 hc ⊢
  generalize V2.heap.size = b3 at *
  have yr1 := r1.cell
  have zr1 := r1.lt
  have yr2 := r2.cell
  have zr2 := r2.lt
  have yr3 := r3.cell
  have zr3 := r3.lt
  have ur3 := r3.free
  go_upto_region 4 with fail
  clear yr1 yr2 yr3 zr1 zr2 zr3 ur3
  replace r1 := (r1.other nr1_r3.symm 1 (.int .i64 (m % 4)))
  replace r2 := (r2.other nr2_r3.symm 1 (.int .i64 (m % 4)))
  replace r3 := (r3.set 1 (.int .i64 (m % 4)))
  simp only [List.setIfInBounds_toArray, List.set_cons_zero, List.set_cons_succ] at r3
  replace hc := (hc.setCell (p := ⟨b3, 1, none⟩) wr3 (.int .i64 (m % 4)))
  generalize hW : World.setCell _ _ _ = V4 at *
  clear hW
  refine wp_region_held_drew (S := fun W' => (∀ j, W'.cell? ⟨w.heap.size, j, none⟩ = (#[.int .u8 k, .int .u8 m, .int .u8 t, .int .u32 a, .int .u32 b, .int .u32 c] : Array Value)[j]?)) (by kernel_rfl) r1.cell (fun hHeld => ?_)
  replace r1 := r1.drew
  replace r2 := r2.drew
  replace r3 := r3.drew
  replace hc := hc.drew
  generalize V4.drew = X0 at *
  refine' wpAnyH_take (i := 0) (oi := _) (v := _) ?_ (by kernel_rfl) (by kernel_rfl) (by kernel_rfl) ?_ (Or.inl ⟨?_, ?_⟩) (by assumption) ?_
  rotate_left 2
  · (simp only [List.getElem?_toArray, List.getElem?_cons_succ, List.getElem?_cons_zero]; rfl)
  · first | exact fun _ _ _ h => h | exact fun _ _ _ h => nomatch h.1
  · rfl
  · (intro W hSW; (try dsimp only at hSW); go_split_ands; first | (go_simp; done) | (go_simp; with_reducible rfl))
  try simp only [Act.put, List.setIfInBounds_toArray, List.set_cons_zero, List.set_cons_succ]
  refine' wpAnyH_take (i := 1) (oi := _) (v := _) ?_ (by kernel_rfl) (by kernel_rfl) (by kernel_rfl) ?_ (Or.inl ⟨?_, ?_⟩) (by assumption) ?_
  rotate_left 2
  · (simp only [List.getElem?_toArray, List.getElem?_cons_succ, List.getElem?_cons_zero]; rfl)
  · first | exact fun _ _ _ h => h | exact fun _ _ _ h => nomatch h.1
  · rfl
  · (intro W hSW; (try dsimp only at hSW); go_split_ands; first | (go_simp; done) | (go_simp; with_reducible rfl))
  try simp only [Act.put, List.setIfInBounds_toArray, List.set_cons_zero, List.set_cons_succ]
  refine' wpAnyH_take (i := 2) (oi := _) (v := _) ?_ (by kernel_rfl) (by kernel_rfl) (by kernel_rfl) ?_ (Or.inl ⟨?_, ?_⟩) (by assumption) ?_
  rotate_left 2
  · (simp only [List.getElem?_toArray, List.getElem?_cons_succ, List.getElem?_cons_zero]; rfl)
  · first | exact fun _ _ _ h => h | exact fun _ _ _ h => nomatch h.1
  · rfl
  · (intro W hSW; (try dsimp only at hSW); go_split_ands; first | (go_simp; done) | (go_simp; with_reducible rfl))
  try simp only [Act.put, List.setIfInBounds_toArray, List.set_cons_zero, List.set_cons_succ]
  refine' wpAnyH_take (i := 3) (oi := _) (v := _) ?_ (by kernel_rfl) (by kernel_rfl) (by kernel_rfl) ?_ (Or.inl ⟨?_, ?_⟩) (by assumption) ?_
  rotate_left 2
  · (simp only [List.getElem?_toArray, List.getElem?_cons_succ, List.getElem?_cons_zero]; rfl)
  · first | exact fun _ _ _ h => h | exact fun _ _ _ h => nomatch h.1
  · rfl
  · (intro W hSW; (try dsimp only at hSW); go_split_ands; first | (go_simp; done) | (go_simp; with_reducible rfl))
  try simp only [Act.put, List.setIfInBounds_toArray, List.set_cons_zero, List.set_cons_succ]
  refine' wpAnyH_take (i := 4) (oi := _) (v := _) ?_ (by kernel_rfl) (by kernel_rfl) (by kernel_rfl) ?_ (Or.inl ⟨?_, ?_⟩) (by assumption) ?_
  rotate_left 2
  · (simp only [List.getElem?_toArray, List.getElem?_cons_succ, List.getElem?_cons_zero]; rfl)
  · first | exact fun _ _ _ h => h | exact fun _ _ _ h => nomatch h.1
  · rfl
  · (intro W hSW; (try dsimp only at hSW); go_split_ands; first | (go_simp; done) | (go_simp; with_reducible rfl))
  try simp only [Act.put, List.setIfInBounds_toArray, List.set_cons_zero, List.set_cons_succ]
  refine' wpAnyH_take (i := 5) (oi := _) (v := _) ?_ (by kernel_rfl) (by kernel_rfl) (by kernel_rfl) ?_ (Or.inl ⟨?_, ?_⟩) (by assumption) ?_
  rotate_left 2
  · (simp only [List.getElem?_toArray, List.getElem?_cons_succ, List.getElem?_cons_zero]; rfl)
  · first | exact fun _ _ _ h => h | exact fun _ _ _ h => nomatch h.1
  · rfl
  · (intro W hSW; (try dsimp only at hSW); go_split_ands; first | (go_simp; done) | (go_simp; with_reducible rfl))
  try simp only [Act.put, List.setIfInBounds_toArray, List.set_cons_zero, List.set_cons_succ]
  refine' wpAnyH_take (i := 6) (oi := _) (v := _) ?_ (by kernel_rfl) (by kernel_rfl) (by kernel_rfl) ?_ (Or.inl ⟨?_, ?_⟩) (by assumption) ?_
  rotate_left 2
  · (simp only [List.getElem?_toArray, List.getElem?_cons_succ, List.getElem?_cons_zero]; rfl)
  · first | exact fun _ _ _ h => h | exact fun _ _ _ h => nomatch h.1
  · rfl
  · (intro W hSW; (try dsimp only at hSW); go_split_ands; first | (go_simp; done) | (go_simp; with_reducible rfl))
  try simp only [Act.put, List.setIfInBounds_toArray, List.set_cons_zero, List.set_cons_succ]
  refine' wpAnyH_take (i := 7) (oi := _) (v := _) ?_ (by kernel_rfl) (by kernel_rfl) (by kernel_rfl) ?_ (Or.inl ⟨?_, ?_⟩) (by assumption) ?_
  rotate_left 2
  · (simp only [List.getElem?_toArray, List.getElem?_cons_succ, List.getElem?_cons_zero]; rfl)
  · first | exact fun _ _ _ h => h | exact fun _ _ _ h => nomatch h.1
  · rfl
  · (intro W hSW; (try dsimp only at hSW); go_split_ands; first | (go_simp; done) | (go_simp; with_reducible rfl))
  try simp only [Act.put, List.setIfInBounds_toArray, List.set_cons_zero, List.set_cons_succ]
  clear hHeld
  refine wpAnyH_done (by kernel_rfl) ?_ _
  have yr1 := r1.cell
  have zr1 := r1.lt
  have yr2 := r2.cell
  have zr2 := r2.lt
  have yr3 := r3.cell
  have zr3 := r3.lt
  have ur3 := r3.free
  go_upto_region 32 with fail
  clear yr1 yr2 yr3 zr1 zr2 zr3 ur3
  replace r1 := ((r1.other nr1_r3.symm 2 (.int .i64 ((a % 33) - 1))).other nr1_r3.symm 3 (.int .i64 (b % 8)))
  replace r2 := ((r2.other nr2_r3.symm 2 (.int .i64 ((a % 33) - 1))).other nr2_r3.symm 3 (.int .i64 (b % 8)))
  replace r3 := ((r3.set 2 (.int .i64 ((a % 33) - 1))).set 3 (.int .i64 (b % 8)))
  simp only [List.setIfInBounds_toArray, List.set_cons_zero, List.set_cons_succ] at r3
  replace hc := ((hc.setCell (p := ⟨b3, 2, none⟩) wr3 (.int .i64 ((a % 33) - 1))).setCell (p := ⟨b3, 3, none⟩) wr3 (.int .i64 (b % 8)))
  generalize hW : World.setCell _ _ _ = V5 at *
  clear hW
  have yr1 := r1.cell
  have zr1 := r1.lt
  have yr2 := r2.cell
  have zr2 := r2.lt
  have yr3 := r3.cell
  have zr3 := r3.lt
  have ur2 := r2.free
  go_wp2_with fail
  clear yr1 yr2 yr3 zr1 zr2 zr3 ur2
  replace r2 := r2.set 0 (.int .i64 5)
  replace r2 := r2.set 1 (.int .i64 (m % 4))
  replace r2 := r2.set 2 (.int .i64 ((a % 33) - 1))
  replace r2 := r2.set 3 (.int .i64 (b % 8))
  replace r2 := r2.set 4 (.int .i64 0)
  replace r2 := r2.set 5 (.string ⟨#[]⟩)
  replace hc := hc.setCell (p := ⟨w.heap.size + 1, 0, none⟩) wr2 (.int .i64 5)
  replace hc := hc.setCell (p := ⟨w.heap.size + 1, 1, none⟩) wr2 (.int .i64 (m % 4))
  replace hc := hc.setCell (p := ⟨w.heap.size + 1, 2, none⟩) wr2 (.int .i64 ((a % 33) - 1))
  replace hc := hc.setCell (p := ⟨w.heap.size + 1, 3, none⟩) wr2 (.int .i64 (b % 8))
  replace hc := hc.setCell (p := ⟨w.heap.size + 1, 4, none⟩) wr2 (.int .i64 0)
  replace hc := hc.setCell (p := ⟨w.heap.size + 1, 5, none⟩) wr2 (.string ⟨#[]⟩)
  simp only [List.setIfInBounds_toArray, List.set_cons_zero, List.set_cons_succ] at r2
  generalize hW : World.setCell _ _ _ = Z9 at *
  clear hW
  have z9 := r2.cell
  refine bodyPost_ret (v := opRV (5, ⟨(m % 4), ((a % 33) - 1), (b % 8), 0, ⟨#[]⟩⟩)) (by simp [results, Tryz.results9, go_sem, z9]) rfl ⟨⟨_, rfl, ?_⟩, hc⟩
  unfold okR
  rw [opOk_iff]
  simp (decide := true) only [mHi, aLo, aHi, bLo, bHi, cLo, cHi, tgOk]
  simp; omega
theorem made_6 (k m t a b c : Int) (w : World) (hk : k % 17 = 5) (k0 : 0 ≤ k) (k1 : k ≤ 255) (m0 : 0 ≤ m) (m1 : m ≤ 255) (t0 : 0 ≤ t) (t1 : t ≤ 255) (a0 : 0 ≤ a) (a1 : a ≤ 4294967295) (b0 : 0 ≤ b) (b1 : b ≤ 4294967295) (c0 : 0 ≤ c) (c1 : c ≤ 4294967295) :
    Calls Tryz.prog 9 #[.agg #[.int .u8 k, .int .u8 m, .int .u8 t, .int .u32 a, .int .u32 b, .int .u32 c]] w (MadeP w) := by
  have hc := Below.refl w.heap.size w
  have q1 : IntKind.i64.wrap k = k := IntWalk.i64_in _ ⟨by omega, by omega⟩
  have q2 : IntKind.i64.wrap m = m := IntWalk.i64_in _ ⟨by omega, by omega⟩
  have q3 : IntKind.i64.wrap a = a := IntWalk.i64_in _ ⟨by omega, by omega⟩
  have q4 : IntKind.i64.wrap b = b := IntWalk.i64_in _ ⟨by omega, by omega⟩
  have q5 : IntKind.i64.wrap c = c := IntWalk.i64_in _ ⟨by omega, by omega⟩
  have q6 : IntKind.i64.wrap t = t := IntWalk.i64_in _ ⟨by omega, by omega⟩
  obtain ⟨gb8, lb8⟩ := tm b 8 b0 (by decide)
  obtain ⟨gm, lm⟩ := tm m 4 m0 (by decide)
  go_enter Tryz.func9, Tryz.ntmps9
  go_upto_region 1 with fail
  have r1 := Row.new (W := w) (cs := #[.int .u8 k, .int .u8 m, .int .u8 t, .int .u32 a, .int .u32 b, .int .u32 c]) (t := 24)
  have hn := below_alloc w (.cells #[.int .u8 k, .int .u8 m, .int .u8 t, .int .u32 a, .int .u32 b, .int .u32 c] 24)
  replace hc := chain hc hn
  have hz1 : (w.alloc (.cells #[.int .u8 k, .int .u8 m, .int .u8 t, .int .u32 a, .int .u32 b, .int .u32 c] 24)).heap.size = w.heap.size + 1 := by simp
  clear hn
  generalize w.alloc (.cells #[.int .u8 k, .int .u8 m, .int .u8 t, .int .u32 a, .int .u32 b, .int .u32 c] 24) = V1 at r1 hc hz1 ⊢
  have r2 := Row.new (W := V1) (cs := #[.int .i64 0, .int .i64 0, .int .i64 0, .int .i64 0, .int .i64 0, .string ⟨#[]⟩]) (t := 31)
  have hn := below_alloc V1 (.cells #[.int .i64 0, .int .i64 0, .int .i64 0, .int .i64 0, .int .i64 0, .string ⟨#[]⟩] 31)
  replace r1 := r1.on hn
  replace hc := chain hc hn
  rw [hz1] at r2
  clear hn hz1
  generalize V1.alloc (.cells #[.int .i64 0, .int .i64 0, .int .i64 0, .int .i64 0, .int .i64 0, .string ⟨#[]⟩] 31) = V2 at r1 r2 hc ⊢
  have nr1_r2 : w.heap.size ≠ w.heap.size + 1 := by omega
  have wr2 : w.heap.size ≤ w.heap.size + 1 := by omega
  have wr1 : w.heap.size ≤ w.heap.size := Nat.le_refl _
  have yr1 := r1.cell
  have zr1 := r1.lt
  have yr2 := r2.cell
  have zr2 := r2.lt
  go_upto_region 2 with fail
  clear yr1 yr2 zr1 zr2
  have r3 := Row.new (W := V2) (cs := #[.int .i64 6, .int .i64 0, .int .i64 0, .int .i64 0, .int .i64 0, .string ⟨#[]⟩]) (t := 31)
  have hn := below_alloc V2 (.cells #[.int .i64 6, .int .i64 0, .int .i64 0, .int .i64 0, .int .i64 0, .string ⟨#[]⟩] 31)
  have nr1_r3 : w.heap.size ≠ V2.heap.size := Nat.ne_of_lt r1.lt
  have nr2_r3 : w.heap.size + 1 ≠ V2.heap.size := Nat.ne_of_lt r2.lt
  have wr3 : w.heap.size ≤ V2.heap.size := hc.size
  replace r1 := r1.on hn
  replace r2 := r2.on hn
  replace hc := chain hc hn
  clear hn
  generalize V2.alloc (.cells #[.int .i64 6, .int .i64 0, .int .i64 0, .int .i64 0, .int .i64 0, .string ⟨#[]⟩] 31) = V3 at r1 r2 r3 hc ⊢
  generalize V2.heap.size = b3 at *
  have yr1 := r1.cell
  have zr1 := r1.lt
  have yr2 := r2.cell
  have zr2 := r2.lt
  have yr3 := r3.cell
  have zr3 := r3.lt
  have ur3 := r3.free
  go_upto_region 4 with fail
  clear yr1 yr2 yr3 zr1 zr2 zr3 ur3
  replace r1 := (r1.other nr1_r3.symm 1 (.int .i64 (m % 4)))
  replace r2 := (r2.other nr2_r3.symm 1 (.int .i64 (m % 4)))
  replace r3 := (r3.set 1 (.int .i64 (m % 4)))
  simp only [List.setIfInBounds_toArray, List.set_cons_zero, List.set_cons_succ] at r3
  replace hc := (hc.setCell (p := ⟨b3, 1, none⟩) wr3 (.int .i64 (m % 4)))
  generalize hW : World.setCell _ _ _ = V4 at *
  clear hW
  refine wp_region_held_drew (S := fun W' => (∀ j, W'.cell? ⟨w.heap.size, j, none⟩ = (#[.int .u8 k, .int .u8 m, .int .u8 t, .int .u32 a, .int .u32 b, .int .u32 c] : Array Value)[j]?)) (by kernel_rfl) r1.cell (fun hHeld => ?_)
  replace r1 := r1.drew
  replace r2 := r2.drew
  replace r3 := r3.drew
  replace hc := hc.drew
  generalize V4.drew = X0 at *
  refine' wpAnyH_take (i := 0) (oi := _) (v := _) ?_ (by kernel_rfl) (by kernel_rfl) (by kernel_rfl) ?_ (Or.inl ⟨?_, ?_⟩) (by assumption) ?_
  rotate_left 2
  · (simp only [List.getElem?_toArray, List.getElem?_cons_succ, List.getElem?_cons_zero]; rfl)
  · first | exact fun _ _ _ h => h | exact fun _ _ _ h => nomatch h.1
  · rfl
  · (intro W hSW; (try dsimp only at hSW); go_split_ands; first | (go_simp; done) | (go_simp; with_reducible rfl))
  try simp only [Act.put, List.setIfInBounds_toArray, List.set_cons_zero, List.set_cons_succ]
  refine' wpAnyH_take (i := 1) (oi := _) (v := _) ?_ (by kernel_rfl) (by kernel_rfl) (by kernel_rfl) ?_ (Or.inl ⟨?_, ?_⟩) (by assumption) ?_
  rotate_left 2
  · (simp only [List.getElem?_toArray, List.getElem?_cons_succ, List.getElem?_cons_zero]; rfl)
  · first | exact fun _ _ _ h => h | exact fun _ _ _ h => nomatch h.1
  · rfl
  · (intro W hSW; (try dsimp only at hSW); go_split_ands; first | (go_simp; done) | (go_simp; with_reducible rfl))
  try simp only [Act.put, List.setIfInBounds_toArray, List.set_cons_zero, List.set_cons_succ]
  refine' wpAnyH_take (i := 2) (oi := _) (v := _) ?_ (by kernel_rfl) (by kernel_rfl) (by kernel_rfl) ?_ (Or.inl ⟨?_, ?_⟩) (by assumption) ?_
  rotate_left 2
  · (simp only [List.getElem?_toArray, List.getElem?_cons_succ, List.getElem?_cons_zero]; rfl)
  · first | exact fun _ _ _ h => h | exact fun _ _ _ h => nomatch h.1
  · rfl
  · (intro W hSW; (try dsimp only at hSW); go_split_ands; first | (go_simp; done) | (go_simp; with_reducible rfl))
  try simp only [Act.put, List.setIfInBounds_toArray, List.set_cons_zero, List.set_cons_succ]
  refine' wpAnyH_take (i := 3) (oi := _) (v := _) ?_ (by kernel_rfl) (by kernel_rfl) (by kernel_rfl) ?_ (Or.inl ⟨?_, ?_⟩) (by assumption) ?_
  rotate_left 2
  · (simp only [List.getElem?_toArray, List.getElem?_cons_succ, List.getElem?_cons_zero]; rfl)
  · first | exact fun _ _ _ h => h | exact fun _ _ _ h => nomatch h.1
  · rfl
  · (intro W hSW; (try dsimp only at hSW); go_split_ands; first | (go_simp; done) | (go_simp; with_reducible rfl))
  try simp only [Act.put, List.setIfInBounds_toArray, List.set_cons_zero, List.set_cons_succ]
  refine' wpAnyH_take (i := 4) (oi := _) (v := _) ?_ (by kernel_rfl) (by kernel_rfl) (by kernel_rfl) ?_ (Or.inl ⟨?_, ?_⟩) (by assumption) ?_
  rotate_left 2
  · (simp only [List.getElem?_toArray, List.getElem?_cons_succ, List.getElem?_cons_zero]; rfl)
  · first | exact fun _ _ _ h => h | exact fun _ _ _ h => nomatch h.1
  · rfl
  · (intro W hSW; (try dsimp only at hSW); go_split_ands; first | (go_simp; done) | (go_simp; with_reducible rfl))
  try simp only [Act.put, List.setIfInBounds_toArray, List.set_cons_zero, List.set_cons_succ]
  refine' wpAnyH_take (i := 5) (oi := _) (v := _) ?_ (by kernel_rfl) (by kernel_rfl) (by kernel_rfl) ?_ (Or.inl ⟨?_, ?_⟩) (by assumption) ?_
  rotate_left 2
  · (simp only [List.getElem?_toArray, List.getElem?_cons_succ, List.getElem?_cons_zero]; rfl)
  · first | exact fun _ _ _ h => h | exact fun _ _ _ h => nomatch h.1
  · rfl
  · (intro W hSW; (try dsimp only at hSW); go_split_ands; first | (go_simp; done) | (go_simp; with_reducible rfl))
  try simp only [Act.put, List.setIfInBounds_toArray, List.set_cons_zero, List.set_cons_succ]
  refine' wpAnyH_take (i := 6) (oi := _) (v := _) ?_ (by kernel_rfl) (by kernel_rfl) (by kernel_rfl) ?_ (Or.inl ⟨?_, ?_⟩) (by assumption) ?_
  rotate_left 2
  · (simp only [List.getElem?_toArray, List.getElem?_cons_succ, List.getElem?_cons_zero]; rfl)
  · first | exact fun _ _ _ h => h | exact fun _ _ _ h => nomatch h.1
  · rfl
  · (intro W hSW; (try dsimp only at hSW); go_split_ands; first | (go_simp; done) | (go_simp; with_reducible rfl))
  try simp only [Act.put, List.setIfInBounds_toArray, List.set_cons_zero, List.set_cons_succ]
  refine' wpAnyH_take (i := 7) (oi := _) (v := _) ?_ (by kernel_rfl) (by kernel_rfl) (by kernel_rfl) ?_ (Or.inl ⟨?_, ?_⟩) (by assumption) ?_
  rotate_left 2
  · (simp only [List.getElem?_toArray, List.getElem?_cons_succ, List.getElem?_cons_zero]; rfl)
  · first | exact fun _ _ _ h => h | exact fun _ _ _ h => nomatch h.1
  · rfl
  · (intro W hSW; (try dsimp only at hSW); go_split_ands; first | (go_simp; done) | (go_simp; with_reducible rfl))
  try simp only [Act.put, List.setIfInBounds_toArray, List.set_cons_zero, List.set_cons_succ]
  clear hHeld
  refine wpAnyH_done (by kernel_rfl) ?_ _
  have yr1 := r1.cell
  have zr1 := r1.lt
  have yr2 := r2.cell
  have zr2 := r2.lt
  have yr3 := r3.cell
  have zr3 := r3.lt
  have ur3 := r3.free
  go_upto_region 32 with fail
  clear yr1 yr2 yr3 zr1 zr2 zr3 ur3
  replace r1 := (r1.other nr1_r3.symm 3 (.int .i64 (b % 8)))
  replace r2 := (r2.other nr2_r3.symm 3 (.int .i64 (b % 8)))
  replace r3 := (r3.set 3 (.int .i64 (b % 8)))
  simp only [List.setIfInBounds_toArray, List.set_cons_zero, List.set_cons_succ] at r3
  replace hc := (hc.setCell (p := ⟨b3, 3, none⟩) wr3 (.int .i64 (b % 8)))
  generalize hW : World.setCell _ _ _ = V5 at *
  clear hW
  have yr1 := r1.cell
  have zr1 := r1.lt
  have yr2 := r2.cell
  have zr2 := r2.lt
  have yr3 := r3.cell
  have zr3 := r3.lt
  have ur2 := r2.free
  go_wp2_with fail
  clear yr1 yr2 yr3 zr1 zr2 zr3 ur2
  replace r2 := r2.set 0 (.int .i64 6)
  replace r2 := r2.set 1 (.int .i64 (m % 4))
  replace r2 := r2.set 2 (.int .i64 0)
  replace r2 := r2.set 3 (.int .i64 (b % 8))
  replace r2 := r2.set 4 (.int .i64 0)
  replace r2 := r2.set 5 (.string ⟨#[]⟩)
  replace hc := hc.setCell (p := ⟨w.heap.size + 1, 0, none⟩) wr2 (.int .i64 6)
  replace hc := hc.setCell (p := ⟨w.heap.size + 1, 1, none⟩) wr2 (.int .i64 (m % 4))
  replace hc := hc.setCell (p := ⟨w.heap.size + 1, 2, none⟩) wr2 (.int .i64 0)
  replace hc := hc.setCell (p := ⟨w.heap.size + 1, 3, none⟩) wr2 (.int .i64 (b % 8))
  replace hc := hc.setCell (p := ⟨w.heap.size + 1, 4, none⟩) wr2 (.int .i64 0)
  replace hc := hc.setCell (p := ⟨w.heap.size + 1, 5, none⟩) wr2 (.string ⟨#[]⟩)
  simp only [List.setIfInBounds_toArray, List.set_cons_zero, List.set_cons_succ] at r2
  generalize hW : World.setCell _ _ _ = Z9 at *
  clear hW
  have z9 := r2.cell
  refine bodyPost_ret (v := opRV (6, ⟨(m % 4), 0, (b % 8), 0, ⟨#[]⟩⟩)) (by simp [results, Tryz.results9, go_sem, z9]) rfl ⟨⟨_, rfl, ?_⟩, hc⟩
  unfold okR
  rw [opOk_iff]
  simp (decide := true) only [mHi, aLo, aHi, bLo, bHi, cLo, cHi, tgOk]
  simp; omega
theorem made_7 (k m t a b c : Int) (w : World) (hk : k % 17 = 6) (k0 : 0 ≤ k) (k1 : k ≤ 255) (m0 : 0 ≤ m) (m1 : m ≤ 255) (t0 : 0 ≤ t) (t1 : t ≤ 255) (a0 : 0 ≤ a) (a1 : a ≤ 4294967295) (b0 : 0 ≤ b) (b1 : b ≤ 4294967295) (c0 : 0 ≤ c) (c1 : c ≤ 4294967295) :
    Calls Tryz.prog 9 #[.agg #[.int .u8 k, .int .u8 m, .int .u8 t, .int .u32 a, .int .u32 b, .int .u32 c]] w (MadeP w) := by
  have hc := Below.refl w.heap.size w
  have q1 : IntKind.i64.wrap k = k := IntWalk.i64_in _ ⟨by omega, by omega⟩
  have q2 : IntKind.i64.wrap m = m := IntWalk.i64_in _ ⟨by omega, by omega⟩
  have q3 : IntKind.i64.wrap a = a := IntWalk.i64_in _ ⟨by omega, by omega⟩
  have q4 : IntKind.i64.wrap b = b := IntWalk.i64_in _ ⟨by omega, by omega⟩
  have q5 : IntKind.i64.wrap c = c := IntWalk.i64_in _ ⟨by omega, by omega⟩
  have q6 : IntKind.i64.wrap t = t := IntWalk.i64_in _ ⟨by omega, by omega⟩
  obtain ⟨gm, lm⟩ := tm m 4 m0 (by decide)
  go_enter Tryz.func9, Tryz.ntmps9
  go_upto_region 1 with fail
  have r1 := Row.new (W := w) (cs := #[.int .u8 k, .int .u8 m, .int .u8 t, .int .u32 a, .int .u32 b, .int .u32 c]) (t := 24)
  have hn := below_alloc w (.cells #[.int .u8 k, .int .u8 m, .int .u8 t, .int .u32 a, .int .u32 b, .int .u32 c] 24)
  replace hc := chain hc hn
  have hz1 : (w.alloc (.cells #[.int .u8 k, .int .u8 m, .int .u8 t, .int .u32 a, .int .u32 b, .int .u32 c] 24)).heap.size = w.heap.size + 1 := by simp
  clear hn
  generalize w.alloc (.cells #[.int .u8 k, .int .u8 m, .int .u8 t, .int .u32 a, .int .u32 b, .int .u32 c] 24) = V1 at r1 hc hz1 ⊢
  have r2 := Row.new (W := V1) (cs := #[.int .i64 0, .int .i64 0, .int .i64 0, .int .i64 0, .int .i64 0, .string ⟨#[]⟩]) (t := 31)
  have hn := below_alloc V1 (.cells #[.int .i64 0, .int .i64 0, .int .i64 0, .int .i64 0, .int .i64 0, .string ⟨#[]⟩] 31)
  replace r1 := r1.on hn
  replace hc := chain hc hn
  rw [hz1] at r2
  clear hn hz1
  generalize V1.alloc (.cells #[.int .i64 0, .int .i64 0, .int .i64 0, .int .i64 0, .int .i64 0, .string ⟨#[]⟩] 31) = V2 at r1 r2 hc ⊢
  have nr1_r2 : w.heap.size ≠ w.heap.size + 1 := by omega
  have wr2 : w.heap.size ≤ w.heap.size + 1 := by omega
  have wr1 : w.heap.size ≤ w.heap.size := Nat.le_refl _
  have yr1 := r1.cell
  have zr1 := r1.lt
  have yr2 := r2.cell
  have zr2 := r2.lt
  go_upto_region 2 with fail
  clear yr1 yr2 zr1 zr2
  have r3 := Row.new (W := V2) (cs := #[.int .i64 7, .int .i64 0, .int .i64 0, .int .i64 0, .int .i64 0, .string ⟨#[]⟩]) (t := 31)
  have hn := below_alloc V2 (.cells #[.int .i64 7, .int .i64 0, .int .i64 0, .int .i64 0, .int .i64 0, .string ⟨#[]⟩] 31)
  have nr1_r3 : w.heap.size ≠ V2.heap.size := Nat.ne_of_lt r1.lt
  have nr2_r3 : w.heap.size + 1 ≠ V2.heap.size := Nat.ne_of_lt r2.lt
  have wr3 : w.heap.size ≤ V2.heap.size := hc.size
  replace r1 := r1.on hn
  replace r2 := r2.on hn
  replace hc := chain hc hn
  clear hn
  generalize V2.alloc (.cells #[.int .i64 7, .int .i64 0, .int .i64 0, .int .i64 0, .int .i64 0, .string ⟨#[]⟩] 31) = V3 at r1 r2 r3 hc ⊢
  generalize V2.heap.size = b3 at *
  have yr1 := r1.cell
  have zr1 := r1.lt
  have yr2 := r2.cell
  have zr2 := r2.lt
  have yr3 := r3.cell
  have zr3 := r3.lt
  have ur3 := r3.free
  go_upto_region 4 with fail
  clear yr1 yr2 yr3 zr1 zr2 zr3 ur3
  replace r1 := (r1.other nr1_r3.symm 1 (.int .i64 (m % 4)))
  replace r2 := (r2.other nr2_r3.symm 1 (.int .i64 (m % 4)))
  replace r3 := (r3.set 1 (.int .i64 (m % 4)))
  simp only [List.setIfInBounds_toArray, List.set_cons_zero, List.set_cons_succ] at r3
  replace hc := (hc.setCell (p := ⟨b3, 1, none⟩) wr3 (.int .i64 (m % 4)))
  generalize hW : World.setCell _ _ _ = V4 at *
  clear hW
  refine wp_region_held_drew (S := fun W' => (∀ j, W'.cell? ⟨w.heap.size, j, none⟩ = (#[.int .u8 k, .int .u8 m, .int .u8 t, .int .u32 a, .int .u32 b, .int .u32 c] : Array Value)[j]?)) (by kernel_rfl) r1.cell (fun hHeld => ?_)
  replace r1 := r1.drew
  replace r2 := r2.drew
  replace r3 := r3.drew
  replace hc := hc.drew
  generalize V4.drew = X0 at *
  refine' wpAnyH_take (i := 0) (oi := _) (v := _) ?_ (by kernel_rfl) (by kernel_rfl) (by kernel_rfl) ?_ (Or.inl ⟨?_, ?_⟩) (by assumption) ?_
  rotate_left 2
  · (simp only [List.getElem?_toArray, List.getElem?_cons_succ, List.getElem?_cons_zero]; rfl)
  · first | exact fun _ _ _ h => h | exact fun _ _ _ h => nomatch h.1
  · rfl
  · (intro W hSW; (try dsimp only at hSW); go_split_ands; first | (go_simp; done) | (go_simp; with_reducible rfl))
  try simp only [Act.put, List.setIfInBounds_toArray, List.set_cons_zero, List.set_cons_succ]
  refine' wpAnyH_take (i := 1) (oi := _) (v := _) ?_ (by kernel_rfl) (by kernel_rfl) (by kernel_rfl) ?_ (Or.inl ⟨?_, ?_⟩) (by assumption) ?_
  rotate_left 2
  · (simp only [List.getElem?_toArray, List.getElem?_cons_succ, List.getElem?_cons_zero]; rfl)
  · first | exact fun _ _ _ h => h | exact fun _ _ _ h => nomatch h.1
  · rfl
  · (intro W hSW; (try dsimp only at hSW); go_split_ands; first | (go_simp; done) | (go_simp; with_reducible rfl))
  try simp only [Act.put, List.setIfInBounds_toArray, List.set_cons_zero, List.set_cons_succ]
  refine' wpAnyH_take (i := 2) (oi := _) (v := _) ?_ (by kernel_rfl) (by kernel_rfl) (by kernel_rfl) ?_ (Or.inl ⟨?_, ?_⟩) (by assumption) ?_
  rotate_left 2
  · (simp only [List.getElem?_toArray, List.getElem?_cons_succ, List.getElem?_cons_zero]; rfl)
  · first | exact fun _ _ _ h => h | exact fun _ _ _ h => nomatch h.1
  · rfl
  · (intro W hSW; (try dsimp only at hSW); go_split_ands; first | (go_simp; done) | (go_simp; with_reducible rfl))
  try simp only [Act.put, List.setIfInBounds_toArray, List.set_cons_zero, List.set_cons_succ]
  refine' wpAnyH_take (i := 3) (oi := _) (v := _) ?_ (by kernel_rfl) (by kernel_rfl) (by kernel_rfl) ?_ (Or.inl ⟨?_, ?_⟩) (by assumption) ?_
  rotate_left 2
  · (simp only [List.getElem?_toArray, List.getElem?_cons_succ, List.getElem?_cons_zero]; rfl)
  · first | exact fun _ _ _ h => h | exact fun _ _ _ h => nomatch h.1
  · rfl
  · (intro W hSW; (try dsimp only at hSW); go_split_ands; first | (go_simp; done) | (go_simp; with_reducible rfl))
  try simp only [Act.put, List.setIfInBounds_toArray, List.set_cons_zero, List.set_cons_succ]
  refine' wpAnyH_take (i := 4) (oi := _) (v := _) ?_ (by kernel_rfl) (by kernel_rfl) (by kernel_rfl) ?_ (Or.inl ⟨?_, ?_⟩) (by assumption) ?_
  rotate_left 2
  · (simp only [List.getElem?_toArray, List.getElem?_cons_succ, List.getElem?_cons_zero]; rfl)
  · first | exact fun _ _ _ h => h | exact fun _ _ _ h => nomatch h.1
  · rfl
  · (intro W hSW; (try dsimp only at hSW); go_split_ands; first | (go_simp; done) | (go_simp; with_reducible rfl))
  try simp only [Act.put, List.setIfInBounds_toArray, List.set_cons_zero, List.set_cons_succ]
  refine' wpAnyH_take (i := 5) (oi := _) (v := _) ?_ (by kernel_rfl) (by kernel_rfl) (by kernel_rfl) ?_ (Or.inl ⟨?_, ?_⟩) (by assumption) ?_
  rotate_left 2
  · (simp only [List.getElem?_toArray, List.getElem?_cons_succ, List.getElem?_cons_zero]; rfl)
  · first | exact fun _ _ _ h => h | exact fun _ _ _ h => nomatch h.1
  · rfl
  · (intro W hSW; (try dsimp only at hSW); go_split_ands; first | (go_simp; done) | (go_simp; with_reducible rfl))
  try simp only [Act.put, List.setIfInBounds_toArray, List.set_cons_zero, List.set_cons_succ]
  refine' wpAnyH_take (i := 6) (oi := _) (v := _) ?_ (by kernel_rfl) (by kernel_rfl) (by kernel_rfl) ?_ (Or.inl ⟨?_, ?_⟩) (by assumption) ?_
  rotate_left 2
  · (simp only [List.getElem?_toArray, List.getElem?_cons_succ, List.getElem?_cons_zero]; rfl)
  · first | exact fun _ _ _ h => h | exact fun _ _ _ h => nomatch h.1
  · rfl
  · (intro W hSW; (try dsimp only at hSW); go_split_ands; first | (go_simp; done) | (go_simp; with_reducible rfl))
  try simp only [Act.put, List.setIfInBounds_toArray, List.set_cons_zero, List.set_cons_succ]
  refine' wpAnyH_take (i := 7) (oi := _) (v := _) ?_ (by kernel_rfl) (by kernel_rfl) (by kernel_rfl) ?_ (Or.inl ⟨?_, ?_⟩) (by assumption) ?_
  rotate_left 2
  · (simp only [List.getElem?_toArray, List.getElem?_cons_succ, List.getElem?_cons_zero]; rfl)
  · first | exact fun _ _ _ h => h | exact fun _ _ _ h => nomatch h.1
  · rfl
  · (intro W hSW; (try dsimp only at hSW); go_split_ands; first | (go_simp; done) | (go_simp; with_reducible rfl))
  try simp only [Act.put, List.setIfInBounds_toArray, List.set_cons_zero, List.set_cons_succ]
  clear hHeld
  refine wpAnyH_done (by kernel_rfl) ?_ _
  have yr1 := r1.cell
  have zr1 := r1.lt
  have yr2 := r2.cell
  have zr2 := r2.lt
  have yr3 := r3.cell
  have zr3 := r3.lt
  have ur2 := r2.free
  go_wp2_with fail
  clear yr1 yr2 yr3 zr1 zr2 zr3 ur2
  replace r2 := r2.set 0 (.int .i64 7)
  replace r2 := r2.set 1 (.int .i64 (m % 4))
  replace r2 := r2.set 2 (.int .i64 0)
  replace r2 := r2.set 3 (.int .i64 0)
  replace r2 := r2.set 4 (.int .i64 0)
  replace r2 := r2.set 5 (.string ⟨#[]⟩)
  replace hc := hc.setCell (p := ⟨w.heap.size + 1, 0, none⟩) wr2 (.int .i64 7)
  replace hc := hc.setCell (p := ⟨w.heap.size + 1, 1, none⟩) wr2 (.int .i64 (m % 4))
  replace hc := hc.setCell (p := ⟨w.heap.size + 1, 2, none⟩) wr2 (.int .i64 0)
  replace hc := hc.setCell (p := ⟨w.heap.size + 1, 3, none⟩) wr2 (.int .i64 0)
  replace hc := hc.setCell (p := ⟨w.heap.size + 1, 4, none⟩) wr2 (.int .i64 0)
  replace hc := hc.setCell (p := ⟨w.heap.size + 1, 5, none⟩) wr2 (.string ⟨#[]⟩)
  simp only [List.setIfInBounds_toArray, List.set_cons_zero, List.set_cons_succ] at r2
  generalize hW : World.setCell _ _ _ = Z9 at *
  clear hW
  have z9 := r2.cell
  refine bodyPost_ret (v := opRV (7, ⟨(m % 4), 0, 0, 0, ⟨#[]⟩⟩)) (by simp [results, Tryz.results9, go_sem, z9]) rfl ⟨⟨_, rfl, ?_⟩, hc⟩
  unfold okR
  rw [opOk_iff]
  simp (decide := true) only [mHi, aLo, aHi, bLo, bHi, cLo, cHi, tgOk]
  simp; omega
theorem made_8_0 (k m t a b c : Int) (w : World) (hk : k % 17 = 7) (ht : t % 6 = 0) (k0 : 0 ≤ k) (k1 : k ≤ 255) (m0 : 0 ≤ m) (m1 : m ≤ 255) (t0 : 0 ≤ t) (t1 : t ≤ 255) (a0 : 0 ≤ a) (a1 : a ≤ 4294967295) (b0 : 0 ≤ b) (b1 : b ≤ 4294967295) (c0 : 0 ≤ c) (c1 : c ≤ 4294967295) :
    Calls Tryz.prog 9 #[.agg #[.int .u8 k, .int .u8 m, .int .u8 t, .int .u32 a, .int .u32 b, .int .u32 c]] w (MadeP w) := by
  have hc := Below.refl w.heap.size w
  have q1 : IntKind.i64.wrap k = k := IntWalk.i64_in _ ⟨by omega, by omega⟩
  have q2 : IntKind.i64.wrap m = m := IntWalk.i64_in _ ⟨by omega, by omega⟩
  have q3 : IntKind.i64.wrap a = a := IntWalk.i64_in _ ⟨by omega, by omega⟩
  have q4 : IntKind.i64.wrap b = b := IntWalk.i64_in _ ⟨by omega, by omega⟩
  have q5 : IntKind.i64.wrap c = c := IntWalk.i64_in _ ⟨by omega, by omega⟩
  have q6 : IntKind.i64.wrap t = t := IntWalk.i64_in _ ⟨by omega, by omega⟩
  obtain ⟨ga3, la3⟩ := tm a 3 a0 (by decide)
  obtain ⟨gb1048577, lb1048577⟩ := tm b 1048577 b0 (by decide)
  obtain ⟨gm, lm⟩ := tm m 4 m0 (by decide)
  have x0 := w64 (1 + (a % 3)) (by omega) (by omega)
  have ht2 : Int.tmod t 6 = 0 := by rw [Int.tmod_eq_emod_of_nonneg t0]; exact ht
  go_enter Tryz.func9, Tryz.ntmps9
  go_upto_region 1 with fail
  have r1 := Row.new (W := w) (cs := #[.int .u8 k, .int .u8 m, .int .u8 t, .int .u32 a, .int .u32 b, .int .u32 c]) (t := 24)
  have hn := below_alloc w (.cells #[.int .u8 k, .int .u8 m, .int .u8 t, .int .u32 a, .int .u32 b, .int .u32 c] 24)
  replace hc := chain hc hn
  have hz1 : (w.alloc (.cells #[.int .u8 k, .int .u8 m, .int .u8 t, .int .u32 a, .int .u32 b, .int .u32 c] 24)).heap.size = w.heap.size + 1 := by simp
  clear hn
  generalize w.alloc (.cells #[.int .u8 k, .int .u8 m, .int .u8 t, .int .u32 a, .int .u32 b, .int .u32 c] 24) = V1 at r1 hc hz1 ⊢
  have r2 := Row.new (W := V1) (cs := #[.int .i64 0, .int .i64 0, .int .i64 0, .int .i64 0, .int .i64 0, .string ⟨#[]⟩]) (t := 31)
  have hn := below_alloc V1 (.cells #[.int .i64 0, .int .i64 0, .int .i64 0, .int .i64 0, .int .i64 0, .string ⟨#[]⟩] 31)
  replace r1 := r1.on hn
  replace hc := chain hc hn
  rw [hz1] at r2
  clear hn hz1
  generalize V1.alloc (.cells #[.int .i64 0, .int .i64 0, .int .i64 0, .int .i64 0, .int .i64 0, .string ⟨#[]⟩] 31) = V2 at r1 r2 hc ⊢
  have nr1_r2 : w.heap.size ≠ w.heap.size + 1 := by omega
  have wr2 : w.heap.size ≤ w.heap.size + 1 := by omega
  have wr1 : w.heap.size ≤ w.heap.size := Nat.le_refl _
  have yr1 := r1.cell
  have zr1 := r1.lt
  have yr2 := r2.cell
  have zr2 := r2.lt
  go_upto_region 2 with fail
  clear yr1 yr2 zr1 zr2
  have r3 := Row.new (W := V2) (cs := #[.int .i64 8, .int .i64 0, .int .i64 0, .int .i64 0, .int .i64 0, .string ⟨#[]⟩]) (t := 31)
  have hn := below_alloc V2 (.cells #[.int .i64 8, .int .i64 0, .int .i64 0, .int .i64 0, .int .i64 0, .string ⟨#[]⟩] 31)
  have nr1_r3 : w.heap.size ≠ V2.heap.size := Nat.ne_of_lt r1.lt
  have nr2_r3 : w.heap.size + 1 ≠ V2.heap.size := Nat.ne_of_lt r2.lt
  have wr3 : w.heap.size ≤ V2.heap.size := hc.size
  replace r1 := r1.on hn
  replace r2 := r2.on hn
  replace hc := chain hc hn
  clear hn
  generalize V2.alloc (.cells #[.int .i64 8, .int .i64 0, .int .i64 0, .int .i64 0, .int .i64 0, .string ⟨#[]⟩] 31) = V3 at r1 r2 r3 hc ⊢
  generalize V2.heap.size = b3 at *
  have yr1 := r1.cell
  have zr1 := r1.lt
  have yr2 := r2.cell
  have zr2 := r2.lt
  have yr3 := r3.cell
  have zr3 := r3.lt
  have ur3 := r3.free
  go_upto_region 4 with fail
  clear yr1 yr2 yr3 zr1 zr2 zr3 ur3
  replace r1 := (r1.other nr1_r3.symm 1 (.int .i64 (m % 4)))
  replace r2 := (r2.other nr2_r3.symm 1 (.int .i64 (m % 4)))
  replace r3 := (r3.set 1 (.int .i64 (m % 4)))
  simp only [List.setIfInBounds_toArray, List.set_cons_zero, List.set_cons_succ] at r3
  replace hc := (hc.setCell (p := ⟨b3, 1, none⟩) wr3 (.int .i64 (m % 4)))
  generalize hW : World.setCell _ _ _ = V4 at *
  clear hW
  refine wp_region_held_drew (S := fun W' => (∀ j, W'.cell? ⟨w.heap.size, j, none⟩ = (#[.int .u8 k, .int .u8 m, .int .u8 t, .int .u32 a, .int .u32 b, .int .u32 c] : Array Value)[j]?)) (by kernel_rfl) r1.cell (fun hHeld => ?_)
  replace r1 := r1.drew
  replace r2 := r2.drew
  replace r3 := r3.drew
  replace hc := hc.drew
  generalize V4.drew = X0 at *
  refine' wpAnyH_take (i := 0) (oi := _) (v := _) ?_ (by kernel_rfl) (by kernel_rfl) (by kernel_rfl) ?_ (Or.inl ⟨?_, ?_⟩) (by assumption) ?_
  rotate_left 2
  · (simp only [List.getElem?_toArray, List.getElem?_cons_succ, List.getElem?_cons_zero]; rfl)
  · first | exact fun _ _ _ h => h | exact fun _ _ _ h => nomatch h.1
  · rfl
  · (intro W hSW; (try dsimp only at hSW); go_split_ands; first | (go_simp; done) | (go_simp; with_reducible rfl))
  try simp only [Act.put, List.setIfInBounds_toArray, List.set_cons_zero, List.set_cons_succ]
  refine' wpAnyH_take (i := 1) (oi := _) (v := _) ?_ (by kernel_rfl) (by kernel_rfl) (by kernel_rfl) ?_ (Or.inl ⟨?_, ?_⟩) (by assumption) ?_
  rotate_left 2
  · (simp only [List.getElem?_toArray, List.getElem?_cons_succ, List.getElem?_cons_zero]; rfl)
  · first | exact fun _ _ _ h => h | exact fun _ _ _ h => nomatch h.1
  · rfl
  · (intro W hSW; (try dsimp only at hSW); go_split_ands; first | (go_simp; done) | (go_simp; with_reducible rfl))
  try simp only [Act.put, List.setIfInBounds_toArray, List.set_cons_zero, List.set_cons_succ]
  refine' wpAnyH_take (i := 2) (oi := _) (v := _) ?_ (by kernel_rfl) (by kernel_rfl) (by kernel_rfl) ?_ (Or.inl ⟨?_, ?_⟩) (by assumption) ?_
  rotate_left 2
  · (simp only [List.getElem?_toArray, List.getElem?_cons_succ, List.getElem?_cons_zero]; rfl)
  · first | exact fun _ _ _ h => h | exact fun _ _ _ h => nomatch h.1
  · rfl
  · (intro W hSW; (try dsimp only at hSW); go_split_ands; first | (go_simp; done) | (go_simp; with_reducible rfl))
  try simp only [Act.put, List.setIfInBounds_toArray, List.set_cons_zero, List.set_cons_succ]
  refine' wpAnyH_take (i := 3) (oi := _) (v := _) ?_ (by kernel_rfl) (by kernel_rfl) (by kernel_rfl) ?_ (Or.inl ⟨?_, ?_⟩) (by assumption) ?_
  rotate_left 2
  · (simp only [List.getElem?_toArray, List.getElem?_cons_succ, List.getElem?_cons_zero]; rfl)
  · first | exact fun _ _ _ h => h | exact fun _ _ _ h => nomatch h.1
  · rfl
  · (intro W hSW; (try dsimp only at hSW); go_split_ands; first | (go_simp; done) | (go_simp; with_reducible rfl))
  try simp only [Act.put, List.setIfInBounds_toArray, List.set_cons_zero, List.set_cons_succ]
  refine' wpAnyH_take (i := 4) (oi := _) (v := _) ?_ (by kernel_rfl) (by kernel_rfl) (by kernel_rfl) ?_ (Or.inl ⟨?_, ?_⟩) (by assumption) ?_
  rotate_left 2
  · (simp only [List.getElem?_toArray, List.getElem?_cons_succ, List.getElem?_cons_zero]; rfl)
  · first | exact fun _ _ _ h => h | exact fun _ _ _ h => nomatch h.1
  · rfl
  · (intro W hSW; (try dsimp only at hSW); go_split_ands; first | (go_simp; done) | (go_simp; with_reducible rfl))
  try simp only [Act.put, List.setIfInBounds_toArray, List.set_cons_zero, List.set_cons_succ]
  refine' wpAnyH_take (i := 5) (oi := _) (v := _) ?_ (by kernel_rfl) (by kernel_rfl) (by kernel_rfl) ?_ (Or.inl ⟨?_, ?_⟩) (by assumption) ?_
  rotate_left 2
  · (simp only [List.getElem?_toArray, List.getElem?_cons_succ, List.getElem?_cons_zero]; rfl)
  · first | exact fun _ _ _ h => h | exact fun _ _ _ h => nomatch h.1
  · rfl
  · (intro W hSW; (try dsimp only at hSW); go_split_ands; first | (go_simp; done) | (go_simp; with_reducible rfl))
  try simp only [Act.put, List.setIfInBounds_toArray, List.set_cons_zero, List.set_cons_succ]
  refine' wpAnyH_take (i := 6) (oi := _) (v := _) ?_ (by kernel_rfl) (by kernel_rfl) (by kernel_rfl) ?_ (Or.inl ⟨?_, ?_⟩) (by assumption) ?_
  rotate_left 2
  · (simp only [List.getElem?_toArray, List.getElem?_cons_succ, List.getElem?_cons_zero]; rfl)
  · first | exact fun _ _ _ h => h | exact fun _ _ _ h => nomatch h.1
  · rfl
  · (intro W hSW; (try dsimp only at hSW); go_split_ands; first | (go_simp; done) | (go_simp; with_reducible rfl))
  try simp only [Act.put, List.setIfInBounds_toArray, List.set_cons_zero, List.set_cons_succ]
  refine' wpAnyH_take (i := 7) (oi := _) (v := _) ?_ (by kernel_rfl) (by kernel_rfl) (by kernel_rfl) ?_ (Or.inl ⟨?_, ?_⟩) (by assumption) ?_
  rotate_left 2
  · (simp only [List.getElem?_toArray, List.getElem?_cons_succ, List.getElem?_cons_zero]; rfl)
  · first | exact fun _ _ _ h => h | exact fun _ _ _ h => nomatch h.1
  · rfl
  · (intro W hSW; (try dsimp only at hSW); go_split_ands; first | (go_simp; done) | (go_simp; with_reducible rfl))
  try simp only [Act.put, List.setIfInBounds_toArray, List.set_cons_zero, List.set_cons_succ]
  clear hHeld
  refine wpAnyH_done (by kernel_rfl) ?_ _
  have yr1 := r1.cell
  have zr1 := r1.lt
  have yr2 := r2.cell
  have zr2 := r2.lt
  have yr3 := r3.cell
  have zr3 := r3.lt
  have ur3 := r3.free
  go_upto_region 19 with fail
  clear yr1 yr2 yr3 zr1 zr2 zr3 ur3
  replace r1 := ((r1.other nr1_r3.symm 2 (.int .i64 (1 + (a % 3)))).other nr1_r3.symm 3 (.int .i64 (b % 1048577)))
  replace r2 := ((r2.other nr2_r3.symm 2 (.int .i64 (1 + (a % 3)))).other nr2_r3.symm 3 (.int .i64 (b % 1048577)))
  replace r3 := ((r3.set 2 (.int .i64 (1 + (a % 3)))).set 3 (.int .i64 (b % 1048577)))
  simp only [List.setIfInBounds_toArray, List.set_cons_zero, List.set_cons_succ] at r3
  replace hc := ((hc.setCell (p := ⟨b3, 2, none⟩) wr3 (.int .i64 (1 + (a % 3)))).setCell (p := ⟨b3, 3, none⟩) wr3 (.int .i64 (b % 1048577)))
  generalize hW : World.setCell _ _ _ = V5 at *
  clear hW
  refine wp_region_held_drew (S := fun W' => (∀ j, W'.cell? ⟨w.heap.size, j, none⟩ = (#[.int .u8 k, .int .u8 m, .int .u8 t, .int .u32 a, .int .u32 b, .int .u32 c] : Array Value)[j]?)) (by kernel_rfl) r1.cell (fun hHeld => ?_)
  replace r1 := r1.drew
  replace r2 := r2.drew
  replace r3 := r3.drew
  replace hc := hc.drew
  generalize V5.drew = X0 at *
  refine' wpAnyH_take (i := 2) (oi := _) (v := _) ?_ (by kernel_rfl) (by kernel_rfl) (by kernel_rfl) ?_ (Or.inl ⟨?_, ?_⟩) (by assumption) ?_
  rotate_left 2
  · (simp only [List.getElem?_toArray, List.getElem?_cons_succ, List.getElem?_cons_zero]; rfl)
  · first | exact fun _ _ _ h => h | exact fun _ _ _ h => nomatch h.1
  · rfl
  · (intro W hSW; (try dsimp only at hSW); go_split_ands; first | (go_simp; done) | (go_simp; with_reducible rfl))
  try simp only [Act.put, List.setIfInBounds_toArray, List.set_cons_zero, List.set_cons_succ]
  refine' wpAnyH_take (i := 3) (oi := _) (v := _) ?_ (by kernel_rfl) (by kernel_rfl) (by kernel_rfl) ?_ (Or.inl ⟨?_, ?_⟩) (by assumption) ?_
  rotate_left 2
  · (simp only [List.getElem?_toArray, List.getElem?_cons_succ, List.getElem?_cons_zero]; rfl)
  · first | exact fun _ _ _ h => h | exact fun _ _ _ h => nomatch h.1
  · rfl
  · (intro W hSW; (try dsimp only at hSW); go_split_ands; first | (go_simp; done) | (go_simp; with_reducible rfl))
  try simp only [Act.put, List.setIfInBounds_toArray, List.set_cons_zero, List.set_cons_succ]
  refine' wpAnyH_take (i := 4) (oi := _) (v := _) ?_ (by kernel_rfl) (by kernel_rfl) (by kernel_rfl) ?_ (Or.inl ⟨?_, ?_⟩) (by assumption) ?_
  rotate_left 2
  · (simp only [List.getElem?_toArray, List.getElem?_cons_succ, List.getElem?_cons_zero]; rfl)
  · first | exact fun _ _ _ h => h | exact fun _ _ _ h => nomatch h.1
  · rfl
  · (intro W hSW; (try dsimp only at hSW); go_split_ands; first | (go_simp; done) | (go_simp; with_reducible rfl))
  try simp only [Act.put, List.setIfInBounds_toArray, List.set_cons_zero, List.set_cons_succ]
  clear hHeld
  refine wpAnyH_ready (rs := [0]) (by kernel_rfl) (by simp) ?_
  refine' AllReadyH.cons (o := _) ?_ (fun K hK => ?_) AllReadyH.nil
  rotate_left 1
  · (simp only [List.getElem?_toArray, List.getElem?_cons_succ, List.getElem?_cons_zero]; rfl)
  go_simp
  refine Calls.mono (rep_z _) ?_
  rintro e X1 ⟨rfl, hn⟩
  replace r1 := r1.on hn
  replace r2 := r2.on hn
  replace r3 := r3.on hn
  replace hc := chain hc hn
  clear hn
  go_simp
  refine hK.out _ _ r1.cell (fun hHeld => ?_)
  clear hK K hHeld
  refine wpAnyH_ready (rs := [1]) (by kernel_rfl) (by simp) ?_
  refine' AllReadyH.cons (o := _) ?_ (fun K hK => ?_) AllReadyH.nil
  rotate_left 1
  · (simp only [List.getElem?_toArray, List.getElem?_cons_succ, List.getElem?_cons_zero]; rfl)
  go_simp
  have r5 := Row.new (W := X1) (cs := #[.string ⟨#[97]⟩, .string ⟨#[109, 97, 105, 110]⟩, .string ⟨#[120, 32, 121]⟩, .string ⟨#[34, 92]⟩, .string ⟨#[195, 169, 228, 184, 173]⟩, .string ⟨#[122, 122, 122, 122, 122, 122, 122, 122, 122, 122, 122, 122, 122, 122, 122, 122, 122, 122, 122, 122, 122, 122, 122, 122]⟩]) (t := 9)
  have hn := below_alloc X1 (.cells #[.string ⟨#[97]⟩, .string ⟨#[109, 97, 105, 110]⟩, .string ⟨#[120, 32, 121]⟩, .string ⟨#[34, 92]⟩, .string ⟨#[195, 169, 228, 184, 173]⟩, .string ⟨#[122, 122, 122, 122, 122, 122, 122, 122, 122, 122, 122, 122, 122, 122, 122, 122, 122, 122, 122, 122, 122, 122, 122, 122]⟩] 9)
  have nr1_r5 : w.heap.size ≠ X1.heap.size := Nat.ne_of_lt r1.lt
  have nr2_r5 : w.heap.size + 1 ≠ X1.heap.size := Nat.ne_of_lt r2.lt
  have nr3_r5 : b3 ≠ X1.heap.size := Nat.ne_of_lt r3.lt
  have wr5 : w.heap.size ≤ X1.heap.size := hc.size
  replace r1 := r1.on hn
  replace r2 := r2.on hn
  replace r3 := r3.on hn
  replace hc := chain hc hn
  clear hn
  generalize X1.alloc (.cells #[.string ⟨#[97]⟩, .string ⟨#[109, 97, 105, 110]⟩, .string ⟨#[120, 32, 121]⟩, .string ⟨#[34, 92]⟩, .string ⟨#[195, 169, 228, 184, 173]⟩, .string ⟨#[122, 122, 122, 122, 122, 122, 122, 122, 122, 122, 122, 122, 122, 122, 122, 122, 122, 122, 122, 122, 122, 122, 122, 122]⟩] 9) = V6 at r1 r2 r3 r5 hc ⊢
  generalize X1.heap.size = b5 at *
  refine hK.out _ _ r1.cell (fun hHeld => ?_)
  clear hK K hHeld
  refine wpAnyH_ready (rs := [5]) (by kernel_rfl) (by simp) ?_
  refine' AllReadyH.cons (o := _) ?_ (fun K hK => ?_) AllReadyH.nil
  rotate_left 1
  · (simp only [List.getElem?_toArray, List.getElem?_cons_succ, List.getElem?_cons_zero]; rfl)
  go_simp
  refine hK.out _ _ r1.cell (fun hHeld => ?_)
  clear hK K hHeld
  have yr5 := r5.cell
  have zr5 := r5.lt
  refine wpAnyH_ready (rs := [6]) (by kernel_rfl) (by simp) ?_
  refine' AllReadyH.cons (o := _) ?_ (fun K hK => ?_) AllReadyH.nil
  rotate_left 1
  · (simp only [List.getElem?_toArray, List.getElem?_cons_succ, List.getElem?_cons_zero]; rfl)
  go_simp
  refine hK.out _ _ r1.cell (fun hHeld => ?_)
  clear hK K
  refine' wpAnyH_take (i := 7) (oi := _) (v := _) ?_ (by kernel_rfl) (by kernel_rfl) (by kernel_rfl) ?_ (Or.inl ⟨?_, ?_⟩) (by assumption) ?_
  rotate_left 2
  · (simp only [List.getElem?_toArray, List.getElem?_cons_succ, List.getElem?_cons_zero]; rfl)
  · first | exact fun _ _ _ h => h | exact fun _ _ _ h => nomatch h.1
  · rfl
  · (intro W hSW; (try dsimp only at hSW); go_split_ands; first | (go_simp; done) | (go_simp; with_reducible rfl))
  try simp only [Act.put, List.setIfInBounds_toArray, List.set_cons_zero, List.set_cons_succ]
  clear hHeld
  clear yr5 zr5
  have yr3 := r3.cell
  have zr3 := r3.lt
  have ur3 := r3.free
  refine wpAnyH_ready (rs := [8]) (by kernel_rfl) (by simp) ?_
  refine' AllReadyH.cons (o := _) ?_ (fun K hK => ?_) AllReadyH.nil
  rotate_left 1
  · (simp only [List.getElem?_toArray, List.getElem?_cons_succ, List.getElem?_cons_zero]; rfl)
  go_simp
  clear yr3 zr3 ur3
  replace r1 := (r1.other nr1_r3.symm 5 (.string ⟨#[97]⟩))
  replace r2 := (r2.other nr2_r3.symm 5 (.string ⟨#[97]⟩))
  replace r5 := (r5.other nr3_r5 5 (.string ⟨#[97]⟩))
  replace r3 := (r3.set 5 (.string ⟨#[97]⟩))
  simp only [List.setIfInBounds_toArray, List.set_cons_zero, List.set_cons_succ] at r3
  replace hc := (hc.setCell (p := ⟨b3, 5, none⟩) wr3 (.string ⟨#[97]⟩))
  generalize hW : World.setCell _ _ _ = V7 at *
  clear hW
  refine hK.out _ _ r1.cell (fun hHeld => ?_)
  clear hK K hHeld
  refine wpAnyH_done (by kernel_rfl) ?_ _
  have yr1 := r1.cell
  have zr1 := r1.lt
  have yr2 := r2.cell
  have zr2 := r2.lt
  have yr3 := r3.cell
  have zr3 := r3.lt
  have yr5 := r5.cell
  have zr5 := r5.lt
  have ur2 := r2.free
  go_wp2_with fail
  clear yr1 yr2 yr3 yr5 zr1 zr2 zr3 zr5 ur2
  replace r2 := r2.set 0 (.int .i64 8)
  replace r2 := r2.set 1 (.int .i64 (m % 4))
  replace r2 := r2.set 2 (.int .i64 (1 + (a % 3)))
  replace r2 := r2.set 3 (.int .i64 (b % 1048577))
  replace r2 := r2.set 4 (.int .i64 0)
  replace r2 := r2.set 5 (.string ⟨#[97]⟩)
  replace hc := hc.setCell (p := ⟨w.heap.size + 1, 0, none⟩) wr2 (.int .i64 8)
  replace hc := hc.setCell (p := ⟨w.heap.size + 1, 1, none⟩) wr2 (.int .i64 (m % 4))
  replace hc := hc.setCell (p := ⟨w.heap.size + 1, 2, none⟩) wr2 (.int .i64 (1 + (a % 3)))
  replace hc := hc.setCell (p := ⟨w.heap.size + 1, 3, none⟩) wr2 (.int .i64 (b % 1048577))
  replace hc := hc.setCell (p := ⟨w.heap.size + 1, 4, none⟩) wr2 (.int .i64 0)
  replace hc := hc.setCell (p := ⟨w.heap.size + 1, 5, none⟩) wr2 (.string ⟨#[97]⟩)
  simp only [List.setIfInBounds_toArray, List.set_cons_zero, List.set_cons_succ] at r2
  generalize hW : World.setCell _ _ _ = Z9 at *
  clear hW
  have z9 := r2.cell
  refine bodyPost_ret (v := opRV (8, ⟨(m % 4), (1 + (a % 3)), (b % 1048577), 0, ⟨#[97]⟩⟩)) (by simp [results, Tryz.results9, go_sem, z9]) rfl ⟨⟨_, rfl, ?_⟩, hc⟩
  unfold okR
  rw [opOk_iff]
  simp (decide := true) only [mHi, aLo, aHi, bLo, bHi, cLo, cHi, tgOk]
  simp [show tagOk [97] = true by decide]; omega
theorem made_8_1 (k m t a b c : Int) (w : World) (hk : k % 17 = 7) (ht : t % 6 = 1) (k0 : 0 ≤ k) (k1 : k ≤ 255) (m0 : 0 ≤ m) (m1 : m ≤ 255) (t0 : 0 ≤ t) (t1 : t ≤ 255) (a0 : 0 ≤ a) (a1 : a ≤ 4294967295) (b0 : 0 ≤ b) (b1 : b ≤ 4294967295) (c0 : 0 ≤ c) (c1 : c ≤ 4294967295) :
    Calls Tryz.prog 9 #[.agg #[.int .u8 k, .int .u8 m, .int .u8 t, .int .u32 a, .int .u32 b, .int .u32 c]] w (MadeP w) := by
  have hc := Below.refl w.heap.size w
  have q1 : IntKind.i64.wrap k = k := IntWalk.i64_in _ ⟨by omega, by omega⟩
  have q2 : IntKind.i64.wrap m = m := IntWalk.i64_in _ ⟨by omega, by omega⟩
  have q3 : IntKind.i64.wrap a = a := IntWalk.i64_in _ ⟨by omega, by omega⟩
  have q4 : IntKind.i64.wrap b = b := IntWalk.i64_in _ ⟨by omega, by omega⟩
  have q5 : IntKind.i64.wrap c = c := IntWalk.i64_in _ ⟨by omega, by omega⟩
  have q6 : IntKind.i64.wrap t = t := IntWalk.i64_in _ ⟨by omega, by omega⟩
  obtain ⟨ga3, la3⟩ := tm a 3 a0 (by decide)
  obtain ⟨gb1048577, lb1048577⟩ := tm b 1048577 b0 (by decide)
  obtain ⟨gm, lm⟩ := tm m 4 m0 (by decide)
  have x0 := w64 (1 + (a % 3)) (by omega) (by omega)
  have ht2 : Int.tmod t 6 = 1 := by rw [Int.tmod_eq_emod_of_nonneg t0]; exact ht
  go_enter Tryz.func9, Tryz.ntmps9
  go_upto_region 1 with fail
  have r1 := Row.new (W := w) (cs := #[.int .u8 k, .int .u8 m, .int .u8 t, .int .u32 a, .int .u32 b, .int .u32 c]) (t := 24)
  have hn := below_alloc w (.cells #[.int .u8 k, .int .u8 m, .int .u8 t, .int .u32 a, .int .u32 b, .int .u32 c] 24)
  replace hc := chain hc hn
  have hz1 : (w.alloc (.cells #[.int .u8 k, .int .u8 m, .int .u8 t, .int .u32 a, .int .u32 b, .int .u32 c] 24)).heap.size = w.heap.size + 1 := by simp
  clear hn
  generalize w.alloc (.cells #[.int .u8 k, .int .u8 m, .int .u8 t, .int .u32 a, .int .u32 b, .int .u32 c] 24) = V1 at r1 hc hz1 ⊢
  have r2 := Row.new (W := V1) (cs := #[.int .i64 0, .int .i64 0, .int .i64 0, .int .i64 0, .int .i64 0, .string ⟨#[]⟩]) (t := 31)
  have hn := below_alloc V1 (.cells #[.int .i64 0, .int .i64 0, .int .i64 0, .int .i64 0, .int .i64 0, .string ⟨#[]⟩] 31)
  replace r1 := r1.on hn
  replace hc := chain hc hn
  rw [hz1] at r2
  clear hn hz1
  generalize V1.alloc (.cells #[.int .i64 0, .int .i64 0, .int .i64 0, .int .i64 0, .int .i64 0, .string ⟨#[]⟩] 31) = V2 at r1 r2 hc ⊢
  have nr1_r2 : w.heap.size ≠ w.heap.size + 1 := by omega
  have wr2 : w.heap.size ≤ w.heap.size + 1 := by omega
  have wr1 : w.heap.size ≤ w.heap.size := Nat.le_refl _
  have yr1 := r1.cell
  have zr1 := r1.lt
  have yr2 := r2.cell
  have zr2 := r2.lt
  go_upto_region 2 with fail
  clear yr1 yr2 zr1 zr2
  have r3 := Row.new (W := V2) (cs := #[.int .i64 8, .int .i64 0, .int .i64 0, .int .i64 0, .int .i64 0, .string ⟨#[]⟩]) (t := 31)
  have hn := below_alloc V2 (.cells #[.int .i64 8, .int .i64 0, .int .i64 0, .int .i64 0, .int .i64 0, .string ⟨#[]⟩] 31)
  have nr1_r3 : w.heap.size ≠ V2.heap.size := Nat.ne_of_lt r1.lt
  have nr2_r3 : w.heap.size + 1 ≠ V2.heap.size := Nat.ne_of_lt r2.lt
  have wr3 : w.heap.size ≤ V2.heap.size := hc.size
  replace r1 := r1.on hn
  replace r2 := r2.on hn
  replace hc := chain hc hn
  clear hn
  generalize V2.alloc (.cells #[.int .i64 8, .int .i64 0, .int .i64 0, .int .i64 0, .int .i64 0, .string ⟨#[]⟩] 31) = V3 at r1 r2 r3 hc ⊢
  generalize V2.heap.size = b3 at *
  have yr1 := r1.cell
  have zr1 := r1.lt
  have yr2 := r2.cell
  have zr2 := r2.lt
  have yr3 := r3.cell
  have zr3 := r3.lt
  have ur3 := r3.free
  go_upto_region 4 with fail
  clear yr1 yr2 yr3 zr1 zr2 zr3 ur3
  replace r1 := (r1.other nr1_r3.symm 1 (.int .i64 (m % 4)))
  replace r2 := (r2.other nr2_r3.symm 1 (.int .i64 (m % 4)))
  replace r3 := (r3.set 1 (.int .i64 (m % 4)))
  simp only [List.setIfInBounds_toArray, List.set_cons_zero, List.set_cons_succ] at r3
  replace hc := (hc.setCell (p := ⟨b3, 1, none⟩) wr3 (.int .i64 (m % 4)))
  generalize hW : World.setCell _ _ _ = V4 at *
  clear hW
  refine wp_region_held_drew (S := fun W' => (∀ j, W'.cell? ⟨w.heap.size, j, none⟩ = (#[.int .u8 k, .int .u8 m, .int .u8 t, .int .u32 a, .int .u32 b, .int .u32 c] : Array Value)[j]?)) (by kernel_rfl) r1.cell (fun hHeld => ?_)
  replace r1 := r1.drew
  replace r2 := r2.drew
  replace r3 := r3.drew
  replace hc := hc.drew
  generalize V4.drew = X0 at *
  refine' wpAnyH_take (i := 0) (oi := _) (v := _) ?_ (by kernel_rfl) (by kernel_rfl) (by kernel_rfl) ?_ (Or.inl ⟨?_, ?_⟩) (by assumption) ?_
  rotate_left 2
  · (simp only [List.getElem?_toArray, List.getElem?_cons_succ, List.getElem?_cons_zero]; rfl)
  · first | exact fun _ _ _ h => h | exact fun _ _ _ h => nomatch h.1
  · rfl
  · (intro W hSW; (try dsimp only at hSW); go_split_ands; first | (go_simp; done) | (go_simp; with_reducible rfl))
  try simp only [Act.put, List.setIfInBounds_toArray, List.set_cons_zero, List.set_cons_succ]
  refine' wpAnyH_take (i := 1) (oi := _) (v := _) ?_ (by kernel_rfl) (by kernel_rfl) (by kernel_rfl) ?_ (Or.inl ⟨?_, ?_⟩) (by assumption) ?_
  rotate_left 2
  · (simp only [List.getElem?_toArray, List.getElem?_cons_succ, List.getElem?_cons_zero]; rfl)
  · first | exact fun _ _ _ h => h | exact fun _ _ _ h => nomatch h.1
  · rfl
  · (intro W hSW; (try dsimp only at hSW); go_split_ands; first | (go_simp; done) | (go_simp; with_reducible rfl))
  try simp only [Act.put, List.setIfInBounds_toArray, List.set_cons_zero, List.set_cons_succ]
  refine' wpAnyH_take (i := 2) (oi := _) (v := _) ?_ (by kernel_rfl) (by kernel_rfl) (by kernel_rfl) ?_ (Or.inl ⟨?_, ?_⟩) (by assumption) ?_
  rotate_left 2
  · (simp only [List.getElem?_toArray, List.getElem?_cons_succ, List.getElem?_cons_zero]; rfl)
  · first | exact fun _ _ _ h => h | exact fun _ _ _ h => nomatch h.1
  · rfl
  · (intro W hSW; (try dsimp only at hSW); go_split_ands; first | (go_simp; done) | (go_simp; with_reducible rfl))
  try simp only [Act.put, List.setIfInBounds_toArray, List.set_cons_zero, List.set_cons_succ]
  refine' wpAnyH_take (i := 3) (oi := _) (v := _) ?_ (by kernel_rfl) (by kernel_rfl) (by kernel_rfl) ?_ (Or.inl ⟨?_, ?_⟩) (by assumption) ?_
  rotate_left 2
  · (simp only [List.getElem?_toArray, List.getElem?_cons_succ, List.getElem?_cons_zero]; rfl)
  · first | exact fun _ _ _ h => h | exact fun _ _ _ h => nomatch h.1
  · rfl
  · (intro W hSW; (try dsimp only at hSW); go_split_ands; first | (go_simp; done) | (go_simp; with_reducible rfl))
  try simp only [Act.put, List.setIfInBounds_toArray, List.set_cons_zero, List.set_cons_succ]
  refine' wpAnyH_take (i := 4) (oi := _) (v := _) ?_ (by kernel_rfl) (by kernel_rfl) (by kernel_rfl) ?_ (Or.inl ⟨?_, ?_⟩) (by assumption) ?_
  rotate_left 2
  · (simp only [List.getElem?_toArray, List.getElem?_cons_succ, List.getElem?_cons_zero]; rfl)
  · first | exact fun _ _ _ h => h | exact fun _ _ _ h => nomatch h.1
  · rfl
  · (intro W hSW; (try dsimp only at hSW); go_split_ands; first | (go_simp; done) | (go_simp; with_reducible rfl))
  try simp only [Act.put, List.setIfInBounds_toArray, List.set_cons_zero, List.set_cons_succ]
  refine' wpAnyH_take (i := 5) (oi := _) (v := _) ?_ (by kernel_rfl) (by kernel_rfl) (by kernel_rfl) ?_ (Or.inl ⟨?_, ?_⟩) (by assumption) ?_
  rotate_left 2
  · (simp only [List.getElem?_toArray, List.getElem?_cons_succ, List.getElem?_cons_zero]; rfl)
  · first | exact fun _ _ _ h => h | exact fun _ _ _ h => nomatch h.1
  · rfl
  · (intro W hSW; (try dsimp only at hSW); go_split_ands; first | (go_simp; done) | (go_simp; with_reducible rfl))
  try simp only [Act.put, List.setIfInBounds_toArray, List.set_cons_zero, List.set_cons_succ]
  refine' wpAnyH_take (i := 6) (oi := _) (v := _) ?_ (by kernel_rfl) (by kernel_rfl) (by kernel_rfl) ?_ (Or.inl ⟨?_, ?_⟩) (by assumption) ?_
  rotate_left 2
  · (simp only [List.getElem?_toArray, List.getElem?_cons_succ, List.getElem?_cons_zero]; rfl)
  · first | exact fun _ _ _ h => h | exact fun _ _ _ h => nomatch h.1
  · rfl
  · (intro W hSW; (try dsimp only at hSW); go_split_ands; first | (go_simp; done) | (go_simp; with_reducible rfl))
  try simp only [Act.put, List.setIfInBounds_toArray, List.set_cons_zero, List.set_cons_succ]
  refine' wpAnyH_take (i := 7) (oi := _) (v := _) ?_ (by kernel_rfl) (by kernel_rfl) (by kernel_rfl) ?_ (Or.inl ⟨?_, ?_⟩) (by assumption) ?_
  rotate_left 2
  · (simp only [List.getElem?_toArray, List.getElem?_cons_succ, List.getElem?_cons_zero]; rfl)
  · first | exact fun _ _ _ h => h | exact fun _ _ _ h => nomatch h.1
  · rfl
  · (intro W hSW; (try dsimp only at hSW); go_split_ands; first | (go_simp; done) | (go_simp; with_reducible rfl))
  try simp only [Act.put, List.setIfInBounds_toArray, List.set_cons_zero, List.set_cons_succ]
  clear hHeld
  refine wpAnyH_done (by kernel_rfl) ?_ _
  have yr1 := r1.cell
  have zr1 := r1.lt
  have yr2 := r2.cell
  have zr2 := r2.lt
  have yr3 := r3.cell
  have zr3 := r3.lt
  have ur3 := r3.free
  go_upto_region 19 with fail
  clear yr1 yr2 yr3 zr1 zr2 zr3 ur3
  replace r1 := ((r1.other nr1_r3.symm 2 (.int .i64 (1 + (a % 3)))).other nr1_r3.symm 3 (.int .i64 (b % 1048577)))
  replace r2 := ((r2.other nr2_r3.symm 2 (.int .i64 (1 + (a % 3)))).other nr2_r3.symm 3 (.int .i64 (b % 1048577)))
  replace r3 := ((r3.set 2 (.int .i64 (1 + (a % 3)))).set 3 (.int .i64 (b % 1048577)))
  simp only [List.setIfInBounds_toArray, List.set_cons_zero, List.set_cons_succ] at r3
  replace hc := ((hc.setCell (p := ⟨b3, 2, none⟩) wr3 (.int .i64 (1 + (a % 3)))).setCell (p := ⟨b3, 3, none⟩) wr3 (.int .i64 (b % 1048577)))
  generalize hW : World.setCell _ _ _ = V5 at *
  clear hW
  refine wp_region_held_drew (S := fun W' => (∀ j, W'.cell? ⟨w.heap.size, j, none⟩ = (#[.int .u8 k, .int .u8 m, .int .u8 t, .int .u32 a, .int .u32 b, .int .u32 c] : Array Value)[j]?)) (by kernel_rfl) r1.cell (fun hHeld => ?_)
  replace r1 := r1.drew
  replace r2 := r2.drew
  replace r3 := r3.drew
  replace hc := hc.drew
  generalize V5.drew = X0 at *
  refine' wpAnyH_take (i := 2) (oi := _) (v := _) ?_ (by kernel_rfl) (by kernel_rfl) (by kernel_rfl) ?_ (Or.inl ⟨?_, ?_⟩) (by assumption) ?_
  rotate_left 2
  · (simp only [List.getElem?_toArray, List.getElem?_cons_succ, List.getElem?_cons_zero]; rfl)
  · first | exact fun _ _ _ h => h | exact fun _ _ _ h => nomatch h.1
  · rfl
  · (intro W hSW; (try dsimp only at hSW); go_split_ands; first | (go_simp; done) | (go_simp; with_reducible rfl))
  try simp only [Act.put, List.setIfInBounds_toArray, List.set_cons_zero, List.set_cons_succ]
  refine' wpAnyH_take (i := 3) (oi := _) (v := _) ?_ (by kernel_rfl) (by kernel_rfl) (by kernel_rfl) ?_ (Or.inl ⟨?_, ?_⟩) (by assumption) ?_
  rotate_left 2
  · (simp only [List.getElem?_toArray, List.getElem?_cons_succ, List.getElem?_cons_zero]; rfl)
  · first | exact fun _ _ _ h => h | exact fun _ _ _ h => nomatch h.1
  · rfl
  · (intro W hSW; (try dsimp only at hSW); go_split_ands; first | (go_simp; done) | (go_simp; with_reducible rfl))
  try simp only [Act.put, List.setIfInBounds_toArray, List.set_cons_zero, List.set_cons_succ]
  refine' wpAnyH_take (i := 4) (oi := _) (v := _) ?_ (by kernel_rfl) (by kernel_rfl) (by kernel_rfl) ?_ (Or.inl ⟨?_, ?_⟩) (by assumption) ?_
  rotate_left 2
  · (simp only [List.getElem?_toArray, List.getElem?_cons_succ, List.getElem?_cons_zero]; rfl)
  · first | exact fun _ _ _ h => h | exact fun _ _ _ h => nomatch h.1
  · rfl
  · (intro W hSW; (try dsimp only at hSW); go_split_ands; first | (go_simp; done) | (go_simp; with_reducible rfl))
  try simp only [Act.put, List.setIfInBounds_toArray, List.set_cons_zero, List.set_cons_succ]
  clear hHeld
  refine wpAnyH_ready (rs := [0]) (by kernel_rfl) (by simp) ?_
  refine' AllReadyH.cons (o := _) ?_ (fun K hK => ?_) AllReadyH.nil
  rotate_left 1
  · (simp only [List.getElem?_toArray, List.getElem?_cons_succ, List.getElem?_cons_zero]; rfl)
  go_simp
  refine Calls.mono (rep_z _) ?_
  rintro e X1 ⟨rfl, hn⟩
  replace r1 := r1.on hn
  replace r2 := r2.on hn
  replace r3 := r3.on hn
  replace hc := chain hc hn
  clear hn
  go_simp
  refine hK.out _ _ r1.cell (fun hHeld => ?_)
  clear hK K hHeld
  refine wpAnyH_ready (rs := [1]) (by kernel_rfl) (by simp) ?_
  refine' AllReadyH.cons (o := _) ?_ (fun K hK => ?_) AllReadyH.nil
  rotate_left 1
  · (simp only [List.getElem?_toArray, List.getElem?_cons_succ, List.getElem?_cons_zero]; rfl)
  go_simp
  have r5 := Row.new (W := X1) (cs := #[.string ⟨#[97]⟩, .string ⟨#[109, 97, 105, 110]⟩, .string ⟨#[120, 32, 121]⟩, .string ⟨#[34, 92]⟩, .string ⟨#[195, 169, 228, 184, 173]⟩, .string ⟨#[122, 122, 122, 122, 122, 122, 122, 122, 122, 122, 122, 122, 122, 122, 122, 122, 122, 122, 122, 122, 122, 122, 122, 122]⟩]) (t := 9)
  have hn := below_alloc X1 (.cells #[.string ⟨#[97]⟩, .string ⟨#[109, 97, 105, 110]⟩, .string ⟨#[120, 32, 121]⟩, .string ⟨#[34, 92]⟩, .string ⟨#[195, 169, 228, 184, 173]⟩, .string ⟨#[122, 122, 122, 122, 122, 122, 122, 122, 122, 122, 122, 122, 122, 122, 122, 122, 122, 122, 122, 122, 122, 122, 122, 122]⟩] 9)
  have nr1_r5 : w.heap.size ≠ X1.heap.size := Nat.ne_of_lt r1.lt
  have nr2_r5 : w.heap.size + 1 ≠ X1.heap.size := Nat.ne_of_lt r2.lt
  have nr3_r5 : b3 ≠ X1.heap.size := Nat.ne_of_lt r3.lt
  have wr5 : w.heap.size ≤ X1.heap.size := hc.size
  replace r1 := r1.on hn
  replace r2 := r2.on hn
  replace r3 := r3.on hn
  replace hc := chain hc hn
  clear hn
  generalize X1.alloc (.cells #[.string ⟨#[97]⟩, .string ⟨#[109, 97, 105, 110]⟩, .string ⟨#[120, 32, 121]⟩, .string ⟨#[34, 92]⟩, .string ⟨#[195, 169, 228, 184, 173]⟩, .string ⟨#[122, 122, 122, 122, 122, 122, 122, 122, 122, 122, 122, 122, 122, 122, 122, 122, 122, 122, 122, 122, 122, 122, 122, 122]⟩] 9) = V6 at r1 r2 r3 r5 hc ⊢
  generalize X1.heap.size = b5 at *
  refine hK.out _ _ r1.cell (fun hHeld => ?_)
  clear hK K hHeld
  refine wpAnyH_ready (rs := [5]) (by kernel_rfl) (by simp) ?_
  refine' AllReadyH.cons (o := _) ?_ (fun K hK => ?_) AllReadyH.nil
  rotate_left 1
  · (simp only [List.getElem?_toArray, List.getElem?_cons_succ, List.getElem?_cons_zero]; rfl)
  go_simp
  refine hK.out _ _ r1.cell (fun hHeld => ?_)
  clear hK K hHeld
  have yr5 := r5.cell
  have zr5 := r5.lt
  refine wpAnyH_ready (rs := [6]) (by kernel_rfl) (by simp) ?_
  refine' AllReadyH.cons (o := _) ?_ (fun K hK => ?_) AllReadyH.nil
  rotate_left 1
  · (simp only [List.getElem?_toArray, List.getElem?_cons_succ, List.getElem?_cons_zero]; rfl)
  go_simp
  refine hK.out _ _ r1.cell (fun hHeld => ?_)
  clear hK K
  refine' wpAnyH_take (i := 7) (oi := _) (v := _) ?_ (by kernel_rfl) (by kernel_rfl) (by kernel_rfl) ?_ (Or.inl ⟨?_, ?_⟩) (by assumption) ?_
  rotate_left 2
  · (simp only [List.getElem?_toArray, List.getElem?_cons_succ, List.getElem?_cons_zero]; rfl)
  · first | exact fun _ _ _ h => h | exact fun _ _ _ h => nomatch h.1
  · rfl
  · (intro W hSW; (try dsimp only at hSW); go_split_ands; first | (go_simp; done) | (go_simp; with_reducible rfl))
  try simp only [Act.put, List.setIfInBounds_toArray, List.set_cons_zero, List.set_cons_succ]
  clear hHeld
  clear yr5 zr5
  have yr3 := r3.cell
  have zr3 := r3.lt
  have ur3 := r3.free
  refine wpAnyH_ready (rs := [8]) (by kernel_rfl) (by simp) ?_
  refine' AllReadyH.cons (o := _) ?_ (fun K hK => ?_) AllReadyH.nil
  rotate_left 1
  · (simp only [List.getElem?_toArray, List.getElem?_cons_succ, List.getElem?_cons_zero]; rfl)
  go_simp
  clear yr3 zr3 ur3
  replace r1 := (r1.other nr1_r3.symm 5 (.string ⟨#[109, 97, 105, 110]⟩))
  replace r2 := (r2.other nr2_r3.symm 5 (.string ⟨#[109, 97, 105, 110]⟩))
  replace r5 := (r5.other nr3_r5 5 (.string ⟨#[109, 97, 105, 110]⟩))
  replace r3 := (r3.set 5 (.string ⟨#[109, 97, 105, 110]⟩))
  simp only [List.setIfInBounds_toArray, List.set_cons_zero, List.set_cons_succ] at r3
  replace hc := (hc.setCell (p := ⟨b3, 5, none⟩) wr3 (.string ⟨#[109, 97, 105, 110]⟩))
  generalize hW : World.setCell _ _ _ = V7 at *
  clear hW
  refine hK.out _ _ r1.cell (fun hHeld => ?_)
  clear hK K hHeld
  refine wpAnyH_done (by kernel_rfl) ?_ _
  have yr1 := r1.cell
  have zr1 := r1.lt
  have yr2 := r2.cell
  have zr2 := r2.lt
  have yr3 := r3.cell
  have zr3 := r3.lt
  have yr5 := r5.cell
  have zr5 := r5.lt
  have ur2 := r2.free
  go_wp2_with fail
  clear yr1 yr2 yr3 yr5 zr1 zr2 zr3 zr5 ur2
  replace r2 := r2.set 0 (.int .i64 8)
  replace r2 := r2.set 1 (.int .i64 (m % 4))
  replace r2 := r2.set 2 (.int .i64 (1 + (a % 3)))
  replace r2 := r2.set 3 (.int .i64 (b % 1048577))
  replace r2 := r2.set 4 (.int .i64 0)
  replace r2 := r2.set 5 (.string ⟨#[109, 97, 105, 110]⟩)
  replace hc := hc.setCell (p := ⟨w.heap.size + 1, 0, none⟩) wr2 (.int .i64 8)
  replace hc := hc.setCell (p := ⟨w.heap.size + 1, 1, none⟩) wr2 (.int .i64 (m % 4))
  replace hc := hc.setCell (p := ⟨w.heap.size + 1, 2, none⟩) wr2 (.int .i64 (1 + (a % 3)))
  replace hc := hc.setCell (p := ⟨w.heap.size + 1, 3, none⟩) wr2 (.int .i64 (b % 1048577))
  replace hc := hc.setCell (p := ⟨w.heap.size + 1, 4, none⟩) wr2 (.int .i64 0)
  replace hc := hc.setCell (p := ⟨w.heap.size + 1, 5, none⟩) wr2 (.string ⟨#[109, 97, 105, 110]⟩)
  simp only [List.setIfInBounds_toArray, List.set_cons_zero, List.set_cons_succ] at r2
  generalize hW : World.setCell _ _ _ = Z9 at *
  clear hW
  have z9 := r2.cell
  refine bodyPost_ret (v := opRV (8, ⟨(m % 4), (1 + (a % 3)), (b % 1048577), 0, ⟨#[109, 97, 105, 110]⟩⟩)) (by simp [results, Tryz.results9, go_sem, z9]) rfl ⟨⟨_, rfl, ?_⟩, hc⟩
  unfold okR
  rw [opOk_iff]
  simp (decide := true) only [mHi, aLo, aHi, bLo, bHi, cLo, cHi, tgOk]
  simp [show tagOk [109, 97, 105, 110] = true by decide]; omega
theorem made_8_2 (k m t a b c : Int) (w : World) (hk : k % 17 = 7) (ht : t % 6 = 2) (k0 : 0 ≤ k) (k1 : k ≤ 255) (m0 : 0 ≤ m) (m1 : m ≤ 255) (t0 : 0 ≤ t) (t1 : t ≤ 255) (a0 : 0 ≤ a) (a1 : a ≤ 4294967295) (b0 : 0 ≤ b) (b1 : b ≤ 4294967295) (c0 : 0 ≤ c) (c1 : c ≤ 4294967295) :
    Calls Tryz.prog 9 #[.agg #[.int .u8 k, .int .u8 m, .int .u8 t, .int .u32 a, .int .u32 b, .int .u32 c]] w (MadeP w) := by
  have hc := Below.refl w.heap.size w
  have q1 : IntKind.i64.wrap k = k := IntWalk.i64_in _ ⟨by omega, by omega⟩
  have q2 : IntKind.i64.wrap m = m := IntWalk.i64_in _ ⟨by omega, by omega⟩
  have q3 : IntKind.i64.wrap a = a := IntWalk.i64_in _ ⟨by omega, by omega⟩
  have q4 : IntKind.i64.wrap b = b := IntWalk.i64_in _ ⟨by omega, by omega⟩
  have q5 : IntKind.i64.wrap c = c := IntWalk.i64_in _ ⟨by omega, by omega⟩
  have q6 : IntKind.i64.wrap t = t := IntWalk.i64_in _ ⟨by omega, by omega⟩
  obtain ⟨ga3, la3⟩ := tm a 3 a0 (by decide)
  obtain ⟨gb1048577, lb1048577⟩ := tm b 1048577 b0 (by decide)
  obtain ⟨gm, lm⟩ := tm m 4 m0 (by decide)
  have x0 := w64 (1 + (a % 3)) (by omega) (by omega)
  have ht2 : Int.tmod t 6 = 2 := by rw [Int.tmod_eq_emod_of_nonneg t0]; exact ht
  go_enter Tryz.func9, Tryz.ntmps9
  go_upto_region 1 with fail
  have r1 := Row.new (W := w) (cs := #[.int .u8 k, .int .u8 m, .int .u8 t, .int .u32 a, .int .u32 b, .int .u32 c]) (t := 24)
  have hn := below_alloc w (.cells #[.int .u8 k, .int .u8 m, .int .u8 t, .int .u32 a, .int .u32 b, .int .u32 c] 24)
  replace hc := chain hc hn
  have hz1 : (w.alloc (.cells #[.int .u8 k, .int .u8 m, .int .u8 t, .int .u32 a, .int .u32 b, .int .u32 c] 24)).heap.size = w.heap.size + 1 := by simp
  clear hn
  generalize w.alloc (.cells #[.int .u8 k, .int .u8 m, .int .u8 t, .int .u32 a, .int .u32 b, .int .u32 c] 24) = V1 at r1 hc hz1 ⊢
  have r2 := Row.new (W := V1) (cs := #[.int .i64 0, .int .i64 0, .int .i64 0, .int .i64 0, .int .i64 0, .string ⟨#[]⟩]) (t := 31)
  have hn := below_alloc V1 (.cells #[.int .i64 0, .int .i64 0, .int .i64 0, .int .i64 0, .int .i64 0, .string ⟨#[]⟩] 31)
  replace r1 := r1.on hn
  replace hc := chain hc hn
  rw [hz1] at r2
  clear hn hz1
  generalize V1.alloc (.cells #[.int .i64 0, .int .i64 0, .int .i64 0, .int .i64 0, .int .i64 0, .string ⟨#[]⟩] 31) = V2 at r1 r2 hc ⊢
  have nr1_r2 : w.heap.size ≠ w.heap.size + 1 := by omega
  have wr2 : w.heap.size ≤ w.heap.size + 1 := by omega
  have wr1 : w.heap.size ≤ w.heap.size := Nat.le_refl _
  have yr1 := r1.cell
  have zr1 := r1.lt
  have yr2 := r2.cell
  have zr2 := r2.lt
  go_upto_region 2 with fail
  clear yr1 yr2 zr1 zr2
  have r3 := Row.new (W := V2) (cs := #[.int .i64 8, .int .i64 0, .int .i64 0, .int .i64 0, .int .i64 0, .string ⟨#[]⟩]) (t := 31)
  have hn := below_alloc V2 (.cells #[.int .i64 8, .int .i64 0, .int .i64 0, .int .i64 0, .int .i64 0, .string ⟨#[]⟩] 31)
  have nr1_r3 : w.heap.size ≠ V2.heap.size := Nat.ne_of_lt r1.lt
  have nr2_r3 : w.heap.size + 1 ≠ V2.heap.size := Nat.ne_of_lt r2.lt
  have wr3 : w.heap.size ≤ V2.heap.size := hc.size
  replace r1 := r1.on hn
  replace r2 := r2.on hn
  replace hc := chain hc hn
  clear hn
  generalize V2.alloc (.cells #[.int .i64 8, .int .i64 0, .int .i64 0, .int .i64 0, .int .i64 0, .string ⟨#[]⟩] 31) = V3 at r1 r2 r3 hc ⊢
  generalize V2.heap.size = b3 at *
  have yr1 := r1.cell
  have zr1 := r1.lt
  have yr2 := r2.cell
  have zr2 := r2.lt
  have yr3 := r3.cell
  have zr3 := r3.lt
  have ur3 := r3.free
  go_upto_region 4 with fail
  clear yr1 yr2 yr3 zr1 zr2 zr3 ur3
  replace r1 := (r1.other nr1_r3.symm 1 (.int .i64 (m % 4)))
  replace r2 := (r2.other nr2_r3.symm 1 (.int .i64 (m % 4)))
  replace r3 := (r3.set 1 (.int .i64 (m % 4)))
  simp only [List.setIfInBounds_toArray, List.set_cons_zero, List.set_cons_succ] at r3
  replace hc := (hc.setCell (p := ⟨b3, 1, none⟩) wr3 (.int .i64 (m % 4)))
  generalize hW : World.setCell _ _ _ = V4 at *
  clear hW
  refine wp_region_held_drew (S := fun W' => (∀ j, W'.cell? ⟨w.heap.size, j, none⟩ = (#[.int .u8 k, .int .u8 m, .int .u8 t, .int .u32 a, .int .u32 b, .int .u32 c] : Array Value)[j]?)) (by kernel_rfl) r1.cell (fun hHeld => ?_)
  replace r1 := r1.drew
  replace r2 := r2.drew
  replace r3 := r3.drew
  replace hc := hc.drew
  generalize V4.drew = X0 at *
  refine' wpAnyH_take (i := 0) (oi := _) (v := _) ?_ (by kernel_rfl) (by kernel_rfl) (by kernel_rfl) ?_ (Or.inl ⟨?_, ?_⟩) (by assumption) ?_
  rotate_left 2
  · (simp only [List.getElem?_toArray, List.getElem?_cons_succ, List.getElem?_cons_zero]; rfl)
  · first | exact fun _ _ _ h => h | exact fun _ _ _ h => nomatch h.1
  · rfl
  · (intro W hSW; (try dsimp only at hSW); go_split_ands; first | (go_simp; done) | (go_simp; with_reducible rfl))
  try simp only [Act.put, List.setIfInBounds_toArray, List.set_cons_zero, List.set_cons_succ]
  refine' wpAnyH_take (i := 1) (oi := _) (v := _) ?_ (by kernel_rfl) (by kernel_rfl) (by kernel_rfl) ?_ (Or.inl ⟨?_, ?_⟩) (by assumption) ?_
  rotate_left 2
  · (simp only [List.getElem?_toArray, List.getElem?_cons_succ, List.getElem?_cons_zero]; rfl)
  · first | exact fun _ _ _ h => h | exact fun _ _ _ h => nomatch h.1
  · rfl
  · (intro W hSW; (try dsimp only at hSW); go_split_ands; first | (go_simp; done) | (go_simp; with_reducible rfl))
  try simp only [Act.put, List.setIfInBounds_toArray, List.set_cons_zero, List.set_cons_succ]
  refine' wpAnyH_take (i := 2) (oi := _) (v := _) ?_ (by kernel_rfl) (by kernel_rfl) (by kernel_rfl) ?_ (Or.inl ⟨?_, ?_⟩) (by assumption) ?_
  rotate_left 2
  · (simp only [List.getElem?_toArray, List.getElem?_cons_succ, List.getElem?_cons_zero]; rfl)
  · first | exact fun _ _ _ h => h | exact fun _ _ _ h => nomatch h.1
  · rfl
  · (intro W hSW; (try dsimp only at hSW); go_split_ands; first | (go_simp; done) | (go_simp; with_reducible rfl))
  try simp only [Act.put, List.setIfInBounds_toArray, List.set_cons_zero, List.set_cons_succ]
  refine' wpAnyH_take (i := 3) (oi := _) (v := _) ?_ (by kernel_rfl) (by kernel_rfl) (by kernel_rfl) ?_ (Or.inl ⟨?_, ?_⟩) (by assumption) ?_
  rotate_left 2
  · (simp only [List.getElem?_toArray, List.getElem?_cons_succ, List.getElem?_cons_zero]; rfl)
  · first | exact fun _ _ _ h => h | exact fun _ _ _ h => nomatch h.1
  · rfl
  · (intro W hSW; (try dsimp only at hSW); go_split_ands; first | (go_simp; done) | (go_simp; with_reducible rfl))
  try simp only [Act.put, List.setIfInBounds_toArray, List.set_cons_zero, List.set_cons_succ]
  refine' wpAnyH_take (i := 4) (oi := _) (v := _) ?_ (by kernel_rfl) (by kernel_rfl) (by kernel_rfl) ?_ (Or.inl ⟨?_, ?_⟩) (by assumption) ?_
  rotate_left 2
  · (simp only [List.getElem?_toArray, List.getElem?_cons_succ, List.getElem?_cons_zero]; rfl)
  · first | exact fun _ _ _ h => h | exact fun _ _ _ h => nomatch h.1
  · rfl
  · (intro W hSW; (try dsimp only at hSW); go_split_ands; first | (go_simp; done) | (go_simp; with_reducible rfl))
  try simp only [Act.put, List.setIfInBounds_toArray, List.set_cons_zero, List.set_cons_succ]
  refine' wpAnyH_take (i := 5) (oi := _) (v := _) ?_ (by kernel_rfl) (by kernel_rfl) (by kernel_rfl) ?_ (Or.inl ⟨?_, ?_⟩) (by assumption) ?_
  rotate_left 2
  · (simp only [List.getElem?_toArray, List.getElem?_cons_succ, List.getElem?_cons_zero]; rfl)
  · first | exact fun _ _ _ h => h | exact fun _ _ _ h => nomatch h.1
  · rfl
  · (intro W hSW; (try dsimp only at hSW); go_split_ands; first | (go_simp; done) | (go_simp; with_reducible rfl))
  try simp only [Act.put, List.setIfInBounds_toArray, List.set_cons_zero, List.set_cons_succ]
  refine' wpAnyH_take (i := 6) (oi := _) (v := _) ?_ (by kernel_rfl) (by kernel_rfl) (by kernel_rfl) ?_ (Or.inl ⟨?_, ?_⟩) (by assumption) ?_
  rotate_left 2
  · (simp only [List.getElem?_toArray, List.getElem?_cons_succ, List.getElem?_cons_zero]; rfl)
  · first | exact fun _ _ _ h => h | exact fun _ _ _ h => nomatch h.1
  · rfl
  · (intro W hSW; (try dsimp only at hSW); go_split_ands; first | (go_simp; done) | (go_simp; with_reducible rfl))
  try simp only [Act.put, List.setIfInBounds_toArray, List.set_cons_zero, List.set_cons_succ]
  refine' wpAnyH_take (i := 7) (oi := _) (v := _) ?_ (by kernel_rfl) (by kernel_rfl) (by kernel_rfl) ?_ (Or.inl ⟨?_, ?_⟩) (by assumption) ?_
  rotate_left 2
  · (simp only [List.getElem?_toArray, List.getElem?_cons_succ, List.getElem?_cons_zero]; rfl)
  · first | exact fun _ _ _ h => h | exact fun _ _ _ h => nomatch h.1
  · rfl
  · (intro W hSW; (try dsimp only at hSW); go_split_ands; first | (go_simp; done) | (go_simp; with_reducible rfl))
  try simp only [Act.put, List.setIfInBounds_toArray, List.set_cons_zero, List.set_cons_succ]
  clear hHeld
  refine wpAnyH_done (by kernel_rfl) ?_ _
  have yr1 := r1.cell
  have zr1 := r1.lt
  have yr2 := r2.cell
  have zr2 := r2.lt
  have yr3 := r3.cell
  have zr3 := r3.lt
  have ur3 := r3.free
  go_upto_region 19 with fail
  clear yr1 yr2 yr3 zr1 zr2 zr3 ur3
  replace r1 := ((r1.other nr1_r3.symm 2 (.int .i64 (1 + (a % 3)))).other nr1_r3.symm 3 (.int .i64 (b % 1048577)))
  replace r2 := ((r2.other nr2_r3.symm 2 (.int .i64 (1 + (a % 3)))).other nr2_r3.symm 3 (.int .i64 (b % 1048577)))
  replace r3 := ((r3.set 2 (.int .i64 (1 + (a % 3)))).set 3 (.int .i64 (b % 1048577)))
  simp only [List.setIfInBounds_toArray, List.set_cons_zero, List.set_cons_succ] at r3
  replace hc := ((hc.setCell (p := ⟨b3, 2, none⟩) wr3 (.int .i64 (1 + (a % 3)))).setCell (p := ⟨b3, 3, none⟩) wr3 (.int .i64 (b % 1048577)))
  generalize hW : World.setCell _ _ _ = V5 at *
  clear hW
  refine wp_region_held_drew (S := fun W' => (∀ j, W'.cell? ⟨w.heap.size, j, none⟩ = (#[.int .u8 k, .int .u8 m, .int .u8 t, .int .u32 a, .int .u32 b, .int .u32 c] : Array Value)[j]?)) (by kernel_rfl) r1.cell (fun hHeld => ?_)
  replace r1 := r1.drew
  replace r2 := r2.drew
  replace r3 := r3.drew
  replace hc := hc.drew
  generalize V5.drew = X0 at *
  refine' wpAnyH_take (i := 2) (oi := _) (v := _) ?_ (by kernel_rfl) (by kernel_rfl) (by kernel_rfl) ?_ (Or.inl ⟨?_, ?_⟩) (by assumption) ?_
  rotate_left 2
  · (simp only [List.getElem?_toArray, List.getElem?_cons_succ, List.getElem?_cons_zero]; rfl)
  · first | exact fun _ _ _ h => h | exact fun _ _ _ h => nomatch h.1
  · rfl
  · (intro W hSW; (try dsimp only at hSW); go_split_ands; first | (go_simp; done) | (go_simp; with_reducible rfl))
  try simp only [Act.put, List.setIfInBounds_toArray, List.set_cons_zero, List.set_cons_succ]
  refine' wpAnyH_take (i := 3) (oi := _) (v := _) ?_ (by kernel_rfl) (by kernel_rfl) (by kernel_rfl) ?_ (Or.inl ⟨?_, ?_⟩) (by assumption) ?_
  rotate_left 2
  · (simp only [List.getElem?_toArray, List.getElem?_cons_succ, List.getElem?_cons_zero]; rfl)
  · first | exact fun _ _ _ h => h | exact fun _ _ _ h => nomatch h.1
  · rfl
  · (intro W hSW; (try dsimp only at hSW); go_split_ands; first | (go_simp; done) | (go_simp; with_reducible rfl))
  try simp only [Act.put, List.setIfInBounds_toArray, List.set_cons_zero, List.set_cons_succ]
  refine' wpAnyH_take (i := 4) (oi := _) (v := _) ?_ (by kernel_rfl) (by kernel_rfl) (by kernel_rfl) ?_ (Or.inl ⟨?_, ?_⟩) (by assumption) ?_
  rotate_left 2
  · (simp only [List.getElem?_toArray, List.getElem?_cons_succ, List.getElem?_cons_zero]; rfl)
  · first | exact fun _ _ _ h => h | exact fun _ _ _ h => nomatch h.1
  · rfl
  · (intro W hSW; (try dsimp only at hSW); go_split_ands; first | (go_simp; done) | (go_simp; with_reducible rfl))
  try simp only [Act.put, List.setIfInBounds_toArray, List.set_cons_zero, List.set_cons_succ]
  clear hHeld
  refine wpAnyH_ready (rs := [0]) (by kernel_rfl) (by simp) ?_
  refine' AllReadyH.cons (o := _) ?_ (fun K hK => ?_) AllReadyH.nil
  rotate_left 1
  · (simp only [List.getElem?_toArray, List.getElem?_cons_succ, List.getElem?_cons_zero]; rfl)
  go_simp
  refine Calls.mono (rep_z _) ?_
  rintro e X1 ⟨rfl, hn⟩
  replace r1 := r1.on hn
  replace r2 := r2.on hn
  replace r3 := r3.on hn
  replace hc := chain hc hn
  clear hn
  go_simp
  refine hK.out _ _ r1.cell (fun hHeld => ?_)
  clear hK K hHeld
  refine wpAnyH_ready (rs := [1]) (by kernel_rfl) (by simp) ?_
  refine' AllReadyH.cons (o := _) ?_ (fun K hK => ?_) AllReadyH.nil
  rotate_left 1
  · (simp only [List.getElem?_toArray, List.getElem?_cons_succ, List.getElem?_cons_zero]; rfl)
  go_simp
  have r5 := Row.new (W := X1) (cs := #[.string ⟨#[97]⟩, .string ⟨#[109, 97, 105, 110]⟩, .string ⟨#[120, 32, 121]⟩, .string ⟨#[34, 92]⟩, .string ⟨#[195, 169, 228, 184, 173]⟩, .string ⟨#[122, 122, 122, 122, 122, 122, 122, 122, 122, 122, 122, 122, 122, 122, 122, 122, 122, 122, 122, 122, 122, 122, 122, 122]⟩]) (t := 9)
  have hn := below_alloc X1 (.cells #[.string ⟨#[97]⟩, .string ⟨#[109, 97, 105, 110]⟩, .string ⟨#[120, 32, 121]⟩, .string ⟨#[34, 92]⟩, .string ⟨#[195, 169, 228, 184, 173]⟩, .string ⟨#[122, 122, 122, 122, 122, 122, 122, 122, 122, 122, 122, 122, 122, 122, 122, 122, 122, 122, 122, 122, 122, 122, 122, 122]⟩] 9)
  have nr1_r5 : w.heap.size ≠ X1.heap.size := Nat.ne_of_lt r1.lt
  have nr2_r5 : w.heap.size + 1 ≠ X1.heap.size := Nat.ne_of_lt r2.lt
  have nr3_r5 : b3 ≠ X1.heap.size := Nat.ne_of_lt r3.lt
  have wr5 : w.heap.size ≤ X1.heap.size := hc.size
  replace r1 := r1.on hn
  replace r2 := r2.on hn
  replace r3 := r3.on hn
  replace hc := chain hc hn
  clear hn
  generalize X1.alloc (.cells #[.string ⟨#[97]⟩, .string ⟨#[109, 97, 105, 110]⟩, .string ⟨#[120, 32, 121]⟩, .string ⟨#[34, 92]⟩, .string ⟨#[195, 169, 228, 184, 173]⟩, .string ⟨#[122, 122, 122, 122, 122, 122, 122, 122, 122, 122, 122, 122, 122, 122, 122, 122, 122, 122, 122, 122, 122, 122, 122, 122]⟩] 9) = V6 at r1 r2 r3 r5 hc ⊢
  generalize X1.heap.size = b5 at *
  refine hK.out _ _ r1.cell (fun hHeld => ?_)
  clear hK K hHeld
  refine wpAnyH_ready (rs := [5]) (by kernel_rfl) (by simp) ?_
  refine' AllReadyH.cons (o := _) ?_ (fun K hK => ?_) AllReadyH.nil
  rotate_left 1
  · (simp only [List.getElem?_toArray, List.getElem?_cons_succ, List.getElem?_cons_zero]; rfl)
  go_simp
  refine hK.out _ _ r1.cell (fun hHeld => ?_)
  clear hK K hHeld
  have yr5 := r5.cell
  have zr5 := r5.lt
  refine wpAnyH_ready (rs := [6]) (by kernel_rfl) (by simp) ?_
  refine' AllReadyH.cons (o := _) ?_ (fun K hK => ?_) AllReadyH.nil
  rotate_left 1
  · (simp only [List.getElem?_toArray, List.getElem?_cons_succ, List.getElem?_cons_zero]; rfl)
  go_simp
  refine hK.out _ _ r1.cell (fun hHeld => ?_)
  clear hK K
  refine' wpAnyH_take (i := 7) (oi := _) (v := _) ?_ (by kernel_rfl) (by kernel_rfl) (by kernel_rfl) ?_ (Or.inl ⟨?_, ?_⟩) (by assumption) ?_
  rotate_left 2
  · (simp only [List.getElem?_toArray, List.getElem?_cons_succ, List.getElem?_cons_zero]; rfl)
  · first | exact fun _ _ _ h => h | exact fun _ _ _ h => nomatch h.1
  · rfl
  · (intro W hSW; (try dsimp only at hSW); go_split_ands; first | (go_simp; done) | (go_simp; with_reducible rfl))
  try simp only [Act.put, List.setIfInBounds_toArray, List.set_cons_zero, List.set_cons_succ]
  clear hHeld
  clear yr5 zr5
  have yr3 := r3.cell
  have zr3 := r3.lt
  have ur3 := r3.free
  refine wpAnyH_ready (rs := [8]) (by kernel_rfl) (by simp) ?_
  refine' AllReadyH.cons (o := _) ?_ (fun K hK => ?_) AllReadyH.nil
  rotate_left 1
  · (simp only [List.getElem?_toArray, List.getElem?_cons_succ, List.getElem?_cons_zero]; rfl)
  go_simp
  clear yr3 zr3 ur3
  replace r1 := (r1.other nr1_r3.symm 5 (.string ⟨#[120, 32, 121]⟩))
  replace r2 := (r2.other nr2_r3.symm 5 (.string ⟨#[120, 32, 121]⟩))
  replace r5 := (r5.other nr3_r5 5 (.string ⟨#[120, 32, 121]⟩))
  replace r3 := (r3.set 5 (.string ⟨#[120, 32, 121]⟩))
  simp only [List.setIfInBounds_toArray, List.set_cons_zero, List.set_cons_succ] at r3
  replace hc := (hc.setCell (p := ⟨b3, 5, none⟩) wr3 (.string ⟨#[120, 32, 121]⟩))
  generalize hW : World.setCell _ _ _ = V7 at *
  clear hW
  refine hK.out _ _ r1.cell (fun hHeld => ?_)
  clear hK K hHeld
  refine wpAnyH_done (by kernel_rfl) ?_ _
  have yr1 := r1.cell
  have zr1 := r1.lt
  have yr2 := r2.cell
  have zr2 := r2.lt
  have yr3 := r3.cell
  have zr3 := r3.lt
  have yr5 := r5.cell
  have zr5 := r5.lt
  have ur2 := r2.free
  go_wp2_with fail
  clear yr1 yr2 yr3 yr5 zr1 zr2 zr3 zr5 ur2
  replace r2 := r2.set 0 (.int .i64 8)
  replace r2 := r2.set 1 (.int .i64 (m % 4))
  replace r2 := r2.set 2 (.int .i64 (1 + (a % 3)))
  replace r2 := r2.set 3 (.int .i64 (b % 1048577))
  replace r2 := r2.set 4 (.int .i64 0)
  replace r2 := r2.set 5 (.string ⟨#[120, 32, 121]⟩)
  replace hc := hc.setCell (p := ⟨w.heap.size + 1, 0, none⟩) wr2 (.int .i64 8)
  replace hc := hc.setCell (p := ⟨w.heap.size + 1, 1, none⟩) wr2 (.int .i64 (m % 4))
  replace hc := hc.setCell (p := ⟨w.heap.size + 1, 2, none⟩) wr2 (.int .i64 (1 + (a % 3)))
  replace hc := hc.setCell (p := ⟨w.heap.size + 1, 3, none⟩) wr2 (.int .i64 (b % 1048577))
  replace hc := hc.setCell (p := ⟨w.heap.size + 1, 4, none⟩) wr2 (.int .i64 0)
  replace hc := hc.setCell (p := ⟨w.heap.size + 1, 5, none⟩) wr2 (.string ⟨#[120, 32, 121]⟩)
  simp only [List.setIfInBounds_toArray, List.set_cons_zero, List.set_cons_succ] at r2
  generalize hW : World.setCell _ _ _ = Z9 at *
  clear hW
  have z9 := r2.cell
  refine bodyPost_ret (v := opRV (8, ⟨(m % 4), (1 + (a % 3)), (b % 1048577), 0, ⟨#[120, 32, 121]⟩⟩)) (by simp [results, Tryz.results9, go_sem, z9]) rfl ⟨⟨_, rfl, ?_⟩, hc⟩
  unfold okR
  rw [opOk_iff]
  simp (decide := true) only [mHi, aLo, aHi, bLo, bHi, cLo, cHi, tgOk]
  simp [show tagOk [120, 32, 121] = true by decide]; omega
theorem made_8_3 (k m t a b c : Int) (w : World) (hk : k % 17 = 7) (ht : t % 6 = 3) (k0 : 0 ≤ k) (k1 : k ≤ 255) (m0 : 0 ≤ m) (m1 : m ≤ 255) (t0 : 0 ≤ t) (t1 : t ≤ 255) (a0 : 0 ≤ a) (a1 : a ≤ 4294967295) (b0 : 0 ≤ b) (b1 : b ≤ 4294967295) (c0 : 0 ≤ c) (c1 : c ≤ 4294967295) :
    Calls Tryz.prog 9 #[.agg #[.int .u8 k, .int .u8 m, .int .u8 t, .int .u32 a, .int .u32 b, .int .u32 c]] w (MadeP w) := by
  have hc := Below.refl w.heap.size w
  have q1 : IntKind.i64.wrap k = k := IntWalk.i64_in _ ⟨by omega, by omega⟩
  have q2 : IntKind.i64.wrap m = m := IntWalk.i64_in _ ⟨by omega, by omega⟩
  have q3 : IntKind.i64.wrap a = a := IntWalk.i64_in _ ⟨by omega, by omega⟩
  have q4 : IntKind.i64.wrap b = b := IntWalk.i64_in _ ⟨by omega, by omega⟩
  have q5 : IntKind.i64.wrap c = c := IntWalk.i64_in _ ⟨by omega, by omega⟩
  have q6 : IntKind.i64.wrap t = t := IntWalk.i64_in _ ⟨by omega, by omega⟩
  obtain ⟨ga3, la3⟩ := tm a 3 a0 (by decide)
  obtain ⟨gb1048577, lb1048577⟩ := tm b 1048577 b0 (by decide)
  obtain ⟨gm, lm⟩ := tm m 4 m0 (by decide)
  have x0 := w64 (1 + (a % 3)) (by omega) (by omega)
  have ht2 : Int.tmod t 6 = 3 := by rw [Int.tmod_eq_emod_of_nonneg t0]; exact ht
  go_enter Tryz.func9, Tryz.ntmps9
  go_upto_region 1 with fail
  have r1 := Row.new (W := w) (cs := #[.int .u8 k, .int .u8 m, .int .u8 t, .int .u32 a, .int .u32 b, .int .u32 c]) (t := 24)
  have hn := below_alloc w (.cells #[.int .u8 k, .int .u8 m, .int .u8 t, .int .u32 a, .int .u32 b, .int .u32 c] 24)
  replace hc := chain hc hn
  have hz1 : (w.alloc (.cells #[.int .u8 k, .int .u8 m, .int .u8 t, .int .u32 a, .int .u32 b, .int .u32 c] 24)).heap.size = w.heap.size + 1 := by simp
  clear hn
  generalize w.alloc (.cells #[.int .u8 k, .int .u8 m, .int .u8 t, .int .u32 a, .int .u32 b, .int .u32 c] 24) = V1 at r1 hc hz1 ⊢
  have r2 := Row.new (W := V1) (cs := #[.int .i64 0, .int .i64 0, .int .i64 0, .int .i64 0, .int .i64 0, .string ⟨#[]⟩]) (t := 31)
  have hn := below_alloc V1 (.cells #[.int .i64 0, .int .i64 0, .int .i64 0, .int .i64 0, .int .i64 0, .string ⟨#[]⟩] 31)
  replace r1 := r1.on hn
  replace hc := chain hc hn
  rw [hz1] at r2
  clear hn hz1
  generalize V1.alloc (.cells #[.int .i64 0, .int .i64 0, .int .i64 0, .int .i64 0, .int .i64 0, .string ⟨#[]⟩] 31) = V2 at r1 r2 hc ⊢
  have nr1_r2 : w.heap.size ≠ w.heap.size + 1 := by omega
  have wr2 : w.heap.size ≤ w.heap.size + 1 := by omega
  have wr1 : w.heap.size ≤ w.heap.size := Nat.le_refl _
  have yr1 := r1.cell
  have zr1 := r1.lt
  have yr2 := r2.cell
  have zr2 := r2.lt
  go_upto_region 2 with fail
  clear yr1 yr2 zr1 zr2
  have r3 := Row.new (W := V2) (cs := #[.int .i64 8, .int .i64 0, .int .i64 0, .int .i64 0, .int .i64 0, .string ⟨#[]⟩]) (t := 31)
  have hn := below_alloc V2 (.cells #[.int .i64 8, .int .i64 0, .int .i64 0, .int .i64 0, .int .i64 0, .string ⟨#[]⟩] 31)
  have nr1_r3 : w.heap.size ≠ V2.heap.size := Nat.ne_of_lt r1.lt
  have nr2_r3 : w.heap.size + 1 ≠ V2.heap.size := Nat.ne_of_lt r2.lt
  have wr3 : w.heap.size ≤ V2.heap.size := hc.size
  replace r1 := r1.on hn
  replace r2 := r2.on hn
  replace hc := chain hc hn
  clear hn
  generalize V2.alloc (.cells #[.int .i64 8, .int .i64 0, .int .i64 0, .int .i64 0, .int .i64 0, .string ⟨#[]⟩] 31) = V3 at r1 r2 r3 hc ⊢
  generalize V2.heap.size = b3 at *
  have yr1 := r1.cell
  have zr1 := r1.lt
  have yr2 := r2.cell
  have zr2 := r2.lt
  have yr3 := r3.cell
  have zr3 := r3.lt
  have ur3 := r3.free
  go_upto_region 4 with fail
  clear yr1 yr2 yr3 zr1 zr2 zr3 ur3
  replace r1 := (r1.other nr1_r3.symm 1 (.int .i64 (m % 4)))
  replace r2 := (r2.other nr2_r3.symm 1 (.int .i64 (m % 4)))
  replace r3 := (r3.set 1 (.int .i64 (m % 4)))
  simp only [List.setIfInBounds_toArray, List.set_cons_zero, List.set_cons_succ] at r3
  replace hc := (hc.setCell (p := ⟨b3, 1, none⟩) wr3 (.int .i64 (m % 4)))
  generalize hW : World.setCell _ _ _ = V4 at *
  clear hW
  refine wp_region_held_drew (S := fun W' => (∀ j, W'.cell? ⟨w.heap.size, j, none⟩ = (#[.int .u8 k, .int .u8 m, .int .u8 t, .int .u32 a, .int .u32 b, .int .u32 c] : Array Value)[j]?)) (by kernel_rfl) r1.cell (fun hHeld => ?_)
  replace r1 := r1.drew
  replace r2 := r2.drew
  replace r3 := r3.drew
  replace hc := hc.drew
  generalize V4.drew = X0 at *
  refine' wpAnyH_take (i := 0) (oi := _) (v := _) ?_ (by kernel_rfl) (by kernel_rfl) (by kernel_rfl) ?_ (Or.inl ⟨?_, ?_⟩) (by assumption) ?_
  rotate_left 2
  · (simp only [List.getElem?_toArray, List.getElem?_cons_succ, List.getElem?_cons_zero]; rfl)
  · first | exact fun _ _ _ h => h | exact fun _ _ _ h => nomatch h.1
  · rfl
  · (intro W hSW; (try dsimp only at hSW); go_split_ands; first | (go_simp; done) | (go_simp; with_reducible rfl))
  try simp only [Act.put, List.setIfInBounds_toArray, List.set_cons_zero, List.set_cons_succ]
  refine' wpAnyH_take (i := 1) (oi := _) (v := _) ?_ (by kernel_rfl) (by kernel_rfl) (by kernel_rfl) ?_ (Or.inl ⟨?_, ?_⟩) (by assumption) ?_
  rotate_left 2
  · (simp only [List.getElem?_toArray, List.getElem?_cons_succ, List.getElem?_cons_zero]; rfl)
  · first | exact fun _ _ _ h => h | exact fun _ _ _ h => nomatch h.1
  · rfl
  · (intro W hSW; (try dsimp only at hSW); go_split_ands; first | (go_simp; done) | (go_simp; with_reducible rfl))
  try simp only [Act.put, List.setIfInBounds_toArray, List.set_cons_zero, List.set_cons_succ]
  refine' wpAnyH_take (i := 2) (oi := _) (v := _) ?_ (by kernel_rfl) (by kernel_rfl) (by kernel_rfl) ?_ (Or.inl ⟨?_, ?_⟩) (by assumption) ?_
  rotate_left 2
  · (simp only [List.getElem?_toArray, List.getElem?_cons_succ, List.getElem?_cons_zero]; rfl)
  · first | exact fun _ _ _ h => h | exact fun _ _ _ h => nomatch h.1
  · rfl
  · (intro W hSW; (try dsimp only at hSW); go_split_ands; first | (go_simp; done) | (go_simp; with_reducible rfl))
  try simp only [Act.put, List.setIfInBounds_toArray, List.set_cons_zero, List.set_cons_succ]
  refine' wpAnyH_take (i := 3) (oi := _) (v := _) ?_ (by kernel_rfl) (by kernel_rfl) (by kernel_rfl) ?_ (Or.inl ⟨?_, ?_⟩) (by assumption) ?_
  rotate_left 2
  · (simp only [List.getElem?_toArray, List.getElem?_cons_succ, List.getElem?_cons_zero]; rfl)
  · first | exact fun _ _ _ h => h | exact fun _ _ _ h => nomatch h.1
  · rfl
  · (intro W hSW; (try dsimp only at hSW); go_split_ands; first | (go_simp; done) | (go_simp; with_reducible rfl))
  try simp only [Act.put, List.setIfInBounds_toArray, List.set_cons_zero, List.set_cons_succ]
  refine' wpAnyH_take (i := 4) (oi := _) (v := _) ?_ (by kernel_rfl) (by kernel_rfl) (by kernel_rfl) ?_ (Or.inl ⟨?_, ?_⟩) (by assumption) ?_
  rotate_left 2
  · (simp only [List.getElem?_toArray, List.getElem?_cons_succ, List.getElem?_cons_zero]; rfl)
  · first | exact fun _ _ _ h => h | exact fun _ _ _ h => nomatch h.1
  · rfl
  · (intro W hSW; (try dsimp only at hSW); go_split_ands; first | (go_simp; done) | (go_simp; with_reducible rfl))
  try simp only [Act.put, List.setIfInBounds_toArray, List.set_cons_zero, List.set_cons_succ]
  refine' wpAnyH_take (i := 5) (oi := _) (v := _) ?_ (by kernel_rfl) (by kernel_rfl) (by kernel_rfl) ?_ (Or.inl ⟨?_, ?_⟩) (by assumption) ?_
  rotate_left 2
  · (simp only [List.getElem?_toArray, List.getElem?_cons_succ, List.getElem?_cons_zero]; rfl)
  · first | exact fun _ _ _ h => h | exact fun _ _ _ h => nomatch h.1
  · rfl
  · (intro W hSW; (try dsimp only at hSW); go_split_ands; first | (go_simp; done) | (go_simp; with_reducible rfl))
  try simp only [Act.put, List.setIfInBounds_toArray, List.set_cons_zero, List.set_cons_succ]
  refine' wpAnyH_take (i := 6) (oi := _) (v := _) ?_ (by kernel_rfl) (by kernel_rfl) (by kernel_rfl) ?_ (Or.inl ⟨?_, ?_⟩) (by assumption) ?_
  rotate_left 2
  · (simp only [List.getElem?_toArray, List.getElem?_cons_succ, List.getElem?_cons_zero]; rfl)
  · first | exact fun _ _ _ h => h | exact fun _ _ _ h => nomatch h.1
  · rfl
  · (intro W hSW; (try dsimp only at hSW); go_split_ands; first | (go_simp; done) | (go_simp; with_reducible rfl))
  try simp only [Act.put, List.setIfInBounds_toArray, List.set_cons_zero, List.set_cons_succ]
  refine' wpAnyH_take (i := 7) (oi := _) (v := _) ?_ (by kernel_rfl) (by kernel_rfl) (by kernel_rfl) ?_ (Or.inl ⟨?_, ?_⟩) (by assumption) ?_
  rotate_left 2
  · (simp only [List.getElem?_toArray, List.getElem?_cons_succ, List.getElem?_cons_zero]; rfl)
  · first | exact fun _ _ _ h => h | exact fun _ _ _ h => nomatch h.1
  · rfl
  · (intro W hSW; (try dsimp only at hSW); go_split_ands; first | (go_simp; done) | (go_simp; with_reducible rfl))
  try simp only [Act.put, List.setIfInBounds_toArray, List.set_cons_zero, List.set_cons_succ]
  clear hHeld
  refine wpAnyH_done (by kernel_rfl) ?_ _
  have yr1 := r1.cell
  have zr1 := r1.lt
  have yr2 := r2.cell
  have zr2 := r2.lt
  have yr3 := r3.cell
  have zr3 := r3.lt
  have ur3 := r3.free
  go_upto_region 19 with fail
  clear yr1 yr2 yr3 zr1 zr2 zr3 ur3
  replace r1 := ((r1.other nr1_r3.symm 2 (.int .i64 (1 + (a % 3)))).other nr1_r3.symm 3 (.int .i64 (b % 1048577)))
  replace r2 := ((r2.other nr2_r3.symm 2 (.int .i64 (1 + (a % 3)))).other nr2_r3.symm 3 (.int .i64 (b % 1048577)))
  replace r3 := ((r3.set 2 (.int .i64 (1 + (a % 3)))).set 3 (.int .i64 (b % 1048577)))
  simp only [List.setIfInBounds_toArray, List.set_cons_zero, List.set_cons_succ] at r3
  replace hc := ((hc.setCell (p := ⟨b3, 2, none⟩) wr3 (.int .i64 (1 + (a % 3)))).setCell (p := ⟨b3, 3, none⟩) wr3 (.int .i64 (b % 1048577)))
  generalize hW : World.setCell _ _ _ = V5 at *
  clear hW
  refine wp_region_held_drew (S := fun W' => (∀ j, W'.cell? ⟨w.heap.size, j, none⟩ = (#[.int .u8 k, .int .u8 m, .int .u8 t, .int .u32 a, .int .u32 b, .int .u32 c] : Array Value)[j]?)) (by kernel_rfl) r1.cell (fun hHeld => ?_)
  replace r1 := r1.drew
  replace r2 := r2.drew
  replace r3 := r3.drew
  replace hc := hc.drew
  generalize V5.drew = X0 at *
  refine' wpAnyH_take (i := 2) (oi := _) (v := _) ?_ (by kernel_rfl) (by kernel_rfl) (by kernel_rfl) ?_ (Or.inl ⟨?_, ?_⟩) (by assumption) ?_
  rotate_left 2
  · (simp only [List.getElem?_toArray, List.getElem?_cons_succ, List.getElem?_cons_zero]; rfl)
  · first | exact fun _ _ _ h => h | exact fun _ _ _ h => nomatch h.1
  · rfl
  · (intro W hSW; (try dsimp only at hSW); go_split_ands; first | (go_simp; done) | (go_simp; with_reducible rfl))
  try simp only [Act.put, List.setIfInBounds_toArray, List.set_cons_zero, List.set_cons_succ]
  refine' wpAnyH_take (i := 3) (oi := _) (v := _) ?_ (by kernel_rfl) (by kernel_rfl) (by kernel_rfl) ?_ (Or.inl ⟨?_, ?_⟩) (by assumption) ?_
  rotate_left 2
  · (simp only [List.getElem?_toArray, List.getElem?_cons_succ, List.getElem?_cons_zero]; rfl)
  · first | exact fun _ _ _ h => h | exact fun _ _ _ h => nomatch h.1
  · rfl
  · (intro W hSW; (try dsimp only at hSW); go_split_ands; first | (go_simp; done) | (go_simp; with_reducible rfl))
  try simp only [Act.put, List.setIfInBounds_toArray, List.set_cons_zero, List.set_cons_succ]
  refine' wpAnyH_take (i := 4) (oi := _) (v := _) ?_ (by kernel_rfl) (by kernel_rfl) (by kernel_rfl) ?_ (Or.inl ⟨?_, ?_⟩) (by assumption) ?_
  rotate_left 2
  · (simp only [List.getElem?_toArray, List.getElem?_cons_succ, List.getElem?_cons_zero]; rfl)
  · first | exact fun _ _ _ h => h | exact fun _ _ _ h => nomatch h.1
  · rfl
  · (intro W hSW; (try dsimp only at hSW); go_split_ands; first | (go_simp; done) | (go_simp; with_reducible rfl))
  try simp only [Act.put, List.setIfInBounds_toArray, List.set_cons_zero, List.set_cons_succ]
  clear hHeld
  refine wpAnyH_ready (rs := [0]) (by kernel_rfl) (by simp) ?_
  refine' AllReadyH.cons (o := _) ?_ (fun K hK => ?_) AllReadyH.nil
  rotate_left 1
  · (simp only [List.getElem?_toArray, List.getElem?_cons_succ, List.getElem?_cons_zero]; rfl)
  go_simp
  refine Calls.mono (rep_z _) ?_
  rintro e X1 ⟨rfl, hn⟩
  replace r1 := r1.on hn
  replace r2 := r2.on hn
  replace r3 := r3.on hn
  replace hc := chain hc hn
  clear hn
  go_simp
  refine hK.out _ _ r1.cell (fun hHeld => ?_)
  clear hK K hHeld
  refine wpAnyH_ready (rs := [1]) (by kernel_rfl) (by simp) ?_
  refine' AllReadyH.cons (o := _) ?_ (fun K hK => ?_) AllReadyH.nil
  rotate_left 1
  · (simp only [List.getElem?_toArray, List.getElem?_cons_succ, List.getElem?_cons_zero]; rfl)
  go_simp
  have r5 := Row.new (W := X1) (cs := #[.string ⟨#[97]⟩, .string ⟨#[109, 97, 105, 110]⟩, .string ⟨#[120, 32, 121]⟩, .string ⟨#[34, 92]⟩, .string ⟨#[195, 169, 228, 184, 173]⟩, .string ⟨#[122, 122, 122, 122, 122, 122, 122, 122, 122, 122, 122, 122, 122, 122, 122, 122, 122, 122, 122, 122, 122, 122, 122, 122]⟩]) (t := 9)
  have hn := below_alloc X1 (.cells #[.string ⟨#[97]⟩, .string ⟨#[109, 97, 105, 110]⟩, .string ⟨#[120, 32, 121]⟩, .string ⟨#[34, 92]⟩, .string ⟨#[195, 169, 228, 184, 173]⟩, .string ⟨#[122, 122, 122, 122, 122, 122, 122, 122, 122, 122, 122, 122, 122, 122, 122, 122, 122, 122, 122, 122, 122, 122, 122, 122]⟩] 9)
  have nr1_r5 : w.heap.size ≠ X1.heap.size := Nat.ne_of_lt r1.lt
  have nr2_r5 : w.heap.size + 1 ≠ X1.heap.size := Nat.ne_of_lt r2.lt
  have nr3_r5 : b3 ≠ X1.heap.size := Nat.ne_of_lt r3.lt
  have wr5 : w.heap.size ≤ X1.heap.size := hc.size
  replace r1 := r1.on hn
  replace r2 := r2.on hn
  replace r3 := r3.on hn
  replace hc := chain hc hn
  clear hn
  generalize X1.alloc (.cells #[.string ⟨#[97]⟩, .string ⟨#[109, 97, 105, 110]⟩, .string ⟨#[120, 32, 121]⟩, .string ⟨#[34, 92]⟩, .string ⟨#[195, 169, 228, 184, 173]⟩, .string ⟨#[122, 122, 122, 122, 122, 122, 122, 122, 122, 122, 122, 122, 122, 122, 122, 122, 122, 122, 122, 122, 122, 122, 122, 122]⟩] 9) = V6 at r1 r2 r3 r5 hc ⊢
  generalize X1.heap.size = b5 at *
  refine hK.out _ _ r1.cell (fun hHeld => ?_)
  clear hK K hHeld
  refine wpAnyH_ready (rs := [5]) (by kernel_rfl) (by simp) ?_
  refine' AllReadyH.cons (o := _) ?_ (fun K hK => ?_) AllReadyH.nil
  rotate_left 1
  · (simp only [List.getElem?_toArray, List.getElem?_cons_succ, List.getElem?_cons_zero]; rfl)
  go_simp
  refine hK.out _ _ r1.cell (fun hHeld => ?_)
  clear hK K hHeld
  have yr5 := r5.cell
  have zr5 := r5.lt
  refine wpAnyH_ready (rs := [6]) (by kernel_rfl) (by simp) ?_
  refine' AllReadyH.cons (o := _) ?_ (fun K hK => ?_) AllReadyH.nil
  rotate_left 1
  · (simp only [List.getElem?_toArray, List.getElem?_cons_succ, List.getElem?_cons_zero]; rfl)
  go_simp
  refine hK.out _ _ r1.cell (fun hHeld => ?_)
  clear hK K
  refine' wpAnyH_take (i := 7) (oi := _) (v := _) ?_ (by kernel_rfl) (by kernel_rfl) (by kernel_rfl) ?_ (Or.inl ⟨?_, ?_⟩) (by assumption) ?_
  rotate_left 2
  · (simp only [List.getElem?_toArray, List.getElem?_cons_succ, List.getElem?_cons_zero]; rfl)
  · first | exact fun _ _ _ h => h | exact fun _ _ _ h => nomatch h.1
  · rfl
  · (intro W hSW; (try dsimp only at hSW); go_split_ands; first | (go_simp; done) | (go_simp; with_reducible rfl))
  try simp only [Act.put, List.setIfInBounds_toArray, List.set_cons_zero, List.set_cons_succ]
  clear hHeld
  clear yr5 zr5
  have yr3 := r3.cell
  have zr3 := r3.lt
  have ur3 := r3.free
  refine wpAnyH_ready (rs := [8]) (by kernel_rfl) (by simp) ?_
  refine' AllReadyH.cons (o := _) ?_ (fun K hK => ?_) AllReadyH.nil
  rotate_left 1
  · (simp only [List.getElem?_toArray, List.getElem?_cons_succ, List.getElem?_cons_zero]; rfl)
  go_simp
  clear yr3 zr3 ur3
  replace r1 := (r1.other nr1_r3.symm 5 (.string ⟨#[34, 92]⟩))
  replace r2 := (r2.other nr2_r3.symm 5 (.string ⟨#[34, 92]⟩))
  replace r5 := (r5.other nr3_r5 5 (.string ⟨#[34, 92]⟩))
  replace r3 := (r3.set 5 (.string ⟨#[34, 92]⟩))
  simp only [List.setIfInBounds_toArray, List.set_cons_zero, List.set_cons_succ] at r3
  replace hc := (hc.setCell (p := ⟨b3, 5, none⟩) wr3 (.string ⟨#[34, 92]⟩))
  generalize hW : World.setCell _ _ _ = V7 at *
  clear hW
  refine hK.out _ _ r1.cell (fun hHeld => ?_)
  clear hK K hHeld
  refine wpAnyH_done (by kernel_rfl) ?_ _
  have yr1 := r1.cell
  have zr1 := r1.lt
  have yr2 := r2.cell
  have zr2 := r2.lt
  have yr3 := r3.cell
  have zr3 := r3.lt
  have yr5 := r5.cell
  have zr5 := r5.lt
  have ur2 := r2.free
  go_wp2_with fail
  clear yr1 yr2 yr3 yr5 zr1 zr2 zr3 zr5 ur2
  replace r2 := r2.set 0 (.int .i64 8)
  replace r2 := r2.set 1 (.int .i64 (m % 4))
  replace r2 := r2.set 2 (.int .i64 (1 + (a % 3)))
  replace r2 := r2.set 3 (.int .i64 (b % 1048577))
  replace r2 := r2.set 4 (.int .i64 0)
  replace r2 := r2.set 5 (.string ⟨#[34, 92]⟩)
  replace hc := hc.setCell (p := ⟨w.heap.size + 1, 0, none⟩) wr2 (.int .i64 8)
  replace hc := hc.setCell (p := ⟨w.heap.size + 1, 1, none⟩) wr2 (.int .i64 (m % 4))
  replace hc := hc.setCell (p := ⟨w.heap.size + 1, 2, none⟩) wr2 (.int .i64 (1 + (a % 3)))
  replace hc := hc.setCell (p := ⟨w.heap.size + 1, 3, none⟩) wr2 (.int .i64 (b % 1048577))
  replace hc := hc.setCell (p := ⟨w.heap.size + 1, 4, none⟩) wr2 (.int .i64 0)
  replace hc := hc.setCell (p := ⟨w.heap.size + 1, 5, none⟩) wr2 (.string ⟨#[34, 92]⟩)
  simp only [List.setIfInBounds_toArray, List.set_cons_zero, List.set_cons_succ] at r2
  generalize hW : World.setCell _ _ _ = Z9 at *
  clear hW
  have z9 := r2.cell
  refine bodyPost_ret (v := opRV (8, ⟨(m % 4), (1 + (a % 3)), (b % 1048577), 0, ⟨#[34, 92]⟩⟩)) (by simp [results, Tryz.results9, go_sem, z9]) rfl ⟨⟨_, rfl, ?_⟩, hc⟩
  unfold okR
  rw [opOk_iff]
  simp (decide := true) only [mHi, aLo, aHi, bLo, bHi, cLo, cHi, tgOk]
  simp [show tagOk [34, 92] = true by decide]; omega
theorem made_8_4 (k m t a b c : Int) (w : World) (hk : k % 17 = 7) (ht : t % 6 = 4) (k0 : 0 ≤ k) (k1 : k ≤ 255) (m0 : 0 ≤ m) (m1 : m ≤ 255) (t0 : 0 ≤ t) (t1 : t ≤ 255) (a0 : 0 ≤ a) (a1 : a ≤ 4294967295) (b0 : 0 ≤ b) (b1 : b ≤ 4294967295) (c0 : 0 ≤ c) (c1 : c ≤ 4294967295) :
    Calls Tryz.prog 9 #[.agg #[.int .u8 k, .int .u8 m, .int .u8 t, .int .u32 a, .int .u32 b, .int .u32 c]] w (MadeP w) := by
  have hc := Below.refl w.heap.size w
  have q1 : IntKind.i64.wrap k = k := IntWalk.i64_in _ ⟨by omega, by omega⟩
  have q2 : IntKind.i64.wrap m = m := IntWalk.i64_in _ ⟨by omega, by omega⟩
  have q3 : IntKind.i64.wrap a = a := IntWalk.i64_in _ ⟨by omega, by omega⟩
  have q4 : IntKind.i64.wrap b = b := IntWalk.i64_in _ ⟨by omega, by omega⟩
  have q5 : IntKind.i64.wrap c = c := IntWalk.i64_in _ ⟨by omega, by omega⟩
  have q6 : IntKind.i64.wrap t = t := IntWalk.i64_in _ ⟨by omega, by omega⟩
  obtain ⟨ga3, la3⟩ := tm a 3 a0 (by decide)
  obtain ⟨gb1048577, lb1048577⟩ := tm b 1048577 b0 (by decide)
  obtain ⟨gm, lm⟩ := tm m 4 m0 (by decide)
  have x0 := w64 (1 + (a % 3)) (by omega) (by omega)
  have ht2 : Int.tmod t 6 = 4 := by rw [Int.tmod_eq_emod_of_nonneg t0]; exact ht
  go_enter Tryz.func9, Tryz.ntmps9
  go_upto_region 1 with fail
  have r1 := Row.new (W := w) (cs := #[.int .u8 k, .int .u8 m, .int .u8 t, .int .u32 a, .int .u32 b, .int .u32 c]) (t := 24)
  have hn := below_alloc w (.cells #[.int .u8 k, .int .u8 m, .int .u8 t, .int .u32 a, .int .u32 b, .int .u32 c] 24)
  replace hc := chain hc hn
  have hz1 : (w.alloc (.cells #[.int .u8 k, .int .u8 m, .int .u8 t, .int .u32 a, .int .u32 b, .int .u32 c] 24)).heap.size = w.heap.size + 1 := by simp
  clear hn
  generalize w.alloc (.cells #[.int .u8 k, .int .u8 m, .int .u8 t, .int .u32 a, .int .u32 b, .int .u32 c] 24) = V1 at r1 hc hz1 ⊢
  have r2 := Row.new (W := V1) (cs := #[.int .i64 0, .int .i64 0, .int .i64 0, .int .i64 0, .int .i64 0, .string ⟨#[]⟩]) (t := 31)
  have hn := below_alloc V1 (.cells #[.int .i64 0, .int .i64 0, .int .i64 0, .int .i64 0, .int .i64 0, .string ⟨#[]⟩] 31)
  replace r1 := r1.on hn
  replace hc := chain hc hn
  rw [hz1] at r2
  clear hn hz1
  generalize V1.alloc (.cells #[.int .i64 0, .int .i64 0, .int .i64 0, .int .i64 0, .int .i64 0, .string ⟨#[]⟩] 31) = V2 at r1 r2 hc ⊢
  have nr1_r2 : w.heap.size ≠ w.heap.size + 1 := by omega
  have wr2 : w.heap.size ≤ w.heap.size + 1 := by omega
  have wr1 : w.heap.size ≤ w.heap.size := Nat.le_refl _
  have yr1 := r1.cell
  have zr1 := r1.lt
  have yr2 := r2.cell
  have zr2 := r2.lt
  go_upto_region 2 with fail
  clear yr1 yr2 zr1 zr2
  have r3 := Row.new (W := V2) (cs := #[.int .i64 8, .int .i64 0, .int .i64 0, .int .i64 0, .int .i64 0, .string ⟨#[]⟩]) (t := 31)
  have hn := below_alloc V2 (.cells #[.int .i64 8, .int .i64 0, .int .i64 0, .int .i64 0, .int .i64 0, .string ⟨#[]⟩] 31)
  have nr1_r3 : w.heap.size ≠ V2.heap.size := Nat.ne_of_lt r1.lt
  have nr2_r3 : w.heap.size + 1 ≠ V2.heap.size := Nat.ne_of_lt r2.lt
  have wr3 : w.heap.size ≤ V2.heap.size := hc.size
  replace r1 := r1.on hn
  replace r2 := r2.on hn
  replace hc := chain hc hn
  clear hn
  generalize V2.alloc (.cells #[.int .i64 8, .int .i64 0, .int .i64 0, .int .i64 0, .int .i64 0, .string ⟨#[]⟩] 31) = V3 at r1 r2 r3 hc ⊢
  generalize V2.heap.size = b3 at *
  have yr1 := r1.cell
  have zr1 := r1.lt
  have yr2 := r2.cell
  have zr2 := r2.lt
  have yr3 := r3.cell
  have zr3 := r3.lt
  have ur3 := r3.free
  go_upto_region 4 with fail
  clear yr1 yr2 yr3 zr1 zr2 zr3 ur3
  replace r1 := (r1.other nr1_r3.symm 1 (.int .i64 (m % 4)))
  replace r2 := (r2.other nr2_r3.symm 1 (.int .i64 (m % 4)))
  replace r3 := (r3.set 1 (.int .i64 (m % 4)))
  simp only [List.setIfInBounds_toArray, List.set_cons_zero, List.set_cons_succ] at r3
  replace hc := (hc.setCell (p := ⟨b3, 1, none⟩) wr3 (.int .i64 (m % 4)))
  generalize hW : World.setCell _ _ _ = V4 at *
  clear hW
  refine wp_region_held_drew (S := fun W' => (∀ j, W'.cell? ⟨w.heap.size, j, none⟩ = (#[.int .u8 k, .int .u8 m, .int .u8 t, .int .u32 a, .int .u32 b, .int .u32 c] : Array Value)[j]?)) (by kernel_rfl) r1.cell (fun hHeld => ?_)
  replace r1 := r1.drew
  replace r2 := r2.drew
  replace r3 := r3.drew
  replace hc := hc.drew
  generalize V4.drew = X0 at *
  refine' wpAnyH_take (i := 0) (oi := _) (v := _) ?_ (by kernel_rfl) (by kernel_rfl) (by kernel_rfl) ?_ (Or.inl ⟨?_, ?_⟩) (by assumption) ?_
  rotate_left 2
  · (simp only [List.getElem?_toArray, List.getElem?_cons_succ, List.getElem?_cons_zero]; rfl)
  · first | exact fun _ _ _ h => h | exact fun _ _ _ h => nomatch h.1
  · rfl
  · (intro W hSW; (try dsimp only at hSW); go_split_ands; first | (go_simp; done) | (go_simp; with_reducible rfl))
  try simp only [Act.put, List.setIfInBounds_toArray, List.set_cons_zero, List.set_cons_succ]
  refine' wpAnyH_take (i := 1) (oi := _) (v := _) ?_ (by kernel_rfl) (by kernel_rfl) (by kernel_rfl) ?_ (Or.inl ⟨?_, ?_⟩) (by assumption) ?_
  rotate_left 2
  · (simp only [List.getElem?_toArray, List.getElem?_cons_succ, List.getElem?_cons_zero]; rfl)
  · first | exact fun _ _ _ h => h | exact fun _ _ _ h => nomatch h.1
  · rfl
  · (intro W hSW; (try dsimp only at hSW); go_split_ands; first | (go_simp; done) | (go_simp; with_reducible rfl))
  try simp only [Act.put, List.setIfInBounds_toArray, List.set_cons_zero, List.set_cons_succ]
  refine' wpAnyH_take (i := 2) (oi := _) (v := _) ?_ (by kernel_rfl) (by kernel_rfl) (by kernel_rfl) ?_ (Or.inl ⟨?_, ?_⟩) (by assumption) ?_
  rotate_left 2
  · (simp only [List.getElem?_toArray, List.getElem?_cons_succ, List.getElem?_cons_zero]; rfl)
  · first | exact fun _ _ _ h => h | exact fun _ _ _ h => nomatch h.1
  · rfl
  · (intro W hSW; (try dsimp only at hSW); go_split_ands; first | (go_simp; done) | (go_simp; with_reducible rfl))
  try simp only [Act.put, List.setIfInBounds_toArray, List.set_cons_zero, List.set_cons_succ]
  refine' wpAnyH_take (i := 3) (oi := _) (v := _) ?_ (by kernel_rfl) (by kernel_rfl) (by kernel_rfl) ?_ (Or.inl ⟨?_, ?_⟩) (by assumption) ?_
  rotate_left 2
  · (simp only [List.getElem?_toArray, List.getElem?_cons_succ, List.getElem?_cons_zero]; rfl)
  · first | exact fun _ _ _ h => h | exact fun _ _ _ h => nomatch h.1
  · rfl
  · (intro W hSW; (try dsimp only at hSW); go_split_ands; first | (go_simp; done) | (go_simp; with_reducible rfl))
  try simp only [Act.put, List.setIfInBounds_toArray, List.set_cons_zero, List.set_cons_succ]
  refine' wpAnyH_take (i := 4) (oi := _) (v := _) ?_ (by kernel_rfl) (by kernel_rfl) (by kernel_rfl) ?_ (Or.inl ⟨?_, ?_⟩) (by assumption) ?_
  rotate_left 2
  · (simp only [List.getElem?_toArray, List.getElem?_cons_succ, List.getElem?_cons_zero]; rfl)
  · first | exact fun _ _ _ h => h | exact fun _ _ _ h => nomatch h.1
  · rfl
  · (intro W hSW; (try dsimp only at hSW); go_split_ands; first | (go_simp; done) | (go_simp; with_reducible rfl))
  try simp only [Act.put, List.setIfInBounds_toArray, List.set_cons_zero, List.set_cons_succ]
  refine' wpAnyH_take (i := 5) (oi := _) (v := _) ?_ (by kernel_rfl) (by kernel_rfl) (by kernel_rfl) ?_ (Or.inl ⟨?_, ?_⟩) (by assumption) ?_
  rotate_left 2
  · (simp only [List.getElem?_toArray, List.getElem?_cons_succ, List.getElem?_cons_zero]; rfl)
  · first | exact fun _ _ _ h => h | exact fun _ _ _ h => nomatch h.1
  · rfl
  · (intro W hSW; (try dsimp only at hSW); go_split_ands; first | (go_simp; done) | (go_simp; with_reducible rfl))
  try simp only [Act.put, List.setIfInBounds_toArray, List.set_cons_zero, List.set_cons_succ]
  refine' wpAnyH_take (i := 6) (oi := _) (v := _) ?_ (by kernel_rfl) (by kernel_rfl) (by kernel_rfl) ?_ (Or.inl ⟨?_, ?_⟩) (by assumption) ?_
  rotate_left 2
  · (simp only [List.getElem?_toArray, List.getElem?_cons_succ, List.getElem?_cons_zero]; rfl)
  · first | exact fun _ _ _ h => h | exact fun _ _ _ h => nomatch h.1
  · rfl
  · (intro W hSW; (try dsimp only at hSW); go_split_ands; first | (go_simp; done) | (go_simp; with_reducible rfl))
  try simp only [Act.put, List.setIfInBounds_toArray, List.set_cons_zero, List.set_cons_succ]
  refine' wpAnyH_take (i := 7) (oi := _) (v := _) ?_ (by kernel_rfl) (by kernel_rfl) (by kernel_rfl) ?_ (Or.inl ⟨?_, ?_⟩) (by assumption) ?_
  rotate_left 2
  · (simp only [List.getElem?_toArray, List.getElem?_cons_succ, List.getElem?_cons_zero]; rfl)
  · first | exact fun _ _ _ h => h | exact fun _ _ _ h => nomatch h.1
  · rfl
  · (intro W hSW; (try dsimp only at hSW); go_split_ands; first | (go_simp; done) | (go_simp; with_reducible rfl))
  try simp only [Act.put, List.setIfInBounds_toArray, List.set_cons_zero, List.set_cons_succ]
  clear hHeld
  refine wpAnyH_done (by kernel_rfl) ?_ _
  have yr1 := r1.cell
  have zr1 := r1.lt
  have yr2 := r2.cell
  have zr2 := r2.lt
  have yr3 := r3.cell
  have zr3 := r3.lt
  have ur3 := r3.free
  go_upto_region 19 with fail
  clear yr1 yr2 yr3 zr1 zr2 zr3 ur3
  replace r1 := ((r1.other nr1_r3.symm 2 (.int .i64 (1 + (a % 3)))).other nr1_r3.symm 3 (.int .i64 (b % 1048577)))
  replace r2 := ((r2.other nr2_r3.symm 2 (.int .i64 (1 + (a % 3)))).other nr2_r3.symm 3 (.int .i64 (b % 1048577)))
  replace r3 := ((r3.set 2 (.int .i64 (1 + (a % 3)))).set 3 (.int .i64 (b % 1048577)))
  simp only [List.setIfInBounds_toArray, List.set_cons_zero, List.set_cons_succ] at r3
  replace hc := ((hc.setCell (p := ⟨b3, 2, none⟩) wr3 (.int .i64 (1 + (a % 3)))).setCell (p := ⟨b3, 3, none⟩) wr3 (.int .i64 (b % 1048577)))
  generalize hW : World.setCell _ _ _ = V5 at *
  clear hW
  refine wp_region_held_drew (S := fun W' => (∀ j, W'.cell? ⟨w.heap.size, j, none⟩ = (#[.int .u8 k, .int .u8 m, .int .u8 t, .int .u32 a, .int .u32 b, .int .u32 c] : Array Value)[j]?)) (by kernel_rfl) r1.cell (fun hHeld => ?_)
  replace r1 := r1.drew
  replace r2 := r2.drew
  replace r3 := r3.drew
  replace hc := hc.drew
  generalize V5.drew = X0 at *
  refine' wpAnyH_take (i := 2) (oi := _) (v := _) ?_ (by kernel_rfl) (by kernel_rfl) (by kernel_rfl) ?_ (Or.inl ⟨?_, ?_⟩) (by assumption) ?_
  rotate_left 2
  · (simp only [List.getElem?_toArray, List.getElem?_cons_succ, List.getElem?_cons_zero]; rfl)
  · first | exact fun _ _ _ h => h | exact fun _ _ _ h => nomatch h.1
  · rfl
  · (intro W hSW; (try dsimp only at hSW); go_split_ands; first | (go_simp; done) | (go_simp; with_reducible rfl))
  try simp only [Act.put, List.setIfInBounds_toArray, List.set_cons_zero, List.set_cons_succ]
  refine' wpAnyH_take (i := 3) (oi := _) (v := _) ?_ (by kernel_rfl) (by kernel_rfl) (by kernel_rfl) ?_ (Or.inl ⟨?_, ?_⟩) (by assumption) ?_
  rotate_left 2
  · (simp only [List.getElem?_toArray, List.getElem?_cons_succ, List.getElem?_cons_zero]; rfl)
  · first | exact fun _ _ _ h => h | exact fun _ _ _ h => nomatch h.1
  · rfl
  · (intro W hSW; (try dsimp only at hSW); go_split_ands; first | (go_simp; done) | (go_simp; with_reducible rfl))
  try simp only [Act.put, List.setIfInBounds_toArray, List.set_cons_zero, List.set_cons_succ]
  refine' wpAnyH_take (i := 4) (oi := _) (v := _) ?_ (by kernel_rfl) (by kernel_rfl) (by kernel_rfl) ?_ (Or.inl ⟨?_, ?_⟩) (by assumption) ?_
  rotate_left 2
  · (simp only [List.getElem?_toArray, List.getElem?_cons_succ, List.getElem?_cons_zero]; rfl)
  · first | exact fun _ _ _ h => h | exact fun _ _ _ h => nomatch h.1
  · rfl
  · (intro W hSW; (try dsimp only at hSW); go_split_ands; first | (go_simp; done) | (go_simp; with_reducible rfl))
  try simp only [Act.put, List.setIfInBounds_toArray, List.set_cons_zero, List.set_cons_succ]
  clear hHeld
  refine wpAnyH_ready (rs := [0]) (by kernel_rfl) (by simp) ?_
  refine' AllReadyH.cons (o := _) ?_ (fun K hK => ?_) AllReadyH.nil
  rotate_left 1
  · (simp only [List.getElem?_toArray, List.getElem?_cons_succ, List.getElem?_cons_zero]; rfl)
  go_simp
  refine Calls.mono (rep_z _) ?_
  rintro e X1 ⟨rfl, hn⟩
  replace r1 := r1.on hn
  replace r2 := r2.on hn
  replace r3 := r3.on hn
  replace hc := chain hc hn
  clear hn
  go_simp
  refine hK.out _ _ r1.cell (fun hHeld => ?_)
  clear hK K hHeld
  refine wpAnyH_ready (rs := [1]) (by kernel_rfl) (by simp) ?_
  refine' AllReadyH.cons (o := _) ?_ (fun K hK => ?_) AllReadyH.nil
  rotate_left 1
  · (simp only [List.getElem?_toArray, List.getElem?_cons_succ, List.getElem?_cons_zero]; rfl)
  go_simp
  have r5 := Row.new (W := X1) (cs := #[.string ⟨#[97]⟩, .string ⟨#[109, 97, 105, 110]⟩, .string ⟨#[120, 32, 121]⟩, .string ⟨#[34, 92]⟩, .string ⟨#[195, 169, 228, 184, 173]⟩, .string ⟨#[122, 122, 122, 122, 122, 122, 122, 122, 122, 122, 122, 122, 122, 122, 122, 122, 122, 122, 122, 122, 122, 122, 122, 122]⟩]) (t := 9)
  have hn := below_alloc X1 (.cells #[.string ⟨#[97]⟩, .string ⟨#[109, 97, 105, 110]⟩, .string ⟨#[120, 32, 121]⟩, .string ⟨#[34, 92]⟩, .string ⟨#[195, 169, 228, 184, 173]⟩, .string ⟨#[122, 122, 122, 122, 122, 122, 122, 122, 122, 122, 122, 122, 122, 122, 122, 122, 122, 122, 122, 122, 122, 122, 122, 122]⟩] 9)
  have nr1_r5 : w.heap.size ≠ X1.heap.size := Nat.ne_of_lt r1.lt
  have nr2_r5 : w.heap.size + 1 ≠ X1.heap.size := Nat.ne_of_lt r2.lt
  have nr3_r5 : b3 ≠ X1.heap.size := Nat.ne_of_lt r3.lt
  have wr5 : w.heap.size ≤ X1.heap.size := hc.size
  replace r1 := r1.on hn
  replace r2 := r2.on hn
  replace r3 := r3.on hn
  replace hc := chain hc hn
  clear hn
  generalize X1.alloc (.cells #[.string ⟨#[97]⟩, .string ⟨#[109, 97, 105, 110]⟩, .string ⟨#[120, 32, 121]⟩, .string ⟨#[34, 92]⟩, .string ⟨#[195, 169, 228, 184, 173]⟩, .string ⟨#[122, 122, 122, 122, 122, 122, 122, 122, 122, 122, 122, 122, 122, 122, 122, 122, 122, 122, 122, 122, 122, 122, 122, 122]⟩] 9) = V6 at r1 r2 r3 r5 hc ⊢
  generalize X1.heap.size = b5 at *
  refine hK.out _ _ r1.cell (fun hHeld => ?_)
  clear hK K hHeld
  refine wpAnyH_ready (rs := [5]) (by kernel_rfl) (by simp) ?_
  refine' AllReadyH.cons (o := _) ?_ (fun K hK => ?_) AllReadyH.nil
  rotate_left 1
  · (simp only [List.getElem?_toArray, List.getElem?_cons_succ, List.getElem?_cons_zero]; rfl)
  go_simp
  refine hK.out _ _ r1.cell (fun hHeld => ?_)
  clear hK K hHeld
  have yr5 := r5.cell
  have zr5 := r5.lt
  refine wpAnyH_ready (rs := [6]) (by kernel_rfl) (by simp) ?_
  refine' AllReadyH.cons (o := _) ?_ (fun K hK => ?_) AllReadyH.nil
  rotate_left 1
  · (simp only [List.getElem?_toArray, List.getElem?_cons_succ, List.getElem?_cons_zero]; rfl)
  go_simp
  refine hK.out _ _ r1.cell (fun hHeld => ?_)
  clear hK K
  refine' wpAnyH_take (i := 7) (oi := _) (v := _) ?_ (by kernel_rfl) (by kernel_rfl) (by kernel_rfl) ?_ (Or.inl ⟨?_, ?_⟩) (by assumption) ?_
  rotate_left 2
  · (simp only [List.getElem?_toArray, List.getElem?_cons_succ, List.getElem?_cons_zero]; rfl)
  · first | exact fun _ _ _ h => h | exact fun _ _ _ h => nomatch h.1
  · rfl
  · (intro W hSW; (try dsimp only at hSW); go_split_ands; first | (go_simp; done) | (go_simp; with_reducible rfl))
  try simp only [Act.put, List.setIfInBounds_toArray, List.set_cons_zero, List.set_cons_succ]
  clear hHeld
  clear yr5 zr5
  have yr3 := r3.cell
  have zr3 := r3.lt
  have ur3 := r3.free
  refine wpAnyH_ready (rs := [8]) (by kernel_rfl) (by simp) ?_
  refine' AllReadyH.cons (o := _) ?_ (fun K hK => ?_) AllReadyH.nil
  rotate_left 1
  · (simp only [List.getElem?_toArray, List.getElem?_cons_succ, List.getElem?_cons_zero]; rfl)
  go_simp
  clear yr3 zr3 ur3
  replace r1 := (r1.other nr1_r3.symm 5 (.string ⟨#[195, 169, 228, 184, 173]⟩))
  replace r2 := (r2.other nr2_r3.symm 5 (.string ⟨#[195, 169, 228, 184, 173]⟩))
  replace r5 := (r5.other nr3_r5 5 (.string ⟨#[195, 169, 228, 184, 173]⟩))
  replace r3 := (r3.set 5 (.string ⟨#[195, 169, 228, 184, 173]⟩))
  simp only [List.setIfInBounds_toArray, List.set_cons_zero, List.set_cons_succ] at r3
  replace hc := (hc.setCell (p := ⟨b3, 5, none⟩) wr3 (.string ⟨#[195, 169, 228, 184, 173]⟩))
  generalize hW : World.setCell _ _ _ = V7 at *
  clear hW
  refine hK.out _ _ r1.cell (fun hHeld => ?_)
  clear hK K hHeld
  refine wpAnyH_done (by kernel_rfl) ?_ _
  have yr1 := r1.cell
  have zr1 := r1.lt
  have yr2 := r2.cell
  have zr2 := r2.lt
  have yr3 := r3.cell
  have zr3 := r3.lt
  have yr5 := r5.cell
  have zr5 := r5.lt
  have ur2 := r2.free
  go_wp2_with fail
  clear yr1 yr2 yr3 yr5 zr1 zr2 zr3 zr5 ur2
  replace r2 := r2.set 0 (.int .i64 8)
  replace r2 := r2.set 1 (.int .i64 (m % 4))
  replace r2 := r2.set 2 (.int .i64 (1 + (a % 3)))
  replace r2 := r2.set 3 (.int .i64 (b % 1048577))
  replace r2 := r2.set 4 (.int .i64 0)
  replace r2 := r2.set 5 (.string ⟨#[195, 169, 228, 184, 173]⟩)
  replace hc := hc.setCell (p := ⟨w.heap.size + 1, 0, none⟩) wr2 (.int .i64 8)
  replace hc := hc.setCell (p := ⟨w.heap.size + 1, 1, none⟩) wr2 (.int .i64 (m % 4))
  replace hc := hc.setCell (p := ⟨w.heap.size + 1, 2, none⟩) wr2 (.int .i64 (1 + (a % 3)))
  replace hc := hc.setCell (p := ⟨w.heap.size + 1, 3, none⟩) wr2 (.int .i64 (b % 1048577))
  replace hc := hc.setCell (p := ⟨w.heap.size + 1, 4, none⟩) wr2 (.int .i64 0)
  replace hc := hc.setCell (p := ⟨w.heap.size + 1, 5, none⟩) wr2 (.string ⟨#[195, 169, 228, 184, 173]⟩)
  simp only [List.setIfInBounds_toArray, List.set_cons_zero, List.set_cons_succ] at r2
  generalize hW : World.setCell _ _ _ = Z9 at *
  clear hW
  have z9 := r2.cell
  refine bodyPost_ret (v := opRV (8, ⟨(m % 4), (1 + (a % 3)), (b % 1048577), 0, ⟨#[195, 169, 228, 184, 173]⟩⟩)) (by simp [results, Tryz.results9, go_sem, z9]) rfl ⟨⟨_, rfl, ?_⟩, hc⟩
  unfold okR
  rw [opOk_iff]
  simp (decide := true) only [mHi, aLo, aHi, bLo, bHi, cLo, cHi, tgOk]
  simp [show tagOk [195, 169, 228, 184, 173] = true by decide]; omega
theorem made_8_5 (k m t a b c : Int) (w : World) (hk : k % 17 = 7) (ht : t % 6 = 5) (k0 : 0 ≤ k) (k1 : k ≤ 255) (m0 : 0 ≤ m) (m1 : m ≤ 255) (t0 : 0 ≤ t) (t1 : t ≤ 255) (a0 : 0 ≤ a) (a1 : a ≤ 4294967295) (b0 : 0 ≤ b) (b1 : b ≤ 4294967295) (c0 : 0 ≤ c) (c1 : c ≤ 4294967295) :
    Calls Tryz.prog 9 #[.agg #[.int .u8 k, .int .u8 m, .int .u8 t, .int .u32 a, .int .u32 b, .int .u32 c]] w (MadeP w) := by
  have hc := Below.refl w.heap.size w
  have q1 : IntKind.i64.wrap k = k := IntWalk.i64_in _ ⟨by omega, by omega⟩
  have q2 : IntKind.i64.wrap m = m := IntWalk.i64_in _ ⟨by omega, by omega⟩
  have q3 : IntKind.i64.wrap a = a := IntWalk.i64_in _ ⟨by omega, by omega⟩
  have q4 : IntKind.i64.wrap b = b := IntWalk.i64_in _ ⟨by omega, by omega⟩
  have q5 : IntKind.i64.wrap c = c := IntWalk.i64_in _ ⟨by omega, by omega⟩
  have q6 : IntKind.i64.wrap t = t := IntWalk.i64_in _ ⟨by omega, by omega⟩
  obtain ⟨ga3, la3⟩ := tm a 3 a0 (by decide)
  obtain ⟨gb1048577, lb1048577⟩ := tm b 1048577 b0 (by decide)
  obtain ⟨gm, lm⟩ := tm m 4 m0 (by decide)
  have x0 := w64 (1 + (a % 3)) (by omega) (by omega)
  have ht2 : Int.tmod t 6 = 5 := by rw [Int.tmod_eq_emod_of_nonneg t0]; exact ht
  go_enter Tryz.func9, Tryz.ntmps9
  go_upto_region 1 with fail
  have r1 := Row.new (W := w) (cs := #[.int .u8 k, .int .u8 m, .int .u8 t, .int .u32 a, .int .u32 b, .int .u32 c]) (t := 24)
  have hn := below_alloc w (.cells #[.int .u8 k, .int .u8 m, .int .u8 t, .int .u32 a, .int .u32 b, .int .u32 c] 24)
  replace hc := chain hc hn
  have hz1 : (w.alloc (.cells #[.int .u8 k, .int .u8 m, .int .u8 t, .int .u32 a, .int .u32 b, .int .u32 c] 24)).heap.size = w.heap.size + 1 := by simp
  clear hn
  generalize w.alloc (.cells #[.int .u8 k, .int .u8 m, .int .u8 t, .int .u32 a, .int .u32 b, .int .u32 c] 24) = V1 at r1 hc hz1 ⊢
  have r2 := Row.new (W := V1) (cs := #[.int .i64 0, .int .i64 0, .int .i64 0, .int .i64 0, .int .i64 0, .string ⟨#[]⟩]) (t := 31)
  have hn := below_alloc V1 (.cells #[.int .i64 0, .int .i64 0, .int .i64 0, .int .i64 0, .int .i64 0, .string ⟨#[]⟩] 31)
  replace r1 := r1.on hn
  replace hc := chain hc hn
  rw [hz1] at r2
  clear hn hz1
  generalize V1.alloc (.cells #[.int .i64 0, .int .i64 0, .int .i64 0, .int .i64 0, .int .i64 0, .string ⟨#[]⟩] 31) = V2 at r1 r2 hc ⊢
  have nr1_r2 : w.heap.size ≠ w.heap.size + 1 := by omega
  have wr2 : w.heap.size ≤ w.heap.size + 1 := by omega
  have wr1 : w.heap.size ≤ w.heap.size := Nat.le_refl _
  have yr1 := r1.cell
  have zr1 := r1.lt
  have yr2 := r2.cell
  have zr2 := r2.lt
  go_upto_region 2 with fail
  clear yr1 yr2 zr1 zr2
  have r3 := Row.new (W := V2) (cs := #[.int .i64 8, .int .i64 0, .int .i64 0, .int .i64 0, .int .i64 0, .string ⟨#[]⟩]) (t := 31)
  have hn := below_alloc V2 (.cells #[.int .i64 8, .int .i64 0, .int .i64 0, .int .i64 0, .int .i64 0, .string ⟨#[]⟩] 31)
  have nr1_r3 : w.heap.size ≠ V2.heap.size := Nat.ne_of_lt r1.lt
  have nr2_r3 : w.heap.size + 1 ≠ V2.heap.size := Nat.ne_of_lt r2.lt
  have wr3 : w.heap.size ≤ V2.heap.size := hc.size
  replace r1 := r1.on hn
  replace r2 := r2.on hn
  replace hc := chain hc hn
  clear hn
  generalize V2.alloc (.cells #[.int .i64 8, .int .i64 0, .int .i64 0, .int .i64 0, .int .i64 0, .string ⟨#[]⟩] 31) = V3 at r1 r2 r3 hc ⊢
  generalize V2.heap.size = b3 at *
  have yr1 := r1.cell
  have zr1 := r1.lt
  have yr2 := r2.cell
  have zr2 := r2.lt
  have yr3 := r3.cell
  have zr3 := r3.lt
  have ur3 := r3.free
  go_upto_region 4 with fail
  clear yr1 yr2 yr3 zr1 zr2 zr3 ur3
  replace r1 := (r1.other nr1_r3.symm 1 (.int .i64 (m % 4)))
  replace r2 := (r2.other nr2_r3.symm 1 (.int .i64 (m % 4)))
  replace r3 := (r3.set 1 (.int .i64 (m % 4)))
  simp only [List.setIfInBounds_toArray, List.set_cons_zero, List.set_cons_succ] at r3
  replace hc := (hc.setCell (p := ⟨b3, 1, none⟩) wr3 (.int .i64 (m % 4)))
  generalize hW : World.setCell _ _ _ = V4 at *
  clear hW
  refine wp_region_held_drew (S := fun W' => (∀ j, W'.cell? ⟨w.heap.size, j, none⟩ = (#[.int .u8 k, .int .u8 m, .int .u8 t, .int .u32 a, .int .u32 b, .int .u32 c] : Array Value)[j]?)) (by kernel_rfl) r1.cell (fun hHeld => ?_)
  replace r1 := r1.drew
  replace r2 := r2.drew
  replace r3 := r3.drew
  replace hc := hc.drew
  generalize V4.drew = X0 at *
  refine' wpAnyH_take (i := 0) (oi := _) (v := _) ?_ (by kernel_rfl) (by kernel_rfl) (by kernel_rfl) ?_ (Or.inl ⟨?_, ?_⟩) (by assumption) ?_
  rotate_left 2
  · (simp only [List.getElem?_toArray, List.getElem?_cons_succ, List.getElem?_cons_zero]; rfl)
  · first | exact fun _ _ _ h => h | exact fun _ _ _ h => nomatch h.1
  · rfl
  · (intro W hSW; (try dsimp only at hSW); go_split_ands; first | (go_simp; done) | (go_simp; with_reducible rfl))
  try simp only [Act.put, List.setIfInBounds_toArray, List.set_cons_zero, List.set_cons_succ]
  refine' wpAnyH_take (i := 1) (oi := _) (v := _) ?_ (by kernel_rfl) (by kernel_rfl) (by kernel_rfl) ?_ (Or.inl ⟨?_, ?_⟩) (by assumption) ?_
  rotate_left 2
  · (simp only [List.getElem?_toArray, List.getElem?_cons_succ, List.getElem?_cons_zero]; rfl)
  · first | exact fun _ _ _ h => h | exact fun _ _ _ h => nomatch h.1
  · rfl
  · (intro W hSW; (try dsimp only at hSW); go_split_ands; first | (go_simp; done) | (go_simp; with_reducible rfl))
  try simp only [Act.put, List.setIfInBounds_toArray, List.set_cons_zero, List.set_cons_succ]
  refine' wpAnyH_take (i := 2) (oi := _) (v := _) ?_ (by kernel_rfl) (by kernel_rfl) (by kernel_rfl) ?_ (Or.inl ⟨?_, ?_⟩) (by assumption) ?_
  rotate_left 2
  · (simp only [List.getElem?_toArray, List.getElem?_cons_succ, List.getElem?_cons_zero]; rfl)
  · first | exact fun _ _ _ h => h | exact fun _ _ _ h => nomatch h.1
  · rfl
  · (intro W hSW; (try dsimp only at hSW); go_split_ands; first | (go_simp; done) | (go_simp; with_reducible rfl))
  try simp only [Act.put, List.setIfInBounds_toArray, List.set_cons_zero, List.set_cons_succ]
  refine' wpAnyH_take (i := 3) (oi := _) (v := _) ?_ (by kernel_rfl) (by kernel_rfl) (by kernel_rfl) ?_ (Or.inl ⟨?_, ?_⟩) (by assumption) ?_
  rotate_left 2
  · (simp only [List.getElem?_toArray, List.getElem?_cons_succ, List.getElem?_cons_zero]; rfl)
  · first | exact fun _ _ _ h => h | exact fun _ _ _ h => nomatch h.1
  · rfl
  · (intro W hSW; (try dsimp only at hSW); go_split_ands; first | (go_simp; done) | (go_simp; with_reducible rfl))
  try simp only [Act.put, List.setIfInBounds_toArray, List.set_cons_zero, List.set_cons_succ]
  refine' wpAnyH_take (i := 4) (oi := _) (v := _) ?_ (by kernel_rfl) (by kernel_rfl) (by kernel_rfl) ?_ (Or.inl ⟨?_, ?_⟩) (by assumption) ?_
  rotate_left 2
  · (simp only [List.getElem?_toArray, List.getElem?_cons_succ, List.getElem?_cons_zero]; rfl)
  · first | exact fun _ _ _ h => h | exact fun _ _ _ h => nomatch h.1
  · rfl
  · (intro W hSW; (try dsimp only at hSW); go_split_ands; first | (go_simp; done) | (go_simp; with_reducible rfl))
  try simp only [Act.put, List.setIfInBounds_toArray, List.set_cons_zero, List.set_cons_succ]
  refine' wpAnyH_take (i := 5) (oi := _) (v := _) ?_ (by kernel_rfl) (by kernel_rfl) (by kernel_rfl) ?_ (Or.inl ⟨?_, ?_⟩) (by assumption) ?_
  rotate_left 2
  · (simp only [List.getElem?_toArray, List.getElem?_cons_succ, List.getElem?_cons_zero]; rfl)
  · first | exact fun _ _ _ h => h | exact fun _ _ _ h => nomatch h.1
  · rfl
  · (intro W hSW; (try dsimp only at hSW); go_split_ands; first | (go_simp; done) | (go_simp; with_reducible rfl))
  try simp only [Act.put, List.setIfInBounds_toArray, List.set_cons_zero, List.set_cons_succ]
  refine' wpAnyH_take (i := 6) (oi := _) (v := _) ?_ (by kernel_rfl) (by kernel_rfl) (by kernel_rfl) ?_ (Or.inl ⟨?_, ?_⟩) (by assumption) ?_
  rotate_left 2
  · (simp only [List.getElem?_toArray, List.getElem?_cons_succ, List.getElem?_cons_zero]; rfl)
  · first | exact fun _ _ _ h => h | exact fun _ _ _ h => nomatch h.1
  · rfl
  · (intro W hSW; (try dsimp only at hSW); go_split_ands; first | (go_simp; done) | (go_simp; with_reducible rfl))
  try simp only [Act.put, List.setIfInBounds_toArray, List.set_cons_zero, List.set_cons_succ]
  refine' wpAnyH_take (i := 7) (oi := _) (v := _) ?_ (by kernel_rfl) (by kernel_rfl) (by kernel_rfl) ?_ (Or.inl ⟨?_, ?_⟩) (by assumption) ?_
  rotate_left 2
  · (simp only [List.getElem?_toArray, List.getElem?_cons_succ, List.getElem?_cons_zero]; rfl)
  · first | exact fun _ _ _ h => h | exact fun _ _ _ h => nomatch h.1
  · rfl
  · (intro W hSW; (try dsimp only at hSW); go_split_ands; first | (go_simp; done) | (go_simp; with_reducible rfl))
  try simp only [Act.put, List.setIfInBounds_toArray, List.set_cons_zero, List.set_cons_succ]
  clear hHeld
  refine wpAnyH_done (by kernel_rfl) ?_ _
  have yr1 := r1.cell
  have zr1 := r1.lt
  have yr2 := r2.cell
  have zr2 := r2.lt
  have yr3 := r3.cell
  have zr3 := r3.lt
  have ur3 := r3.free
  go_upto_region 19 with fail
  clear yr1 yr2 yr3 zr1 zr2 zr3 ur3
  replace r1 := ((r1.other nr1_r3.symm 2 (.int .i64 (1 + (a % 3)))).other nr1_r3.symm 3 (.int .i64 (b % 1048577)))
  replace r2 := ((r2.other nr2_r3.symm 2 (.int .i64 (1 + (a % 3)))).other nr2_r3.symm 3 (.int .i64 (b % 1048577)))
  replace r3 := ((r3.set 2 (.int .i64 (1 + (a % 3)))).set 3 (.int .i64 (b % 1048577)))
  simp only [List.setIfInBounds_toArray, List.set_cons_zero, List.set_cons_succ] at r3
  replace hc := ((hc.setCell (p := ⟨b3, 2, none⟩) wr3 (.int .i64 (1 + (a % 3)))).setCell (p := ⟨b3, 3, none⟩) wr3 (.int .i64 (b % 1048577)))
  generalize hW : World.setCell _ _ _ = V5 at *
  clear hW
  refine wp_region_held_drew (S := fun W' => (∀ j, W'.cell? ⟨w.heap.size, j, none⟩ = (#[.int .u8 k, .int .u8 m, .int .u8 t, .int .u32 a, .int .u32 b, .int .u32 c] : Array Value)[j]?)) (by kernel_rfl) r1.cell (fun hHeld => ?_)
  replace r1 := r1.drew
  replace r2 := r2.drew
  replace r3 := r3.drew
  replace hc := hc.drew
  generalize V5.drew = X0 at *
  refine' wpAnyH_take (i := 2) (oi := _) (v := _) ?_ (by kernel_rfl) (by kernel_rfl) (by kernel_rfl) ?_ (Or.inl ⟨?_, ?_⟩) (by assumption) ?_
  rotate_left 2
  · (simp only [List.getElem?_toArray, List.getElem?_cons_succ, List.getElem?_cons_zero]; rfl)
  · first | exact fun _ _ _ h => h | exact fun _ _ _ h => nomatch h.1
  · rfl
  · (intro W hSW; (try dsimp only at hSW); go_split_ands; first | (go_simp; done) | (go_simp; with_reducible rfl))
  try simp only [Act.put, List.setIfInBounds_toArray, List.set_cons_zero, List.set_cons_succ]
  refine' wpAnyH_take (i := 3) (oi := _) (v := _) ?_ (by kernel_rfl) (by kernel_rfl) (by kernel_rfl) ?_ (Or.inl ⟨?_, ?_⟩) (by assumption) ?_
  rotate_left 2
  · (simp only [List.getElem?_toArray, List.getElem?_cons_succ, List.getElem?_cons_zero]; rfl)
  · first | exact fun _ _ _ h => h | exact fun _ _ _ h => nomatch h.1
  · rfl
  · (intro W hSW; (try dsimp only at hSW); go_split_ands; first | (go_simp; done) | (go_simp; with_reducible rfl))
  try simp only [Act.put, List.setIfInBounds_toArray, List.set_cons_zero, List.set_cons_succ]
  refine' wpAnyH_take (i := 4) (oi := _) (v := _) ?_ (by kernel_rfl) (by kernel_rfl) (by kernel_rfl) ?_ (Or.inl ⟨?_, ?_⟩) (by assumption) ?_
  rotate_left 2
  · (simp only [List.getElem?_toArray, List.getElem?_cons_succ, List.getElem?_cons_zero]; rfl)
  · first | exact fun _ _ _ h => h | exact fun _ _ _ h => nomatch h.1
  · rfl
  · (intro W hSW; (try dsimp only at hSW); go_split_ands; first | (go_simp; done) | (go_simp; with_reducible rfl))
  try simp only [Act.put, List.setIfInBounds_toArray, List.set_cons_zero, List.set_cons_succ]
  clear hHeld
  refine wpAnyH_ready (rs := [0]) (by kernel_rfl) (by simp) ?_
  refine' AllReadyH.cons (o := _) ?_ (fun K hK => ?_) AllReadyH.nil
  rotate_left 1
  · (simp only [List.getElem?_toArray, List.getElem?_cons_succ, List.getElem?_cons_zero]; rfl)
  go_simp
  refine Calls.mono (rep_z _) ?_
  rintro e X1 ⟨rfl, hn⟩
  replace r1 := r1.on hn
  replace r2 := r2.on hn
  replace r3 := r3.on hn
  replace hc := chain hc hn
  clear hn
  go_simp
  refine hK.out _ _ r1.cell (fun hHeld => ?_)
  clear hK K hHeld
  refine wpAnyH_ready (rs := [1]) (by kernel_rfl) (by simp) ?_
  refine' AllReadyH.cons (o := _) ?_ (fun K hK => ?_) AllReadyH.nil
  rotate_left 1
  · (simp only [List.getElem?_toArray, List.getElem?_cons_succ, List.getElem?_cons_zero]; rfl)
  go_simp
  have r5 := Row.new (W := X1) (cs := #[.string ⟨#[97]⟩, .string ⟨#[109, 97, 105, 110]⟩, .string ⟨#[120, 32, 121]⟩, .string ⟨#[34, 92]⟩, .string ⟨#[195, 169, 228, 184, 173]⟩, .string ⟨#[122, 122, 122, 122, 122, 122, 122, 122, 122, 122, 122, 122, 122, 122, 122, 122, 122, 122, 122, 122, 122, 122, 122, 122]⟩]) (t := 9)
  have hn := below_alloc X1 (.cells #[.string ⟨#[97]⟩, .string ⟨#[109, 97, 105, 110]⟩, .string ⟨#[120, 32, 121]⟩, .string ⟨#[34, 92]⟩, .string ⟨#[195, 169, 228, 184, 173]⟩, .string ⟨#[122, 122, 122, 122, 122, 122, 122, 122, 122, 122, 122, 122, 122, 122, 122, 122, 122, 122, 122, 122, 122, 122, 122, 122]⟩] 9)
  have nr1_r5 : w.heap.size ≠ X1.heap.size := Nat.ne_of_lt r1.lt
  have nr2_r5 : w.heap.size + 1 ≠ X1.heap.size := Nat.ne_of_lt r2.lt
  have nr3_r5 : b3 ≠ X1.heap.size := Nat.ne_of_lt r3.lt
  have wr5 : w.heap.size ≤ X1.heap.size := hc.size
  replace r1 := r1.on hn
  replace r2 := r2.on hn
  replace r3 := r3.on hn
  replace hc := chain hc hn
  clear hn
  generalize X1.alloc (.cells #[.string ⟨#[97]⟩, .string ⟨#[109, 97, 105, 110]⟩, .string ⟨#[120, 32, 121]⟩, .string ⟨#[34, 92]⟩, .string ⟨#[195, 169, 228, 184, 173]⟩, .string ⟨#[122, 122, 122, 122, 122, 122, 122, 122, 122, 122, 122, 122, 122, 122, 122, 122, 122, 122, 122, 122, 122, 122, 122, 122]⟩] 9) = V6 at r1 r2 r3 r5 hc ⊢
  generalize X1.heap.size = b5 at *
  refine hK.out _ _ r1.cell (fun hHeld => ?_)
  clear hK K hHeld
  refine wpAnyH_ready (rs := [5]) (by kernel_rfl) (by simp) ?_
  refine' AllReadyH.cons (o := _) ?_ (fun K hK => ?_) AllReadyH.nil
  rotate_left 1
  · (simp only [List.getElem?_toArray, List.getElem?_cons_succ, List.getElem?_cons_zero]; rfl)
  go_simp
  refine hK.out _ _ r1.cell (fun hHeld => ?_)
  clear hK K hHeld
  have yr5 := r5.cell
  have zr5 := r5.lt
  refine wpAnyH_ready (rs := [6]) (by kernel_rfl) (by simp) ?_
  refine' AllReadyH.cons (o := _) ?_ (fun K hK => ?_) AllReadyH.nil
  rotate_left 1
  · (simp only [List.getElem?_toArray, List.getElem?_cons_succ, List.getElem?_cons_zero]; rfl)
  go_simp
  refine hK.out _ _ r1.cell (fun hHeld => ?_)
  clear hK K
  refine' wpAnyH_take (i := 7) (oi := _) (v := _) ?_ (by kernel_rfl) (by kernel_rfl) (by kernel_rfl) ?_ (Or.inl ⟨?_, ?_⟩) (by assumption) ?_
  rotate_left 2
  · (simp only [List.getElem?_toArray, List.getElem?_cons_succ, List.getElem?_cons_zero]; rfl)
  · first | exact fun _ _ _ h => h | exact fun _ _ _ h => nomatch h.1
  · rfl
  · (intro W hSW; (try dsimp only at hSW); go_split_ands; first | (go_simp; done) | (go_simp; with_reducible rfl))
  try simp only [Act.put, List.setIfInBounds_toArray, List.set_cons_zero, List.set_cons_succ]
  clear hHeld
  clear yr5 zr5
  have yr3 := r3.cell
  have zr3 := r3.lt
  have ur3 := r3.free
  refine wpAnyH_ready (rs := [8]) (by kernel_rfl) (by simp) ?_
  refine' AllReadyH.cons (o := _) ?_ (fun K hK => ?_) AllReadyH.nil
  rotate_left 1
  · (simp only [List.getElem?_toArray, List.getElem?_cons_succ, List.getElem?_cons_zero]; rfl)
  go_simp
  clear yr3 zr3 ur3
  replace r1 := (r1.other nr1_r3.symm 5 (.string ⟨#[122, 122, 122, 122, 122, 122, 122, 122, 122, 122, 122, 122, 122, 122, 122, 122, 122, 122, 122, 122, 122, 122, 122, 122]⟩))
  replace r2 := (r2.other nr2_r3.symm 5 (.string ⟨#[122, 122, 122, 122, 122, 122, 122, 122, 122, 122, 122, 122, 122, 122, 122, 122, 122, 122, 122, 122, 122, 122, 122, 122]⟩))
  replace r5 := (r5.other nr3_r5 5 (.string ⟨#[122, 122, 122, 122, 122, 122, 122, 122, 122, 122, 122, 122, 122, 122, 122, 122, 122, 122, 122, 122, 122, 122, 122, 122]⟩))
  replace r3 := (r3.set 5 (.string ⟨#[122, 122, 122, 122, 122, 122, 122, 122, 122, 122, 122, 122, 122, 122, 122, 122, 122, 122, 122, 122, 122, 122, 122, 122]⟩))
  simp only [List.setIfInBounds_toArray, List.set_cons_zero, List.set_cons_succ] at r3
  replace hc := (hc.setCell (p := ⟨b3, 5, none⟩) wr3 (.string ⟨#[122, 122, 122, 122, 122, 122, 122, 122, 122, 122, 122, 122, 122, 122, 122, 122, 122, 122, 122, 122, 122, 122, 122, 122]⟩))
  generalize hW : World.setCell _ _ _ = V7 at *
  clear hW
  refine hK.out _ _ r1.cell (fun hHeld => ?_)
  clear hK K hHeld
  refine wpAnyH_done (by kernel_rfl) ?_ _
  have yr1 := r1.cell
  have zr1 := r1.lt
  have yr2 := r2.cell
  have zr2 := r2.lt
  have yr3 := r3.cell
  have zr3 := r3.lt
  have yr5 := r5.cell
  have zr5 := r5.lt
  have ur2 := r2.free
  go_wp2_with fail
  clear yr1 yr2 yr3 yr5 zr1 zr2 zr3 zr5 ur2
  replace r2 := r2.set 0 (.int .i64 8)
  replace r2 := r2.set 1 (.int .i64 (m % 4))
  replace r2 := r2.set 2 (.int .i64 (1 + (a % 3)))
  replace r2 := r2.set 3 (.int .i64 (b % 1048577))
  replace r2 := r2.set 4 (.int .i64 0)
  replace r2 := r2.set 5 (.string ⟨#[122, 122, 122, 122, 122, 122, 122, 122, 122, 122, 122, 122, 122, 122, 122, 122, 122, 122, 122, 122, 122, 122, 122, 122]⟩)
  replace hc := hc.setCell (p := ⟨w.heap.size + 1, 0, none⟩) wr2 (.int .i64 8)
  replace hc := hc.setCell (p := ⟨w.heap.size + 1, 1, none⟩) wr2 (.int .i64 (m % 4))
  replace hc := hc.setCell (p := ⟨w.heap.size + 1, 2, none⟩) wr2 (.int .i64 (1 + (a % 3)))
  replace hc := hc.setCell (p := ⟨w.heap.size + 1, 3, none⟩) wr2 (.int .i64 (b % 1048577))
  replace hc := hc.setCell (p := ⟨w.heap.size + 1, 4, none⟩) wr2 (.int .i64 0)
  replace hc := hc.setCell (p := ⟨w.heap.size + 1, 5, none⟩) wr2 (.string ⟨#[122, 122, 122, 122, 122, 122, 122, 122, 122, 122, 122, 122, 122, 122, 122, 122, 122, 122, 122, 122, 122, 122, 122, 122]⟩)
  simp only [List.setIfInBounds_toArray, List.set_cons_zero, List.set_cons_succ] at r2
  generalize hW : World.setCell _ _ _ = Z9 at *
  clear hW
  have z9 := r2.cell
  refine bodyPost_ret (v := opRV (8, ⟨(m % 4), (1 + (a % 3)), (b % 1048577), 0, ⟨#[122, 122, 122, 122, 122, 122, 122, 122, 122, 122, 122, 122, 122, 122, 122, 122, 122, 122, 122, 122, 122, 122, 122, 122]⟩⟩)) (by simp [results, Tryz.results9, go_sem, z9]) rfl ⟨⟨_, rfl, ?_⟩, hc⟩
  unfold okR
  rw [opOk_iff]
  simp (decide := true) only [mHi, aLo, aHi, bLo, bHi, cLo, cHi, tgOk]
  simp [show tagOk [122, 122, 122, 122, 122, 122, 122, 122, 122, 122, 122, 122, 122, 122, 122, 122, 122, 122, 122, 122, 122, 122, 122, 122] = true by decide]; omega
theorem made_9 (k m t a b c : Int) (w : World) (hk : k % 17 = 8) (k0 : 0 ≤ k) (k1 : k ≤ 255) (m0 : 0 ≤ m) (m1 : m ≤ 255) (t0 : 0 ≤ t) (t1 : t ≤ 255) (a0 : 0 ≤ a) (a1 : a ≤ 4294967295) (b0 : 0 ≤ b) (b1 : b ≤ 4294967295) (c0 : 0 ≤ c) (c1 : c ≤ 4294967295) :
    Calls Tryz.prog 9 #[.agg #[.int .u8 k, .int .u8 m, .int .u8 t, .int .u32 a, .int .u32 b, .int .u32 c]] w (MadeP w) := by
  have hc := Below.refl w.heap.size w
  have q1 : IntKind.i64.wrap k = k := IntWalk.i64_in _ ⟨by omega, by omega⟩
  have q2 : IntKind.i64.wrap m = m := IntWalk.i64_in _ ⟨by omega, by omega⟩
  have q3 : IntKind.i64.wrap a = a := IntWalk.i64_in _ ⟨by omega, by omega⟩
  have q4 : IntKind.i64.wrap b = b := IntWalk.i64_in _ ⟨by omega, by omega⟩
  have q5 : IntKind.i64.wrap c = c := IntWalk.i64_in _ ⟨by omega, by omega⟩
  have q6 : IntKind.i64.wrap t = t := IntWalk.i64_in _ ⟨by omega, by omega⟩
  obtain ⟨ga2000, la2000⟩ := tm a 2000 a0 (by decide)
  obtain ⟨gm, lm⟩ := tm m 4 m0 (by decide)
  go_enter Tryz.func9, Tryz.ntmps9
  go_upto_region 1 with fail
  have r1 := Row.new (W := w) (cs := #[.int .u8 k, .int .u8 m, .int .u8 t, .int .u32 a, .int .u32 b, .int .u32 c]) (t := 24)
  have hn := below_alloc w (.cells #[.int .u8 k, .int .u8 m, .int .u8 t, .int .u32 a, .int .u32 b, .int .u32 c] 24)
  replace hc := chain hc hn
  have hz1 : (w.alloc (.cells #[.int .u8 k, .int .u8 m, .int .u8 t, .int .u32 a, .int .u32 b, .int .u32 c] 24)).heap.size = w.heap.size + 1 := by simp
  clear hn
  generalize w.alloc (.cells #[.int .u8 k, .int .u8 m, .int .u8 t, .int .u32 a, .int .u32 b, .int .u32 c] 24) = V1 at r1 hc hz1 ⊢
  have r2 := Row.new (W := V1) (cs := #[.int .i64 0, .int .i64 0, .int .i64 0, .int .i64 0, .int .i64 0, .string ⟨#[]⟩]) (t := 31)
  have hn := below_alloc V1 (.cells #[.int .i64 0, .int .i64 0, .int .i64 0, .int .i64 0, .int .i64 0, .string ⟨#[]⟩] 31)
  replace r1 := r1.on hn
  replace hc := chain hc hn
  rw [hz1] at r2
  clear hn hz1
  generalize V1.alloc (.cells #[.int .i64 0, .int .i64 0, .int .i64 0, .int .i64 0, .int .i64 0, .string ⟨#[]⟩] 31) = V2 at r1 r2 hc ⊢
  have nr1_r2 : w.heap.size ≠ w.heap.size + 1 := by omega
  have wr2 : w.heap.size ≤ w.heap.size + 1 := by omega
  have wr1 : w.heap.size ≤ w.heap.size := Nat.le_refl _
  have yr1 := r1.cell
  have zr1 := r1.lt
  have yr2 := r2.cell
  have zr2 := r2.lt
  go_upto_region 2 with fail
  clear yr1 yr2 zr1 zr2
  have r3 := Row.new (W := V2) (cs := #[.int .i64 9, .int .i64 0, .int .i64 0, .int .i64 0, .int .i64 0, .string ⟨#[]⟩]) (t := 31)
  have hn := below_alloc V2 (.cells #[.int .i64 9, .int .i64 0, .int .i64 0, .int .i64 0, .int .i64 0, .string ⟨#[]⟩] 31)
  have nr1_r3 : w.heap.size ≠ V2.heap.size := Nat.ne_of_lt r1.lt
  have nr2_r3 : w.heap.size + 1 ≠ V2.heap.size := Nat.ne_of_lt r2.lt
  have wr3 : w.heap.size ≤ V2.heap.size := hc.size
  replace r1 := r1.on hn
  replace r2 := r2.on hn
  replace hc := chain hc hn
  clear hn
  generalize V2.alloc (.cells #[.int .i64 9, .int .i64 0, .int .i64 0, .int .i64 0, .int .i64 0, .string ⟨#[]⟩] 31) = V3 at r1 r2 r3 hc ⊢
  generalize V2.heap.size = b3 at *
  have yr1 := r1.cell
  have zr1 := r1.lt
  have yr2 := r2.cell
  have zr2 := r2.lt
  have yr3 := r3.cell
  have zr3 := r3.lt
  have ur3 := r3.free
  go_upto_region 4 with fail
  clear yr1 yr2 yr3 zr1 zr2 zr3 ur3
  replace r1 := (r1.other nr1_r3.symm 1 (.int .i64 (m % 4)))
  replace r2 := (r2.other nr2_r3.symm 1 (.int .i64 (m % 4)))
  replace r3 := (r3.set 1 (.int .i64 (m % 4)))
  simp only [List.setIfInBounds_toArray, List.set_cons_zero, List.set_cons_succ] at r3
  replace hc := (hc.setCell (p := ⟨b3, 1, none⟩) wr3 (.int .i64 (m % 4)))
  generalize hW : World.setCell _ _ _ = V4 at *
  clear hW
  refine wp_region_held_drew (S := fun W' => (∀ j, W'.cell? ⟨w.heap.size, j, none⟩ = (#[.int .u8 k, .int .u8 m, .int .u8 t, .int .u32 a, .int .u32 b, .int .u32 c] : Array Value)[j]?)) (by kernel_rfl) r1.cell (fun hHeld => ?_)
  replace r1 := r1.drew
  replace r2 := r2.drew
  replace r3 := r3.drew
  replace hc := hc.drew
  generalize V4.drew = X0 at *
  refine' wpAnyH_take (i := 0) (oi := _) (v := _) ?_ (by kernel_rfl) (by kernel_rfl) (by kernel_rfl) ?_ (Or.inl ⟨?_, ?_⟩) (by assumption) ?_
  rotate_left 2
  · (simp only [List.getElem?_toArray, List.getElem?_cons_succ, List.getElem?_cons_zero]; rfl)
  · first | exact fun _ _ _ h => h | exact fun _ _ _ h => nomatch h.1
  · rfl
  · (intro W hSW; (try dsimp only at hSW); go_split_ands; first | (go_simp; done) | (go_simp; with_reducible rfl))
  try simp only [Act.put, List.setIfInBounds_toArray, List.set_cons_zero, List.set_cons_succ]
  refine' wpAnyH_take (i := 1) (oi := _) (v := _) ?_ (by kernel_rfl) (by kernel_rfl) (by kernel_rfl) ?_ (Or.inl ⟨?_, ?_⟩) (by assumption) ?_
  rotate_left 2
  · (simp only [List.getElem?_toArray, List.getElem?_cons_succ, List.getElem?_cons_zero]; rfl)
  · first | exact fun _ _ _ h => h | exact fun _ _ _ h => nomatch h.1
  · rfl
  · (intro W hSW; (try dsimp only at hSW); go_split_ands; first | (go_simp; done) | (go_simp; with_reducible rfl))
  try simp only [Act.put, List.setIfInBounds_toArray, List.set_cons_zero, List.set_cons_succ]
  refine' wpAnyH_take (i := 2) (oi := _) (v := _) ?_ (by kernel_rfl) (by kernel_rfl) (by kernel_rfl) ?_ (Or.inl ⟨?_, ?_⟩) (by assumption) ?_
  rotate_left 2
  · (simp only [List.getElem?_toArray, List.getElem?_cons_succ, List.getElem?_cons_zero]; rfl)
  · first | exact fun _ _ _ h => h | exact fun _ _ _ h => nomatch h.1
  · rfl
  · (intro W hSW; (try dsimp only at hSW); go_split_ands; first | (go_simp; done) | (go_simp; with_reducible rfl))
  try simp only [Act.put, List.setIfInBounds_toArray, List.set_cons_zero, List.set_cons_succ]
  refine' wpAnyH_take (i := 3) (oi := _) (v := _) ?_ (by kernel_rfl) (by kernel_rfl) (by kernel_rfl) ?_ (Or.inl ⟨?_, ?_⟩) (by assumption) ?_
  rotate_left 2
  · (simp only [List.getElem?_toArray, List.getElem?_cons_succ, List.getElem?_cons_zero]; rfl)
  · first | exact fun _ _ _ h => h | exact fun _ _ _ h => nomatch h.1
  · rfl
  · (intro W hSW; (try dsimp only at hSW); go_split_ands; first | (go_simp; done) | (go_simp; with_reducible rfl))
  try simp only [Act.put, List.setIfInBounds_toArray, List.set_cons_zero, List.set_cons_succ]
  refine' wpAnyH_take (i := 4) (oi := _) (v := _) ?_ (by kernel_rfl) (by kernel_rfl) (by kernel_rfl) ?_ (Or.inl ⟨?_, ?_⟩) (by assumption) ?_
  rotate_left 2
  · (simp only [List.getElem?_toArray, List.getElem?_cons_succ, List.getElem?_cons_zero]; rfl)
  · first | exact fun _ _ _ h => h | exact fun _ _ _ h => nomatch h.1
  · rfl
  · (intro W hSW; (try dsimp only at hSW); go_split_ands; first | (go_simp; done) | (go_simp; with_reducible rfl))
  try simp only [Act.put, List.setIfInBounds_toArray, List.set_cons_zero, List.set_cons_succ]
  refine' wpAnyH_take (i := 5) (oi := _) (v := _) ?_ (by kernel_rfl) (by kernel_rfl) (by kernel_rfl) ?_ (Or.inl ⟨?_, ?_⟩) (by assumption) ?_
  rotate_left 2
  · (simp only [List.getElem?_toArray, List.getElem?_cons_succ, List.getElem?_cons_zero]; rfl)
  · first | exact fun _ _ _ h => h | exact fun _ _ _ h => nomatch h.1
  · rfl
  · (intro W hSW; (try dsimp only at hSW); go_split_ands; first | (go_simp; done) | (go_simp; with_reducible rfl))
  try simp only [Act.put, List.setIfInBounds_toArray, List.set_cons_zero, List.set_cons_succ]
  refine' wpAnyH_take (i := 6) (oi := _) (v := _) ?_ (by kernel_rfl) (by kernel_rfl) (by kernel_rfl) ?_ (Or.inl ⟨?_, ?_⟩) (by assumption) ?_
  rotate_left 2
  · (simp only [List.getElem?_toArray, List.getElem?_cons_succ, List.getElem?_cons_zero]; rfl)
  · first | exact fun _ _ _ h => h | exact fun _ _ _ h => nomatch h.1
  · rfl
  · (intro W hSW; (try dsimp only at hSW); go_split_ands; first | (go_simp; done) | (go_simp; with_reducible rfl))
  try simp only [Act.put, List.setIfInBounds_toArray, List.set_cons_zero, List.set_cons_succ]
  refine' wpAnyH_take (i := 7) (oi := _) (v := _) ?_ (by kernel_rfl) (by kernel_rfl) (by kernel_rfl) ?_ (Or.inl ⟨?_, ?_⟩) (by assumption) ?_
  rotate_left 2
  · (simp only [List.getElem?_toArray, List.getElem?_cons_succ, List.getElem?_cons_zero]; rfl)
  · first | exact fun _ _ _ h => h | exact fun _ _ _ h => nomatch h.1
  · rfl
  · (intro W hSW; (try dsimp only at hSW); go_split_ands; first | (go_simp; done) | (go_simp; with_reducible rfl))
  try simp only [Act.put, List.setIfInBounds_toArray, List.set_cons_zero, List.set_cons_succ]
  clear hHeld
  refine wpAnyH_done (by kernel_rfl) ?_ _
  have yr1 := r1.cell
  have zr1 := r1.lt
  have yr2 := r2.cell
  have zr2 := r2.lt
  have yr3 := r3.cell
  have zr3 := r3.lt
  have ur3 := r3.free
  go_upto_region 32 with fail
  clear yr1 yr2 yr3 zr1 zr2 zr3 ur3
  replace r1 := (r1.other nr1_r3.symm 2 (.int .i64 (a % 2000)))
  replace r2 := (r2.other nr2_r3.symm 2 (.int .i64 (a % 2000)))
  replace r3 := (r3.set 2 (.int .i64 (a % 2000)))
  simp only [List.setIfInBounds_toArray, List.set_cons_zero, List.set_cons_succ] at r3
  replace hc := (hc.setCell (p := ⟨b3, 2, none⟩) wr3 (.int .i64 (a % 2000)))
  generalize hW : World.setCell _ _ _ = V5 at *
  clear hW
  have yr1 := r1.cell
  have zr1 := r1.lt
  have yr2 := r2.cell
  have zr2 := r2.lt
  have yr3 := r3.cell
  have zr3 := r3.lt
  have ur2 := r2.free
  go_wp2_with fail
  clear yr1 yr2 yr3 zr1 zr2 zr3 ur2
  replace r2 := r2.set 0 (.int .i64 9)
  replace r2 := r2.set 1 (.int .i64 (m % 4))
  replace r2 := r2.set 2 (.int .i64 (a % 2000))
  replace r2 := r2.set 3 (.int .i64 0)
  replace r2 := r2.set 4 (.int .i64 0)
  replace r2 := r2.set 5 (.string ⟨#[]⟩)
  replace hc := hc.setCell (p := ⟨w.heap.size + 1, 0, none⟩) wr2 (.int .i64 9)
  replace hc := hc.setCell (p := ⟨w.heap.size + 1, 1, none⟩) wr2 (.int .i64 (m % 4))
  replace hc := hc.setCell (p := ⟨w.heap.size + 1, 2, none⟩) wr2 (.int .i64 (a % 2000))
  replace hc := hc.setCell (p := ⟨w.heap.size + 1, 3, none⟩) wr2 (.int .i64 0)
  replace hc := hc.setCell (p := ⟨w.heap.size + 1, 4, none⟩) wr2 (.int .i64 0)
  replace hc := hc.setCell (p := ⟨w.heap.size + 1, 5, none⟩) wr2 (.string ⟨#[]⟩)
  simp only [List.setIfInBounds_toArray, List.set_cons_zero, List.set_cons_succ] at r2
  generalize hW : World.setCell _ _ _ = Z9 at *
  clear hW
  have z9 := r2.cell
  refine bodyPost_ret (v := opRV (9, ⟨(m % 4), (a % 2000), 0, 0, ⟨#[]⟩⟩)) (by simp [results, Tryz.results9, go_sem, z9]) rfl ⟨⟨_, rfl, ?_⟩, hc⟩
  unfold okR
  rw [opOk_iff]
  simp (decide := true) only [mHi, aLo, aHi, bLo, bHi, cLo, cHi, tgOk]
  simp; omega
theorem made_10 (k m t a b c : Int) (w : World) (hk : k % 17 = 9) (k0 : 0 ≤ k) (k1 : k ≤ 255) (m0 : 0 ≤ m) (m1 : m ≤ 255) (t0 : 0 ≤ t) (t1 : t ≤ 255) (a0 : 0 ≤ a) (a1 : a ≤ 4294967295) (b0 : 0 ≤ b) (b1 : b ≤ 4294967295) (c0 : 0 ≤ c) (c1 : c ≤ 4294967295) :
    Calls Tryz.prog 9 #[.agg #[.int .u8 k, .int .u8 m, .int .u8 t, .int .u32 a, .int .u32 b, .int .u32 c]] w (MadeP w) := by
  have hc := Below.refl w.heap.size w
  have q1 : IntKind.i64.wrap k = k := IntWalk.i64_in _ ⟨by omega, by omega⟩
  have q2 : IntKind.i64.wrap m = m := IntWalk.i64_in _ ⟨by omega, by omega⟩
  have q3 : IntKind.i64.wrap a = a := IntWalk.i64_in _ ⟨by omega, by omega⟩
  have q4 : IntKind.i64.wrap b = b := IntWalk.i64_in _ ⟨by omega, by omega⟩
  have q5 : IntKind.i64.wrap c = c := IntWalk.i64_in _ ⟨by omega, by omega⟩
  have q6 : IntKind.i64.wrap t = t := IntWalk.i64_in _ ⟨by omega, by omega⟩
  obtain ⟨ga2000, la2000⟩ := tm a 2000 a0 (by decide)
  obtain ⟨gm, lm⟩ := tm m 4 m0 (by decide)
  go_enter Tryz.func9, Tryz.ntmps9
  go_upto_region 1 with fail
  have r1 := Row.new (W := w) (cs := #[.int .u8 k, .int .u8 m, .int .u8 t, .int .u32 a, .int .u32 b, .int .u32 c]) (t := 24)
  have hn := below_alloc w (.cells #[.int .u8 k, .int .u8 m, .int .u8 t, .int .u32 a, .int .u32 b, .int .u32 c] 24)
  replace hc := chain hc hn
  have hz1 : (w.alloc (.cells #[.int .u8 k, .int .u8 m, .int .u8 t, .int .u32 a, .int .u32 b, .int .u32 c] 24)).heap.size = w.heap.size + 1 := by simp
  clear hn
  generalize w.alloc (.cells #[.int .u8 k, .int .u8 m, .int .u8 t, .int .u32 a, .int .u32 b, .int .u32 c] 24) = V1 at r1 hc hz1 ⊢
  have r2 := Row.new (W := V1) (cs := #[.int .i64 0, .int .i64 0, .int .i64 0, .int .i64 0, .int .i64 0, .string ⟨#[]⟩]) (t := 31)
  have hn := below_alloc V1 (.cells #[.int .i64 0, .int .i64 0, .int .i64 0, .int .i64 0, .int .i64 0, .string ⟨#[]⟩] 31)
  replace r1 := r1.on hn
  replace hc := chain hc hn
  rw [hz1] at r2
  clear hn hz1
  generalize V1.alloc (.cells #[.int .i64 0, .int .i64 0, .int .i64 0, .int .i64 0, .int .i64 0, .string ⟨#[]⟩] 31) = V2 at r1 r2 hc ⊢
  have nr1_r2 : w.heap.size ≠ w.heap.size + 1 := by omega
  have wr2 : w.heap.size ≤ w.heap.size + 1 := by omega
  have wr1 : w.heap.size ≤ w.heap.size := Nat.le_refl _
  have yr1 := r1.cell
  have zr1 := r1.lt
  have yr2 := r2.cell
  have zr2 := r2.lt
  go_upto_region 2 with fail
  clear yr1 yr2 zr1 zr2
  have r3 := Row.new (W := V2) (cs := #[.int .i64 10, .int .i64 0, .int .i64 0, .int .i64 0, .int .i64 0, .string ⟨#[]⟩]) (t := 31)
  have hn := below_alloc V2 (.cells #[.int .i64 10, .int .i64 0, .int .i64 0, .int .i64 0, .int .i64 0, .string ⟨#[]⟩] 31)
  have nr1_r3 : w.heap.size ≠ V2.heap.size := Nat.ne_of_lt r1.lt
  have nr2_r3 : w.heap.size + 1 ≠ V2.heap.size := Nat.ne_of_lt r2.lt
  have wr3 : w.heap.size ≤ V2.heap.size := hc.size
  replace r1 := r1.on hn
  replace r2 := r2.on hn
  replace hc := chain hc hn
  clear hn
  generalize V2.alloc (.cells #[.int .i64 10, .int .i64 0, .int .i64 0, .int .i64 0, .int .i64 0, .string ⟨#[]⟩] 31) = V3 at r1 r2 r3 hc ⊢
  generalize V2.heap.size = b3 at *
  have yr1 := r1.cell
  have zr1 := r1.lt
  have yr2 := r2.cell
  have zr2 := r2.lt
  have yr3 := r3.cell
  have zr3 := r3.lt
  have ur3 := r3.free
  go_upto_region 4 with fail
  clear yr1 yr2 yr3 zr1 zr2 zr3 ur3
  replace r1 := (r1.other nr1_r3.symm 1 (.int .i64 (m % 4)))
  replace r2 := (r2.other nr2_r3.symm 1 (.int .i64 (m % 4)))
  replace r3 := (r3.set 1 (.int .i64 (m % 4)))
  simp only [List.setIfInBounds_toArray, List.set_cons_zero, List.set_cons_succ] at r3
  replace hc := (hc.setCell (p := ⟨b3, 1, none⟩) wr3 (.int .i64 (m % 4)))
  generalize hW : World.setCell _ _ _ = V4 at *
  clear hW
  refine wp_region_held_drew (S := fun W' => (∀ j, W'.cell? ⟨w.heap.size, j, none⟩ = (#[.int .u8 k, .int .u8 m, .int .u8 t, .int .u32 a, .int .u32 b, .int .u32 c] : Array Value)[j]?)) (by kernel_rfl) r1.cell (fun hHeld => ?_)
  replace r1 := r1.drew
  replace r2 := r2.drew
  replace r3 := r3.drew
  replace hc := hc.drew
  generalize V4.drew = X0 at *
  refine' wpAnyH_take (i := 0) (oi := _) (v := _) ?_ (by kernel_rfl) (by kernel_rfl) (by kernel_rfl) ?_ (Or.inl ⟨?_, ?_⟩) (by assumption) ?_
  rotate_left 2
  · (simp only [List.getElem?_toArray, List.getElem?_cons_succ, List.getElem?_cons_zero]; rfl)
  · first | exact fun _ _ _ h => h | exact fun _ _ _ h => nomatch h.1
  · rfl
  · (intro W hSW; (try dsimp only at hSW); go_split_ands; first | (go_simp; done) | (go_simp; with_reducible rfl))
  try simp only [Act.put, List.setIfInBounds_toArray, List.set_cons_zero, List.set_cons_succ]
  refine' wpAnyH_take (i := 1) (oi := _) (v := _) ?_ (by kernel_rfl) (by kernel_rfl) (by kernel_rfl) ?_ (Or.inl ⟨?_, ?_⟩) (by assumption) ?_
  rotate_left 2
  · (simp only [List.getElem?_toArray, List.getElem?_cons_succ, List.getElem?_cons_zero]; rfl)
  · first | exact fun _ _ _ h => h | exact fun _ _ _ h => nomatch h.1
  · rfl
  · (intro W hSW; (try dsimp only at hSW); go_split_ands; first | (go_simp; done) | (go_simp; with_reducible rfl))
  try simp only [Act.put, List.setIfInBounds_toArray, List.set_cons_zero, List.set_cons_succ]
  refine' wpAnyH_take (i := 2) (oi := _) (v := _) ?_ (by kernel_rfl) (by kernel_rfl) (by kernel_rfl) ?_ (Or.inl ⟨?_, ?_⟩) (by assumption) ?_
  rotate_left 2
  · (simp only [List.getElem?_toArray, List.getElem?_cons_succ, List.getElem?_cons_zero]; rfl)
  · first | exact fun _ _ _ h => h | exact fun _ _ _ h => nomatch h.1
  · rfl
  · (intro W hSW; (try dsimp only at hSW); go_split_ands; first | (go_simp; done) | (go_simp; with_reducible rfl))
  try simp only [Act.put, List.setIfInBounds_toArray, List.set_cons_zero, List.set_cons_succ]
  refine' wpAnyH_take (i := 3) (oi := _) (v := _) ?_ (by kernel_rfl) (by kernel_rfl) (by kernel_rfl) ?_ (Or.inl ⟨?_, ?_⟩) (by assumption) ?_
  rotate_left 2
  · (simp only [List.getElem?_toArray, List.getElem?_cons_succ, List.getElem?_cons_zero]; rfl)
  · first | exact fun _ _ _ h => h | exact fun _ _ _ h => nomatch h.1
  · rfl
  · (intro W hSW; (try dsimp only at hSW); go_split_ands; first | (go_simp; done) | (go_simp; with_reducible rfl))
  try simp only [Act.put, List.setIfInBounds_toArray, List.set_cons_zero, List.set_cons_succ]
  refine' wpAnyH_take (i := 4) (oi := _) (v := _) ?_ (by kernel_rfl) (by kernel_rfl) (by kernel_rfl) ?_ (Or.inl ⟨?_, ?_⟩) (by assumption) ?_
  rotate_left 2
  · (simp only [List.getElem?_toArray, List.getElem?_cons_succ, List.getElem?_cons_zero]; rfl)
  · first | exact fun _ _ _ h => h | exact fun _ _ _ h => nomatch h.1
  · rfl
  · (intro W hSW; (try dsimp only at hSW); go_split_ands; first | (go_simp; done) | (go_simp; with_reducible rfl))
  try simp only [Act.put, List.setIfInBounds_toArray, List.set_cons_zero, List.set_cons_succ]
  refine' wpAnyH_take (i := 5) (oi := _) (v := _) ?_ (by kernel_rfl) (by kernel_rfl) (by kernel_rfl) ?_ (Or.inl ⟨?_, ?_⟩) (by assumption) ?_
  rotate_left 2
  · (simp only [List.getElem?_toArray, List.getElem?_cons_succ, List.getElem?_cons_zero]; rfl)
  · first | exact fun _ _ _ h => h | exact fun _ _ _ h => nomatch h.1
  · rfl
  · (intro W hSW; (try dsimp only at hSW); go_split_ands; first | (go_simp; done) | (go_simp; with_reducible rfl))
  try simp only [Act.put, List.setIfInBounds_toArray, List.set_cons_zero, List.set_cons_succ]
  refine' wpAnyH_take (i := 6) (oi := _) (v := _) ?_ (by kernel_rfl) (by kernel_rfl) (by kernel_rfl) ?_ (Or.inl ⟨?_, ?_⟩) (by assumption) ?_
  rotate_left 2
  · (simp only [List.getElem?_toArray, List.getElem?_cons_succ, List.getElem?_cons_zero]; rfl)
  · first | exact fun _ _ _ h => h | exact fun _ _ _ h => nomatch h.1
  · rfl
  · (intro W hSW; (try dsimp only at hSW); go_split_ands; first | (go_simp; done) | (go_simp; with_reducible rfl))
  try simp only [Act.put, List.setIfInBounds_toArray, List.set_cons_zero, List.set_cons_succ]
  refine' wpAnyH_take (i := 7) (oi := _) (v := _) ?_ (by kernel_rfl) (by kernel_rfl) (by kernel_rfl) ?_ (Or.inl ⟨?_, ?_⟩) (by assumption) ?_
  rotate_left 2
  · (simp only [List.getElem?_toArray, List.getElem?_cons_succ, List.getElem?_cons_zero]; rfl)
  · first | exact fun _ _ _ h => h | exact fun _ _ _ h => nomatch h.1
  · rfl
  · (intro W hSW; (try dsimp only at hSW); go_split_ands; first | (go_simp; done) | (go_simp; with_reducible rfl))
  try simp only [Act.put, List.setIfInBounds_toArray, List.set_cons_zero, List.set_cons_succ]
  clear hHeld
  refine wpAnyH_done (by kernel_rfl) ?_ _
  have yr1 := r1.cell
  have zr1 := r1.lt
  have yr2 := r2.cell
  have zr2 := r2.lt
  have yr3 := r3.cell
  have zr3 := r3.lt
  have ur3 := r3.free
  go_upto_region 32 with fail
  clear yr1 yr2 yr3 zr1 zr2 zr3 ur3
  replace r1 := (r1.other nr1_r3.symm 2 (.int .i64 (a % 2000)))
  replace r2 := (r2.other nr2_r3.symm 2 (.int .i64 (a % 2000)))
  replace r3 := (r3.set 2 (.int .i64 (a % 2000)))
  simp only [List.setIfInBounds_toArray, List.set_cons_zero, List.set_cons_succ] at r3
  replace hc := (hc.setCell (p := ⟨b3, 2, none⟩) wr3 (.int .i64 (a % 2000)))
  generalize hW : World.setCell _ _ _ = V5 at *
  clear hW
  have yr1 := r1.cell
  have zr1 := r1.lt
  have yr2 := r2.cell
  have zr2 := r2.lt
  have yr3 := r3.cell
  have zr3 := r3.lt
  have ur2 := r2.free
  go_wp2_with fail
  clear yr1 yr2 yr3 zr1 zr2 zr3 ur2
  replace r2 := r2.set 0 (.int .i64 10)
  replace r2 := r2.set 1 (.int .i64 (m % 4))
  replace r2 := r2.set 2 (.int .i64 (a % 2000))
  replace r2 := r2.set 3 (.int .i64 0)
  replace r2 := r2.set 4 (.int .i64 0)
  replace r2 := r2.set 5 (.string ⟨#[]⟩)
  replace hc := hc.setCell (p := ⟨w.heap.size + 1, 0, none⟩) wr2 (.int .i64 10)
  replace hc := hc.setCell (p := ⟨w.heap.size + 1, 1, none⟩) wr2 (.int .i64 (m % 4))
  replace hc := hc.setCell (p := ⟨w.heap.size + 1, 2, none⟩) wr2 (.int .i64 (a % 2000))
  replace hc := hc.setCell (p := ⟨w.heap.size + 1, 3, none⟩) wr2 (.int .i64 0)
  replace hc := hc.setCell (p := ⟨w.heap.size + 1, 4, none⟩) wr2 (.int .i64 0)
  replace hc := hc.setCell (p := ⟨w.heap.size + 1, 5, none⟩) wr2 (.string ⟨#[]⟩)
  simp only [List.setIfInBounds_toArray, List.set_cons_zero, List.set_cons_succ] at r2
  generalize hW : World.setCell _ _ _ = Z9 at *
  clear hW
  have z9 := r2.cell
  refine bodyPost_ret (v := opRV (10, ⟨(m % 4), (a % 2000), 0, 0, ⟨#[]⟩⟩)) (by simp [results, Tryz.results9, go_sem, z9]) rfl ⟨⟨_, rfl, ?_⟩, hc⟩
  unfold okR
  rw [opOk_iff]
  simp (decide := true) only [mHi, aLo, aHi, bLo, bHi, cLo, cHi, tgOk]
  simp; omega
theorem made_11 (k m t a b c : Int) (w : World) (hk : k % 17 = 10) (k0 : 0 ≤ k) (k1 : k ≤ 255) (m0 : 0 ≤ m) (m1 : m ≤ 255) (t0 : 0 ≤ t) (t1 : t ≤ 255) (a0 : 0 ≤ a) (a1 : a ≤ 4294967295) (b0 : 0 ≤ b) (b1 : b ≤ 4294967295) (c0 : 0 ≤ c) (c1 : c ≤ 4294967295) :
    Calls Tryz.prog 9 #[.agg #[.int .u8 k, .int .u8 m, .int .u8 t, .int .u32 a, .int .u32 b, .int .u32 c]] w (MadeP w) := by
  have hc := Below.refl w.heap.size w
  have q1 : IntKind.i64.wrap k = k := IntWalk.i64_in _ ⟨by omega, by omega⟩
  have q2 : IntKind.i64.wrap m = m := IntWalk.i64_in _ ⟨by omega, by omega⟩
  have q3 : IntKind.i64.wrap a = a := IntWalk.i64_in _ ⟨by omega, by omega⟩
  have q4 : IntKind.i64.wrap b = b := IntWalk.i64_in _ ⟨by omega, by omega⟩
  have q5 : IntKind.i64.wrap c = c := IntWalk.i64_in _ ⟨by omega, by omega⟩
  have q6 : IntKind.i64.wrap t = t := IntWalk.i64_in _ ⟨by omega, by omega⟩
  obtain ⟨ga2000, la2000⟩ := tm a 2000 a0 (by decide)
  obtain ⟨gb1048576, lb1048576⟩ := tm b 1048576 b0 (by decide)
  obtain ⟨gm, lm⟩ := tm m 4 m0 (by decide)
  have x1 := w64 (1 + (b % 1048576)) (by omega) (by omega)
  go_enter Tryz.func9, Tryz.ntmps9
  go_upto_region 1 with fail
  have r1 := Row.new (W := w) (cs := #[.int .u8 k, .int .u8 m, .int .u8 t, .int .u32 a, .int .u32 b, .int .u32 c]) (t := 24)
  have hn := below_alloc w (.cells #[.int .u8 k, .int .u8 m, .int .u8 t, .int .u32 a, .int .u32 b, .int .u32 c] 24)
  replace hc := chain hc hn
  have hz1 : (w.alloc (.cells #[.int .u8 k, .int .u8 m, .int .u8 t, .int .u32 a, .int .u32 b, .int .u32 c] 24)).heap.size = w.heap.size + 1 := by simp
  clear hn
  generalize w.alloc (.cells #[.int .u8 k, .int .u8 m, .int .u8 t, .int .u32 a, .int .u32 b, .int .u32 c] 24) = V1 at r1 hc hz1 ⊢
  have r2 := Row.new (W := V1) (cs := #[.int .i64 0, .int .i64 0, .int .i64 0, .int .i64 0, .int .i64 0, .string ⟨#[]⟩]) (t := 31)
  have hn := below_alloc V1 (.cells #[.int .i64 0, .int .i64 0, .int .i64 0, .int .i64 0, .int .i64 0, .string ⟨#[]⟩] 31)
  replace r1 := r1.on hn
  replace hc := chain hc hn
  rw [hz1] at r2
  clear hn hz1
  generalize V1.alloc (.cells #[.int .i64 0, .int .i64 0, .int .i64 0, .int .i64 0, .int .i64 0, .string ⟨#[]⟩] 31) = V2 at r1 r2 hc ⊢
  have nr1_r2 : w.heap.size ≠ w.heap.size + 1 := by omega
  have wr2 : w.heap.size ≤ w.heap.size + 1 := by omega
  have wr1 : w.heap.size ≤ w.heap.size := Nat.le_refl _
  have yr1 := r1.cell
  have zr1 := r1.lt
  have yr2 := r2.cell
  have zr2 := r2.lt
  go_upto_region 2 with fail
  clear yr1 yr2 zr1 zr2
  have r3 := Row.new (W := V2) (cs := #[.int .i64 11, .int .i64 0, .int .i64 0, .int .i64 0, .int .i64 0, .string ⟨#[]⟩]) (t := 31)
  have hn := below_alloc V2 (.cells #[.int .i64 11, .int .i64 0, .int .i64 0, .int .i64 0, .int .i64 0, .string ⟨#[]⟩] 31)
  have nr1_r3 : w.heap.size ≠ V2.heap.size := Nat.ne_of_lt r1.lt
  have nr2_r3 : w.heap.size + 1 ≠ V2.heap.size := Nat.ne_of_lt r2.lt
  have wr3 : w.heap.size ≤ V2.heap.size := hc.size
  replace r1 := r1.on hn
  replace r2 := r2.on hn
  replace hc := chain hc hn
  clear hn
  generalize V2.alloc (.cells #[.int .i64 11, .int .i64 0, .int .i64 0, .int .i64 0, .int .i64 0, .string ⟨#[]⟩] 31) = V3 at r1 r2 r3 hc ⊢
  generalize V2.heap.size = b3 at *
  have yr1 := r1.cell
  have zr1 := r1.lt
  have yr2 := r2.cell
  have zr2 := r2.lt
  have yr3 := r3.cell
  have zr3 := r3.lt
  have ur3 := r3.free
  go_upto_region 4 with fail
  clear yr1 yr2 yr3 zr1 zr2 zr3 ur3
  replace r1 := (r1.other nr1_r3.symm 1 (.int .i64 (m % 4)))
  replace r2 := (r2.other nr2_r3.symm 1 (.int .i64 (m % 4)))
  replace r3 := (r3.set 1 (.int .i64 (m % 4)))
  simp only [List.setIfInBounds_toArray, List.set_cons_zero, List.set_cons_succ] at r3
  replace hc := (hc.setCell (p := ⟨b3, 1, none⟩) wr3 (.int .i64 (m % 4)))
  generalize hW : World.setCell _ _ _ = V4 at *
  clear hW
  refine wp_region_held_drew (S := fun W' => (∀ j, W'.cell? ⟨w.heap.size, j, none⟩ = (#[.int .u8 k, .int .u8 m, .int .u8 t, .int .u32 a, .int .u32 b, .int .u32 c] : Array Value)[j]?)) (by kernel_rfl) r1.cell (fun hHeld => ?_)
  replace r1 := r1.drew
  replace r2 := r2.drew
  replace r3 := r3.drew
  replace hc := hc.drew
  generalize V4.drew = X0 at *
  refine' wpAnyH_take (i := 0) (oi := _) (v := _) ?_ (by kernel_rfl) (by kernel_rfl) (by kernel_rfl) ?_ (Or.inl ⟨?_, ?_⟩) (by assumption) ?_
  rotate_left 2
  · (simp only [List.getElem?_toArray, List.getElem?_cons_succ, List.getElem?_cons_zero]; rfl)
  · first | exact fun _ _ _ h => h | exact fun _ _ _ h => nomatch h.1
  · rfl
  · (intro W hSW; (try dsimp only at hSW); go_split_ands; first | (go_simp; done) | (go_simp; with_reducible rfl))
  try simp only [Act.put, List.setIfInBounds_toArray, List.set_cons_zero, List.set_cons_succ]
  refine' wpAnyH_take (i := 1) (oi := _) (v := _) ?_ (by kernel_rfl) (by kernel_rfl) (by kernel_rfl) ?_ (Or.inl ⟨?_, ?_⟩) (by assumption) ?_
  rotate_left 2
  · (simp only [List.getElem?_toArray, List.getElem?_cons_succ, List.getElem?_cons_zero]; rfl)
  · first | exact fun _ _ _ h => h | exact fun _ _ _ h => nomatch h.1
  · rfl
  · (intro W hSW; (try dsimp only at hSW); go_split_ands; first | (go_simp; done) | (go_simp; with_reducible rfl))
  try simp only [Act.put, List.setIfInBounds_toArray, List.set_cons_zero, List.set_cons_succ]
  refine' wpAnyH_take (i := 2) (oi := _) (v := _) ?_ (by kernel_rfl) (by kernel_rfl) (by kernel_rfl) ?_ (Or.inl ⟨?_, ?_⟩) (by assumption) ?_
  rotate_left 2
  · (simp only [List.getElem?_toArray, List.getElem?_cons_succ, List.getElem?_cons_zero]; rfl)
  · first | exact fun _ _ _ h => h | exact fun _ _ _ h => nomatch h.1
  · rfl
  · (intro W hSW; (try dsimp only at hSW); go_split_ands; first | (go_simp; done) | (go_simp; with_reducible rfl))
  try simp only [Act.put, List.setIfInBounds_toArray, List.set_cons_zero, List.set_cons_succ]
  refine' wpAnyH_take (i := 3) (oi := _) (v := _) ?_ (by kernel_rfl) (by kernel_rfl) (by kernel_rfl) ?_ (Or.inl ⟨?_, ?_⟩) (by assumption) ?_
  rotate_left 2
  · (simp only [List.getElem?_toArray, List.getElem?_cons_succ, List.getElem?_cons_zero]; rfl)
  · first | exact fun _ _ _ h => h | exact fun _ _ _ h => nomatch h.1
  · rfl
  · (intro W hSW; (try dsimp only at hSW); go_split_ands; first | (go_simp; done) | (go_simp; with_reducible rfl))
  try simp only [Act.put, List.setIfInBounds_toArray, List.set_cons_zero, List.set_cons_succ]
  refine' wpAnyH_take (i := 4) (oi := _) (v := _) ?_ (by kernel_rfl) (by kernel_rfl) (by kernel_rfl) ?_ (Or.inl ⟨?_, ?_⟩) (by assumption) ?_
  rotate_left 2
  · (simp only [List.getElem?_toArray, List.getElem?_cons_succ, List.getElem?_cons_zero]; rfl)
  · first | exact fun _ _ _ h => h | exact fun _ _ _ h => nomatch h.1
  · rfl
  · (intro W hSW; (try dsimp only at hSW); go_split_ands; first | (go_simp; done) | (go_simp; with_reducible rfl))
  try simp only [Act.put, List.setIfInBounds_toArray, List.set_cons_zero, List.set_cons_succ]
  refine' wpAnyH_take (i := 5) (oi := _) (v := _) ?_ (by kernel_rfl) (by kernel_rfl) (by kernel_rfl) ?_ (Or.inl ⟨?_, ?_⟩) (by assumption) ?_
  rotate_left 2
  · (simp only [List.getElem?_toArray, List.getElem?_cons_succ, List.getElem?_cons_zero]; rfl)
  · first | exact fun _ _ _ h => h | exact fun _ _ _ h => nomatch h.1
  · rfl
  · (intro W hSW; (try dsimp only at hSW); go_split_ands; first | (go_simp; done) | (go_simp; with_reducible rfl))
  try simp only [Act.put, List.setIfInBounds_toArray, List.set_cons_zero, List.set_cons_succ]
  refine' wpAnyH_take (i := 6) (oi := _) (v := _) ?_ (by kernel_rfl) (by kernel_rfl) (by kernel_rfl) ?_ (Or.inl ⟨?_, ?_⟩) (by assumption) ?_
  rotate_left 2
  · (simp only [List.getElem?_toArray, List.getElem?_cons_succ, List.getElem?_cons_zero]; rfl)
  · first | exact fun _ _ _ h => h | exact fun _ _ _ h => nomatch h.1
  · rfl
  · (intro W hSW; (try dsimp only at hSW); go_split_ands; first | (go_simp; done) | (go_simp; with_reducible rfl))
  try simp only [Act.put, List.setIfInBounds_toArray, List.set_cons_zero, List.set_cons_succ]
  refine' wpAnyH_take (i := 7) (oi := _) (v := _) ?_ (by kernel_rfl) (by kernel_rfl) (by kernel_rfl) ?_ (Or.inl ⟨?_, ?_⟩) (by assumption) ?_
  rotate_left 2
  · (simp only [List.getElem?_toArray, List.getElem?_cons_succ, List.getElem?_cons_zero]; rfl)
  · first | exact fun _ _ _ h => h | exact fun _ _ _ h => nomatch h.1
  · rfl
  · (intro W hSW; (try dsimp only at hSW); go_split_ands; first | (go_simp; done) | (go_simp; with_reducible rfl))
  try simp only [Act.put, List.setIfInBounds_toArray, List.set_cons_zero, List.set_cons_succ]
  clear hHeld
  refine wpAnyH_done (by kernel_rfl) ?_ _
  have yr1 := r1.cell
  have zr1 := r1.lt
  have yr2 := r2.cell
  have zr2 := r2.lt
  have yr3 := r3.cell
  have zr3 := r3.lt
  have ur3 := r3.free
  go_upto_region 32 with fail
  clear yr1 yr2 yr3 zr1 zr2 zr3 ur3
  replace r1 := ((r1.other nr1_r3.symm 2 (.int .i64 (a % 2000))).other nr1_r3.symm 3 (.int .i64 (1 + (b % 1048576))))
  replace r2 := ((r2.other nr2_r3.symm 2 (.int .i64 (a % 2000))).other nr2_r3.symm 3 (.int .i64 (1 + (b % 1048576))))
  replace r3 := ((r3.set 2 (.int .i64 (a % 2000))).set 3 (.int .i64 (1 + (b % 1048576))))
  simp only [List.setIfInBounds_toArray, List.set_cons_zero, List.set_cons_succ] at r3
  replace hc := ((hc.setCell (p := ⟨b3, 2, none⟩) wr3 (.int .i64 (a % 2000))).setCell (p := ⟨b3, 3, none⟩) wr3 (.int .i64 (1 + (b % 1048576))))
  generalize hW : World.setCell _ _ _ = V5 at *
  clear hW
  have yr1 := r1.cell
  have zr1 := r1.lt
  have yr2 := r2.cell
  have zr2 := r2.lt
  have yr3 := r3.cell
  have zr3 := r3.lt
  have ur2 := r2.free
  go_wp2_with fail
  clear yr1 yr2 yr3 zr1 zr2 zr3 ur2
  replace r2 := r2.set 0 (.int .i64 11)
  replace r2 := r2.set 1 (.int .i64 (m % 4))
  replace r2 := r2.set 2 (.int .i64 (a % 2000))
  replace r2 := r2.set 3 (.int .i64 (1 + (b % 1048576)))
  replace r2 := r2.set 4 (.int .i64 0)
  replace r2 := r2.set 5 (.string ⟨#[]⟩)
  replace hc := hc.setCell (p := ⟨w.heap.size + 1, 0, none⟩) wr2 (.int .i64 11)
  replace hc := hc.setCell (p := ⟨w.heap.size + 1, 1, none⟩) wr2 (.int .i64 (m % 4))
  replace hc := hc.setCell (p := ⟨w.heap.size + 1, 2, none⟩) wr2 (.int .i64 (a % 2000))
  replace hc := hc.setCell (p := ⟨w.heap.size + 1, 3, none⟩) wr2 (.int .i64 (1 + (b % 1048576)))
  replace hc := hc.setCell (p := ⟨w.heap.size + 1, 4, none⟩) wr2 (.int .i64 0)
  replace hc := hc.setCell (p := ⟨w.heap.size + 1, 5, none⟩) wr2 (.string ⟨#[]⟩)
  simp only [List.setIfInBounds_toArray, List.set_cons_zero, List.set_cons_succ] at r2
  generalize hW : World.setCell _ _ _ = Z9 at *
  clear hW
  have z9 := r2.cell
  refine bodyPost_ret (v := opRV (11, ⟨(m % 4), (a % 2000), (1 + (b % 1048576)), 0, ⟨#[]⟩⟩)) (by simp [results, Tryz.results9, go_sem, z9]) rfl ⟨⟨_, rfl, ?_⟩, hc⟩
  unfold okR
  rw [opOk_iff]
  simp (decide := true) only [mHi, aLo, aHi, bLo, bHi, cLo, cHi, tgOk]
  simp; omega
theorem made_12 (k m t a b c : Int) (w : World) (hk : k % 17 = 11) (k0 : 0 ≤ k) (k1 : k ≤ 255) (m0 : 0 ≤ m) (m1 : m ≤ 255) (t0 : 0 ≤ t) (t1 : t ≤ 255) (a0 : 0 ≤ a) (a1 : a ≤ 4294967295) (b0 : 0 ≤ b) (b1 : b ≤ 4294967295) (c0 : 0 ≤ c) (c1 : c ≤ 4294967295) :
    Calls Tryz.prog 9 #[.agg #[.int .u8 k, .int .u8 m, .int .u8 t, .int .u32 a, .int .u32 b, .int .u32 c]] w (MadeP w) := by
  have hc := Below.refl w.heap.size w
  have q1 : IntKind.i64.wrap k = k := IntWalk.i64_in _ ⟨by omega, by omega⟩
  have q2 : IntKind.i64.wrap m = m := IntWalk.i64_in _ ⟨by omega, by omega⟩
  have q3 : IntKind.i64.wrap a = a := IntWalk.i64_in _ ⟨by omega, by omega⟩
  have q4 : IntKind.i64.wrap b = b := IntWalk.i64_in _ ⟨by omega, by omega⟩
  have q5 : IntKind.i64.wrap c = c := IntWalk.i64_in _ ⟨by omega, by omega⟩
  have q6 : IntKind.i64.wrap t = t := IntWalk.i64_in _ ⟨by omega, by omega⟩
  obtain ⟨ga2000, la2000⟩ := tm a 2000 a0 (by decide)
  obtain ⟨gm, lm⟩ := tm m 4 m0 (by decide)
  go_enter Tryz.func9, Tryz.ntmps9
  go_upto_region 1 with fail
  have r1 := Row.new (W := w) (cs := #[.int .u8 k, .int .u8 m, .int .u8 t, .int .u32 a, .int .u32 b, .int .u32 c]) (t := 24)
  have hn := below_alloc w (.cells #[.int .u8 k, .int .u8 m, .int .u8 t, .int .u32 a, .int .u32 b, .int .u32 c] 24)
  replace hc := chain hc hn
  have hz1 : (w.alloc (.cells #[.int .u8 k, .int .u8 m, .int .u8 t, .int .u32 a, .int .u32 b, .int .u32 c] 24)).heap.size = w.heap.size + 1 := by simp
  clear hn
  generalize w.alloc (.cells #[.int .u8 k, .int .u8 m, .int .u8 t, .int .u32 a, .int .u32 b, .int .u32 c] 24) = V1 at r1 hc hz1 ⊢
  have r2 := Row.new (W := V1) (cs := #[.int .i64 0, .int .i64 0, .int .i64 0, .int .i64 0, .int .i64 0, .string ⟨#[]⟩]) (t := 31)
  have hn := below_alloc V1 (.cells #[.int .i64 0, .int .i64 0, .int .i64 0, .int .i64 0, .int .i64 0, .string ⟨#[]⟩] 31)
  replace r1 := r1.on hn
  replace hc := chain hc hn
  rw [hz1] at r2
  clear hn hz1
  generalize V1.alloc (.cells #[.int .i64 0, .int .i64 0, .int .i64 0, .int .i64 0, .int .i64 0, .string ⟨#[]⟩] 31) = V2 at r1 r2 hc ⊢
  have nr1_r2 : w.heap.size ≠ w.heap.size + 1 := by omega
  have wr2 : w.heap.size ≤ w.heap.size + 1 := by omega
  have wr1 : w.heap.size ≤ w.heap.size := Nat.le_refl _
  have yr1 := r1.cell
  have zr1 := r1.lt
  have yr2 := r2.cell
  have zr2 := r2.lt
  go_upto_region 2 with fail
  clear yr1 yr2 zr1 zr2
  have r3 := Row.new (W := V2) (cs := #[.int .i64 12, .int .i64 0, .int .i64 0, .int .i64 0, .int .i64 0, .string ⟨#[]⟩]) (t := 31)
  have hn := below_alloc V2 (.cells #[.int .i64 12, .int .i64 0, .int .i64 0, .int .i64 0, .int .i64 0, .string ⟨#[]⟩] 31)
  have nr1_r3 : w.heap.size ≠ V2.heap.size := Nat.ne_of_lt r1.lt
  have nr2_r3 : w.heap.size + 1 ≠ V2.heap.size := Nat.ne_of_lt r2.lt
  have wr3 : w.heap.size ≤ V2.heap.size := hc.size
  replace r1 := r1.on hn
  replace r2 := r2.on hn
  replace hc := chain hc hn
  clear hn
  generalize V2.alloc (.cells #[.int .i64 12, .int .i64 0, .int .i64 0, .int .i64 0, .int .i64 0, .string ⟨#[]⟩] 31) = V3 at r1 r2 r3 hc ⊢
  generalize V2.heap.size = b3 at *
  have yr1 := r1.cell
  have zr1 := r1.lt
  have yr2 := r2.cell
  have zr2 := r2.lt
  have yr3 := r3.cell
  have zr3 := r3.lt
  have ur3 := r3.free
  go_upto_region 4 with fail
  clear yr1 yr2 yr3 zr1 zr2 zr3 ur3
  replace r1 := (r1.other nr1_r3.symm 1 (.int .i64 (m % 4)))
  replace r2 := (r2.other nr2_r3.symm 1 (.int .i64 (m % 4)))
  replace r3 := (r3.set 1 (.int .i64 (m % 4)))
  simp only [List.setIfInBounds_toArray, List.set_cons_zero, List.set_cons_succ] at r3
  replace hc := (hc.setCell (p := ⟨b3, 1, none⟩) wr3 (.int .i64 (m % 4)))
  generalize hW : World.setCell _ _ _ = V4 at *
  clear hW
  refine wp_region_held_drew (S := fun W' => (∀ j, W'.cell? ⟨w.heap.size, j, none⟩ = (#[.int .u8 k, .int .u8 m, .int .u8 t, .int .u32 a, .int .u32 b, .int .u32 c] : Array Value)[j]?)) (by kernel_rfl) r1.cell (fun hHeld => ?_)
  replace r1 := r1.drew
  replace r2 := r2.drew
  replace r3 := r3.drew
  replace hc := hc.drew
  generalize V4.drew = X0 at *
  refine' wpAnyH_take (i := 0) (oi := _) (v := _) ?_ (by kernel_rfl) (by kernel_rfl) (by kernel_rfl) ?_ (Or.inl ⟨?_, ?_⟩) (by assumption) ?_
  rotate_left 2
  · (simp only [List.getElem?_toArray, List.getElem?_cons_succ, List.getElem?_cons_zero]; rfl)
  · first | exact fun _ _ _ h => h | exact fun _ _ _ h => nomatch h.1
  · rfl
  · (intro W hSW; (try dsimp only at hSW); go_split_ands; first | (go_simp; done) | (go_simp; with_reducible rfl))
  try simp only [Act.put, List.setIfInBounds_toArray, List.set_cons_zero, List.set_cons_succ]
  refine' wpAnyH_take (i := 1) (oi := _) (v := _) ?_ (by kernel_rfl) (by kernel_rfl) (by kernel_rfl) ?_ (Or.inl ⟨?_, ?_⟩) (by assumption) ?_
  rotate_left 2
  · (simp only [List.getElem?_toArray, List.getElem?_cons_succ, List.getElem?_cons_zero]; rfl)
  · first | exact fun _ _ _ h => h | exact fun _ _ _ h => nomatch h.1
  · rfl
  · (intro W hSW; (try dsimp only at hSW); go_split_ands; first | (go_simp; done) | (go_simp; with_reducible rfl))
  try simp only [Act.put, List.setIfInBounds_toArray, List.set_cons_zero, List.set_cons_succ]
  refine' wpAnyH_take (i := 2) (oi := _) (v := _) ?_ (by kernel_rfl) (by kernel_rfl) (by kernel_rfl) ?_ (Or.inl ⟨?_, ?_⟩) (by assumption) ?_
  rotate_left 2
  · (simp only [List.getElem?_toArray, List.getElem?_cons_succ, List.getElem?_cons_zero]; rfl)
  · first | exact fun _ _ _ h => h | exact fun _ _ _ h => nomatch h.1
  · rfl
  · (intro W hSW; (try dsimp only at hSW); go_split_ands; first | (go_simp; done) | (go_simp; with_reducible rfl))
  try simp only [Act.put, List.setIfInBounds_toArray, List.set_cons_zero, List.set_cons_succ]
  refine' wpAnyH_take (i := 3) (oi := _) (v := _) ?_ (by kernel_rfl) (by kernel_rfl) (by kernel_rfl) ?_ (Or.inl ⟨?_, ?_⟩) (by assumption) ?_
  rotate_left 2
  · (simp only [List.getElem?_toArray, List.getElem?_cons_succ, List.getElem?_cons_zero]; rfl)
  · first | exact fun _ _ _ h => h | exact fun _ _ _ h => nomatch h.1
  · rfl
  · (intro W hSW; (try dsimp only at hSW); go_split_ands; first | (go_simp; done) | (go_simp; with_reducible rfl))
  try simp only [Act.put, List.setIfInBounds_toArray, List.set_cons_zero, List.set_cons_succ]
  refine' wpAnyH_take (i := 4) (oi := _) (v := _) ?_ (by kernel_rfl) (by kernel_rfl) (by kernel_rfl) ?_ (Or.inl ⟨?_, ?_⟩) (by assumption) ?_
  rotate_left 2
  · (simp only [List.getElem?_toArray, List.getElem?_cons_succ, List.getElem?_cons_zero]; rfl)
  · first | exact fun _ _ _ h => h | exact fun _ _ _ h => nomatch h.1
  · rfl
  · (intro W hSW; (try dsimp only at hSW); go_split_ands; first | (go_simp; done) | (go_simp; with_reducible rfl))
  try simp only [Act.put, List.setIfInBounds_toArray, List.set_cons_zero, List.set_cons_succ]
  refine' wpAnyH_take (i := 5) (oi := _) (v := _) ?_ (by kernel_rfl) (by kernel_rfl) (by kernel_rfl) ?_ (Or.inl ⟨?_, ?_⟩) (by assumption) ?_
  rotate_left 2
  · (simp only [List.getElem?_toArray, List.getElem?_cons_succ, List.getElem?_cons_zero]; rfl)
  · first | exact fun _ _ _ h => h | exact fun _ _ _ h => nomatch h.1
  · rfl
  · (intro W hSW; (try dsimp only at hSW); go_split_ands; first | (go_simp; done) | (go_simp; with_reducible rfl))
  try simp only [Act.put, List.setIfInBounds_toArray, List.set_cons_zero, List.set_cons_succ]
  refine' wpAnyH_take (i := 6) (oi := _) (v := _) ?_ (by kernel_rfl) (by kernel_rfl) (by kernel_rfl) ?_ (Or.inl ⟨?_, ?_⟩) (by assumption) ?_
  rotate_left 2
  · (simp only [List.getElem?_toArray, List.getElem?_cons_succ, List.getElem?_cons_zero]; rfl)
  · first | exact fun _ _ _ h => h | exact fun _ _ _ h => nomatch h.1
  · rfl
  · (intro W hSW; (try dsimp only at hSW); go_split_ands; first | (go_simp; done) | (go_simp; with_reducible rfl))
  try simp only [Act.put, List.setIfInBounds_toArray, List.set_cons_zero, List.set_cons_succ]
  refine' wpAnyH_take (i := 7) (oi := _) (v := _) ?_ (by kernel_rfl) (by kernel_rfl) (by kernel_rfl) ?_ (Or.inl ⟨?_, ?_⟩) (by assumption) ?_
  rotate_left 2
  · (simp only [List.getElem?_toArray, List.getElem?_cons_succ, List.getElem?_cons_zero]; rfl)
  · first | exact fun _ _ _ h => h | exact fun _ _ _ h => nomatch h.1
  · rfl
  · (intro W hSW; (try dsimp only at hSW); go_split_ands; first | (go_simp; done) | (go_simp; with_reducible rfl))
  try simp only [Act.put, List.setIfInBounds_toArray, List.set_cons_zero, List.set_cons_succ]
  clear hHeld
  refine wpAnyH_done (by kernel_rfl) ?_ _
  have yr1 := r1.cell
  have zr1 := r1.lt
  have yr2 := r2.cell
  have zr2 := r2.lt
  have yr3 := r3.cell
  have zr3 := r3.lt
  have ur3 := r3.free
  go_upto_region 32 with fail
  clear yr1 yr2 yr3 zr1 zr2 zr3 ur3
  replace r1 := (r1.other nr1_r3.symm 2 (.int .i64 (a % 2000)))
  replace r2 := (r2.other nr2_r3.symm 2 (.int .i64 (a % 2000)))
  replace r3 := (r3.set 2 (.int .i64 (a % 2000)))
  simp only [List.setIfInBounds_toArray, List.set_cons_zero, List.set_cons_succ] at r3
  replace hc := (hc.setCell (p := ⟨b3, 2, none⟩) wr3 (.int .i64 (a % 2000)))
  generalize hW : World.setCell _ _ _ = V5 at *
  clear hW
  have yr1 := r1.cell
  have zr1 := r1.lt
  have yr2 := r2.cell
  have zr2 := r2.lt
  have yr3 := r3.cell
  have zr3 := r3.lt
  have ur2 := r2.free
  go_wp2_with fail
  clear yr1 yr2 yr3 zr1 zr2 zr3 ur2
  replace r2 := r2.set 0 (.int .i64 12)
  replace r2 := r2.set 1 (.int .i64 (m % 4))
  replace r2 := r2.set 2 (.int .i64 (a % 2000))
  replace r2 := r2.set 3 (.int .i64 0)
  replace r2 := r2.set 4 (.int .i64 0)
  replace r2 := r2.set 5 (.string ⟨#[]⟩)
  replace hc := hc.setCell (p := ⟨w.heap.size + 1, 0, none⟩) wr2 (.int .i64 12)
  replace hc := hc.setCell (p := ⟨w.heap.size + 1, 1, none⟩) wr2 (.int .i64 (m % 4))
  replace hc := hc.setCell (p := ⟨w.heap.size + 1, 2, none⟩) wr2 (.int .i64 (a % 2000))
  replace hc := hc.setCell (p := ⟨w.heap.size + 1, 3, none⟩) wr2 (.int .i64 0)
  replace hc := hc.setCell (p := ⟨w.heap.size + 1, 4, none⟩) wr2 (.int .i64 0)
  replace hc := hc.setCell (p := ⟨w.heap.size + 1, 5, none⟩) wr2 (.string ⟨#[]⟩)
  simp only [List.setIfInBounds_toArray, List.set_cons_zero, List.set_cons_succ] at r2
  generalize hW : World.setCell _ _ _ = Z9 at *
  clear hW
  have z9 := r2.cell
  refine bodyPost_ret (v := opRV (12, ⟨(m % 4), (a % 2000), 0, 0, ⟨#[]⟩⟩)) (by simp [results, Tryz.results9, go_sem, z9]) rfl ⟨⟨_, rfl, ?_⟩, hc⟩
  unfold okR
  rw [opOk_iff]
  simp (decide := true) only [mHi, aLo, aHi, bLo, bHi, cLo, cHi, tgOk]
  simp; omega
theorem made_13 (k m t a b c : Int) (w : World) (hk : k % 17 = 12) (k0 : 0 ≤ k) (k1 : k ≤ 255) (m0 : 0 ≤ m) (m1 : m ≤ 255) (t0 : 0 ≤ t) (t1 : t ≤ 255) (a0 : 0 ≤ a) (a1 : a ≤ 4294967295) (b0 : 0 ≤ b) (b1 : b ≤ 4294967295) (c0 : 0 ≤ c) (c1 : c ≤ 4294967295) :
    Calls Tryz.prog 9 #[.agg #[.int .u8 k, .int .u8 m, .int .u8 t, .int .u32 a, .int .u32 b, .int .u32 c]] w (MadeP w) := by
  have hc := Below.refl w.heap.size w
  have q1 : IntKind.i64.wrap k = k := IntWalk.i64_in _ ⟨by omega, by omega⟩
  have q2 : IntKind.i64.wrap m = m := IntWalk.i64_in _ ⟨by omega, by omega⟩
  have q3 : IntKind.i64.wrap a = a := IntWalk.i64_in _ ⟨by omega, by omega⟩
  have q4 : IntKind.i64.wrap b = b := IntWalk.i64_in _ ⟨by omega, by omega⟩
  have q5 : IntKind.i64.wrap c = c := IntWalk.i64_in _ ⟨by omega, by omega⟩
  have q6 : IntKind.i64.wrap t = t := IntWalk.i64_in _ ⟨by omega, by omega⟩
  obtain ⟨ga10000, la10000⟩ := tm a 10000 a0 (by decide)
  have x0 := w64 (1 + (a % 10000)) (by omega) (by omega)
  go_enter Tryz.func9, Tryz.ntmps9
  go_upto_region 1 with fail
  have r1 := Row.new (W := w) (cs := #[.int .u8 k, .int .u8 m, .int .u8 t, .int .u32 a, .int .u32 b, .int .u32 c]) (t := 24)
  have hn := below_alloc w (.cells #[.int .u8 k, .int .u8 m, .int .u8 t, .int .u32 a, .int .u32 b, .int .u32 c] 24)
  replace hc := chain hc hn
  have hz1 : (w.alloc (.cells #[.int .u8 k, .int .u8 m, .int .u8 t, .int .u32 a, .int .u32 b, .int .u32 c] 24)).heap.size = w.heap.size + 1 := by simp
  clear hn
  generalize w.alloc (.cells #[.int .u8 k, .int .u8 m, .int .u8 t, .int .u32 a, .int .u32 b, .int .u32 c] 24) = V1 at r1 hc hz1 ⊢
  have r2 := Row.new (W := V1) (cs := #[.int .i64 0, .int .i64 0, .int .i64 0, .int .i64 0, .int .i64 0, .string ⟨#[]⟩]) (t := 31)
  have hn := below_alloc V1 (.cells #[.int .i64 0, .int .i64 0, .int .i64 0, .int .i64 0, .int .i64 0, .string ⟨#[]⟩] 31)
  replace r1 := r1.on hn
  replace hc := chain hc hn
  rw [hz1] at r2
  clear hn hz1
  generalize V1.alloc (.cells #[.int .i64 0, .int .i64 0, .int .i64 0, .int .i64 0, .int .i64 0, .string ⟨#[]⟩] 31) = V2 at r1 r2 hc ⊢
  have nr1_r2 : w.heap.size ≠ w.heap.size + 1 := by omega
  have wr2 : w.heap.size ≤ w.heap.size + 1 := by omega
  have wr1 : w.heap.size ≤ w.heap.size := Nat.le_refl _
  have yr1 := r1.cell
  have zr1 := r1.lt
  have yr2 := r2.cell
  have zr2 := r2.lt
  go_upto_region 2 with fail
  clear yr1 yr2 zr1 zr2
  have r3 := Row.new (W := V2) (cs := #[.int .i64 13, .int .i64 0, .int .i64 0, .int .i64 0, .int .i64 0, .string ⟨#[]⟩]) (t := 31)
  have hn := below_alloc V2 (.cells #[.int .i64 13, .int .i64 0, .int .i64 0, .int .i64 0, .int .i64 0, .string ⟨#[]⟩] 31)
  have nr1_r3 : w.heap.size ≠ V2.heap.size := Nat.ne_of_lt r1.lt
  have nr2_r3 : w.heap.size + 1 ≠ V2.heap.size := Nat.ne_of_lt r2.lt
  have wr3 : w.heap.size ≤ V2.heap.size := hc.size
  replace r1 := r1.on hn
  replace r2 := r2.on hn
  replace hc := chain hc hn
  clear hn
  generalize V2.alloc (.cells #[.int .i64 13, .int .i64 0, .int .i64 0, .int .i64 0, .int .i64 0, .string ⟨#[]⟩] 31) = V3 at r1 r2 r3 hc ⊢
  generalize V2.heap.size = b3 at *
  have yr1 := r1.cell
  have zr1 := r1.lt
  have yr2 := r2.cell
  have zr2 := r2.lt
  have yr3 := r3.cell
  have zr3 := r3.lt
  have ur3 := r3.free
  go_upto_region 4 with fail
  clear yr1 yr2 yr3 zr1 zr2 zr3 ur3
  refine wp_region_held_drew (S := fun W' => (∀ j, W'.cell? ⟨w.heap.size, j, none⟩ = (#[.int .u8 k, .int .u8 m, .int .u8 t, .int .u32 a, .int .u32 b, .int .u32 c] : Array Value)[j]?)) (by kernel_rfl) r1.cell (fun hHeld => ?_)
  replace r1 := r1.drew
  replace r2 := r2.drew
  replace r3 := r3.drew
  replace hc := hc.drew
  generalize V3.drew = X0 at *
  refine' wpAnyH_take (i := 0) (oi := _) (v := _) ?_ (by kernel_rfl) (by kernel_rfl) (by kernel_rfl) ?_ (Or.inl ⟨?_, ?_⟩) (by assumption) ?_
  rotate_left 2
  · (simp only [List.getElem?_toArray, List.getElem?_cons_succ, List.getElem?_cons_zero]; rfl)
  · first | exact fun _ _ _ h => h | exact fun _ _ _ h => nomatch h.1
  · rfl
  · (intro W hSW; (try dsimp only at hSW); go_split_ands; first | (go_simp; done) | (go_simp; with_reducible rfl))
  try simp only [Act.put, List.setIfInBounds_toArray, List.set_cons_zero, List.set_cons_succ]
  refine' wpAnyH_take (i := 1) (oi := _) (v := _) ?_ (by kernel_rfl) (by kernel_rfl) (by kernel_rfl) ?_ (Or.inl ⟨?_, ?_⟩) (by assumption) ?_
  rotate_left 2
  · (simp only [List.getElem?_toArray, List.getElem?_cons_succ, List.getElem?_cons_zero]; rfl)
  · first | exact fun _ _ _ h => h | exact fun _ _ _ h => nomatch h.1
  · rfl
  · (intro W hSW; (try dsimp only at hSW); go_split_ands; first | (go_simp; done) | (go_simp; with_reducible rfl))
  try simp only [Act.put, List.setIfInBounds_toArray, List.set_cons_zero, List.set_cons_succ]
  refine' wpAnyH_take (i := 2) (oi := _) (v := _) ?_ (by kernel_rfl) (by kernel_rfl) (by kernel_rfl) ?_ (Or.inl ⟨?_, ?_⟩) (by assumption) ?_
  rotate_left 2
  · (simp only [List.getElem?_toArray, List.getElem?_cons_succ, List.getElem?_cons_zero]; rfl)
  · first | exact fun _ _ _ h => h | exact fun _ _ _ h => nomatch h.1
  · rfl
  · (intro W hSW; (try dsimp only at hSW); go_split_ands; first | (go_simp; done) | (go_simp; with_reducible rfl))
  try simp only [Act.put, List.setIfInBounds_toArray, List.set_cons_zero, List.set_cons_succ]
  refine' wpAnyH_take (i := 3) (oi := _) (v := _) ?_ (by kernel_rfl) (by kernel_rfl) (by kernel_rfl) ?_ (Or.inl ⟨?_, ?_⟩) (by assumption) ?_
  rotate_left 2
  · (simp only [List.getElem?_toArray, List.getElem?_cons_succ, List.getElem?_cons_zero]; rfl)
  · first | exact fun _ _ _ h => h | exact fun _ _ _ h => nomatch h.1
  · rfl
  · (intro W hSW; (try dsimp only at hSW); go_split_ands; first | (go_simp; done) | (go_simp; with_reducible rfl))
  try simp only [Act.put, List.setIfInBounds_toArray, List.set_cons_zero, List.set_cons_succ]
  refine' wpAnyH_take (i := 4) (oi := _) (v := _) ?_ (by kernel_rfl) (by kernel_rfl) (by kernel_rfl) ?_ (Or.inl ⟨?_, ?_⟩) (by assumption) ?_
  rotate_left 2
  · (simp only [List.getElem?_toArray, List.getElem?_cons_succ, List.getElem?_cons_zero]; rfl)
  · first | exact fun _ _ _ h => h | exact fun _ _ _ h => nomatch h.1
  · rfl
  · (intro W hSW; (try dsimp only at hSW); go_split_ands; first | (go_simp; done) | (go_simp; with_reducible rfl))
  try simp only [Act.put, List.setIfInBounds_toArray, List.set_cons_zero, List.set_cons_succ]
  refine' wpAnyH_take (i := 5) (oi := _) (v := _) ?_ (by kernel_rfl) (by kernel_rfl) (by kernel_rfl) ?_ (Or.inl ⟨?_, ?_⟩) (by assumption) ?_
  rotate_left 2
  · (simp only [List.getElem?_toArray, List.getElem?_cons_succ, List.getElem?_cons_zero]; rfl)
  · first | exact fun _ _ _ h => h | exact fun _ _ _ h => nomatch h.1
  · rfl
  · (intro W hSW; (try dsimp only at hSW); go_split_ands; first | (go_simp; done) | (go_simp; with_reducible rfl))
  try simp only [Act.put, List.setIfInBounds_toArray, List.set_cons_zero, List.set_cons_succ]
  refine' wpAnyH_take (i := 6) (oi := _) (v := _) ?_ (by kernel_rfl) (by kernel_rfl) (by kernel_rfl) ?_ (Or.inl ⟨?_, ?_⟩) (by assumption) ?_
  rotate_left 2
  · (simp only [List.getElem?_toArray, List.getElem?_cons_succ, List.getElem?_cons_zero]; rfl)
  · first | exact fun _ _ _ h => h | exact fun _ _ _ h => nomatch h.1
  · rfl
  · (intro W hSW; (try dsimp only at hSW); go_split_ands; first | (go_simp; done) | (go_simp; with_reducible rfl))
  try simp only [Act.put, List.setIfInBounds_toArray, List.set_cons_zero, List.set_cons_succ]
  refine' wpAnyH_take (i := 7) (oi := _) (v := _) ?_ (by kernel_rfl) (by kernel_rfl) (by kernel_rfl) ?_ (Or.inl ⟨?_, ?_⟩) (by assumption) ?_
  rotate_left 2
  · (simp only [List.getElem?_toArray, List.getElem?_cons_succ, List.getElem?_cons_zero]; rfl)
  · first | exact fun _ _ _ h => h | exact fun _ _ _ h => nomatch h.1
  · rfl
  · (intro W hSW; (try dsimp only at hSW); go_split_ands; first | (go_simp; done) | (go_simp; with_reducible rfl))
  try simp only [Act.put, List.setIfInBounds_toArray, List.set_cons_zero, List.set_cons_succ]
  clear hHeld
  refine wpAnyH_done (by kernel_rfl) ?_ _
  have yr1 := r1.cell
  have zr1 := r1.lt
  have yr2 := r2.cell
  have zr2 := r2.lt
  have yr3 := r3.cell
  have zr3 := r3.lt
  have ur3 := r3.free
  go_upto_region 32 with fail
  clear yr1 yr2 yr3 zr1 zr2 zr3 ur3
  replace r1 := (r1.other nr1_r3.symm 2 (.int .i64 (1 + (a % 10000))))
  replace r2 := (r2.other nr2_r3.symm 2 (.int .i64 (1 + (a % 10000))))
  replace r3 := (r3.set 2 (.int .i64 (1 + (a % 10000))))
  simp only [List.setIfInBounds_toArray, List.set_cons_zero, List.set_cons_succ] at r3
  replace hc := (hc.setCell (p := ⟨b3, 2, none⟩) wr3 (.int .i64 (1 + (a % 10000))))
  generalize hW : World.setCell _ _ _ = V4 at *
  clear hW
  have yr1 := r1.cell
  have zr1 := r1.lt
  have yr2 := r2.cell
  have zr2 := r2.lt
  have yr3 := r3.cell
  have zr3 := r3.lt
  have ur2 := r2.free
  go_wp2_with fail
  clear yr1 yr2 yr3 zr1 zr2 zr3 ur2
  replace r2 := r2.set 0 (.int .i64 13)
  replace r2 := r2.set 1 (.int .i64 0)
  replace r2 := r2.set 2 (.int .i64 (1 + (a % 10000)))
  replace r2 := r2.set 3 (.int .i64 0)
  replace r2 := r2.set 4 (.int .i64 0)
  replace r2 := r2.set 5 (.string ⟨#[]⟩)
  replace hc := hc.setCell (p := ⟨w.heap.size + 1, 0, none⟩) wr2 (.int .i64 13)
  replace hc := hc.setCell (p := ⟨w.heap.size + 1, 1, none⟩) wr2 (.int .i64 0)
  replace hc := hc.setCell (p := ⟨w.heap.size + 1, 2, none⟩) wr2 (.int .i64 (1 + (a % 10000)))
  replace hc := hc.setCell (p := ⟨w.heap.size + 1, 3, none⟩) wr2 (.int .i64 0)
  replace hc := hc.setCell (p := ⟨w.heap.size + 1, 4, none⟩) wr2 (.int .i64 0)
  replace hc := hc.setCell (p := ⟨w.heap.size + 1, 5, none⟩) wr2 (.string ⟨#[]⟩)
  simp only [List.setIfInBounds_toArray, List.set_cons_zero, List.set_cons_succ] at r2
  generalize hW : World.setCell _ _ _ = Z9 at *
  clear hW
  have z9 := r2.cell
  refine bodyPost_ret (v := opRV (13, ⟨0, (1 + (a % 10000)), 0, 0, ⟨#[]⟩⟩)) (by simp [results, Tryz.results9, go_sem, z9]) rfl ⟨⟨_, rfl, ?_⟩, hc⟩
  unfold okR
  rw [opOk_iff]
  simp (decide := true) only [mHi, aLo, aHi, bLo, bHi, cLo, cHi, tgOk]
  simp; omega
theorem made_14 (k m t a b c : Int) (w : World) (hk : k % 17 = 13) (k0 : 0 ≤ k) (k1 : k ≤ 255) (m0 : 0 ≤ m) (m1 : m ≤ 255) (t0 : 0 ≤ t) (t1 : t ≤ 255) (a0 : 0 ≤ a) (a1 : a ≤ 4294967295) (b0 : 0 ≤ b) (b1 : b ≤ 4294967295) (c0 : 0 ≤ c) (c1 : c ≤ 4294967295) :
    Calls Tryz.prog 9 #[.agg #[.int .u8 k, .int .u8 m, .int .u8 t, .int .u32 a, .int .u32 b, .int .u32 c]] w (MadeP w) := by
  have hc := Below.refl w.heap.size w
  have q1 : IntKind.i64.wrap k = k := IntWalk.i64_in _ ⟨by omega, by omega⟩
  have q2 : IntKind.i64.wrap m = m := IntWalk.i64_in _ ⟨by omega, by omega⟩
  have q3 : IntKind.i64.wrap a = a := IntWalk.i64_in _ ⟨by omega, by omega⟩
  have q4 : IntKind.i64.wrap b = b := IntWalk.i64_in _ ⟨by omega, by omega⟩
  have q5 : IntKind.i64.wrap c = c := IntWalk.i64_in _ ⟨by omega, by omega⟩
  have q6 : IntKind.i64.wrap t = t := IntWalk.i64_in _ ⟨by omega, by omega⟩
  go_enter Tryz.func9, Tryz.ntmps9
  go_upto_region 1 with fail
  have r1 := Row.new (W := w) (cs := #[.int .u8 k, .int .u8 m, .int .u8 t, .int .u32 a, .int .u32 b, .int .u32 c]) (t := 24)
  have hn := below_alloc w (.cells #[.int .u8 k, .int .u8 m, .int .u8 t, .int .u32 a, .int .u32 b, .int .u32 c] 24)
  replace hc := chain hc hn
  have hz1 : (w.alloc (.cells #[.int .u8 k, .int .u8 m, .int .u8 t, .int .u32 a, .int .u32 b, .int .u32 c] 24)).heap.size = w.heap.size + 1 := by simp
  clear hn
  generalize w.alloc (.cells #[.int .u8 k, .int .u8 m, .int .u8 t, .int .u32 a, .int .u32 b, .int .u32 c] 24) = V1 at r1 hc hz1 ⊢
  have r2 := Row.new (W := V1) (cs := #[.int .i64 0, .int .i64 0, .int .i64 0, .int .i64 0, .int .i64 0, .string ⟨#[]⟩]) (t := 31)
  have hn := below_alloc V1 (.cells #[.int .i64 0, .int .i64 0, .int .i64 0, .int .i64 0, .int .i64 0, .string ⟨#[]⟩] 31)
  replace r1 := r1.on hn
  replace hc := chain hc hn
  rw [hz1] at r2
  clear hn hz1
  generalize V1.alloc (.cells #[.int .i64 0, .int .i64 0, .int .i64 0, .int .i64 0, .int .i64 0, .string ⟨#[]⟩] 31) = V2 at r1 r2 hc ⊢
  have nr1_r2 : w.heap.size ≠ w.heap.size + 1 := by omega
  have wr2 : w.heap.size ≤ w.heap.size + 1 := by omega
  have wr1 : w.heap.size ≤ w.heap.size := Nat.le_refl _
  have yr1 := r1.cell
  have zr1 := r1.lt
  have yr2 := r2.cell
  have zr2 := r2.lt
  go_upto_region 2 with fail
  clear yr1 yr2 zr1 zr2
  have r3 := Row.new (W := V2) (cs := #[.int .i64 14, .int .i64 0, .int .i64 0, .int .i64 0, .int .i64 0, .string ⟨#[]⟩]) (t := 31)
  have hn := below_alloc V2 (.cells #[.int .i64 14, .int .i64 0, .int .i64 0, .int .i64 0, .int .i64 0, .string ⟨#[]⟩] 31)
  have nr1_r3 : w.heap.size ≠ V2.heap.size := Nat.ne_of_lt r1.lt
  have nr2_r3 : w.heap.size + 1 ≠ V2.heap.size := Nat.ne_of_lt r2.lt
  have wr3 : w.heap.size ≤ V2.heap.size := hc.size
  replace r1 := r1.on hn
  replace r2 := r2.on hn
  replace hc := chain hc hn
  clear hn
  generalize V2.alloc (.cells #[.int .i64 14, .int .i64 0, .int .i64 0, .int .i64 0, .int .i64 0, .string ⟨#[]⟩] 31) = V3 at r1 r2 r3 hc ⊢
  generalize V2.heap.size = b3 at *
  have yr1 := r1.cell
  have zr1 := r1.lt
  have yr2 := r2.cell
  have zr2 := r2.lt
  have yr3 := r3.cell
  have zr3 := r3.lt
  have ur3 := r3.free
  go_upto_region 4 with fail
  clear yr1 yr2 yr3 zr1 zr2 zr3 ur3
  refine wp_region_held_drew (S := fun W' => (∀ j, W'.cell? ⟨w.heap.size, j, none⟩ = (#[.int .u8 k, .int .u8 m, .int .u8 t, .int .u32 a, .int .u32 b, .int .u32 c] : Array Value)[j]?)) (by kernel_rfl) r1.cell (fun hHeld => ?_)
  replace r1 := r1.drew
  replace r2 := r2.drew
  replace r3 := r3.drew
  replace hc := hc.drew
  generalize V3.drew = X0 at *
  refine' wpAnyH_take (i := 0) (oi := _) (v := _) ?_ (by kernel_rfl) (by kernel_rfl) (by kernel_rfl) ?_ (Or.inl ⟨?_, ?_⟩) (by assumption) ?_
  rotate_left 2
  · (simp only [List.getElem?_toArray, List.getElem?_cons_succ, List.getElem?_cons_zero]; rfl)
  · first | exact fun _ _ _ h => h | exact fun _ _ _ h => nomatch h.1
  · rfl
  · (intro W hSW; (try dsimp only at hSW); go_split_ands; first | (go_simp; done) | (go_simp; with_reducible rfl))
  try simp only [Act.put, List.setIfInBounds_toArray, List.set_cons_zero, List.set_cons_succ]
  refine' wpAnyH_take (i := 1) (oi := _) (v := _) ?_ (by kernel_rfl) (by kernel_rfl) (by kernel_rfl) ?_ (Or.inl ⟨?_, ?_⟩) (by assumption) ?_
  rotate_left 2
  · (simp only [List.getElem?_toArray, List.getElem?_cons_succ, List.getElem?_cons_zero]; rfl)
  · first | exact fun _ _ _ h => h | exact fun _ _ _ h => nomatch h.1
  · rfl
  · (intro W hSW; (try dsimp only at hSW); go_split_ands; first | (go_simp; done) | (go_simp; with_reducible rfl))
  try simp only [Act.put, List.setIfInBounds_toArray, List.set_cons_zero, List.set_cons_succ]
  refine' wpAnyH_take (i := 2) (oi := _) (v := _) ?_ (by kernel_rfl) (by kernel_rfl) (by kernel_rfl) ?_ (Or.inl ⟨?_, ?_⟩) (by assumption) ?_
  rotate_left 2
  · (simp only [List.getElem?_toArray, List.getElem?_cons_succ, List.getElem?_cons_zero]; rfl)
  · first | exact fun _ _ _ h => h | exact fun _ _ _ h => nomatch h.1
  · rfl
  · (intro W hSW; (try dsimp only at hSW); go_split_ands; first | (go_simp; done) | (go_simp; with_reducible rfl))
  try simp only [Act.put, List.setIfInBounds_toArray, List.set_cons_zero, List.set_cons_succ]
  refine' wpAnyH_take (i := 3) (oi := _) (v := _) ?_ (by kernel_rfl) (by kernel_rfl) (by kernel_rfl) ?_ (Or.inl ⟨?_, ?_⟩) (by assumption) ?_
  rotate_left 2
  · (simp only [List.getElem?_toArray, List.getElem?_cons_succ, List.getElem?_cons_zero]; rfl)
  · first | exact fun _ _ _ h => h | exact fun _ _ _ h => nomatch h.1
  · rfl
  · (intro W hSW; (try dsimp only at hSW); go_split_ands; first | (go_simp; done) | (go_simp; with_reducible rfl))
  try simp only [Act.put, List.setIfInBounds_toArray, List.set_cons_zero, List.set_cons_succ]
  refine' wpAnyH_take (i := 4) (oi := _) (v := _) ?_ (by kernel_rfl) (by kernel_rfl) (by kernel_rfl) ?_ (Or.inl ⟨?_, ?_⟩) (by assumption) ?_
  rotate_left 2
  · (simp only [List.getElem?_toArray, List.getElem?_cons_succ, List.getElem?_cons_zero]; rfl)
  · first | exact fun _ _ _ h => h | exact fun _ _ _ h => nomatch h.1
  · rfl
  · (intro W hSW; (try dsimp only at hSW); go_split_ands; first | (go_simp; done) | (go_simp; with_reducible rfl))
  try simp only [Act.put, List.setIfInBounds_toArray, List.set_cons_zero, List.set_cons_succ]
  refine' wpAnyH_take (i := 5) (oi := _) (v := _) ?_ (by kernel_rfl) (by kernel_rfl) (by kernel_rfl) ?_ (Or.inl ⟨?_, ?_⟩) (by assumption) ?_
  rotate_left 2
  · (simp only [List.getElem?_toArray, List.getElem?_cons_succ, List.getElem?_cons_zero]; rfl)
  · first | exact fun _ _ _ h => h | exact fun _ _ _ h => nomatch h.1
  · rfl
  · (intro W hSW; (try dsimp only at hSW); go_split_ands; first | (go_simp; done) | (go_simp; with_reducible rfl))
  try simp only [Act.put, List.setIfInBounds_toArray, List.set_cons_zero, List.set_cons_succ]
  refine' wpAnyH_take (i := 6) (oi := _) (v := _) ?_ (by kernel_rfl) (by kernel_rfl) (by kernel_rfl) ?_ (Or.inl ⟨?_, ?_⟩) (by assumption) ?_
  rotate_left 2
  · (simp only [List.getElem?_toArray, List.getElem?_cons_succ, List.getElem?_cons_zero]; rfl)
  · first | exact fun _ _ _ h => h | exact fun _ _ _ h => nomatch h.1
  · rfl
  · (intro W hSW; (try dsimp only at hSW); go_split_ands; first | (go_simp; done) | (go_simp; with_reducible rfl))
  try simp only [Act.put, List.setIfInBounds_toArray, List.set_cons_zero, List.set_cons_succ]
  refine' wpAnyH_take (i := 7) (oi := _) (v := _) ?_ (by kernel_rfl) (by kernel_rfl) (by kernel_rfl) ?_ (Or.inl ⟨?_, ?_⟩) (by assumption) ?_
  rotate_left 2
  · (simp only [List.getElem?_toArray, List.getElem?_cons_succ, List.getElem?_cons_zero]; rfl)
  · first | exact fun _ _ _ h => h | exact fun _ _ _ h => nomatch h.1
  · rfl
  · (intro W hSW; (try dsimp only at hSW); go_split_ands; first | (go_simp; done) | (go_simp; with_reducible rfl))
  try simp only [Act.put, List.setIfInBounds_toArray, List.set_cons_zero, List.set_cons_succ]
  clear hHeld
  refine wpAnyH_done (by kernel_rfl) ?_ _
  have yr1 := r1.cell
  have zr1 := r1.lt
  have yr2 := r2.cell
  have zr2 := r2.lt
  have yr3 := r3.cell
  have zr3 := r3.lt
  have ur2 := r2.free
  go_wp2_with fail
  clear yr1 yr2 yr3 zr1 zr2 zr3 ur2
  replace r2 := r2.set 0 (.int .i64 14)
  replace r2 := r2.set 1 (.int .i64 0)
  replace r2 := r2.set 2 (.int .i64 0)
  replace r2 := r2.set 3 (.int .i64 0)
  replace r2 := r2.set 4 (.int .i64 0)
  replace r2 := r2.set 5 (.string ⟨#[]⟩)
  replace hc := hc.setCell (p := ⟨w.heap.size + 1, 0, none⟩) wr2 (.int .i64 14)
  replace hc := hc.setCell (p := ⟨w.heap.size + 1, 1, none⟩) wr2 (.int .i64 0)
  replace hc := hc.setCell (p := ⟨w.heap.size + 1, 2, none⟩) wr2 (.int .i64 0)
  replace hc := hc.setCell (p := ⟨w.heap.size + 1, 3, none⟩) wr2 (.int .i64 0)
  replace hc := hc.setCell (p := ⟨w.heap.size + 1, 4, none⟩) wr2 (.int .i64 0)
  replace hc := hc.setCell (p := ⟨w.heap.size + 1, 5, none⟩) wr2 (.string ⟨#[]⟩)
  simp only [List.setIfInBounds_toArray, List.set_cons_zero, List.set_cons_succ] at r2
  generalize hW : World.setCell _ _ _ = Z9 at *
  clear hW
  have z9 := r2.cell
  refine bodyPost_ret (v := opRV (14, ⟨0, 0, 0, 0, ⟨#[]⟩⟩)) (by simp [results, Tryz.results9, go_sem, z9]) rfl ⟨⟨_, rfl, ?_⟩, hc⟩
  unfold okR
  rw [opOk_iff]
  simp (decide := true) only [mHi, aLo, aHi, bLo, bHi, cLo, cHi, tgOk]
  all_goals simp
theorem made_15 (k m t a b c : Int) (w : World) (hk : k % 17 = 14) (k0 : 0 ≤ k) (k1 : k ≤ 255) (m0 : 0 ≤ m) (m1 : m ≤ 255) (t0 : 0 ≤ t) (t1 : t ≤ 255) (a0 : 0 ≤ a) (a1 : a ≤ 4294967295) (b0 : 0 ≤ b) (b1 : b ≤ 4294967295) (c0 : 0 ≤ c) (c1 : c ≤ 4294967295) :
    Calls Tryz.prog 9 #[.agg #[.int .u8 k, .int .u8 m, .int .u8 t, .int .u32 a, .int .u32 b, .int .u32 c]] w (MadeP w) := by
  have hc := Below.refl w.heap.size w
  have q1 : IntKind.i64.wrap k = k := IntWalk.i64_in _ ⟨by omega, by omega⟩
  have q2 : IntKind.i64.wrap m = m := IntWalk.i64_in _ ⟨by omega, by omega⟩
  have q3 : IntKind.i64.wrap a = a := IntWalk.i64_in _ ⟨by omega, by omega⟩
  have q4 : IntKind.i64.wrap b = b := IntWalk.i64_in _ ⟨by omega, by omega⟩
  have q5 : IntKind.i64.wrap c = c := IntWalk.i64_in _ ⟨by omega, by omega⟩
  have q6 : IntKind.i64.wrap t = t := IntWalk.i64_in _ ⟨by omega, by omega⟩
  obtain ⟨ga1048576, la1048576⟩ := tm a 1048576 a0 (by decide)
  have x0 := w64 (1 + (a % 1048576)) (by omega) (by omega)
  go_enter Tryz.func9, Tryz.ntmps9
  go_upto_region 1 with fail
  have r1 := Row.new (W := w) (cs := #[.int .u8 k, .int .u8 m, .int .u8 t, .int .u32 a, .int .u32 b, .int .u32 c]) (t := 24)
  have hn := below_alloc w (.cells #[.int .u8 k, .int .u8 m, .int .u8 t, .int .u32 a, .int .u32 b, .int .u32 c] 24)
  replace hc := chain hc hn
  have hz1 : (w.alloc (.cells #[.int .u8 k, .int .u8 m, .int .u8 t, .int .u32 a, .int .u32 b, .int .u32 c] 24)).heap.size = w.heap.size + 1 := by simp
  clear hn
  generalize w.alloc (.cells #[.int .u8 k, .int .u8 m, .int .u8 t, .int .u32 a, .int .u32 b, .int .u32 c] 24) = V1 at r1 hc hz1 ⊢
  have r2 := Row.new (W := V1) (cs := #[.int .i64 0, .int .i64 0, .int .i64 0, .int .i64 0, .int .i64 0, .string ⟨#[]⟩]) (t := 31)
  have hn := below_alloc V1 (.cells #[.int .i64 0, .int .i64 0, .int .i64 0, .int .i64 0, .int .i64 0, .string ⟨#[]⟩] 31)
  replace r1 := r1.on hn
  replace hc := chain hc hn
  rw [hz1] at r2
  clear hn hz1
  generalize V1.alloc (.cells #[.int .i64 0, .int .i64 0, .int .i64 0, .int .i64 0, .int .i64 0, .string ⟨#[]⟩] 31) = V2 at r1 r2 hc ⊢
  have nr1_r2 : w.heap.size ≠ w.heap.size + 1 := by omega
  have wr2 : w.heap.size ≤ w.heap.size + 1 := by omega
  have wr1 : w.heap.size ≤ w.heap.size := Nat.le_refl _
  have yr1 := r1.cell
  have zr1 := r1.lt
  have yr2 := r2.cell
  have zr2 := r2.lt
  go_upto_region 2 with fail
  clear yr1 yr2 zr1 zr2
  have r3 := Row.new (W := V2) (cs := #[.int .i64 15, .int .i64 0, .int .i64 0, .int .i64 0, .int .i64 0, .string ⟨#[]⟩]) (t := 31)
  have hn := below_alloc V2 (.cells #[.int .i64 15, .int .i64 0, .int .i64 0, .int .i64 0, .int .i64 0, .string ⟨#[]⟩] 31)
  have nr1_r3 : w.heap.size ≠ V2.heap.size := Nat.ne_of_lt r1.lt
  have nr2_r3 : w.heap.size + 1 ≠ V2.heap.size := Nat.ne_of_lt r2.lt
  have wr3 : w.heap.size ≤ V2.heap.size := hc.size
  replace r1 := r1.on hn
  replace r2 := r2.on hn
  replace hc := chain hc hn
  clear hn
  generalize V2.alloc (.cells #[.int .i64 15, .int .i64 0, .int .i64 0, .int .i64 0, .int .i64 0, .string ⟨#[]⟩] 31) = V3 at r1 r2 r3 hc ⊢
  generalize V2.heap.size = b3 at *
  have yr1 := r1.cell
  have zr1 := r1.lt
  have yr2 := r2.cell
  have zr2 := r2.lt
  have yr3 := r3.cell
  have zr3 := r3.lt
  have ur3 := r3.free
  go_upto_region 4 with fail
  clear yr1 yr2 yr3 zr1 zr2 zr3 ur3
  refine wp_region_held_drew (S := fun W' => (∀ j, W'.cell? ⟨w.heap.size, j, none⟩ = (#[.int .u8 k, .int .u8 m, .int .u8 t, .int .u32 a, .int .u32 b, .int .u32 c] : Array Value)[j]?)) (by kernel_rfl) r1.cell (fun hHeld => ?_)
  replace r1 := r1.drew
  replace r2 := r2.drew
  replace r3 := r3.drew
  replace hc := hc.drew
  generalize V3.drew = X0 at *
  refine' wpAnyH_take (i := 0) (oi := _) (v := _) ?_ (by kernel_rfl) (by kernel_rfl) (by kernel_rfl) ?_ (Or.inl ⟨?_, ?_⟩) (by assumption) ?_
  rotate_left 2
  · (simp only [List.getElem?_toArray, List.getElem?_cons_succ, List.getElem?_cons_zero]; rfl)
  · first | exact fun _ _ _ h => h | exact fun _ _ _ h => nomatch h.1
  · rfl
  · (intro W hSW; (try dsimp only at hSW); go_split_ands; first | (go_simp; done) | (go_simp; with_reducible rfl))
  try simp only [Act.put, List.setIfInBounds_toArray, List.set_cons_zero, List.set_cons_succ]
  refine' wpAnyH_take (i := 1) (oi := _) (v := _) ?_ (by kernel_rfl) (by kernel_rfl) (by kernel_rfl) ?_ (Or.inl ⟨?_, ?_⟩) (by assumption) ?_
  rotate_left 2
  · (simp only [List.getElem?_toArray, List.getElem?_cons_succ, List.getElem?_cons_zero]; rfl)
  · first | exact fun _ _ _ h => h | exact fun _ _ _ h => nomatch h.1
  · rfl
  · (intro W hSW; (try dsimp only at hSW); go_split_ands; first | (go_simp; done) | (go_simp; with_reducible rfl))
  try simp only [Act.put, List.setIfInBounds_toArray, List.set_cons_zero, List.set_cons_succ]
  refine' wpAnyH_take (i := 2) (oi := _) (v := _) ?_ (by kernel_rfl) (by kernel_rfl) (by kernel_rfl) ?_ (Or.inl ⟨?_, ?_⟩) (by assumption) ?_
  rotate_left 2
  · (simp only [List.getElem?_toArray, List.getElem?_cons_succ, List.getElem?_cons_zero]; rfl)
  · first | exact fun _ _ _ h => h | exact fun _ _ _ h => nomatch h.1
  · rfl
  · (intro W hSW; (try dsimp only at hSW); go_split_ands; first | (go_simp; done) | (go_simp; with_reducible rfl))
  try simp only [Act.put, List.setIfInBounds_toArray, List.set_cons_zero, List.set_cons_succ]
  refine' wpAnyH_take (i := 3) (oi := _) (v := _) ?_ (by kernel_rfl) (by kernel_rfl) (by kernel_rfl) ?_ (Or.inl ⟨?_, ?_⟩) (by assumption) ?_
  rotate_left 2
  · (simp only [List.getElem?_toArray, List.getElem?_cons_succ, List.getElem?_cons_zero]; rfl)
  · first | exact fun _ _ _ h => h | exact fun _ _ _ h => nomatch h.1
  · rfl
  · (intro W hSW; (try dsimp only at hSW); go_split_ands; first | (go_simp; done) | (go_simp; with_reducible rfl))
  try simp only [Act.put, List.setIfInBounds_toArray, List.set_cons_zero, List.set_cons_succ]
  refine' wpAnyH_take (i := 4) (oi := _) (v := _) ?_ (by kernel_rfl) (by kernel_rfl) (by kernel_rfl) ?_ (Or.inl ⟨?_, ?_⟩) (by assumption) ?_
  rotate_left 2
  · (simp only [List.getElem?_toArray, List.getElem?_cons_succ, List.getElem?_cons_zero]; rfl)
  · first | exact fun _ _ _ h => h | exact fun _ _ _ h => nomatch h.1
  · rfl
  · (intro W hSW; (try dsimp only at hSW); go_split_ands; first | (go_simp; done) | (go_simp; with_reducible rfl))
  try simp only [Act.put, List.setIfInBounds_toArray, List.set_cons_zero, List.set_cons_succ]
  refine' wpAnyH_take (i := 5) (oi := _) (v := _) ?_ (by kernel_rfl) (by kernel_rfl) (by kernel_rfl) ?_ (Or.inl ⟨?_, ?_⟩) (by assumption) ?_
  rotate_left 2
  · (simp only [List.getElem?_toArray, List.getElem?_cons_succ, List.getElem?_cons_zero]; rfl)
  · first | exact fun _ _ _ h => h | exact fun _ _ _ h => nomatch h.1
  · rfl
  · (intro W hSW; (try dsimp only at hSW); go_split_ands; first | (go_simp; done) | (go_simp; with_reducible rfl))
  try simp only [Act.put, List.setIfInBounds_toArray, List.set_cons_zero, List.set_cons_succ]
  refine' wpAnyH_take (i := 6) (oi := _) (v := _) ?_ (by kernel_rfl) (by kernel_rfl) (by kernel_rfl) ?_ (Or.inl ⟨?_, ?_⟩) (by assumption) ?_
  rotate_left 2
  · (simp only [List.getElem?_toArray, List.getElem?_cons_succ, List.getElem?_cons_zero]; rfl)
  · first | exact fun _ _ _ h => h | exact fun _ _ _ h => nomatch h.1
  · rfl
  · (intro W hSW; (try dsimp only at hSW); go_split_ands; first | (go_simp; done) | (go_simp; with_reducible rfl))
  try simp only [Act.put, List.setIfInBounds_toArray, List.set_cons_zero, List.set_cons_succ]
  refine' wpAnyH_take (i := 7) (oi := _) (v := _) ?_ (by kernel_rfl) (by kernel_rfl) (by kernel_rfl) ?_ (Or.inl ⟨?_, ?_⟩) (by assumption) ?_
  rotate_left 2
  · (simp only [List.getElem?_toArray, List.getElem?_cons_succ, List.getElem?_cons_zero]; rfl)
  · first | exact fun _ _ _ h => h | exact fun _ _ _ h => nomatch h.1
  · rfl
  · (intro W hSW; (try dsimp only at hSW); go_split_ands; first | (go_simp; done) | (go_simp; with_reducible rfl))
  try simp only [Act.put, List.setIfInBounds_toArray, List.set_cons_zero, List.set_cons_succ]
  clear hHeld
  refine wpAnyH_done (by kernel_rfl) ?_ _
  have yr1 := r1.cell
  have zr1 := r1.lt
  have yr2 := r2.cell
  have zr2 := r2.lt
  have yr3 := r3.cell
  have zr3 := r3.lt
  have ur3 := r3.free
  go_upto_region 32 with fail
  clear yr1 yr2 yr3 zr1 zr2 zr3 ur3
  replace r1 := (r1.other nr1_r3.symm 2 (.int .i64 (1 + (a % 1048576))))
  replace r2 := (r2.other nr2_r3.symm 2 (.int .i64 (1 + (a % 1048576))))
  replace r3 := (r3.set 2 (.int .i64 (1 + (a % 1048576))))
  simp only [List.setIfInBounds_toArray, List.set_cons_zero, List.set_cons_succ] at r3
  replace hc := (hc.setCell (p := ⟨b3, 2, none⟩) wr3 (.int .i64 (1 + (a % 1048576))))
  generalize hW : World.setCell _ _ _ = V4 at *
  clear hW
  have yr1 := r1.cell
  have zr1 := r1.lt
  have yr2 := r2.cell
  have zr2 := r2.lt
  have yr3 := r3.cell
  have zr3 := r3.lt
  have ur2 := r2.free
  go_wp2_with fail
  clear yr1 yr2 yr3 zr1 zr2 zr3 ur2
  replace r2 := r2.set 0 (.int .i64 15)
  replace r2 := r2.set 1 (.int .i64 0)
  replace r2 := r2.set 2 (.int .i64 (1 + (a % 1048576)))
  replace r2 := r2.set 3 (.int .i64 0)
  replace r2 := r2.set 4 (.int .i64 0)
  replace r2 := r2.set 5 (.string ⟨#[]⟩)
  replace hc := hc.setCell (p := ⟨w.heap.size + 1, 0, none⟩) wr2 (.int .i64 15)
  replace hc := hc.setCell (p := ⟨w.heap.size + 1, 1, none⟩) wr2 (.int .i64 0)
  replace hc := hc.setCell (p := ⟨w.heap.size + 1, 2, none⟩) wr2 (.int .i64 (1 + (a % 1048576)))
  replace hc := hc.setCell (p := ⟨w.heap.size + 1, 3, none⟩) wr2 (.int .i64 0)
  replace hc := hc.setCell (p := ⟨w.heap.size + 1, 4, none⟩) wr2 (.int .i64 0)
  replace hc := hc.setCell (p := ⟨w.heap.size + 1, 5, none⟩) wr2 (.string ⟨#[]⟩)
  simp only [List.setIfInBounds_toArray, List.set_cons_zero, List.set_cons_succ] at r2
  generalize hW : World.setCell _ _ _ = Z9 at *
  clear hW
  have z9 := r2.cell
  refine bodyPost_ret (v := opRV (15, ⟨0, (1 + (a % 1048576)), 0, 0, ⟨#[]⟩⟩)) (by simp [results, Tryz.results9, go_sem, z9]) rfl ⟨⟨_, rfl, ?_⟩, hc⟩
  unfold okR
  rw [opOk_iff]
  simp (decide := true) only [mHi, aLo, aHi, bLo, bHi, cLo, cHi, tgOk]
  simp; omega
theorem made_16 (k m t a b c : Int) (w : World) (hk : k % 17 = 15) (k0 : 0 ≤ k) (k1 : k ≤ 255) (m0 : 0 ≤ m) (m1 : m ≤ 255) (t0 : 0 ≤ t) (t1 : t ≤ 255) (a0 : 0 ≤ a) (a1 : a ≤ 4294967295) (b0 : 0 ≤ b) (b1 : b ≤ 4294967295) (c0 : 0 ≤ c) (c1 : c ≤ 4294967295) :
    Calls Tryz.prog 9 #[.agg #[.int .u8 k, .int .u8 m, .int .u8 t, .int .u32 a, .int .u32 b, .int .u32 c]] w (MadeP w) := by
  have hc := Below.refl w.heap.size w
  have q1 : IntKind.i64.wrap k = k := IntWalk.i64_in _ ⟨by omega, by omega⟩
  have q2 : IntKind.i64.wrap m = m := IntWalk.i64_in _ ⟨by omega, by omega⟩
  have q3 : IntKind.i64.wrap a = a := IntWalk.i64_in _ ⟨by omega, by omega⟩
  have q4 : IntKind.i64.wrap b = b := IntWalk.i64_in _ ⟨by omega, by omega⟩
  have q5 : IntKind.i64.wrap c = c := IntWalk.i64_in _ ⟨by omega, by omega⟩
  have q6 : IntKind.i64.wrap t = t := IntWalk.i64_in _ ⟨by omega, by omega⟩
  go_enter Tryz.func9, Tryz.ntmps9
  go_upto_region 1 with fail
  have r1 := Row.new (W := w) (cs := #[.int .u8 k, .int .u8 m, .int .u8 t, .int .u32 a, .int .u32 b, .int .u32 c]) (t := 24)
  have hn := below_alloc w (.cells #[.int .u8 k, .int .u8 m, .int .u8 t, .int .u32 a, .int .u32 b, .int .u32 c] 24)
  replace hc := chain hc hn
  have hz1 : (w.alloc (.cells #[.int .u8 k, .int .u8 m, .int .u8 t, .int .u32 a, .int .u32 b, .int .u32 c] 24)).heap.size = w.heap.size + 1 := by simp
  clear hn
  generalize w.alloc (.cells #[.int .u8 k, .int .u8 m, .int .u8 t, .int .u32 a, .int .u32 b, .int .u32 c] 24) = V1 at r1 hc hz1 ⊢
  have r2 := Row.new (W := V1) (cs := #[.int .i64 0, .int .i64 0, .int .i64 0, .int .i64 0, .int .i64 0, .string ⟨#[]⟩]) (t := 31)
  have hn := below_alloc V1 (.cells #[.int .i64 0, .int .i64 0, .int .i64 0, .int .i64 0, .int .i64 0, .string ⟨#[]⟩] 31)
  replace r1 := r1.on hn
  replace hc := chain hc hn
  rw [hz1] at r2
  clear hn hz1
  generalize V1.alloc (.cells #[.int .i64 0, .int .i64 0, .int .i64 0, .int .i64 0, .int .i64 0, .string ⟨#[]⟩] 31) = V2 at r1 r2 hc ⊢
  have nr1_r2 : w.heap.size ≠ w.heap.size + 1 := by omega
  have wr2 : w.heap.size ≤ w.heap.size + 1 := by omega
  have wr1 : w.heap.size ≤ w.heap.size := Nat.le_refl _
  have yr1 := r1.cell
  have zr1 := r1.lt
  have yr2 := r2.cell
  have zr2 := r2.lt
  go_upto_region 2 with fail
  clear yr1 yr2 zr1 zr2
  have r3 := Row.new (W := V2) (cs := #[.int .i64 16, .int .i64 0, .int .i64 0, .int .i64 0, .int .i64 0, .string ⟨#[]⟩]) (t := 31)
  have hn := below_alloc V2 (.cells #[.int .i64 16, .int .i64 0, .int .i64 0, .int .i64 0, .int .i64 0, .string ⟨#[]⟩] 31)
  have nr1_r3 : w.heap.size ≠ V2.heap.size := Nat.ne_of_lt r1.lt
  have nr2_r3 : w.heap.size + 1 ≠ V2.heap.size := Nat.ne_of_lt r2.lt
  have wr3 : w.heap.size ≤ V2.heap.size := hc.size
  replace r1 := r1.on hn
  replace r2 := r2.on hn
  replace hc := chain hc hn
  clear hn
  generalize V2.alloc (.cells #[.int .i64 16, .int .i64 0, .int .i64 0, .int .i64 0, .int .i64 0, .string ⟨#[]⟩] 31) = V3 at r1 r2 r3 hc ⊢
  generalize V2.heap.size = b3 at *
  have yr1 := r1.cell
  have zr1 := r1.lt
  have yr2 := r2.cell
  have zr2 := r2.lt
  have yr3 := r3.cell
  have zr3 := r3.lt
  have ur3 := r3.free
  go_upto_region 4 with fail
  clear yr1 yr2 yr3 zr1 zr2 zr3 ur3
  refine wp_region_held_drew (S := fun W' => (∀ j, W'.cell? ⟨w.heap.size, j, none⟩ = (#[.int .u8 k, .int .u8 m, .int .u8 t, .int .u32 a, .int .u32 b, .int .u32 c] : Array Value)[j]?)) (by kernel_rfl) r1.cell (fun hHeld => ?_)
  replace r1 := r1.drew
  replace r2 := r2.drew
  replace r3 := r3.drew
  replace hc := hc.drew
  generalize V3.drew = X0 at *
  refine' wpAnyH_take (i := 0) (oi := _) (v := _) ?_ (by kernel_rfl) (by kernel_rfl) (by kernel_rfl) ?_ (Or.inl ⟨?_, ?_⟩) (by assumption) ?_
  rotate_left 2
  · (simp only [List.getElem?_toArray, List.getElem?_cons_succ, List.getElem?_cons_zero]; rfl)
  · first | exact fun _ _ _ h => h | exact fun _ _ _ h => nomatch h.1
  · rfl
  · (intro W hSW; (try dsimp only at hSW); go_split_ands; first | (go_simp; done) | (go_simp; with_reducible rfl))
  try simp only [Act.put, List.setIfInBounds_toArray, List.set_cons_zero, List.set_cons_succ]
  refine' wpAnyH_take (i := 1) (oi := _) (v := _) ?_ (by kernel_rfl) (by kernel_rfl) (by kernel_rfl) ?_ (Or.inl ⟨?_, ?_⟩) (by assumption) ?_
  rotate_left 2
  · (simp only [List.getElem?_toArray, List.getElem?_cons_succ, List.getElem?_cons_zero]; rfl)
  · first | exact fun _ _ _ h => h | exact fun _ _ _ h => nomatch h.1
  · rfl
  · (intro W hSW; (try dsimp only at hSW); go_split_ands; first | (go_simp; done) | (go_simp; with_reducible rfl))
  try simp only [Act.put, List.setIfInBounds_toArray, List.set_cons_zero, List.set_cons_succ]
  refine' wpAnyH_take (i := 2) (oi := _) (v := _) ?_ (by kernel_rfl) (by kernel_rfl) (by kernel_rfl) ?_ (Or.inl ⟨?_, ?_⟩) (by assumption) ?_
  rotate_left 2
  · (simp only [List.getElem?_toArray, List.getElem?_cons_succ, List.getElem?_cons_zero]; rfl)
  · first | exact fun _ _ _ h => h | exact fun _ _ _ h => nomatch h.1
  · rfl
  · (intro W hSW; (try dsimp only at hSW); go_split_ands; first | (go_simp; done) | (go_simp; with_reducible rfl))
  try simp only [Act.put, List.setIfInBounds_toArray, List.set_cons_zero, List.set_cons_succ]
  refine' wpAnyH_take (i := 3) (oi := _) (v := _) ?_ (by kernel_rfl) (by kernel_rfl) (by kernel_rfl) ?_ (Or.inl ⟨?_, ?_⟩) (by assumption) ?_
  rotate_left 2
  · (simp only [List.getElem?_toArray, List.getElem?_cons_succ, List.getElem?_cons_zero]; rfl)
  · first | exact fun _ _ _ h => h | exact fun _ _ _ h => nomatch h.1
  · rfl
  · (intro W hSW; (try dsimp only at hSW); go_split_ands; first | (go_simp; done) | (go_simp; with_reducible rfl))
  try simp only [Act.put, List.setIfInBounds_toArray, List.set_cons_zero, List.set_cons_succ]
  refine' wpAnyH_take (i := 4) (oi := _) (v := _) ?_ (by kernel_rfl) (by kernel_rfl) (by kernel_rfl) ?_ (Or.inl ⟨?_, ?_⟩) (by assumption) ?_
  rotate_left 2
  · (simp only [List.getElem?_toArray, List.getElem?_cons_succ, List.getElem?_cons_zero]; rfl)
  · first | exact fun _ _ _ h => h | exact fun _ _ _ h => nomatch h.1
  · rfl
  · (intro W hSW; (try dsimp only at hSW); go_split_ands; first | (go_simp; done) | (go_simp; with_reducible rfl))
  try simp only [Act.put, List.setIfInBounds_toArray, List.set_cons_zero, List.set_cons_succ]
  refine' wpAnyH_take (i := 5) (oi := _) (v := _) ?_ (by kernel_rfl) (by kernel_rfl) (by kernel_rfl) ?_ (Or.inl ⟨?_, ?_⟩) (by assumption) ?_
  rotate_left 2
  · (simp only [List.getElem?_toArray, List.getElem?_cons_succ, List.getElem?_cons_zero]; rfl)
  · first | exact fun _ _ _ h => h | exact fun _ _ _ h => nomatch h.1
  · rfl
  · (intro W hSW; (try dsimp only at hSW); go_split_ands; first | (go_simp; done) | (go_simp; with_reducible rfl))
  try simp only [Act.put, List.setIfInBounds_toArray, List.set_cons_zero, List.set_cons_succ]
  refine' wpAnyH_take (i := 6) (oi := _) (v := _) ?_ (by kernel_rfl) (by kernel_rfl) (by kernel_rfl) ?_ (Or.inl ⟨?_, ?_⟩) (by assumption) ?_
  rotate_left 2
  · (simp only [List.getElem?_toArray, List.getElem?_cons_succ, List.getElem?_cons_zero]; rfl)
  · first | exact fun _ _ _ h => h | exact fun _ _ _ h => nomatch h.1
  · rfl
  · (intro W hSW; (try dsimp only at hSW); go_split_ands; first | (go_simp; done) | (go_simp; with_reducible rfl))
  try simp only [Act.put, List.setIfInBounds_toArray, List.set_cons_zero, List.set_cons_succ]
  refine' wpAnyH_take (i := 7) (oi := _) (v := _) ?_ (by kernel_rfl) (by kernel_rfl) (by kernel_rfl) ?_ (Or.inl ⟨?_, ?_⟩) (by assumption) ?_
  rotate_left 2
  · (simp only [List.getElem?_toArray, List.getElem?_cons_succ, List.getElem?_cons_zero]; rfl)
  · first | exact fun _ _ _ h => h | exact fun _ _ _ h => nomatch h.1
  · rfl
  · (intro W hSW; (try dsimp only at hSW); go_split_ands; first | (go_simp; done) | (go_simp; with_reducible rfl))
  try simp only [Act.put, List.setIfInBounds_toArray, List.set_cons_zero, List.set_cons_succ]
  clear hHeld
  refine wpAnyH_done (by kernel_rfl) ?_ _
  have yr1 := r1.cell
  have zr1 := r1.lt
  have yr2 := r2.cell
  have zr2 := r2.lt
  have yr3 := r3.cell
  have zr3 := r3.lt
  have ur2 := r2.free
  go_wp2_with fail
  clear yr1 yr2 yr3 zr1 zr2 zr3 ur2
  replace r2 := r2.set 0 (.int .i64 16)
  replace r2 := r2.set 1 (.int .i64 0)
  replace r2 := r2.set 2 (.int .i64 0)
  replace r2 := r2.set 3 (.int .i64 0)
  replace r2 := r2.set 4 (.int .i64 0)
  replace r2 := r2.set 5 (.string ⟨#[]⟩)
  replace hc := hc.setCell (p := ⟨w.heap.size + 1, 0, none⟩) wr2 (.int .i64 16)
  replace hc := hc.setCell (p := ⟨w.heap.size + 1, 1, none⟩) wr2 (.int .i64 0)
  replace hc := hc.setCell (p := ⟨w.heap.size + 1, 2, none⟩) wr2 (.int .i64 0)
  replace hc := hc.setCell (p := ⟨w.heap.size + 1, 3, none⟩) wr2 (.int .i64 0)
  replace hc := hc.setCell (p := ⟨w.heap.size + 1, 4, none⟩) wr2 (.int .i64 0)
  replace hc := hc.setCell (p := ⟨w.heap.size + 1, 5, none⟩) wr2 (.string ⟨#[]⟩)
  simp only [List.setIfInBounds_toArray, List.set_cons_zero, List.set_cons_succ] at r2
  generalize hW : World.setCell _ _ _ = Z9 at *
  clear hW
  have z9 := r2.cell
  refine bodyPost_ret (v := opRV (16, ⟨0, 0, 0, 0, ⟨#[]⟩⟩)) (by simp [results, Tryz.results9, go_sem, z9]) rfl ⟨⟨_, rfl, ?_⟩, hc⟩
  unfold okR
  rw [opOk_iff]
  simp (decide := true) only [mHi, aLo, aHi, bLo, bHi, cLo, cHi, tgOk]
  all_goals simp
theorem made_17 (k m t a b c : Int) (w : World) (hk : k % 17 = 16) (k0 : 0 ≤ k) (k1 : k ≤ 255) (m0 : 0 ≤ m) (m1 : m ≤ 255) (t0 : 0 ≤ t) (t1 : t ≤ 255) (a0 : 0 ≤ a) (a1 : a ≤ 4294967295) (b0 : 0 ≤ b) (b1 : b ≤ 4294967295) (c0 : 0 ≤ c) (c1 : c ≤ 4294967295) :
    Calls Tryz.prog 9 #[.agg #[.int .u8 k, .int .u8 m, .int .u8 t, .int .u32 a, .int .u32 b, .int .u32 c]] w (MadeP w) := by
  obtain ⟨n, hn⟩ : ∃ n : Nat, 1 + t % 33 = n := ⟨(1 + t % 33).toNat, by omega⟩
  have xn : wrap64 (n : Int) = n := w64 _ (by omega) (by omega)
  have hn1 : 1 ≤ n ∧ n ≤ 33 := by omega
  obtain ⟨tg, htg⟩ : ∃ tg, tg = (⟨(Lib.repeatL [111, 108, 102] n).toArray⟩ : ByteArray) := ⟨_, rfl⟩
  have crep := fun W => rep_olf n hn1.2 W
  rw [← htg] at crep
  have CREP := Lib.hid crep
  have HTG := Lib.hid htg
  clear crep htg
  have hc := Below.refl w.heap.size w
  have q1 : IntKind.i64.wrap k = k := IntWalk.i64_in _ ⟨by omega, by omega⟩
  have q2 : IntKind.i64.wrap m = m := IntWalk.i64_in _ ⟨by omega, by omega⟩
  have q3 : IntKind.i64.wrap a = a := IntWalk.i64_in _ ⟨by omega, by omega⟩
  have q4 : IntKind.i64.wrap b = b := IntWalk.i64_in _ ⟨by omega, by omega⟩
  have q5 : IntKind.i64.wrap c = c := IntWalk.i64_in _ ⟨by omega, by omega⟩
  have q6 : IntKind.i64.wrap t = t := IntWalk.i64_in _ ⟨by omega, by omega⟩
  go_enter Tryz.func9, Tryz.ntmps9
  go_upto_region 1 with fail
  have r1 := Row.new (W := w) (cs := #[.int .u8 k, .int .u8 m, .int .u8 t, .int .u32 a, .int .u32 b, .int .u32 c]) (t := 24)
  have hn := below_alloc w (.cells #[.int .u8 k, .int .u8 m, .int .u8 t, .int .u32 a, .int .u32 b, .int .u32 c] 24)
  replace hc := chain hc hn
  have hz1 : (w.alloc (.cells #[.int .u8 k, .int .u8 m, .int .u8 t, .int .u32 a, .int .u32 b, .int .u32 c] 24)).heap.size = w.heap.size + 1 := by simp
  clear hn
  generalize w.alloc (.cells #[.int .u8 k, .int .u8 m, .int .u8 t, .int .u32 a, .int .u32 b, .int .u32 c] 24) = V1 at r1 hc hz1 ⊢
  have r2 := Row.new (W := V1) (cs := #[.int .i64 0, .int .i64 0, .int .i64 0, .int .i64 0, .int .i64 0, .string ⟨#[]⟩]) (t := 31)
  have hn := below_alloc V1 (.cells #[.int .i64 0, .int .i64 0, .int .i64 0, .int .i64 0, .int .i64 0, .string ⟨#[]⟩] 31)
  replace r1 := r1.on hn
  replace hc := chain hc hn
  rw [hz1] at r2
  clear hn hz1
  generalize V1.alloc (.cells #[.int .i64 0, .int .i64 0, .int .i64 0, .int .i64 0, .int .i64 0, .string ⟨#[]⟩] 31) = V2 at r1 r2 hc ⊢
  have nr1_r2 : w.heap.size ≠ w.heap.size + 1 := by omega
  have wr2 : w.heap.size ≤ w.heap.size + 1 := by omega
  have wr1 : w.heap.size ≤ w.heap.size := Nat.le_refl _
  have yr1 := r1.cell
  have zr1 := r1.lt
  have yr2 := r2.cell
  have zr2 := r2.lt
  go_upto_region 2 with fail
  clear yr1 yr2 zr1 zr2
  have r3 := Row.new (W := V2) (cs := #[.int .i64 17, .int .i64 0, .int .i64 0, .int .i64 0, .int .i64 0, .string ⟨#[]⟩]) (t := 31)
  have hn := below_alloc V2 (.cells #[.int .i64 17, .int .i64 0, .int .i64 0, .int .i64 0, .int .i64 0, .string ⟨#[]⟩] 31)
  have nr1_r3 : w.heap.size ≠ V2.heap.size := Nat.ne_of_lt r1.lt
  have nr2_r3 : w.heap.size + 1 ≠ V2.heap.size := Nat.ne_of_lt r2.lt
  have wr3 : w.heap.size ≤ V2.heap.size := hc.size
  replace r1 := r1.on hn
  replace r2 := r2.on hn
  replace hc := chain hc hn
  clear hn
  generalize V2.alloc (.cells #[.int .i64 17, .int .i64 0, .int .i64 0, .int .i64 0, .int .i64 0, .string ⟨#[]⟩] 31) = V3 at r1 r2 r3 hc ⊢
  generalize V2.heap.size = b3 at *
  have yr1 := r1.cell
  have zr1 := r1.lt
  have yr2 := r2.cell
  have zr2 := r2.lt
  have yr3 := r3.cell
  have zr3 := r3.lt
  have ur3 := r3.free
  go_upto_region 4 with fail
  clear yr1 yr2 yr3 zr1 zr2 zr3 ur3
  refine wp_region_held_drew (S := fun W' => (∀ j, W'.cell? ⟨w.heap.size, j, none⟩ = (#[.int .u8 k, .int .u8 m, .int .u8 t, .int .u32 a, .int .u32 b, .int .u32 c] : Array Value)[j]?)) (by kernel_rfl) r1.cell (fun hHeld => ?_)
  replace r1 := r1.drew
  replace r2 := r2.drew
  replace r3 := r3.drew
  replace hc := hc.drew
  generalize V3.drew = X0 at *
  refine' wpAnyH_take (i := 0) (oi := _) (v := _) ?_ (by kernel_rfl) (by kernel_rfl) (by kernel_rfl) ?_ (Or.inl ⟨?_, ?_⟩) (by assumption) ?_
  rotate_left 2
  · (simp only [List.getElem?_toArray, List.getElem?_cons_succ, List.getElem?_cons_zero]; rfl)
  · first | exact fun _ _ _ h => h | exact fun _ _ _ h => nomatch h.1
  · rfl
  · (intro W hSW; (try dsimp only at hSW); go_split_ands; first | (go_simp; done) | (go_simp; with_reducible rfl))
  try simp only [Act.put, List.setIfInBounds_toArray, List.set_cons_zero, List.set_cons_succ]
  refine' wpAnyH_take (i := 1) (oi := _) (v := _) ?_ (by kernel_rfl) (by kernel_rfl) (by kernel_rfl) ?_ (Or.inl ⟨?_, ?_⟩) (by assumption) ?_
  rotate_left 2
  · (simp only [List.getElem?_toArray, List.getElem?_cons_succ, List.getElem?_cons_zero]; rfl)
  · first | exact fun _ _ _ h => h | exact fun _ _ _ h => nomatch h.1
  · rfl
  · (intro W hSW; (try dsimp only at hSW); go_split_ands; first | (go_simp; done) | (go_simp; with_reducible rfl))
  try simp only [Act.put, List.setIfInBounds_toArray, List.set_cons_zero, List.set_cons_succ]
  refine' wpAnyH_take (i := 2) (oi := _) (v := _) ?_ (by kernel_rfl) (by kernel_rfl) (by kernel_rfl) ?_ (Or.inl ⟨?_, ?_⟩) (by assumption) ?_
  rotate_left 2
  · (simp only [List.getElem?_toArray, List.getElem?_cons_succ, List.getElem?_cons_zero]; rfl)
  · first | exact fun _ _ _ h => h | exact fun _ _ _ h => nomatch h.1
  · rfl
  · (intro W hSW; (try dsimp only at hSW); go_split_ands; first | (go_simp; done) | (go_simp; with_reducible rfl))
  try simp only [Act.put, List.setIfInBounds_toArray, List.set_cons_zero, List.set_cons_succ]
  refine' wpAnyH_take (i := 3) (oi := _) (v := _) ?_ (by kernel_rfl) (by kernel_rfl) (by kernel_rfl) ?_ (Or.inl ⟨?_, ?_⟩) (by assumption) ?_
  rotate_left 2
  · (simp only [List.getElem?_toArray, List.getElem?_cons_succ, List.getElem?_cons_zero]; rfl)
  · first | exact fun _ _ _ h => h | exact fun _ _ _ h => nomatch h.1
  · rfl
  · (intro W hSW; (try dsimp only at hSW); go_split_ands; first | (go_simp; done) | (go_simp; with_reducible rfl))
  try simp only [Act.put, List.setIfInBounds_toArray, List.set_cons_zero, List.set_cons_succ]
  refine' wpAnyH_take (i := 4) (oi := _) (v := _) ?_ (by kernel_rfl) (by kernel_rfl) (by kernel_rfl) ?_ (Or.inl ⟨?_, ?_⟩) (by assumption) ?_
  rotate_left 2
  · (simp only [List.getElem?_toArray, List.getElem?_cons_succ, List.getElem?_cons_zero]; rfl)
  · first | exact fun _ _ _ h => h | exact fun _ _ _ h => nomatch h.1
  · rfl
  · (intro W hSW; (try dsimp only at hSW); go_split_ands; first | (go_simp; done) | (go_simp; with_reducible rfl))
  try simp only [Act.put, List.setIfInBounds_toArray, List.set_cons_zero, List.set_cons_succ]
  refine' wpAnyH_take (i := 5) (oi := _) (v := _) ?_ (by kernel_rfl) (by kernel_rfl) (by kernel_rfl) ?_ (Or.inl ⟨?_, ?_⟩) (by assumption) ?_
  rotate_left 2
  · (simp only [List.getElem?_toArray, List.getElem?_cons_succ, List.getElem?_cons_zero]; rfl)
  · first | exact fun _ _ _ h => h | exact fun _ _ _ h => nomatch h.1
  · rfl
  · (intro W hSW; (try dsimp only at hSW); go_split_ands; first | (go_simp; done) | (go_simp; with_reducible rfl))
  try simp only [Act.put, List.setIfInBounds_toArray, List.set_cons_zero, List.set_cons_succ]
  refine' wpAnyH_take (i := 6) (oi := _) (v := _) ?_ (by kernel_rfl) (by kernel_rfl) (by kernel_rfl) ?_ (Or.inl ⟨?_, ?_⟩) (by assumption) ?_
  rotate_left 2
  · (simp only [List.getElem?_toArray, List.getElem?_cons_succ, List.getElem?_cons_zero]; rfl)
  · first | exact fun _ _ _ h => h | exact fun _ _ _ h => nomatch h.1
  · rfl
  · (intro W hSW; (try dsimp only at hSW); go_split_ands; first | (go_simp; done) | (go_simp; with_reducible rfl))
  try simp only [Act.put, List.setIfInBounds_toArray, List.set_cons_zero, List.set_cons_succ]
  refine' wpAnyH_take (i := 7) (oi := _) (v := _) ?_ (by kernel_rfl) (by kernel_rfl) (by kernel_rfl) ?_ (Or.inl ⟨?_, ?_⟩) (by assumption) ?_
  rotate_left 2
  · (simp only [List.getElem?_toArray, List.getElem?_cons_succ, List.getElem?_cons_zero]; rfl)
  · first | exact fun _ _ _ h => h | exact fun _ _ _ h => nomatch h.1
  · rfl
  · (intro W hSW; (try dsimp only at hSW); go_split_ands; first | (go_simp; done) | (go_simp; with_reducible rfl))
  try simp only [Act.put, List.setIfInBounds_toArray, List.set_cons_zero, List.set_cons_succ]
  clear hHeld
  refine wpAnyH_done (by kernel_rfl) ?_ _
  have yr1 := r1.cell
  have zr1 := r1.lt
  have yr2 := r2.cell
  have zr2 := r2.lt
  have yr3 := r3.cell
  have zr3 := r3.lt
  go_wp2_with fail
  refine Calls.mono (CREP.out _) ?_
  rintro e V4 ⟨rfl, hn⟩
  clear yr1 yr2 yr3 zr1 zr2 zr3
  replace r1 := r1.on hn
  replace r2 := r2.on hn
  replace r3 := r3.on hn
  replace hc := chain hc hn
  clear hn
  have yr1 := r1.cell
  have zr1 := r1.lt
  have yr2 := r2.cell
  have zr2 := r2.lt
  have yr3 := r3.cell
  have zr3 := r3.lt
  have ur3 := r3.free
  go_upto_region 32 with fail
  clear yr1 yr2 yr3 zr1 zr2 zr3 ur3
  replace r1 := (r1.other nr1_r3.symm 5 (.string tg))
  replace r2 := (r2.other nr2_r3.symm 5 (.string tg))
  replace r3 := (r3.set 5 (.string tg))
  simp only [List.setIfInBounds_toArray, List.set_cons_zero, List.set_cons_succ] at r3
  replace hc := (hc.setCell (p := ⟨b3, 5, none⟩) wr3 (.string tg))
  generalize hW : World.setCell _ _ _ = V5 at *
  clear hW
  have yr1 := r1.cell
  have zr1 := r1.lt
  have yr2 := r2.cell
  have zr2 := r2.lt
  have yr3 := r3.cell
  have zr3 := r3.lt
  have ur2 := r2.free
  go_wp2_with fail
  clear yr1 yr2 yr3 zr1 zr2 zr3 ur2
  replace r2 := r2.set 0 (.int .i64 17)
  replace r2 := r2.set 1 (.int .i64 0)
  replace r2 := r2.set 2 (.int .i64 0)
  replace r2 := r2.set 3 (.int .i64 0)
  replace r2 := r2.set 4 (.int .i64 0)
  replace r2 := r2.set 5 (.string tg)
  replace hc := hc.setCell (p := ⟨w.heap.size + 1, 0, none⟩) wr2 (.int .i64 17)
  replace hc := hc.setCell (p := ⟨w.heap.size + 1, 1, none⟩) wr2 (.int .i64 0)
  replace hc := hc.setCell (p := ⟨w.heap.size + 1, 2, none⟩) wr2 (.int .i64 0)
  replace hc := hc.setCell (p := ⟨w.heap.size + 1, 3, none⟩) wr2 (.int .i64 0)
  replace hc := hc.setCell (p := ⟨w.heap.size + 1, 4, none⟩) wr2 (.int .i64 0)
  replace hc := hc.setCell (p := ⟨w.heap.size + 1, 5, none⟩) wr2 (.string tg)
  simp only [List.setIfInBounds_toArray, List.set_cons_zero, List.set_cons_succ] at r2
  generalize hW : World.setCell _ _ _ = Z9 at *
  clear hW
  have z9 := r2.cell
  refine bodyPost_ret (v := opRV (17, ⟨0, 0, 0, 0, tg⟩)) (by simp [results, Tryz.results9, go_sem, z9]) rfl ⟨⟨_, rfl, ?_⟩, hc⟩
  unfold okR
  rw [opOk_iff]
  simp (decide := true) only [mHi, aLo, aHi, bLo, bHi, cLo, cHi, tgOk]
  simp [HTG.out, ans_rep n hn1.1 hn1.2]
theorem made_c (k m t a b c : Int) (w : World) (k0 : 0 ≤ k) (k1 : k ≤ 255) (m0 : 0 ≤ m) (m1 : m ≤ 255) (t0 : 0 ≤ t) (t1 : t ≤ 255) (a0 : 0 ≤ a) (a1 : a ≤ 4294967295) (b0 : 0 ≤ b) (b1 : b ≤ 4294967295) (c0 : 0 ≤ c) (c1 : c ≤ 4294967295) :
    Calls Tryz.prog 9 #[.agg #[.int .u8 k, .int .u8 m, .int .u8 t, .int .u32 a, .int .u32 b, .int .u32 c]] w (MadeP w) := by
  rcases (by omega : k % 17 = 0 ∨ k % 17 = 1 ∨ k % 17 = 2 ∨ k % 17 = 3 ∨ k % 17 = 4 ∨ k % 17 = 5 ∨ k % 17 = 6 ∨ k % 17 = 7 ∨ k % 17 = 8 ∨ k % 17 = 9 ∨ k % 17 = 10 ∨ k % 17 = 11 ∨ k % 17 = 12 ∨ k % 17 = 13 ∨ k % 17 = 14 ∨ k % 17 = 15 ∨ k % 17 = 16) with h | h | h | h | h | h | h | h | h | h | h | h | h | h | h | h | h
  · exact made_1 k m t a b c w h k0 k1 m0 m1 t0 t1 a0 a1 b0 b1 c0 c1
  · exact made_2 k m t a b c w h k0 k1 m0 m1 t0 t1 a0 a1 b0 b1 c0 c1
  · exact made_3 k m t a b c w h k0 k1 m0 m1 t0 t1 a0 a1 b0 b1 c0 c1
  · exact made_4 k m t a b c w h k0 k1 m0 m1 t0 t1 a0 a1 b0 b1 c0 c1
  · exact made_5 k m t a b c w h k0 k1 m0 m1 t0 t1 a0 a1 b0 b1 c0 c1
  · exact made_6 k m t a b c w h k0 k1 m0 m1 t0 t1 a0 a1 b0 b1 c0 c1
  · exact made_7 k m t a b c w h k0 k1 m0 m1 t0 t1 a0 a1 b0 b1 c0 c1
  · rcases (by omega : t % 6 = 0 ∨ t % 6 = 1 ∨ t % 6 = 2 ∨ t % 6 = 3 ∨ t % 6 = 4 ∨ t % 6 = 5) with ht | ht | ht | ht | ht | ht
    · exact made_8_0 k m t a b c w h ht k0 k1 m0 m1 t0 t1 a0 a1 b0 b1 c0 c1
    · exact made_8_1 k m t a b c w h ht k0 k1 m0 m1 t0 t1 a0 a1 b0 b1 c0 c1
    · exact made_8_2 k m t a b c w h ht k0 k1 m0 m1 t0 t1 a0 a1 b0 b1 c0 c1
    · exact made_8_3 k m t a b c w h ht k0 k1 m0 m1 t0 t1 a0 a1 b0 b1 c0 c1
    · exact made_8_4 k m t a b c w h ht k0 k1 m0 m1 t0 t1 a0 a1 b0 b1 c0 c1
    · exact made_8_5 k m t a b c w h ht k0 k1 m0 m1 t0 t1 a0 a1 b0 b1 c0 c1
  · exact made_9 k m t a b c w h k0 k1 m0 m1 t0 t1 a0 a1 b0 b1 c0 c1
  · exact made_10 k m t a b c w h k0 k1 m0 m1 t0 t1 a0 a1 b0 b1 c0 c1
  · exact made_11 k m t a b c w h k0 k1 m0 m1 t0 t1 a0 a1 b0 b1 c0 c1
  · exact made_12 k m t a b c w h k0 k1 m0 m1 t0 t1 a0 a1 b0 b1 c0 c1
  · exact made_13 k m t a b c w h k0 k1 m0 m1 t0 t1 a0 a1 b0 b1 c0 c1
  · exact made_14 k m t a b c w h k0 k1 m0 m1 t0 t1 a0 a1 b0 b1 c0 c1
  · exact made_15 k m t a b c w h k0 k1 m0 m1 t0 t1 a0 a1 b0 b1 c0 c1
  · exact made_16 k m t a b c w h k0 k1 m0 m1 t0 t1 a0 a1 b0 b1 c0 c1
  · exact made_17 k m t a b c w h k0 k1 m0 m1 t0 t1 a0 a1 b0 b1 c0 c1
end Go.Proofs.YtbbleafcflhmiaaGreatDoor
