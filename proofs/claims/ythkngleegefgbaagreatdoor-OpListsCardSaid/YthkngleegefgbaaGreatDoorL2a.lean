/- The program's Check of operations: its contract. -/
import Derived.Test.YthkngleegefgbaaGreatDoorHOp1
import Derived.Test.YthkngleegefgbaaGreatDoorL0a
import Derived.Test.YthkngleegefgbaaGreatDoorHOp2
import Derived.Deep.DeepCutAuto
import Derived.Deep.CutBlock
import Derived.Test.YthkngleegefgbaaGreatDoorL1a
import Derived.Test.YthkngleegefgbaaGreatDoorL0b
import Derived.Lib.AtoiAllCases
import Derived.RangeFuncBox
namespace Go.Proofs.YthkngleegefgbaaGreatDoor
open Go.RowKit
set_option linter.unusedVariables false
set_option linter.unusedSimpArgs false
set_option maxHeartbeats 40000000
set_option maxRecDepth 20000
theorem check_17 (m a b c : Int) (tag : ByteArray) (w : World) (hE : EnvL w) (hts : tag.size ≤ 1000000) : Ret 9 #[opV 17 m a b c tag] w (.int .i64 (opErr 17 m a b c tag)) := by
  have c1 := fun w => of_c 17 w
  rw [show inB 17 1 17 = true from rfl, show partsB 17 = ⟨#[97]⟩ from rfl] at c1
  generalize wordB 17 = wd at c1
  have C := Lib.hid c1
  clear c1
  have hc := Below.refl w.heap.size w
  go_enter Tryz.func9, Tryz.ntmps9
  go_upto_region 1 with fail
  have r1 := Row.new (W := w) (cs := #[.int .i64 17, .int .i64 m, .int .i64 a, .int .i64 b, .int .i64 c, .string tag]) (t := 23)
  have hn := below_alloc w (.cells #[.int .i64 17, .int .i64 m, .int .i64 a, .int .i64 b, .int .i64 c, .string tag] 23)
  have wr1 : w.heap.size ≤ w.heap.size := hc.size
  replace hc := chain hc hn
  clear hn
  generalize w.alloc (.cells #[.int .i64 17, .int .i64 m, .int .i64 a, .int .i64 b, .int .i64 c, .string tag] 23) = V1 at r1 hc ⊢
  have yr1 := r1.cell
  have zr1 := r1.lt
  go_wp2_with fail
  refine Calls.mono (C.out _) ?_
  rintro e V2 ⟨rfl, hn⟩
  clear yr1 zr1
  replace r1 := r1.on hn
  replace hc := chain hc hn
  clear hn
  have yr1 := r1.cell
  have zr1 := r1.lt
  go_upto_region 2 with fail
  clear yr1 zr1
  have r3 := Row.new (W := V2) (cs := #[.string wd, .string ⟨#[97]⟩]) (t := 44)
  have hn := below_alloc V2 (.cells #[.string wd, .string ⟨#[97]⟩] 44)
  have nr1_r3 : w.heap.size ≠ V2.heap.size := Nat.ne_of_lt r1.lt
  have wr3 : w.heap.size ≤ V2.heap.size := hc.size
  replace r1 := r1.on hn
  replace hc := chain hc hn
  clear hn
  generalize V2.alloc (.cells #[.string wd, .string ⟨#[97]⟩] 44) = V3 at r1 r3 hc ⊢
  generalize V2.heap.size = b3 at *
  have yr1 := r1.cell
  have zr1 := r1.lt
  have yr3 := r3.cell
  have zr3 := r3.lt
  go_upto_region 3 with fail
  clear yr1 yr3 zr1 zr3
  have r5 := Row.new (W := V3) (cs := #[.int .i64 17, .int .i64 m, .int .i64 a, .int .i64 b, .int .i64 c, .string tag]) (t := 23)
  have hn := below_alloc V3 (.cells #[.int .i64 17, .int .i64 m, .int .i64 a, .int .i64 b, .int .i64 c, .string tag] 23)
  have nr1_r5 : w.heap.size ≠ V3.heap.size := Nat.ne_of_lt r1.lt
  have nr3_r5 : b3 ≠ V3.heap.size := Nat.ne_of_lt r3.lt
  have wr5 : w.heap.size ≤ V3.heap.size := hc.size
  replace r1 := r1.on hn
  replace r3 := r3.on hn
  replace hc := chain hc hn
  clear hn
  generalize V3.alloc (.cells #[.int .i64 17, .int .i64 m, .int .i64 a, .int .i64 b, .int .i64 c, .string tag] 23) = V4 at r1 r3 r5 hc ⊢
  generalize V3.heap.size = b5 at *
  have yr1 := r1.cell
  have zr1 := r1.lt
  have yr3 := r3.cell
  have zr3 := r3.lt
  have yr5 := r5.cell
  have zr5 := r5.lt
  go_wp2_with fail
  clear yr1 yr3 yr5 zr1 zr3 zr5
  have hbi : w.heap.size ≤ V4.heap.size := hc.size
  have it := It.new V4 ⟨#[97]⟩
  have hn := below_iter V4 ⟨#[97]⟩
  replace r1 := r1.on hn
  replace r3 := r3.on hn
  replace r5 := r5.on hn
  replace hc := chain hc hn
  clear hn
  generalize V4.iter ⟨#[97]⟩ 0 = V5 at it r1 r3 r5 hc ⊢
  generalize V4.heap.size = bi at *
  refine wp_loop_rounds 3 ?_
  rw [rounds_succ]
  have hx := it.next (by decide) 97 rfl (by decide)
  have yr1 := r1.cell
  have zr1 := r1.lt
  have yr3 := r3.cell
  have zr3 := r3.lt
  have yr5 := r5.cell
  have zr5 := r5.lt
  go_upto_region 6 with fail
  clear yr1 yr3 yr5 zr1 zr3 zr5
  clear hx
  replace r1 := r1.iter it 1
  replace r3 := r3.iter it 1
  replace r5 := r5.iter it 1
  replace hc := Lib.below_iterAt hc (show w.heap.size ≤ bi from hbi) ⟨#[97]⟩ 1
  replace it := it.step 1
  generalize V5.iterAt bi ⟨#[97]⟩ 1 = V6 at it r1 r3 r5 hc ⊢
  have ct := fun W (hW : EnvL W) => text_a tag W hW (by omega)
  generalize hT : ansOk tag.data.toList = tB at ct
  have CT := Lib.hid ct
  clear ct
  have yr1 := r1.cell
  have zr1 := r1.lt
  have yr3 := r3.cell
  have zr3 := r3.lt
  have yr5 := r5.cell
  have zr5 := r5.lt
  go_wp2_with fail
  refine Calls.mono (number_a b5 _) ?_
  rintro e W6 ⟨rfl, hW⟩
  subst hW
  clear yr1 yr3 yr5 zr1 zr3 zr5
  have yr1 := r1.cell
  have zr1 := r1.lt
  have yr3 := r3.cell
  have zr3 := r3.lt
  have yr5 := r5.cell
  have zr5 := r5.lt
  go_upto_region 8 with fail
  clear yr1 yr3 yr5 zr1 zr3 zr5
  go_cut [4] (fun q wx => q = .bool tB ∧ Row wx w.heap.size #[.int .i64 17, .int .i64 m, .int .i64 a, .int .i64 b, .int .i64 c, .string tag] 23 ∧ Row wx b3 #[.string wd, .string ⟨#[97]⟩] 44 ∧ Row wx b5 #[.int .i64 17, .int .i64 m, .int .i64 a, .int .i64 b, .int .i64 c, .string tag] 23 ∧ It wx bi ⟨#[97]⟩ 1 ∧ Below w.heap.size w wx)
  case first =>
    have yr1 := r1.cell
    have zr1 := r1.lt
    have yr3 := r3.cell
    have zr3 := r3.lt
    have yr5 := r5.cell
    have zr5 := r5.lt
    go_wp2_with fail
    refine Calls.mono (CT.out _ (hE.on hc)) ?_
    rintro e V7 ⟨rfl, hn⟩
    clear yr1 yr3 yr5 zr1 zr3 zr5
    replace r1 := r1.on hn
    replace r3 := r3.on hn
    replace r5 := r5.on hn
    replace it := it.on hn
    replace hc := chain hc hn
    clear hn
    have yr1 := r1.cell
    have zr1 := r1.lt
    have yr3 := r3.cell
    have zr3 := r3.lt
    have yr5 := r5.cell
    have zr5 := r5.lt
    go_wp2_with fail
    go_meet
    exact ⟨by simp, r1, r3, r5, it, hc⟩
  obtain ⟨rfl, r1, r3, r5, it, hc⟩ := hcut
  have yr1 := r1.cell
  have zr1 := r1.lt
  have yr3 := r3.cell
  have zr3 := r3.lt
  have yr5 := r5.cell
  have zr5 := r5.lt
  have ur5 := r5.free
  go_wp2_with fail
  clear yr1 yr3 yr5 zr1 zr3 zr5 ur5
  replace it := it.set (r5.ne_iter it) 5 (.string ⟨#[]⟩)
  replace r1 := (r1.other nr1_r5.symm 5 (.string ⟨#[]⟩))
  replace r3 := (r3.other nr3_r5.symm 5 (.string ⟨#[]⟩))
  replace r5 := (r5.set 5 (.string ⟨#[]⟩))
  simp only [List.setIfInBounds_toArray, List.set_cons_zero, List.set_cons_succ] at r5
  replace hc := (hc.setCell (p := ⟨b5, 5, none⟩) wr5 (.string ⟨#[]⟩))
  generalize hW : World.setCell _ _ _ = V7 at *
  clear hW
  generalize hok0 : tB = k0 at *
  rw [rounds_succ]
  have hx := it.done (by decide)
  have hq := op_neq 17 m a b c ⟨#[]⟩
  have he : opOk 17 m a b c tag.data.toList = (k0 && zeroB m a b c ⟨#[]⟩) := by
    rw [← hT]
    rw [Bool.eq_iff_iff, opOk_iff]
    unfold zeroB
    by_cases ht : ansOk tag.data.toList = true
    · simp [tgOk, ht, mHi, aLo, aHi, bLo, bHi, cLo, cHi]
      try omega
    · simp [tgOk, ht]
  cases hk : k0
  · rw [hk] at he
    have yr1 := r1.cell
    have zr1 := r1.lt
    have yr3 := r3.cell
    have zr3 := r3.lt
    have yr5 := r5.cell
    have zr5 := r5.lt
    go_wp2_with fail
    refine bodyPost_ret (v := .int .i64 2) (by simp [results, Tryz.results9, go_sem]) rfl ⟨by unfold opErr; rw [he, Bool.false_and]; rfl, hc⟩
  rw [hk] at he
  cases hz : zeroB m a b c ⟨#[]⟩
  · rw [hz] at he hq
    have yr1 := r1.cell
    have zr1 := r1.lt
    have yr3 := r3.cell
    have zr3 := r3.lt
    have yr5 := r5.cell
    have zr5 := r5.lt
    go_wp2_with fail
    refine bodyPost_ret (v := .int .i64 2) (by simp [results, Tryz.results9, go_sem]) rfl ⟨by unfold opErr; rw [he, Bool.true_and]; rfl, hc⟩
  · rw [hz] at he hq
    have yr1 := r1.cell
    have zr1 := r1.lt
    have yr3 := r3.cell
    have zr3 := r3.lt
    have yr5 := r5.cell
    have zr5 := r5.lt
    go_wp2_with fail
    refine bodyPost_ret (v := .int .i64 0) (by simp [results, Tryz.results9, go_sem]) rfl ⟨by unfold opErr; rw [he, Bool.true_and]; rfl, hc⟩
theorem check_c (kd m a b c : Int) (tag : ByteArray) (w : World) (hE : EnvL w) (hts : tag.size ≤ 1000000) : Ret 9 #[opV kd m a b c tag] w (.int .i64 (opErr kd m a b c tag)) := by
  cases h : inB kd 1 17 with
  | false => exact check_out kd m a b c tag w h
  | true =>
    rcases kinds (inB_iff.1 h) with rfl | rfl | rfl | rfl | rfl | rfl | rfl | rfl | rfl | rfl | rfl | rfl | rfl | rfl | rfl | rfl | rfl
    · exact check_1 m a b c tag w
    · exact check_2 m a b c tag w
    · exact check_3 m a b c tag w
    · exact check_4 m a b c tag w
    · exact check_5 m a b c tag w
    · exact check_6 m a b c tag w
    · exact check_7 m a b c tag w
    · exact check_8 m a b c tag w hts
    · exact check_9 m a b c tag w
    · exact check_10 m a b c tag w
    · exact check_11 m a b c tag w
    · exact check_12 m a b c tag w
    · exact check_13 m a b c tag w
    · exact check_14 m a b c tag w
    · exact check_15 m a b c tag w
    · exact check_16 m a b c tag w
    · exact check_17 m a b c tag w hE hts
end Go.Proofs.YthkngleegefgbaaGreatDoor

/- The program's Print of operations. -/
namespace Go.Proofs.YthkngleegefgbaaGreatDoor
open Go.RowKit
set_option linter.unusedVariables false
set_option linter.unusedSimpArgs false
set_option maxHeartbeats 40000000
set_option maxRecDepth 20000
def numericL : List UInt8 := [109, 110, 114, 82, 100, 115, 84, 107, 105, 103, 116, 98, 118]
def fv (ch : UInt8) (x : Fl) : Int := if fOf ch = 1 then x.m else if fOf ch = 2 then x.a else if fOf ch = 3 then x.b else x.c
abbrev flC (kd : Int) (x : Fl) : Array Value := opC kd x.m x.a x.b x.c x.tag
abbrev flV (kd : Int) (x : Fl) : Value := opV kd x.m x.a x.b x.c x.tag
theorem number_f {ch : UInt8} (h : ch ∈ numericL) (b : Nat) : ∃ lo hi : Int, ∀ w : World, b < w.heap.size → Calls Tryz.prog 25 #[.pointer (some ⟨b, 0, none⟩), .int .i32 ch.toNat] w fun e w' => e = .returned (.tuple #[.pointer (some ⟨b, fOf ch, none⟩), .int .i64 lo, .int .i64 hi]) ∧ w' = w := by
  simp only [numericL, List.mem_cons, List.not_mem_nil, or_false] at h
  rcases h with rfl | rfl | rfl | rfl | rfl | rfl | rfl | rfl | rfl | rfl | rfl | rfl | rfl
  · exact ⟨_, _, fun w => number_m b w⟩
  · exact ⟨_, _, fun w => number_n b w⟩
  · exact ⟨_, _, fun w => number_r b w⟩
  · exact ⟨_, _, fun w => number_R2 b w⟩
  · exact ⟨_, _, fun w => number_d b w⟩
  · exact ⟨_, _, fun w => number_s b w⟩
  · exact ⟨_, _, fun w => number_T2 b w⟩
  · exact ⟨_, _, fun w => number_k b w⟩
  · exact ⟨_, _, fun w => number_i b w⟩
  · exact ⟨_, _, fun w => number_g b w⟩
  · exact ⟨_, _, fun w => number_t b w⟩
  · exact ⟨_, _, fun w => number_b b w⟩
  · exact ⟨_, _, fun w => number_v b w⟩
theorem numeric_f {ch : UInt8} (h : ch ∈ numericL) : fOf ch = 1 ∨ fOf ch = 2 ∨ fOf ch = 3 ∨ fOf ch = 4 := by
  have key : ∀ ch ∈ numericL, fOf ch = 1 ∨ fOf ch = 2 ∨ fOf ch = 3 ∨ fOf ch = 4 := by decide
  exact key ch h
theorem fv_cell {ch : UInt8} (h : ch ∈ numericL) (kd : Int) (x : Fl) : (flC kd x)[fOf ch]? = some (.int .i64 (fv ch x)) := by
  unfold fv
  rcases numeric_f h with e | e | e | e <;> rw [e] <;> rfl
theorem txt_num {ch : UInt8} (h : ch ∈ numericL) (hk : ch ≠ 107) (x : Fl) : txt ch x = numL (fv ch x) := by
  have hq : ch ≠ 113 := by intro e; subst e; revert h; decide
  unfold txt fv
  rw [if_neg hk, if_neg hq]
  rcases numeric_f h with e | e | e | e <;> rw [e] <;> rfl
theorem letters_or {ch : UInt8} (h : ch ∈ lettersL) : ch ∈ numericL ∨ ch = 113 ∨ ch = 97 := by
  have key : ∀ ch ∈ lettersL, ch ∈ numericL ∨ ch = 113 ∨ ch = 97 := by decide
  exact key ch h
theorem fv_rng {kd : Int} {x : Fl} (h : x.ok kd) (ch : UInt8) : -1 ≤ fv ch x ∧ fv ch x ≤ 1048576 := by
  obtain ⟨hk, hm, ha, hb, hc, ht⟩ := opOk_iff.1 h
  have e1 : mHi kd ≤ 3 := by unfold mHi; split <;> omega
  have e2 : -1 ≤ aLo kd ∧ aHi kd ≤ 1048576 := by
    rcases kinds hk with rfl | rfl | rfl | rfl | rfl | rfl | rfl | rfl | rfl | rfl | rfl | rfl | rfl | rfl | rfl | rfl | rfl <;> decide
  have e3 : -1 ≤ bLo kd ∧ bHi kd ≤ 1048576 := by
    rcases kinds hk with rfl | rfl | rfl | rfl | rfl | rfl | rfl | rfl | rfl | rfl | rfl | rfl | rfl | rfl | rfl | rfl | rfl <;> decide
  have e4 : -1 ≤ cLo kd ∧ cHi kd ≤ 1048576 := by
    rcases kinds hk with rfl | rfl | rfl | rfl | rfl | rfl | rfl | rfl | rfl | rfl | rfl | rfl | rfl | rfl | rfl | rfl | rfl <;> decide
  unfold fv
  repeat' split
  all_goals omega
theorem tag_sz {kd : Int} {x : Fl} (h : x.ok kd) : x.tag.size ≤ 100 := by
  obtain ⟨hk, hm, ha, hb, hc, ht⟩ := opOk_iff.1 h
  have hl := len_bytes x.tag
  unfold tgOk at ht
  split at ht
  · have := (tagOk_len ht).2; omega
  · split at ht
    · unfold ansOk at ht; simp only [Bool.and_eq_true, decide_eq_true_eq] at ht; omega
    · rw [List.isEmpty_iff] at ht; rw [ht] at hl; simp at hl; omega
theorem part_kinds {kd : Int} (hk : 1 ≤ kd ∧ kd ≤ 17) : (107 ∈ partsK kd → kd = 8) ∧ (113 ∈ partsK kd → kd = 8) ∧ (97 ∈ partsK kd → kd = 17) := by
  rw [partsK_eq hk]
  have := kinds_fin (fun i => ((107 : UInt8) ∈ partsLs.getD i [] → i = 7) ∧ ((113 : UInt8) ∈ partsLs.getD i [] → i = 7) ∧ ((97 : UInt8) ∈ partsLs.getD i [] → i = 16)) (by decide) hk
  refine ⟨fun h => ?_, fun h => ?_, fun h => ?_⟩
  · have := this.1 h; omega
  · have := this.2.1 h; omega
  · have := this.2.2 h; omega
/-- Where an iterator stands. -/
def posOf (W : World) (b : Nat) : Nat := match W.heap[b]? with | some (.stringIter _ p) => p | _ => 0
theorem It.pos {W : World} {b : Nat} {s : ByteArray} {p : Nat} (h : It W b s p) : posOf W b = p := by unfold posOf; rw [h.eq]
theorem OwnsS.iter {B : Nat} {W : World} {v : Value} {l : List ByteArray} (h : OwnsS B W v l) {b : Nat} {s : ByteArray} {pos : Nat} (i : It W b s pos) (pos' : Nat) : OwnsS B (W.iterAt b s pos') v l := by
  have key : ∀ x, x ≠ b → (W.iterAt b s pos').heap[x]? = W.heap[x]? := fun x hx => Lib.iterAt_other W b x s pos' hx
  refine ⟨h.1, ?_⟩
  rcases h.2 with h0 | ⟨g, cap, cur, h1, h2, h3, h4⟩
  · exact .inl h0
  · refine .inr ⟨g, cap, cur, h1, h2, (key g (fun e => ?_)).trans h3, h4⟩
    subst e
    rw [i.eq] at h3
    cases h3
theorem txts_len {kd : Int} {x : Fl} (h : x.ok kd) (ch : UInt8) : (txt ch x).length ≤ 300 := by
  have hn : ∀ c, (numL (fv c x)).length ≤ 30 := fun c => by
    have := fv_rng h c
    have hd : (Go.Lib.decDigits (fv c x).natAbs).length ≤ 20 := dec_len 19 _ (by omega)
    unfold numL
    split <;> simp <;> omega
  have ht : (quoteL x.tag.data.toList).length ≤ 300 ∧ x.tag.data.toList.length ≤ 300 := by
    have h1 := tag_sz h
    have h2 := len_bytes x.tag
    have h3 := escL_len x.tag.data.toList
    refine ⟨?_, by omega⟩
    unfold quoteL
    simp
    omega
  unfold txt
  split
  · simp
  · split
    · exact ht.1
    · have h1 := hn 109; have h2 := hn 110; have h3 := hn 105; have h4 := hn 118
      change (numL x.m).length ≤ 30 at h1
      change (numL x.a).length ≤ 30 at h2
      change (numL x.b).length ≤ 30 at h3
      change (numL x.c).length ≤ 30 at h4
      repeat' split
      all_goals omega
def txtB (ch : UInt8) (x : Fl) : ByteArray := ⟨(txt ch x).toArray⟩
end Go.Proofs.YthkngleegefgbaaGreatDoor

/- The program's Print of operations: its contract. -/
namespace Go.Proofs.YthkngleegefgbaaGreatDoor
open Go.RowKit
set_option linter.unusedVariables false
set_option linter.unusedSimpArgs false
set_option maxHeartbeats 40000000
set_option maxRecDepth 20000
theorem ch_beq {c : UInt8} {n : Nat} (hn : n < 256) : ((c.toNat : Int) == (n : Int)) = decide (c = UInt8.ofNat n) := by
  rw [Bool.eq_iff_iff, beq_iff_eq, decide_eq_true_iff]
  constructor
  · intro h
    apply UInt8.toNat_inj.1
    rw [UInt8.toNat_ofNat_of_lt' hn]
    omega
  · intro h
    rw [h, UInt8.toNat_ofNat_of_lt' hn]
structure Ge (B : Nat) (W : World) : Prop where
  le : B ≤ W.heap.size
theorem Ge.on {B : Nat} {W W' : World} (h : Ge B W) (hb : Below W.heap.size W W') : Ge B W' := ⟨Nat.le_trans h.le hb.size⟩
theorem row_ne {W : World} {B : Nat} {t e : TypeId} {cs : Array Value} (h : Row W B cs t) (hte : t ≠ e) {base size k : Nat} {v : Value} {xs : List Value} (hr : W.ownsRow base e size v k xs) : some B ≠ v.ownBlock := row_apart h hte hr
theorem it_ne {W : World} {B p : Nat} {e : TypeId} {s : ByteArray} (h : It W B s p) {base size k : Nat} {v : Value} {xs : List Value} (hr : W.ownsRow base e size v k xs) : some B ≠ v.ownBlock := by
  rcases hr.2 with ⟨rfl, _⟩ | ⟨g, cap, cur, rfl, _, hgb, _⟩
  · simp [Value.ownBlock]
  · intro e'
    obtain rfl : B = g := by simpa [Value.ownBlock] using e'
    have := h.eq.symm.trans hgb
    simp at this
theorem kinds_slice (a : Int) (h1 : 1 ≤ a) (h3 : a ≤ 3) : (⟨#[102, 98, 108]⟩ : ByteArray).extract (a.toNat - 1) a.toNat = ⟨#[letterB a]⟩ := by
  rcases (by omega : a = 1 ∨ a = 2 ∨ a = 3) with rfl | rfl | rfl <;> rfl
theorem itoa_num (z : Int) : Lib.itoa z = numL z := by
  unfold Lib.itoa numL
  split
  · rfl
  · rw [show z.natAbs = z.toNat by omega]
theorem print_bad (kd : Int) (x : Fl) (w : World) (hE : EnvL w) (hs : x.tag.size ≤ 1000000) (h : ¬ x.ok kd) : Ret 7 #[flV kd x] w (.tuple #[.string ⟨#[]⟩, .int .i64 2]) := by
  have cc := fun W (hW : EnvL W) => check_c kd x.m x.a x.b x.c x.tag W hW hs
  rw [show opErr kd x.m x.a x.b x.c x.tag = 2 by unfold opErr; rw [if_neg h]] at cc
  have C := Lib.hid cc
  have hc := Below.refl w.heap.size w
  clear cc h
  obtain ⟨m, a, b, c, tag⟩ := x
  go_enter Tryz.func7, Tryz.ntmps7
  go_upto_region 1 with fail
  have r1 := Row.new (W := w) (cs := (opC kd m a b c tag)) (t := 23)
  have hn := below_alloc w (.cells (opC kd m a b c tag) 23)
  replace hc := chain hc hn
  clear hn
  generalize w.alloc (.cells (opC kd m a b c tag) 23) = V1 at r1 hc ⊢
  have yr1 := r1.cell
  have zr1 := r1.lt
  go_wp2_with fail
  refine Calls.mono (C.out _ (hE.on hc)) ?_
  rintro e V2 ⟨rfl, hn⟩
  clear yr1 zr1
  replace r1 := r1.on hn
  replace hc := chain hc hn
  clear hn
  have yr1 := r1.cell
  have zr1 := r1.lt
  go_wp2_with fail
  go_returns
  exact ⟨rfl, hc⟩
theorem print_ok (kd : Int) (x : Fl) (w : World) (hE : EnvL w) (h : x.ok kd) : Ret 7 #[flV kd x] w (.tuple #[.string (opText kd x.m x.a x.b x.c x.tag), .int .i64 0]) := by
  have hk := (opOk_iff.1 h).1
  have hsz := tag_sz h
  have cc := fun W (hW : EnvL W) => check_c kd x.m x.a x.b x.c x.tag W hW (by omega)
  rw [show opErr kd x.m x.a x.b x.c x.tag = 0 by unfold opErr; rw [if_pos h]] at cc
  have co := fun W => of_c kd W
  rw [inB_iff.2 hk] at co
  have hps : (partsB kd).data.toList = partsK kd := by simp [partsB]
  have hpl := len_bytes (partsB kd)
  have hp4 : (partsK kd).length ≤ 4 := by
    rw [partsK_eq hk]
    exact kinds_fin (fun i => (partsLs.getD i []).length ≤ 4) (by decide) hk
  rw [hps] at hpl
  have hlet := parts_letters kd
  have hpk := part_kinds hk
  have hrng := fv_rng h
  have hlen := txts_len h
  have ha3 : kd = 8 → 1 ≤ x.a ∧ x.a ≤ 3 := fun e => by
    have := (opOk_iff.1 h).2.2.1
    subst e
    exact this
  have htq : kd = 8 → tagOk x.tag.data.toList = true := fun e => by
    have := (opOk_iff.1 h).2.2.2.2.2
    subst e
    exact this
  have htx : opText kd x.m x.a x.b x.c x.tag = ⟨(Lib.join ((wordB kd :: (partsK kd).map (txtB · x)).map (·.data.toList)) (⟨#[32]⟩ : ByteArray).data.toList).toArray⟩ := by
    unfold opText opL
    rw [parts_txt hk]
    simp [wordB, txtB, Function.comp_def]
  have hwl : (wordB kd).size ≤ 10000000 := by
    have : (wordL kd).length ≤ 100 := by
      unfold wordL
      rw [if_pos hk]
      exact kinds_fin (fun i => (wordsL.getD i []).length ≤ 100) (by decide) hk
    show (wordL kd).toArray.size ≤ _
    simp; omega
  rw [htx]
  have HPS := Lib.hid hps
  clear htx hps h hk
  generalize partsB kd = ps at *
  generalize wordB kd = wd at *
  have CC := Lib.hid cc
  have CO := Lib.hid co
  have HLET := Lib.hid hlet
  have HPK := Lib.hid hpk
  have HR := Lib.hid hrng
  have HLEN := Lib.hid hlen
  have HA3 := Lib.hid ha3
  have HTQ := Lib.hid htq
  obtain ⟨i0, hi, hz0, hz1, hz2⟩ := info_parts str_info
  have HI0 := Lib.hid hi
  have HZ0 := Lib.hid hz0
  have HZ1 := Lib.hid hz1
  have HZ2 := Lib.hid hz2
  have HE := Lib.hid hE
  clear cc co hlet hpk hrng hlen ha3 htq hi hz0 hz1 hz2 hE
  have hc := Below.refl w.heap.size w
  go_enter Tryz.func7, Tryz.ntmps7
  go_upto_region 1 with fail
  have r1 := Row.new (W := w) (cs := (flC kd x)) (t := 23)
  have hn := below_alloc w (.cells (flC kd x) 23)
  replace hc := chain hc hn
  clear hn
  generalize w.alloc (.cells (flC kd x) 23) = V1 at r1 hc ⊢
  have yr1 := r1.cell
  have zr1 := r1.lt
  go_wp2_with fail
  refine Calls.mono (CC.out _ (HE.out.on hc)) ?_
  rintro e V2 ⟨rfl, hn⟩
  clear yr1 zr1
  replace r1 := r1.on hn
  replace hc := chain hc hn
  clear hn
  have yr1 := r1.cell
  have zr1 := r1.lt
  go_wp2_with fail
  refine Calls.mono (CO.out _) ?_
  rintro e V3 ⟨rfl, hn⟩
  clear yr1 zr1
  replace r1 := r1.on hn
  replace hc := chain hc hn
  clear hn
  have yr1 := r1.cell
  have zr1 := r1.lt
  go_upto_region 5 with fail
  clear yr1 zr1
  have r3 := Row.new (W := V3) (cs := #[.string wd, .string ps]) (t := 44)
  have hn := below_alloc V3 (.cells #[.string wd, .string ps] 44)
  have wr3 : w.heap.size ≤ V3.heap.size := hc.size
  replace r1 := r1.on hn
  replace hc := chain hc hn
  clear hn
  generalize V3.alloc (.cells #[.string wd, .string ps] 44) = V4 at r1 r3 hc ⊢
  generalize V3.heap.size = b3 at *
  have yr1 := r1.cell
  have zr1 := r1.lt
  have yr3 := r3.cell
  have zr3 := r3.lt
  go_upto_region 6 with fail
  clear yr1 yr3 zr1 zr3
  have q0 : OwnsS V4.heap.size (V4.alloc (.cells #[.string wd] 9)) (.slice (some ⟨V4.heap.size, 0, none⟩) 1 1) [wd] := OwnsS.new V4 [wd] (by simp)
  have hB : w.heap.size ≤ V4.heap.size := hc.size
  have hn := below_alloc V4 (.cells #[.string wd] 9)
  have hB2 : Ge V4.heap.size (V4.alloc (.cells #[.string wd] 9)) := ⟨hn.size⟩
  replace r1 := r1.on hn
  replace r3 := r3.on hn
  replace hc := chain hc hn
  clear hn
  generalize V4.alloc (.cells #[.string wd] 9) = V5 at q0 r1 r3 hc hB2 ⊢
  generalize V4.heap.size = B at *
  have yr1 := r1.cell
  have zr1 := r1.lt
  have yr3 := r3.cell
  have zr3 := r3.lt
  go_wp2_with fail
  clear yr1 yr3 zr1 zr3
  have hbi : w.heap.size ≤ V5.heap.size := hc.size
  have it := It.new V5 ps
  have hn := below_iter V5 ps
  replace r1 := r1.on hn
  replace r3 := r3.on hn
  replace q0 := q0.on hn
  replace hB2 := hB2.on hn
  replace hc := chain hc hn
  clear hn
  generalize V5.iter ps 0 = V6 at it r1 r3 q0 hB2 hc ⊢
  generalize V5.heap.size = bi at *
  go_loopw [7] (fun lv wr => ∃ j, j ≤ ps.size ∧ OwnsS B wr lv (wd :: ((partsK kd).take j).map (txtB · x)) ∧ Row wr w.heap.size (flC kd x) 23 ∧ Row wr b3 #[.string wd, .string ps] 44 ∧ It wr bi ps j ∧ Below w.heap.size w wr ∧ Ge B wr) (fun lv wr => ps.size - posOf wr bi)
  case atStart => exact ⟨0, Nat.zero_le _, q0, r1, r3, it, hc, hB2⟩
  case round =>
    obtain ⟨j, hj, q0, r1, r3, it, hc, hB2⟩ := hrel
    rcases Nat.lt_or_ge j ps.size with hlt | hge
    · have hpw := it.pos
      have hjl : j < (partsK kd).length := by omega
      have hch : (partsK kd)[j] = ps[j] := by
        have e := HPS.out
        have e2 : ps.data.toList[j]? = (partsK kd)[j]? := by rw [e]
        rw [List.getElem?_eq_getElem hjl] at e2
        have e3 : ps.data.toList[j]? = some ps[j] := by rw [List.getElem?_eq_getElem (by rw [len_bytes]; exact hlt)]; rfl
        rw [e3] at e2
        injection e2 with e2
        exact e2.symm
      have hmem : ps[j] ∈ partsK kd := by rw [← hch]; exact List.getElem_mem hjl
      have hls : (partsK kd).take (j + 1) = (partsK kd).take j ++ [ps[j]] := by rw [List.take_succ_eq_append_getElem hjl, hch]
      have hlet := HLET.out _ hmem
      have hll : ((wd :: ((partsK kd).take j).map (txtB · x)) : List ByteArray).length ≤ 5 := by simp; omega
      have hn128 : ps[j].toNat < 128 := by
        have key : ∀ c ∈ lettersL, c.toNat < 128 := by decide
        exact key _ hlet
      have hx := it.next hlt ps[j].toNat rfl hn128
      have hLS : ∀ t, t = txtB ps[j] x → (wd :: ((partsK kd).take j).map (txtB · x)) ++ [t] = (wd :: ((partsK kd).take (j + 1)).map (txtB · x)) := fun t ht => by rw [ht, hls]; simp
      have HLS := Lib.hid hLS
      clear hLS hch hjl hls
      have e107 := ch_beq (c := ps[j]) (n := 107) (by decide)
      have e113 := ch_beq (c := ps[j]) (n := 113) (by decide)
      change _ = decide (ps[j] = 107) at e107
      change _ = decide (ps[j] = 113) at e113
      generalize hL : (wd :: ((partsK kd).take j).map (txtB · x)) = L at *
      generalize hCH : ps[j] = ch at *
      clear hCH
      have yr1 := r1.cell
      have zr1 := r1.lt
      have yr3 := r3.cell
      have zr3 := r3.lt
      go_upto_region 9 with fail
      clear yr1 yr3 zr1 zr3
      clear hx
      replace r1 := r1.iter it (j + 1)
      replace r3 := r3.iter it (j + 1)
      replace q0 := q0.iter it (j + 1)
      replace hc := Lib.below_iterAt hc hbi ps (j + 1)
      replace hB2 : Ge B (wr.iterAt bi ps (j + 1)) := ⟨by have := hB2.le; simpa [World.iterAt] using this⟩
      replace it := it.step (j + 1)
      generalize wr.iterAt bi ps (j + 1) = V7 at it r1 r3 q0 hB2 hc ⊢
      rcases letters_or hlet with hnum | rfl | rfl
      · by_cases h107 : ch = 107
        · subst h107
          have h8 := (HPK.out).1 hmem
          obtain ⟨a1, a3⟩ := HA3.out h8
          obtain ⟨lo, hi, hnum2⟩ := number_f hnum w.heap.size
          have hfc : ∀ W, Row W w.heap.size (flC kd x) 23 → W.cell? ⟨w.heap.size, fOf 107, none⟩ = some (.int .i64 x.a) := fun W hW => (hW.cell _).trans (fv_cell hnum kd x)
          have es := kinds_slice x.a a1 a3
          have HN := Lib.hid hnum2
          have HFC := Lib.hid hfc
          clear hnum2 hfc
          clear e113 hnum h8 HPK HA3 hmem hlet
          have yr1 := r1.cell
          have zr1 := r1.lt
          have yr3 := r3.cell
          have zr3 := r3.lt
          go_wp2_with fail
          refine Calls.mono (HN.out _ zr1) ?_
          rintro e W8 ⟨rfl, hW⟩
          subst hW
          rw [show fOf 107 = 2 from rfl] at *
          clear yr1 yr3 zr1 zr3
          have yr1 := r1.cell
          have zr1 := r1.lt
          have yr3 := r3.cell
          have zr3 := r3.lt
          go_upto_region 12 with fail
          clear yr1 yr3 zr1 zr3
          refine wp_region_held_drew (S := fun W' => (∀ j, W'.cell? ⟨w.heap.size, j, none⟩ = (flC kd x)[j]?)) (by kernel_rfl) r1.cell (fun hHeld => ?_)
          replace r1 := r1.drew
          replace r3 := r3.drew
          replace hc := hc.drew
          replace it : It W8.drew bi ps (j + 1) := ⟨it.eq⟩
          replace q0 : OwnsS B W8.drew u7 L := q0
          replace hB2 : Ge B W8.drew := ⟨hB2.le⟩
          generalize W8.drew = X0 at *
          have ew : IntKind.i64.wrap (x.a - 1) = x.a - 1 := IntWalk.i64_in _ ⟨by omega, by omega⟩
          have es2 : (0 : Int) ≤ x.a - 1 := by omega
          have es3 : x.a - 1 ≤ x.a := by omega
          refine' wpAnyH_take (i := 0) (oi := _) (v := _) ?_ (by kernel_rfl) (by kernel_rfl) (by kernel_rfl) ?_ (Or.inl ⟨?_, ?_⟩) (by assumption) ?_
          rotate_left 2
          · (simp only [List.getElem?_toArray, List.getElem?_cons_succ, List.getElem?_cons_zero]; rfl)
          · first | exact fun _ _ _ h => h | exact fun _ _ _ h => nomatch h.1
          · rfl
          · (intro W hSW; (try dsimp only at hSW); go_split_ands; first | (go_simp; done) | (go_simp; with_reducible rfl))
          try simp only [Act.put, List.setIfInBounds_toArray, List.set_cons_zero, List.set_cons_succ]
          refine' wpAnyH_take (i := 1) (oi := _) (v := _) ?_ (by kernel_rfl) (by kernel_rfl) (by kernel_rfl) ?_ (Or.inl ⟨?_, ?_⟩) (by assumption) ?_
          rotate_left 2
          · (simp only [List.getElem?_toArray, List.getElem?_cons_succ, List.getElem?_cons_zero]; rfl)
          · first | exact fun _ _ _ h => h | exact fun _ _ _ h => nomatch h.1
          · rfl
          · (intro W hSW; (try dsimp only at hSW); go_split_ands; first | (go_simp; done) | (go_simp; with_reducible rfl))
          try simp only [Act.put, List.setIfInBounds_toArray, List.set_cons_zero, List.set_cons_succ]
          refine' wpAnyH_take (i := 2) (oi := _) (v := _) ?_ (by kernel_rfl) (by kernel_rfl) (by kernel_rfl) ?_ (Or.inl ⟨?_, ?_⟩) (by assumption) ?_
          rotate_left 2
          · (simp only [List.getElem?_toArray, List.getElem?_cons_succ, List.getElem?_cons_zero]; rfl)
          · first | exact fun _ _ _ h => h | exact fun _ _ _ h => nomatch h.1
          · rfl
          · (intro W hSW; (try dsimp only at hSW); go_split_ands; first | (go_simp; done) | (go_simp; with_reducible rfl))
          try simp only [Act.put, List.setIfInBounds_toArray, List.set_cons_zero, List.set_cons_succ]
          refine' wpAnyH_take (i := 3) (oi := _) (v := _) ?_ (by kernel_rfl) (by kernel_rfl) (by kernel_rfl) ?_ (Or.inl ⟨?_, ?_⟩) (by assumption) ?_
          rotate_left 2
          · (simp only [List.getElem?_toArray, List.getElem?_cons_succ, List.getElem?_cons_zero]; rfl)
          · first | exact fun _ _ _ h => h | exact fun _ _ _ h => nomatch h.1
          · rfl
          · (intro W hSW; (try dsimp only at hSW); go_split_ands; first | (go_simp; done) | (go_simp; with_reducible rfl))
          try simp only [Act.put, List.setIfInBounds_toArray, List.set_cons_zero, List.set_cons_succ]
          refine' wpAnyH_take (i := 4) (oi := _) (v := _) ?_ (by kernel_rfl) (by kernel_rfl) (by kernel_rfl) ?_ (Or.inl ⟨?_, ?_⟩) (by assumption) ?_
          rotate_left 2
          · (simp only [List.getElem?_toArray, List.getElem?_cons_succ, List.getElem?_cons_zero]; rfl)
          · first | exact fun _ _ _ h => h | exact fun _ _ _ h => nomatch h.1
          · rfl
          · (intro W hSW; (try dsimp only at hSW); go_split_ands; first | (go_simp; done) | (go_simp; with_reducible rfl))
          try simp only [Act.put, List.setIfInBounds_toArray, List.set_cons_zero, List.set_cons_succ]
          refine' wpAnyH_take (i := 5) (oi := _) (v := _) ?_ (by kernel_rfl) (by kernel_rfl) (by kernel_rfl) ?_ (Or.inl ⟨?_, ?_⟩) (by assumption) ?_
          rotate_left 2
          · (simp only [List.getElem?_toArray, List.getElem?_cons_succ, List.getElem?_cons_zero]; rfl)
          · first | exact fun _ _ _ h => h | exact fun _ _ _ h => nomatch h.1
          · rfl
          · (intro W hSW; (try dsimp only at hSW); go_split_ands; first | (go_simp; done) | (go_simp; with_reducible rfl))
          try simp only [Act.put, List.setIfInBounds_toArray, List.set_cons_zero, List.set_cons_succ]
          refine' wpAnyH_take (i := 6) (oi := _) (v := _) ?_ (by kernel_rfl) (by kernel_rfl) (by kernel_rfl) ?_ (Or.inl ⟨?_, ?_⟩) (by assumption) ?_
          rotate_left 2
          · (simp only [List.getElem?_toArray, List.getElem?_cons_succ, List.getElem?_cons_zero]; rfl)
          · first | exact fun _ _ _ h => h | exact fun _ _ _ h => nomatch h.1
          · rfl
          · (intro W hSW; (try dsimp only at hSW); go_split_ands; first | (go_simp; done) | (go_simp; with_reducible rfl))
          try simp only [Act.put, List.setIfInBounds_toArray, List.set_cons_zero, List.set_cons_succ]
          refine' wpAnyH_take (i := 7) (oi := _) (v := _) ?_ (by kernel_rfl) (by kernel_rfl) (by kernel_rfl) ?_ (Or.inl ⟨?_, ?_⟩) (by assumption) ?_
          rotate_left 2
          · (simp only [List.getElem?_toArray, List.getElem?_cons_succ, List.getElem?_cons_zero]; rfl)
          · first | exact fun _ _ _ h => h | exact fun _ _ _ h => nomatch h.1
          · rfl
          · (intro W hSW; (try dsimp only at hSW); go_split_ands; first | (go_simp; done) | (go_simp; with_reducible rfl))
          try simp only [Act.put, List.setIfInBounds_toArray, List.set_cons_zero, List.set_cons_succ]
          refine' wpAnyH_take (i := 8) (oi := _) (v := _) ?_ (by kernel_rfl) (by kernel_rfl) (by kernel_rfl) ?_ (Or.inl ⟨?_, ?_⟩) (by assumption) ?_
          rotate_left 2
          · (simp only [List.getElem?_toArray, List.getElem?_cons_succ, List.getElem?_cons_zero]; rfl)
          · first | exact fun _ _ _ h => h | exact fun _ _ _ h => nomatch h.1
          · rfl
          · (intro W hSW; (try dsimp only at hSW); go_split_ands; first | (go_simp; done) | (go_simp; with_reducible rfl))
          try simp only [Act.put, List.setIfInBounds_toArray, List.set_cons_zero, List.set_cons_succ]
          clear hHeld
          refine wpAnyH_ready (rs := [9]) (by kernel_rfl) (by simp) ?_
          refine' AllReadyH.cons (o := _) ?_ (fun K hK => ?_) AllReadyH.nil
          rotate_left 1
          · (simp only [List.getElem?_toArray, List.getElem?_cons_succ, List.getElem?_cons_zero]; rfl)
          go_simp
          have hsrc := str_src1 X0 ⟨#[letterB x.a]⟩
          have QQ := Lib.hid (q0.on (below_alloc X0 (.cells #[.string ⟨#[letterB x.a]⟩] 9)))
          have HCC := Lib.hid (hc.alloc hc.size (.cells #[.string ⟨#[letterB x.a]⟩] 9))
          have hn := below_alloc X0 (.cells #[.string ⟨#[letterB x.a]⟩] 9)
          have HR1 := Lib.hid (r1.on hn)
          have HR3 := Lib.hid (r3.on hn)
          have HIT := Lib.hid (it.on hn)
          have hB3 := (hB2.on hn).le
          have hBl := hB2.le
          clear hn q0 hB2
          generalize hZ : X0.alloc (.cells #[.string ⟨#[letterB x.a]⟩] 9) = Z0 at *
          generalize X0.heap.size = a2 at *
          refine hK.out _ _ HR1.out.cell (fun _ => ?_)
          clear hK K hZ
          refine wpAnyH_ready (rs := [10]) (by kernel_rfl) (by simp) ?_
          refine' AllReadyH.cons (o := _) (by simp only [List.getElem?_toArray, List.getElem?_cons_succ, List.getElem?_cons_zero]; rfl) (fun K hK => ?_) AllReadyH.nil
          obtain ⟨v2, w9, hr, hown, hgrow, hnil⟩ := run_append_own (P := Tryz.prog) (w := Z0) B 47 47 9 i0 (.string ⟨#[]⟩) 1 16 Tryz.underlying47 HI0.out HZ0.out HZ1.out HZ2.out rfl (by decide) _ _ _ QQ.out ⟨a2, 0, none⟩ 1 1 [.string ⟨#[letterB x.a]⟩] rfl hsrc (by intro u hu; simp at hu; subst hu; rfl) (by unfold maxLen; omega) (by omega) hB3
          rw [if_pos (by rfl)]
          unfold Oper.wp execOp
          simp only [resolve, invoke, builtin, Sem.run_bind, Sem.run_pure, Result.andThen_ok, List.map_toArray, List.map_cons, List.map_nil]
          show Oper.upon _ _ _ _ _ ((Sem.run _ (Builtin.append_ #[47, 47] 47 #[u7, .slice (some ⟨a2, 0, none⟩) 1 1]) Z0).andThen _)
          rw [hr]
          simp only [Result.andThen]
          rw [Oper.upon_value]
          refine hK.out _ _ (Row.cell (x := w.heap.size) ⟨(hgrow.block _ HR1.out.lt (row_ne HR1.out (by decide) QQ.out)).trans HR1.out.eq⟩) (fun hHeld => ?_)
          clear hK K hr
          refine' wpAnyH_take (i := 11) (oi := _) (v := _) ?_ (by kernel_rfl) (by kernel_rfl) (by kernel_rfl) ?_ (Or.inl ⟨?_, ?_⟩) (by assumption) ?_
          rotate_left 2
          · (simp only [List.getElem?_toArray, List.getElem?_cons_succ, List.getElem?_cons_zero]; rfl)
          · first | exact fun _ _ _ h => h | exact fun _ _ _ h => nomatch h.1
          · rfl
          · (intro W hSW; (try dsimp only at hSW); go_split_ands; first | (go_simp; done) | (go_simp; with_reducible rfl))
          try simp only [Act.put, List.setIfInBounds_toArray, List.set_cons_zero, List.set_cons_succ]
          clear hHeld
          refine wpAnyH_done (by kernel_rfl) ?_ _
          have hlo9 : ∀ k, _ = some k → B ≤ k := fun k hk => (World.ownsRow.lt QQ.out k hk).1
          have hc9 := HCC.out.grown hgrow (by first | omega | (simp; omega)) (fun k hk => Nat.le_trans hB (hlo9 k hk))
          have r1 : Row w9 w.heap.size (flC kd x) 23 := ⟨(hgrow.block _ HR1.out.lt (row_ne HR1.out (by decide) QQ.out)).trans HR1.out.eq⟩
          have r3 : Row w9 b3 #[.string wd, .string ps] 44 := ⟨(hgrow.block _ HR3.out.lt (row_ne HR3.out (by decide) QQ.out)).trans HR3.out.eq⟩
          have it : It w9 bi ps (j + 1) := ⟨(hgrow.block _ HIT.out.lt (it_ne HIT.out QQ.out)).trans HIT.out.eq⟩
          have q9 : OwnsS B w9 v2 (wd :: ((partsK kd).take (j + 1)).map (txtB · x)) := by
            rw [← HLS.out ⟨#[letterB x.a]⟩ rfl]
            unfold OwnsS
            simpa using hown
          have hB9 : Ge B w9 := ⟨Nat.le_trans hB3 hgrow.size⟩
          have HQ9 := Lib.hid q9
          have HIT9 := Lib.hid it
          clear hown hgrow hnil hc HCC HR1 HR3 HIT QQ q9 hlo9 it
          have yr1 := r1.cell
          have zr1 := r1.lt
          have yr3 := r3.cell
          have zr3 := r3.lt
          go_wp2_with fail
          clear yr1 yr3 zr1 zr3
          have hps9 := HIT9.out.pos
          go_roundw
          case rel => exact ⟨j + 1, by omega, HQ9.out, r1, r3, HIT9.out, hc9, hB9⟩
          case measure => rw [hps9, hpw]; omega
        · have ef : decide (ch = 107) = false := decide_eq_false h107
          have eg : decide (ch = 113) = false := decide_eq_false (by intro e; subst e; revert hnum; decide)
          rw [ef] at e107
          rw [eg] at e113
          have hrg := HR.out ch
          have htx := txt_num hnum h107 x
          obtain ⟨lo, hi, hnum2⟩ := number_f hnum w.heap.size
          have hfc : ∀ W, Row W w.heap.size (flC kd x) 23 → W.cell? ⟨w.heap.size, fOf ch, none⟩ = some (.int .i64 (fv ch x)) := fun W hW => (hW.cell _).trans (fv_cell hnum kd x)
          have HN := Lib.hid hnum2
          have HFC := Lib.hid hfc
          have HTX := Lib.hid htx
          clear hnum2 hfc htx ef eg h107
          generalize fv ch x = z at *
          have yr1 := r1.cell
          have zr1 := r1.lt
          have yr3 := r3.cell
          have zr3 := r3.lt
          go_wp2_with fail
          refine Calls.mono (HN.out _ zr1) ?_
          rintro e W8 ⟨rfl, hW⟩
          subst hW
          clear yr1 yr3 zr1 zr3
          have yf := HFC.out _ r1
          have yr1 := r1.cell
          have zr1 := r1.lt
          have yr3 := r3.cell
          have zr3 := r3.lt
          go_wp2_with fail
          refine Calls.mono (strconv_Itoa z _ (HE.out.on hc).toEnvP.toEnv (by omega) (by omega)) ?_
          rintro e V8 ⟨rfl, hn⟩
          clear yr1 yr3 zr1 zr3
          replace r1 := r1.on hn
          replace r3 := r3.on hn
          replace q0 := q0.on hn
          replace it := it.on hn
          replace hB2 := hB2.on hn
          replace hc := chain hc hn
          clear hn
          clear yf
          have hT : (⟨(Lib.itoa z).toArray⟩ : ByteArray) = txtB ch x := by
            unfold txtB
            rw [HTX.out, itoa_num]
          rw [hT]
          clear hT
          have QQ := Lib.hid (q0.on (below_alloc V8 (.cells #[.string (txtB ch x)] 9)))
          have HSRC := Lib.hid (str_src1 V8 (txtB ch x))
          have HCC := Lib.hid (hc.alloc hc.size (.cells #[.string (txtB ch x)] 9))
          have hn := below_alloc V8 (.cells #[.string (txtB ch x)] 9)
          have HR1 := Lib.hid (r1.on hn)
          have HR3 := Lib.hid (r3.on hn)
          have HIT := Lib.hid (it.on hn)
          have hB3 := (hB2.on hn).le
          have hBl := hB2.le
          clear hn q0 hB2
          have yr1 := r1.cell
          have zr1 := r1.lt
          have yr3 := r3.cell
          have zr3 := r3.lt
          go_wp2_with (at_builtin; refine wpList_append_own _ rfl _ _ 47 rfl B 9 i0 (.string ⟨#[]⟩) 1 16 Tryz.underlying47 HI0.out HZ0.out HZ1.out HZ2.out rfl (by decide) _ _ _ rfl QQ.out ⟨V8.heap.size, 0, none⟩ 1 1 [.string (txtB ch x)] rfl rfl HSRC.out (by intro u hu; simp at hu; subst hu; rfl) (by unfold maxLen; omega) (by omega) (by first | omega | (simp; omega)) ?_)
          clear yr1 yr3 zr1 zr3
          intro v2 w9 hown hgrow hnil
          have hlo9 : ∀ k, _ = some k → B ≤ k := fun k hk => (World.ownsRow.lt QQ.out k hk).1
          have hc9 := HCC.out.grown hgrow (by first | omega | (simp; omega)) (fun k hk => Nat.le_trans hB (hlo9 k hk))
          have r1 : Row w9 w.heap.size (flC kd x) 23 := ⟨(hgrow.block _ HR1.out.lt (row_ne HR1.out (by decide) QQ.out)).trans HR1.out.eq⟩
          have r3 : Row w9 b3 #[.string wd, .string ps] 44 := ⟨(hgrow.block _ HR3.out.lt (row_ne HR3.out (by decide) QQ.out)).trans HR3.out.eq⟩
          have it : It w9 bi ps (j + 1) := ⟨(hgrow.block _ HIT.out.lt (it_ne HIT.out QQ.out)).trans HIT.out.eq⟩
          have q9 : OwnsS B w9 v2 (wd :: ((partsK kd).take (j + 1)).map (txtB · x)) := by
            rw [← HLS.out (txtB ch x) rfl]
            unfold OwnsS
            simpa using hown
          have hB9 : Ge B w9 := ⟨Nat.le_trans hB3 hgrow.size⟩
          have HQ9 := Lib.hid q9
          have HIT9 := Lib.hid it
          clear hown hgrow hnil hc HCC HR1 HR3 HIT QQ q9 hlo9 it
          have yr1 := r1.cell
          have zr1 := r1.lt
          have yr3 := r3.cell
          have zr3 := r3.lt
          go_wp2_with fail
          clear yr1 yr3 zr1 zr3
          have hps9 := HIT9.out.pos
          go_roundw
          case rel => exact ⟨j + 1, by omega, HQ9.out, r1, r3, HIT9.out, hc9, hB9⟩
          case measure => rw [hps9, hpw]; omega
      · have h8 := (HPK.out).2.1 hmem
        have ht := HTQ.out h8
        have cq := fun W => tquote_c x.tag W (by omega)
        rw [show quoteV x.tag.data.toList = .tuple #[.string (txtB 113 x), .int .i64 0] by unfold quoteV; rw [ht]; rfl] at cq
        have CQ := Lib.hid cq
        clear cq h8 ht hmem hlet HPK HA3 e107 e113
        have yr1 := r1.cell
        have zr1 := r1.lt
        have yr3 := r3.cell
        have zr3 := r3.lt
        go_wp2_with fail
        refine Calls.mono (number_q w.heap.size _) ?_
        rintro e W8 ⟨rfl, hW⟩
        subst hW
        clear yr1 yr3 zr1 zr3
        have yr1 := r1.cell
        have zr1 := r1.lt
        have yr3 := r3.cell
        have zr3 := r3.lt
        go_wp2_with fail
        refine Calls.mono (CQ.out _) ?_
        rintro e V8 ⟨rfl, hn⟩
        clear yr1 yr3 zr1 zr3
        replace r1 := r1.on hn
        replace r3 := r3.on hn
        replace q0 := q0.on hn
        replace it := it.on hn
        replace hB2 := hB2.on hn
        replace hc := chain hc hn
        clear hn
        have QQ := Lib.hid (q0.on (below_alloc V8 (.cells #[.string (txtB 113 x)] 9)))
        have HSRC := Lib.hid (str_src1 V8 (txtB 113 x))
        have HCC := Lib.hid (hc.alloc hc.size (.cells #[.string (txtB 113 x)] 9))
        have hn := below_alloc V8 (.cells #[.string (txtB 113 x)] 9)
        have HR1 := Lib.hid (r1.on hn)
        have HR3 := Lib.hid (r3.on hn)
        have HIT := Lib.hid (it.on hn)
        have hB3 := (hB2.on hn).le
        have hBl := hB2.le
        clear hn q0 hB2
        have yr1 := r1.cell
        have zr1 := r1.lt
        have yr3 := r3.cell
        have zr3 := r3.lt
        go_wp2_with (at_builtin; refine wpList_append_own _ rfl _ _ 47 rfl B 9 i0 (.string ⟨#[]⟩) 1 16 Tryz.underlying47 HI0.out HZ0.out HZ1.out HZ2.out rfl (by decide) _ _ _ rfl QQ.out ⟨V8.heap.size, 0, none⟩ 1 1 [.string (txtB 113 x)] rfl rfl HSRC.out (by intro u hu; simp at hu; subst hu; rfl) (by unfold maxLen; omega) (by omega) (by first | omega | (simp; omega)) ?_)
        clear yr1 yr3 zr1 zr3
        intro v2 w9 hown hgrow hnil
        have hlo9 : ∀ k, _ = some k → B ≤ k := fun k hk => (World.ownsRow.lt QQ.out k hk).1
        have hc9 := HCC.out.grown hgrow (by first | omega | (simp; omega)) (fun k hk => Nat.le_trans hB (hlo9 k hk))
        have r1 : Row w9 w.heap.size (flC kd x) 23 := ⟨(hgrow.block _ HR1.out.lt (row_ne HR1.out (by decide) QQ.out)).trans HR1.out.eq⟩
        have r3 : Row w9 b3 #[.string wd, .string ps] 44 := ⟨(hgrow.block _ HR3.out.lt (row_ne HR3.out (by decide) QQ.out)).trans HR3.out.eq⟩
        have it : It w9 bi ps (j + 1) := ⟨(hgrow.block _ HIT.out.lt (it_ne HIT.out QQ.out)).trans HIT.out.eq⟩
        have q9 : OwnsS B w9 v2 (wd :: ((partsK kd).take (j + 1)).map (txtB · x)) := by
          rw [← HLS.out (txtB 113 x) rfl]
          unfold OwnsS
          simpa using hown
        have hB9 : Ge B w9 := ⟨Nat.le_trans hB3 hgrow.size⟩
        have HQ9 := Lib.hid q9
        have HIT9 := Lib.hid it
        clear hown hgrow hnil hc HCC HR1 HR3 HIT QQ q9 hlo9 it
        have yr1 := r1.cell
        have zr1 := r1.lt
        have yr3 := r3.cell
        have zr3 := r3.lt
        go_wp2_with fail
        clear yr1 yr3 zr1 zr3
        have hps9 := HIT9.out.pos
        go_roundw
        case rel => exact ⟨j + 1, by omega, HQ9.out, r1, r3, HIT9.out, hc9, hB9⟩
        case measure => rw [hps9, hpw]; omega
      · clear hmem hlet HPK HA3 e107 e113
        have yr1 := r1.cell
        have zr1 := r1.lt
        have yr3 := r3.cell
        have zr3 := r3.lt
        go_wp2_with fail
        refine Calls.mono (number_a w.heap.size _) ?_
        rintro e W8 ⟨rfl, hW⟩
        subst hW
        clear yr1 yr3 zr1 zr3
        have hxt : x.tag = txtB 97 x := str_ext (by simp [txtB, txt, fOf])
        have HXT := Lib.hid hxt
        clear hxt
        have QQ := Lib.hid (q0.on (below_alloc W8 (.cells #[.string x.tag] 9)))
        have HSRC := Lib.hid (str_src1 W8 x.tag)
        have HCC := Lib.hid (hc.alloc hc.size (.cells #[.string x.tag] 9))
        have hn := below_alloc W8 (.cells #[.string x.tag] 9)
        have HR1 := Lib.hid (r1.on hn)
        have HR3 := Lib.hid (r3.on hn)
        have HIT := Lib.hid (it.on hn)
        have hB3 := (hB2.on hn).le
        have hBl := hB2.le
        clear hn q0 hB2
        have yr1 := r1.cell
        have zr1 := r1.lt
        have yr3 := r3.cell
        have zr3 := r3.lt
        go_wp2_with (at_builtin; refine wpList_append_own _ rfl _ _ 47 rfl B 9 i0 (.string ⟨#[]⟩) 1 16 Tryz.underlying47 HI0.out HZ0.out HZ1.out HZ2.out rfl (by decide) _ _ _ rfl QQ.out ⟨W8.heap.size, 0, none⟩ 1 1 [.string x.tag] rfl rfl HSRC.out (by intro u hu; simp at hu; subst hu; rfl) (by unfold maxLen; omega) (by omega) (by first | omega | (simp; omega)) ?_)
        clear yr1 yr3 zr1 zr3
        intro v2 w9 hown hgrow hnil
        have hlo9 : ∀ k, _ = some k → B ≤ k := fun k hk => (World.ownsRow.lt QQ.out k hk).1
        have hc9 := HCC.out.grown hgrow (by first | omega | (simp; omega)) (fun k hk => Nat.le_trans hB (hlo9 k hk))
        have r1 : Row w9 w.heap.size (flC kd x) 23 := ⟨(hgrow.block _ HR1.out.lt (row_ne HR1.out (by decide) QQ.out)).trans HR1.out.eq⟩
        have r3 : Row w9 b3 #[.string wd, .string ps] 44 := ⟨(hgrow.block _ HR3.out.lt (row_ne HR3.out (by decide) QQ.out)).trans HR3.out.eq⟩
        have it : It w9 bi ps (j + 1) := ⟨(hgrow.block _ HIT.out.lt (it_ne HIT.out QQ.out)).trans HIT.out.eq⟩
        have q9 : OwnsS B w9 v2 (wd :: ((partsK kd).take (j + 1)).map (txtB · x)) := by
          rw [← HLS.out x.tag HXT.out]
          unfold OwnsS
          simpa using hown
        have hB9 : Ge B w9 := ⟨Nat.le_trans hB3 hgrow.size⟩
        have HQ9 := Lib.hid q9
        have HIT9 := Lib.hid it
        clear hown hgrow hnil hc HCC HR1 HR3 HIT QQ q9 hlo9 it
        have yr1 := r1.cell
        have zr1 := r1.lt
        have yr3 := r3.cell
        have zr3 := r3.lt
        go_wp2_with fail
        clear yr1 yr3 zr1 zr3
        have hps9 := HIT9.out.pos
        go_roundw
        case rel => exact ⟨j + 1, by omega, HQ9.out, r1, r3, HIT9.out, hc9, hB9⟩
        case measure => rw [hps9, hpw]; omega
    · have ej : j = ps.size := by omega
      have et : (partsK kd).take j = partsK kd := List.take_of_length_le (by omega)
      rw [et] at q0
      have hx := it.done (by omega)
      have hll : (wd :: (partsK kd).map (txtB · x)).length ≤ 10 := by simp; omega
      have hne : (wd :: (partsK kd).map (txtB · x)) ≠ [] := by simp
      have hsz : ∀ y ∈ (wd :: (partsK kd).map (txtB · x)), y.size ≤ 10000000 := by
        intro y hy
        rcases List.mem_cons.1 hy with rfl | hy
        · exact hwl
        · obtain ⟨c, _, rfl⟩ := List.mem_map.1 hy
          have := HLEN.out c
          show (txt c x).toArray.size ≤ _
          simp; omega
      generalize hLL : (wd :: (partsK kd).map (txtB · x)) = LL at q0 hll hne hsz
      obtain ⟨gg, cc, rfl, hg1, hg2, hg3⟩ := q0.cell hne
      have hj := Tryz.strings_Join gg 0 cc LL ⟨#[32]⟩ wr hg3 hg1 (by omega) hg2 (join_len _ hll hsz)
      have HJ := Lib.hid hj
      have HLL := Lib.hid hLL
      clear hj q0 hg3 hg2 et ej hLL hsz hne
      have yr1 := r1.cell
      have zr1 := r1.lt
      have yr3 := r3.cell
      have zr3 := r3.lt
      go_wp2_with fail
      refine Calls.mono HJ.out ?_
      rintro e w10 ⟨rfl, hb⟩
      have hc10 := chain hc hb
      clear yr1 yr3 zr1 zr3
      clear hx
      go_wp2_with fail
      go_returns
      exact ⟨by rw [HLL.out]; rfl, hc10⟩
end Go.Proofs.YthkngleegefgbaaGreatDoor

/- What reading a part gives (plain); a block that a call has moved. -/
namespace Go.Proofs.YthkngleegefgbaaGreatDoor
open Go.RowKit
open Go.Lib (decDigits)
set_option linter.unusedVariables false
set_option linter.unusedSimpArgs false
/-- Block b has new cells; whatever else was there stands. -/
structure MvB (b : Nat) (t : TypeId) (cs : Array Value) (w w' : World) : Prop where
  row : Row w' b cs t
  keep : ∀ (i : Nat) (o : Obj), i ≠ b → w.heap[i]? = some o → w'.heap[i]? = some o
  below : ∀ (B : Nat) (w0 : World), B ≤ b → Below B w0 w → Below B w0 w'
  size : w.heap.size ≤ w'.heap.size
theorem MvB.on {b : Nat} {t : TypeId} {cs : Array Value} {w w1 w2 : World} (h : MvB b t cs w w1) (hb : Below w1.heap.size w1 w2) : MvB b t cs w w2 :=
  ⟨h.row.on hb, fun i o hi ho => by
    have h1 := h.keep i o hi ho
    exact (hb.block i (Array.getElem?_eq_some_iff.1 h1).1).trans h1, fun B w0 hB hw => (h.below B w0 hB hw).trans (hb.mono (Nat.le_trans hB (Nat.le_of_lt h.row.lt))), Nat.le_trans h.size hb.size⟩
theorem MvB.rowOf {b : Nat} {t : TypeId} {cs : Array Value} {w w1 : World} (h : MvB b t cs w w1) {x : Nat} {cs' : Array Value} {t' : TypeId} (r : Row w x cs' t') (hx : x ≠ b) : Row w1 x cs' t' := ⟨h.keep x _ hx r.eq⟩
theorem MvB.itOf {b : Nat} {t : TypeId} {cs cs0 : Array Value} {t0 : TypeId} {w w1 : World} (h : MvB b t cs w w1) (hr : Row w b cs0 t0) {x p : Nat} {s : ByteArray} (r : It w x s p) : It w1 x s p := ⟨h.keep x _ (hr.ne_iter r).symm r.eq⟩
theorem mvB_refl {b : Nat} {t : TypeId} {cs : Array Value} {w : World} (hr : Row w b cs t) : MvB b t cs w w := ⟨hr, fun _ _ _ h => h, fun _ _ _ h => h, Nat.le_refl _⟩
theorem mvB_of {b : Nat} {t : TypeId} {cs0 : Array Value} {w w1 : World} (hr : Row w b cs0 t) (hb : Below w.heap.size w w1) (j : Nat) (v : Value) : MvB b t (cs0.setIfInBounds j v) w (w1.setCell ⟨b, j, none⟩ v) := by
  refine ⟨(hr.on hb).set j v, fun i o hi ho => ?_, fun B w0 hB hw => ?_, ?_⟩
  · exact (Below.heap_setCell w1 ⟨b, j, none⟩ v i hi).trans ((hb.block i (Array.getElem?_eq_some_iff.1 ho).1).trans ho)
  · exact (hw.trans (hb.mono (Nat.le_trans hB (Nat.le_of_lt hr.lt)))).setCell (p := ⟨b, j, none⟩) hB _
  · have := hb.size
    simpa using this
/-- The parts that are to be found. -/
structure Fit (ch : UInt8) (y : Fl) : Prop where
  num : ∀ c, -1 ≤ fv c y ∧ fv c y ≤ 1048576
  kind : ch = 107 → 1 ≤ y.a ∧ y.a ≤ 3
  quo : ch = 113 → tagOk y.tag.data.toList = true
  ans : ch = 97 → (32 : UInt8) ∉ y.tag.data.toList
structure TakeR (ch : UInt8) (s : List UInt8) (x x' : Fl) (rest : List UInt8) (ok : Bool) : Prop where
  fld : ∃ y, x' = put ch y x
  sound : ok = true → (ch = 107 → 1 ≤ x'.a ∧ x'.a ≤ 3) → s = txt ch x' ++ rest
  compl : ∀ (y : Fl) (ps : List (List UInt8)), Fit ch y → (ch = 113 → ps = []) → s = txt ch y ++ tailL ps → ok = true ∧ x' = put ch y x ∧ rest = tailL ps
  len : rest.length ≤ s.length
  tsz : x'.tag.size ≤ x.tag.size ∨ x'.tag.size ≤ s.length
def flN (v : Int) : Fl := ⟨v, v, v, v, ⟨#[]⟩⟩
theorem put_self (ch : UInt8) (x : Fl) : put ch x x = x := by cases x; simp [put]
theorem put_cells {ch : UInt8} (h : ch ∈ numericL) (kd v : Int) (x : Fl) : flC kd (put ch (flN v) x) = (flC kd x).setIfInBounds (fOf ch) (.int .i64 v) := by
  unfold put
  rcases numeric_f h with e | e | e | e <;> rw [e] <;> rfl
theorem put_num {ch : UInt8} (h : ch ∈ numericL) (x y : Fl) : put ch (flN (fv ch y)) x = put ch y x := by
  unfold put fv
  rcases numeric_f h with e | e | e | e <;> rw [e] <;> rfl
theorem fv_put {ch : UInt8} (h : ch ∈ numericL) (v : Int) (x : Fl) : fv ch (put ch (flN v) x) = v := by
  unfold put fv
  rcases numeric_f h with e | e | e | e <;> rw [e] <;> rfl
theorem atoi_numL (z : Int) (h1 : -1 ≤ z) (h2 : z ≤ 1048576) : Lib.atoiAll (numL z) = .ok z := by
  unfold numL
  split
  · obtain rfl : z = -1 := by omega
    rw [show (-1 : Int).natAbs = 1 from rfl, decDigits_step, if_pos (by decide)]
    rfl
  · have := atoi_dec z.natAbs (by omega)
    rw [show (z.natAbs : Int) = z by omega] at this
    exact this
theorem put_tag {ch : UInt8} (h : ch ∈ numericL) (v : Int) (x : Fl) : (put ch (flN v) x).tag = x.tag := by
  unfold put
  rcases numeric_f h with e | e | e | e <;> rw [e] <;> rfl
theorem take_num {ch : UInt8} (h : ch ∈ numericL) (hk : ch ≠ 107) (s : List UInt8) (x : Fl) (v : Int) (hv : Lib.atoiAll (hdW s) = .ok v) : TakeR ch s x (put ch (flN v) x) (s.drop (hdW s).length) (numL v == hdW s) := by
  refine ⟨⟨_, rfl⟩, fun hok _ => ?_, fun y ps hf _ hs => ?_, by simp, .inl (by rw [put_tag h]; exact Nat.le_refl _)⟩
  · rw [beq_iff_eq] at hok
    rw [txt_num h hk, fv_put h, hok]
    exact hdW_pre s
  · rw [txt_num h hk] at hs
    obtain ⟨h1, h2⟩ := hdW_tail (numL_no32 (fv ch y)) ps
    rw [← hs] at h1 h2
    have hz := atoi_numL (fv ch y) (hf.num ch).1 (hf.num ch).2
    rw [← h1, hv] at hz
    injection hz with hz
    subst hz
    exact ⟨by rw [h1]; simp, put_num h x y, by rw [h1]; exact h2⟩
theorem take_bad {ch : UInt8} (h : ch ∈ numericL) (hk : ch ≠ 107) (s : List UInt8) (x : Fl) (v : Int) (hv : ∀ v, Lib.atoiAll (hdW s) ≠ .ok v) : TakeR ch s x (put ch (flN v) x) (s.drop (hdW s).length) false := by
  refine ⟨⟨_, rfl⟩, fun hok => (by cases hok), fun y ps hf _ hs => ?_, by simp, .inl (by rw [put_tag h]; exact Nat.le_refl _)⟩
  rw [txt_num h hk] at hs
  obtain ⟨h1, h2⟩ := hdW_tail (numL_no32 (fv ch y)) ps
  rw [← hs] at h1 h2
  have hz := atoi_numL (fv ch y) (hf.num ch).1 (hf.num ch).2
  rw [← h1] at hz
  exact absurd hz (hv _)
/-- The letter of a kind. -/
theorem take_kind (s : List UInt8) (x : Fl) (v : Int) (hv : v = Lib.index [102, 98, 108] (hdW s) + 1) : TakeR 107 s x (put 107 (flN v) x) (s.drop (hdW s).length) (decide ((hdW s).length = 1)) := by
  have hp := hdW_pre s
  have key : ∀ c : UInt8, Lib.index [102, 98, 108] [c] = if c = 102 then 0 else if c = 98 then 1 else if c = 108 then 2 else -1 := fun c => by
    simp only [Lib.index, List.isPrefixOf, Bool.and_true, List.isEmpty_cons, Bool.false_eq_true, if_false]
    by_cases h1 : c = 102
    · subst h1; rfl
    · by_cases h2 : c = 98
      · subst h2; rfl
      · by_cases h3 : c = 108
        · subst h3; rfl
        · simp [h1, h2, h3]
  refine ⟨⟨_, rfl⟩, fun hok hr => ?_, fun y ps hf _ hs => ?_, by simp, .inl (Nat.le_refl _)⟩
  · rw [decide_eq_true_iff] at hok
    obtain ⟨c, hc⟩ := List.length_eq_one_iff.1 hok
    have hr := hr rfl
    change 1 ≤ v ∧ v ≤ 3 at hr
    rw [hc, key] at hv
    show s = [letterB v] ++ _
    have hl : [letterB v] = hdW s := by
      rw [hc, hv]
      rw [hv] at hr
      split
      · rename_i h; rw [h]; rfl
      · split
        · rename_i h; rw [h]; rfl
        · split
          · rename_i h; rw [h]; rfl
          · rename_i h1 h2 h3; rw [if_neg h1, if_neg h2, if_neg h3] at hr; omega
    rw [hl]
    exact hp
  · have hs : s = [letterB y.a] ++ tailL ps := hs
    obtain ⟨h1, h2⟩ := hdW_tail (x := [letterB y.a]) (by simp only [List.mem_singleton]; exact letterB_no32 y.a) ps
    rw [← hs] at h1 h2
    have ha := hf.kind rfl
    rw [h1, key] at hv
    have hva : v = y.a := by
      rw [hv]
      rcases (by omega : y.a = 1 ∨ y.a = 2 ∨ y.a = 3) with e | e | e <;> rw [e] <;> rfl
    subst hva
    refine ⟨by rw [h1]; rfl, ?_, by rw [h1]; exact h2⟩
    exact put_num (ch := 107) (by decide) x y
def flT (t : ByteArray) : Fl := ⟨0, 0, 0, 0, t⟩
theorem take_ans (s : List UInt8) (x : Fl) : TakeR 97 s x (put 97 (flT ⟨(hdW s).toArray⟩) x) (s.drop (hdW s).length) true := by
  refine ⟨⟨_, rfl⟩, fun _ _ => ?_, fun y ps hf _ hs => ?_, by simp, .inr ?_⟩
  · show s = hdW s ++ _
    exact hdW_pre s
  · have hs : s = y.tag.data.toList ++ tailL ps := hs
    obtain ⟨h1, h2⟩ := hdW_tail (hf.ans rfl) ps
    rw [← hs] at h1 h2
    refine ⟨rfl, ?_, by rw [h1]; exact h2⟩
    show ({ x with tag := ⟨(hdW s).toArray⟩ } : Fl) = { x with tag := y.tag }
    rw [h1]
  · show (hdW s).toArray.size ≤ s.length
    have := congrArg List.length (hdW_pre s)
    simp at this ⊢
    omega
theorem take_quo (s : List UInt8) (x : Fl) (t : List UInt8) (n : Nat) (h : unqL s = (t, n, 0)) : TakeR 113 s x (put 113 (flT ⟨t.toArray⟩) x) (s.drop n) true := by
  obtain ⟨h1, h2, r, h3⟩ := unqL_ok h rfl
  refine ⟨⟨_, rfl⟩, fun _ _ => ?_, fun y ps hf hp hs => ?_, by simp, .inr ?_⟩
  · show s = quoteL t ++ _
    rw [h2, h3]; simp
  · have hp := hp rfl
    subst hp
    have hs : s = quoteL y.tag.data.toList ++ [] := hs
    have hu := unqL_quote (hf.quo rfl) []
    rw [← hs, h] at hu
    injection hu with e1 e2
    injection e2 with e2 _
    refine ⟨rfl, ?_, ?_⟩
    · show ({ x with tag := ⟨t.toArray⟩ } : Fl) = { x with tag := y.tag }
      rw [show (⟨t.toArray⟩ : ByteArray) = y.tag from str_ext (by rw [e1])]
    · rw [e2, hs]; simp [tailL]
  · show t.toArray.size ≤ s.length
    have h4 := (escL_len t).1
    rw [h3]
    unfold quoteL
    simp
    omega
theorem take_quo_bad (s : List UInt8) (x : Fl) (e : Int) (t : List UInt8) (n : Nat) (h : unqL s = (t, n, e)) (he : e ≠ 0) : TakeR 113 s x x [] false := by
  refine ⟨⟨x, (put_self _ _).symm⟩, fun hok => (by cases hok), fun y ps hf hp hs => ?_, by simp, .inl (Nat.le_refl _)⟩
  have hp := hp rfl
  subst hp
  have hs : s = quoteL y.tag.data.toList ++ [] := hs
  have hu := unqL_quote (hf.quo rfl) []
  rw [← hs, h] at hu
  injection hu with e1 e2
  injection e2 with e2 e3
  exact absurd e3 he
theorem unq_err (s : List UInt8) : ∃ t n e, unqL s = (t, n, e) := ⟨_, _, _, rfl⟩
end Go.Proofs.YthkngleegefgbaaGreatDoor

/- The program's take: its contract. -/
namespace Go.Proofs.YthkngleegefgbaaGreatDoor
open Go.RowKit
set_option linter.unusedVariables false
set_option linter.unusedSimpArgs false
set_option maxHeartbeats 40000000
set_option maxRecDepth 20000
/-- Where the first word ends. -/
theorem head_ends (s : ByteArray) : ∃ n : Nat, n = (hdW s.data.toList).length ∧ n ≤ s.size ∧ s.extract 0 n = ⟨(hdW s.data.toList).toArray⟩ ∧ s.extract n s.size = ⟨(s.data.toList.drop n).toArray⟩ ∧
    ((Lib.indexByte s.data.toList 32 = -1 ∧ n = s.size) ∨ Lib.indexByte s.data.toList 32 = n) := by
  have hl := len_bytes s
  rcases mem_split s.data.toList 32 with h | ⟨pre, post, h1, h2⟩
  · have e : hdW s.data.toList = s.data.toList := by unfold hdW; rw [cut_no _ _ h]
    refine ⟨s.size, by rw [e, hl], Nat.le_refl _, ?_, ?_, .inl ⟨indexByte_no _ _ h, rfl⟩⟩
    · apply str_ext
      rw [Lib.extract_data, e]
      simp
      rw [← hl, List.take_length]
    · apply str_ext
      rw [Lib.extract_to_end]
  · have e : hdW s.data.toList = pre := by unfold hdW; rw [h2, cut_at _ _ _ h1]
    refine ⟨pre.length, by rw [e], by rw [← hl, h2]; simp, ?_, ?_, .inr (by rw [h2, indexByte_at _ _ _ h1])⟩
    · apply str_ext
      rw [Lib.extract_data, e, h2]
      simp
    · apply str_ext
      rw [Lib.extract_to_end]
def TakeP (kd : Int) (ch : UInt8) (s : ByteArray) (x : Fl) (b : Nat) (w : World) (e : Ending) (w' : World) : Prop :=
  ∃ (x' : Fl) (rest : ByteArray) (ok : Bool), e = .returned (.tuple #[.string rest, .bool ok]) ∧ MvB b 23 (flC kd x') w w' ∧ TakeR ch s.data.toList x x' rest.data.toList ok
theorem take_num_ok {ch : UInt8} (hnum : ch ∈ numericL) (hk : ch ≠ 107) (kd : Int) (x : Fl) (s : ByteArray) (hs : s.size ≤ 100000) (b : Nat) (w0 w : World) (hE0 : EnvP w0) (hB : Below w0.heap.size w0 w) (hp : w0.heap.size ≤ b) (hr : Row w b (flC kd x) 23) (v : Int) (hv : Lib.atoiAll (hdW s.data.toList) = .ok v) (v0 : -9223372036854775808 ≤ v) (v1 : v ≤ 9223372036854775807) :
    Calls Tryz.prog 39 #[.pointer (some ⟨b, 0, none⟩), .int .i32 ch.toNat, .string s] w (TakeP kd ch s x b w) := by
  obtain ⟨n, hn, hns, sr, sp, hix⟩ := head_ends s
  have ci := fun W => Tryz.strings_IndexByte s 32 W
  rw [show ((32 : Int).toNat.toUInt8 : UInt8) = 32 from rfl] at ci
  have hdl : (s.data.toList.drop n) = s.data.toList.drop (hdW s.data.toList).length := by rw [hn]
  have hwl := len_bytes (⟨(hdW s.data.toList).toArray⟩ : ByteArray)
  have hwt : (⟨(hdW s.data.toList).toArray⟩ : ByteArray).data.toList = hdW s.data.toList := by simp
  have hws : (⟨(hdW s.data.toList).toArray⟩ : ByteArray).size ≤ 100000 := by
    have h1 : (hdW s.data.toList).length ≤ s.size := by rw [← hn]; exact hns
    rw [hwt] at hwl
    omega
  obtain ⟨lo, hi0, hnum2⟩ := number_f hnum b
  have HN := Lib.hid hnum2
  have e107 := ch_beq (c := ch) (n := 107) (by decide)
  have e113 := ch_beq (c := ch) (n := 113) (by decide)
  change _ = decide (ch = 107) at e107
  change _ = decide (ch = 113) at e113
  rw [decide_eq_false hk] at e107
  rw [decide_eq_false (by intro e; subst e; revert hnum; decide)] at e113
  have hT := take_num hnum hk s.data.toList x v hv
  have ca := fun W => atoi_ok ⟨(hdW s.data.toList).toArray⟩ hws v (by rw [hwt]; exact hv) W
  have ct := fun W hW => strconv_Itoa v W hW v0 v1
  have HT := Lib.hid hT
  have CA := Lib.hid ca
  have CT := Lib.hid ct
  have hE := hE0.on hB
  have HNN := Lib.hid hn
  have HWT := Lib.hid hwt
  clear hT ca ct hnum2 hdl hwl hws hv hn hwt
  generalize hWD : (⟨(hdW s.data.toList).toArray⟩ : ByteArray) = wd at *
  rcases hix with ⟨hi, rfl⟩ | hi
  · rw [hi] at ci
    have CI := Lib.hid ci
    clear ci hi
    have yf : w.cell? ⟨b, fOf ch, none⟩ = some (.int .i64 (fv ch x)) := (hr.cell _).trans (fv_cell hnum kd x)
    have HYF := Lib.hid yf
    clear yf
    go_enter Tryz.func39, Tryz.ntmps39
    go_wp2_with fail
    refine Calls.mono (HN.out _ hr.lt) ?_
    rintro e W8 ⟨rfl, hW⟩
    subst W8
    go_wp2_with fail
    refine Calls.mono (CI.out _) ?_
    rintro e W9 ⟨rfl, hW⟩
    subst W9
    go_wp2_with fail
    refine Calls.mono (CA.out _) ?_
    rintro e W1 ⟨rfl, hb⟩
    have yf : W1.cell? ⟨b, fOf ch, none⟩ = some (.int .i64 (fv ch x)) := (hb.cell (p := ⟨b, fOf ch, none⟩) hr.lt).trans HYF.out
    have uf : W1.frozen? ⟨b, fOf ch, none⟩ = false := (hr.on hb).free _
    have hmv := mvB_of hr hb (fOf ch) (.int .i64 v)
    rw [← put_cells hnum] at hmv
    have HMV := Lib.hid hmv
    clear hmv
    go_upto_region 20 with fail
    clear yf uf HYF
    have hmv := HMV.out
    have hEe : Env (W1.setCell ⟨b, fOf ch, none⟩ (.int .i64 v)) := (hE0.on (hmv.below _ w0 hp hB)).toEnv
    generalize W1.setCell ⟨b, fOf ch, none⟩ (.int .i64 v) = X at *
    clear HMV
    refine wp_region_held_drew (S := fun _ => True) (by kernel_rfl) trivial (fun hHeld => ?_)
    replace hmv : MvB b 23 (flC kd (put ch (flN v) x)) w X.drew := hmv.on (Below.refl _ _).drew
    replace hEe := hEe.drew
    generalize X.drew = X at *
    refine' wpAnyH_take (i := 0) (oi := _) (v := _) ?_ (by kernel_rfl) (by kernel_rfl) (by kernel_rfl) ?_ (Or.inl ⟨?_, ?_⟩) (by assumption) ?_
    rotate_left 2
    · (simp only [List.getElem?_toArray, List.getElem?_cons_succ, List.getElem?_cons_zero]; rfl)
    · first | exact fun _ _ _ h => h | exact fun _ _ _ h => nomatch h.1
    · rfl
    · (intro W hSW; (try dsimp only at hSW); go_split_ands; first | (go_simp; done) | (go_simp; with_reducible rfl))
    try simp only [Act.put, List.setIfInBounds_toArray, List.set_cons_zero, List.set_cons_succ]
    refine' wpAnyH_take (i := 1) (oi := _) (v := _) ?_ (by kernel_rfl) (by kernel_rfl) (by kernel_rfl) ?_ (Or.inl ⟨?_, ?_⟩) (by assumption) ?_
    rotate_left 2
    · (simp only [List.getElem?_toArray, List.getElem?_cons_succ, List.getElem?_cons_zero]; rfl)
    · first | exact fun _ _ _ h => h | exact fun _ _ _ h => nomatch h.1
    · rfl
    · (intro W hSW; (try dsimp only at hSW); go_split_ands; first | (go_simp; done) | (go_simp; with_reducible rfl))
    try simp only [Act.put, List.setIfInBounds_toArray, List.set_cons_zero, List.set_cons_succ]
    refine' wpAnyH_take (i := 2) (oi := _) (v := _) ?_ (by kernel_rfl) (by kernel_rfl) (by kernel_rfl) ?_ (Or.inl ⟨?_, ?_⟩) (by assumption) ?_
    rotate_left 2
    · (simp only [List.getElem?_toArray, List.getElem?_cons_succ, List.getElem?_cons_zero]; rfl)
    · first | exact fun _ _ _ h => h | exact fun _ _ _ h => nomatch h.1
    · rfl
    · (intro W hSW; (try dsimp only at hSW); go_split_ands; first | (go_simp; done) | (go_simp; with_reducible rfl))
    try simp only [Act.put, List.setIfInBounds_toArray, List.set_cons_zero, List.set_cons_succ]
    refine' wpAnyH_take (i := 3) (oi := _) (v := _) ?_ (by kernel_rfl) (by kernel_rfl) (by kernel_rfl) ?_ (Or.inl ⟨?_, ?_⟩) (by assumption) ?_
    rotate_left 2
    · (simp only [List.getElem?_toArray, List.getElem?_cons_succ, List.getElem?_cons_zero]; rfl)
    · first | exact fun _ _ _ h => h | exact fun _ _ _ h => nomatch h.1
    · rfl
    · (intro W hSW; (try dsimp only at hSW); go_split_ands; first | (go_simp; done) | (go_simp; with_reducible rfl))
    try simp only [Act.put, List.setIfInBounds_toArray, List.set_cons_zero, List.set_cons_succ]
    refine' wpAnyH_take (i := 4) (oi := _) (v := _) ?_ (by kernel_rfl) (by kernel_rfl) (by kernel_rfl) ?_ (Or.inl ⟨?_, ?_⟩) (by assumption) ?_
    rotate_left 2
    · (simp only [List.getElem?_toArray, List.getElem?_cons_succ, List.getElem?_cons_zero]; rfl)
    · first | exact fun _ _ _ h => h | exact fun _ _ _ h => nomatch h.1
    · rfl
    · (intro W hSW; (try dsimp only at hSW); go_split_ands; first | (go_simp; done) | (go_simp; with_reducible rfl))
    try simp only [Act.put, List.setIfInBounds_toArray, List.set_cons_zero, List.set_cons_succ]
    refine' wpAnyH_take (i := 5) (oi := _) (v := _) ?_ (by kernel_rfl) (by kernel_rfl) (by kernel_rfl) ?_ (Or.inl ⟨?_, ?_⟩) (by assumption) ?_
    rotate_left 2
    · (simp only [List.getElem?_toArray, List.getElem?_cons_succ, List.getElem?_cons_zero]; rfl)
    · first | exact fun _ _ _ h => h | exact fun _ _ _ h => nomatch h.1
    · rfl
    · (intro W hSW; (try dsimp only at hSW); go_split_ands; first | (go_simp; done) | (go_simp; with_reducible rfl))
    try simp only [Act.put, List.setIfInBounds_toArray, List.set_cons_zero, List.set_cons_succ]
    refine' wpAnyH_take (i := 6) (oi := _) (v := _) ?_ (by kernel_rfl) (by kernel_rfl) (by kernel_rfl) ?_ (Or.inl ⟨?_, ?_⟩) (by assumption) ?_
    rotate_left 2
    · (simp only [List.getElem?_toArray, List.getElem?_cons_succ, List.getElem?_cons_zero]; rfl)
    · first | exact fun _ _ _ h => h | exact fun _ _ _ h => nomatch h.1
    · rfl
    · (intro W hSW; (try dsimp only at hSW); go_split_ands; first | (go_simp; done) | (go_simp; with_reducible rfl))
    try simp only [Act.put, List.setIfInBounds_toArray, List.set_cons_zero, List.set_cons_succ]
    refine' wpAnyH_take (i := 8) (oi := _) (v := _) ?_ (by kernel_rfl) (by kernel_rfl) (by kernel_rfl) ?_ (Or.inl ⟨?_, ?_⟩) (by assumption) ?_
    rotate_left 2
    · (simp only [List.getElem?_toArray, List.getElem?_cons_succ, List.getElem?_cons_zero]; rfl)
    · first | exact fun _ _ _ h => h | exact fun _ _ _ h => nomatch h.1
    · rfl
    · (intro W hSW; (try dsimp only at hSW); go_split_ands; first | (go_simp; done) | (go_simp; with_reducible rfl))
    try simp only [Act.put, List.setIfInBounds_toArray, List.set_cons_zero, List.set_cons_succ]
    clear hHeld
    refine wpAnyH_ready (rs := [7]) (by kernel_rfl) (by simp) ?_
    refine' AllReadyH.cons (o := _) ?_ (fun K hK => ?_) AllReadyH.nil
    rotate_left 1
    · (simp only [List.getElem?_toArray, List.getElem?_cons_succ, List.getElem?_cons_zero]; rfl)
    go_simp
    refine (CT.out _ hEe).mono ?_
    rintro e X2 ⟨rfl, hb2⟩
    go_simp
    refine hK.out _ _ trivial (fun hHeld => ?_)
    clear hK K
    replace hmv := hmv.on hb2
    refine' wpAnyH_take (i := 9) (oi := _) (v := _) ?_ (by kernel_rfl) (by kernel_rfl) (by kernel_rfl) ?_ (Or.inl ⟨?_, ?_⟩) (by assumption) ?_
    rotate_left 2
    · (simp only [List.getElem?_toArray, List.getElem?_cons_succ, List.getElem?_cons_zero]; rfl)
    · first | exact fun _ _ _ h => h | exact fun _ _ _ h => nomatch h.1
    · rfl
    · (intro W hSW; (try dsimp only at hSW); go_split_ands; first | (go_simp; done) | (go_simp; with_reducible rfl))
    try simp only [Act.put, List.setIfInBounds_toArray, List.set_cons_zero, List.set_cons_succ]
    refine' wpAnyH_take (i := 10) (oi := _) (v := _) ?_ (by kernel_rfl) (by kernel_rfl) (by kernel_rfl) ?_ (Or.inl ⟨?_, ?_⟩) (by assumption) ?_
    rotate_left 2
    · (simp only [List.getElem?_toArray, List.getElem?_cons_succ, List.getElem?_cons_zero]; rfl)
    · first | exact fun _ _ _ h => h | exact fun _ _ _ h => nomatch h.1
    · rfl
    · (intro W hSW; (try dsimp only at hSW); go_split_ands; first | (go_simp; done) | (go_simp; with_reducible rfl))
    try simp only [Act.put, List.setIfInBounds_toArray, List.set_cons_zero, List.set_cons_succ]
    refine' wpAnyH_take (i := 11) (oi := _) (v := _) ?_ (by kernel_rfl) (by kernel_rfl) (by kernel_rfl) ?_ (Or.inl ⟨?_, ?_⟩) (by assumption) ?_
    rotate_left 2
    · (simp only [List.getElem?_toArray, List.getElem?_cons_succ, List.getElem?_cons_zero]; rfl)
    · first | exact fun _ _ _ h => h | exact fun _ _ _ h => nomatch h.1
    · rfl
    · (intro W hSW; (try dsimp only at hSW); go_split_ands; first | (go_simp; done) | (go_simp; with_reducible rfl))
    try simp only [Act.put, List.setIfInBounds_toArray, List.set_cons_zero, List.set_cons_succ]
    refine' wpAnyH_take (i := 12) (oi := _) (v := _) ?_ (by kernel_rfl) (by kernel_rfl) (by kernel_rfl) ?_ (Or.inl ⟨?_, ?_⟩) (by assumption) ?_
    rotate_left 2
    · (simp only [List.getElem?_toArray, List.getElem?_cons_succ, List.getElem?_cons_zero]; rfl)
    · first | exact fun _ _ _ h => h | exact fun _ _ _ h => nomatch h.1
    · rfl
    · (intro W hSW; (try dsimp only at hSW); go_split_ands; first | (go_simp; done) | (go_simp; with_reducible rfl))
    try simp only [Act.put, List.setIfInBounds_toArray, List.set_cons_zero, List.set_cons_succ]
    clear hHeld
    refine wpAnyH_done (by kernel_rfl) ?_ _
    have hok : (Lib.itoa v == wd.toList) = (numL v == hdW s.data.toList) := by rw [itoa_num, ByteArray.toList_eq, HWT.out]
    go_wp2_with fail
    refine bodyPost_ret (v := .tuple #[.string ⟨#[]⟩, .bool (Lib.itoa v == wd.toList)]) (by simp [results, Tryz.results39, go_sem]; rfl) rfl ⟨put ch (flN v) x, ⟨#[]⟩, (Lib.itoa v == wd.toList), rfl, hmv, ?_⟩
    rw [hok]
    have ht := HT.out
    rw [← HNN.out] at ht
    rw [List.drop_of_length_le (by rw [len_bytes]; exact Nat.le_refl _)] at ht
    exact ht
  · rw [hi] at ci
    have q0 : (0 : Int) ≤ n := by omega
    have q1 : (n : Int) ≤ s.size := by omega
    have CI := Lib.hid ci
    clear ci hi
    have yf : w.cell? ⟨b, fOf ch, none⟩ = some (.int .i64 (fv ch x)) := (hr.cell _).trans (fv_cell hnum kd x)
    have HYF := Lib.hid yf
    clear yf
    go_enter Tryz.func39, Tryz.ntmps39
    go_wp2_with fail
    refine Calls.mono (HN.out _ hr.lt) ?_
    rintro e W8 ⟨rfl, hW⟩
    subst W8
    go_wp2_with fail
    refine Calls.mono (CI.out _) ?_
    rintro e W9 ⟨rfl, hW⟩
    subst W9
    go_wp2_with fail
    refine Calls.mono (CA.out _) ?_
    rintro e W1 ⟨rfl, hb⟩
    have yf : W1.cell? ⟨b, fOf ch, none⟩ = some (.int .i64 (fv ch x)) := (hb.cell (p := ⟨b, fOf ch, none⟩) hr.lt).trans HYF.out
    have uf : W1.frozen? ⟨b, fOf ch, none⟩ = false := (hr.on hb).free _
    have hmv := mvB_of hr hb (fOf ch) (.int .i64 v)
    rw [← put_cells hnum] at hmv
    have HMV := Lib.hid hmv
    clear hmv
    go_upto_region 20 with fail
    clear yf uf HYF
    have hmv := HMV.out
    have hEe : Env (W1.setCell ⟨b, fOf ch, none⟩ (.int .i64 v)) := (hE0.on (hmv.below _ w0 hp hB)).toEnv
    generalize W1.setCell ⟨b, fOf ch, none⟩ (.int .i64 v) = X at *
    clear HMV
    refine wp_region_held_drew (S := fun _ => True) (by kernel_rfl) trivial (fun hHeld => ?_)
    replace hmv : MvB b 23 (flC kd (put ch (flN v) x)) w X.drew := hmv.on (Below.refl _ _).drew
    replace hEe := hEe.drew
    generalize X.drew = X at *
    refine' wpAnyH_take (i := 0) (oi := _) (v := _) ?_ (by kernel_rfl) (by kernel_rfl) (by kernel_rfl) ?_ (Or.inl ⟨?_, ?_⟩) (by assumption) ?_
    rotate_left 2
    · (simp only [List.getElem?_toArray, List.getElem?_cons_succ, List.getElem?_cons_zero]; rfl)
    · first | exact fun _ _ _ h => h | exact fun _ _ _ h => nomatch h.1
    · rfl
    · (intro W hSW; (try dsimp only at hSW); go_split_ands; first | (go_simp; done) | (go_simp; with_reducible rfl))
    try simp only [Act.put, List.setIfInBounds_toArray, List.set_cons_zero, List.set_cons_succ]
    refine' wpAnyH_take (i := 1) (oi := _) (v := _) ?_ (by kernel_rfl) (by kernel_rfl) (by kernel_rfl) ?_ (Or.inl ⟨?_, ?_⟩) (by assumption) ?_
    rotate_left 2
    · (simp only [List.getElem?_toArray, List.getElem?_cons_succ, List.getElem?_cons_zero]; rfl)
    · first | exact fun _ _ _ h => h | exact fun _ _ _ h => nomatch h.1
    · rfl
    · (intro W hSW; (try dsimp only at hSW); go_split_ands; first | (go_simp; done) | (go_simp; with_reducible rfl))
    try simp only [Act.put, List.setIfInBounds_toArray, List.set_cons_zero, List.set_cons_succ]
    refine' wpAnyH_take (i := 2) (oi := _) (v := _) ?_ (by kernel_rfl) (by kernel_rfl) (by kernel_rfl) ?_ (Or.inl ⟨?_, ?_⟩) (by assumption) ?_
    rotate_left 2
    · (simp only [List.getElem?_toArray, List.getElem?_cons_succ, List.getElem?_cons_zero]; rfl)
    · first | exact fun _ _ _ h => h | exact fun _ _ _ h => nomatch h.1
    · rfl
    · (intro W hSW; (try dsimp only at hSW); go_split_ands; first | (go_simp; done) | (go_simp; with_reducible rfl))
    try simp only [Act.put, List.setIfInBounds_toArray, List.set_cons_zero, List.set_cons_succ]
    refine' wpAnyH_take (i := 3) (oi := _) (v := _) ?_ (by kernel_rfl) (by kernel_rfl) (by kernel_rfl) ?_ (Or.inl ⟨?_, ?_⟩) (by assumption) ?_
    rotate_left 2
    · (simp only [List.getElem?_toArray, List.getElem?_cons_succ, List.getElem?_cons_zero]; rfl)
    · first | exact fun _ _ _ h => h | exact fun _ _ _ h => nomatch h.1
    · rfl
    · (intro W hSW; (try dsimp only at hSW); go_split_ands; first | (go_simp; done) | (go_simp; with_reducible rfl))
    try simp only [Act.put, List.setIfInBounds_toArray, List.set_cons_zero, List.set_cons_succ]
    refine' wpAnyH_take (i := 4) (oi := _) (v := _) ?_ (by kernel_rfl) (by kernel_rfl) (by kernel_rfl) ?_ (Or.inl ⟨?_, ?_⟩) (by assumption) ?_
    rotate_left 2
    · (simp only [List.getElem?_toArray, List.getElem?_cons_succ, List.getElem?_cons_zero]; rfl)
    · first | exact fun _ _ _ h => h | exact fun _ _ _ h => nomatch h.1
    · rfl
    · (intro W hSW; (try dsimp only at hSW); go_split_ands; first | (go_simp; done) | (go_simp; with_reducible rfl))
    try simp only [Act.put, List.setIfInBounds_toArray, List.set_cons_zero, List.set_cons_succ]
    refine' wpAnyH_take (i := 5) (oi := _) (v := _) ?_ (by kernel_rfl) (by kernel_rfl) (by kernel_rfl) ?_ (Or.inl ⟨?_, ?_⟩) (by assumption) ?_
    rotate_left 2
    · (simp only [List.getElem?_toArray, List.getElem?_cons_succ, List.getElem?_cons_zero]; rfl)
    · first | exact fun _ _ _ h => h | exact fun _ _ _ h => nomatch h.1
    · rfl
    · (intro W hSW; (try dsimp only at hSW); go_split_ands; first | (go_simp; done) | (go_simp; with_reducible rfl))
    try simp only [Act.put, List.setIfInBounds_toArray, List.set_cons_zero, List.set_cons_succ]
    refine' wpAnyH_take (i := 6) (oi := _) (v := _) ?_ (by kernel_rfl) (by kernel_rfl) (by kernel_rfl) ?_ (Or.inl ⟨?_, ?_⟩) (by assumption) ?_
    rotate_left 2
    · (simp only [List.getElem?_toArray, List.getElem?_cons_succ, List.getElem?_cons_zero]; rfl)
    · first | exact fun _ _ _ h => h | exact fun _ _ _ h => nomatch h.1
    · rfl
    · (intro W hSW; (try dsimp only at hSW); go_split_ands; first | (go_simp; done) | (go_simp; with_reducible rfl))
    try simp only [Act.put, List.setIfInBounds_toArray, List.set_cons_zero, List.set_cons_succ]
    refine' wpAnyH_take (i := 8) (oi := _) (v := _) ?_ (by kernel_rfl) (by kernel_rfl) (by kernel_rfl) ?_ (Or.inl ⟨?_, ?_⟩) (by assumption) ?_
    rotate_left 2
    · (simp only [List.getElem?_toArray, List.getElem?_cons_succ, List.getElem?_cons_zero]; rfl)
    · first | exact fun _ _ _ h => h | exact fun _ _ _ h => nomatch h.1
    · rfl
    · (intro W hSW; (try dsimp only at hSW); go_split_ands; first | (go_simp; done) | (go_simp; with_reducible rfl))
    try simp only [Act.put, List.setIfInBounds_toArray, List.set_cons_zero, List.set_cons_succ]
    clear hHeld
    refine wpAnyH_ready (rs := [7]) (by kernel_rfl) (by simp) ?_
    refine' AllReadyH.cons (o := _) ?_ (fun K hK => ?_) AllReadyH.nil
    rotate_left 1
    · (simp only [List.getElem?_toArray, List.getElem?_cons_succ, List.getElem?_cons_zero]; rfl)
    go_simp
    refine (CT.out _ hEe).mono ?_
    rintro e X2 ⟨rfl, hb2⟩
    go_simp
    refine hK.out _ _ trivial (fun hHeld => ?_)
    clear hK K
    replace hmv := hmv.on hb2
    refine' wpAnyH_take (i := 9) (oi := _) (v := _) ?_ (by kernel_rfl) (by kernel_rfl) (by kernel_rfl) ?_ (Or.inl ⟨?_, ?_⟩) (by assumption) ?_
    rotate_left 2
    · (simp only [List.getElem?_toArray, List.getElem?_cons_succ, List.getElem?_cons_zero]; rfl)
    · first | exact fun _ _ _ h => h | exact fun _ _ _ h => nomatch h.1
    · rfl
    · (intro W hSW; (try dsimp only at hSW); go_split_ands; first | (go_simp; done) | (go_simp; with_reducible rfl))
    try simp only [Act.put, List.setIfInBounds_toArray, List.set_cons_zero, List.set_cons_succ]
    refine' wpAnyH_take (i := 10) (oi := _) (v := _) ?_ (by kernel_rfl) (by kernel_rfl) (by kernel_rfl) ?_ (Or.inl ⟨?_, ?_⟩) (by assumption) ?_
    rotate_left 2
    · (simp only [List.getElem?_toArray, List.getElem?_cons_succ, List.getElem?_cons_zero]; rfl)
    · first | exact fun _ _ _ h => h | exact fun _ _ _ h => nomatch h.1
    · rfl
    · (intro W hSW; (try dsimp only at hSW); go_split_ands; first | (go_simp; done) | (go_simp; with_reducible rfl))
    try simp only [Act.put, List.setIfInBounds_toArray, List.set_cons_zero, List.set_cons_succ]
    refine' wpAnyH_take (i := 11) (oi := _) (v := _) ?_ (by kernel_rfl) (by kernel_rfl) (by kernel_rfl) ?_ (Or.inl ⟨?_, ?_⟩) (by assumption) ?_
    rotate_left 2
    · (simp only [List.getElem?_toArray, List.getElem?_cons_succ, List.getElem?_cons_zero]; rfl)
    · first | exact fun _ _ _ h => h | exact fun _ _ _ h => nomatch h.1
    · rfl
    · (intro W hSW; (try dsimp only at hSW); go_split_ands; first | (go_simp; done) | (go_simp; with_reducible rfl))
    try simp only [Act.put, List.setIfInBounds_toArray, List.set_cons_zero, List.set_cons_succ]
    refine' wpAnyH_take (i := 12) (oi := _) (v := _) ?_ (by kernel_rfl) (by kernel_rfl) (by kernel_rfl) ?_ (Or.inl ⟨?_, ?_⟩) (by assumption) ?_
    rotate_left 2
    · (simp only [List.getElem?_toArray, List.getElem?_cons_succ, List.getElem?_cons_zero]; rfl)
    · first | exact fun _ _ _ h => h | exact fun _ _ _ h => nomatch h.1
    · rfl
    · (intro W hSW; (try dsimp only at hSW); go_split_ands; first | (go_simp; done) | (go_simp; with_reducible rfl))
    try simp only [Act.put, List.setIfInBounds_toArray, List.set_cons_zero, List.set_cons_succ]
    clear hHeld
    refine wpAnyH_done (by kernel_rfl) ?_ _
    have hok : (Lib.itoa v == wd.toList) = (numL v == hdW s.data.toList) := by rw [itoa_num, ByteArray.toList_eq, HWT.out]
    go_wp2_with fail
    refine bodyPost_ret (v := .tuple #[.string ⟨(s.data.toList.drop n).toArray⟩, .bool (Lib.itoa v == wd.toList)]) (by simp [results, Tryz.results39, go_sem]) rfl ⟨put ch (flN v) x, ⟨(s.data.toList.drop n).toArray⟩, (Lib.itoa v == wd.toList), rfl, hmv, ?_⟩
    rw [hok]
    have ht := HT.out
    rw [← HNN.out] at ht
    simpa using ht
theorem take_num_bad {ch : UInt8} (hnum : ch ∈ numericL) (hk : ch ≠ 107) (kd : Int) (x : Fl) (s : ByteArray) (hs : s.size ≤ 100000) (b : Nat) (w0 w : World) (hE0 : EnvP w0) (hB : Below w0.heap.size w0 w) (hp : w0.heap.size ≤ b) (hr : Row w b (flC kd x) 23) (hv : ∀ v, Lib.atoiAll (hdW s.data.toList) ≠ .ok v) :
    Calls Tryz.prog 39 #[.pointer (some ⟨b, 0, none⟩), .int .i32 ch.toNat, .string s] w (TakeP kd ch s x b w) := by
  obtain ⟨n, hn, hns, sr, sp, hix⟩ := head_ends s
  have ci := fun W => Tryz.strings_IndexByte s 32 W
  rw [show ((32 : Int).toNat.toUInt8 : UInt8) = 32 from rfl] at ci
  have hdl : (s.data.toList.drop n) = s.data.toList.drop (hdW s.data.toList).length := by rw [hn]
  have hwl := len_bytes (⟨(hdW s.data.toList).toArray⟩ : ByteArray)
  have hwt : (⟨(hdW s.data.toList).toArray⟩ : ByteArray).data.toList = hdW s.data.toList := by simp
  have hws : (⟨(hdW s.data.toList).toArray⟩ : ByteArray).size ≤ 100000 := by
    have h1 : (hdW s.data.toList).length ≤ s.size := by rw [← hn]; exact hns
    rw [hwt] at hwl
    omega
  obtain ⟨lo, hi0, hnum2⟩ := number_f hnum b
  have HN := Lib.hid hnum2
  have e107 := ch_beq (c := ch) (n := 107) (by decide)
  have e113 := ch_beq (c := ch) (n := 113) (by decide)
  change _ = decide (ch = 107) at e107
  change _ = decide (ch = 113) at e113
  rw [decide_eq_false hk] at e107
  rw [decide_eq_false (by intro e; subst e; revert hnum; decide)] at e113
  have hT := fun v => take_bad hnum hk s.data.toList x v hv
  have ca := fun W hW => atoi_bad ⟨(hdW s.data.toList).toArray⟩ hws (by rw [hwt]; exact hv) W hW
  have ct : True := trivial
  have HT := Lib.hid hT
  have CA := Lib.hid ca
  have CT := Lib.hid ct
  have hE := hE0.on hB
  have HNN := Lib.hid hn
  have HWT := Lib.hid hwt
  clear hT ca ct hnum2 hdl hwl hws hv hn hwt
  generalize hWD : (⟨(hdW s.data.toList).toArray⟩ : ByteArray) = wd at *
  rcases hix with ⟨hi, rfl⟩ | hi
  · rw [hi] at ci
    have CI := Lib.hid ci
    clear ci hi
    have yf : w.cell? ⟨b, fOf ch, none⟩ = some (.int .i64 (fv ch x)) := (hr.cell _).trans (fv_cell hnum kd x)
    have HYF := Lib.hid yf
    clear yf
    go_enter Tryz.func39, Tryz.ntmps39
    go_wp2_with fail
    refine Calls.mono (HN.out _ hr.lt) ?_
    rintro e W8 ⟨rfl, hW⟩
    subst W8
    go_wp2_with fail
    refine Calls.mono (CI.out _) ?_
    rintro e W9 ⟨rfl, hW⟩
    subst W9
    go_wp2_with fail
    refine Calls.mono (CA.out _ hE) ?_
    rintro e W1 ⟨v, N0, rfl, hb⟩
    have yf : W1.cell? ⟨b, fOf ch, none⟩ = some (.int .i64 (fv ch x)) := (hb.cell (p := ⟨b, fOf ch, none⟩) hr.lt).trans HYF.out
    have uf : W1.frozen? ⟨b, fOf ch, none⟩ = false := (hr.on hb).free _
    have hmv := mvB_of hr hb (fOf ch) (.int .i64 v)
    rw [← put_cells hnum] at hmv
    have HMV := Lib.hid hmv
    clear hmv
    go_upto_region 20 with fail
    clear yf uf HYF
    have hmv := HMV.out
    have hEe : Env (W1.setCell ⟨b, fOf ch, none⟩ (.int .i64 v)) := (hE0.on (hmv.below _ w0 hp hB)).toEnv
    generalize W1.setCell ⟨b, fOf ch, none⟩ (.int .i64 v) = X at *
    clear HMV
    refine wp_region_held_drew (S := fun _ => True) (by kernel_rfl) trivial (fun hHeld => ?_)
    replace hmv : MvB b 23 (flC kd (put ch (flN v) x)) w X.drew := hmv.on (Below.refl _ _).drew
    replace hEe := hEe.drew
    generalize X.drew = X at *
    refine' wpAnyH_take (i := 0) (oi := _) (v := _) ?_ (by kernel_rfl) (by kernel_rfl) (by kernel_rfl) ?_ (Or.inl ⟨?_, ?_⟩) (by assumption) ?_
    rotate_left 2
    · (simp only [List.getElem?_toArray, List.getElem?_cons_succ, List.getElem?_cons_zero]; rfl)
    · first | exact fun _ _ _ h => h | exact fun _ _ _ h => nomatch h.1
    · rfl
    · (intro W hSW; (try dsimp only at hSW); go_split_ands; first | (go_simp; done) | (go_simp; with_reducible rfl))
    try simp only [Act.put, List.setIfInBounds_toArray, List.set_cons_zero, List.set_cons_succ]
    refine' wpAnyH_take (i := 1) (oi := _) (v := _) ?_ (by kernel_rfl) (by kernel_rfl) (by kernel_rfl) ?_ (Or.inl ⟨?_, ?_⟩) (by assumption) ?_
    rotate_left 2
    · (simp only [List.getElem?_toArray, List.getElem?_cons_succ, List.getElem?_cons_zero]; rfl)
    · first | exact fun _ _ _ h => h | exact fun _ _ _ h => nomatch h.1
    · rfl
    · (intro W hSW; (try dsimp only at hSW); go_split_ands; first | (go_simp; done) | (go_simp; with_reducible rfl))
    try simp only [Act.put, List.setIfInBounds_toArray, List.set_cons_zero, List.set_cons_succ]
    refine' wpAnyH_take (i := 2) (oi := _) (v := _) ?_ (by kernel_rfl) (by kernel_rfl) (by kernel_rfl) ?_ (Or.inl ⟨?_, ?_⟩) (by assumption) ?_
    rotate_left 2
    · (simp only [List.getElem?_toArray, List.getElem?_cons_succ, List.getElem?_cons_zero]; rfl)
    · first | exact fun _ _ _ h => h | exact fun _ _ _ h => nomatch h.1
    · rfl
    · (intro W hSW; (try dsimp only at hSW); go_split_ands; first | (go_simp; done) | (go_simp; with_reducible rfl))
    try simp only [Act.put, List.setIfInBounds_toArray, List.set_cons_zero, List.set_cons_succ]
    refine' wpAnyH_take (i := 3) (oi := _) (v := _) ?_ (by kernel_rfl) (by kernel_rfl) (by kernel_rfl) ?_ (Or.inl ⟨?_, ?_⟩) (by assumption) ?_
    rotate_left 2
    · (simp only [List.getElem?_toArray, List.getElem?_cons_succ, List.getElem?_cons_zero]; rfl)
    · first | exact fun _ _ _ h => h | exact fun _ _ _ h => nomatch h.1
    · rfl
    · (intro W hSW; (try dsimp only at hSW); go_split_ands; first | (go_simp; done) | (go_simp; with_reducible rfl))
    try simp only [Act.put, List.setIfInBounds_toArray, List.set_cons_zero, List.set_cons_succ]
    refine' wpAnyH_take (i := 4) (oi := _) (v := _) ?_ (by kernel_rfl) (by kernel_rfl) (by kernel_rfl) ?_ (Or.inl ⟨?_, ?_⟩) (by assumption) ?_
    rotate_left 2
    · (simp only [List.getElem?_toArray, List.getElem?_cons_succ, List.getElem?_cons_zero]; rfl)
    · first | exact fun _ _ _ h => h | exact fun _ _ _ h => nomatch h.1
    · rfl
    · (intro W hSW; (try dsimp only at hSW); go_split_ands; first | (go_simp; done) | (go_simp; with_reducible rfl))
    try simp only [Act.put, List.setIfInBounds_toArray, List.set_cons_zero, List.set_cons_succ]
    refine' wpAnyH_take (i := 5) (oi := _) (v := _) ?_ (by kernel_rfl) (by kernel_rfl) (by kernel_rfl) ?_ (Or.inl ⟨?_, ?_⟩) (by assumption) ?_
    rotate_left 2
    · (simp only [List.getElem?_toArray, List.getElem?_cons_succ, List.getElem?_cons_zero]; rfl)
    · first | exact fun _ _ _ h => h | exact fun _ _ _ h => nomatch h.1
    · rfl
    · (intro W hSW; (try dsimp only at hSW); go_split_ands; first | (go_simp; done) | (go_simp; with_reducible rfl))
    try simp only [Act.put, List.setIfInBounds_toArray, List.set_cons_zero, List.set_cons_succ]
    refine' wpAnyH_take (i := 6) (oi := _) (v := _) ?_ (by kernel_rfl) (by kernel_rfl) (by kernel_rfl) ?_ (Or.inr ⟨?_, rfl⟩) (by assumption) ?_
    rotate_left 1
    · (simp only [List.getElem?_toArray, List.getElem?_cons_succ, List.getElem?_cons_zero]; rfl)
    · first | exact fun _ _ _ h => h | exact fun _ _ _ h => nomatch h.1
    · rfl
    try simp only [Act.put, List.setIfInBounds_toArray, List.set_cons_zero, List.set_cons_succ]
    refine' wpAnyH_take (i := 7) (oi := _) (v := _) ?_ (by kernel_rfl) (by kernel_rfl) (by kernel_rfl) ?_ (Or.inr ⟨?_, rfl⟩) (by assumption) ?_
    rotate_left 1
    · (simp only [List.getElem?_toArray, List.getElem?_cons_succ, List.getElem?_cons_zero]; rfl)
    · first | exact fun _ _ _ h => h | exact fun _ _ _ h => nomatch h.1
    · rfl
    try simp only [Act.put, List.setIfInBounds_toArray, List.set_cons_zero, List.set_cons_succ]
    refine' wpAnyH_take (i := 8) (oi := _) (v := _) ?_ (by kernel_rfl) (by kernel_rfl) (by kernel_rfl) ?_ (Or.inr ⟨?_, rfl⟩) (by assumption) ?_
    rotate_left 1
    · (simp only [List.getElem?_toArray, List.getElem?_cons_succ, List.getElem?_cons_zero]; rfl)
    · first | exact fun _ _ _ h => h | exact fun _ _ _ h => nomatch h.1
    · rfl
    try simp only [Act.put, List.setIfInBounds_toArray, List.set_cons_zero, List.set_cons_succ]
    refine' wpAnyH_take (i := 9) (oi := _) (v := _) ?_ (by kernel_rfl) (by kernel_rfl) (by kernel_rfl) ?_ (Or.inr ⟨?_, rfl⟩) (by assumption) ?_
    rotate_left 1
    · (simp only [List.getElem?_toArray, List.getElem?_cons_succ, List.getElem?_cons_zero]; rfl)
    · first | exact fun _ _ _ h => h | exact fun _ _ _ h => nomatch h.1
    · rfl
    try simp only [Act.put, List.setIfInBounds_toArray, List.set_cons_zero, List.set_cons_succ]
    refine' wpAnyH_take (i := 10) (oi := _) (v := _) ?_ (by kernel_rfl) (by kernel_rfl) (by kernel_rfl) ?_ (Or.inl ⟨?_, ?_⟩) (by assumption) ?_
    rotate_left 2
    · (simp only [List.getElem?_toArray, List.getElem?_cons_succ, List.getElem?_cons_zero]; rfl)
    · first | exact fun _ _ _ h => h | exact fun _ _ _ h => nomatch h.1
    · rfl
    · (intro W hSW; (try dsimp only at hSW); go_split_ands; first | (go_simp; done) | (go_simp; with_reducible rfl))
    try simp only [Act.put, List.setIfInBounds_toArray, List.set_cons_zero, List.set_cons_succ]
    refine' wpAnyH_take (i := 11) (oi := _) (v := _) ?_ (by kernel_rfl) (by kernel_rfl) (by kernel_rfl) ?_ (Or.inl ⟨?_, ?_⟩) (by assumption) ?_
    rotate_left 2
    · (simp only [List.getElem?_toArray, List.getElem?_cons_succ, List.getElem?_cons_zero]; rfl)
    · first | exact fun _ _ _ h => h | exact fun _ _ _ h => nomatch h.1
    · rfl
    · (intro W hSW; (try dsimp only at hSW); go_split_ands; first | (go_simp; done) | (go_simp; with_reducible rfl))
    try simp only [Act.put, List.setIfInBounds_toArray, List.set_cons_zero, List.set_cons_succ]
    refine' wpAnyH_take (i := 12) (oi := _) (v := _) ?_ (by kernel_rfl) (by kernel_rfl) (by kernel_rfl) ?_ (Or.inl ⟨?_, ?_⟩) (by assumption) ?_
    rotate_left 2
    · (simp only [List.getElem?_toArray, List.getElem?_cons_succ, List.getElem?_cons_zero]; rfl)
    · first | exact fun _ _ _ h => h | exact fun _ _ _ h => nomatch h.1
    · rfl
    · (intro W hSW; (try dsimp only at hSW); go_split_ands; first | (go_simp; done) | (go_simp; with_reducible rfl))
    try simp only [Act.put, List.setIfInBounds_toArray, List.set_cons_zero, List.set_cons_succ]
    clear hHeld
    refine wpAnyH_done (by kernel_rfl) ?_ _
    go_wp2_with fail
    refine bodyPost_ret (v := .tuple #[.string ⟨#[]⟩, .bool false]) (by simp [results, Tryz.results39, go_sem]; rfl) rfl ⟨put ch (flN v) x, ⟨#[]⟩, false, rfl, hmv, ?_⟩
    have ht := HT.out v
    rw [← HNN.out] at ht
    rw [List.drop_of_length_le (by rw [len_bytes]; exact Nat.le_refl _)] at ht
    exact ht
  · rw [hi] at ci
    have q0 : (0 : Int) ≤ n := by omega
    have q1 : (n : Int) ≤ s.size := by omega
    have CI := Lib.hid ci
    clear ci hi
    have yf : w.cell? ⟨b, fOf ch, none⟩ = some (.int .i64 (fv ch x)) := (hr.cell _).trans (fv_cell hnum kd x)
    have HYF := Lib.hid yf
    clear yf
    go_enter Tryz.func39, Tryz.ntmps39
    go_wp2_with fail
    refine Calls.mono (HN.out _ hr.lt) ?_
    rintro e W8 ⟨rfl, hW⟩
    subst W8
    go_wp2_with fail
    refine Calls.mono (CI.out _) ?_
    rintro e W9 ⟨rfl, hW⟩
    subst W9
    go_wp2_with fail
    refine Calls.mono (CA.out _ hE) ?_
    rintro e W1 ⟨v, N0, rfl, hb⟩
    have yf : W1.cell? ⟨b, fOf ch, none⟩ = some (.int .i64 (fv ch x)) := (hb.cell (p := ⟨b, fOf ch, none⟩) hr.lt).trans HYF.out
    have uf : W1.frozen? ⟨b, fOf ch, none⟩ = false := (hr.on hb).free _
    have hmv := mvB_of hr hb (fOf ch) (.int .i64 v)
    rw [← put_cells hnum] at hmv
    have HMV := Lib.hid hmv
    clear hmv
    go_upto_region 20 with fail
    clear yf uf HYF
    have hmv := HMV.out
    have hEe : Env (W1.setCell ⟨b, fOf ch, none⟩ (.int .i64 v)) := (hE0.on (hmv.below _ w0 hp hB)).toEnv
    generalize W1.setCell ⟨b, fOf ch, none⟩ (.int .i64 v) = X at *
    clear HMV
    refine wp_region_held_drew (S := fun _ => True) (by kernel_rfl) trivial (fun hHeld => ?_)
    replace hmv : MvB b 23 (flC kd (put ch (flN v) x)) w X.drew := hmv.on (Below.refl _ _).drew
    replace hEe := hEe.drew
    generalize X.drew = X at *
    refine' wpAnyH_take (i := 0) (oi := _) (v := _) ?_ (by kernel_rfl) (by kernel_rfl) (by kernel_rfl) ?_ (Or.inl ⟨?_, ?_⟩) (by assumption) ?_
    rotate_left 2
    · (simp only [List.getElem?_toArray, List.getElem?_cons_succ, List.getElem?_cons_zero]; rfl)
    · first | exact fun _ _ _ h => h | exact fun _ _ _ h => nomatch h.1
    · rfl
    · (intro W hSW; (try dsimp only at hSW); go_split_ands; first | (go_simp; done) | (go_simp; with_reducible rfl))
    try simp only [Act.put, List.setIfInBounds_toArray, List.set_cons_zero, List.set_cons_succ]
    refine' wpAnyH_take (i := 1) (oi := _) (v := _) ?_ (by kernel_rfl) (by kernel_rfl) (by kernel_rfl) ?_ (Or.inl ⟨?_, ?_⟩) (by assumption) ?_
    rotate_left 2
    · (simp only [List.getElem?_toArray, List.getElem?_cons_succ, List.getElem?_cons_zero]; rfl)
    · first | exact fun _ _ _ h => h | exact fun _ _ _ h => nomatch h.1
    · rfl
    · (intro W hSW; (try dsimp only at hSW); go_split_ands; first | (go_simp; done) | (go_simp; with_reducible rfl))
    try simp only [Act.put, List.setIfInBounds_toArray, List.set_cons_zero, List.set_cons_succ]
    refine' wpAnyH_take (i := 2) (oi := _) (v := _) ?_ (by kernel_rfl) (by kernel_rfl) (by kernel_rfl) ?_ (Or.inl ⟨?_, ?_⟩) (by assumption) ?_
    rotate_left 2
    · (simp only [List.getElem?_toArray, List.getElem?_cons_succ, List.getElem?_cons_zero]; rfl)
    · first | exact fun _ _ _ h => h | exact fun _ _ _ h => nomatch h.1
    · rfl
    · (intro W hSW; (try dsimp only at hSW); go_split_ands; first | (go_simp; done) | (go_simp; with_reducible rfl))
    try simp only [Act.put, List.setIfInBounds_toArray, List.set_cons_zero, List.set_cons_succ]
    refine' wpAnyH_take (i := 3) (oi := _) (v := _) ?_ (by kernel_rfl) (by kernel_rfl) (by kernel_rfl) ?_ (Or.inl ⟨?_, ?_⟩) (by assumption) ?_
    rotate_left 2
    · (simp only [List.getElem?_toArray, List.getElem?_cons_succ, List.getElem?_cons_zero]; rfl)
    · first | exact fun _ _ _ h => h | exact fun _ _ _ h => nomatch h.1
    · rfl
    · (intro W hSW; (try dsimp only at hSW); go_split_ands; first | (go_simp; done) | (go_simp; with_reducible rfl))
    try simp only [Act.put, List.setIfInBounds_toArray, List.set_cons_zero, List.set_cons_succ]
    refine' wpAnyH_take (i := 4) (oi := _) (v := _) ?_ (by kernel_rfl) (by kernel_rfl) (by kernel_rfl) ?_ (Or.inl ⟨?_, ?_⟩) (by assumption) ?_
    rotate_left 2
    · (simp only [List.getElem?_toArray, List.getElem?_cons_succ, List.getElem?_cons_zero]; rfl)
    · first | exact fun _ _ _ h => h | exact fun _ _ _ h => nomatch h.1
    · rfl
    · (intro W hSW; (try dsimp only at hSW); go_split_ands; first | (go_simp; done) | (go_simp; with_reducible rfl))
    try simp only [Act.put, List.setIfInBounds_toArray, List.set_cons_zero, List.set_cons_succ]
    refine' wpAnyH_take (i := 5) (oi := _) (v := _) ?_ (by kernel_rfl) (by kernel_rfl) (by kernel_rfl) ?_ (Or.inl ⟨?_, ?_⟩) (by assumption) ?_
    rotate_left 2
    · (simp only [List.getElem?_toArray, List.getElem?_cons_succ, List.getElem?_cons_zero]; rfl)
    · first | exact fun _ _ _ h => h | exact fun _ _ _ h => nomatch h.1
    · rfl
    · (intro W hSW; (try dsimp only at hSW); go_split_ands; first | (go_simp; done) | (go_simp; with_reducible rfl))
    try simp only [Act.put, List.setIfInBounds_toArray, List.set_cons_zero, List.set_cons_succ]
    refine' wpAnyH_take (i := 6) (oi := _) (v := _) ?_ (by kernel_rfl) (by kernel_rfl) (by kernel_rfl) ?_ (Or.inr ⟨?_, rfl⟩) (by assumption) ?_
    rotate_left 1
    · (simp only [List.getElem?_toArray, List.getElem?_cons_succ, List.getElem?_cons_zero]; rfl)
    · first | exact fun _ _ _ h => h | exact fun _ _ _ h => nomatch h.1
    · rfl
    try simp only [Act.put, List.setIfInBounds_toArray, List.set_cons_zero, List.set_cons_succ]
    refine' wpAnyH_take (i := 7) (oi := _) (v := _) ?_ (by kernel_rfl) (by kernel_rfl) (by kernel_rfl) ?_ (Or.inr ⟨?_, rfl⟩) (by assumption) ?_
    rotate_left 1
    · (simp only [List.getElem?_toArray, List.getElem?_cons_succ, List.getElem?_cons_zero]; rfl)
    · first | exact fun _ _ _ h => h | exact fun _ _ _ h => nomatch h.1
    · rfl
    try simp only [Act.put, List.setIfInBounds_toArray, List.set_cons_zero, List.set_cons_succ]
    refine' wpAnyH_take (i := 8) (oi := _) (v := _) ?_ (by kernel_rfl) (by kernel_rfl) (by kernel_rfl) ?_ (Or.inr ⟨?_, rfl⟩) (by assumption) ?_
    rotate_left 1
    · (simp only [List.getElem?_toArray, List.getElem?_cons_succ, List.getElem?_cons_zero]; rfl)
    · first | exact fun _ _ _ h => h | exact fun _ _ _ h => nomatch h.1
    · rfl
    try simp only [Act.put, List.setIfInBounds_toArray, List.set_cons_zero, List.set_cons_succ]
    refine' wpAnyH_take (i := 9) (oi := _) (v := _) ?_ (by kernel_rfl) (by kernel_rfl) (by kernel_rfl) ?_ (Or.inr ⟨?_, rfl⟩) (by assumption) ?_
    rotate_left 1
    · (simp only [List.getElem?_toArray, List.getElem?_cons_succ, List.getElem?_cons_zero]; rfl)
    · first | exact fun _ _ _ h => h | exact fun _ _ _ h => nomatch h.1
    · rfl
    try simp only [Act.put, List.setIfInBounds_toArray, List.set_cons_zero, List.set_cons_succ]
    refine' wpAnyH_take (i := 10) (oi := _) (v := _) ?_ (by kernel_rfl) (by kernel_rfl) (by kernel_rfl) ?_ (Or.inl ⟨?_, ?_⟩) (by assumption) ?_
    rotate_left 2
    · (simp only [List.getElem?_toArray, List.getElem?_cons_succ, List.getElem?_cons_zero]; rfl)
    · first | exact fun _ _ _ h => h | exact fun _ _ _ h => nomatch h.1
    · rfl
    · (intro W hSW; (try dsimp only at hSW); go_split_ands; first | (go_simp; done) | (go_simp; with_reducible rfl))
    try simp only [Act.put, List.setIfInBounds_toArray, List.set_cons_zero, List.set_cons_succ]
    refine' wpAnyH_take (i := 11) (oi := _) (v := _) ?_ (by kernel_rfl) (by kernel_rfl) (by kernel_rfl) ?_ (Or.inl ⟨?_, ?_⟩) (by assumption) ?_
    rotate_left 2
    · (simp only [List.getElem?_toArray, List.getElem?_cons_succ, List.getElem?_cons_zero]; rfl)
    · first | exact fun _ _ _ h => h | exact fun _ _ _ h => nomatch h.1
    · rfl
    · (intro W hSW; (try dsimp only at hSW); go_split_ands; first | (go_simp; done) | (go_simp; with_reducible rfl))
    try simp only [Act.put, List.setIfInBounds_toArray, List.set_cons_zero, List.set_cons_succ]
    refine' wpAnyH_take (i := 12) (oi := _) (v := _) ?_ (by kernel_rfl) (by kernel_rfl) (by kernel_rfl) ?_ (Or.inl ⟨?_, ?_⟩) (by assumption) ?_
    rotate_left 2
    · (simp only [List.getElem?_toArray, List.getElem?_cons_succ, List.getElem?_cons_zero]; rfl)
    · first | exact fun _ _ _ h => h | exact fun _ _ _ h => nomatch h.1
    · rfl
    · (intro W hSW; (try dsimp only at hSW); go_split_ands; first | (go_simp; done) | (go_simp; with_reducible rfl))
    try simp only [Act.put, List.setIfInBounds_toArray, List.set_cons_zero, List.set_cons_succ]
    clear hHeld
    refine wpAnyH_done (by kernel_rfl) ?_ _
    go_wp2_with fail
    refine bodyPost_ret (v := .tuple #[.string ⟨(s.data.toList.drop n).toArray⟩, .bool false]) (by simp [results, Tryz.results39, go_sem]) rfl ⟨put ch (flN v) x, ⟨(s.data.toList.drop n).toArray⟩, false, rfl, hmv, ?_⟩
    have ht := HT.out v
    rw [← HNN.out] at ht
    simpa using ht
theorem take_k (kd : Int) (x : Fl) (s : ByteArray) (hs : s.size ≤ 100000) (b : Nat) (w0 w : World) (hE0 : EnvP w0) (hB : Below w0.heap.size w0 w) (hp : w0.heap.size ≤ b) (hr : Row w b (flC kd x) 23) :
    Calls Tryz.prog 39 #[.pointer (some ⟨b, 0, none⟩), .int .i32 107, .string s] w (TakeP kd 107 s x b w) := by
  obtain ⟨n, hn, hns, sr, sp, hix⟩ := head_ends s
  have ci := fun W => Tryz.strings_IndexByte s 32 W
  rw [show ((32 : Int).toNat.toUInt8 : UInt8) = 32 from rfl] at ci
  have hdl : (s.data.toList.drop n) = s.data.toList.drop (hdW s.data.toList).length := by rw [hn]
  have hwl := len_bytes (⟨(hdW s.data.toList).toArray⟩ : ByteArray)
  have hwt : (⟨(hdW s.data.toList).toArray⟩ : ByteArray).data.toList = hdW s.data.toList := by simp
  have hws : (⟨(hdW s.data.toList).toArray⟩ : ByteArray).size ≤ 100000 := by
    have h1 : (hdW s.data.toList).length ≤ s.size := by rw [← hn]; exact hns
    rw [hwt] at hwl
    omega
  obtain ⟨v, hv⟩ : ∃ v, v = Lib.index [102, 98, 108] (hdW s.data.toList) + 1 := ⟨_, rfl⟩
  have hT := take_kind s.data.toList x v hv
  have hE := hE0.on hB
  have cx := fun W => Tryz.strings_Index_shaped ⟨#[102, 98, 108]⟩ ⟨(hdW s.data.toList).toArray⟩ W
  have cx2 : Calls Tryz.prog 68 #[.string ⟨#[102, 98, 108]⟩, .string ⟨(hdW s.data.toList).toArray⟩] w fun e w' => e = .returned (.int .i64 (v - 1)) ∧ w' = w := by
    have := cx w hE.shp (by decide)
    rw [hwt, show (⟨#[102, 98, 108]⟩ : ByteArray).data.toList = [102, 98, 108] from rfl] at this
    rw [hv, Int.add_sub_cancel]
    exact this
  have hwr : wrap64 v = v := by
    have h1 : -1 ≤ Lib.index [102, 98, 108] (hdW s.data.toList) := Lib.index_ge _ _
    have h2 : Lib.index [102, 98, 108] (hdW s.data.toList) ≤ 3 := by
      have := Lib.index_le [102, 98, 108] (hdW s.data.toList)
      simpa using this
    exact IntWalk.wrap64_in v ⟨by omega, by omega⟩
  have CX := Lib.hid cx2
  have HT := Lib.hid hT
  have HNN := Lib.hid hn
  have HWT := Lib.hid hwt
  clear hT cx cx2 hdl hwl hws hn hwt hv
  generalize hWD : (⟨(hdW s.data.toList).toArray⟩ : ByteArray) = wd at *
  rcases hix with ⟨hi, rfl⟩ | hi
  · rw [hi] at ci
    have CI := Lib.hid ci
    clear ci hi
    have yf : w.cell? ⟨b, 2, none⟩ = some (.int .i64 x.a) := hr.cell 2
    have uf : w.frozen? ⟨b, 2, none⟩ = false := hr.free _
    go_enter Tryz.func39, Tryz.ntmps39
    go_wp2_with fail
    refine Calls.mono (number_k b _ hr.lt) ?_
    rintro e W8 ⟨rfl, hW⟩
    subst W8
    go_wp2_with fail
    refine Calls.mono (CI.out _) ?_
    rintro e W9 ⟨rfl, hW⟩
    subst W9
    go_wp2_with fail
    refine Calls.mono (CX.out) ?_
    rintro e W9 ⟨rfl, hW⟩
    subst W9
    have hmv := mvB_of hr (Below.refl _ _) 2 (.int .i64 v)
    have HMV := Lib.hid hmv
    clear hmv
    go_upto_region 14 with fail
    clear yf uf
    have hmv : MvB b 23 (flC kd (put 107 (flN v) x)) w (w.setCell ⟨b, 2, none⟩ (.int .i64 v)) := HMV.out
    generalize w.setCell ⟨b, 2, none⟩ (.int .i64 v) = X at *
    clear HMV
    go_wp2_with fail
    refine bodyPost_ret (v := .tuple #[.string ⟨#[]⟩, .bool ((wd.size : Int) == 1)]) (by simp [results, Tryz.results39, go_sem]; rfl) rfl ⟨put 107 (flN v) x, ⟨#[]⟩, ((wd.size : Int) == 1), rfl, hmv, ?_⟩
    have hok : ((wd.size : Int) == 1) = decide ((hdW s.data.toList).length = 1) := by
      have e := len_bytes wd
      rw [HWT.out] at e
      rw [e, Bool.eq_iff_iff, beq_iff_eq, decide_eq_true_iff]
      omega
    rw [hok, ← HNN.out]
    have ht := HT.out
    rw [← HNN.out] at ht
    rw [List.drop_of_length_le (by rw [len_bytes]; exact Nat.le_refl _)] at ht
    exact ht
  · rw [hi] at ci
    have q0 : (0 : Int) ≤ n := by omega
    have q1 : (n : Int) ≤ s.size := by omega
    have CI := Lib.hid ci
    clear ci hi
    have yf : w.cell? ⟨b, 2, none⟩ = some (.int .i64 x.a) := hr.cell 2
    have uf : w.frozen? ⟨b, 2, none⟩ = false := hr.free _
    go_enter Tryz.func39, Tryz.ntmps39
    go_wp2_with fail
    refine Calls.mono (number_k b _ hr.lt) ?_
    rintro e W8 ⟨rfl, hW⟩
    subst W8
    go_wp2_with fail
    refine Calls.mono (CI.out _) ?_
    rintro e W9 ⟨rfl, hW⟩
    subst W9
    go_wp2_with fail
    refine Calls.mono (CX.out) ?_
    rintro e W9 ⟨rfl, hW⟩
    subst W9
    have hmv := mvB_of hr (Below.refl _ _) 2 (.int .i64 v)
    have HMV := Lib.hid hmv
    clear hmv
    go_upto_region 14 with fail
    clear yf uf
    have hmv : MvB b 23 (flC kd (put 107 (flN v) x)) w (w.setCell ⟨b, 2, none⟩ (.int .i64 v)) := HMV.out
    generalize w.setCell ⟨b, 2, none⟩ (.int .i64 v) = X at *
    clear HMV
    go_wp2_with fail
    refine bodyPost_ret (v := .tuple #[.string ⟨(s.data.toList.drop n).toArray⟩, .bool ((wd.size : Int) == 1)]) (by simp [results, Tryz.results39, go_sem]) rfl ⟨put 107 (flN v) x, ⟨(s.data.toList.drop n).toArray⟩, ((wd.size : Int) == 1), rfl, hmv, ?_⟩
    have hok : ((wd.size : Int) == 1) = decide ((hdW s.data.toList).length = 1) := by
      have e := len_bytes wd
      rw [HWT.out] at e
      rw [e, Bool.eq_iff_iff, beq_iff_eq, decide_eq_true_iff]
      omega
    rw [hok, ← HNN.out]
    have ht := HT.out
    rw [← HNN.out] at ht
    simpa using ht
theorem take_a (kd : Int) (x : Fl) (s : ByteArray) (hs : s.size ≤ 100000) (b : Nat) (w0 w : World) (hE0 : EnvP w0) (hB : Below w0.heap.size w0 w) (hp : w0.heap.size ≤ b) (hr : Row w b (flC kd x) 23) :
    Calls Tryz.prog 39 #[.pointer (some ⟨b, 0, none⟩), .int .i32 97, .string s] w (TakeP kd 97 s x b w) := by
  obtain ⟨n, hn, hns, sr, sp, hix⟩ := head_ends s
  have ci := fun W => Tryz.strings_IndexByte s 32 W
  rw [show ((32 : Int).toNat.toUInt8 : UInt8) = 32 from rfl] at ci
  have hdl : (s.data.toList.drop n) = s.data.toList.drop (hdW s.data.toList).length := by rw [hn]
  have hwl := len_bytes (⟨(hdW s.data.toList).toArray⟩ : ByteArray)
  have hwt : (⟨(hdW s.data.toList).toArray⟩ : ByteArray).data.toList = hdW s.data.toList := by simp
  have hws : (⟨(hdW s.data.toList).toArray⟩ : ByteArray).size ≤ 100000 := by
    have h1 : (hdW s.data.toList).length ≤ s.size := by rw [← hn]; exact hns
    rw [hwt] at hwl
    omega
  have hT := take_ans s.data.toList x
  have HNN := Lib.hid hn
  clear hdl hwl hws hn hwt
  generalize hWD : (⟨(hdW s.data.toList).toArray⟩ : ByteArray) = wd at *
  have HT := Lib.hid hT
  clear hT
  rcases hix with ⟨hi, rfl⟩ | hi
  · rw [hi] at ci
    have CI := Lib.hid ci
    clear ci hi
    go_enter Tryz.func39, Tryz.ntmps39
    go_wp2_with fail
    refine Calls.mono (number_a b _) ?_
    rintro e W8 ⟨rfl, hW⟩
    subst W8
    go_wp2_with fail
    refine Calls.mono (CI.out _) ?_
    rintro e W9 ⟨rfl, hW⟩
    subst W9
    have yf : w.cell? ⟨b, 5, none⟩ = some (.string x.tag) := hr.cell 5
    have uf : w.frozen? ⟨b, 5, none⟩ = false := hr.free _
    have zf := hr.lt
    have hmv := mvB_of hr (Below.refl _ _) 5 (.string wd)
    have HMV := Lib.hid hmv
    clear hmv
    go_upto_region 17 with fail
    clear yf uf zf
    have hmv : MvB b 23 (flC kd (put 97 (flT wd) x)) w (w.setCell ⟨b, 5, none⟩ (.string wd)) := HMV.out
    generalize w.setCell ⟨b, 5, none⟩ (.string wd) = X at *
    clear HMV
    go_wp2_with fail
    refine bodyPost_ret (v := .tuple #[.string ⟨#[]⟩, .bool true]) (by simp [results, Tryz.results39, go_sem]; rfl) rfl ⟨put 97 (flT wd) x, ⟨#[]⟩, true, rfl, hmv, ?_⟩
    have ht := HT.out
    rw [← HNN.out] at ht
    rw [List.drop_of_length_le (by rw [len_bytes]; exact Nat.le_refl _)] at ht
    exact ht
  · rw [hi] at ci
    have q0 : (0 : Int) ≤ n := by omega
    have q1 : (n : Int) ≤ s.size := by omega
    have CI := Lib.hid ci
    clear ci hi
    go_enter Tryz.func39, Tryz.ntmps39
    go_wp2_with fail
    refine Calls.mono (number_a b _) ?_
    rintro e W8 ⟨rfl, hW⟩
    subst W8
    go_wp2_with fail
    refine Calls.mono (CI.out _) ?_
    rintro e W9 ⟨rfl, hW⟩
    subst W9
    have yf : w.cell? ⟨b, 5, none⟩ = some (.string x.tag) := hr.cell 5
    have uf : w.frozen? ⟨b, 5, none⟩ = false := hr.free _
    have zf := hr.lt
    have hmv := mvB_of hr (Below.refl _ _) 5 (.string wd)
    have HMV := Lib.hid hmv
    clear hmv
    go_upto_region 17 with fail
    clear yf uf zf
    have hmv : MvB b 23 (flC kd (put 97 (flT wd) x)) w (w.setCell ⟨b, 5, none⟩ (.string wd)) := HMV.out
    generalize w.setCell ⟨b, 5, none⟩ (.string wd) = X at *
    clear HMV
    go_wp2_with fail
    refine bodyPost_ret (v := .tuple #[.string ⟨(s.data.toList.drop n).toArray⟩, .bool true]) (by simp [results, Tryz.results39, go_sem]) rfl ⟨put 97 (flT wd) x, ⟨(s.data.toList.drop n).toArray⟩, true, rfl, hmv, ?_⟩
    have ht := HT.out
    rw [← HNN.out] at ht
    simpa using ht
theorem take_q (kd : Int) (x : Fl) (s : ByteArray) (hs : s.size ≤ 100000) (b : Nat) (w0 w : World) (hE0 : EnvP w0) (hB : Below w0.heap.size w0 w) (hp : w0.heap.size ≤ b) (hr : Row w b (flC kd x) 23) :
    Calls Tryz.prog 39 #[.pointer (some ⟨b, 0, none⟩), .int .i32 113, .string s] w (TakeP kd 113 s x b w) := by
  obtain ⟨t, n, e, hu⟩ := unq_err s.data.toList
  have cu := fun W => tunq_c s W (by omega)
  rw [show unqV s.data.toList = .tuple #[.string ⟨t.toArray⟩, .int .i64 (n : Nat), .int .i64 e] by unfold unqV; rw [hu]] at cu
  have CU := Lib.hid cu
  clear cu
  by_cases he : e = 0
  · subst he
    have hT := take_quo s.data.toList x t n hu
    have hle : n ≤ s.size := by
      obtain ⟨h1, h2, r, h3⟩ := unqL_ok hu rfl
      rw [← len_bytes, h3, h2]
      simp
    have sp : s.extract n s.size = ⟨(s.data.toList.drop n).toArray⟩ := by
      apply str_ext
      rw [Lib.extract_to_end]
    have q1 : (n : Int) ≤ s.size := by omega
    have HT := Lib.hid hT
    clear hT hu
    generalize (⟨t.toArray⟩ : ByteArray) = tg at *
    go_enter Tryz.func39, Tryz.ntmps39
    go_wp2_with fail
    refine Calls.mono (number_q b _) ?_
    rintro e W8 ⟨rfl, hW⟩
    subst W8
    go_wp2_with fail
    refine Calls.mono (CU.out _) ?_
    rintro e W1 ⟨rfl, hb⟩
    have hr1 := hr.on hb
    have yf : W1.cell? ⟨b, 5, none⟩ = some (.string x.tag) := hr1.cell 5
    have uf : W1.frozen? ⟨b, 5, none⟩ = false := hr1.free _
    have zf := hr1.lt
    have hmv := mvB_of hr hb 5 (.string tg)
    have HMV := Lib.hid hmv
    clear hmv hr1
    go_upto_region 7 with fail
    clear yf uf zf
    have hmv : MvB b 23 (flC kd (put 113 (flT tg) x)) w (W1.setCell ⟨b, 5, none⟩ (.string tg)) := HMV.out
    generalize W1.setCell ⟨b, 5, none⟩ (.string tg) = X at *
    clear HMV
    go_wp2_with fail
    refine bodyPost_ret (v := .tuple #[.string ⟨(s.data.toList.drop n).toArray⟩, .bool true]) (by simp [results, Tryz.results39, go_sem]) rfl ⟨put 113 (flT tg) x, _, true, rfl, hmv, ?_⟩
    have ht := HT.out
    simpa using ht
  · have hT := take_quo_bad s.data.toList x e t n hu he
    have hq : (e != 0) = true := by rw [bne_iff_ne]; exact he
    have HT := Lib.hid hT
    clear hT hu he
    generalize (⟨t.toArray⟩ : ByteArray) = tg at *
    go_enter Tryz.func39, Tryz.ntmps39
    go_wp2_with fail
    refine Calls.mono (number_q b _) ?_
    rintro e W8 ⟨rfl, hW⟩
    subst W8
    go_wp2_with fail
    refine Calls.mono (CU.out _) ?_
    rintro e W1 ⟨rfl, hb⟩
    go_wp2_with fail
    refine bodyPost_ret (v := .tuple #[.string ⟨#[]⟩, .bool false]) (by simp [results, Tryz.results39, go_sem]) rfl ⟨x, _, false, rfl, (mvB_refl hr).on hb, ?_⟩
    exact HT.out
theorem take_c {ch : UInt8} (hch : ch ∈ lettersL) (kd : Int) (x : Fl) (s : ByteArray) (hs : s.size ≤ 100000) (b : Nat) (w0 w : World) (hE0 : EnvP w0) (hB : Below w0.heap.size w0 w) (hp : w0.heap.size ≤ b) (hr : Row w b (flC kd x) 23) :
    Calls Tryz.prog 39 #[.pointer (some ⟨b, 0, none⟩), .int .i32 ch.toNat, .string s] w (TakeP kd ch s x b w) := by
  rcases letters_or hch with hn | rfl | rfl
  · by_cases h107 : ch = 107
    · subst h107
      exact take_k kd x s hs b w0 w hE0 hB hp hr
    · by_cases hv : ∃ v, Lib.atoiAll (hdW s.data.toList) = .ok v
      · obtain ⟨v, hv⟩ := hv
        obtain ⟨v0, v1⟩ := Lib.atoiAll_bounds hv
        exact take_num_ok hn h107 kd x s hs b w0 w hE0 hB hp hr v hv v0 v1
      · exact take_num_bad hn h107 kd x s hs b w0 w hE0 hB hp hr (fun v hh => hv ⟨v, hh⟩)
  · exact take_q kd x s hs b w0 w hE0 hB hp hr
  · exact take_a kd x s hs b w0 w hE0 hB hp hr
end Go.Proofs.YthkngleegefgbaaGreatDoor

/- Reading an operation, part by part (plain). -/
namespace Go.Proofs.YthkngleegefgbaaGreatDoor
open Go.RowKit
set_option linter.unusedVariables false
set_option linter.unusedSimpArgs false
theorem fit_of {kd : Int} {y : Fl} (h : y.ok kd) {ch : UInt8} (hc : ch ∈ partsK kd) : Fit ch y := by
  obtain ⟨hk, hm, ha, hb, hcc, ht⟩ := opOk_iff.1 h
  obtain ⟨p1, p2, p3⟩ := part_kinds hk
  refine ⟨fv_rng h, fun e => ?_, fun e => ?_, fun e => ?_⟩
  · subst e
    have := p1 hc
    subst this
    exact ha
  · subst e
    have := p2 hc
    subst this
    exact ht
  · subst e
    have := p3 hc
    subst this
    have ht : ansOk y.tag.data.toList = true := ht
    unfold ansOk at ht
    simp only [Bool.and_eq_true] at ht
    intro h32
    have := List.all_eq_true.1 ht.2 _ h32
    revert this
    decide
/-- What is known when j parts are read. -/
structure PInv (kd : Int) (rest0 : List UInt8) (j : Nat) (x : Fl) (rest : List UInt8) (ok : Bool) : Prop where
  sound : ok = true → (107 ∈ (partsK kd).take j → 1 ≤ x.a ∧ x.a ≤ 3) → rest0 = tailL (((partsK kd).take j).map (txt · x)) ++ rest
  compl : ∀ y : Fl, y.ok kd → rest0 = tailL ((partsK kd).map (txt · y)) → ok = true ∧ x = ((partsK kd).take j).foldl (fun z ch => put ch y z) fl0 ∧ rest = tailL (((partsK kd).drop j).map (txt · y))
  len : rest.length ≤ rest0.length
  tsz : x.tag.size ≤ rest0.length
theorem pinv_0 (kd : Int) (rest0 : List UInt8) : PInv kd rest0 0 fl0 rest0 true :=
  ⟨fun _ _ => by simp [tailL], fun y hy h => ⟨rfl, rfl, h⟩, Nat.le_refl _, Nat.zero_le _⟩
theorem tail_cons (x : List UInt8) (ps : List (List UInt8)) : tailL (x :: ps) = 32 :: (x ++ tailL ps) := by simp [tailL]
theorem tail_app (ps qs : List (List UInt8)) : tailL (ps ++ qs) = tailL ps ++ tailL qs := by simp [tailL]
theorem map_put {kd : Int} (hk : 1 ≤ kd ∧ kd ≤ 17) (j : Nat) (hj : j < (partsK kd).length) (y x : Fl) : ((partsK kd).take j).map (txt · (put (partsK kd)[j] y x)) = ((partsK kd).take j).map (txt · x) := by
  apply List.map_congr_left
  intro d hd
  obtain ⟨i, hi, rfl⟩ := List.mem_take_iff_getElem.1 hd
  have hap := List.pairwise_iff_getElem.1 (parts_apart hk) i j (by simp; omega) (by simpa using hj) (by omega)
  simp only [List.getElem_map] at hap
  exact put_txt _ _ (parts_letters kd _ (List.getElem_mem _)) (parts_letters kd _ (List.getElem_mem _)) hap
theorem pinv_step {kd : Int} (hk : 1 ≤ kd ∧ kd ≤ 17) {rest0 : List UInt8} {j : Nat} (hj : j < (partsK kd).length) {x x' : Fl} {r rest' : List UInt8} {ok is : Bool} (h : PInv kd rest0 j x (32 :: r) ok) (t : TakeR (partsK kd)[j] r x x' rest' is) : PInv kd rest0 (j + 1) x' rest' (ok && is) := by
  have htk : (partsK kd).take (j + 1) = (partsK kd).take j ++ [(partsK kd)[j]] := by rw [List.take_succ_eq_append_getElem hj]
  obtain ⟨y0, hy0⟩ := t.fld
  refine ⟨fun hok h107 => ?_, fun y hy hr => ?_, ?_, ?_⟩
  · rw [Bool.and_eq_true] at hok
    have h1 := t.sound hok.2 (fun e => h107 (by rw [htk, e]; simp))
    have h2 := h.sound hok.1 (fun hm => by
      have := h107 (by rw [htk]; exact List.mem_append_left _ hm)
      have e : x'.a = x.a := by
        rw [hy0]
        obtain ⟨i, hi, he⟩ := List.mem_take_iff_getElem.1 hm
        have hap := List.pairwise_iff_getElem.1 (parts_apart hk) i j (by simp; omega) (by simpa using hj) (by omega)
        simp only [List.getElem_map] at hap
        rw [he] at hap
        have hne : fOf (partsK kd)[j] ≠ 2 := fun e => hap (by rw [e]; decide)
        unfold put
        repeat' split
        all_goals first | rfl | contradiction
      rw [← e]; exact this)
    rw [htk, List.map_append, tail_app, h2, h1]
    have hm : ((partsK kd).take j).map (txt · x') = ((partsK kd).take j).map (txt · x) := by rw [hy0]; exact map_put hk j hj y0 x
    rw [hm, List.map_cons, List.map_nil, tail_cons]
    simp [tailL]
  · obtain ⟨c1, c2, c3⟩ := h.compl y hy hr
    rw [List.drop_eq_getElem_cons hj, List.map_cons, tail_cons] at c3
    injection c3 with _ c3
    obtain ⟨d1, d2, d3⟩ := t.compl y _ (fit_of hy (List.getElem_mem hj)) (fun e => by
      have := parts_quote hk j hj (by rw [List.getElem?_eq_getElem hj, e])
      rw [List.drop_of_length_le (by omega)]; rfl) c3
    refine ⟨by rw [c1, d1]; rfl, ?_, d3⟩
    rw [d2, htk, List.foldl_append, ← c2]
    rfl
  · have := t.len
    have := h.len
    simp at this
    omega
  · have h1 := h.len
    have h2 := h.tsz
    simp at h1
    rcases t.tsz with h3 | h3 <;> omega
theorem pinv_none {kd : Int} {rest0 : List UInt8} {j : Nat} (hj : j < (partsK kd).length) {x : Fl} {rest : List UInt8} {ok : Bool} (h : PInv kd rest0 j x rest ok) (hn : ∀ r, rest ≠ 32 :: r) (y : Fl) (hy : y.ok kd) : rest0 ≠ tailL ((partsK kd).map (txt · y)) := by
  intro hr
  obtain ⟨c1, c2, c3⟩ := h.compl y hy hr
  rw [List.drop_eq_getElem_cons hj, List.map_cons, tail_cons] at c3
  exact hn _ c3
theorem pinv_good {kd : Int} {rest0 : List UInt8} {x : Fl} (h : PInv kd rest0 (partsK kd).length x [] true) (hx : x.ok kd) : rest0 = tailL ((partsK kd).map (txt · x)) := by
  have hk := (opOk_iff.1 hx).1
  have := h.sound rfl (fun hm => by
    rw [List.take_length] at hm
    have := (part_kinds hk).1 hm
    subst this
    exact (opOk_iff.1 hx).2.2.1)
  rw [List.take_length, List.append_nil] at this
  exact this
theorem pinv_bad {kd : Int} {rest0 : List UInt8} {x : Fl} {rest : List UInt8} {ok : Bool} (h : PInv kd rest0 (partsK kd).length x rest ok) (hb : ¬ (ok = true ∧ rest = [] ∧ x.ok kd)) (y : Fl) (hy : y.ok kd) : rest0 ≠ tailL ((partsK kd).map (txt · y)) := by
  intro hr
  obtain ⟨c1, c2, c3⟩ := h.compl y hy hr
  rw [List.take_length, parts_all y hy] at c2
  rw [List.drop_of_length_le (Nat.le_refl _)] at c3
  apply hb
  rw [c2]
  exact ⟨c1, c3, hy⟩
/-- The text of a valid operation, with its word first. -/
theorem isO_word {kd : Int} {y : Fl} (hy : y.ok kd) : opL kd y.m y.a y.b y.c y.tag.data.toList = wordL kd ++ tailL ((partsK kd).map (txt · y)) := by
  rw [opL_tail, parts_txt (opOk_iff.1 hy).1]
/-- No valid operation has a text whose first word is no word. -/
theorem word_of {kd : Int} {y : Fl} (hy : y.ok kd) {s : List UInt8} (h : opL kd y.m y.a y.b y.c y.tag.data.toList = s) : hdW s = wordL kd := by
  rw [← h, isO_word hy]
  exact (hdW_tail (word_no32 kd) _).1
theorem rest_of {kd : Int} {y : Fl} (hy : y.ok kd) {s : List UInt8} (h : opL kd y.m y.a y.b y.c y.tag.data.toList = s) : s.drop (hdW s).length = tailL ((partsK kd).map (txt · y)) := by
  rw [word_of hy h, ← h, isO_word hy]
  simp
end Go.Proofs.YthkngleegefgbaaGreatDoor

/- Scripts: how they are read (plain); slices of operations. -/
namespace Go.Proofs.YthkngleegefgbaaGreatDoor
open Go.RowKit
set_option linter.unusedVariables false
set_option linter.unusedSimpArgs false
/-- An operation: its kind and its fields. -/
abbrev OpR := Int × Fl
def isOp (p : OpR) (l : List UInt8) : Prop := p.2.ok p.1 ∧ opL p.1 p.2.m p.2.a p.2.b p.2.c p.2.tag.data.toList = l
theorem isOp_unique {p q : OpR} {l : List UInt8} (h : isOp p l) (k : isOp q l) : p = q := by
  obtain ⟨kd, m, a, b, c, tag⟩ := p
  obtain ⟨kd', m', a', b', c', tag'⟩ := q
  obtain ⟨rfl, rfl, rfl, rfl, rfl, rfl⟩ := isO_unique (s := l) (kd := kd) (m := m) (a := a) (b := b) (c := c) (tag := tag) (kd' := kd') (m' := m') (a' := a') (b' := b') (c' := c') (tag' := tag') h k
  rfl
open Classical in
/-- What a line is read as. -/
noncomputable def readOp (l : List UInt8) : Option OpR := if h : ∃ p, isOp p l then some h.choose else none
theorem readOp_some {p : OpR} {l : List UInt8} (h : isOp p l) : readOp l = some p := by
  unfold readOp
  have hx : ∃ p, isOp p l := ⟨p, h⟩
  rw [dif_pos hx, isOp_unique hx.choose_spec h]
theorem readOp_none {l : List UInt8} (h : ∀ p, ¬ isOp p l) : readOp l = none := by
  unfold readOp
  rw [dif_neg (fun ⟨p, hp⟩ => h p hp)]
theorem readOp_ok {p : OpR} {l : List UInt8} (h : readOp l = some p) : isOp p l := by
  unfold readOp at h
  split at h
  · rename_i hx
    injection h with h
    rw [← h]
    exact hx.choose_spec
  · cases h
/-- Lines that are passed over. -/
def skipL (l : List UInt8) : Bool := l.isEmpty || l.head? == some 35
noncomputable def allR : List (List UInt8) → Nat → List OpR → List OpR × Nat × Int
  | [], _, acc => (acc, 0, 0)
  | l :: ls, n, acc => if skipL l then allR ls (n + 1) acc else if acc.length = 2000 then ([], n + 1, 11) else
    match readOp l with
    | none => ([], n + 1, 9)
    | some p => allR ls (n + 1) (acc ++ [p])
noncomputable def parseAllR (s : List UInt8) : List OpR × Nat × Int := if 65536 < s.length then ([], 0, 10) else allR (cutAll 10 s) 0 []
/-- When these lines are over: so far, these operations. -/
def SoFar (pre : List (List UInt8)) (acc : List OpR) : Prop := ∀ rest, allR (pre ++ rest) 0 [] = allR rest pre.length acc
theorem soFar_nil : SoFar [] [] := fun rest => rfl
theorem soFar_skip {pre : List (List UInt8)} {acc : List OpR} (h : SoFar pre acc) {l : List UInt8} (hl : skipL l = true) : SoFar (pre ++ [l]) acc := fun rest => by
  rw [List.append_assoc, h, List.length_append]
  show allR (l :: rest) _ _ = _
  rw [allR, if_pos hl]
  rfl
theorem soFar_op {pre : List (List UInt8)} {acc : List OpR} (h : SoFar pre acc) {l : List UInt8} (hl : skipL l = false) (hn : acc.length ≠ 2000) {p : OpR} (hp : isOp p l) : SoFar (pre ++ [l]) (acc ++ [p]) := fun rest => by
  rw [List.append_assoc, h, List.length_append]
  show allR (l :: rest) _ _ = _
  rw [allR, if_neg (by rw [hl]; decide), if_neg hn, readOp_some hp]
  rfl
/-- A line at which reading stops. -/
def Stops (pre : List (List UInt8)) (r : List OpR × Nat × Int) : Prop := ∀ rest, allR (pre ++ rest) 0 [] = r
theorem stops_many {pre : List (List UInt8)} {acc : List OpR} (h : SoFar pre acc) {l : List UInt8} (hl : skipL l = false) (hn : acc.length = 2000) : Stops (pre ++ [l]) ([], pre.length + 1, 11) := fun rest => by
  rw [List.append_assoc, h]
  show allR (l :: rest) _ _ = _
  rw [allR, if_neg (by rw [hl]; decide), if_pos hn]
theorem stops_form {pre : List (List UInt8)} {acc : List OpR} (h : SoFar pre acc) {l : List UInt8} (hl : skipL l = false) (hn : acc.length ≠ 2000) (hp : ∀ p, ¬ isOp p l) : Stops (pre ++ [l]) ([], pre.length + 1, 9) := fun rest => by
  rw [List.append_assoc, h]
  show allR (l :: rest) _ _ = _
  rw [allR, if_neg (by rw [hl]; decide), if_neg hn, readOp_none hp]
theorem soFar_len {pre : List (List UInt8)} {acc : List OpR} (h : SoFar pre acc) : allR pre 0 [] = (acc, 0, 0) := by
  have := h []
  rw [List.append_nil] at this
  rw [this]
  rfl
/-- The cells of operations, one behind the other. -/
def cellsO (l : List OpR) : List Value := l.flatMap fun p => [.int .i64 p.1, .int .i64 p.2.m, .int .i64 p.2.a, .int .i64 p.2.b, .int .i64 p.2.c, .string p.2.tag]
theorem cellsO_snoc (l : List OpR) (p : OpR) : cellsO (l ++ [p]) = cellsO l ++ [.int .i64 p.1, .int .i64 p.2.m, .int .i64 p.2.a, .int .i64 p.2.b, .int .i64 p.2.c, .string p.2.tag] := by simp [cellsO]
theorem cellsO_len (l : List OpR) : (cellsO l).length = 6 * l.length := by
  induction l with
  | nil => rfl
  | cons p l ih =>
    have : cellsO (p :: l) = [.int .i64 p.1, .int .i64 p.2.m, .int .i64 p.2.a, .int .i64 p.2.b, .int .i64 p.2.c, .string p.2.tag] ++ cellsO l := rfl
    rw [this, List.length_append, ih]
    simp
    omega
def OwnsO (base : Nat) (W : World) (v : Value) (l : List OpR) : Prop := W.ownsRow base 23 6 v l.length (cellsO l)
theorem OwnsO.base {b b' : Nat} {W : World} {v : Value} {l : List OpR} (h : OwnsO b W v l) (hb : b' ≤ b) : OwnsO b' W v l := by
  refine ⟨h.1, ?_⟩
  rcases h.2 with h0 | ⟨g, cap, cur, h1, h2, h3⟩
  · exact .inl h0
  · exact .inr ⟨g, cap, cur, h1, Nat.le_trans hb h2, h3⟩
theorem OwnsO.on {b : Nat} {W W' : World} {v : Value} {l : List OpR} (h : OwnsO b W v l) (hb : Below W.heap.size W W') : OwnsO b W' v l := by
  refine ⟨h.1, ?_⟩
  rcases h.2 with h0 | ⟨g, cap, cur, h1, h2, h3, h4⟩
  · exact .inl h0
  · exact .inr ⟨g, cap, cur, h1, h2, (hb.block g (Array.getElem?_eq_some_iff.1 h3).1).trans h3, h4⟩
theorem OwnsO.set {b : Nat} {W : World} {v : Value} {l : List OpR} (h : OwnsO b W v l) {y : Nat} {cs : Array Value} {t : TypeId} (hr : Row W y cs t) (ht : t ≠ 23) (j : Nat) (u : Value) : OwnsO b (W.setCell ⟨y, j, none⟩ u) v l := by
  refine ⟨h.1, ?_⟩
  rcases h.2 with h0 | ⟨g, cap, cur, h1, h2, h3, h4⟩
  · exact .inl h0
  · refine .inr ⟨g, cap, cur, h1, h2, (Row.other (⟨h3⟩ : Row W g cur _) (fun e => ?_) j u).eq, h4⟩
    subst e
    have := hr.eq.symm.trans h3
    injection this with this
    injection this with _ this
    exact ht this
end Go.Proofs.YthkngleegefgbaaGreatDoor

/- slices.Equal of operations; == of operations. -/
namespace Go.Proofs.YthkngleegefgbaaGreatDoor
open Go.RowKit
set_option linter.unusedVariables false
set_option linter.unusedSimpArgs false
instance : DecidableEq Fl := fun x y => decidable_of_iff (x.m = y.m ∧ x.a = y.a ∧ x.b = y.b ∧ x.c = y.c ∧ x.tag = y.tag) ⟨fun ⟨h1, h2, h3, h4, h5⟩ => Fl.eq_of h1 h2 h3 h4 h5, fun h => by rw [h]; exact ⟨rfl, rfl, rfl, rfl, rfl⟩⟩
/-- The slice v holds these operations. -/
def HoldsO (W : World) (v : Value) (l : List OpR) : Prop := (v = .slice none 0 0 ∧ l = []) ∨
  ∃ g o c, v = .slice (some ⟨g, o, none⟩) l.length c ∧ ∀ (j : Nat) (r : OpR), l[j]? = some r → W.cell? ⟨g, o + j * 6, none⟩ = some (.int .i64 r.1) ∧ W.cell? ⟨g, o + j * 6 + 1, none⟩ = some (.int .i64 r.2.m) ∧ W.cell? ⟨g, o + j * 6 + 2, none⟩ = some (.int .i64 r.2.a) ∧ W.cell? ⟨g, o + j * 6 + 3, none⟩ = some (.int .i64 r.2.b) ∧ W.cell? ⟨g, o + j * 6 + 4, none⟩ = some (.int .i64 r.2.c) ∧ W.cell? ⟨g, o + j * 6 + 5, none⟩ = some (.string r.2.tag)
theorem cellsO_get (l : List OpR) : ∀ (j : Nat) (r : OpR), l[j]? = some r → (cellsO l)[j * 6]? = some (.int .i64 r.1) ∧ (cellsO l)[j * 6 + 1]? = some (.int .i64 r.2.m) ∧ (cellsO l)[j * 6 + 2]? = some (.int .i64 r.2.a) ∧ (cellsO l)[j * 6 + 3]? = some (.int .i64 r.2.b) ∧ (cellsO l)[j * 6 + 4]? = some (.int .i64 r.2.c) ∧ (cellsO l)[j * 6 + 5]? = some (.string r.2.tag) := by
  induction l with
  | nil => intro j r h; simp at h
  | cons x l ih =>
    intro j r h
    cases j with
    | zero => simp at h; subst h; simp [cellsO]
    | succ j =>
      have := ih j r (by simpa using h)
      rw [show (j + 1) * 6 = j * 6 + 6 by omega, show cellsO (x :: l) = .int .i64 x.1 :: .int .i64 x.2.m :: .int .i64 x.2.a :: .int .i64 x.2.b :: .int .i64 x.2.c :: .string x.2.tag :: cellsO l by simp [cellsO]]
      simpa using this
theorem holds_row {W : World} {g : Nat} {cur : Array Value} {t : TypeId} {l : List OpR} (h3 : Row W g cur t) (h7 : cur.toList.take (l.length * 6) = cellsO l) : ∀ (j : Nat) (r : OpR), l[j]? = some r → W.cell? ⟨g, 0 + j * 6, none⟩ = some (.int .i64 r.1) ∧ W.cell? ⟨g, 0 + j * 6 + 1, none⟩ = some (.int .i64 r.2.m) ∧ W.cell? ⟨g, 0 + j * 6 + 2, none⟩ = some (.int .i64 r.2.a) ∧ W.cell? ⟨g, 0 + j * 6 + 3, none⟩ = some (.int .i64 r.2.b) ∧ W.cell? ⟨g, 0 + j * 6 + 4, none⟩ = some (.int .i64 r.2.c) ∧ W.cell? ⟨g, 0 + j * 6 + 5, none⟩ = some (.string r.2.tag) := by
  intro j r hj
  obtain ⟨c1, c2, c3, c4, c5, c6⟩ := cellsO_get l j r hj
  have hjl : j < l.length := (List.getElem?_eq_some_iff.1 hj).1
  have key : ∀ i, i < l.length * 6 → W.cell? ⟨g, 0 + i, none⟩ = (cellsO l)[i]? := fun i hi => by
    rw [Nat.zero_add, h3.cell i, ← h7, List.getElem?_take, if_pos hi, Array.getElem?_toList]
  simp only [Nat.add_assoc]
  exact ⟨(key _ (by omega)).trans c1, (key _ (by omega)).trans c2, (key _ (by omega)).trans c3, (key _ (by omega)).trans c4, (key _ (by omega)).trans c5, (key _ (by omega)).trans c6⟩
theorem OwnsO.holds {b : Nat} {W : World} {v : Value} {l : List OpR} (h : OwnsO b W v l) : HoldsO W v l := by
  rcases h.2 with ⟨h0, h1⟩ | ⟨g, cap, cur, h1, h2, h3, h4, h5, h6, h7⟩
  · exact .inl ⟨h0, List.eq_nil_of_length_eq_zero h1⟩
  · exact .inr ⟨g, 0, cap, h1, holds_row (⟨h3⟩ : Row W g cur _) h7⟩
theorem HoldsO.len {W : World} {v : Value} {l : List OpR} (h : HoldsO W v l) : ∃ p c, v = .slice p l.length c := by
  rcases h with ⟨rfl, rfl⟩ | ⟨g, o, c, rfl, _⟩
  · exact ⟨none, 0, rfl⟩
  · exact ⟨_, c, rfl⟩
theorem lt_cell {W : World} {g j : Nat} {v : Value} (h : W.cell? ⟨g, j, none⟩ = some v) : g < W.heap.size := by
  rcases Nat.lt_or_ge g W.heap.size with h' | h'
  · exact h'
  · simp [World.cell?, Array.getElem?_eq_none h'] at h
theorem HoldsO.on {W W' : World} {v : Value} {l : List OpR} (h : HoldsO W v l) (hb : Below W.heap.size W W') : HoldsO W' v l := by
  rcases h with h | ⟨g, o, c, hv, ha⟩
  · exact .inl h
  · refine .inr ⟨g, o, c, hv, fun j r hj => ?_⟩
    obtain ⟨c1, c2, c3, c4, c5, c6⟩ := ha j r hj
    have hl := lt_cell c1
    exact ⟨keep_cell hb hl c1, keep_cell hb hl c2, keep_cell hb hl c3, keep_cell hb hl c4, keep_cell hb hl c5, keep_cell hb hl c6⟩
abbrev opRV (p : OpR) : Value := .agg #[.int .i64 p.1, .int .i64 p.2.m, .int .i64 p.2.a, .int .i64 p.2.b, .int .i64 p.2.c, .string p.2.tag]
theorem eq_ops (r q : OpR) : ∀ W, (binOp .eql 23 (opRV r) (opRV q)).run Tryz.prog W = .ok (.bool (decide (r = q))) W := by
  intro W
  obtain ⟨k, m, a, b, c, t⟩ := r
  obtain ⟨k', m', a', b', c', t'⟩ := q
  have key : t.toList = t'.toList → t = t' := fun h => str_ext (by rwa [ByteArray.toList_eq, ByteArray.toList_eq] at h)
  have hd : (decide (((k, Fl.mk m a b c t) : OpR) = (k', Fl.mk m' a' b' c' t'))) = (decide (k = k') && (decide (m = m') && (decide (a = a') && (decide (b = b') && (decide (c = c') && decide (t = t')))))) := by
    rw [Bool.eq_iff_iff]
    simp
  rw [hd]
  go_simp
  by_cases h0 : k = k' <;> by_cases h1 : m = m' <;> by_cases h2 : a = a' <;> by_cases h3 : b = b' <;> by_cases h4 : c = c' <;> by_cases h5 : t = t' <;> simp_all [Result.andThen]
  all_goals exact fun h => h5 (key h)
theorem neq_ops (r q : OpR) : ∀ W, (binOp .neq 23 (opRV r) (opRV q)).run Tryz.prog W = .ok (.bool (!decide (r = q))) W := by
  intro W
  obtain ⟨k, m, a, b, c, t⟩ := r
  obtain ⟨k', m', a', b', c', t'⟩ := q
  have key : t.toList = t'.toList → t = t' := fun h => str_ext (by rwa [ByteArray.toList_eq, ByteArray.toList_eq] at h)
  have hd : (decide (((k, Fl.mk m a b c t) : OpR) = (k', Fl.mk m' a' b' c' t'))) = (decide (k = k') && (decide (m = m') && (decide (a = a') && (decide (b = b') && (decide (c = c') && decide (t = t')))))) := by
    rw [Bool.eq_iff_iff]
    simp
  rw [hd]
  go_simp
  by_cases h0 : k = k' <;> by_cases h1 : m = m' <;> by_cases h2 : a = a' <;> by_cases h3 : b = b' <;> by_cases h4 : c = c' <;> by_cases h5 : t = t' <;> simp_all [Result.andThen]
  all_goals exact fun h => h5 (key h)
set_option maxHeartbeats 16000000 in
set_option maxRecDepth 20000 in
theorem equalO_c (v u : Value) (l m : List OpR) (w : World) (hv : HoldsO w v l) (hu : HoldsO w u m) (hl : l.length ≤ 100000) (hm : m.length ≤ 100000) :
    Ret 19 #[v, u] w (.bool (decide (l = m))) := by
  obtain ⟨p, c, hve⟩ := hv.len
  obtain ⟨q, d, hue⟩ := hu.len
  by_cases hlm : l.length = m.length
  · have HV := Lib.hid hv
    have HU := Lib.hid hu
    subst hve
    subst hue
    rw [← hlm] at HU ⊢
    have HLM := Lib.hid hlm
    obtain ⟨N, hN⟩ : ∃ N, l.length = N := ⟨_, rfl⟩
    rw [hN] at HV HU HLM hl ⊢
    have HN := Lib.hid hN
    clear hv hu hlm hm hN
    go_enter Tryz.func19, Tryz.ntmps19
    go_wp2_with fail
    go_loopw [13] (fun i wr => ∃ k : Nat, k ≤ N ∧ i = .int .i64 k ∧ l.take k = m.take k ∧ (∃ nd, wr = w.drewN nd)) (fun i _ => N - (intOf i).toNat)
    case atStart => exact ⟨0, by omega, rfl, rfl, 0, rfl⟩
    case round =>
      obtain ⟨k, hk, rfl, hlk, nd, hwr⟩ := hrel
      have HLK := Lib.hid hlk
      have HWR := Lib.hid hwr
      clear hlk hwr
      by_cases hlt : k < N
      · have hkl : k < l.length := by rw [HN.out]; exact hlt
        have hkm : k < m.length := by rw [← HLM.out]; exact hlt
        rcases HV.out with ⟨h1, h2⟩ | ⟨ga, oa, ca, hva, ha⟩
        · exact absurd hkl (by rw [h2]; simp)
        rcases HU.out with ⟨h1, h2⟩ | ⟨gb, ob, cb, hvb, hb⟩
        · exact absurd hkm (by rw [h2]; simp)
        obtain ⟨x0, x1, x2, x3, x4, x5⟩ := ha k l[k] (List.getElem?_eq_getElem hkl)
        obtain ⟨y0, y1, y2, y3, y4, y5⟩ := hb k m[k] (List.getElem?_eq_getElem hkm)
        injection hva with hp1 hp2 hp3
        injection hvb with hp4 hp5 hp6
        subst hp1 hp4
        have X0 : wr.cell? ⟨ga, oa + k * 6, none⟩ = some (.int .i64 l[k].1) := by rw [HWR.out]; exact x0
        have X1 : wr.cell? ⟨ga, oa + k * 6 + 1, none⟩ = some (.int .i64 l[k].2.m) := by rw [HWR.out]; exact x1
        have X2 : wr.cell? ⟨ga, oa + k * 6 + 2, none⟩ = some (.int .i64 l[k].2.a) := by rw [HWR.out]; exact x2
        have X3 : wr.cell? ⟨ga, oa + k * 6 + 3, none⟩ = some (.int .i64 l[k].2.b) := by rw [HWR.out]; exact x3
        have X4 : wr.cell? ⟨ga, oa + k * 6 + 4, none⟩ = some (.int .i64 l[k].2.c) := by rw [HWR.out]; exact x4
        have X5 : wr.cell? ⟨ga, oa + k * 6 + 5, none⟩ = some (.string l[k].2.tag) := by rw [HWR.out]; exact x5
        have Y0 : wr.cell? ⟨gb, ob + k * 6, none⟩ = some (.int .i64 m[k].1) := by rw [HWR.out]; exact y0
        have Y1 : wr.cell? ⟨gb, ob + k * 6 + 1, none⟩ = some (.int .i64 m[k].2.m) := by rw [HWR.out]; exact y1
        have Y2 : wr.cell? ⟨gb, ob + k * 6 + 2, none⟩ = some (.int .i64 m[k].2.a) := by rw [HWR.out]; exact y2
        have Y3 : wr.cell? ⟨gb, ob + k * 6 + 3, none⟩ = some (.int .i64 m[k].2.b) := by rw [HWR.out]; exact y3
        have Y4 : wr.cell? ⟨gb, ob + k * 6 + 4, none⟩ = some (.int .i64 m[k].2.c) := by rw [HWR.out]; exact y4
        have Y5 : wr.cell? ⟨gb, ob + k * 6 + 5, none⟩ = some (.string m[k].2.tag) := by rw [HWR.out]; exact y5
        have hq := neq_ops l[k] m[k]
        have htl : l.take (k + 1) = l.take k ++ [l[k]] := by rw [List.take_succ_eq_append_getElem hkl]
        have htm : m.take (k + 1) = m.take k ++ [m[k]] := by rw [List.take_succ_eq_append_getElem hkm]
        have hne : l[k] ≠ m[k] → l ≠ m := fun h e => h (by simp only [e])
        have HTL := Lib.hid htl
        have HTM := Lib.hid htm
        have HNE := Lib.hid hne
        generalize l[k] = a at *
        generalize m[k] = b at *
        clear ha hb x0 x1 x2 x3 x4 x5 y0 y1 y2 y3 y4 y5 htl htm hne hp2 hp3 hp5 hp6 HV HU hkl hkm
        have hlt' : (k : Int) < (N : Int) := by omega
        by_cases hab : a = b
        · have e : decide (a = b) = true := decide_eq_true hab
          rw [e] at hq
          have HAB := Lib.hid hab
          clear e hab
          go_wp2_with fail
          refine wp_region_held_drew (S := fun W' => W'.cell? ⟨ga, oa + k * 6, none⟩ = some (.int .i64 a.1) ∧ W'.cell? ⟨ga, oa + k * 6 + 1, none⟩ = some (.int .i64 a.2.m) ∧ W'.cell? ⟨ga, oa + k * 6 + 2, none⟩ = some (.int .i64 a.2.a) ∧ W'.cell? ⟨ga, oa + k * 6 + 3, none⟩ = some (.int .i64 a.2.b) ∧ W'.cell? ⟨ga, oa + k * 6 + 4, none⟩ = some (.int .i64 a.2.c) ∧ W'.cell? ⟨ga, oa + k * 6 + 5, none⟩ = some (.string a.2.tag) ∧ W'.cell? ⟨gb, ob + k * 6, none⟩ = some (.int .i64 b.1) ∧ W'.cell? ⟨gb, ob + k * 6 + 1, none⟩ = some (.int .i64 b.2.m) ∧ W'.cell? ⟨gb, ob + k * 6 + 2, none⟩ = some (.int .i64 b.2.a) ∧ W'.cell? ⟨gb, ob + k * 6 + 3, none⟩ = some (.int .i64 b.2.b) ∧ W'.cell? ⟨gb, ob + k * 6 + 4, none⟩ = some (.int .i64 b.2.c) ∧ W'.cell? ⟨gb, ob + k * 6 + 5, none⟩ = some (.string b.2.tag)) (by kernel_rfl) ⟨X0, X1, X2, X3, X4, X5, Y0, Y1, Y2, Y3, Y4, Y5⟩ (fun hHeld => ?_)
          refine' wpAnyH_take (i := 0) (oi := _) (v := _) ?_ (by kernel_rfl) (by kernel_rfl) (by kernel_rfl) ?_ (Or.inl ⟨?_, ?_⟩) (by assumption) ?_
          rotate_left 2
          · (simp only [List.getElem?_toArray, List.getElem?_cons_succ, List.getElem?_cons_zero]; rfl)
          · first | exact fun _ _ _ h => h | exact fun _ _ _ h => nomatch h.1
          · rfl
          · (intro W hSW; (try dsimp only at hSW); go_split_ands; first | (go_simp; done) | (go_simp; with_reducible rfl))
          try simp only [Act.put, List.setIfInBounds_toArray, List.set_cons_zero, List.set_cons_succ]
          refine' wpAnyH_take (i := 1) (oi := _) (v := _) ?_ (by kernel_rfl) (by kernel_rfl) (by kernel_rfl) ?_ (Or.inl ⟨?_, ?_⟩) (by assumption) ?_
          rotate_left 2
          · (simp only [List.getElem?_toArray, List.getElem?_cons_succ, List.getElem?_cons_zero]; rfl)
          · first | exact fun _ _ _ h => h | exact fun _ _ _ h => nomatch h.1
          · rfl
          · (intro W hSW; (try dsimp only at hSW); go_split_ands; first | (go_simp; done) | (go_simp; with_reducible rfl))
          try simp only [Act.put, List.setIfInBounds_toArray, List.set_cons_zero, List.set_cons_succ]
          refine' wpAnyH_take (i := 2) (oi := _) (v := _) ?_ (by kernel_rfl) (by kernel_rfl) (by kernel_rfl) ?_ (Or.inl ⟨?_, ?_⟩) (by assumption) ?_
          rotate_left 2
          · (simp only [List.getElem?_toArray, List.getElem?_cons_succ, List.getElem?_cons_zero]; rfl)
          · first | exact fun _ _ _ h => h | exact fun _ _ _ h => nomatch h.1
          · rfl
          · (intro W hSW; (try dsimp only at hSW); go_split_ands; first | (go_simp; done) | (go_simp; with_reducible rfl))
          try simp only [Act.put, List.setIfInBounds_toArray, List.set_cons_zero, List.set_cons_succ]
          refine' wpAnyH_take (i := 3) (oi := _) (v := _) ?_ (by kernel_rfl) (by kernel_rfl) (by kernel_rfl) ?_ (Or.inl ⟨?_, ?_⟩) (by assumption) ?_
          rotate_left 2
          · (simp only [List.getElem?_toArray, List.getElem?_cons_succ, List.getElem?_cons_zero]; rfl)
          · first | exact fun _ _ _ h => h | exact fun _ _ _ h => nomatch h.1
          · rfl
          · (intro W hSW; (try dsimp only at hSW); go_split_ands; first | (go_simp; done) | (go_simp; with_reducible rfl))
          try simp only [Act.put, List.setIfInBounds_toArray, List.set_cons_zero, List.set_cons_succ]
          refine' wpAnyH_take (i := 4) (oi := _) (v := _) ?_ (by kernel_rfl) (by kernel_rfl) (by kernel_rfl) ?_ (Or.inl ⟨?_, ?_⟩) (by assumption) ?_
          rotate_left 2
          · (simp only [List.getElem?_toArray, List.getElem?_cons_succ, List.getElem?_cons_zero]; rfl)
          · first | exact fun _ _ _ h => h | exact fun _ _ _ h => nomatch h.1
          · rfl
          · (intro W hSW; (try dsimp only at hSW); go_split_ands; first | (go_simp; done) | (go_simp; with_reducible rfl))
          try simp only [Act.put, List.setIfInBounds_toArray, List.set_cons_zero, List.set_cons_succ]
          refine' wpAnyH_take (i := 5) (oi := _) (v := _) ?_ (by kernel_rfl) (by kernel_rfl) (by kernel_rfl) ?_ (Or.inl ⟨?_, ?_⟩) (by assumption) ?_
          rotate_left 2
          · (simp only [List.getElem?_toArray, List.getElem?_cons_succ, List.getElem?_cons_zero]; rfl)
          · first | exact fun _ _ _ h => h | exact fun _ _ _ h => nomatch h.1
          · rfl
          · (intro W hSW; (try dsimp only at hSW); go_split_ands; first | (go_simp; done) | (go_simp; with_reducible rfl))
          try simp only [Act.put, List.setIfInBounds_toArray, List.set_cons_zero, List.set_cons_succ]
          refine' wpAnyH_take (i := 6) (oi := _) (v := _) ?_ (by kernel_rfl) (by kernel_rfl) (by kernel_rfl) ?_ (Or.inl ⟨?_, ?_⟩) (by assumption) ?_
          rotate_left 2
          · (simp only [List.getElem?_toArray, List.getElem?_cons_succ, List.getElem?_cons_zero]; rfl)
          · first | exact fun _ _ _ h => h | exact fun _ _ _ h => nomatch h.1
          · rfl
          · (intro W hSW; (try dsimp only at hSW); go_split_ands; first | (go_simp; done) | (go_simp; with_reducible rfl))
          try simp only [Act.put, List.setIfInBounds_toArray, List.set_cons_zero, List.set_cons_succ]
          refine' wpAnyH_take (i := 7) (oi := _) (v := _) ?_ (by kernel_rfl) (by kernel_rfl) (by kernel_rfl) ?_ (Or.inl ⟨?_, ?_⟩) (by assumption) ?_
          rotate_left 2
          · (simp only [List.getElem?_toArray, List.getElem?_cons_succ, List.getElem?_cons_zero]; rfl)
          · first | exact fun _ _ _ h => h | exact fun _ _ _ h => nomatch h.1
          · rfl
          · (intro W hSW; (try dsimp only at hSW); go_split_ands; first | (go_simp; done) | (go_simp; with_reducible rfl))
          try simp only [Act.put, List.setIfInBounds_toArray, List.set_cons_zero, List.set_cons_succ]
          refine' wpAnyH_take (i := 8) (oi := _) (v := _) ?_ (by kernel_rfl) (by kernel_rfl) (by kernel_rfl) ?_ (Or.inl ⟨?_, ?_⟩) (by assumption) ?_
          rotate_left 2
          · (simp only [List.getElem?_toArray, List.getElem?_cons_succ, List.getElem?_cons_zero]; rfl)
          · first | exact fun _ _ _ h => h | exact fun _ _ _ h => nomatch h.1
          · rfl
          · (intro W hSW; (try dsimp only at hSW); go_split_ands; first | (go_simp; done) | (go_simp; with_reducible rfl))
          try simp only [Act.put, List.setIfInBounds_toArray, List.set_cons_zero, List.set_cons_succ]
          refine wpAnyH_done (by kernel_rfl) ?_ _
          go_wp2_with fail
          refine ⟨⟨k + 1, by omega, by go_num, by rw [HTL.out, HTM.out, HLK.out, HAB.out], nd + 1, by rw [HWR.out]; rfl⟩, by simp [intOf]; omega⟩
        · have e : decide (a = b) = false := decide_eq_false hab
          rw [e] at hq
          have HAB := Lib.hid hab
          clear e hab
          go_wp2_with fail
          refine wp_region_held_drew (S := fun W' => W'.cell? ⟨ga, oa + k * 6, none⟩ = some (.int .i64 a.1) ∧ W'.cell? ⟨ga, oa + k * 6 + 1, none⟩ = some (.int .i64 a.2.m) ∧ W'.cell? ⟨ga, oa + k * 6 + 2, none⟩ = some (.int .i64 a.2.a) ∧ W'.cell? ⟨ga, oa + k * 6 + 3, none⟩ = some (.int .i64 a.2.b) ∧ W'.cell? ⟨ga, oa + k * 6 + 4, none⟩ = some (.int .i64 a.2.c) ∧ W'.cell? ⟨ga, oa + k * 6 + 5, none⟩ = some (.string a.2.tag) ∧ W'.cell? ⟨gb, ob + k * 6, none⟩ = some (.int .i64 b.1) ∧ W'.cell? ⟨gb, ob + k * 6 + 1, none⟩ = some (.int .i64 b.2.m) ∧ W'.cell? ⟨gb, ob + k * 6 + 2, none⟩ = some (.int .i64 b.2.a) ∧ W'.cell? ⟨gb, ob + k * 6 + 3, none⟩ = some (.int .i64 b.2.b) ∧ W'.cell? ⟨gb, ob + k * 6 + 4, none⟩ = some (.int .i64 b.2.c) ∧ W'.cell? ⟨gb, ob + k * 6 + 5, none⟩ = some (.string b.2.tag)) (by kernel_rfl) ⟨X0, X1, X2, X3, X4, X5, Y0, Y1, Y2, Y3, Y4, Y5⟩ (fun hHeld => ?_)
          refine' wpAnyH_take (i := 0) (oi := _) (v := _) ?_ (by kernel_rfl) (by kernel_rfl) (by kernel_rfl) ?_ (Or.inl ⟨?_, ?_⟩) (by assumption) ?_
          rotate_left 2
          · (simp only [List.getElem?_toArray, List.getElem?_cons_succ, List.getElem?_cons_zero]; rfl)
          · first | exact fun _ _ _ h => h | exact fun _ _ _ h => nomatch h.1
          · rfl
          · (intro W hSW; (try dsimp only at hSW); go_split_ands; first | (go_simp; done) | (go_simp; with_reducible rfl))
          try simp only [Act.put, List.setIfInBounds_toArray, List.set_cons_zero, List.set_cons_succ]
          refine' wpAnyH_take (i := 1) (oi := _) (v := _) ?_ (by kernel_rfl) (by kernel_rfl) (by kernel_rfl) ?_ (Or.inl ⟨?_, ?_⟩) (by assumption) ?_
          rotate_left 2
          · (simp only [List.getElem?_toArray, List.getElem?_cons_succ, List.getElem?_cons_zero]; rfl)
          · first | exact fun _ _ _ h => h | exact fun _ _ _ h => nomatch h.1
          · rfl
          · (intro W hSW; (try dsimp only at hSW); go_split_ands; first | (go_simp; done) | (go_simp; with_reducible rfl))
          try simp only [Act.put, List.setIfInBounds_toArray, List.set_cons_zero, List.set_cons_succ]
          refine' wpAnyH_take (i := 2) (oi := _) (v := _) ?_ (by kernel_rfl) (by kernel_rfl) (by kernel_rfl) ?_ (Or.inl ⟨?_, ?_⟩) (by assumption) ?_
          rotate_left 2
          · (simp only [List.getElem?_toArray, List.getElem?_cons_succ, List.getElem?_cons_zero]; rfl)
          · first | exact fun _ _ _ h => h | exact fun _ _ _ h => nomatch h.1
          · rfl
          · (intro W hSW; (try dsimp only at hSW); go_split_ands; first | (go_simp; done) | (go_simp; with_reducible rfl))
          try simp only [Act.put, List.setIfInBounds_toArray, List.set_cons_zero, List.set_cons_succ]
          refine' wpAnyH_take (i := 3) (oi := _) (v := _) ?_ (by kernel_rfl) (by kernel_rfl) (by kernel_rfl) ?_ (Or.inl ⟨?_, ?_⟩) (by assumption) ?_
          rotate_left 2
          · (simp only [List.getElem?_toArray, List.getElem?_cons_succ, List.getElem?_cons_zero]; rfl)
          · first | exact fun _ _ _ h => h | exact fun _ _ _ h => nomatch h.1
          · rfl
          · (intro W hSW; (try dsimp only at hSW); go_split_ands; first | (go_simp; done) | (go_simp; with_reducible rfl))
          try simp only [Act.put, List.setIfInBounds_toArray, List.set_cons_zero, List.set_cons_succ]
          refine' wpAnyH_take (i := 4) (oi := _) (v := _) ?_ (by kernel_rfl) (by kernel_rfl) (by kernel_rfl) ?_ (Or.inl ⟨?_, ?_⟩) (by assumption) ?_
          rotate_left 2
          · (simp only [List.getElem?_toArray, List.getElem?_cons_succ, List.getElem?_cons_zero]; rfl)
          · first | exact fun _ _ _ h => h | exact fun _ _ _ h => nomatch h.1
          · rfl
          · (intro W hSW; (try dsimp only at hSW); go_split_ands; first | (go_simp; done) | (go_simp; with_reducible rfl))
          try simp only [Act.put, List.setIfInBounds_toArray, List.set_cons_zero, List.set_cons_succ]
          refine' wpAnyH_take (i := 5) (oi := _) (v := _) ?_ (by kernel_rfl) (by kernel_rfl) (by kernel_rfl) ?_ (Or.inl ⟨?_, ?_⟩) (by assumption) ?_
          rotate_left 2
          · (simp only [List.getElem?_toArray, List.getElem?_cons_succ, List.getElem?_cons_zero]; rfl)
          · first | exact fun _ _ _ h => h | exact fun _ _ _ h => nomatch h.1
          · rfl
          · (intro W hSW; (try dsimp only at hSW); go_split_ands; first | (go_simp; done) | (go_simp; with_reducible rfl))
          try simp only [Act.put, List.setIfInBounds_toArray, List.set_cons_zero, List.set_cons_succ]
          refine' wpAnyH_take (i := 6) (oi := _) (v := _) ?_ (by kernel_rfl) (by kernel_rfl) (by kernel_rfl) ?_ (Or.inl ⟨?_, ?_⟩) (by assumption) ?_
          rotate_left 2
          · (simp only [List.getElem?_toArray, List.getElem?_cons_succ, List.getElem?_cons_zero]; rfl)
          · first | exact fun _ _ _ h => h | exact fun _ _ _ h => nomatch h.1
          · rfl
          · (intro W hSW; (try dsimp only at hSW); go_split_ands; first | (go_simp; done) | (go_simp; with_reducible rfl))
          try simp only [Act.put, List.setIfInBounds_toArray, List.set_cons_zero, List.set_cons_succ]
          refine' wpAnyH_take (i := 7) (oi := _) (v := _) ?_ (by kernel_rfl) (by kernel_rfl) (by kernel_rfl) ?_ (Or.inl ⟨?_, ?_⟩) (by assumption) ?_
          rotate_left 2
          · (simp only [List.getElem?_toArray, List.getElem?_cons_succ, List.getElem?_cons_zero]; rfl)
          · first | exact fun _ _ _ h => h | exact fun _ _ _ h => nomatch h.1
          · rfl
          · (intro W hSW; (try dsimp only at hSW); go_split_ands; first | (go_simp; done) | (go_simp; with_reducible rfl))
          try simp only [Act.put, List.setIfInBounds_toArray, List.set_cons_zero, List.set_cons_succ]
          refine' wpAnyH_take (i := 8) (oi := _) (v := _) ?_ (by kernel_rfl) (by kernel_rfl) (by kernel_rfl) ?_ (Or.inl ⟨?_, ?_⟩) (by assumption) ?_
          rotate_left 2
          · (simp only [List.getElem?_toArray, List.getElem?_cons_succ, List.getElem?_cons_zero]; rfl)
          · first | exact fun _ _ _ h => h | exact fun _ _ _ h => nomatch h.1
          · rfl
          · (intro W hSW; (try dsimp only at hSW); go_split_ands; first | (go_simp; done) | (go_simp; with_reducible rfl))
          try simp only [Act.put, List.setIfInBounds_toArray, List.set_cons_zero, List.set_cons_succ]
          refine wpAnyH_done (by kernel_rfl) ?_ _
          go_wp2_with fail
          go_ret
          refine ⟨by rw [decide_eq_false (HNE.out HAB.out)]; rfl, ?_⟩
          rw [HWR.out]
          exact (below_drewN (Below.refl _ _) nd).drew
      · obtain rfl : k = N := by omega
        go_wp2_with fail
        go_ret
        have h1 := HLK.out
        rw [List.take_of_length_le (by rw [HN.out]; omega), List.take_of_length_le (by rw [← HLM.out]; omega)] at h1
        refine ⟨by rw [decide_eq_true h1]; rfl, ?_⟩
        rw [HWR.out]
        exact below_drewN (Below.refl _ _) nd
  · have hd : decide (l = m) = false := decide_eq_false (fun e => hlm (by rw [e]))
    have hn : ((l.length : Int) == (m.length : Int)) = false := by rw [beq_eq_false_iff_ne]; omega
    have hn2 : ((l.length : Int) != (m.length : Int)) = true := by rw [bne, hn]; rfl
    rw [hd]
    subst hve
    subst hue
    clear hv hu hlm hd
    go_enter Tryz.func19, Tryz.ntmps19
    go_wp2_with fail
    go_ret
    exact ⟨rfl, by go_grown⟩
end Go.Proofs.YthkngleegefgbaaGreatDoor

/- Reading an operation by reckoning: what is not read so has no operation (plain). -/
namespace Go.Proofs.YthkngleegefgbaaGreatDoor
open Go.Lib (decDigits)
set_option linter.unusedVariables false
set_option linter.unusedSimpArgs false
theorem dec_head : ∀ (k n : Nat), n ≤ k → 1 ≤ n → ∀ c r, decDigits n = c :: r → c ≠ 48
  | 0, n, hk, h1, _, _, _ => by omega
  | k + 1, n, hk, h1, c, r, h => by
    rw [decDigits_step] at h
    split at h
    · rename_i hn
      injection h with h _
      subst h
      intro e
      have := congrArg UInt8.toNat e
      rw [UInt8.toNat_ofNat_of_lt' (show 48 + n < 256 by omega)] at this
      change 48 + n = 48 at this
      omega
    · rename_i hn
      obtain ⟨c', r', hc⟩ : ∃ c' r', decDigits (n / 10) = c' :: r' := by
        cases hh : decDigits (n / 10) with
        | nil => exact absurd hh (decDigits_ne_nil _)
        | cons a b => exact ⟨a, b, rfl⟩
      rw [hc] at h
      injection h with h _
      subst h
      exact dec_head k (n / 10) (by omega) (by omega) c' r' hc
def numC : List UInt8 → Option Int
  | [] => none
  | c :: r => if c = 45 then (if r = [49] then some (-1) else none) else if (c :: r).all isDig && (r.isEmpty || c != 48) then some (valFrom 0 (c :: r)) else none
theorem numC_numL (z : Int) (h : -1 ≤ z) : numC (numL z) = some z := by
  unfold numL
  split
  · obtain rfl : z = -1 := by omega
    rw [show (-1 : Int).natAbs = 1 from rfl, decDigits_step, if_pos (by decide)]
    rfl
  · obtain ⟨c, r, hc, hd⟩ := dec_cons z.natAbs
    have hall := decDigits_all z.natAbs
    have hval := val_decDigits z.natAbs
    have hne : c ≠ 45 := by intro e; subst e; cases hd
    have hz : r = [] ∨ c ≠ 48 := by
      rcases Nat.eq_zero_or_pos z.natAbs with h0 | h0
      · rw [h0, decDigits_step, if_pos (by decide)] at hc
        injection hc with _ hc
        exact .inl hc.symm
      · exact .inr (dec_head _ _ (Nat.le_refl _) h0 c r hc)
    rw [hc] at hall hval ⊢
    show (if c = 45 then (if r = [49] then some (-1) else none) else if (c :: r).all isDig && (r.isEmpty || c != 48) then some ((valFrom 0 (c :: r) : Nat) : Int) else none) = _
    rw [if_neg hne, hall, hval]
    have : (r.isEmpty || c != 48) = true := by
      rcases hz with rfl | hz
      · rfl
      · rw [Bool.or_eq_true]; right; exact bne_iff_ne.2 hz
    rw [this]
    simp
    omega
def takeC (ch : UInt8) (x : Fl) (r : List UInt8) : Option (Fl × List UInt8) :=
  if ch = 113 then (match unqL r with | (t, n, e) => if e = 0 then some ({ x with tag := ⟨t.toArray⟩ }, r.drop n) else none)
  else if ch = 97 then some ({ x with tag := ⟨(hdW r).toArray⟩ }, r.drop (hdW r).length)
  else if ch = 107 then (if hdW r = [102] then some ({ x with a := 1 }, r.drop 1) else if hdW r = [98] then some ({ x with a := 2 }, r.drop 1) else if hdW r = [108] then some ({ x with a := 3 }, r.drop 1) else none)
  else match numC (hdW r) with
    | none => none
    | some v => some (put ch (flN v) x, r.drop (hdW r).length)
theorem takeC_txt {ch : UInt8} (hc : ch ∈ lettersL) (x y : Fl) (hf : Fit ch y) (ps : List (List UInt8)) (hq : ch = 113 → ps = []) : takeC ch x (txt ch y ++ tailL ps) = some (put ch y x, tailL ps) := by
  rcases letters_or hc with hn | rfl | rfl
  · have h1 : ch ≠ 113 := by intro e; subst e; revert hn; decide
    have h2 : ch ≠ 97 := by intro e; subst e; revert hn; decide
    unfold takeC
    rw [if_neg h1, if_neg h2]
    by_cases hk : ch = 107
    · subst hk
      rw [if_pos rfl]
      have ht : txt 107 y = [letterB y.a] := rfl
      obtain ⟨e1, e2⟩ := hdW_tail (x := [letterB y.a]) (by simp only [List.mem_singleton]; exact letterB_no32 y.a) ps
      rw [ht, e1]
      have ha := hf.kind rfl
      have hput : ∀ v, y.a = v → put 107 y x = { x with a := v } := fun v e => by rw [← e]; rfl
      rcases (by omega : y.a = 1 ∨ y.a = 2 ∨ y.a = 3) with e | e | e <;> rw [hput _ e, e] <;> simp [letterB]
    · rw [if_neg hk, txt_num hn hk]
      obtain ⟨e1, e2⟩ := hdW_tail (numL_no32 (fv ch y)) ps
      rw [e1, numC_numL _ (hf.num ch).1]
      simp only [e2]
      rw [put_num hn x y]
  · have hp := hq rfl
    subst hp
    unfold takeC
    rw [if_pos rfl]
    have hu := unqL_quote (hf.quo rfl) []
    have ht : txt 113 y ++ tailL [] = quoteL y.tag.data.toList ++ [] := rfl
    rw [ht, hu]
    simp only [List.append_nil, List.drop_length]
    show some (({ x with tag := _ } : Fl), _) = some (({ x with tag := y.tag } : Fl), _)
    rfl
  · unfold takeC
    rw [if_neg (by decide), if_pos rfl]
    have ht : txt 97 y = y.tag.data.toList := rfl
    obtain ⟨e1, e2⟩ := hdW_tail (hf.ans rfl) ps
    rw [ht, e1, e2]
    rfl
def runC : List UInt8 → Fl → List UInt8 → Option Fl
  | [], x, r => if r = [] then some x else none
  | c :: cs, x, r => match r with
    | [] => none
    | d :: r' => if d = 32 then (match takeC c x r' with | none => none | some (x', r'') => runC cs x' r'') else none
theorem runC_txt (y : Fl) : ∀ (cs : List UInt8) (x : Fl), (∀ c ∈ cs, c ∈ lettersL ∧ Fit c y) → (∀ j < cs.length, cs[j]? = some 113 → j + 1 = cs.length) → runC cs x (tailL (cs.map (txt · y))) = some (cs.foldl (fun z c => put c y z) x)
  | [], x, _, _ => by simp [runC, tailL]
  | c :: cs, x, h1, h2 => by
    rw [List.map_cons, tail_cons]
    unfold runC
    simp only [if_true]
    obtain ⟨hc, hf⟩ := h1 c (by simp)
    rw [takeC_txt hc x y hf _ (fun e => by
      have := h2 0 (by simp) (by simp [e])
      cases cs with
      | nil => rfl
      | cons d ds => simp at this)]
    simp only [List.foldl_cons]
    exact runC_txt y cs _ (fun d hd => h1 d (by simp [hd])) (fun j hj hh => by
      have := h2 (j + 1) (by simp; omega) (by simpa using hh)
      simp at this
      omega)
def kindsL : List Int := [1, 2, 3, 4, 5, 6, 7, 8, 9, 10, 11, 12, 13, 14, 15, 16, 17]
def readC (s : List UInt8) : Option OpR := match kindsL.find? (fun k => wordL k == hdW s) with
  | none => none
  | some k => match runC (partsK k) fl0 (s.drop (hdW s).length) with
    | none => none
    | some x => if opOk k x.m x.a x.b x.c x.tag.data.toList then some (k, x) else none
theorem readC_is {p : OpR} {s : List UInt8} (h : isOp p s) : readC s = some p := by
  obtain ⟨kd, y⟩ := p
  obtain ⟨hy, ht⟩ := h
  have hk := (opOk_iff.1 hy).1
  have e1 := word_of hy ht
  have e2 := rest_of hy ht
  have hf : kindsL.find? (fun k => wordL k == hdW s) = some kd := by
    rw [e1]
    have key : ∀ i : Fin 17, kindsL.find? (fun k => wordL k == wordL ((i.val : Int) + 1)) = some ((i.val : Int) + 1) := by decide
    have := key ⟨(kd - 1).toNat, by omega⟩
    rw [show (((⟨(kd - 1).toNat, by omega⟩ : Fin 17).val : Int) + 1) = kd by show (((kd - 1).toNat : Nat) : Int) + 1 = kd; omega] at this
    exact this
  unfold readC
  rw [hf]
  simp only
  rw [e2, runC_txt y _ _ (fun c hc => ⟨parts_letters kd c hc, fit_of hy hc⟩) (parts_quote hk), parts_all y hy]
  simp only
  rw [if_pos hy]
theorem no_op {s : List UInt8} (h : readC s = none) (p : OpR) : ¬ isOp p s := fun hp => by
  rw [readC_is hp] at h
  cases h
theorem readOp_no {s : List UInt8} (h : readC s = none) : readOp s = none := readOp_none (no_op h)
end Go.Proofs.YthkngleegefgbaaGreatDoor

/- The program's PrintAll: its contract. -/
namespace Go.Proofs.YthkngleegefgbaaGreatDoor
open Go.RowKit
set_option linter.unusedVariables false
set_option linter.unusedSimpArgs false
set_option maxHeartbeats 16000000
set_option maxRecDepth 20000
theorem wstr_c (B b : Nat) (l : List UInt8) (s : ByteArray) (w : World) (h : BF B b l w) (hlen : l.length + s.size ≤ 1000000000) (hBw : B ≤ w.heap.size) :
    Calls Tryz.prog 47 #[.pointer (some ⟨b, 0, none⟩), .string s] w fun e w' => e = .returned (.tuple #[.int .i64 s.size, .nilIface]) ∧ (BF B b (l ++ s.data.toList) w' ∧ Below B w w') := by
  obtain ⟨i0, hi, hz0, hz1, hz2⟩ := info_parts b_byte
  have hll : (Lib.byteCells l).length = l.length := Lib.byteCells_length l
  go_enter Tryz.func47, Tryz.ntmps47
  go_wp2_with (go_at_call 74; refine (copy_c B b _ _ h).mono ?_)
  rintro e w1 ⟨rfl, h1, hb1, hk1⟩
  obtain ⟨hB, v, hbk, hown, hne⟩ := h1
  rw [hll] at hown
  have c0 : w1.cell? ⟨b, 0, none⟩ = some (.pointer (some ⟨b, 0, none⟩)) := by rw [Lib.cell_of_heap hbk]; rfl
  have c1 : w1.cell? ⟨b, 1, none⟩ = some v := by rw [Lib.cell_of_heap hbk]; rfl
  have hlt : b < w1.heap.size := (Array.getElem?_eq_some_iff.1 hbk).1
  have hs1 := hb1.size
  go_wp2_with (at_builtin; refine Lib.wpList_append_own_stringF _ rfl _ _ 81 9 rfl B 5 i0 Tryz.underlying81 Tryz.underlying9 hi hz0 hz1 hz2 _ _ _ rfl hown s rfl ?c3 ?c4 ?c5 ?_)
  case c3 => unfold maxLen; omega
  case c4 => omega
  case c5 => omega
  intro v' w2 hown' hgrow _
  have hb2 : w2.heap[b]? = some (.cells #[.pointer (some ⟨b, 0, none⟩), v] 83 (0, 0)) := by
    rw [hgrow.block b hlt (fun e => hne e.symm)]
    exact hbk
  have d0 : w2.cell? ⟨b, 0, none⟩ = some (.pointer (some ⟨b, 0, none⟩)) := by rw [Lib.cell_of_heap hb2]; rfl
  have d1 : w2.cell? ⟨b, 1, none⟩ = some v := by rw [Lib.cell_of_heap hb2]; rfl
  have f1 : w2.frozen? ⟨b, 1, none⟩ = false := Lib.frozen_of_heap hb2 1
  obtain ⟨ao, n', cap, rfl⟩ : ∃ ao n' cap, v' = .slice ao n' cap := by
    rcases hown'.2 with ⟨hv, _⟩ | ⟨g, cap, cur, fz, hv, _⟩
    · exact ⟨_, _, _, hv⟩
    · exact ⟨_, _, _, hv⟩
  go_wp2
  go_returns
  refine ⟨rfl, .inr ?_, ?_⟩
  · rw [Lib.byteCells_append]
    exact Lib.BuilderAtF.put (T := 83) (e := 5) hB hb2 (bs' := Lib.byteCells l ++ Lib.byteCells s.data.toList) (by rw [show Lib.byteCells s.data.toList = Lib.strCells s from rfl]; simpa [Lib.strCells_length, Lib.byteCells_length, hll, len_bytes] using hown') (by decide)
  · exact (hb1.grown hgrow (by omega) (fun k hk => (hown.lt k hk).1)).setCell (p := ⟨b, 1, none⟩) hB _
theorem blen_c (B b : Nat) (l : List UInt8) (w : World) (h : BF B b l w) : Calls Tryz.prog 49 #[.pointer (some ⟨b, 0, none⟩)] w fun e w' => e = .returned (.int .i64 l.length) ∧ w' = w := by
  have := Tryz.Builder_Len_f B b (Lib.byteCells l) w h
  rw [Lib.byteCells_length] at this
  exact this
def okR (p : OpR) : Bool := opOk p.1 p.2.m p.2.a p.2.b p.2.c p.2.tag.data.toList
theorem clo2_c (p : OpR) (w : World) (hE : EnvL w) (hs : p.2.tag.size ≤ 1000000) : Ret 46 #[opRV p] w (.bool (!okR p)) := by
  have cc := fun W (hW : EnvL W) => check_c p.1 p.2.m p.2.a p.2.b p.2.c p.2.tag W hW hs
  have he : opErr p.1 p.2.m p.2.a p.2.b p.2.c p.2.tag = if okR p then 0 else 2 := rfl
  obtain ⟨kd, m, a, b, c, tag⟩ := p
  have hc := Below.refl w.heap.size w
  cases hk : okR (kd, ⟨m, a, b, c, tag⟩)
  all_goals
    rw [he, hk] at cc
    have CC := Lib.hid cc
    clear cc he hk
    go_enter Tryz.func46, Tryz.ntmps46
    go_upto_region 1 with fail
    have r1 := Row.new (W := w) (cs := opC kd m a b c tag) (t := 23)
    replace hc := below_alloc w (.cells (opC kd m a b c tag) 23)
    generalize w.alloc (.cells (opC kd m a b c tag) 23) = V1 at r1 hc ⊢
    have y1 := r1.cell
    have z1 := r1.lt
    go_wp2_with fail
    refine Calls.mono (CC.out _ (hE.on hc)) ?_
    rintro e V2 ⟨rfl, hn⟩
    replace hc := chain hc hn
    go_wp2_with fail
    go_returns
    exact ⟨rfl, hc⟩
/-- What a list of operations' cells are, in a world behind. -/
theorem holds_at {W W2 : World} {v : Value} {l : List OpR} (h : HoldsO W v l) (hb : Below W.heap.size W W2) {k : Nat} (hk : k < l.length) : ∃ g o c, v = .slice (some ⟨g, o, none⟩) l.length c ∧ W2.cell? ⟨g, o + k * 6, none⟩ = some (.int .i64 l[k].1) ∧ W2.cell? ⟨g, o + k * 6 + 1, none⟩ = some (.int .i64 l[k].2.m) ∧ W2.cell? ⟨g, o + k * 6 + 2, none⟩ = some (.int .i64 l[k].2.a) ∧ W2.cell? ⟨g, o + k * 6 + 3, none⟩ = some (.int .i64 l[k].2.b) ∧ W2.cell? ⟨g, o + k * 6 + 4, none⟩ = some (.int .i64 l[k].2.c) ∧ W2.cell? ⟨g, o + k * 6 + 5, none⟩ = some (.string l[k].2.tag) := by
  rcases h.on hb with ⟨h1, h2⟩ | ⟨g, o, c, hv, ha⟩
  · rw [h2] at hk; simp at hk
  · exact ⟨g, o, c, hv, ha k l[k] (List.getElem?_eq_getElem hk)⟩
theorem indexO_c (v : Value) (l : List OpR) (w : World) (hE : EnvL w) (hv : HoldsO w v l) (hl : l.length ≤ 100000) (ht : ∀ p ∈ l, p.2.tag.size ≤ 1000000) :
    Calls Tryz.prog 73 #[v, .func (.func 46) #[] #[]] w fun e w' => (∃ k, e = .returned (.int .i64 k) ∧ ((k = -1 ∧ l.all okR = true) ∨ (0 ≤ k ∧ l.all okR = false))) ∧ Below w.heap.size w w' := by
  obtain ⟨p0, c0, hve⟩ := hv.len
  have HV := Lib.hid hv
  have HT := Lib.hid ht
  have HE := Lib.hid hE
  subst hve
  obtain ⟨N, hN⟩ : ∃ N, l.length = N := ⟨_, rfl⟩
  rw [hN] at HV hl ⊢
  have HN := Lib.hid hN
  clear hv hN ht hE
  go_enter Tryz.func73, Tryz.ntmps73
  go_wp2_with fail
  go_loopw [8] (fun i wr => ∃ k : Nat, k ≤ N ∧ i = .int .i64 k ∧ (l.take k).all okR = true ∧ Below w.heap.size w wr) (fun i _ => N - (intOf i).toNat)
  case atStart => exact ⟨0, by omega, rfl, rfl, Below.refl _ _⟩
  case round =>
    obtain ⟨k, hk, rfl, hall, hc⟩ := hrel
    have HA := Lib.hid hall
    clear hall
    by_cases hlt : k < N
    · have hkl : k < l.length := by rw [HN.out]; exact hlt
      obtain ⟨g, o, c, hvv, x0, x1, x2, x3, x4, x5⟩ := holds_at HV.out hc hkl
      rw [HN.out] at hvv
      injection hvv with hp1 hp2 hp3
      subst hp1
      have htg := HT.out l[k] (List.getElem_mem hkl)
      have htk : l.take (k + 1) = l.take k ++ [l[k]] := by rw [List.take_succ_eq_append_getElem hkl]
      have hno : okR l[k] = false → l.all okR = false := fun h => by
        cases hh : l.all okR with
        | false => rfl
        | true => rw [List.all_eq_true.1 hh l[k] (List.getElem_mem hkl)] at h; cases h
      have cc := fun W hW => clo2_c l[k] W hW htg
      have HTK := Lib.hid htk
      have HNO := Lib.hid hno
      clear htk hno htg hp2 hp3
      generalize l[k] = p at *
      clear hkl
      cases hp : okR p
      · rw [hp] at cc
        have HP := Lib.hid hp
        have CC := Lib.hid cc
        clear cc hp
        go_wp2_with fail
        refine Calls.mono (CC.out _ (HE.out.on hc)) ?_
        rintro e V2 ⟨rfl, hn⟩
        replace hc := chain hc hn
        clear x0 x1 x2 x3 x4 x5
        go_wp2_with fail
        go_returns
        exact ⟨⟨_, rfl, .inr ⟨by omega, HNO.out HP.out⟩⟩, hc⟩
      · rw [hp] at cc
        have HP := Lib.hid hp
        have CC := Lib.hid cc
        clear cc hp
        go_wp2_with fail
        refine Calls.mono (CC.out _ (HE.out.on hc)) ?_
        rintro e V2 ⟨rfl, hn⟩
        replace hc := chain hc hn
        clear x0 x1 x2 x3 x4 x5
        go_wp2_with fail
        go_roundw
        case rel => exact ⟨k + 1, by omega, by go_num, by rw [HTK.out, List.all_append, HA.out]; simp [HP.out], hc⟩
        case measure => simp [intOf]; omega
    · obtain rfl : k = N := by omega
      go_wp2_with fail
      go_returns
      have h1 := HA.out
      rw [List.take_of_length_le (by rw [HN.out]; exact Nat.le_refl _)] at h1
      exact ⟨⟨_, rfl, .inl ⟨rfl, h1⟩⟩, hc⟩
theorem containsO_c (v : Value) (l : List OpR) (w : World) (hE : EnvL w) (hv : HoldsO w v l) (hl : l.length ≤ 100000) (ht : ∀ p ∈ l, p.2.tag.size ≤ 1000000) :
    Ret 45 #[v, .func (.func 46) #[] #[]] w (.bool (!l.all okR)) := by
  have c := indexO_c v l w hE hv hl ht
  have C := Lib.hid c
  clear c
  go_enter Tryz.func45, Tryz.ntmps45
  go_wp2_with fail
  refine Calls.mono C.out ?_
  rintro e V1 ⟨⟨k, rfl, hk⟩, hn⟩
  rcases hk with ⟨rfl, ha⟩ | ⟨hk, ha⟩
  · go_wp2_with fail
    go_returns
    exact ⟨by rw [ha]; rfl, hn⟩
  · have HA := Lib.hid ha
    clear ha
    go_wp2_with fail
    go_returns
    exact ⟨by rw [HA.out]; simp; try omega, hn⟩
end Go.Proofs.YthkngleegefgbaaGreatDoor

/- The program's PrintAll: its contract. -/
namespace Go.Proofs.YthkngleegefgbaaGreatDoor
open Go.RowKit
set_option linter.unusedVariables false
set_option linter.unusedSimpArgs false
set_option maxHeartbeats 16000000
set_option maxRecDepth 20000
def opLR (p : OpR) : List UInt8 := opL p.1 p.2.m p.2.a p.2.b p.2.c p.2.tag.data.toList
/-- The text of a script. -/
def opsL (l : List OpR) : List UInt8 := l.flatMap fun p => opLR p ++ [10]
theorem opsL_snoc (l : List OpR) (p : OpR) : opsL (l ++ [p]) = opsL l ++ opLR p ++ [10] := by simp [opsL]
theorem opsL_app (l m : List OpR) : opsL (l ++ m) = opsL l ++ opsL m := by simp [opsL]
def printAllR (l : List OpR) : List UInt8 × Int := if 2000 < l.length then ([], 11) else if l.all okR = false then ([], 2) else if 65536 < (opsL l).length then ([], 10) else (opsL l, 0)
theorem opLR_len {p : OpR} (h : okR p = true) : (opLR p).length ≤ 2000 := by
  have hx : p.2.ok p.1 := h
  have hk := (opOk_iff.1 hx).1
  have h1 := txts_len hx
  show (opL _ _ _ _ _ _).length ≤ _
  rw [opL_tail, parts_txt hk]
  have hw : (wordL p.1).length ≤ 100 := by
    unfold wordL
    rw [if_pos hk]
    exact kinds_fin (fun i => (wordsL.getD i []).length ≤ 100) (by decide) hk
  have hp4 : (partsK p.1).length ≤ 4 := by
    rw [partsK_eq hk]
    exact kinds_fin (fun i => (partsLs.getD i []).length ≤ 4) (by decide) hk
  have key : ∀ cs : List UInt8, (tailL (cs.map (txt · p.2))).length ≤ 301 * cs.length := by
    intro cs
    induction cs with
    | nil => simp [tailL]
    | cons c cs ih =>
      rw [List.map_cons, tail_cons]
      have := h1 c
      simp
      omega
  have := key (partsK p.1)
  rw [List.length_append]
  omega
theorem printAll_c (v : Value) (l : List OpR) (w : World) (hE : EnvL w) (hv : HoldsO w v l) (hl : l.length ≤ 100000) (ht : ∀ p ∈ l, p.2.tag.size ≤ 1000000) :
    Ret 22 #[v] w (.tuple #[.string ⟨(printAllR l).1.toArray⟩, .int .i64 (printAllR l).2]) := by
  obtain ⟨p0, c0, hve⟩ := hv.len
  have ct := fun W (hb : Below w.heap.size w W) => containsO_c v l W (hE.on hb) (hv.on hb) hl ht
  have HV := Lib.hid hv
  have HE := Lib.hid hE
  subst hve
  by_cases hbig : (2000 : Int) < l.length
  · rw [show printAllR l = ([], 11) by unfold printAllR; rw [if_pos (by omega)]]
    clear ct hv ht hE
    go_enter Tryz.func22, Tryz.ntmps22
    go_wp2_with fail
    go_returns
    exact ⟨rfl, Below.refl _ _⟩
  · cases hall : l.all okR
    · rw [show printAllR l = ([], 2) by unfold printAllR; rw [if_neg (by omega), if_pos hall]]
      rw [hall] at ct
      have CT := Lib.hid ct
      clear ct hv ht hE hall
      go_enter Tryz.func22, Tryz.ntmps22
      go_wp2_with fail
      refine Calls.mono (CT.out _ (Below.refl _ _)) ?_
      rintro e V1 ⟨rfl, hn⟩
      go_wp2_with fail
      go_returns
      exact ⟨rfl, hn⟩
    · rw [hall] at ct
      have hr1 : ∀ k, 65536 < (opsL (l.take k)).length → printAllR l = ([], 10) := fun k hk => by
        unfold printAllR
        rw [if_neg (by omega), if_neg (by rw [hall]; decide), if_pos]
        have e : opsL l = opsL (l.take k) ++ opsL (l.drop k) := by rw [← opsL_app, List.take_append_drop]
        rw [e, List.length_append]
        omega
      have hr2 : (opsL l).length ≤ 65536 → printAllR l = (opsL l, 0) := fun h => by
        unfold printAllR
        rw [if_neg (by omega), if_neg (by rw [hall]; decide), if_neg (by omega)]
      have CT := Lib.hid ct
      have HR1 := Lib.hid hr1
      have HR2 := Lib.hid hr2
      have HALL := Lib.hid (List.all_eq_true.1 hall)
      obtain ⟨N, hN⟩ : ∃ N, l.length = N := ⟨_, rfl⟩
      have HN := Lib.hid hN
      rw [hN] at HV hl hbig CT ⊢
      clear ct hv ht hE hr1 hr2 hall hN
      go_enter Tryz.func22, Tryz.ntmps22
      go_wp2_with fail
      refine Calls.mono (CT.out _ (Below.refl _ _)) ?_
      rintro e V1 ⟨rfl, hn⟩
      go_upto_region 6 with fail
      have hI : BF V1.heap.size V1.heap.size [] (V1.alloc (.cells #[.pointer none, .slice none 0 0] 83)) := Lib.IsBuilderF.of (Lib.fresh_isBuilder _ _ V1)
      have hc := hn.alloc hn.size (.cells #[.pointer none, .slice none 0 0] 83)
      have hb0 : w.heap.size ≤ V1.heap.size := hn.size
      have hbb : V1.heap.size ≤ (V1.alloc (.cells #[.pointer none, .slice none 0 0] 83)).heap.size := by simp
      clear hn CT
      generalize V1.alloc (.cells #[.pointer none, .slice none 0 0] 83) = V2 at *
      generalize V1.heap.size = b at *
      go_wp2_with fail
      go_loopw [18] (fun i wr => ∃ k : Nat, k ≤ N ∧ i = .int .i64 k ∧ BF b b (opsL (l.take k)) wr ∧ (opsL (l.take k)).length ≤ 65536 ∧ Below w.heap.size w wr ∧ b ≤ wr.heap.size) (fun i _ => N - (intOf i).toNat)
      case atStart => exact ⟨0, by omega, rfl, hI, by simp [opsL], hc, hbb⟩
      case round =>
        clear hI hc hbb
        obtain ⟨k, hk, rfl, hI, hsz, hc, hbb⟩ := hrel
        by_cases hlt : k < N
        · have hkl : k < l.length := by rw [HN.out]; exact hlt
          obtain ⟨g, o, c, hvv, x0, x1, x2, x3, x4, x5⟩ := holds_at HV.out hc hkl
          rw [HN.out] at hvv
          injection hvv with hp1 hp2 hp3
          subst hp1
          have hok := HALL.out l[k] (List.getElem_mem hkl)
          have htk : opsL (l.take (k + 1)) = opsL (l.take k) ++ opLR l[k] ++ [10] := by rw [List.take_succ_eq_append_getElem hkl, opsL_snoc]
          have cp := fun W hW => print_ok l[k].1 l[k].2 W hW hok
          have hle := opLR_len hok
          have HTK := Lib.hid htk
          clear htk hok hp2 hp3
          generalize l[k] = p at *
          obtain ⟨T, hT⟩ : ∃ T, T = opText p.1 p.2.m p.2.a p.2.b p.2.c p.2.tag := ⟨_, rfl⟩
          have hTl : T.data.toList = opLR p := by rw [hT]; simp [opText, opLR]
          have hTs := len_bytes T
          rw [hTl] at hTs
          rw [← hT] at cp
          have CP := Lib.hid cp
          have HTL := Lib.hid hTl
          have hle2 : T.size ≤ 2000 := by omega
          clear cp hT hTl hkl
          go_upto_region 9 with fail
          clear x0 x1 x2 x3 x4 x5
          have r6 := Row.new (W := wr) (cs := #[.int .i64 p.1, .int .i64 p.2.m, .int .i64 p.2.a, .int .i64 p.2.b, .int .i64 p.2.c, .string p.2.tag]) (t := 23)
          have hn := below_alloc wr (.cells #[.int .i64 p.1, .int .i64 p.2.m, .int .i64 p.2.a, .int .i64 p.2.b, .int .i64 p.2.c, .string p.2.tag] 23)
          replace hI := BF_on hI hn
          replace hc := chain hc hn
          replace hbb := Nat.le_trans hbb hn.size
          clear hn
          generalize wr.alloc (.cells #[.int .i64 p.1, .int .i64 p.2.m, .int .i64 p.2.a, .int .i64 p.2.b, .int .i64 p.2.c, .string p.2.tag] 23) = W1 at *
          generalize wr.heap.size = b6 at *
          have y6 := r6.cell
          have z6 := r6.lt
          go_wp2_with fail
          refine Calls.mono (CP.out _ (HE.out.on hc)) ?_
          rintro e W2 ⟨rfl, hn⟩
          clear y6 z6 r6
          replace hI := BF_on hI hn
          replace hc := chain hc hn
          replace hbb := Nat.le_trans hbb hn.size
          clear hn
          go_wp2_with fail
          refine Calls.mono (wstr_c b b _ T _ hI (by omega) hbb) ?_
          rintro e W3 ⟨rfl, hI3, hb3⟩
          replace hc := hc.trans (hb3.mono hb0)
          replace hbb := Nat.le_trans hbb hb3.size
          have hl3 : (opsL (l.take k) ++ T.data.toList).length + 1 ≤ 1000000000 := by rw [List.length_append, len_bytes]; omega
          clear hI hb3
          go_wp2_with fail
          refine Calls.mono (wbyte_c b b _ 10 _ hI3 hl3 hbb) ?_
          rintro e W4 ⟨rfl, hI4, hb4, -⟩
          replace hc := hc.trans (hb4.mono hb0)
          replace hbb := Nat.le_trans hbb hb4.size
          rw [HTL.out, ← HTK.out] at hI4
          clear hI3 hb4 hl3
          go_wp2_with fail
          refine Calls.mono (blen_c b b _ _ hI4) ?_
          rintro e W5 ⟨rfl, hW⟩
          subst W5
          by_cases hlong : (65536 : Int) < (opsL (l.take (k + 1))).length
          · have h10 := HR1.out (k + 1) (by omega)
            have H10 := Lib.hid h10
            clear h10
            go_wp2_with fail
            go_returns
            exact ⟨by rw [H10.out]; rfl, hc⟩
          · have hs5 : (opsL (l.take (k + 1))).length ≤ 65536 := by omega
            generalize hX : opsL (l.take (k + 1)) = X at *
            go_wp2_with fail
            go_roundw
            case rel => exact ⟨k + 1, by omega, by go_num, by rw [hX]; exact hI4, by rw [hX]; exact hs5, hc, hbb⟩
            case measure => simp [intOf]; omega
        · obtain rfl : k = N := by omega
          rw [List.take_of_length_le (by rw [HN.out]; exact Nat.le_refl _)] at hI hsz
          have h0 := HR2.out hsz
          have H0 := Lib.hid h0
          clear h0
          go_wp2_with fail
          refine Calls.mono (bstr_c b b _ _ hI hbb) ?_
          rintro e W2 ⟨rfl, hI2, hb2⟩
          go_wp2_with fail
          go_returns
          exact ⟨by rw [H0.out]; rfl, hc.trans (hb2.mono hb0)⟩
end Go.Proofs.YthkngleegefgbaaGreatDoor

/- Texts of operations: no line feed; scripts line by line (plain). -/
namespace Go.Proofs.YthkngleegefgbaaGreatDoor
open Go.RowKit
open Go.Lib (decDigits)
set_option linter.unusedVariables false
set_option linter.unusedSimpArgs false
theorem enc_no10 (r : Nat) (h : 128 ≤ r) (h2 : r ≤ 1114111) : ∀ b ∈ Lib.encodeRune (r : Int), b ≠ 10 := by
  intro b hb
  have key : ∀ z : Int, 128 ≤ z → z ≤ 255 → ∀ b : UInt8, b = z.toNat.toUInt8 → b ≠ 10 := by
    intro z h0 h1 b hb
    have h3 : b.toNat = z.toNat := by rw [hb]; simp [Nat.toUInt8]; omega
    intro e
    rw [e] at h3
    simp at h3
    omega
  unfold Lib.encodeRune at hb
  obtain ⟨z, hz, rfl⟩ := List.mem_map.1 hb
  refine key z ?_ ?_ _ rfl
  · unfold Lib.encodeRuneZ at hz
    split at hz
    · omega
    · split at hz
      · simp at hz; omega
      · split at hz
        · simp at hz; omega
        · split at hz <;> simp at hz <;> omega
  · unfold Lib.encodeRuneZ at hz
    split at hz
    · omega
    · split at hz
      · simp at hz; omega
      · split at hz
        · simp at hz; omega
        · split at hz <;> simp at hz <;> omega
theorem runes_no10 : ∀ (k : Nat) (l : List UInt8) (rs : List Nat), l.length ≤ k → runesL l = some rs → rs.all runeOk = true → (10 : UInt8) ∉ l := by
  intro k
  induction k with
  | zero =>
    intro l rs hl _ _
    have h0 : l = [] := List.eq_nil_of_length_eq_zero (by omega)
    rw [h0]
    simp
  | succ k ih =>
    intro l rs hl h ha
    by_cases hne : l = []
    · rw [hne]; simp
    · rw [runesL_step hne] at h
      cases hr : rnL l with
      | none => rw [hr] at h; cases h
      | some p =>
        obtain ⟨r, n⟩ := p
        rw [hr] at h
        obtain ⟨h1, _⟩ := rnL_some hr
        have hw := dec_width l hne
        rw [h1] at hw
        have hle := rune_le hr
        cases hx : runesL (l.drop n) with
        | none => simp [hx] at h
        | some xs =>
          simp [hx] at h
          subst h
          simp only [List.all_cons, Bool.and_eq_true] at ha
          have hi := ih (l.drop n) xs (by rw [List.length_drop]; simp at hw; omega) hx ha.2
          have hb := rnL_bytes hne hr
          rw [← List.take_append_drop n l, List.mem_append, ← hb]
          rintro (hm | hm)
          · by_cases h2 : r < 128
            · unfold Lib.encodeRune at hm
              rw [Lib.encodeRuneZ_one (by omega) (by omega)] at hm
              simp at hm
              have h3 : r = 10 := by
                have := congrArg UInt8.toNat hm
                simp [Nat.toUInt8] at this
                omega
              subst h3
              exact absurd ha.1 (by decide)
            · exact enc_no10 r (by omega) hle 10 hm rfl
          · exact hi hm
theorem tag_no10 {l : List UInt8} (h : tagOk l = true) : (10 : UInt8) ∉ l := by
  unfold tagOk at h
  cases hr : runesL l with
  | none => rw [hr] at h; cases h
  | some rs =>
    rw [hr] at h
    simp only [tagOf, Bool.and_eq_true, decide_eq_true_iff] at h
    exact runes_no10 l.length l rs (Nat.le_refl _) hr (by simp_all)
theorem esc_no10 {l : List UInt8} (h : (10 : UInt8) ∉ l) : (10 : UInt8) ∉ escL l := by
  induction l with
  | nil => simp [escL]
  | cons b t ih =>
    rw [List.mem_cons, not_or] at h
    show 10 ∉ escB b ++ escL t
    rw [List.mem_append, not_or]
    refine ⟨?_, ih h.2⟩
    unfold escB
    split
    · simp [h.1]
    · simpa using h.1
theorem quote_no10 {l : List UInt8} (h : tagOk l = true) : (10 : UInt8) ∉ quoteL l := by
  have := esc_no10 (tag_no10 h)
  unfold quoteL
  simp [this]
theorem numL_no10 (n : Int) : (10 : UInt8) ∉ numL n := by
  unfold numL
  split
  · simp only [List.mem_cons, not_or]
    exact ⟨by decide, not_mem_dec (by decide)⟩
  · exact not_mem_dec (by decide)
theorem txt_no10 {p : OpR} (h : okR p = true) {ch : UInt8} (hc : ch ∈ partsK p.1) : (10 : UInt8) ∉ txt ch p.2 := by
  have hx : p.2.ok p.1 := h
  have hf := fit_of hx hc
  rcases letters_or (parts_letters _ _ hc) with hn | rfl | rfl
  · by_cases hk : ch = 107
    · subst hk
      show 10 ∉ [letterB p.2.a]
      simp only [List.mem_singleton]
      unfold letterB
      repeat' split
      all_goals decide
    · rw [txt_num hn hk]; exact numL_no10 _
  · exact quote_no10 (hf.quo rfl)
  · show 10 ∉ p.2.tag.data.toList
    have hk := (part_kinds (opOk_iff.1 hx).1).2.2 hc
    have ht := (opOk_iff.1 hx).2.2.2.2.2
    rw [hk] at ht
    have ht : ansOk p.2.tag.data.toList = true := ht
    unfold ansOk at ht
    simp only [Bool.and_eq_true] at ht
    intro h10
    have := List.all_eq_true.1 ht.2 _ h10
    revert this
    decide
theorem opLR_eq {p : OpR} (h : okR p = true) : opLR p = wordL p.1 ++ tailL ((partsK p.1).map (txt · p.2)) := isO_word (show p.2.ok p.1 from h)
theorem word_no10 (kd : Int) : (10 : UInt8) ∉ wordL kd := by
  unfold wordL
  split
  · rename_i h
    exact kinds_fin (fun i => (10 : UInt8) ∉ wordsL.getD i []) (by decide) h
  · simp
theorem opLR_no10 {p : OpR} (h : okR p = true) : (10 : UInt8) ∉ opLR p := by
  rw [opLR_eq h, List.mem_append, not_or]
  refine ⟨word_no10 _, ?_⟩
  have key : ∀ cs : List UInt8, (∀ c ∈ cs, c ∈ partsK p.1) → (10 : UInt8) ∉ tailL (cs.map (txt · p.2)) := by
    intro cs hcs
    induction cs with
    | nil => simp [tailL]
    | cons c cs ih =>
      rw [List.map_cons, tail_cons]
      simp only [List.mem_cons, List.mem_append, not_or]
      exact ⟨by decide, txt_no10 h (hcs c (by simp)), ih (fun d hd => hcs d (by simp [hd]))⟩
  exact key _ (fun c hc => hc)
/-- A text is that of one line at most 1,000 bytes long. -/
theorem opLR_short {p : OpR} (h : okR p = true) : (opLR p).length ≤ 1000 := by
  have hx : p.2.ok p.1 := h
  have hk := (opOk_iff.1 hx).1
  have h1 : ∀ ch, (txt ch p.2).length ≤ 202 := fun ch => by
    have hn : ∀ c, (numL (fv c p.2)).length ≤ 30 := fun c => by
      have := fv_rng hx c
      have hd : (decDigits (fv c p.2).natAbs).length ≤ 20 := dec_len 19 _ (by omega)
      unfold numL
      split <;> simp <;> omega
    have ht : (quoteL p.2.tag.data.toList).length ≤ 202 ∧ p.2.tag.data.toList.length ≤ 202 := by
      have h1 := tag_sz hx
      have h2 := len_bytes p.2.tag
      have h3 := escL_len p.2.tag.data.toList
      refine ⟨?_, by omega⟩
      unfold quoteL
      simp
      omega
    unfold txt
    split
    · simp
    · split
      · exact ht.1
      · have h1 := hn 109; have h2 := hn 110; have h3 := hn 105; have h4 := hn 118
        change (numL p.2.m).length ≤ 30 at h1
        change (numL p.2.a).length ≤ 30 at h2
        change (numL p.2.b).length ≤ 30 at h3
        change (numL p.2.c).length ≤ 30 at h4
        repeat' split
        all_goals omega
  have hw : (wordL p.1).length ≤ 10 := by
    unfold wordL
    rw [if_pos hk]
    exact kinds_fin (fun i => (wordsL.getD i []).length ≤ 10) (by decide) hk
  have hp4 : (partsK p.1).length ≤ 4 := by
    rw [partsK_eq hk]
    exact kinds_fin (fun i => (partsLs.getD i []).length ≤ 4) (by decide) hk
  have key : ∀ cs : List UInt8, (tailL (cs.map (txt · p.2))).length ≤ 203 * cs.length := by
    intro cs
    induction cs with
    | nil => simp [tailL]
    | cons c cs ih =>
      rw [List.map_cons, tail_cons]
      have := h1 c
      simp
      omega
  have := key (partsK p.1)
  rw [opLR_eq h, List.length_append]
  omega
theorem opsL_short {l : List OpR} (h : l.all okR = true) : (opsL l).length ≤ 1001 * l.length := by
  induction l with
  | nil => simp [opsL]
  | cons p l ih =>
    rw [List.all_cons, Bool.and_eq_true] at h
    have h1 := opLR_short h.1
    have h2 := ih h.2
    rw [show opsL (p :: l) = opLR p ++ [10] ++ opsL l from rfl]
    simp
    omega
theorem opLR_skip {p : OpR} (h : okR p = true) : skipL (opLR p) = false := by
  have hk := (opOk_iff.1 (show opOk p.1 p.2.m p.2.a p.2.b p.2.c p.2.tag.data.toList = true from h)).1
  have key : ∃ c r, wordL p.1 = c :: r ∧ c ≠ 35 := by
    have := kinds_fin (fun i => ∃ c r, wordsL.getD i [] = c :: r ∧ c ≠ 35) (fun i => by
      have : (wordsL.getD i []).head? ≠ some 35 ∧ wordsL.getD i [] ≠ [] := by revert i; decide
      cases hh : wordsL.getD i [] with
      | nil => exact absurd hh this.2
      | cons c r => rw [hh] at this; exact ⟨c, r, rfl, fun e => this.1 (by rw [e]; rfl)⟩) hk
    unfold wordL
    rw [if_pos hk]
    exact this
  obtain ⟨c, r, hc, hne⟩ := key
  rw [opLR_eq h, hc]
  unfold skipL
  simp [hne]
theorem read_opLR {p : OpR} (h : okR p = true) : isOp p (opLR p) := ⟨h, rfl⟩
theorem opLR_inj {p q : OpR} (hp : okR p = true) (hq : okR q = true) (h : opLR p = opLR q) : p = q := isOp_unique (read_opLR hp) ⟨hq, h.symm⟩
/-- The lines of a script. -/
theorem cut_ops {l : List OpR} (h : l.all okR = true) (rest : List UInt8) : cutAll 10 (opsL l ++ rest) = l.map opLR ++ cutAll 10 rest := by
  induction l with
  | nil => rfl
  | cons p l ih =>
    rw [List.all_cons, Bool.and_eq_true] at h
    rw [show opsL (p :: l) ++ rest = opLR p ++ 10 :: (opsL l ++ rest) by simp [opsL], cutAll_at _ _ _ (opLR_no10 h.1), ih h.2]
    rfl
theorem all_ops {l : List OpR} (h : l.all okR = true) : ∀ (rest : List (List UInt8)) (n : Nat) (acc : List OpR), acc.length + l.length ≤ 2000 → allR (l.map opLR ++ rest) n acc = allR rest (n + l.length) (acc ++ l) := by
  induction l with
  | nil => intro rest n acc _; simp
  | cons p l ih =>
    intro rest n acc hl
    rw [List.all_cons, Bool.and_eq_true] at h
    rw [List.map_cons, List.cons_append, allR, if_neg (by rw [opLR_skip h.1]; decide), if_neg (by simp at hl; omega), readOp_some (read_opLR h.1)]
    simp only
    rw [ih h.2 rest (n + 1) (acc ++ [p]) (by simp at hl ⊢; omega)]
    rw [List.append_assoc, List.length_cons, show n + 1 + l.length = n + (l.length + 1) by omega]
    rfl
/-- A script is read from its text. -/
theorem parse_ops {l : List OpR} (h : l.all okR = true) (hl : l.length ≤ 60) : parseAllR (opsL l) = (l, 0, 0) := by
  have hs := opsL_short h
  unfold parseAllR
  rw [if_neg (by omega)]
  have := cut_ops h []
  rw [List.append_nil] at this
  rw [this, all_ops h _ 0 [] (by simp; omega)]
  simp [cutAll, allR, skipL]
theorem print_ops {l : List OpR} (h : l.all okR = true) (hl : l.length ≤ 60) : printAllR l = (opsL l, 0) := by
  have hs := opsL_short h
  unfold printAllR
  rw [if_neg (by omega), if_neg (by rw [h]; decide), if_neg (by omega)]
/-- A wrong line behind operations. -/
theorem parse_wrong {l : List OpR} (h : l.all okR = true) (hl : l.length ≤ 60) {bad more : List UInt8} (hb : (10 : UInt8) ∉ bad) (hs : skipL bad = false) (hr : readC bad = none) (hlen : bad.length + more.length ≤ 1000) : parseAllR (opsL l ++ (bad ++ 10 :: more)) = ([], l.length + 1, 9) := by
  have h1 := opsL_short h
  unfold parseAllR
  rw [if_neg (by simp; omega), cut_ops h, all_ops h _ 0 [] (by simp; omega), cutAll_at _ _ _ hb, allR, if_neg (by rw [hs]; decide), if_neg (by simp; omega), readOp_no hr]
  simp
theorem word_pre {p : OpR} (h : okR p = true) : Lib.hasPrefix (opLR p) (wordL p.1) = true := by
  rw [opLR_eq h]
  unfold Lib.hasPrefix
  rw [List.isPrefixOf_iff_prefix]
  exact List.prefix_append _ _
end Go.Proofs.YthkngleegefgbaaGreatDoor
