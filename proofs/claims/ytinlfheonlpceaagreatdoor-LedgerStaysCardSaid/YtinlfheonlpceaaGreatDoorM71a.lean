/- More of what the walks of chapter 07's laws share: clear, Pick3, attempts that are not valid. -/
import Derived.Test.YtinlfheonlpceaaGreatDoorM61a
import Derived.Deep.CutBlock
namespace Go.Proofs.YtinlfheonlpceaaGreatDoor
open Go.RowKit
set_option linter.unusedVariables false
set_option linter.unusedSimpArgs false
set_option maxHeartbeats 40000000
set_option maxRecDepth 20000
abbrev zA : Array Value := #[.int .i64 0, .int .i64 0, .int .i64 0, .int .u32 0, .int .i64 0, .int .i64 0]
theorem zcA_len (n : Nat) : (Builtin.zeroCells zA n).toList.length = n * 6 := by simp [Builtin.zeroCells]
theorem zcA_one (n : Nat) : ∀ v ∈ (Builtin.zeroCells zA n).toList, v.oneCell' = true := by
  intro v hv
  rw [Array.mem_toList_iff] at hv
  unfold Builtin.zeroCells at hv
  obtain ⟨i, -, rfl⟩ := Array.mem_map.1 hv
  have : i % 6 = 0 ∨ i % 6 = 1 ∨ i % 6 = 2 ∨ i % 6 = 3 ∨ i % 6 = 4 ∨ i % 6 = 5 := by omega
  show (_ : Value).oneCell' = true
  rw [show (zA : Array Value).size = 6 from rfl]
  rcases this with h | h | h | h | h | h <;> rw [h] <;> rfl
theorem below_rowA {B : Nat} {w w1 : World} (h : Below B w w1) {g : Nat} (hg : B ≤ g) (cs : Array Value) : Below B w (w1.setRow g cs) := by
  refine ⟨h.os, h.tape, h.output, ?_, fun k hk => ?_⟩
  · simp only [World.setRow, Array.size_modify]
    exact h.size
  · simp only [World.setRow, Array.getElem?_modify]
    rw [if_neg (by omega)]
    exact h.block k hk
theorem clearA_run (W : World) (ty : TypeId) (v : Value) (l : List AtR) (b B : Nat) (w0 : World) (h : OwnsA b W v l) (hB : Below B w0 W) (hb : B ≤ b) :
    ∃ W', (Builtin.clear_ #[26] ty #[v]).run Tryz.prog W = .ok (.tuple #[]) W' ∧ Below B w0 W' := by
  rcases h.2 with ⟨rfl, h0⟩ | ⟨g, cap, cur, rfl, h2, h3, h4⟩
  · refine ⟨W, ?_, hB⟩
    simp [Builtin.clear_, go_sem, Tryz.underlying26]
  · obtain ⟨h5, h6, h7, h8⟩ := h4
    by_cases hn : l.length = 0
    · refine ⟨W, ?_, hB⟩
      rw [hn]
      simp [Builtin.clear_, go_sem, Tryz.underlying26]
    · obtain ⟨m, hm⟩ : ∃ m, l.length = m + 1 := ⟨l.length - 1, by omega⟩
      have hz : (Builtin.zeroCells zA l.length).toList.length = l.length * 6 := zcA_len _
      obtain ⟨XS, hst⟩ : ∃ XS, (storeCells ⟨g, 0, none⟩ (Builtin.zeroCells zA l.length).toList).run Tryz.prog W = .ok () (W.setRow g XS) :=
        ⟨_, run_storeCells_at (P := Tryz.prog) g 0 43 (Builtin.zeroCells zA l.length).toList 0 cur W h3 (by rw [hz, h7]; have := Nat.mul_le_mul_right 6 h5; omega) (zcA_one _)⟩
      refine ⟨W.setRow g XS, ?_, below_rowA hB (Nat.le_trans hb h2) _⟩
      have hz9 : Tryz.t43.zero = some (.agg zA) := by kernel_rfl
      rw [hm] at hst ⊢
      simp [Builtin.clear_, go_sem, Tryz.underlying26, hz9, hst, zeroValue]
theorem pick3_c (n : Int) (h0 : 0 ≤ n) (h1 : n ≤ 255) (w : World) : Calls Tryz.prog 44 #[.int .u8 n] w fun e w' => (∃ x : Int, e = .returned (.int .i64 x) ∧ (x < 1 ∨ 3 < x)) ∧ Below w.heap.size w w' := by
  have hc := Below.refl w.heap.size w
  have h3 : n / 8 % 3 = 0 ∨ n / 8 % 3 = 1 ∨ n / 8 % 3 = 2 := by omega
  rcases h3 with h3 | h3 | h3
  · go_enter Tryz.func44, Tryz.ntmps44
    go_wp2_with fail
    go_returns
    exact ⟨⟨_, rfl, by decide⟩, hc.alloc hc.size _⟩
  · go_enter Tryz.func44, Tryz.ntmps44
    go_wp2_with fail
    go_returns
    exact ⟨⟨_, rfl, by decide⟩, hc.alloc hc.size _⟩
  · go_enter Tryz.func44, Tryz.ntmps44
    go_wp2_with fail
    go_returns
    exact ⟨⟨_, rfl, by decide⟩, hc.alloc hc.size _⟩
theorem bad_err {b : AtR} (h : aOk b = false) (l : List AtR) : addE l b = 2 ∧ aErr b = 2 ∧ printA (l ++ [b]) = ([], 2) := by
  refine ⟨by unfold addE; rw [if_pos h], aErr_bad h, ?_⟩
  unfold printA
  rw [if_neg]
  rw [List.all_append]
  simp [h]
theorem bad_why {x : Int} (h : x < 1 ∨ 3 < x) : aOk ⟨1099511627776, 1, 3, 1, x, 1⟩ = false := by
  cases h2 : aOk ⟨1099511627776, 1, 3, 1, x, 1⟩ with
  | false => rfl
  | true => have := (aOk_iff.1 h2).2.2.1; simp only at this; omega
theorem bad_ans {x : Int} (h : x < 1 ∨ 3 < x) : aOk ⟨1099511627776, 1, 3, 1, 1, x⟩ = false := by
  cases h2 : aOk ⟨1099511627776, 1, 3, 1, 1, x⟩ with
  | false => rfl
  | true => have := (aOk_iff.1 h2).2.2.2; simp only at this; omega
theorem late_ok {l : List AtR} (h : ∀ a ∈ l, aOk a = true ∧ gIn a) (hl : l.length ≤ 100) : addE l ⟨1099511627776, 3, 0, 2, 2, 2⟩ = 0 := by
  have h3 : (l.getLast?.map fun b => decide ((1099511627776 : Int) < b.at_)) ≠ some true := by
    cases hg : l.getLast? with
    | none => simp
    | some b =>
      have h1 := (aOk_iff.1 (h b (List.mem_of_getLast? hg)).1).1.2
      unfold maxT at h1
      simp only [Option.map_some, ne_eq, Option.some.injEq, decide_eq_true_eq]
      omega
  unfold addE
  rw [if_neg (by decide), if_neg h3, if_neg (by omega)]
end Go.Proofs.YtinlfheonlpceaaGreatDoor

/- LedgerStays walked. -/
namespace Go.Proofs.YtinlfheonlpceaaGreatDoor
open Go.RowKit
set_option linter.unusedVariables false
set_option linter.unusedSimpArgs false
set_option maxHeartbeats 40000000
set_option maxRecDepth 20000
theorem g_base : gIn ⟨1099511627776, 1, 3, 1, 1, 1⟩ := by unfold gIn; exact ⟨by decide, by decide⟩
theorem g_late : gIn ⟨1099511627776, 3, 0, 2, 2, 2⟩ := by unfold gIn; exact ⟨by decide, by decide⟩
theorem stays_walk (v : Value) (n : Nat) (E : Nat → List Value) (what : Int) (w : World) (hE : EnvP w) (hsl : Sl w v leavesE n E) (h0 : 0 ≤ what) (h1 : what ≤ 255) :
    Ret 10 #[v, .int .u8 what] w (.bool true) := by
  obtain ⟨L, hl⟩ := sl_en hsl
  have HE := Lib.hid hE
  have HA := Lib.hid (attsL_ok L)
  have HS := Lib.hid (attsL_sorted L)
  have HL := Lib.hid (attsL_len L)
  have PK := Lib.hid (pick3_c what h0 h1)
  obtain ⟨i0, hi, hz0, hz1, hz2⟩ := info_parts at_info
  have HI0 := Lib.hid hi
  have HZ0 := Lib.hid hz0
  have HZ1 := Lib.hid hz1
  have HZ2 := Lib.hid hz2
  clear hi hz0 hz1 hz2
  have hc := Below.refl w.heap.size w
  clear hE hsl
  go_enter Tryz.func10, Tryz.ntmps10
  go_wp2_with fail
  refine Calls.mono (attempts_c v L _ hl) ?_
  rintro e VA ⟨⟨u, rfl, ho⟩, hn⟩
  clear hl
  replace hc := chain hc hn
  clear hn
  have hB : Beh VA VA := ⟨Below.refl _ _⟩
  have HCA := Lib.hid hc
  have HOA := Lib.hid ho
  have HU := Lib.hid (OwnsA.holds ho)
  generalize attsL L = A at *
  have hAL := HL.out
  clear HL
  go_wp2_with fail
  refine Calls.mono (filled_c u _ _ HU.out HA.out HS.out (by omega)) ?_
  rintro e VB ⟨p, rfl, ⟨F, hl⟩, hn⟩
  replace ho := ho.on hn
  replace hB := hB.on hn
  replace hc := chain hc hn
  clear hn
  clear HU
  obtain ⟨p5, c5, rfl⟩ := (OwnsA.holds ho).len
  go_wp2_with fail
  refine Calls.mono (file_c _) ?_
  rintro e V1 ⟨rfl, hn⟩
  replace ho := ho.on hn
  replace hB := hB.on hn
  replace hl := hl.on hn
  replace hc := chain hc hn
  clear hn
  generalize V1 = VC at *
  go_upto_block 0 with fail
  go_cut [] (fun wx => ∃ b : AtR, Row wx VC.heap.size (atC b) 43 ∧ aOk b = false ∧ gIn b ∧ Below VC.heap.size VC wx)
  case first =>
    have hs : what % 7 = 0 ∨ what % 7 = 1 ∨ what % 7 = 2 ∨ what % 7 = 3 ∨ what % 7 = 4 ∨ what % 7 = 5 ∨ what % 7 = 6 := by omega
    clear hl ho hc HA HS
    rcases hs with hs | hs | hs | hs | hs | hs | hs
    · go_wp2_with fail
      go_meet
      exact ⟨⟨(-1), 1, 3, 1, 1, 1⟩, Row.new, by decide, by unfold gIn; exact ⟨by decide, by decide⟩, below_alloc _ _⟩
    · go_wp2_with fail
      go_meet
      exact ⟨⟨1099511627777, 1, 3, 1, 1, 1⟩, Row.new, by decide, by unfold gIn; exact ⟨by decide, by decide⟩, below_alloc _ _⟩
    · go_wp2_with fail
      go_meet
      exact ⟨⟨1099511627776, 4, 3, 1, 1, 1⟩, Row.new, by decide, by unfold gIn; exact ⟨by decide, by decide⟩, below_alloc _ _⟩
    · go_wp2_with fail
      go_meet
      exact ⟨⟨1099511627776, 1, 3, 0, 1, 1⟩, Row.new, by decide, by unfold gIn; exact ⟨by decide, by decide⟩, below_alloc _ _⟩
    · have e0 : (what % 7 == 0) = false := by rw [hs]; decide
      have d0 : decide (what % 7 = 0) = false := by rw [hs]; decide
      have e1 : (what % 7 == 1) = false := by rw [hs]; decide
      have d1 : decide (what % 7 = 1) = false := by rw [hs]; decide
      have e2 : (what % 7 == 2) = false := by rw [hs]; decide
      have d2 : decide (what % 7 = 2) = false := by rw [hs]; decide
      have e3 : (what % 7 == 3) = false := by rw [hs]; decide
      have d3 : decide (what % 7 = 3) = false := by rw [hs]; decide
      have e4 : (what % 7 == 4) = true := by rw [hs]; decide
      have d4 : decide (what % 7 = 4) = true := by rw [hs]; decide
      clear hs
      have rb := Row.new (W := VC) (cs := #[.int .i64 1099511627776, .int .i64 1, .int .i64 3, .int .u32 1, .int .i64 1, .int .i64 1]) (t := 43)
      have hn := below_alloc VC (.cells #[.int .i64 1099511627776, .int .i64 1, .int .i64 3, .int .u32 1, .int .i64 1, .int .i64 1] 43)
      have hbs : VC.heap.size ≤ VC.heap.size := Nat.le_refl _
      generalize VC.alloc (.cells #[.int .i64 1099511627776, .int .i64 1, .int .i64 3, .int .u32 1, .int .i64 1, .int .i64 1] 43) = VD at rb hn ⊢
      have yb := rb.cell
      have zb := rb.lt
      have ub := rb.free
      go_wp2_with fail
      refine Calls.mono (PK.out _) ?_
      rintro e VE ⟨⟨x, rfl, hx⟩, hn2⟩
      clear yb zb ub
      replace rb := rb.on hn2
      replace hn := chain hn hn2
      clear hn2
      have yb := rb.cell
      have zb := rb.lt
      have ub := rb.free
      go_wp2_with fail
      go_meet
      have rb2 := rb.set 4 (.int .i64 x)
      simp only [List.setIfInBounds_toArray, List.set_cons_zero, List.set_cons_succ] at rb2
      exact ⟨⟨1099511627776, 1, 3, 1, x, 1⟩, rb2, bad_why hx, g_base, hn.setCell (p := ⟨VC.heap.size, 4, none⟩) (Nat.le_refl _) _⟩
    · have e0 : (what % 7 == 0) = false := by rw [hs]; decide
      have d0 : decide (what % 7 = 0) = false := by rw [hs]; decide
      have e1 : (what % 7 == 1) = false := by rw [hs]; decide
      have d1 : decide (what % 7 = 1) = false := by rw [hs]; decide
      have e2 : (what % 7 == 2) = false := by rw [hs]; decide
      have d2 : decide (what % 7 = 2) = false := by rw [hs]; decide
      have e3 : (what % 7 == 3) = false := by rw [hs]; decide
      have d3 : decide (what % 7 = 3) = false := by rw [hs]; decide
      have e4 : (what % 7 == 4) = false := by rw [hs]; decide
      have d4 : decide (what % 7 = 4) = false := by rw [hs]; decide
      have e5 : (what % 7 == 5) = true := by rw [hs]; decide
      have d5 : decide (what % 7 = 5) = true := by rw [hs]; decide
      clear hs
      have rb := Row.new (W := VC) (cs := #[.int .i64 1099511627776, .int .i64 1, .int .i64 3, .int .u32 1, .int .i64 1, .int .i64 1]) (t := 43)
      have hn := below_alloc VC (.cells #[.int .i64 1099511627776, .int .i64 1, .int .i64 3, .int .u32 1, .int .i64 1, .int .i64 1] 43)
      have hbs : VC.heap.size ≤ VC.heap.size := Nat.le_refl _
      generalize VC.alloc (.cells #[.int .i64 1099511627776, .int .i64 1, .int .i64 3, .int .u32 1, .int .i64 1, .int .i64 1] 43) = VD at rb hn ⊢
      have yb := rb.cell
      have zb := rb.lt
      have ub := rb.free
      go_wp2_with fail
      refine Calls.mono (PK.out _) ?_
      rintro e VE ⟨⟨x, rfl, hx⟩, hn2⟩
      clear yb zb ub
      replace rb := rb.on hn2
      replace hn := chain hn hn2
      clear hn2
      have yb := rb.cell
      have zb := rb.lt
      have ub := rb.free
      go_wp2_with fail
      go_meet
      have rb2 := rb.set 5 (.int .i64 x)
      simp only [List.setIfInBounds_toArray, List.set_cons_zero, List.set_cons_succ] at rb2
      exact ⟨⟨1099511627776, 1, 3, 1, 1, x⟩, rb2, bad_ans hx, g_base, hn.setCell (p := ⟨VC.heap.size, 5, none⟩) (Nat.le_refl _) _⟩
    · go_wp2_with fail
      go_meet
      exact ⟨⟨1099511627776, 1, 64, 1, 1, 1⟩, Row.new, by decide, by unfold gIn; exact ⟨by decide, by decide⟩, below_alloc _ _⟩
  case rest =>
    obtain ⟨b, rb, hbad, hbi, hn⟩ := hcut
    have hl0 := hl
    replace ho := ho.on hn
    replace hl := hl.on hn
    replace hB := hB.on hn
    replace hc := chain hc hn
    clear hn
    have nF : ¬ F VC.heap.size := hl0.not_new (Nat.le_refl _)
    clear hl0
    generalize VC.heap.size = bB at *
    obtain ⟨bad2, bade, badp⟩ := bad_err hbad A
    clear hbad
    have yrb := rb.cell
    have zrb := rb.lt
    go_upto_region 20 with fail
    clear yrb zrb
    refine wp_region_held_drew (S := fun W' => ∀ j : Nat, W'.cell? ⟨bB, j, none⟩ = #[.int .i64 b.at_, .int .i64 b.k, .int .i64 b.i, .int .u32 b.g, .int .i64 b.why, .int .i64 b.ans][j]?) (by kernel_rfl) rb.cell (fun hHeld => ?_)
    replace hc := hc.drew
    replace ho := OwnsA.drew ho
    replace hl := hl.drew
    replace hB := hB.drew
    replace rb := rb.drew
    generalize wc.drew = X0 at *
    have hd : Below X0.heap.size X0 X0 := Below.refl _ _
    have HO0 := Lib.hid ho
    have HL0 := Lib.hid hl
    have RB0 := Lib.hid rb
    have HC0 := Lib.hid hc
    have HB0 := Lib.hid hB
    clear hB
    refine' wpAnyH_take (i := 0) (oi := _) (v := _) ?_ (by kernel_rfl) (by kernel_rfl) (by kernel_rfl) ?_ (Or.inl ⟨?_, ?_⟩) (by assumption) ?_
    rotate_left 2
    · (simp only [List.getElem?_toArray, List.getElem?_cons_succ, List.getElem?_cons_zero]; rfl)
    · first | exact fun _ _ _ h => h | exact fun _ _ _ h => nomatch h.1
    · rfl
    · (intro W hSW; (try dsimp only at hSW); go_split_ands; first | (go_simp; done) | (go_simp; with_reducible rfl))
    try simp only [Act.put, List.setIfInBounds_toArray, List.set_cons_zero, List.set_cons_succ]
    refine' wpAnyH_take (i := 2) (oi := _) (v := _) ?_ (by kernel_rfl) (by kernel_rfl) (by kernel_rfl) ?_ (Or.inl ⟨?_, ?_⟩) (by assumption) ?_
    rotate_left 2
    · (simp only [List.getElem?_toArray, List.getElem?_cons_succ, List.getElem?_cons_zero]; rfl)
    · first | exact fun _ _ _ h => h | exact fun _ _ _ h => nomatch h.1
    · rfl
    · (intro W hSW; (try dsimp only at hSW); go_split_ands; first | (go_simp; done) | (go_simp; with_reducible rfl))
    try simp only [Act.put, List.setIfInBounds_toArray, List.set_cons_zero, List.set_cons_succ]
    clear hHeld
    refine wpAnyH_ready (rs := [1, 3]) (by kernel_rfl) (by simp) ?_
    refine' AllReadyH.cons (o := _) (by simp only [List.getElem?_toArray, List.getElem?_cons_succ, List.getElem?_cons_zero]; rfl) (fun K hK => ?_) (AllReadyH.cons (o := _) (by simp only [List.getElem?_toArray, List.getElem?_cons_succ, List.getElem?_cons_zero]; rfl) (fun K hK => ?_) AllReadyH.nil)
    · go_simp
      refine Calls.mono (cloneA_c _ A _ (OwnsA.holds ho) (by omega)) ?_
      rintro e V2 ⟨u3, rfl, h3, hn⟩
      replace h3 := OwnsA.base h3 hd.size
      replace hd := chain hd hn
      try replace rn := rn.on hn
      replace rb := rb.on hn
      replace ho := ho.on hn
      replace hl := hl.on hn
      replace hc := chain hc hn
      clear hn
      go_simp
      refine hK.out _ _ rb.cell (fun hHeld => ?_)
      clear hK K hHeld
      refine wpAnyH_ready (rs := [3]) (by kernel_rfl) (by simp) ?_
      refine' AllReadyH.cons (o := _) ?_ (fun K hK => ?_) AllReadyH.nil
      rotate_left 1
      · (simp only [List.getElem?_toArray, List.getElem?_cons_succ, List.getElem?_cons_zero]; rfl)
      go_simp
      have rn := Row.new (W := V2) (cs := #[.int .i64 b.at_, .int .i64 b.k, .int .i64 b.i, .int .u32 b.g, .int .i64 b.why, .int .i64 b.ans]) (t := 43)
      have hn := below_alloc V2 (.cells #[.int .i64 b.at_, .int .i64 b.k, .int .i64 b.i, .int .u32 b.g, .int .i64 b.why, .int .i64 b.ans] 43)
      replace hd := chain hd hn
      replace rb := rb.on hn
      replace ho := ho.on hn
      replace hl := hl.on hn
      replace h3 := h3.on hn
      replace hc := chain hc hn
      clear hn
      generalize V2.alloc (.cells #[.int .i64 b.at_, .int .i64 b.k, .int .i64 b.i, .int .u32 b.g, .int .i64 b.why, .int .i64 b.ans] 43) = V3 at *
      generalize V2.heap.size = bN at rn ⊢
      refine hK.out _ _ rb.cell (fun hHeld => ?_)
      clear hK K hHeld
      obtain ⟨p3, c3, rfl⟩ := (OwnsA.holds h3).len
      refine wpAnyH_ready (rs := [4]) (by kernel_rfl) (by simp) ?_
      refine' AllReadyH.cons (o := _) (by simp only [List.getElem?_toArray, List.getElem?_cons_succ, List.getElem?_cons_zero]; rfl) (fun K hK => ?_) AllReadyH.nil
      have hds := hd.size
      have hsrc : ∀ (j : Nat) (v : Value), (atL b)[j]? = some v → V3.cell? ((⟨bN, 0, none⟩ : Addr).add j) = some v := fun j v hv => by rw [show (⟨bN, 0, none⟩ : Addr).add j = ⟨bN, j, none⟩ by simp [Addr.add]; omega, rn.cell j, List.getElem?_toArray]; exact hv
      refine step_append_lies _ rfl (.tmp 49) (.tmp 51) 26 rfl X0.heap.size 43 i0 (.agg #[.int .i64 0, .int .i64 0, .int .i64 0, .int .u32 0, .int .i64 0, .int .i64 0]) 6 48 Tryz.underlying26 HI0.out HZ0.out HZ1.out HZ2.out rfl (by decide) (.slice p3 A.length c3) A.length (cellsA A) rfl h3 ⟨bN, 0, none⟩ 1 1 (atL b) rfl rfl hsrc (by intro u hu; simp at hu; rcases hu with rfl | rfl | rfl | rfl | rfl | rfl <;> rfl) (by omega) (by unfold maxLen; omega) (by omega) hds _ rfl ?_
      intro g1 cap X2 hown2 hgrow hat hlt2
      replace hd := hd.grown hgrow hds (fun k hk => (OwnsA.lt h3 k hk).1)
      have hv2 : OwnsA X0.heap.size X2 (.slice (some ⟨g1, 0, none⟩) (A.length + 1) cap) (A ++ [b]) := by unfold OwnsA; rw [cellsA_snoc, List.length_append, List.length_singleton]; exact hown2
      clear ho hl rb hc hown2 hgrow hat h3 rn hsrc
      have ho := OwnsA.on HO0.out hd
      have hl := HL0.out.on hd
      have rb := RB0.out.on hd
      have hc := chain HC0.out hd
      have hB := HB0.out.on hd
      clear HB0 HO0 HL0 RB0 HC0 hd
      refine hK.out _ _ rb.cell (fun hHeld => ?_)
      clear hK K hHeld
      refine wpAnyH_ready (rs := [5]) (by kernel_rfl) (by simp) ?_
      refine' AllReadyH.cons (o := _) ?_ (fun K hK => ?_) AllReadyH.nil
      rotate_left 1
      · (simp only [List.getElem?_toArray, List.getElem?_cons_succ, List.getElem?_cons_zero]; rfl)
      go_simp
      have cp := lprint_c _ (A ++ [b]) _ (HE.out.on hc).toEnv (OwnsA.holds hv2) (by rw [List.length_append, List.length_singleton]; omega) (fun q hq => (List.mem_append.1 hq).elim (fun h => (HA.out q h).2) (fun h => by rw [List.mem_singleton.1 h]; exact hbi))
      rw [badp] at cp
      refine Calls.mono cp ?_
      rintro e Y1 ⟨rfl, hn⟩
      clear cp hv2
      replace rb := rb.on hn
      replace ho := ho.on hn
      replace hl := hl.on hn
      replace hB := hB.on hn
      replace hc := chain hc hn
      clear hn
      go_simp
      refine hK.out _ _ rb.cell (fun hHeld => ?_)
      clear hK K
      refine' wpAnyH_take (i := 6) (oi := _) (v := _) ?_ (by kernel_rfl) (by kernel_rfl) (by kernel_rfl) ?_ (Or.inl ⟨?_, ?_⟩) (by assumption) ?_
      rotate_left 2
      · (simp only [List.getElem?_toArray, List.getElem?_cons_succ, List.getElem?_cons_zero]; rfl)
      · first | exact fun _ _ _ h => h | exact fun _ _ _ h => nomatch h.1
      · rfl
      · (intro W hSW; (try dsimp only at hSW); go_split_ands; first | (go_simp; done) | (go_simp; with_reducible rfl))
      try simp only [Act.put, List.setIfInBounds_toArray, List.set_cons_zero, List.set_cons_succ]
      refine' wpAnyH_take (i := 7) (oi := _) (v := _) ?_ (by kernel_rfl) (by kernel_rfl) (by kernel_rfl) ?_ (Or.inl ⟨?_, ?_⟩) (by assumption) ?_
      rotate_left 2
      · (simp only [List.getElem?_toArray, List.getElem?_cons_succ, List.getElem?_cons_zero]; rfl)
      · first | exact fun _ _ _ h => h | exact fun _ _ _ h => nomatch h.1
      · rfl
      · (intro W hSW; (try dsimp only at hSW); go_split_ands; first | (go_simp; done) | (go_simp; with_reducible rfl))
      try simp only [Act.put, List.setIfInBounds_toArray, List.set_cons_zero, List.set_cons_succ]
      refine' wpAnyH_take (i := 8) (oi := _) (v := _) ?_ (by kernel_rfl) (by kernel_rfl) (by kernel_rfl) ?_ (Or.inl ⟨?_, ?_⟩) (by assumption) ?_
      rotate_left 2
      · (simp only [List.getElem?_toArray, List.getElem?_cons_succ, List.getElem?_cons_zero]; rfl)
      · first | exact fun _ _ _ h => h | exact fun _ _ _ h => nomatch h.1
      · rfl
      · (intro W hSW; (try dsimp only at hSW); go_split_ands; first | (go_simp; done) | (go_simp; with_reducible rfl))
      try simp only [Act.put, List.setIfInBounds_toArray, List.set_cons_zero, List.set_cons_succ]
      refine' wpAnyH_take (i := 9) (oi := _) (v := _) ?_ (by kernel_rfl) (by kernel_rfl) (by kernel_rfl) ?_ (Or.inl ⟨?_, ?_⟩) (by assumption) ?_
      rotate_left 2
      · (simp only [List.getElem?_toArray, List.getElem?_cons_succ, List.getElem?_cons_zero]; rfl)
      · first | exact fun _ _ _ h => h | exact fun _ _ _ h => nomatch h.1
      · rfl
      · (intro W hSW; (try dsimp only at hSW); go_split_ands; first | (go_simp; done) | (go_simp; with_reducible rfl))
      try simp only [Act.put, List.setIfInBounds_toArray, List.set_cons_zero, List.set_cons_succ]
      refine' wpAnyH_take (i := 10) (oi := _) (v := _) ?_ (by kernel_rfl) (by kernel_rfl) (by kernel_rfl) ?_ (Or.inl ⟨?_, ?_⟩) (by assumption) ?_
      rotate_left 2
      · (simp only [List.getElem?_toArray, List.getElem?_cons_succ, List.getElem?_cons_zero]; rfl)
      · first | exact fun _ _ _ h => h | exact fun _ _ _ h => nomatch h.1
      · rfl
      · (intro W hSW; (try dsimp only at hSW); go_split_ands; first | (go_simp; done) | (go_simp; with_reducible rfl))
      try simp only [Act.put, List.setIfInBounds_toArray, List.set_cons_zero, List.set_cons_succ]
      refine wpAnyH_done (by kernel_rfl) ?_ _
      have yrb := rb.cell
      have zrb := rb.lt
      go_wp2_with fail
      clear yrb zrb
      refine Calls.mono (addW_c b hbi hB.b.size hl) ?_
      rintro e V4 ⟨rfl, F2, hl2, hadd⟩
      rw [addL_no (by rw [bad2]; decide)] at hl2
      rw [bad2]
      replace hB := hB.add hadd
      have nF2 := hadd.no _ rb.lt nF
      replace rb := hadd.row rb nF
      replace hc := chain HCA.out hB.b
      replace ho := HOA.out.on hB.b
      clear hl hadd nF bad2 badp
      have hl := hl2
      clear hl2
      have ck := acheck_c b hbi
      rw [bade] at ck
      have yrb := rb.cell
      have zrb := rb.lt
      go_wp2_with fail
      refine Calls.mono (ck _) ?_
      rintro e V5 ⟨rfl, hn⟩
      clear yrb zrb
      replace rb := rb.on hn
      replace ho := ho.on hn
      replace hl := hl.on hn
      replace hB := hB.on hn
      replace hc := chain hc hn
      clear hn
      clear ck
      have yrb := rb.cell
      have zrb := rb.lt
      go_wp2_with fail
      refine Calls.mono (allW_c hl) ?_
      rintro e V6 ⟨u7, rfl, h7, hn⟩
      clear yrb zrb
      obtain ⟨V7, hcl, hn2⟩ := clearA_run V6 0 u7 _ _ _ _ h7 hn (Nat.le_refl _)
      clear h7 hn
      have hn := hn2
      clear hn2
      replace rb := rb.on hn
      replace ho := ho.on hn
      replace hl := hl.on hn
      replace hB := hB.on hn
      replace hc := chain hc hn
      clear hn
      clear rb nF2
      go_wp2_with fail
      refine Calls.mono (file_c _) ?_
      rintro e V8 ⟨rfl, hn⟩
      replace ho := ho.on hn
      replace hl := hl.on hn
      replace hB := hB.on hn
      replace hc := chain hc hn
      clear hn
      clear hcl
      go_wp2_with fail
      refine Calls.mono (ofW_c 1 3 1 hl) ?_
      rintro e V9 ⟨u7, rfl, h7, hn⟩
      obtain ⟨V10, hcl, hn2⟩ := clearA_run V9 0 u7 _ _ _ _ h7 hn (Nat.le_refl _)
      clear h7 hn
      have hn := hn2
      clear hn2
      replace ho := ho.on hn
      replace hl := hl.on hn
      replace hB := hB.on hn
      replace hc := chain hc hn
      clear hn
      go_wp2_with fail
      refine Calls.mono (copyW_c hB.b.size hl) ?_
      rintro e VQ ⟨q, rfl, ⟨G, hg, hgl⟩, hn⟩
      clear hcl
      have hdis : ∀ x, F2 x → ¬ G x := fun x hf hgx => hl.not_new (hgl x hgx) hf
      clear hgl
      replace ho := ho.on hn
      replace hl := hl.on hn
      replace hB := hB.on hn
      replace hc := chain hc hn
      clear hn
      go_wp2_with fail
      refine Calls.mono (lease_c _) ?_
      rintro e V11 ⟨rfl, hn⟩
      replace ho := ho.on hn
      replace hl := hl.on hn
      replace hB := hB.on hn
      replace hg := hg.on hn
      replace hc := chain hc hn
      clear hn
      have he := late_ok HA.out hAL
      go_wp2_with fail
      refine Calls.mono (addW_c ⟨1099511627776, 3, 0, 2, 2, 2⟩ g_late hB.b.size hg) ?_
      rintro e V12 ⟨rfl, G2, hg2, hadd⟩
      rw [addL_ok he] at hg2
      rw [he]
      replace hl := (hadd.led hl hdis).1
      replace hB := hB.add hadd
      replace hc := chain HCA.out hB.b
      replace ho := HOA.out.on hB.b
      clear hg hadd hdis he
      go_wp2_with fail
      refine Calls.mono (allW_c hl) ?_
      rintro e VZ ⟨u8, rfl, h8, hn⟩
      replace ho := ho.on hn
      replace hl := hl.on hn
      replace hg2 := hg2.on hn
      replace hc := chain hc hn
      clear hn
      go_wp2_with fail
      refine Calls.mono (equal_same _ _ A _ (OwnsA.holds h8) (OwnsA.holds ho) (by omega)) ?_
      rintro e V13 ⟨rfl, hn⟩
      replace ho := ho.on hn
      replace hg2 := hg2.on hn
      replace h8 := h8.on hn
      replace hc := chain hc hn
      clear hn
      have cl := lenW_c hg2
      rw [List.length_append, List.length_singleton] at cl
      go_wp2_with fail
      refine Calls.mono (cl) ?_
      rintro e V14 ⟨rfl, hn⟩
      replace ho := ho.on hn
      replace hg2 := hg2.on hn
      replace h8 := h8.on hn
      replace hc := chain hc hn
      clear hn
      go_wp2_with fail
      refine Calls.mono (works _ (HE.out.on hc)) ?_
      rintro e V15 ⟨rfl, hn⟩
      replace hc := chain hc hn
      clear hn
      go_wp2_with fail
      go_returns
      exact ⟨rfl, hc⟩
    · go_simp
      have rn := Row.new (W := X0) (cs := #[.int .i64 b.at_, .int .i64 b.k, .int .i64 b.i, .int .u32 b.g, .int .i64 b.why, .int .i64 b.ans]) (t := 43)
      have hn := below_alloc X0 (.cells #[.int .i64 b.at_, .int .i64 b.k, .int .i64 b.i, .int .u32 b.g, .int .i64 b.why, .int .i64 b.ans] 43)
      replace hd := chain hd hn
      replace rb := rb.on hn
      replace ho := ho.on hn
      replace hl := hl.on hn
      replace hc := chain hc hn
      clear hn
      generalize X0.alloc (.cells #[.int .i64 b.at_, .int .i64 b.k, .int .i64 b.i, .int .u32 b.g, .int .i64 b.why, .int .i64 b.ans] 43) = V2 at *
      generalize X0.heap.size = bN at rn ⊢
      refine hK.out _ _ rb.cell (fun hHeld => ?_)
      clear hK K hHeld
      refine wpAnyH_ready (rs := [1]) (by kernel_rfl) (by simp) ?_
      refine' AllReadyH.cons (o := _) ?_ (fun K hK => ?_) AllReadyH.nil
      rotate_left 1
      · (simp only [List.getElem?_toArray, List.getElem?_cons_succ, List.getElem?_cons_zero]; rfl)
      go_simp
      refine Calls.mono (cloneA_c _ A _ (OwnsA.holds ho) (by omega)) ?_
      rintro e V3 ⟨u3, rfl, h3, hn⟩
      replace h3 := OwnsA.base h3 hd.size
      replace hd := chain hd hn
      try replace rn := rn.on hn
      replace rb := rb.on hn
      replace ho := ho.on hn
      replace hl := hl.on hn
      replace hc := chain hc hn
      clear hn
      go_simp
      refine hK.out _ _ rb.cell (fun hHeld => ?_)
      clear hK K hHeld
      obtain ⟨p3, c3, rfl⟩ := (OwnsA.holds h3).len
      refine wpAnyH_ready (rs := [4]) (by kernel_rfl) (by simp) ?_
      refine' AllReadyH.cons (o := _) (by simp only [List.getElem?_toArray, List.getElem?_cons_succ, List.getElem?_cons_zero]; rfl) (fun K hK => ?_) AllReadyH.nil
      have hds := hd.size
      have hsrc : ∀ (j : Nat) (v : Value), (atL b)[j]? = some v → V3.cell? ((⟨bN, 0, none⟩ : Addr).add j) = some v := fun j v hv => by rw [show (⟨bN, 0, none⟩ : Addr).add j = ⟨bN, j, none⟩ by simp [Addr.add]; omega, rn.cell j, List.getElem?_toArray]; exact hv
      refine step_append_lies _ rfl (.tmp 49) (.tmp 51) 26 rfl X0.heap.size 43 i0 (.agg #[.int .i64 0, .int .i64 0, .int .i64 0, .int .u32 0, .int .i64 0, .int .i64 0]) 6 48 Tryz.underlying26 HI0.out HZ0.out HZ1.out HZ2.out rfl (by decide) (.slice p3 A.length c3) A.length (cellsA A) rfl h3 ⟨bN, 0, none⟩ 1 1 (atL b) rfl rfl hsrc (by intro u hu; simp at hu; rcases hu with rfl | rfl | rfl | rfl | rfl | rfl <;> rfl) (by omega) (by unfold maxLen; omega) (by omega) hds _ rfl ?_
      intro g1 cap X2 hown2 hgrow hat hlt2
      replace hd := hd.grown hgrow hds (fun k hk => (OwnsA.lt h3 k hk).1)
      have hv2 : OwnsA X0.heap.size X2 (.slice (some ⟨g1, 0, none⟩) (A.length + 1) cap) (A ++ [b]) := by unfold OwnsA; rw [cellsA_snoc, List.length_append, List.length_singleton]; exact hown2
      clear ho hl rb hc hown2 hgrow hat h3 rn hsrc
      have ho := OwnsA.on HO0.out hd
      have hl := HL0.out.on hd
      have rb := RB0.out.on hd
      have hc := chain HC0.out hd
      have hB := HB0.out.on hd
      clear HB0 HO0 HL0 RB0 HC0 hd
      refine hK.out _ _ rb.cell (fun hHeld => ?_)
      clear hK K hHeld
      refine wpAnyH_ready (rs := [5]) (by kernel_rfl) (by simp) ?_
      refine' AllReadyH.cons (o := _) ?_ (fun K hK => ?_) AllReadyH.nil
      rotate_left 1
      · (simp only [List.getElem?_toArray, List.getElem?_cons_succ, List.getElem?_cons_zero]; rfl)
      go_simp
      have cp := lprint_c _ (A ++ [b]) _ (HE.out.on hc).toEnv (OwnsA.holds hv2) (by rw [List.length_append, List.length_singleton]; omega) (fun q hq => (List.mem_append.1 hq).elim (fun h => (HA.out q h).2) (fun h => by rw [List.mem_singleton.1 h]; exact hbi))
      rw [badp] at cp
      refine Calls.mono cp ?_
      rintro e Y1 ⟨rfl, hn⟩
      clear cp hv2
      replace rb := rb.on hn
      replace ho := ho.on hn
      replace hl := hl.on hn
      replace hB := hB.on hn
      replace hc := chain hc hn
      clear hn
      go_simp
      refine hK.out _ _ rb.cell (fun hHeld => ?_)
      clear hK K
      refine' wpAnyH_take (i := 6) (oi := _) (v := _) ?_ (by kernel_rfl) (by kernel_rfl) (by kernel_rfl) ?_ (Or.inl ⟨?_, ?_⟩) (by assumption) ?_
      rotate_left 2
      · (simp only [List.getElem?_toArray, List.getElem?_cons_succ, List.getElem?_cons_zero]; rfl)
      · first | exact fun _ _ _ h => h | exact fun _ _ _ h => nomatch h.1
      · rfl
      · (intro W hSW; (try dsimp only at hSW); go_split_ands; first | (go_simp; done) | (go_simp; with_reducible rfl))
      try simp only [Act.put, List.setIfInBounds_toArray, List.set_cons_zero, List.set_cons_succ]
      refine' wpAnyH_take (i := 7) (oi := _) (v := _) ?_ (by kernel_rfl) (by kernel_rfl) (by kernel_rfl) ?_ (Or.inl ⟨?_, ?_⟩) (by assumption) ?_
      rotate_left 2
      · (simp only [List.getElem?_toArray, List.getElem?_cons_succ, List.getElem?_cons_zero]; rfl)
      · first | exact fun _ _ _ h => h | exact fun _ _ _ h => nomatch h.1
      · rfl
      · (intro W hSW; (try dsimp only at hSW); go_split_ands; first | (go_simp; done) | (go_simp; with_reducible rfl))
      try simp only [Act.put, List.setIfInBounds_toArray, List.set_cons_zero, List.set_cons_succ]
      refine' wpAnyH_take (i := 8) (oi := _) (v := _) ?_ (by kernel_rfl) (by kernel_rfl) (by kernel_rfl) ?_ (Or.inl ⟨?_, ?_⟩) (by assumption) ?_
      rotate_left 2
      · (simp only [List.getElem?_toArray, List.getElem?_cons_succ, List.getElem?_cons_zero]; rfl)
      · first | exact fun _ _ _ h => h | exact fun _ _ _ h => nomatch h.1
      · rfl
      · (intro W hSW; (try dsimp only at hSW); go_split_ands; first | (go_simp; done) | (go_simp; with_reducible rfl))
      try simp only [Act.put, List.setIfInBounds_toArray, List.set_cons_zero, List.set_cons_succ]
      refine' wpAnyH_take (i := 9) (oi := _) (v := _) ?_ (by kernel_rfl) (by kernel_rfl) (by kernel_rfl) ?_ (Or.inl ⟨?_, ?_⟩) (by assumption) ?_
      rotate_left 2
      · (simp only [List.getElem?_toArray, List.getElem?_cons_succ, List.getElem?_cons_zero]; rfl)
      · first | exact fun _ _ _ h => h | exact fun _ _ _ h => nomatch h.1
      · rfl
      · (intro W hSW; (try dsimp only at hSW); go_split_ands; first | (go_simp; done) | (go_simp; with_reducible rfl))
      try simp only [Act.put, List.setIfInBounds_toArray, List.set_cons_zero, List.set_cons_succ]
      refine' wpAnyH_take (i := 10) (oi := _) (v := _) ?_ (by kernel_rfl) (by kernel_rfl) (by kernel_rfl) ?_ (Or.inl ⟨?_, ?_⟩) (by assumption) ?_
      rotate_left 2
      · (simp only [List.getElem?_toArray, List.getElem?_cons_succ, List.getElem?_cons_zero]; rfl)
      · first | exact fun _ _ _ h => h | exact fun _ _ _ h => nomatch h.1
      · rfl
      · (intro W hSW; (try dsimp only at hSW); go_split_ands; first | (go_simp; done) | (go_simp; with_reducible rfl))
      try simp only [Act.put, List.setIfInBounds_toArray, List.set_cons_zero, List.set_cons_succ]
      refine wpAnyH_done (by kernel_rfl) ?_ _
      have yrb := rb.cell
      have zrb := rb.lt
      go_wp2_with fail
      clear yrb zrb
      refine Calls.mono (addW_c b hbi hB.b.size hl) ?_
      rintro e V4 ⟨rfl, F2, hl2, hadd⟩
      rw [addL_no (by rw [bad2]; decide)] at hl2
      rw [bad2]
      replace hB := hB.add hadd
      have nF2 := hadd.no _ rb.lt nF
      replace rb := hadd.row rb nF
      replace hc := chain HCA.out hB.b
      replace ho := HOA.out.on hB.b
      clear hl hadd nF bad2 badp
      have hl := hl2
      clear hl2
      have ck := acheck_c b hbi
      rw [bade] at ck
      have yrb := rb.cell
      have zrb := rb.lt
      go_wp2_with fail
      refine Calls.mono (ck _) ?_
      rintro e V5 ⟨rfl, hn⟩
      clear yrb zrb
      replace rb := rb.on hn
      replace ho := ho.on hn
      replace hl := hl.on hn
      replace hB := hB.on hn
      replace hc := chain hc hn
      clear hn
      clear ck
      have yrb := rb.cell
      have zrb := rb.lt
      go_wp2_with fail
      refine Calls.mono (allW_c hl) ?_
      rintro e V6 ⟨u7, rfl, h7, hn⟩
      clear yrb zrb
      obtain ⟨V7, hcl, hn2⟩ := clearA_run V6 0 u7 _ _ _ _ h7 hn (Nat.le_refl _)
      clear h7 hn
      have hn := hn2
      clear hn2
      replace rb := rb.on hn
      replace ho := ho.on hn
      replace hl := hl.on hn
      replace hB := hB.on hn
      replace hc := chain hc hn
      clear hn
      clear rb nF2
      go_wp2_with fail
      refine Calls.mono (file_c _) ?_
      rintro e V8 ⟨rfl, hn⟩
      replace ho := ho.on hn
      replace hl := hl.on hn
      replace hB := hB.on hn
      replace hc := chain hc hn
      clear hn
      clear hcl
      go_wp2_with fail
      refine Calls.mono (ofW_c 1 3 1 hl) ?_
      rintro e V9 ⟨u7, rfl, h7, hn⟩
      obtain ⟨V10, hcl, hn2⟩ := clearA_run V9 0 u7 _ _ _ _ h7 hn (Nat.le_refl _)
      clear h7 hn
      have hn := hn2
      clear hn2
      replace ho := ho.on hn
      replace hl := hl.on hn
      replace hB := hB.on hn
      replace hc := chain hc hn
      clear hn
      go_wp2_with fail
      refine Calls.mono (copyW_c hB.b.size hl) ?_
      rintro e VQ ⟨q, rfl, ⟨G, hg, hgl⟩, hn⟩
      clear hcl
      have hdis : ∀ x, F2 x → ¬ G x := fun x hf hgx => hl.not_new (hgl x hgx) hf
      clear hgl
      replace ho := ho.on hn
      replace hl := hl.on hn
      replace hB := hB.on hn
      replace hc := chain hc hn
      clear hn
      go_wp2_with fail
      refine Calls.mono (lease_c _) ?_
      rintro e V11 ⟨rfl, hn⟩
      replace ho := ho.on hn
      replace hl := hl.on hn
      replace hB := hB.on hn
      replace hg := hg.on hn
      replace hc := chain hc hn
      clear hn
      have he := late_ok HA.out hAL
      go_wp2_with fail
      refine Calls.mono (addW_c ⟨1099511627776, 3, 0, 2, 2, 2⟩ g_late hB.b.size hg) ?_
      rintro e V12 ⟨rfl, G2, hg2, hadd⟩
      rw [addL_ok he] at hg2
      rw [he]
      replace hl := (hadd.led hl hdis).1
      replace hB := hB.add hadd
      replace hc := chain HCA.out hB.b
      replace ho := HOA.out.on hB.b
      clear hg hadd hdis he
      go_wp2_with fail
      refine Calls.mono (allW_c hl) ?_
      rintro e VZ ⟨u8, rfl, h8, hn⟩
      replace ho := ho.on hn
      replace hl := hl.on hn
      replace hg2 := hg2.on hn
      replace hc := chain hc hn
      clear hn
      go_wp2_with fail
      refine Calls.mono (equal_same _ _ A _ (OwnsA.holds h8) (OwnsA.holds ho) (by omega)) ?_
      rintro e V13 ⟨rfl, hn⟩
      replace ho := ho.on hn
      replace hg2 := hg2.on hn
      replace h8 := h8.on hn
      replace hc := chain hc hn
      clear hn
      have cl := lenW_c hg2
      rw [List.length_append, List.length_singleton] at cl
      go_wp2_with fail
      refine Calls.mono (cl) ?_
      rintro e V14 ⟨rfl, hn⟩
      replace ho := ho.on hn
      replace hg2 := hg2.on hn
      replace h8 := h8.on hn
      replace hc := chain hc hn
      clear hn
      go_wp2_with fail
      refine Calls.mono (works _ (HE.out.on hc)) ?_
      rintro e V15 ⟨rfl, hn⟩
      replace hc := chain hc hn
      clear hn
      go_wp2_with fail
      go_returns
      exact ⟨rfl, hc⟩
end Go.Proofs.YtinlfheonlpceaaGreatDoor
