/- LedgerFull walked. -/
import Derived.Test.YtinlfheonlpceaaGreatDoorM61a
import Derived.Test.YtinlfheonlpceaaGreatDoorM110a
import Derived.Test.YtinlfheonlpceaaGreatDoorM81a
namespace Go.Proofs.YtinlfheonlpceaaGreatDoor
open Go.RowKit
set_option linter.unusedVariables false
set_option linter.unusedSimpArgs false
set_option maxHeartbeats 40000000
set_option maxRecDepth 20000
abbrev A1 : AtR := ⟨0, 1, 3, 1, 1, 2⟩
abbrev B1 : AtR := ⟨0, 1, 3, 1, 1, 1⟩
theorem gA1 : gIn A1 := by unfold gIn; exact ⟨by decide, by decide⟩
theorem gB1 : gIn B1 := by unfold gIn; exact ⟨by decide, by decide⟩
theorem full_add (i : Nat) (h : i < 10000) : addE (List.replicate i A1) A1 = 0 := by
  have h3 : ((List.replicate i A1).getLast?.map fun b => decide (A1.at_ < b.at_)) ≠ some true := by
    cases hg : (List.replicate i A1).getLast? with
    | none => simp
    | some b =>
      rw [List.eq_of_mem_replicate (List.mem_of_getLast? hg)]
      simp
  unfold addE
  rw [if_neg (by decide), if_neg h3, if_neg (by rw [List.length_replicate]; omega)]
theorem full_no : addE (List.replicate 10000 A1) A1 = 4 := by
  have h3 : ((List.replicate 10000 A1).getLast?.map fun b => decide (A1.at_ < b.at_)) ≠ some true := by
    cases hg : (List.replicate 10000 A1).getLast? with
    | none => simp
    | some b =>
      rw [List.eq_of_mem_replicate (List.mem_of_getLast? hg)]
      simp
  unfold addE
  rw [if_neg (by decide), if_neg h3, if_pos (by rw [List.length_replicate]; exact Nat.le_refl _)]
theorem full_snoc (i : Nat) : List.replicate i A1 ++ [A1] = List.replicate (i + 1) A1 := List.replicate_succ'.symm
theorem full_of (n : Nat) : (ofL 1 3 1 (List.replicate n A1)).length = n := by
  unfold ofL
  rw [List.filter_eq_self.2 (fun a ha => by rw [List.eq_of_mem_replicate ha]; decide), List.length_replicate]
theorem flat_oneA (p : AtR) (n : Nat) : (List.replicate n [p]).flatten = List.replicate n p := by
  induction n with
  | zero => rfl
  | succ n ih => rw [List.replicate_succ, List.flatten_cons, ih, List.replicate_succ]; rfl
theorem b1_line : (lineL B1).length = 15 := by simp [lineL, dTextL, dd, letterB, whyW, ansW]
theorem b1_lines (n : Nat) : (linesA (List.replicate n B1)).length = 16 * n := by
  induction n with
  | zero => rfl
  | succ n ih => rw [List.replicate_succ, linesA_cons, List.length_append, List.length_cons, ih, b1_line]; omega
theorem b1_ok (n : Nat) : ∀ a ∈ List.replicate n B1, aOk a = true ∧ gIn a := fun a ha => by rw [List.eq_of_mem_replicate ha]; exact ⟨by decide, gB1⟩
abbrev TB : ByteArray := ⟨(linesA (List.replicate 4096 B1)).toArray⟩
theorem TB_size : TB.size = 65536 := by show (linesA (List.replicate 4096 B1)).toArray.size = _; rw [List.size_toArray, b1_lines]
theorem TB_list : TB.data.toList = linesA (List.replicate 4096 B1) := by simp [TB]
theorem reps_c (n : Nat) (h1 : 1 ≤ n) (h2 : n ≤ 10000) (v : Value) (W : World) (hv : HoldsA W v [B1]) :
    Calls Tryz.prog 47 #[v, .int .i64 n] W fun e w' => ∃ u, e = .returned u ∧ OwnsA W.heap.size w' u (List.replicate n B1) ∧ Below W.heap.size W w' := by
  have h := repeatA_c v [B1] n W hv (by simp) h1 h2 (by simp; omega)
  rw [flat_oneA] at h
  exact h
theorem print_fit (v : Value) (W : World) (hE : Env W) (hv : HoldsA W v (List.replicate 4096 B1)) : Ret 13 #[v] W (.tuple #[.string TB, .int .i64 0]) := by
  have h := lprint_c v (List.replicate 4096 B1) W hE hv (by simp) (fun p hp => (b1_ok _ p hp).2)
  rw [print_lines (b1_ok _) (by rw [b1_lines]; omega)] at h
  exact h
theorem print_long (v : Value) (W : World) (hE : Env W) (hv : HoldsA W v (List.replicate 4097 B1)) : Ret 13 #[v] W (.tuple #[.string ⟨#[]⟩, .int .i64 10]) := by
  have h := lprint_c v (List.replicate 4097 B1) W hE hv (by simp) (fun p hp => (b1_ok _ p hp).2)
  have e : printA (List.replicate 4097 B1) = ([], 10) := by
    unfold printA
    rw [if_pos (List.all_eq_true.2 (fun a ha => (b1_ok _ a ha).1)), if_pos (by rw [b1_lines]; omega)]
  rw [e] at h
  exact h
theorem parse_fit (W : World) (hE : EnvP W) : Calls Tryz.prog 21 #[.string TB] W fun e w' => (∃ v, e = .returned (.tuple #[v, .int .i64 0, .int .i64 0]) ∧ OwnsA W.heap.size w' v (List.replicate 4096 B1)) ∧ Below W.heap.size W w' := by
  have h := lparse_c TB W hE (by rw [TB_size]; omega)
  unfold ParseP at h
  rw [TB_list, parse_lines (b1_ok _) (by rw [b1_lines]; omega)] at h
  exact h
theorem parse_long (W : World) (hE : EnvP W) : Calls Tryz.prog 21 #[.string (TB ++ ⟨#[120]⟩)] W fun e w' => (∃ v, e = .returned (.tuple #[v, .int .i64 0, .int .i64 10]) ∧ OwnsA W.heap.size w' v []) ∧ Below W.heap.size W w' := by
  have hs : (TB ++ ⟨#[120]⟩).size = 65537 := by rw [ByteArray.size_append, TB_size]; rfl
  have h := lparse_c (TB ++ ⟨#[120]⟩) W hE (by rw [hs]; omega)
  unfold ParseP at h
  have e : parseA (TB ++ ⟨#[120]⟩).data.toList = ([], 0, 10) := by
    unfold parseA
    rw [if_pos (by rw [len_bytes, hs]; omega)]
  rw [e] at h
  exact h
theorem full_walk (w : World) (hE : EnvP w) : Ret 11 #[] w (.bool true) := by
  have HE := Lib.hid hE
  have hc := Below.refl w.heap.size w
  have C1 := Lib.hid (reps_c 4096 (by omega) (by omega))
  have C2 := Lib.hid (reps_c 4097 (by omega) (by omega))
  have C3 := Lib.hid print_fit
  have C4 := Lib.hid print_long
  have C5 := Lib.hid parse_fit
  have C6 := Lib.hid parse_long
  have hTS := TB_size
  have L1 := Lib.hid (show (List.replicate 4096 B1).length = 4096 from List.length_replicate)
  generalize TB = T at *
  generalize List.replicate 4096 B1 = R1 at *
  generalize List.replicate 4097 B1 = R2 at *
  clear hE
  go_enter Tryz.func11, Tryz.ntmps11
  go_wp2_with fail
  refine Calls.mono (newW_c (w := w) _ hc.size) ?_
  rintro e V1 ⟨p, rfl, ⟨F0, hl, -⟩, hn⟩
  replace hc := chain hc hn
  clear hn
  go_wp2_with fail
  refine Calls.mono (file_c _) ?_
  rintro e V2 ⟨rfl, hn⟩
  replace hl := hl.on hn
  replace hc := chain hc hn
  clear hn
  have nF : ¬ F0 V2.heap.size := hl.not_new (Nat.le_refl _)
  go_upto_region 3 with fail
  have rb := Row.new (W := V2) (cs := #[.int .i64 0, .int .i64 1, .int .i64 3, .int .u32 1, .int .i64 1, .int .i64 2]) (t := 43)
  have hn := below_alloc V2 (.cells #[.int .i64 0, .int .i64 1, .int .i64 3, .int .u32 1, .int .i64 1, .int .i64 2] 43)
  have wrb : w.heap.size ≤ V2.heap.size := hc.size
  replace hl := hl.on hn
  replace hc := chain hc hn
  clear hn
  generalize V2.alloc (.cells #[.int .i64 0, .int .i64 1, .int .i64 3, .int .u32 1, .int .i64 1, .int .i64 2] 43) = V3 at hl rb hc ⊢
  generalize V2.heap.size = bB at *
  have yrb := rb.cell
  have zrb := rb.lt
  go_wp2_with fail
  clear yrb zrb
  obtain ⟨M, hM1, hM2⟩ : ∃ M : Nat, M ≤ 10000 ∧ 10000 ≤ M := ⟨10000, Nat.le_refl _, Nat.le_refl _⟩
  have HM1 := Lib.hid hM1
  have HM2 := Lib.hid hM2
  clear hM1 hM2
  go_loopw [17] (fun iv wr => ∃ i : Nat, i ≤ M ∧ iv = .int .i64 i ∧ (∃ F, LedW w wr F p (List.replicate i A1) ∧ ¬ F bB) ∧ Row wr bB #[.int .i64 0, .int .i64 1, .int .i64 3, .int .u32 1, .int .i64 1, .int .i64 2] 43 ∧ Below w.heap.size w wr) (fun iv _ => M - (intOf iv).toNat)
  case atStart => exact ⟨0, Nat.zero_le _, rfl, ⟨_, hl, nF⟩, rb, hc⟩
  case round =>
    clear hl nF rb hc
    obtain ⟨i, hiN, rfl, ⟨F, hl, nF⟩, rb, hc⟩ := hrel
    by_cases hlt : i < M
    · have hM1 := HM1.out
      have he := Lib.hid (full_add i (by omega))
      have hli : (i : Int) < 10000 := by omega
      clear hM1
      have yrb := rb.cell
      have zrb := rb.lt
      go_wp2_with fail
      clear yrb zrb
      refine Calls.mono (addW_c A1 gA1 hc.size hl) ?_
      rintro e V3 ⟨rfl, F2, hl2, hadd⟩
      rw [addL_ok he.out, full_snoc] at hl2
      rw [he.out]
      have nF2 := hadd.no _ rb.lt nF
      replace rb := hadd.row rb nF
      replace hc := hadd.below _ hc
      clear hl hadd nF he
      go_wp2_with fail
      refine ⟨⟨i + 1, by omega, by go_num, ⟨_, hl2, nF2⟩, rb, hc⟩, by simp only [intOf]; omega⟩
    · have hM1 := HM1.out
      have hM2 := HM2.out
      have hi : i = 10000 := by omega
      clear hM1 hM2
      rw [hi] at hl
      have he := Lib.hid full_no
      have hof := Lib.hid (full_of 10000)
      have hle := Lib.hid (show (List.replicate 10000 A1).length = 10000 from List.length_replicate)
      have hi2 : decide ((i : Int) < 10000) = false := by rw [decide_eq_false_iff_not]; omega
      clear hi hiN hlt
      generalize List.replicate 10000 A1 = RL at hl he hof hle
      have yrb := rb.cell
      have zrb := rb.lt
      go_wp2_with fail
      clear yrb zrb
      refine Calls.mono (addW_c A1 gA1 hc.size hl) ?_
      rintro e V3 ⟨rfl, F2, hl2, hadd⟩
      rw [addL_no (by rw [he.out]; decide)] at hl2
      rw [he.out]
      replace hc := hadd.below _ hc
      clear hl hadd nF he rb
      have hl := hl2
      clear hl2
      have cl := lenW_c hl
      rw [hle.out] at cl
      go_wp2_with fail
      refine Calls.mono (cl) ?_
      rintro e V4 ⟨rfl, hn⟩
      replace hl := hl.on hn
      replace hc := chain hc hn
      clear hn
      go_wp2_with fail
      refine Calls.mono (file_c _) ?_
      rintro e V5 ⟨rfl, hn⟩
      replace hl := hl.on hn
      replace hc := chain hc hn
      clear hn
      go_wp2_with fail
      refine Calls.mono (ofW_c 1 3 1 hl) ?_
      rintro e V9 ⟨u, rfl, ho, hn⟩
      obtain ⟨a9, c9, rfl⟩ := (OwnsA.holds ho).len
      clear ho
      rw [hof.out]
      clear hof
      replace hl := hl.on hn
      replace hc := chain hc hn
      clear hn
      clear hl
      go_wp2_with fail
      refine Calls.mono (file_c _) ?_
      rintro e V10 ⟨rfl, hn⟩
      replace hc := chain hc hn
      clear hn
      go_upto_region 11 with fail
      have rB := Row.new (W := V10) (cs := #[.int .i64 0, .int .i64 1, .int .i64 3, .int .u32 1, .int .i64 1, .int .i64 1]) (t := 43)
      have hn := below_alloc V10 (.cells #[.int .i64 0, .int .i64 1, .int .i64 3, .int .u32 1, .int .i64 1, .int .i64 1] 43)
      have wrB : w.heap.size ≤ V10.heap.size := hc.size
      replace hc := chain hc hn
      clear hn
      generalize V10.alloc (.cells #[.int .i64 0, .int .i64 1, .int .i64 3, .int .u32 1, .int .i64 1, .int .i64 1] 43) = V11 at rB hc ⊢
      generalize V10.heap.size = bB2 at *
      have yrB := rB.cell
      have zrB := rB.lt
      go_wp2_with fail
      clear yrB zrB
      have hz := holds_new [B1] V11
      rw [show (cellsA [B1]).toArray = #[.int .i64 0, .int .i64 1, .int .i64 3, .int .u32 1, .int .i64 1, .int .i64 1] by simp [cellsA]] at hz
      have hn := below_alloc V11 (.cells #[.int .i64 0, .int .i64 1, .int .i64 3, .int .u32 1, .int .i64 1, .int .i64 1] 43)
      replace rB := rB.on hn
      replace hc := chain hc hn
      clear hn
      generalize V11.alloc (.cells #[.int .i64 0, .int .i64 1, .int .i64 3, .int .u32 1, .int .i64 1, .int .i64 1] 43) = V12 at hz rB hc ⊢
      generalize V11.heap.size = bp at hz ⊢
      refine Calls.mono (C1.out _ _ hz) ?_
      rintro e V13 ⟨up, rfl, hp, hn⟩
      clear hz
      replace rB := rB.on hn
      replace hc := chain hc hn
      clear hn
      have yrB := rB.cell
      have zrB := rB.lt
      go_wp2_with fail
      refine Calls.mono (C3.out _ _ (HE.out.on hc).toEnv (OwnsA.holds hp)) ?_
      rintro e V14 ⟨rfl, hn⟩
      clear yrB zrB
      replace rB := rB.on hn
      replace hp := hp.on hn
      replace hc := chain hc hn
      clear hn
      clear hp
      have yrB := rB.cell
      have zrB := rB.lt
      go_wp2_with fail
      clear yrB zrB
      have hz := holds_new [B1] V14
      rw [show (cellsA [B1]).toArray = #[.int .i64 0, .int .i64 1, .int .i64 3, .int .u32 1, .int .i64 1, .int .i64 1] by simp [cellsA]] at hz
      have hn := below_alloc V14 (.cells #[.int .i64 0, .int .i64 1, .int .i64 3, .int .u32 1, .int .i64 1, .int .i64 1] 43)
      replace rB := rB.on hn
      replace hc := chain hc hn
      clear hn
      generalize V14.alloc (.cells #[.int .i64 0, .int .i64 1, .int .i64 3, .int .u32 1, .int .i64 1, .int .i64 1] 43) = V15 at hz rB hc ⊢
      generalize V14.heap.size = bq at hz ⊢
      refine Calls.mono (C2.out _ _ hz) ?_
      rintro e V16 ⟨uq, rfl, hq, hn⟩
      clear hz
      replace rB := rB.on hn
      replace hc := chain hc hn
      clear hn
      have yrB := rB.cell
      have zrB := rB.lt
      go_wp2_with fail
      refine Calls.mono (C4.out _ _ (HE.out.on hc).toEnv (OwnsA.holds hq)) ?_
      rintro e V17 ⟨rfl, hn⟩
      clear yrB zrB
      replace rB := rB.on hn
      replace hq := hq.on hn
      replace hc := chain hc hn
      clear hn
      clear hq
      clear rB
      go_wp2_with fail
      refine Calls.mono (C5.out _ (HE.out.on hc)) ?_
      rintro e V18 ⟨⟨u5, rfl, h5⟩, hn⟩
      obtain ⟨a5, c5, rfl⟩ := (OwnsA.holds h5).len
      clear h5
      rw [L1.out]
      replace hc := chain hc hn
      clear hn
      go_wp2_with fail
      refine Calls.mono (C6.out _ (HE.out.on hc)) ?_
      rintro e V19 ⟨⟨u6, rfl, h6⟩, hn⟩
      clear h6
      replace hc := chain hc hn
      clear hn
      go_wp2_with fail
      refine Calls.mono (works _ (HE.out.on hc)) ?_
      rintro e V20 ⟨rfl, hn⟩
      replace hc := chain hc hn
      clear hn
      go_wp2_with fail
      go_returns
      exact ⟨rfl, hc⟩
end Go.Proofs.YtinlfheonlpceaaGreatDoor
