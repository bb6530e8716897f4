/- OpMany walked. -/
import Derived.Test.YthkngleegefgbaaDoorM104a
import Derived.Test.YthkngleegefgbaaDoorL2a
import Derived.Test.YthkngleegefgbaaDoorHWorks39
import Derived.Deep.DeepCutAuto
namespace Go.Proofs.YthkngleegefgbaaDoor
open Go.RowKit
set_option linter.unusedVariables false
set_option linter.unusedSimpArgs false
set_option maxHeartbeats 40000000
set_option maxRecDepth 20000
theorem flat_one (p : OpR) (n : Nat) : (List.replicate n [p]).flatten = List.replicate n p := by
  induction n with
  | zero => rfl
  | succ n ih => rw [List.replicate_succ, List.flatten_cons, ih, List.replicate_succ]; rfl
abbrev oC (p : OpR) : Array Value := #[.int .i64 p.1, .int .i64 p.2.m, .int .i64 p.2.a, .int .i64 p.2.b, .int .i64 p.2.c, .string p.2.tag]
theorem one_holds (p : OpR) (W : World) : HoldsO (W.alloc (.cells (oC p) 26)) (.slice (some ⟨W.heap.size, 0, none⟩) 1 1) [p] := .inr ⟨_, 0, 1, rfl, holds_row (Row.new (W := W) (cs := oC p) (t := 26)) rfl⟩
theorem reps_c (p : OpR) (n : Nat) (h1 : 1 ≤ n) (h2 : n ≤ 3000) (v : Value) (W : World) (hv : HoldsO W v [p]) :
    Calls Tryd.prog 4 #[v, .int .i64 n] W fun e w' => ∃ u, e = .returned u ∧ OwnsO W.heap.size w' u (List.replicate n p) ∧ Below W.heap.size W w' := by
  have h := repeatO_c v [p] n W hv (by simp) h1 (by omega) (by simp; omega)
  rw [flat_one] at h
  exact h
theorem str_rep (s : ByteArray) (n : Nat) (h0 : s.size ≤ 100) (hn : n ≤ 100000) (w : World) : Ret 7 #[.string s, .int .i64 n] w (.string ⟨(Lib.repeatL s.data.toList n).toArray⟩) :=
  Tryd.strings_Repeat s n w (by omega) (Nat.le_trans (Nat.mul_le_mul h0 hn) (by omega))
theorem tags_rep (p : OpR) (n : Nat) (hp : p.2.tag.size ≤ 1000000) : ∀ q ∈ List.replicate n p, q.2.tag.size ≤ 1000000 := fun q hq => by rw [List.eq_of_mem_replicate hq]; exact hp
/-- The script of n batches, and its text. -/
abbrev batS (n : Nat) : ByteArray := ⟨(Lib.repeatL [98, 97, 116, 99, 104, 10] n).toArray⟩
abbrev endS : ByteArray := ⟨#[35, 10]⟩
theorem bat_list (n : Nat) : (batS n ++ endS).data.toList = opsL (List.replicate n batchR) ++ [35, 10] := by
  have h := rep_ops batchR n
  rw [batch_txt] at h
  rw [ByteArray.data_append, Array.toList_append, ← h]
  rfl
theorem bat_size (n : Nat) : (batS n).size = 6 * n := by
  show (Lib.repeatL [98, 97, 116, 99, 104, 10] n).toArray.size = _
  rw [List.size_toArray, Lib.repeatL_length]
  simp
  omega
/-- 56 answers. -/
abbrev longT : ByteArray := ⟨(Lib.repeatL [111] 56).toArray⟩
def longR : OpR := (17, ⟨0, 0, 0, 0, longT⟩)
theorem long_ok : okR longR = true := by decide
theorem long_len : (opLR longR).length = 63 := by decide
theorem prints (p : OpR) (hp : okR p = true) (ht : p.2.tag.size ≤ 1000000) (n : Nat) (hn : n ≤ 3000) (s : List UInt8) (e : Int) (hr : printAllR (List.replicate n p) = (s, e)) (v : Value) (W : World) (hE : EnvL W) (hv : HoldsO W v (List.replicate n p)) : Ret 5 #[v] W (.tuple #[.string ⟨s.toArray⟩, .int .i64 e]) := by
  have h := printAll_c v (List.replicate n p) W hE hv (by simp; omega) (tags_rep p n ht)
  rw [hr] at h
  exact h
theorem parses (n : Nat) (hn : n ≤ 2010) (l : List OpR) (a : Nat) (e : Int) (hr : parseAllR (opsL (List.replicate n batchR) ++ [35, 10]) = (l, a, e)) (W : World) (hE : EnvL W) : Calls Tryd.prog 6 #[.string (batS n ++ endS)] W fun e' w' => (∃ v, e' = .returned (.tuple #[v, .int .i64 a, .int .i64 e]) ∧ OwnsO W.heap.size w' v l) ∧ Below W.heap.size W w' := by
  have h := parseAll_c (batS n ++ endS) W hE (by rw [ByteArray.size_append, bat_size]; show _ + 2 ≤ _; omega)
  unfold ParseAllP at h
  rw [bat_list, hr] at h
  exact h
theorem parses_long (n : Nat) (h1 : 65536 < n) (h2 : n ≤ 100000) (W : World) (hE : EnvL W) : Calls Tryd.prog 6 #[.string ⟨(Lib.repeatL [35] n).toArray⟩] W fun e' w' => (∃ v, e' = .returned (.tuple #[v, .int .i64 0, .int .i64 10]) ∧ OwnsO W.heap.size w' v []) ∧ Below W.heap.size W w' := by
  have hl : (Lib.repeatL [(35 : UInt8)] n).length = n := by rw [Lib.repeatL_length]; simp
  have h := parseAll_c ⟨(Lib.repeatL [35] n).toArray⟩ W hE (by show (Lib.repeatL [35] n).toArray.size ≤ _; rw [List.size_toArray, hl]; exact h2)
  unfold ParseAllP at h
  rw [parse_long _ (by simpa [hl] using h1)] at h
  exact h
theorem size_arr (l : List UInt8) : (⟨l.toArray⟩ : ByteArray).size = l.length := by show l.toArray.size = _; simp
theorem many_0 (more : Int) (w : World) (hE : EnvL w) (h0 : 0 ≤ more) (h1 : more ≤ 255) (hr : more % 4 = 0) : Ret 3 #[.int .u8 more] w (.bool true) := by
  have HE := Lib.hid hE
  have hc := Below.refl w.heap.size w
  have ek : more.tmod 4 = 0 := by rw [Int.tmod_eq_emod_of_nonneg h0, hr]
  have CR := Lib.hid (reps_c batchR 1998 (by omega) (by omega))
  have hpr := print_batch 1998 (by omega)
  have CP := Lib.hid (prints batchR batch_ok (by decide) 1998 (by omega) _ _ hpr)
  clear hpr
  obtain ⟨S, hS⟩ : ∃ S : List UInt8, S = opsL (List.replicate 1998 batchR) := ⟨_, rfl⟩
  rw [← hS] at CP
  have CT := Lib.hid (fun W => str_rep ⟨#[98, 97, 116, 99, 104, 10]⟩ 1998 (by decide) (by omega) W)
  have CA := Lib.hid (parses 1998 (by omega) _ _ _ (parse_rep 1998 (by omega)))
  have ad := fun W => add_run (a := batS 1998) (b := endS) rfl (by rw [bat_size]; show _ + 2 ≤ _; omega) W
  have CO := Lib.hid (fun W => str_rep ⟨#[111]⟩ 56 (by decide) (by omega) W)
  have CL1 := Lib.hid (reps_c longR 1024 (by omega) (by omega))
  have CL2 := Lib.hid (reps_c longR 1025 (by omega) (by omega))
  have hq1 := print_rep longR long_ok 1024 (by omega)
  rw [long_len, if_neg (by omega)] at hq1
  have hq2 := print_rep longR long_ok 1025 (by omega)
  rw [long_len, if_pos (by omega)] at hq2
  have CQ1 := Lib.hid (prints longR long_ok (by decide) 1024 (by omega) _ _ hq1)
  have CQ2 := Lib.hid (prints longR long_ok (by decide) 1025 (by omega) _ _ hq2)
  have hm2 : ((65537 + more.toNat : Nat) : Int) = 65537 + more := by omega
  have CH := fun W => str_rep ⟨#[35]⟩ (65537 + more.toNat) (by decide) (by omega) W
  rw [hm2] at CH
  replace CH := Lib.hid CH
  have CX := Lib.hid (parses_long (65537 + more.toNat) (by omega) (by omega))
  have sz : ((⟨S.toArray⟩ : ByteArray).size : Int) = 11988 := by rw [size_arr, hS]; (have h9 := opsL_rep batchR 1998; rw [batch_txt] at h9; rw [h9]; rfl)
  have sl : ((⟨(opsL (List.replicate 1024 longR)).toArray⟩ : ByteArray).size : Int) = 65536 := by rw [size_arr, opsL_rep, long_len]; rfl
  obtain ⟨LB, hLB⟩ : ∃ LB, LB = List.replicate 1998 batchR := ⟨_, rfl⟩
  have hLl : (LB.length : Int) = 1998 := by rw [hLB]; simp
  rw [← hLB] at CR CP CA
  obtain ⟨L1, hL1⟩ : ∃ L1, L1 = List.replicate 1024 longR := ⟨_, rfl⟩
  obtain ⟨L2, hL2⟩ : ∃ L2, L2 = List.replicate 1025 longR := ⟨_, rfl⟩
  rw [← hL1] at CL1 CQ1 sl
  rw [← hL2] at CL2 CQ2
  obtain ⟨LT, hLT⟩ : ∃ LT : ByteArray, LT = longT := ⟨_, rfl⟩
  replace CO : RowKit.Hid (∀ W, Ret 7 #[.string ⟨#[111]⟩, .int .i64 56] W (.string LT)) := by rw [hLT]; exact CO
  have hLR : longR = (17, ⟨0, 0, 0, 0, LT⟩) := by rw [hLT]; rfl
  rw [hLR] at CL1 CL2
  clear hLR hLT
  obtain ⟨SB, hSB⟩ : ∃ SB : ByteArray, SB = ⟨S.toArray⟩ := ⟨_, rfl⟩
  rw [← hSB] at CP sz
  obtain ⟨SL, hSL⟩ : ∃ SL : ByteArray, SL = ⟨(opsL L1).toArray⟩ := ⟨_, rfl⟩
  rw [← hSL] at CQ1 sl
  obtain ⟨BS, hBS⟩ : ∃ BS : ByteArray, BS = batS 1998 := ⟨_, rfl⟩
  rw [← hBS] at CA ad
  replace CT : RowKit.Hid (∀ W, Ret 7 #[.string ⟨#[98, 97, 116, 99, 104, 10]⟩, .int .i64 1998] W (.string BS)) := by rw [hBS]; exact CT
  obtain ⟨BH, hBH⟩ : ∃ BH : ByteArray, BH = ⟨(Lib.repeatL [35] (65537 + more.toNat)).toArray⟩ := ⟨_, rfl⟩
  rw [← hBH] at CX
  replace CH : RowKit.Hid (∀ W, Ret 7 #[.string ⟨#[35]⟩, .int .i64 (65537 + more)] W (.string BH)) := by rw [hBH]; exact CH
  have q1 : IntKind.i64.wrap (65537 + more) = 65537 + more := IntWalk.i64_in _ ⟨by omega, by omega⟩
  have q2 : IntKind.i64.wrap more = more := IntWalk.i64_in _ ⟨by omega, by omega⟩
  clear hE hr hS hq1 hq2 hm2 hLB hL1 hL2 hSB hSL hBS hBH h1
  go_enter Tryd.func3, Tryd.ntmps3
  go_wp2_with fail
  have hu := one_holds batchR w
  have hn := below_alloc w (.cells #[.int .i64 14, .int .i64 0, .int .i64 0, .int .i64 0, .int .i64 0, .string ⟨#[]⟩] 26)
  replace hc := chain hc hn
  clear hn
  replace hu : HoldsO (w.alloc (.cells #[.int .i64 14, .int .i64 0, .int .i64 0, .int .i64 0, .int .i64 0, .string ⟨#[]⟩] 26)) _ _ := hu
  generalize w.alloc (.cells #[.int .i64 14, .int .i64 0, .int .i64 0, .int .i64 0, .int .i64 0, .string ⟨#[]⟩] 26) = V1 at *
  refine Calls.mono (CR.out _ _ hu) ?_
  rintro e V2 ⟨u1, rfl, ho1, hn⟩
  clear hu
  replace hc := chain hc hn
  clear hn
  obtain ⟨g1, c1, rfl⟩ := ownsRow_len ho1
  have HO1 := Lib.hid ho1.holds
  clear ho1
  go_wp2_with fail
  refine Calls.mono (CP.out _ _ (HE.out.on hc) HO1.out) ?_
  rintro e V3 ⟨rfl, hn⟩
  replace hc := chain hc hn
  clear hn
  go_wp2_with fail
  refine Calls.mono (CT.out _) ?_
  rintro e V4 ⟨rfl, hn⟩
  replace hc := chain hc hn
  clear hn
  go_wp2_with fail
  refine Calls.mono (CA.out _ (HE.out.on hc)) ?_
  rintro e W1 ⟨⟨gv, rfl, hgo⟩, hn⟩
  replace hc := chain hc hn
  clear hn
  obtain ⟨g2, c2, rfl⟩ := ownsRow_len hgo
  clear hgo
  go_wp2_with fail
  refine Calls.mono (CO.out _) ?_
  rintro e W2 ⟨rfl, hn⟩
  replace hc := chain hc hn
  clear hn
  go_upto_region 11 with fail
  have r11 := Row.new (W := W2) (cs := #[.int .i64 17, .int .i64 0, .int .i64 0, .int .i64 0, .int .i64 0, .string LT]) (t := 26)
  have hn := below_alloc W2 (.cells #[.int .i64 17, .int .i64 0, .int .i64 0, .int .i64 0, .int .i64 0, .string LT] 26)
  have wr11 : w.heap.size ≤ W2.heap.size := hc.size
  replace hc := chain hc hn
  clear hn
  generalize W2.alloc (.cells #[.int .i64 17, .int .i64 0, .int .i64 0, .int .i64 0, .int .i64 0, .string LT] 26) = V5 at r11 hc ⊢
  generalize W2.heap.size = b11 at *
  have yr11 := r11.cell
  have zr11 := r11.lt
  go_wp2_with fail
  clear yr11 zr11
  have hu := one_holds ((17, ⟨0, 0, 0, 0, LT⟩) : OpR) V5
  have hn := below_alloc V5 (.cells #[.int .i64 17, .int .i64 0, .int .i64 0, .int .i64 0, .int .i64 0, .string LT] 26)
  replace r11 := r11.on hn
  replace hc := chain hc hn
  clear hn
  replace hu : HoldsO (V5.alloc (.cells #[.int .i64 17, .int .i64 0, .int .i64 0, .int .i64 0, .int .i64 0, .string LT] 26)) _ _ := hu
  generalize V5.alloc (.cells #[.int .i64 17, .int .i64 0, .int .i64 0, .int .i64 0, .int .i64 0, .string LT] 26) = V6 at *
  refine Calls.mono (CL1.out _ _ hu) ?_
  rintro e V7 ⟨u3, rfl, ho3, hn⟩
  clear hu
  replace r11 := r11.on hn
  replace hc := chain hc hn
  clear hn
  obtain ⟨g3, c3, rfl⟩ := ownsRow_len ho3
  have HO3 := Lib.hid ho3.holds
  clear ho3
  have yr11 := r11.cell
  have zr11 := r11.lt
  go_wp2_with fail
  refine Calls.mono (CQ1.out _ _ (HE.out.on hc) HO3.out) ?_
  rintro e V8 ⟨rfl, hn⟩
  clear yr11 zr11
  replace r11 := r11.on hn
  replace hc := chain hc hn
  clear hn
  have yr11 := r11.cell
  have zr11 := r11.lt
  go_wp2_with fail
  clear yr11 zr11
  have hu := one_holds ((17, ⟨0, 0, 0, 0, LT⟩) : OpR) V8
  have hn := below_alloc V8 (.cells #[.int .i64 17, .int .i64 0, .int .i64 0, .int .i64 0, .int .i64 0, .string LT] 26)
  replace r11 := r11.on hn
  replace hc := chain hc hn
  clear hn
  replace hu : HoldsO (V8.alloc (.cells #[.int .i64 17, .int .i64 0, .int .i64 0, .int .i64 0, .int .i64 0, .string LT] 26)) _ _ := hu
  generalize V8.alloc (.cells #[.int .i64 17, .int .i64 0, .int .i64 0, .int .i64 0, .int .i64 0, .string LT] 26) = V9 at *
  refine Calls.mono (CL2.out _ _ hu) ?_
  rintro e V10 ⟨u4, rfl, ho4, hn⟩
  clear hu
  replace r11 := r11.on hn
  replace hc := chain hc hn
  clear hn
  obtain ⟨g4, c4, rfl⟩ := ownsRow_len ho4
  have HO4 := Lib.hid ho4.holds
  clear ho4
  have yr11 := r11.cell
  have zr11 := r11.lt
  go_wp2_with fail
  refine Calls.mono (CQ2.out _ _ (HE.out.on hc) HO4.out) ?_
  rintro e V11 ⟨rfl, hn⟩
  clear yr11 zr11
  replace r11 := r11.on hn
  replace hc := chain hc hn
  clear hn
  have yr11 := r11.cell
  have zr11 := r11.lt
  go_wp2_with fail
  refine Calls.mono (CH.out _) ?_
  rintro e V12 ⟨rfl, hn⟩
  clear yr11 zr11
  replace r11 := r11.on hn
  replace hc := chain hc hn
  clear hn
  have yr11 := r11.cell
  have zr11 := r11.lt
  go_wp2_with fail
  refine Calls.mono (CX.out _ (HE.out.on hc)) ?_
  rintro e W9 ⟨⟨gw, rfl, hgo⟩, hn⟩
  clear yr11 zr11
  replace r11 := r11.on hn
  replace hc := chain hc hn
  clear hn
  obtain ⟨g5, c5, rfl⟩ := ownsRow_len hgo
  clear hgo
  have yr11 := r11.cell
  have zr11 := r11.lt
  go_wp2_with fail
  refine Calls.mono (works _ (HE.out.on hc)) ?_
  rintro e V13 ⟨rfl, hn⟩
  clear yr11 zr11
  replace r11 := r11.on hn
  replace hc := chain hc hn
  clear hn
  have yr11 := r11.cell
  have zr11 := r11.lt
  go_wp2_with fail
  go_returns
  exact ⟨rfl, hc⟩
theorem many_1 (more : Int) (w : World) (hE : EnvL w) (h0 : 0 ≤ more) (h1 : more ≤ 255) (hr : more % 4 = 1) : Ret 3 #[.int .u8 more] w (.bool true) := by
  have HE := Lib.hid hE
  have hc := Below.refl w.heap.size w
  have ek : more.tmod 4 = 1 := by rw [Int.tmod_eq_emod_of_nonneg h0, hr]
  have CR := Lib.hid (reps_c batchR 1999 (by omega) (by omega))
  have hpr := print_batch 1999 (by omega)
  have CP := Lib.hid (prints batchR batch_ok (by decide) 1999 (by omega) _ _ hpr)
  clear hpr
  obtain ⟨S, hS⟩ : ∃ S : List UInt8, S = opsL (List.replicate 1999 batchR) := ⟨_, rfl⟩
  rw [← hS] at CP
  have CT := Lib.hid (fun W => str_rep ⟨#[98, 97, 116, 99, 104, 10]⟩ 1999 (by decide) (by omega) W)
  have CA := Lib.hid (parses 1999 (by omega) _ _ _ (parse_rep 1999 (by omega)))
  have ad := fun W => add_run (a := batS 1999) (b := endS) rfl (by rw [bat_size]; show _ + 2 ≤ _; omega) W
  have CO := Lib.hid (fun W => str_rep ⟨#[111]⟩ 56 (by decide) (by omega) W)
  have CL1 := Lib.hid (reps_c longR 1024 (by omega) (by omega))
  have CL2 := Lib.hid (reps_c longR 1025 (by omega) (by omega))
  have hq1 := print_rep longR long_ok 1024 (by omega)
  rw [long_len, if_neg (by omega)] at hq1
  have hq2 := print_rep longR long_ok 1025 (by omega)
  rw [long_len, if_pos (by omega)] at hq2
  have CQ1 := Lib.hid (prints longR long_ok (by decide) 1024 (by omega) _ _ hq1)
  have CQ2 := Lib.hid (prints longR long_ok (by decide) 1025 (by omega) _ _ hq2)
  have hm2 : ((65537 + more.toNat : Nat) : Int) = 65537 + more := by omega
  have CH := fun W => str_rep ⟨#[35]⟩ (65537 + more.toNat) (by decide) (by omega) W
  rw [hm2] at CH
  replace CH := Lib.hid CH
  have CX := Lib.hid (parses_long (65537 + more.toNat) (by omega) (by omega))
  have sz : ((⟨S.toArray⟩ : ByteArray).size : Int) = 11994 := by rw [size_arr, hS]; (have h9 := opsL_rep batchR 1999; rw [batch_txt] at h9; rw [h9]; rfl)
  have sl : ((⟨(opsL (List.replicate 1024 longR)).toArray⟩ : ByteArray).size : Int) = 65536 := by rw [size_arr, opsL_rep, long_len]; rfl
  obtain ⟨LB, hLB⟩ : ∃ LB, LB = List.replicate 1999 batchR := ⟨_, rfl⟩
  have hLl : (LB.length : Int) = 1999 := by rw [hLB]; simp
  rw [← hLB] at CR CP CA
  obtain ⟨L1, hL1⟩ : ∃ L1, L1 = List.replicate 1024 longR := ⟨_, rfl⟩
  obtain ⟨L2, hL2⟩ : ∃ L2, L2 = List.replicate 1025 longR := ⟨_, rfl⟩
  rw [← hL1] at CL1 CQ1 sl
  rw [← hL2] at CL2 CQ2
  obtain ⟨LT, hLT⟩ : ∃ LT : ByteArray, LT = longT := ⟨_, rfl⟩
  replace CO : RowKit.Hid (∀ W, Ret 7 #[.string ⟨#[111]⟩, .int .i64 56] W (.string LT)) := by rw [hLT]; exact CO
  have hLR : longR = (17, ⟨0, 0, 0, 0, LT⟩) := by rw [hLT]; rfl
  rw [hLR] at CL1 CL2
  clear hLR hLT
  obtain ⟨SB, hSB⟩ : ∃ SB : ByteArray, SB = ⟨S.toArray⟩ := ⟨_, rfl⟩
  rw [← hSB] at CP sz
  obtain ⟨SL, hSL⟩ : ∃ SL : ByteArray, SL = ⟨(opsL L1).toArray⟩ := ⟨_, rfl⟩
  rw [← hSL] at CQ1 sl
  obtain ⟨BS, hBS⟩ : ∃ BS : ByteArray, BS = batS 1999 := ⟨_, rfl⟩
  rw [← hBS] at CA ad
  replace CT : RowKit.Hid (∀ W, Ret 7 #[.string ⟨#[98, 97, 116, 99, 104, 10]⟩, .int .i64 1999] W (.string BS)) := by rw [hBS]; exact CT
  obtain ⟨BH, hBH⟩ : ∃ BH : ByteArray, BH = ⟨(Lib.repeatL [35] (65537 + more.toNat)).toArray⟩ := ⟨_, rfl⟩
  rw [← hBH] at CX
  replace CH : RowKit.Hid (∀ W, Ret 7 #[.string ⟨#[35]⟩, .int .i64 (65537 + more)] W (.string BH)) := by rw [hBH]; exact CH
  have q1 : IntKind.i64.wrap (65537 + more) = 65537 + more := IntWalk.i64_in _ ⟨by omega, by omega⟩
  have q2 : IntKind.i64.wrap more = more := IntWalk.i64_in _ ⟨by omega, by omega⟩
  clear hE hr hS hq1 hq2 hm2 hLB hL1 hL2 hSB hSL hBS hBH h1
  go_enter Tryd.func3, Tryd.ntmps3
  go_wp2_with fail
  have hu := one_holds batchR w
  have hn := below_alloc w (.cells #[.int .i64 14, .int .i64 0, .int .i64 0, .int .i64 0, .int .i64 0, .string ⟨#[]⟩] 26)
  replace hc := chain hc hn
  clear hn
  replace hu : HoldsO (w.alloc (.cells #[.int .i64 14, .int .i64 0, .int .i64 0, .int .i64 0, .int .i64 0, .string ⟨#[]⟩] 26)) _ _ := hu
  generalize w.alloc (.cells #[.int .i64 14, .int .i64 0, .int .i64 0, .int .i64 0, .int .i64 0, .string ⟨#[]⟩] 26) = V1 at *
  refine Calls.mono (CR.out _ _ hu) ?_
  rintro e V2 ⟨u1, rfl, ho1, hn⟩
  clear hu
  replace hc := chain hc hn
  clear hn
  obtain ⟨g1, c1, rfl⟩ := ownsRow_len ho1
  have HO1 := Lib.hid ho1.holds
  clear ho1
  go_wp2_with fail
  refine Calls.mono (CP.out _ _ (HE.out.on hc) HO1.out) ?_
  rintro e V3 ⟨rfl, hn⟩
  replace hc := chain hc hn
  clear hn
  go_wp2_with fail
  refine Calls.mono (CT.out _) ?_
  rintro e V4 ⟨rfl, hn⟩
  replace hc := chain hc hn
  clear hn
  go_wp2_with fail
  refine Calls.mono (CA.out _ (HE.out.on hc)) ?_
  rintro e W1 ⟨⟨gv, rfl, hgo⟩, hn⟩
  replace hc := chain hc hn
  clear hn
  obtain ⟨g2, c2, rfl⟩ := ownsRow_len hgo
  clear hgo
  go_wp2_with fail
  refine Calls.mono (CO.out _) ?_
  rintro e W2 ⟨rfl, hn⟩
  replace hc := chain hc hn
  clear hn
  go_upto_region 11 with fail
  have r11 := Row.new (W := W2) (cs := #[.int .i64 17, .int .i64 0, .int .i64 0, .int .i64 0, .int .i64 0, .string LT]) (t := 26)
  have hn := below_alloc W2 (.cells #[.int .i64 17, .int .i64 0, .int .i64 0, .int .i64 0, .int .i64 0, .string LT] 26)
  have wr11 : w.heap.size ≤ W2.heap.size := hc.size
  replace hc := chain hc hn
  clear hn
  generalize W2.alloc (.cells #[.int .i64 17, .int .i64 0, .int .i64 0, .int .i64 0, .int .i64 0, .string LT] 26) = V5 at r11 hc ⊢
  generalize W2.heap.size = b11 at *
  have yr11 := r11.cell
  have zr11 := r11.lt
  go_wp2_with fail
  clear yr11 zr11
  have hu := one_holds ((17, ⟨0, 0, 0, 0, LT⟩) : OpR) V5
  have hn := below_alloc V5 (.cells #[.int .i64 17, .int .i64 0, .int .i64 0, .int .i64 0, .int .i64 0, .string LT] 26)
  replace r11 := r11.on hn
  replace hc := chain hc hn
  clear hn
  replace hu : HoldsO (V5.alloc (.cells #[.int .i64 17, .int .i64 0, .int .i64 0, .int .i64 0, .int .i64 0, .string LT] 26)) _ _ := hu
  generalize V5.alloc (.cells #[.int .i64 17, .int .i64 0, .int .i64 0, .int .i64 0, .int .i64 0, .string LT] 26) = V6 at *
  refine Calls.mono (CL1.out _ _ hu) ?_
  rintro e V7 ⟨u3, rfl, ho3, hn⟩
  clear hu
  replace r11 := r11.on hn
  replace hc := chain hc hn
  clear hn
  obtain ⟨g3, c3, rfl⟩ := ownsRow_len ho3
  have HO3 := Lib.hid ho3.holds
  clear ho3
  have yr11 := r11.cell
  have zr11 := r11.lt
  go_wp2_with fail
  refine Calls.mono (CQ1.out _ _ (HE.out.on hc) HO3.out) ?_
  rintro e V8 ⟨rfl, hn⟩
  clear yr11 zr11
  replace r11 := r11.on hn
  replace hc := chain hc hn
  clear hn
  have yr11 := r11.cell
  have zr11 := r11.lt
  go_wp2_with fail
  clear yr11 zr11
  have hu := one_holds ((17, ⟨0, 0, 0, 0, LT⟩) : OpR) V8
  have hn := below_alloc V8 (.cells #[.int .i64 17, .int .i64 0, .int .i64 0, .int .i64 0, .int .i64 0, .string LT] 26)
  replace r11 := r11.on hn
  replace hc := chain hc hn
  clear hn
  replace hu : HoldsO (V8.alloc (.cells #[.int .i64 17, .int .i64 0, .int .i64 0, .int .i64 0, .int .i64 0, .string LT] 26)) _ _ := hu
  generalize V8.alloc (.cells #[.int .i64 17, .int .i64 0, .int .i64 0, .int .i64 0, .int .i64 0, .string LT] 26) = V9 at *
  refine Calls.mono (CL2.out _ _ hu) ?_
  rintro e V10 ⟨u4, rfl, ho4, hn⟩
  clear hu
  replace r11 := r11.on hn
  replace hc := chain hc hn
  clear hn
  obtain ⟨g4, c4, rfl⟩ := ownsRow_len ho4
  have HO4 := Lib.hid ho4.holds
  clear ho4
  have yr11 := r11.cell
  have zr11 := r11.lt
  go_wp2_with fail
  refine Calls.mono (CQ2.out _ _ (HE.out.on hc) HO4.out) ?_
  rintro e V11 ⟨rfl, hn⟩
  clear yr11 zr11
  replace r11 := r11.on hn
  replace hc := chain hc hn
  clear hn
  have yr11 := r11.cell
  have zr11 := r11.lt
  go_wp2_with fail
  refine Calls.mono (CH.out _) ?_
  rintro e V12 ⟨rfl, hn⟩
  clear yr11 zr11
  replace r11 := r11.on hn
  replace hc := chain hc hn
  clear hn
  have yr11 := r11.cell
  have zr11 := r11.lt
  go_wp2_with fail
  refine Calls.mono (CX.out _ (HE.out.on hc)) ?_
  rintro e W9 ⟨⟨gw, rfl, hgo⟩, hn⟩
  clear yr11 zr11
  replace r11 := r11.on hn
  replace hc := chain hc hn
  clear hn
  obtain ⟨g5, c5, rfl⟩ := ownsRow_len hgo
  clear hgo
  have yr11 := r11.cell
  have zr11 := r11.lt
  go_wp2_with fail
  refine Calls.mono (works _ (HE.out.on hc)) ?_
  rintro e V13 ⟨rfl, hn⟩
  clear yr11 zr11
  replace r11 := r11.on hn
  replace hc := chain hc hn
  clear hn
  have yr11 := r11.cell
  have zr11 := r11.lt
  go_wp2_with fail
  go_returns
  exact ⟨rfl, hc⟩
theorem many_2 (more : Int) (w : World) (hE : EnvL w) (h0 : 0 ≤ more) (h1 : more ≤ 255) (hr : more % 4 = 2) : Ret 3 #[.int .u8 more] w (.bool true) := by
  have HE := Lib.hid hE
  have hc := Below.refl w.heap.size w
  have ek : more.tmod 4 = 2 := by rw [Int.tmod_eq_emod_of_nonneg h0, hr]
  have CR := Lib.hid (reps_c batchR 2000 (by omega) (by omega))
  have hpr := print_batch 2000 (by omega)
  have CP := Lib.hid (prints batchR batch_ok (by decide) 2000 (by omega) _ _ hpr)
  clear hpr
  obtain ⟨S, hS⟩ : ∃ S : List UInt8, S = opsL (List.replicate 2000 batchR) := ⟨_, rfl⟩
  rw [← hS] at CP
  have CT := Lib.hid (fun W => str_rep ⟨#[98, 97, 116, 99, 104, 10]⟩ 2000 (by decide) (by omega) W)
  have CA := Lib.hid (parses 2000 (by omega) _ _ _ (parse_rep 2000 (by omega)))
  have ad := fun W => add_run (a := batS 2000) (b := endS) rfl (by rw [bat_size]; show _ + 2 ≤ _; omega) W
  have CO := Lib.hid (fun W => str_rep ⟨#[111]⟩ 56 (by decide) (by omega) W)
  have CL1 := Lib.hid (reps_c longR 1024 (by omega) (by omega))
  have CL2 := Lib.hid (reps_c longR 1025 (by omega) (by omega))
  have hq1 := print_rep longR long_ok 1024 (by omega)
  rw [long_len, if_neg (by omega)] at hq1
  have hq2 := print_rep longR long_ok 1025 (by omega)
  rw [long_len, if_pos (by omega)] at hq2
  have CQ1 := Lib.hid (prints longR long_ok (by decide) 1024 (by omega) _ _ hq1)
  have CQ2 := Lib.hid (prints longR long_ok (by decide) 1025 (by omega) _ _ hq2)
  have hm2 : ((65537 + more.toNat : Nat) : Int) = 65537 + more := by omega
  have CH := fun W => str_rep ⟨#[35]⟩ (65537 + more.toNat) (by decide) (by omega) W
  rw [hm2] at CH
  replace CH := Lib.hid CH
  have CX := Lib.hid (parses_long (65537 + more.toNat) (by omega) (by omega))
  have sz : ((⟨S.toArray⟩ : ByteArray).size : Int) = 12000 := by rw [size_arr, hS]; (have h9 := opsL_rep batchR 2000; rw [batch_txt] at h9; rw [h9]; rfl)
  have sl : ((⟨(opsL (List.replicate 1024 longR)).toArray⟩ : ByteArray).size : Int) = 65536 := by rw [size_arr, opsL_rep, long_len]; rfl
  obtain ⟨LB, hLB⟩ : ∃ LB, LB = List.replicate 2000 batchR := ⟨_, rfl⟩
  have hLl : (LB.length : Int) = 2000 := by rw [hLB]; simp
  rw [← hLB] at CR CP CA
  obtain ⟨L1, hL1⟩ : ∃ L1, L1 = List.replicate 1024 longR := ⟨_, rfl⟩
  obtain ⟨L2, hL2⟩ : ∃ L2, L2 = List.replicate 1025 longR := ⟨_, rfl⟩
  rw [← hL1] at CL1 CQ1 sl
  rw [← hL2] at CL2 CQ2
  obtain ⟨LT, hLT⟩ : ∃ LT : ByteArray, LT = longT := ⟨_, rfl⟩
  replace CO : RowKit.Hid (∀ W, Ret 7 #[.string ⟨#[111]⟩, .int .i64 56] W (.string LT)) := by rw [hLT]; exact CO
  have hLR : longR = (17, ⟨0, 0, 0, 0, LT⟩) := by rw [hLT]; rfl
  rw [hLR] at CL1 CL2
  clear hLR hLT
  obtain ⟨SB, hSB⟩ : ∃ SB : ByteArray, SB = ⟨S.toArray⟩ := ⟨_, rfl⟩
  rw [← hSB] at CP sz
  obtain ⟨SL, hSL⟩ : ∃ SL : ByteArray, SL = ⟨(opsL L1).toArray⟩ := ⟨_, rfl⟩
  rw [← hSL] at CQ1 sl
  obtain ⟨BS, hBS⟩ : ∃ BS : ByteArray, BS = batS 2000 := ⟨_, rfl⟩
  rw [← hBS] at CA ad
  replace CT : RowKit.Hid (∀ W, Ret 7 #[.string ⟨#[98, 97, 116, 99, 104, 10]⟩, .int .i64 2000] W (.string BS)) := by rw [hBS]; exact CT
  obtain ⟨BH, hBH⟩ : ∃ BH : ByteArray, BH = ⟨(Lib.repeatL [35] (65537 + more.toNat)).toArray⟩ := ⟨_, rfl⟩
  rw [← hBH] at CX
  replace CH : RowKit.Hid (∀ W, Ret 7 #[.string ⟨#[35]⟩, .int .i64 (65537 + more)] W (.string BH)) := by rw [hBH]; exact CH
  have q1 : IntKind.i64.wrap (65537 + more) = 65537 + more := IntWalk.i64_in _ ⟨by omega, by omega⟩
  have q2 : IntKind.i64.wrap more = more := IntWalk.i64_in _ ⟨by omega, by omega⟩
  clear hE hr hS hq1 hq2 hm2 hLB hL1 hL2 hSB hSL hBS hBH h1
  go_enter Tryd.func3, Tryd.ntmps3
  go_wp2_with fail
  have hu := one_holds batchR w
  have hn := below_alloc w (.cells #[.int .i64 14, .int .i64 0, .int .i64 0, .int .i64 0, .int .i64 0, .string ⟨#[]⟩] 26)
  replace hc := chain hc hn
  clear hn
  replace hu : HoldsO (w.alloc (.cells #[.int .i64 14, .int .i64 0, .int .i64 0, .int .i64 0, .int .i64 0, .string ⟨#[]⟩] 26)) _ _ := hu
  generalize w.alloc (.cells #[.int .i64 14, .int .i64 0, .int .i64 0, .int .i64 0, .int .i64 0, .string ⟨#[]⟩] 26) = V1 at *
  refine Calls.mono (CR.out _ _ hu) ?_
  rintro e V2 ⟨u1, rfl, ho1, hn⟩
  clear hu
  replace hc := chain hc hn
  clear hn
  obtain ⟨g1, c1, rfl⟩ := ownsRow_len ho1
  have HO1 := Lib.hid ho1.holds
  clear ho1
  go_wp2_with fail
  refine Calls.mono (CP.out _ _ (HE.out.on hc) HO1.out) ?_
  rintro e V3 ⟨rfl, hn⟩
  replace hc := chain hc hn
  clear hn
  go_wp2_with fail
  refine Calls.mono (CT.out _) ?_
  rintro e V4 ⟨rfl, hn⟩
  replace hc := chain hc hn
  clear hn
  go_wp2_with fail
  refine Calls.mono (CA.out _ (HE.out.on hc)) ?_
  rintro e W1 ⟨⟨gv, rfl, hgo⟩, hn⟩
  replace hc := chain hc hn
  clear hn
  obtain ⟨g2, c2, rfl⟩ := ownsRow_len hgo
  clear hgo
  go_wp2_with fail
  refine Calls.mono (CO.out _) ?_
  rintro e W2 ⟨rfl, hn⟩
  replace hc := chain hc hn
  clear hn
  go_upto_region 11 with fail
  have r11 := Row.new (W := W2) (cs := #[.int .i64 17, .int .i64 0, .int .i64 0, .int .i64 0, .int .i64 0, .string LT]) (t := 26)
  have hn := below_alloc W2 (.cells #[.int .i64 17, .int .i64 0, .int .i64 0, .int .i64 0, .int .i64 0, .string LT] 26)
  have wr11 : w.heap.size ≤ W2.heap.size := hc.size
  replace hc := chain hc hn
  clear hn
  generalize W2.alloc (.cells #[.int .i64 17, .int .i64 0, .int .i64 0, .int .i64 0, .int .i64 0, .string LT] 26) = V5 at r11 hc ⊢
  generalize W2.heap.size = b11 at *
  have yr11 := r11.cell
  have zr11 := r11.lt
  go_wp2_with fail
  clear yr11 zr11
  have hu := one_holds ((17, ⟨0, 0, 0, 0, LT⟩) : OpR) V5
  have hn := below_alloc V5 (.cells #[.int .i64 17, .int .i64 0, .int .i64 0, .int .i64 0, .int .i64 0, .string LT] 26)
  replace r11 := r11.on hn
  replace hc := chain hc hn
  clear hn
  replace hu : HoldsO (V5.alloc (.cells #[.int .i64 17, .int .i64 0, .int .i64 0, .int .i64 0, .int .i64 0, .string LT] 26)) _ _ := hu
  generalize V5.alloc (.cells #[.int .i64 17, .int .i64 0, .int .i64 0, .int .i64 0, .int .i64 0, .string LT] 26) = V6 at *
  refine Calls.mono (CL1.out _ _ hu) ?_
  rintro e V7 ⟨u3, rfl, ho3, hn⟩
  clear hu
  replace r11 := r11.on hn
  replace hc := chain hc hn
  clear hn
  obtain ⟨g3, c3, rfl⟩ := ownsRow_len ho3
  have HO3 := Lib.hid ho3.holds
  clear ho3
  have yr11 := r11.cell
  have zr11 := r11.lt
  go_wp2_with fail
  refine Calls.mono (CQ1.out _ _ (HE.out.on hc) HO3.out) ?_
  rintro e V8 ⟨rfl, hn⟩
  clear yr11 zr11
  replace r11 := r11.on hn
  replace hc := chain hc hn
  clear hn
  have yr11 := r11.cell
  have zr11 := r11.lt
  go_wp2_with fail
  clear yr11 zr11
  have hu := one_holds ((17, ⟨0, 0, 0, 0, LT⟩) : OpR) V8
  have hn := below_alloc V8 (.cells #[.int .i64 17, .int .i64 0, .int .i64 0, .int .i64 0, .int .i64 0, .string LT] 26)
  replace r11 := r11.on hn
  replace hc := chain hc hn
  clear hn
  replace hu : HoldsO (V8.alloc (.cells #[.int .i64 17, .int .i64 0, .int .i64 0, .int .i64 0, .int .i64 0, .string LT] 26)) _ _ := hu
  generalize V8.alloc (.cells #[.int .i64 17, .int .i64 0, .int .i64 0, .int .i64 0, .int .i64 0, .string LT] 26) = V9 at *
  refine Calls.mono (CL2.out _ _ hu) ?_
  rintro e V10 ⟨u4, rfl, ho4, hn⟩
  clear hu
  replace r11 := r11.on hn
  replace hc := chain hc hn
  clear hn
  obtain ⟨g4, c4, rfl⟩ := ownsRow_len ho4
  have HO4 := Lib.hid ho4.holds
  clear ho4
  have yr11 := r11.cell
  have zr11 := r11.lt
  go_wp2_with fail
  refine Calls.mono (CQ2.out _ _ (HE.out.on hc) HO4.out) ?_
  rintro e V11 ⟨rfl, hn⟩
  clear yr11 zr11
  replace r11 := r11.on hn
  replace hc := chain hc hn
  clear hn
  have yr11 := r11.cell
  have zr11 := r11.lt
  go_wp2_with fail
  refine Calls.mono (CH.out _) ?_
  rintro e V12 ⟨rfl, hn⟩
  clear yr11 zr11
  replace r11 := r11.on hn
  replace hc := chain hc hn
  clear hn
  have yr11 := r11.cell
  have zr11 := r11.lt
  go_wp2_with fail
  refine Calls.mono (CX.out _ (HE.out.on hc)) ?_
  rintro e W9 ⟨⟨gw, rfl, hgo⟩, hn⟩
  clear yr11 zr11
  replace r11 := r11.on hn
  replace hc := chain hc hn
  clear hn
  obtain ⟨g5, c5, rfl⟩ := ownsRow_len hgo
  clear hgo
  have yr11 := r11.cell
  have zr11 := r11.lt
  go_wp2_with fail
  refine Calls.mono (works _ (HE.out.on hc)) ?_
  rintro e V13 ⟨rfl, hn⟩
  clear yr11 zr11
  replace r11 := r11.on hn
  replace hc := chain hc hn
  clear hn
  have yr11 := r11.cell
  have zr11 := r11.lt
  go_wp2_with fail
  go_returns
  exact ⟨rfl, hc⟩
theorem many_3 (more : Int) (w : World) (hE : EnvL w) (h0 : 0 ≤ more) (h1 : more ≤ 255) (hr : more % 4 = 3) : Ret 3 #[.int .u8 more] w (.bool true) := by
  have HE := Lib.hid hE
  have hc := Below.refl w.heap.size w
  have ek : more.tmod 4 = 3 := by rw [Int.tmod_eq_emod_of_nonneg h0, hr]
  have CR := Lib.hid (reps_c batchR 2001 (by omega) (by omega))
  have hpr := print_batch_many 2001 (by omega)
  have CP := Lib.hid (prints batchR batch_ok (by decide) 2001 (by omega) _ _ hpr)
  clear hpr
  obtain ⟨S, hS⟩ : ∃ S : List UInt8, S = [] := ⟨_, rfl⟩
  rw [← hS] at CP
  have CT := Lib.hid (fun W => str_rep ⟨#[98, 97, 116, 99, 104, 10]⟩ 2001 (by decide) (by omega) W)
  have CA := Lib.hid (parses 2001 (by omega) _ _ _ (parse_rep_many 2001 (by omega) (by omega)))
  have ad := fun W => add_run (a := batS 2001) (b := endS) rfl (by rw [bat_size]; show _ + 2 ≤ _; omega) W
  have CO := Lib.hid (fun W => str_rep ⟨#[111]⟩ 56 (by decide) (by omega) W)
  have CL1 := Lib.hid (reps_c longR 1024 (by omega) (by omega))
  have CL2 := Lib.hid (reps_c longR 1025 (by omega) (by omega))
  have hq1 := print_rep longR long_ok 1024 (by omega)
  rw [long_len, if_neg (by omega)] at hq1
  have hq2 := print_rep longR long_ok 1025 (by omega)
  rw [long_len, if_pos (by omega)] at hq2
  have CQ1 := Lib.hid (prints longR long_ok (by decide) 1024 (by omega) _ _ hq1)
  have CQ2 := Lib.hid (prints longR long_ok (by decide) 1025 (by omega) _ _ hq2)
  have hm2 : ((65537 + more.toNat : Nat) : Int) = 65537 + more := by omega
  have CH := fun W => str_rep ⟨#[35]⟩ (65537 + more.toNat) (by decide) (by omega) W
  rw [hm2] at CH
  replace CH := Lib.hid CH
  have CX := Lib.hid (parses_long (65537 + more.toNat) (by omega) (by omega))
  have sz : ((⟨S.toArray⟩ : ByteArray).size : Int) = 0 := by rw [size_arr, hS]; rfl
  have sl : ((⟨(opsL (List.replicate 1024 longR)).toArray⟩ : ByteArray).size : Int) = 65536 := by rw [size_arr, opsL_rep, long_len]; rfl
  obtain ⟨LB, hLB⟩ : ∃ LB, LB = List.replicate 2001 batchR := ⟨_, rfl⟩
  have hLl : (LB.length : Int) = 2001 := by rw [hLB]; simp
  rw [← hLB] at CR CP
  obtain ⟨L1, hL1⟩ : ∃ L1, L1 = List.replicate 1024 longR := ⟨_, rfl⟩
  obtain ⟨L2, hL2⟩ : ∃ L2, L2 = List.replicate 1025 longR := ⟨_, rfl⟩
  rw [← hL1] at CL1 CQ1 sl
  rw [← hL2] at CL2 CQ2
  obtain ⟨LT, hLT⟩ : ∃ LT : ByteArray, LT = longT := ⟨_, rfl⟩
  replace CO : RowKit.Hid (∀ W, Ret 7 #[.string ⟨#[111]⟩, .int .i64 56] W (.string LT)) := by rw [hLT]; exact CO
  have hLR : longR = (17, ⟨0, 0, 0, 0, LT⟩) := by rw [hLT]; rfl
  rw [hLR] at CL1 CL2
  clear hLR hLT
  obtain ⟨SB, hSB⟩ : ∃ SB : ByteArray, SB = ⟨S.toArray⟩ := ⟨_, rfl⟩
  rw [← hSB] at CP sz
  obtain ⟨SL, hSL⟩ : ∃ SL : ByteArray, SL = ⟨(opsL L1).toArray⟩ := ⟨_, rfl⟩
  rw [← hSL] at CQ1 sl
  obtain ⟨BS, hBS⟩ : ∃ BS : ByteArray, BS = batS 2001 := ⟨_, rfl⟩
  rw [← hBS] at CA ad
  replace CT : RowKit.Hid (∀ W, Ret 7 #[.string ⟨#[98, 97, 116, 99, 104, 10]⟩, .int .i64 2001] W (.string BS)) := by rw [hBS]; exact CT
  obtain ⟨BH, hBH⟩ : ∃ BH : ByteArray, BH = ⟨(Lib.repeatL [35] (65537 + more.toNat)).toArray⟩ := ⟨_, rfl⟩
  rw [← hBH] at CX
  replace CH : RowKit.Hid (∀ W, Ret 7 #[.string ⟨#[35]⟩, .int .i64 (65537 + more)] W (.string BH)) := by rw [hBH]; exact CH
  have q1 : IntKind.i64.wrap (65537 + more) = 65537 + more := IntWalk.i64_in _ ⟨by omega, by omega⟩
  have q2 : IntKind.i64.wrap more = more := IntWalk.i64_in _ ⟨by omega, by omega⟩
  clear hE hr hS hq1 hq2 hm2 hLB hL1 hL2 hSB hSL hBS hBH h1
  go_enter Tryd.func3, Tryd.ntmps3
  go_wp2_with fail
  have hu := one_holds batchR w
  have hn := below_alloc w (.cells #[.int .i64 14, .int .i64 0, .int .i64 0, .int .i64 0, .int .i64 0, .string ⟨#[]⟩] 26)
  replace hc := chain hc hn
  clear hn
  replace hu : HoldsO (w.alloc (.cells #[.int .i64 14, .int .i64 0, .int .i64 0, .int .i64 0, .int .i64 0, .string ⟨#[]⟩] 26)) _ _ := hu
  generalize w.alloc (.cells #[.int .i64 14, .int .i64 0, .int .i64 0, .int .i64 0, .int .i64 0, .string ⟨#[]⟩] 26) = V1 at *
  refine Calls.mono (CR.out _ _ hu) ?_
  rintro e V2 ⟨u1, rfl, ho1, hn⟩
  clear hu
  replace hc := chain hc hn
  clear hn
  obtain ⟨g1, c1, rfl⟩ := ownsRow_len ho1
  have HO1 := Lib.hid ho1.holds
  clear ho1
  go_wp2_with fail
  refine Calls.mono (CP.out _ _ (HE.out.on hc) HO1.out) ?_
  rintro e V3 ⟨rfl, hn⟩
  replace hc := chain hc hn
  clear hn
  go_wp2_with fail
  refine Calls.mono (CT.out _) ?_
  rintro e V4 ⟨rfl, hn⟩
  replace hc := chain hc hn
  clear hn
  go_wp2_with fail
  refine Calls.mono (CA.out _ (HE.out.on hc)) ?_
  rintro e W1 ⟨⟨gv, rfl, hgo⟩, hn⟩
  replace hc := chain hc hn
  clear hn
  obtain ⟨g2, c2, rfl⟩ := ownsRow_len hgo
  clear hgo
  go_wp2_with fail
  refine Calls.mono (CO.out _) ?_
  rintro e W2 ⟨rfl, hn⟩
  replace hc := chain hc hn
  clear hn
  go_upto_region 11 with fail
  have r11 := Row.new (W := W2) (cs := #[.int .i64 17, .int .i64 0, .int .i64 0, .int .i64 0, .int .i64 0, .string LT]) (t := 26)
  have hn := below_alloc W2 (.cells #[.int .i64 17, .int .i64 0, .int .i64 0, .int .i64 0, .int .i64 0, .string LT] 26)
  have wr11 : w.heap.size ≤ W2.heap.size := hc.size
  replace hc := chain hc hn
  clear hn
  generalize W2.alloc (.cells #[.int .i64 17, .int .i64 0, .int .i64 0, .int .i64 0, .int .i64 0, .string LT] 26) = V5 at r11 hc ⊢
  generalize W2.heap.size = b11 at *
  have yr11 := r11.cell
  have zr11 := r11.lt
  go_wp2_with fail
  clear yr11 zr11
  have hu := one_holds ((17, ⟨0, 0, 0, 0, LT⟩) : OpR) V5
  have hn := below_alloc V5 (.cells #[.int .i64 17, .int .i64 0, .int .i64 0, .int .i64 0, .int .i64 0, .string LT] 26)
  replace r11 := r11.on hn
  replace hc := chain hc hn
  clear hn
  replace hu : HoldsO (V5.alloc (.cells #[.int .i64 17, .int .i64 0, .int .i64 0, .int .i64 0, .int .i64 0, .string LT] 26)) _ _ := hu
  generalize V5.alloc (.cells #[.int .i64 17, .int .i64 0, .int .i64 0, .int .i64 0, .int .i64 0, .string LT] 26) = V6 at *
  refine Calls.mono (CL1.out _ _ hu) ?_
  rintro e V7 ⟨u3, rfl, ho3, hn⟩
  clear hu
  replace r11 := r11.on hn
  replace hc := chain hc hn
  clear hn
  obtain ⟨g3, c3, rfl⟩ := ownsRow_len ho3
  have HO3 := Lib.hid ho3.holds
  clear ho3
  have yr11 := r11.cell
  have zr11 := r11.lt
  go_wp2_with fail
  refine Calls.mono (CQ1.out _ _ (HE.out.on hc) HO3.out) ?_
  rintro e V8 ⟨rfl, hn⟩
  clear yr11 zr11
  replace r11 := r11.on hn
  replace hc := chain hc hn
  clear hn
  have yr11 := r11.cell
  have zr11 := r11.lt
  go_wp2_with fail
  clear yr11 zr11
  have hu := one_holds ((17, ⟨0, 0, 0, 0, LT⟩) : OpR) V8
  have hn := below_alloc V8 (.cells #[.int .i64 17, .int .i64 0, .int .i64 0, .int .i64 0, .int .i64 0, .string LT] 26)
  replace r11 := r11.on hn
  replace hc := chain hc hn
  clear hn
  replace hu : HoldsO (V8.alloc (.cells #[.int .i64 17, .int .i64 0, .int .i64 0, .int .i64 0, .int .i64 0, .string LT] 26)) _ _ := hu
  generalize V8.alloc (.cells #[.int .i64 17, .int .i64 0, .int .i64 0, .int .i64 0, .int .i64 0, .string LT] 26) = V9 at *
  refine Calls.mono (CL2.out _ _ hu) ?_
  rintro e V10 ⟨u4, rfl, ho4, hn⟩
  clear hu
  replace r11 := r11.on hn
  replace hc := chain hc hn
  clear hn
  obtain ⟨g4, c4, rfl⟩ := ownsRow_len ho4
  have HO4 := Lib.hid ho4.holds
  clear ho4
  have yr11 := r11.cell
  have zr11 := r11.lt
  go_wp2_with fail
  refine Calls.mono (CQ2.out _ _ (HE.out.on hc) HO4.out) ?_
  rintro e V11 ⟨rfl, hn⟩
  clear yr11 zr11
  replace r11 := r11.on hn
  replace hc := chain hc hn
  clear hn
  have yr11 := r11.cell
  have zr11 := r11.lt
  go_wp2_with fail
  refine Calls.mono (CH.out _) ?_
  rintro e V12 ⟨rfl, hn⟩
  clear yr11 zr11
  replace r11 := r11.on hn
  replace hc := chain hc hn
  clear hn
  have yr11 := r11.cell
  have zr11 := r11.lt
  go_wp2_with fail
  refine Calls.mono (CX.out _ (HE.out.on hc)) ?_
  rintro e W9 ⟨⟨gw, rfl, hgo⟩, hn⟩
  clear yr11 zr11
  replace r11 := r11.on hn
  replace hc := chain hc hn
  clear hn
  obtain ⟨g5, c5, rfl⟩ := ownsRow_len hgo
  clear hgo
  have yr11 := r11.cell
  have zr11 := r11.lt
  go_wp2_with fail
  refine Calls.mono (works _ (HE.out.on hc)) ?_
  rintro e V13 ⟨rfl, hn⟩
  clear yr11 zr11
  replace r11 := r11.on hn
  replace hc := chain hc hn
  clear hn
  have yr11 := r11.cell
  have zr11 := r11.lt
  go_wp2_with fail
  go_returns
  exact ⟨rfl, hc⟩
theorem many_walk (more : Int) (w : World) (hE : EnvL w) (h0 : 0 ≤ more) (h1 : more ≤ 255) : Ret 3 #[.int .u8 more] w (.bool true) := by
  rcases (by omega : more % 4 = 0 ∨ more % 4 = 1 ∨ more % 4 = 2 ∨ more % 4 = 3) with h | h | h | h
  · exact many_0 more w hE h0 h1 h
  · exact many_1 more w hE h0 h1 h
  · exact many_2 more w hE h0 h1 h
  · exact many_3 more w hE h0 h1 h
end Go.Proofs.YthkngleegefgbaaDoor
