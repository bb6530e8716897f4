/- slices.Repeat at elements of six cells. -/
import Derived.Test.YthkngleegefgbaaGreatDoorL2a
import Derived.Test.YthkngleegefgbaaGreatDoorL4a
import Derived.Test.YthkngleegefgbaaGreatDoorL0b
import Derived.Test.YthkngleegefgbaaGreatDoorM240a
import Derived.Deep.DeepCutAuto
import Derived.Lib.AppendZerosOnto
import Derived.Lib.Walk
import Derived.Laws.CopyOwn
import Derived.Laws.AppendOwn
import Derived.Shelf.RegionOpenPlain
import Derived.Laws.OwnMore
import Derived.Laws.CopyRow
import Derived.Laws.MakeOwn
import Derived.Lib.SliceRun
import Derived.OpenShut
namespace Go.Proofs.YthkngleegefgbaaGreatDoor
open Go.RowKit
set_option linter.unusedVariables false
set_option linter.unusedSimpArgs false
set_option maxHeartbeats 16000000
set_option maxRecDepth 20000
/-- copy of elements of k cells. -/
theorem run_copy_k (P : Program) (w : World) (dT sT ty elem : TypeId) (k g o dLen dCap : Nat) (a : Addr) (sLen sCap : Nat) (cur : Array Value) (t : TypeId) (cs : List Value)
    (hu : P.underlying dT = some (.slice elem)) (hs : (P.info? elem).map (·.size) = some k)
    (hg : w.heap[g]? = some (.cells cur t (0, 0))) (hn : cs.length = Nat.min sLen dLen * k)
    (hsrc : ∀ j v, cs[j]? = some v → w.cell? (a.add j) = some v) (hfit : o + cs.length ≤ cur.size) (h1 : ∀ v ∈ cs, v.oneCell' = true) :
    (Builtin.copy_ #[dT, sT] ty #[.slice (some ⟨g, o, none⟩) dLen dCap, .slice (some a) sLen sCap]).run P w =
      .ok (goInt (Nat.min sLen dLen)) (w.setRow g (cur.toList.take o ++ cs ++ cur.toList.drop (o + cs.length)).toArray) := by
  have hl := run_loadCells_list (P := P) w a cs hsrc
  have hst := run_storeCells_at P g o t cs 0 cur w hg (by simpa using hfit) h1
  cases hq : P.info? elem with
  | none => simp [hq] at hs
  | some i =>
    have hi : i.size = k := by simpa [hq] using hs
    simp [Builtin.copy_, run_underlying hu, Builtin.lenOf, Builtin.firstCells, sizeOf, typeInfo, hq, hi, ← hn, hl, hst]
theorem mul_c (x y : Nat) (hx : x ≤ 100000) (hy : y ≤ 100000) (w : World) : Calls Tryz.prog 44 #[.int .u64 x, .int .u64 y] w fun e w' => e = .returned (.tuple #[.int .u64 0, .int .u64 ((x * y : Nat) : Int)]) ∧ w' = w := by
  have h := Tryz.bits_Mul x y (by omega) (by omega) w
  have h2 : x * y ≤ 100000 * 100000 := Nat.mul_le_mul hx hy
  refine h.mono fun e w' he => ?_
  rw [Nat.div_eq_of_lt (by omega), Nat.mod_eq_of_lt (by omega)] at he
  exact he
theorem el_size : (Tryz.prog.info? 23).map (·.size) = some 6 := by kernel_rfl
/-- A slice of N elements of six cells each. -/
def Src6 (W : World) (v : Value) (N : Nat) (cs : List Value) : Prop := cs.length = 6 * N ∧ (∀ u ∈ cs, u.oneCell' = true) ∧ ((v = .slice none 0 0 ∧ N = 0) ∨ ∃ g o c, v = .slice (some ⟨g, o, none⟩) N c ∧ ∀ (j : Nat) u, cs[j]? = some u → W.cell? ⟨g, o + j, none⟩ = some u)
theorem add_at (g o j : Nat) : (⟨g, o, none⟩ : Addr).add j = ⟨g, o + j, none⟩ := by unfold Addr.add; split <;> simp_all
/-- copy as a run, over a row known whole. -/
theorem copy_run6 (W : World) (ty : TypeId) (dp : Addr) (sp : Option Addr) (dLen dCap sLen sCap g off : Nat) (cur : Array Value) (t : TypeId) (hg : Row W g cur t) (cs : List Value) (hn : cs.length = Nat.min sLen dLen * 6) (hdp : dp = ⟨g, off, none⟩)
    (hsrc : (sp = none ∧ sLen = 0 ∧ sCap = 0) ∨ ∃ q p, sp = some ⟨q, p, none⟩ ∧ ∀ j v, cs[j]? = some v → W.cell? ⟨q, p + j, none⟩ = some v)
    (hfit : off + cs.length ≤ cur.size) (h1 : ∀ v ∈ cs, v.oneCell' = true) (B : Nat) (w0 : World) (hb : Below B w0 W) (hBg : B ≤ g) :
    ∃ W', (Builtin.copy_ #[34, 34] ty #[.slice (some dp) dLen dCap, .slice sp sLen sCap]).run Tryz.prog W = .ok (goInt (Nat.min sLen dLen)) W' ∧ Row W' g (cur.toList.take off ++ cs ++ cur.toList.drop (off + cs.length)).toArray t ∧ Below B w0 W' := by
  subst hdp
  rcases hsrc with ⟨rfl, rfl, rfl⟩ | ⟨q, p, rfl, hs⟩
  · have h0 : cs = [] := List.eq_nil_of_length_eq_zero (by rw [hn]; simp)
    subst h0
    have hrun := run_copy_nil Tryz.prog W 34 34 ty 23 ⟨g, off, none⟩ dLen dCap Tryz.underlying34 (by rw [el_size]; rfl)
    refine ⟨W, ?_, by simpa using hg, hb⟩
    rw [hrun]
    simp
  · have hrun := run_copy_k Tryz.prog W 34 34 ty 23 6 g off dLen dCap ⟨q, p, none⟩ sLen sCap cur t cs Tryz.underlying34 el_size hg.eq hn (fun j v hv => by rw [add_at]; exact hs j v hv) hfit h1
    refine ⟨_, hrun, ⟨?_⟩, below_setRow hb hBg _⟩
    exact setRow_heap W g _ _ t _ hg.eq
theorem rep_one {cs : List Value} (n : Nat) (h : ∀ u ∈ cs, u.oneCell' = true) : ∀ u ∈ (List.replicate n cs).flatten, u.oneCell' = true := by
  intro u hu
  obtain ⟨l, hl, hul⟩ := List.mem_flatten.1 hu
  rw [List.eq_of_mem_replicate hl] at hul
  exact h u hul
theorem rep6_c (v : Value) (cs : List Value) (N n : Nat) (w : World) (hs : Src6 w v N cs) (hN : N ≤ 10000) (hn : 1 ≤ n) (hn2 : n ≤ 10000) (hp : N * n ≤ 20000) :
    Calls Tryz.prog 20 #[v, .int .i64 n] w fun e w' => e = .returned (.slice (some ⟨w.heap.size, 0, none⟩) (N * n) (N * n)) ∧ Row w' w.heap.size (List.replicate n cs).flatten.toArray 23 ∧ Below w.heap.size w w' := by
  obtain ⟨hlen, hone, hform⟩ := hs
  have hvf : ∃ sp c, v = .slice sp N c := by
    rcases hform with ⟨h1, h2⟩ | ⟨g, o, c, h1, _⟩
    · exact ⟨none, 0, by rw [h1, h2]⟩
    · exact ⟨_, c, h1⟩
  obtain ⟨sp, c, hvs⟩ := hvf
  have cm := fun w => mul_c N n (by omega) (by omega) w
  have u1 : IntKind.u64.wrap (N : Int) = N := IntWalk.u64_in _ ⟨by omega, by omega⟩
  have u2 : IntKind.u64.wrap (n : Int) = n := IntWalk.u64_in _ ⟨by omega, by omega⟩
  have hNT : N ≤ N * n := Nat.le_mul_of_pos_right _ hn
  have hFl : (List.replicate n cs).flatten.length = 6 * (N * n) := by rw [rep_len, hlen, Nat.mul_assoc]
  have hdvd : (N * n) % N = 0 := Nat.mul_mod_right _ _
  obtain ⟨F, hF⟩ : ∃ F, F = (List.replicate n cs).flatten := ⟨_, rfl⟩
  have hF1 : ∀ u ∈ F, u.oneCell' = true := by rw [hF]; exact rep_one n hone
  rw [← hF] at hFl ⊢
  have hFt : F.take (6 * N) = cs := by
    obtain ⟨k, rfl⟩ : ∃ k, n = k + 1 := ⟨n - 1, by omega⟩
    rw [hF, List.replicate_succ, List.flatten_cons, ← hlen, List.take_left' rfl]
  obtain ⟨T, hT⟩ : ∃ T, N * n = T := ⟨_, rfl⟩
  rw [hT] at cm hp hNT hFl hdvd ⊢
  have HN1 := Lib.hid (show 0 < T → 1 ≤ N from fun h => by rcases Nat.eq_zero_or_pos N with h0 | h0; (rw [h0, Nat.zero_mul] at hT; omega); exact h0)
  have u3 : IntKind.i64.wrap (T : Int) = T := IntWalk.i64_in _ ⟨by omega, by omega⟩
  have b1 : decide ((n : Int) < 0) = false := by rw [decide_eq_false_iff_not]; omega
  have b2 : decide (9223372036854775807 < (T : Int)) = false := by rw [decide_eq_false_iff_not]; omega
  obtain ⟨i0, hi, hz0, hz1, hz2⟩ := info_parts op_info
  obtain ⟨CS, hCS⟩ : ∃ CS, CS = madeCells #[.int .i64 0, .int .i64 0, .int .i64 0, .int .i64 0, .int .i64 0, .string ⟨#[]⟩] (T * 6) := ⟨_, rfl⟩
  have hCz : CS.size = T * 6 := by rw [hCS, size_madeCells]
  have mk : ∀ W : World, (Instr.makeSlice 34 (.int .i64 (T : Int)) (.int .i64 (T : Int))).run Tryz.prog W = .ok (.slice (some ⟨W.heap.size, 0, none⟩) T T) (W.alloc (.cells CS 23)) := fun W => by
    have h := run_makeSlice (P := Tryz.prog) W 34 23 i0 _ Tryz.underlying34 hi hz0 .i64 .i64 (T : Int) (T : Int) (by omega) (Int.le_refl _) (by rw [hz1]; omega) (by rw [hz2]; omega) (by omega)
    rw [hz1, Int.toNat_natCast] at h
    rw [h, hCS]
    rfl
  have hmin : Nat.min N T = N := Nat.min_eq_left hNT
  obtain ⟨w2, hrun, hrow, hB2⟩ := copy_run6 (w.alloc (.cells CS 23)) 3 ⟨w.heap.size, 0, none⟩ sp T T N c w.heap.size 0 CS 23 Row.new cs (by rw [hlen, hmin, Nat.mul_comm]) rfl (by
      rcases hform with ⟨h1, h2⟩ | ⟨g, o, c', h1, h2⟩
      · rw [h1] at hvs
        injection hvs with h3 h4 h5
        exact .inl ⟨h3.symm, h4.symm, h5.symm⟩
      · rw [h1] at hvs
        injection hvs with h3 h4 h5
        refine .inr ⟨g, o, h3.symm, fun j u hu => ?_⟩
        have q := h2 j u hu
        exact keep_cell (below_alloc w _) (block_lt_of_cell (a := ⟨g, o + j, none⟩) q) q) (by rw [hlen, hCz]; omega) hone w.heap.size w ((Below.refl _ w).alloc (Nat.le_refl _) _) (Nat.le_refl _)
  rw [hmin] at hrun
  have e2 : goInt N = .int .i64 (N : Int) := rfl
  rw [e2] at hrun
  obtain ⟨cur0, hcur0⟩ : ∃ cur0, cur0 = (CS.toList.take 0 ++ cs ++ CS.toList.drop (0 + cs.length)).toArray := ⟨_, rfl⟩
  rw [← hcur0] at hrow
  have hz : cur0.size = 6 * T := by
    rw [hcur0]
    simp [hlen, hCz]
    omega
  have ht0 : cur0.toList.take (6 * N) = F.take (6 * N) := by
    rw [hFt, hcur0]
    simp only [List.take_zero, List.nil_append]
    rw [← hlen, List.take_left' rfl]
  have HR0 := Lib.hid hrow
  have HT0 := Lib.hid ht0
  have HZ := Lib.hid hz
  have CM := Lib.hid cm
  have HF := Lib.hid hF
  have HFL := Lib.hid hFl
  have HF1 := Lib.hid hF1
  have HDV := Lib.hid hdvd
  have HL := Lib.hid hlen
  clear hrow ht0 hz cm hF hFl hF1 hdvd hlen hform hone hFt hCz hCS hi hz0 hz1 hz2 hcur0 e2 hmin hT
  subst hvs
  go_enter Tryz.func20, Tryz.ntmps20
  go_wp2_with fail
  refine Calls.mono (CM.out _) ?_
  rintro e W1 ⟨rfl, hW1⟩
  subst W1
  go_wp2_with fail
  clear mk
  go_loopw [8] (fun i wr => ∃ (m : Nat) (cur : Array Value), N ≤ m ∧ m ≤ T ∧ i = .int .i64 m ∧ Hid (Row wr w.heap.size cur 23) ∧ Hid (cur.size = 6 * T) ∧ Hid (cur.toList.take (6 * m) = F.take (6 * m)) ∧ Hid (m % N = 0) ∧ Below w.heap.size w wr) (fun i _ => T - (intOf i).toNat)
  case atStart => exact ⟨N, cur0, Nat.le_refl _, hNT, rfl, HR0, HZ, HT0, Lib.hid (Nat.mod_self N), hB2⟩
  case round =>
    obtain ⟨m, cur, hk0, hk, rfl, hR, hS, hTk, hDv, hB⟩ := hrel
    clear hrun HR0 hB2 HT0 HZ
    by_cases hlt : m < T
    · have hd : decide ((m : Int) < (T : Int)) = true := decide_eq_true (by omega)
      have hne : ¬ T = m := by omega
      obtain ⟨q, hq⟩ : ∃ q, q = min m (T - m) := ⟨_, rfl⟩
      have hql : q ≤ T := by omega
      have hFtl : (F.take (6 * q)).length = 6 * q := by rw [List.length_take, HFL.out]; omega
      obtain ⟨w3, hrun, hrow, hB3⟩ := copy_run6 wr.drew 3 ⟨w.heap.size, m * 6, none⟩ (some ⟨w.heap.size, 0, none⟩) (T - m) (T - m) m T w.heap.size (6 * m) cur 23 ⟨hR.out.eq⟩ (F.take (6 * q)) (by
          rw [hFtl, show Nat.min m (T - m) = q from hq.symm, Nat.mul_comm]) (by rw [Nat.mul_comm]) (.inr ⟨_, 0, rfl, fun j v hv => by
          rw [Nat.zero_add]
          have hj : j < 6 * q := by have := (List.getElem?_eq_some_iff.1 hv).1; rwa [hFtl] at this
          refine (hR.out.cell j).trans ?_
          have h2 := congrArg (fun l => l[j]?) hTk.out
          simp only [List.getElem?_take] at h2 hv
          rw [if_pos (by omega), if_pos (by omega)] at h2
          rw [if_pos hj] at hv
          rw [← hv, ← h2, Array.getElem?_toList]⟩) (by rw [hFtl, hS.out]; omega) (fun v hv => HF1.out v (List.mem_of_mem_take hv)) w.heap.size w hB.drew (Nat.le_refl _)
      rw [show Nat.min m (T - m) = q from hq.symm] at hrun
      have hcs : cs.length = 6 * N := HL.out
      obtain ⟨f1, f2⟩ := fill_step cs n (6 * m) (6 * q) F HF.out cur (by rw [hS.out, HFL.out]) hTk.out (by rw [hcs, Nat.mul_mod_mul_left, hDv.out]) (by omega) (by rw [HFL.out]; omega)
      rw [hFtl] at hrow
      obtain ⟨cur2, hc2⟩ : ∃ cur2, cur2 = (cur.toList.take (6 * m) ++ F.take (6 * q) ++ cur.toList.drop (6 * m + 6 * q)).toArray := ⟨_, rfl⟩
      rw [← hc2] at f1 f2 hrow
      have e1 : IntKind.i64.wrap ((m : Int) + (q : Int)) = ((m + q : Nat) : Int) := by rw [IntKind.wrap_i64]; omega
      have e2 : goInt q = .int .i64 (q : Int) := rfl
      rw [e2] at hrun
      have hdv2 : (m + q) % N = 0 := by
        by_cases h2 : m ≤ T - m
        · rw [hq, Nat.min_eq_left h2, Nat.add_mod, hDv.out]
          simp
        · rw [hq, Nat.min_eq_right (by omega), show m + (T - m) = T by omega]
          exact HDV.out
      have HRow := Lib.hid hrow
      have HM2 := Lib.hid hq
      have HF2 := Lib.hid f2
      have HS2 := Lib.hid (show cur2.size = 6 * T by rw [f1, HFL.out])
      have HD2 := Lib.hid hdv2
      clear hR hq hrow e2 f1 f2 hc2 hdv2 hTk hS hDv hFtl hcs
      go_wp2_with fail
      refine wp_region_held_drew (S := fun _ => True) (by kernel_rfl) trivial (fun hHeld => ?_)
      refine' wpAnyH_take (i := 0) (oi := _) (v := _) ?_ (by kernel_rfl) (by kernel_rfl) (by kernel_rfl) ?_ (Or.inl ⟨?_, ?_⟩) (by assumption) ?_
      rotate_left 2
      · (simp only [List.getElem?_toArray, List.getElem?_cons_succ, List.getElem?_cons_zero]; rfl)
      · first | exact fun _ _ _ h => h | exact fun _ _ _ h => nomatch h.1
      · rfl
      · (intro W hSW; (try dsimp only at hSW); go_split_ands; first | (go_simp; done) | (go_simp; with_reducible rfl))
      try simp only [Act.put, List.setIfInBounds_toArray, List.set_cons_zero, List.set_cons_succ]
      refine' wpAnyH_take (i := 1) (oi := _) (v := _) ?_ (by kernel_rfl) (by kernel_rfl) (by kernel_rfl) ?_ (Or.inl ⟨?_, ?_⟩) (by assumption) ?_
      rotate_left 2
      · (simp only [List.getElem?_toArray, List.getElem?_cons_succ, List.getElem?_cons_zero]; rfl)
      · first | exact fun _ _ _ h => h | exact fun _ _ _ h => nomatch h.1
      · rfl
      · (intro W hSW; (try dsimp only at hSW); go_split_ands; first | (go_simp; done) | (go_simp; with_reducible rfl))
      try simp only [Act.put, List.setIfInBounds_toArray, List.set_cons_zero, List.set_cons_succ]
      refine' wpAnyH_take (i := 2) (oi := _) (v := _) ?_ (by kernel_rfl) (by kernel_rfl) (by kernel_rfl) ?_ (Or.inl ⟨?_, ?_⟩) (by assumption) ?_
      rotate_left 2
      · (simp only [List.getElem?_toArray, List.getElem?_cons_succ, List.getElem?_cons_zero]; rfl)
      · first | exact fun _ _ _ h => h | exact fun _ _ _ h => nomatch h.1
      · rfl
      · (intro W hSW; (try dsimp only at hSW); go_split_ands; first | (go_simp; done) | (go_simp; with_reducible rfl))
      try simp only [Act.put, List.setIfInBounds_toArray, List.set_cons_zero, List.set_cons_succ]
      refine' wpAnyH_take (i := 3) (oi := _) (v := _) ?_ (by kernel_rfl) (by kernel_rfl) (by kernel_rfl) ?_ (Or.inl ⟨?_, ?_⟩) (by assumption) ?_
      rotate_left 2
      · (simp only [List.getElem?_toArray, List.getElem?_cons_succ, List.getElem?_cons_zero]; rfl)
      · first | exact fun _ _ _ h => h | exact fun _ _ _ h => nomatch h.1
      · rfl
      · (intro W hSW; (try dsimp only at hSW); go_split_ands; first | (go_simp; done) | (go_simp; with_reducible rfl))
      try simp only [Act.put, List.setIfInBounds_toArray, List.set_cons_zero, List.set_cons_succ]
      refine' wpAnyH_take (i := 4) (oi := _) (v := _) ?_ (by kernel_rfl) (by kernel_rfl) (by kernel_rfl) ?_ (Or.inl ⟨?_, ?_⟩) (by assumption) ?_
      rotate_left 2
      · (simp only [List.getElem?_toArray, List.getElem?_cons_succ, List.getElem?_cons_zero]; rfl)
      · first | exact fun _ _ _ h => h | exact fun _ _ _ h => nomatch h.1
      · rfl
      · (intro W hSW; (try dsimp only at hSW); go_split_ands; first | (go_simp; done) | (go_simp; with_reducible rfl))
      try simp only [Act.put, List.setIfInBounds_toArray, List.set_cons_zero, List.set_cons_succ]
      refine' wpAnyH_take (i := 5) (oi := _) (v := _) ?_ (by kernel_rfl) (by kernel_rfl) (by kernel_rfl) ?_ (Or.inl ⟨?_, ?_⟩) (by assumption) ?_
      rotate_left 2
      · (simp only [List.getElem?_toArray, List.getElem?_cons_succ, List.getElem?_cons_zero]; rfl)
      · first | exact fun _ _ _ h => h | exact fun _ _ _ h => nomatch h.1
      · rfl
      · (intro W hSW; (try dsimp only at hSW); go_split_ands; first | (go_simp; done) | (go_simp; with_reducible rfl))
      try simp only [Act.put, List.setIfInBounds_toArray, List.set_cons_zero, List.set_cons_succ]
      refine' wpAnyH_take (i := 6) (oi := _) (v := _) ?_ (by kernel_rfl) (by kernel_rfl) (by kernel_rfl) ?_ (Or.inl ⟨?_, ?_⟩) (by assumption) ?_
      rotate_left 2
      · (simp only [List.getElem?_toArray, List.getElem?_cons_succ, List.getElem?_cons_zero]; rfl)
      · first | exact fun _ _ _ h => h | exact fun _ _ _ h => nomatch h.1
      · rfl
      · (intro W hSW; (try dsimp only at hSW); go_split_ands; first | (go_simp; done) | (go_simp; with_reducible rfl))
      try simp only [Act.put, List.setIfInBounds_toArray, List.set_cons_zero, List.set_cons_succ]
      refine wpAnyH_ready (rs := [7]) (by kernel_rfl) (by simp) ?_
      refine' AllReadyH.cons (o := _) ?_ (fun K hK => ?_) AllReadyH.nil
      rotate_left 1
      · (simp only [List.getElem?_toArray, List.getElem?_cons_succ, List.getElem?_cons_zero]; rfl)
      go_simp
      refine hK.out _ _ trivial (fun hHeld => ?_)
      clear hK K
      refine' wpAnyH_take (i := 8) (oi := _) (v := _) ?_ (by kernel_rfl) (by kernel_rfl) (by kernel_rfl) ?_ (Or.inl ⟨?_, ?_⟩) (by assumption) ?_
      rotate_left 2
      · (simp only [List.getElem?_toArray, List.getElem?_cons_succ, List.getElem?_cons_zero]; rfl)
      · first | exact fun _ _ _ h => h | exact fun _ _ _ h => nomatch h.1
      · rfl
      · (intro W hSW; (try dsimp only at hSW); go_split_ands; first | (go_simp; done) | (go_simp; with_reducible rfl))
      try simp only [Act.put, List.setIfInBounds_toArray, List.set_cons_zero, List.set_cons_succ]
      refine' wpAnyH_take (i := 9) (oi := _) (v := _) ?_ (by kernel_rfl) (by kernel_rfl) (by kernel_rfl) ?_ (Or.inl ⟨?_, ?_⟩) (by assumption) ?_
      rotate_left 2
      · (simp only [List.getElem?_toArray, List.getElem?_cons_succ, List.getElem?_cons_zero]; rfl)
      · first | exact fun _ _ _ h => h | exact fun _ _ _ h => nomatch h.1
      · rfl
      · (intro W hSW; (try dsimp only at hSW); go_split_ands; first | (go_simp; done) | (go_simp; with_reducible rfl))
      try simp only [Act.put, List.setIfInBounds_toArray, List.set_cons_zero, List.set_cons_succ]
      refine wpAnyH_done (by kernel_rfl) ?_ _
      go_wp2_with fail
      have hm := HM2.out
      have hN1 := HN1.out (by omega)
      refine ⟨⟨m + q, cur2, by omega, by omega, by simp, HRow, HS2, by rw [Nat.mul_add]; exact HF2, HD2, hB3⟩, by simp [intOf]; omega⟩
    · obtain rfl : m = T := by omega
      have HR := hR
      have HT2 := hTk
      clear hR hTk
      go_wp2_with fail
      go_ret
      have h := HT2.out
      rw [List.take_of_length_le (by rw [Array.length_toList, hS.out]; exact Nat.le_refl _), List.take_of_length_le (by rw [HFL.out]; exact Nat.le_refl _)] at h
      refine ⟨rfl, ?_, hB⟩
      rw [← h]
      exact HR.out
theorem holds_cell {W : World} {g o : Nat} {l : List OpR} (h : ∀ (j : Nat) (r : OpR), l[j]? = some r → W.cell? ⟨g, o + j * 6, none⟩ = some (.int .i64 r.1) ∧ W.cell? ⟨g, o + j * 6 + 1, none⟩ = some (.int .i64 r.2.m) ∧ W.cell? ⟨g, o + j * 6 + 2, none⟩ = some (.int .i64 r.2.a) ∧ W.cell? ⟨g, o + j * 6 + 3, none⟩ = some (.int .i64 r.2.b) ∧ W.cell? ⟨g, o + j * 6 + 4, none⟩ = some (.int .i64 r.2.c) ∧ W.cell? ⟨g, o + j * 6 + 5, none⟩ = some (.string r.2.tag)) : ∀ (j : Nat) v, (cellsO l)[j]? = some v → W.cell? ⟨g, o + j, none⟩ = some v := by
  intro j v hj
  have hjl : j < 6 * l.length := by have := (List.getElem?_eq_some_iff.1 hj).1; rwa [cellsO_len] at this
  obtain ⟨q, t, ht, rfl⟩ : ∃ q t, t < 6 ∧ j = q * 6 + t := ⟨j / 6, j % 6, by omega, by omega⟩
  have hq : q < l.length := by omega
  obtain ⟨a0, a1, a2, a3, a4, a5⟩ := h q l[q] (List.getElem?_eq_getElem hq)
  obtain ⟨b0, b1, b2, b3, b4, b5⟩ := cellsO_get l q l[q] (List.getElem?_eq_getElem hq)
  rw [← Nat.add_assoc]
  rcases (by omega : t = 0 ∨ t = 1 ∨ t = 2 ∨ t = 3 ∨ t = 4 ∨ t = 5) with rfl | rfl | rfl | rfl | rfl | rfl
  · rw [Nat.add_zero, b0] at hj; injection hj with hj; subst hj; exact a0
  · rw [b1] at hj; injection hj with hj; subst hj; exact a1
  · rw [b2] at hj; injection hj with hj; subst hj; exact a2
  · rw [b3] at hj; injection hj with hj; subst hj; exact a3
  · rw [b4] at hj; injection hj with hj; subst hj; exact a4
  · rw [b5] at hj; injection hj with hj; subst hj; exact a5
theorem cellsO_one (l : List OpR) : ∀ v ∈ cellsO l, v.oneCell' = true := by
  intro v hv
  unfold cellsO at hv
  obtain ⟨a, _, h⟩ := List.mem_flatMap.1 hv
  simp at h
  rcases h with rfl | rfl | rfl | rfl | rfl | rfl <;> rfl
theorem cellsO_rep (l : List OpR) (n : Nat) : (List.replicate n (cellsO l)).flatten = cellsO (List.replicate n l).flatten := by
  induction n with
  | zero => rfl
  | succ n ih =>
    rw [List.replicate_succ, List.flatten_cons, ih, List.replicate_succ, List.flatten_cons]
    simp [cellsO]
theorem src_holds {W : World} {v : Value} {l : List OpR} (h : HoldsO W v l) : Src6 W v l.length (cellsO l) := by
  refine ⟨cellsO_len l, cellsO_one l, ?_⟩
  rcases h with ⟨h1, h2⟩ | ⟨g, o, c, h1, h2⟩
  · exact .inl ⟨h1, by rw [h2]; rfl⟩
  · exact .inr ⟨g, o, c, h1, holds_cell h2⟩
theorem repeatO_c (v : Value) (l : List OpR) (n : Nat) (w : World) (hv : HoldsO w v l) (hN : l.length ≤ 10000) (hn : 1 ≤ n) (hn2 : n ≤ 10000) (hp : l.length * n ≤ 20000) :
    Calls Tryz.prog 20 #[v, .int .i64 n] w fun e w' => ∃ u, e = .returned u ∧ OwnsO w.heap.size w' u (List.replicate n l).flatten ∧ Below w.heap.size w w' := by
  refine Calls.mono (rep6_c v (cellsO l) l.length n w (src_holds hv) hN hn hn2 hp) ?_
  rintro e w' ⟨rfl, hr, hb⟩
  have hlen : (List.replicate n l).flatten.length = l.length * n := rep_len l n
  refine ⟨_, rfl, ⟨by rw [cellsO_len, Nat.mul_comm], .inr ⟨w.heap.size, l.length * n, _, by rw [hlen], Nat.le_refl _, hr.eq, by rw [hlen]; exact Nat.le_refl _, by unfold maxLen; omega, ?_, ?_⟩⟩, hb⟩
  · rw [List.size_toArray, rep_len, cellsO_len]
    rw [Nat.mul_assoc, Nat.mul_comm]
  · rw [hlen, cellsO_rep, List.take_of_length_le (by rw [List.toList_toArray, cellsO_len, hlen]; omega)]
end Go.Proofs.YthkngleegefgbaaGreatDoor

/- Slices of operations among the arguments; slices.Clone of operations (chapter 39). -/
namespace Go.Proofs.YthkngleegefgbaaGreatDoor
open Go.RowKit
set_option linter.unusedVariables false
set_option linter.unusedSimpArgs false
set_option maxHeartbeats 16000000
set_option maxRecDepth 20000
theorem list_ofO {α β : Type} (f : β → α) (E : Nat → α) : ∀ n, (∀ i, i < n → ∃ x, E i = f x) → ∃ l : List β, l.length = n ∧ ∀ i (x : β), l[i]? = some x → E i = f x
  | 0, _ => ⟨[], rfl, fun i x h => by simp at h⟩
  | n + 1, h => by
    obtain ⟨l, hl, hi⟩ := list_ofO f E n (fun i hi => h i (by omega))
    obtain ⟨x, hx⟩ := h n (by omega)
    refine ⟨l ++ [x], by simp [hl], fun i y hy => ?_⟩
    rw [List.getElem?_append] at hy
    split at hy
    · exact hi i y hy
    · rename_i hlt
      have h1 : i - l.length = 0 := by
        rcases Nat.eq_zero_or_pos (i - l.length) with h | h
        · exact h
        · rw [List.getElem?_eq_none (by simp; omega)] at hy; cases hy
      rw [h1] at hy
      simp at hy
      subst hy
      rw [show i = n by omega]
      exact hx
abbrev leavesO : List Leaf := [.int .i64, .int .i64, .int .i64, .int .i64, .int .i64, .str]
def opL6 (p : OpR) : List Value := [.int .i64 p.1, .int .i64 p.2.m, .int .i64 p.2.a, .int .i64 p.2.b, .int .i64 p.2.c, .string p.2.tag]
theorem op6 {l : List Value} (h : OkL leavesO l) : ∃ p : OpR, p.2.tag.size ≤ maxLen ∧ l = opL6 p := by
  obtain ⟨_, _, rfl, ⟨a, rfl, wa⟩, h1⟩ := OkL_cons h
  obtain ⟨_, _, rfl, ⟨b, rfl, wb⟩, h2⟩ := OkL_cons h1
  obtain ⟨_, _, rfl, ⟨c, rfl, wc⟩, h3⟩ := OkL_cons h2
  obtain ⟨_, _, rfl, ⟨d, rfl, wd⟩, h4⟩ := OkL_cons h3
  obtain ⟨_, _, rfl, ⟨e, rfl, we⟩, h5⟩ := OkL_cons h4
  obtain ⟨_, _, rfl, ⟨f, rfl, wf⟩, h6⟩ := OkL_cons h5
  obtain rfl := OkL_nil h6
  exact ⟨(a, ⟨b, c, d, e, f⟩), wf, rfl⟩
/-- A slice that is read alone: it may be empty with any pointer. -/
def HoldsV (w : World) (v : Value) (L : List OpR) : Prop := ∃ p cap, v = .slice p L.length cap ∧ (L.length ≤ cap ∧ cap ≤ maxLen) ∧ (L = [] ∨ ∃ b off, p = some ⟨b, off, none⟩ ∧ ∀ (i : Nat) (x : OpR), L[i]? = some x → ∀ j, j < 6 → w.cell? ⟨b, off + i * 6 + j, none⟩ = (opL6 x)[j]?)
theorem sl_op {w : World} {v : Value} {n : Nat} {E : Nat → List Value} (h : Sl w v leavesO n E) : ∃ L : List OpR, L.length = n ∧ HoldsV w v L ∧ ∀ a ∈ L, a.2.tag.size ≤ maxLen := by
  obtain ⟨⟨p, cap, rfl, h1, h2, h3⟩, hok⟩ := h
  obtain ⟨L, hL, hi⟩ := list_ofO (fun x : {a : OpR // a.2.tag.size ≤ maxLen} => opL6 x.1) E n (fun i hi => by
    obtain ⟨a, ha, e⟩ := op6 (hok i hi)
    exact ⟨⟨a, ha⟩, e⟩)
  refine ⟨L.map (·.1), by simp [hL], ⟨p, cap, by simp [hL], ⟨by simp [hL, h1], h2⟩, ?_⟩, fun a ha => ?_⟩
  · rcases h3 with h3 | ⟨b, off, rfl, hb, hc⟩
    · refine .inl (List.eq_nil_of_length_eq_zero (by simp [hL, h3]))
    · refine .inr ⟨b, off, rfl, fun i x hx j hj => ?_⟩
      rw [List.getElem?_map] at hx
      cases hy : L[i]? with
      | none => rw [hy] at hx; cases hx
      | some y =>
        rw [hy] at hx
        obtain rfl : y.1 = x := Option.some.inj hx
        have hlt := (List.getElem?_eq_some_iff.1 hy).1
        have e := hi i y hy
        rw [← e]
        exact hc i (by omega) j hj
  · obtain ⟨y, _, rfl⟩ := List.mem_map.1 ha
    exact y.2
theorem HoldsV.on {w W : World} {v : Value} {L : List OpR} (h : HoldsV w v L) (hb : Below w.heap.size w W) : HoldsV W v L := by
  obtain ⟨p, cap, rfl, h0, h3⟩ := h
  refine ⟨p, cap, rfl, h0, ?_⟩
  rcases h3 with h3 | ⟨b, off, rfl, hc⟩
  · exact .inl h3
  · refine .inr ⟨b, off, rfl, fun i x hx j hj => ?_⟩
    have q := hc i x hx j hj
    obtain ⟨u, hu⟩ : ∃ u, (opL6 x)[j]? = some u := ⟨_, List.getElem?_eq_getElem (by simpa [opL6] using hj)⟩
    rw [hu] at q ⊢
    exact (hb.cell (p := ⟨b, off + i * 6 + j, none⟩) (block_lt_of_cell (a := ⟨b, off + i * 6 + j, none⟩) q)).trans q
theorem run_copyO_0 (W : World) (ty : TypeId) (d a : Option Addr) (dLen dCap sLen sCap : Nat) (hn : Nat.min sLen dLen = 0) :
    (Builtin.copy_ #[34, 34] ty #[.slice d dLen dCap, .slice a sLen sCap]).run Tryz.prog W = .ok (.int .i64 0) W := by
  have hu := Tryz.underlying34
  have hs := el_size
  cases hq : Tryz.prog.info? 23 with
  | none => simp [hq] at hs
  | some i =>
    have hl : ∀ (x : Addr), (loadCells x 0).run Tryz.prog W = .ok #[] W := fun x => by simpa using run_loadCells_list (P := Tryz.prog) W x [] (by simp)
    cases d <;> cases a <;> simp [Builtin.copy_, run_underlying hu, Builtin.lenOf, Builtin.firstCells, sizeOf, typeInfo, hq, hn, storeCells, hl, goInt]
theorem repeat0O_c (sp : Option Addr) (c n : Nat) (w : World) (hn : 1 ≤ n) (hn2 : n ≤ 10000) :
    Calls Tryz.prog 20 #[.slice sp 0 c, .int .i64 n] w fun e w' => ∃ u, e = .returned u ∧ OwnsO w.heap.size w' u [] ∧ Below w.heap.size w w' := by
  have cm := fun w => mul_c 0 n (by omega) (by omega) w
  rw [Nat.zero_mul] at cm
  have u2 : IntKind.u64.wrap (n : Int) = n := IntWalk.u64_in _ ⟨by omega, by omega⟩
  have b1 : decide ((n : Int) < 0) = false := by rw [decide_eq_false_iff_not]; omega
  obtain ⟨i0, hi, hz0, hz1, hz2⟩ := info_parts op_info
  have mk : ∀ W : World, (Instr.makeSlice 34 (.int .i64 0) (.int .i64 0)).run Tryz.prog W = .ok (.slice (some ⟨W.heap.size, 0, none⟩) 0 0) (W.alloc (.cells #[] 23)) := fun W => by
    have h := run_makeSlice (P := Tryz.prog) W 34 23 i0 _ Tryz.underlying34 hi hz0 .i64 .i64 0 0 (by omega) (Int.le_refl _) (by rw [hz1]; omega) (by rw [hz2]; omega) (by omega)
    rw [hz1] at h
    rw [h, Array.eq_empty_of_size_eq_zero (xs := madeCells _ _) (by rw [size_madeCells]; rfl)]
    rfl
  have hrun := fun W => run_copyO_0 W 3 (some ⟨w.heap.size, 0, none⟩) sp 0 0 0 c (by simp)
  have HO := Lib.hid (World.ownsRow_made (base := w.heap.size) (e := 23) (size := 6) w #[] 0 (Nat.le_refl _) (by unfold maxLen; omega) rfl)
  have HB := Lib.hid (below_alloc w (.cells #[] 23))
  have CM := Lib.hid cm
  clear cm hi hz0 hz1 hz2 
  go_enter Tryz.func20, Tryz.ntmps20
  go_wp2_with fail
  refine Calls.mono (CM.out _) ?_
  rintro e W1 ⟨rfl, hW1⟩
  subst W1
  go_wp2_with fail
  go_loop [8] (fun i => i = .int .i64 0) (fun i => 0)
  case atStart => rfl
  case round =>
    subst hrel
    go_wp2_with fail
    go_returns
    exact ⟨_, rfl, HO.out, HB.out⟩
theorem add_offO (g o j : Nat) : (⟨g, o, none⟩ : Addr).add j = ⟨g, o + j, none⟩ := by unfold Addr.add; split <;> simp_all
theorem cloneO_c (v : Value) (l : List OpR) (w : World) (hv : HoldsO w v l) (hl : l.length ≤ 100000) : Calls Tryz.prog 21 #[v] w fun e w' => ∃ u, e = .returned u ∧ OwnsO w.heap.size w' u l ∧ Below w.heap.size w w' := by
  have hsr := src_holds hv
  rcases hv with ⟨rfl, rfl⟩ | ⟨g, o, c, rfl, ha⟩
  · have hq := fun W => Lib.run_eql_slice_nil (P := Tryz.prog) W 34 _ none 0 0 0 0 Tryz.underlying34
    clear hsr
    go_enter Tryz.func21, Tryz.ntmps21
    go_wp2_with fail
    go_returns
    exact ⟨_, rfl, World.ownsRow_nil _ _ _ _, by go_grown⟩
  · obtain ⟨i0, hi, hz0, hz1, hz2⟩ := info_parts op_info
    have HI0 := Lib.hid hi
    have HZ0 := Lib.hid hz0
    have HZ1 := Lib.hid hz1
    have HZ2 := Lib.hid hz2
    have hcell : ∀ (j : Nat) u, (cellsO l)[j]? = some u → w.cell? ⟨g, o + j, none⟩ = some u := by
      obtain ⟨_, _, h⟩ := hsr
      rcases h with ⟨h1, _⟩ | ⟨g', o', c', h1, h2⟩
      · cases h1
      · injection h1 with h3 h4 h5
        injection h3 with h3
        injection h3 with h6 h7
        subst h6 h7
        exact h2
    have hq := fun W => Lib.run_eql_slice_nil (P := Tryz.prog) W 34 _ (some ⟨g, o, none⟩) l.length c 0 0 Tryz.underlying34
    clear hi hz0 hz1 hz2 ha hsr
    go_enter Tryz.func21, Tryz.ntmps21
    have hb := below_alloc w (.cells #[] 23)
    have hsrc : ∀ j u, (cellsO l)[j]? = some u → (w.alloc (.cells #[] 23)).cell? ((⟨g, o, none⟩ : Addr).add j) = some u := fun j u hj => by
      rw [add_offO]
      have q := hcell j u hj
      exact keep_cell hb (block_lt_of_cell (a := ⟨g, o + j, none⟩) q) q
    have HS := Lib.hid hsrc
    have HO := Lib.hid (World.ownsRow_made (base := w.heap.size) (e := 23) (size := 6) w #[] 0 (Nat.le_refl _) (by unfold maxLen; omega) rfl)
    have HB := Lib.hid hb
    clear hsrc hb hcell
    go_wp2_with (at_builtin; refine wpList_append_own _ rfl _ _ 34 rfl w.heap.size 23 i0 (.agg #[.int .i64 0, .int .i64 0, .int .i64 0, .int .i64 0, .int .i64 0, .string ⟨#[]⟩]) 6 56 Tryz.underlying34 HI0.out HZ0.out HZ1.out HZ2.out rfl (by decide) _ 0 [] rfl HO.out ⟨g, o, none⟩ l.length c (cellsO l) rfl (by rw [cellsO_len, Nat.mul_comm]) HS.out (cellsO_one l) (by unfold maxLen; omega) (by omega) (by simp) ?_; intro v' w9 hown' hgrow hnil; have HOWN := Lib.hid hown'; have HGR := Lib.hid hgrow; clear hown' hgrow hnil)
    go_returns
    refine ⟨_, rfl, ?_, HB.out.grown HGR.out (by simp) (fun k hk => Nat.le_of_eq (Option.some.inj (show some w.heap.size = some k from hk)))⟩
    have h9 := HOWN.out
    rw [Nat.zero_add, List.nil_append] at h9
    exact h9
end Go.Proofs.YthkngleegefgbaaGreatDoor

/- What strings among the arguments weigh (chapter 39): a bound on their sizes. -/
namespace Go.Proofs.YthkngleegefgbaaGreatDoor
open Go.ChangeShapes Go.WideShapes Go.RowKit
set_option linter.unusedVariables false
set_option linter.unusedSimpArgs false
set_option maxHeartbeats 16000000
set_option maxRecDepth 20000
theorem mem_weightsAll {H : Type} (P : Program) (e : TypeId) {n : Nat} : ∀ {l : List (DataW H)} {d : DataW H}, d ∈ l → n ∈ d.weights P e → n ∈ DataW.weightsAll P e l
  | x :: r, d, h, hn => by
    rw [DataW.weightsAll, List.mem_append]
    rcases List.mem_cons.1 h with rfl | h
    · exact .inl hn
    · exact .inr (mem_weightsAll P e h hn)
theorem mem_weightsEach {H : Type} (P : Program) {n : Nat} : ∀ {ts : List TypeId} {l : List (DataW H)} {j : Nat} {t : TypeId} {d : DataW H}, ts[j]? = some t → l[j]? = some d → n ∈ d.weights P t → n ∈ DataW.weightsEach P ts l
  | [], _, j, t, d, h, _, _ => by simp at h
  | _ :: _, [], j, t, d, _, h, _ => by simp at h
  | t0 :: ts, d0 :: l, 0, t, d, h1, h2, hn => by
    rw [DataW.weightsEach, List.mem_append]
    simp at h1 h2
    subst h1 h2
    exact .inl hn
  | t0 :: ts, d0 :: l, j + 1, t, d, h1, h2, hn => by
    rw [DataW.weightsEach, List.mem_append]
    exact .inr (mem_weightsEach P (by simpa using h1) (by simpa using h2) hn)
/-- The tags of a slice of operations are no longer than memory reaches. -/
def WtS (w : World) (v : Value) : Prop := ∀ (a : Addr) (len cap : Nat), v = .slice (some a) len cap → ∀ i, i < len → ∀ s : ByteArray, w.cell? ((a.add (i * 6)).add 5) = some (.string s) → s.size ≤ reachBytes
theorem op_fields : ∃ fs : Array Field, Tryz.prog.underlying 23 = some (.struct fs) ∧ (fs.toList.map (·.type))[5]? = some 9 ∧ ∃ f, fs[5]? = some f ∧ f.type = 9 ∧ f.offset = 5 := ⟨_, Tryz.underlying23, rfl, _, rfl, rfl, rfl⟩
theorem str_bound {H : Type} {enc : TypeId × Value → H} {w : World} {base : Nat} {spare : Nat → Bool} {held : Bool} {v : Value} {d : DataW H} {p : List MemPlace} (h : DataW.Trod enc Tryz.prog w base spare held 34 v d p)
    (hw : ∀ n ∈ d.weights Tryz.prog 34, n ≤ reachBytes) : WtS w v := by
  intro a len cap hv i hi s hs
  obtain ⟨fuel, hf⟩ := h
  rcases Go.Deep.open_slice Tryz.underlying34 hf with ⟨h1, _⟩ | ⟨a', len', cap', m, n', D, Pl, h1, hb, hlc, hcm, hm, hx0, hx⟩
  · rw [hv] at h1
    have e := (List.cons.inj h1).1
    injection e with e1 _ _
    cases e1
  · rw [hv] at h1
    have e := (List.cons.inj h1).1
    injection e with e1 e2 e3
    injection e1 with e1
    subst e1 e2 e3
    have him : i < m := by rw [hm]; split <;> omega
    obtain ⟨cs', c1, c2⟩ := hx i him
    have hcells : Tryz.prog.cellsOf 23 = 6 := by kernel_rfl
    rw [hcells] at c1
    obtain ⟨_, hlen, hcell⟩ := World.cells?_some c1
    obtain ⟨fs, hfs, hft, f, hf5, hf6, hf7⟩ := op_fields
    obtain ⟨xs, k, _, hxe, _, hxl, hfi⟩ := DataW.trod_struct hfs c2
    have h5 := hfi 5 f hf5
    have hstr : Tryz.prog.cellsOf 9 = 1 := by kernel_rfl
    rw [hf6, hf7, hstr] at h5
    have hcs5 : cs'[5]? = some (.string s) := by rw [← hcell 5 (by omega)]; exact hs
    have hd : (cs'.drop 5).take 1 = [.string s] := by
      obtain ⟨h6, h7⟩ := List.getElem?_eq_some_iff.1 hcs5
      rw [List.drop_eq_getElem_cons h6, h7]
      rfl
    rw [hd] at h5
    cases hx5 : xs[5]? with
    | none =>
      rw [List.getElem?_eq_none_iff] at hx5
      have h8 := (Array.getElem?_eq_some_iff.1 hf5).1
      omega
    | some x5 =>
      rw [hx5] at h5
      obtain ⟨s', e, hx6, _⟩ := DataW.trod_string Tryz.underlying9 h5
      injection e with e _
      injection e with e
      subst e
      have hD : D i = .agg (xs.map (·.1)) := congrArg Prod.fst hxe
      have hd0 : d = .slice ((List.range len).map D) ((List.range (m - len)).map fun j => D (len + j)) := congrArg Prod.fst hx0
      have w1 : s.data.toList.length ∈ (D i).weights Tryz.prog 23 := by
        rw [hD, DataW.weights, hfs]
        refine mem_weightsEach _ hft (d := x5.1) (by rw [List.getElem?_map, hx5]; rfl) ?_
        rw [hx6]
        simp [DataW.weights]
      have w2 := hw s.data.toList.length (by
        rw [hd0, DataW.weights, Tryz.underlying34]
        refine List.mem_cons_of_mem _ (List.mem_append.2 (.inl (mem_weightsAll _ _ (List.mem_map.2 ⟨i, List.mem_range.2 hi, rfl⟩) w1)))
      )
      rwa [len_bytes] at w2
end Go.Proofs.YthkngleegefgbaaGreatDoor
