/- A list repeated: what is filled is copied behind itself (plain). -/
import Derived.Test.YtinlfheonlpceaaGreatDoorL0a
import Derived.Test.YtinlfheonlpceaaGreatDoorL0b
import Derived.Deep.DeepCutAuto
import Derived.Lib.AppendZerosOnto
import Derived.Lib.Walk
import Derived.Laws.CopyOwn
import Derived.Laws.AppendOwn
import Derived.Shelf.RegionOpenPlain
import Derived.Laws.OwnMore
import Derived.Laws.CopyRow
import Derived.Laws.MakeOwn
namespace Go.Proofs.YtinlfheonlpceaaGreatDoor
set_option linter.unusedVariables false
set_option linter.unusedSimpArgs false
theorem rep_get {α : Type} (X : List α) : ∀ (n i : Nat), i < X.length * n → (List.replicate n X).flatten[i]? = X[i % X.length]?
  | 0, i, h => by simp at h
  | n + 1, i, h => by
    rw [List.replicate_succ, List.flatten_cons]
    by_cases hi : i < X.length
    · rw [List.getElem?_append_left hi, Nat.mod_eq_of_lt hi]
    · rw [List.getElem?_append_right (by omega), rep_get X n (i - X.length) (by rw [Nat.mul_succ] at h; omega)]
      rw [← Nat.mod_eq_sub_mod (by omega)]
theorem rep_len {α : Type} (X : List α) (n : Nat) : (List.replicate n X).flatten.length = X.length * n := by simp [Nat.mul_comm]
/-- A filled part that is as long as the list, some times, and a part of it laid behind. -/
theorem fill_step (X : List Value) (n p c : Nat) (F : List Value) (hF : F = (List.replicate n X).flatten) (cur : Array Value) (hs : cur.size = F.length) (hp : cur.toList.take p = F.take p) (hd : p % X.length = 0) (hc : c ≤ p) (hl : p + c ≤ F.length) :
    (cur.toList.take p ++ F.take c ++ cur.toList.drop (p + c)).toArray.size = F.length ∧ (cur.toList.take p ++ F.take c ++ cur.toList.drop (p + c)).toArray.toList.take (p + c) = F.take (p + c) := by
  have hcl : cur.toList.length = F.length := by simpa using hs
  have e2 : (F.take c).length = c := by rw [List.length_take]; omega
  refine ⟨by simp; omega, ?_⟩
  rw [hp]
  have e1 : (F.take p).length = p := by rw [List.length_take]; omega
  simp only []
  rw [List.take_left' (by rw [List.length_append, e1, e2])]
  apply List.ext_getElem?
  intro i
  by_cases h1 : i < p
  · rw [List.getElem?_append_left (by rw [e1]; exact h1), List.getElem?_take, if_pos h1, List.getElem?_take, if_pos (by omega)]
  · rw [List.getElem?_append_right (by rw [e1]; omega), e1, List.getElem?_take, List.getElem?_take]
    by_cases h2 : i < p + c
    · rw [if_pos (by omega), if_pos h2, hF]
      have hlen : F.length = X.length * n := by rw [hF]; exact rep_len X n
      rw [rep_get X n (i - p) (by omega), rep_get X n i (by omega)]
      congr 1
      have : i = (i - p) + p := by omega
      conv => rhs; rw [this]
      rw [Nat.add_mod, hd, Nat.add_zero, Nat.mod_mod]
    · rw [if_neg (by omega), if_neg h2]
end Go.Proofs.YtinlfheonlpceaaGreatDoor

/- slices.Repeat at elements of six cells. -/
namespace Go.Proofs.YtinlfheonlpceaaGreatDoor
open Go.RowKit
set_option linter.unusedVariables false
set_option linter.unusedSimpArgs false
set_option maxHeartbeats 16000000
set_option maxRecDepth 20000
/-- copy of elements of k cells. -/
theorem run_copy_k (P : Program) (w : World) (dT sT ty elem : TypeId) (k g o dLen dCap : Nat) (a : Addr) (sLen sCap : Nat) (cur : Array Value) (t : TypeId) (cs : List Value)
    (hu : P.underlying dT = some (.slice elem)) (hs : (P.info? elem).map (·.size) = some k)
    (hg : w.heap[g]? = some (.cells cur t (0, 0))) (hn : cs.length = Nat.min sLen dLen * k)
    (hsrc : ∀ j v, cs[j]? = some v → w.cell? (a.add j) = some v) (hfit : o + cs.length ≤ cur.size) (h1 : ∀ v ∈ cs, v.oneCell' = true) :
    (Builtin.copy_ #[dT, sT] ty #[.slice (some ⟨g, o, none⟩) dLen dCap, .slice (some a) sLen sCap]).run P w =
      .ok (goInt (Nat.min sLen dLen)) (w.setRow g (cur.toList.take o ++ cs ++ cur.toList.drop (o + cs.length)).toArray) := by
  have hl := run_loadCells_list (P := P) w a cs hsrc
  have hst := run_storeCells_at P g o t cs 0 cur w hg (by simpa using hfit) h1
  cases hq : P.info? elem with
  | none => simp [hq] at hs
  | some i =>
    have hi : i.size = k := by simpa [hq] using hs
    simp [Builtin.copy_, run_underlying hu, Builtin.lenOf, Builtin.firstCells, sizeOf, typeInfo, hq, hi, ← hn, hl, hst]
theorem mul_c (x y : Nat) (hx : x ≤ 100000) (hy : y ≤ 100000) (w : World) : Calls Tryz.prog 82 #[.int .u64 x, .int .u64 y] w fun e w' => e = .returned (.tuple #[.int .u64 0, .int .u64 ((x * y : Nat) : Int)]) ∧ w' = w := by
  have h := Tryz.bits_Mul x y (by omega) (by omega) w
  have h2 : x * y ≤ 100000 * 100000 := Nat.mul_le_mul hx hy
  refine h.mono fun e w' he => ?_
  rw [Nat.div_eq_of_lt (by omega), Nat.mod_eq_of_lt (by omega)] at he
  exact he
theorem el_size : (Tryz.prog.info? 43).map (·.size) = some 6 := by kernel_rfl
/-- A slice of N elements of six cells each. -/
def Src6 (W : World) (v : Value) (N : Nat) (cs : List Value) : Prop := cs.length = 6 * N ∧ (∀ u ∈ cs, u.oneCell' = true) ∧ ((v = .slice none 0 0 ∧ N = 0) ∨ ∃ g o c, v = .slice (some ⟨g, o, none⟩) N c ∧ ∀ (j : Nat) u, cs[j]? = some u → W.cell? ⟨g, o + j, none⟩ = some u)
theorem add_at (g o j : Nat) : (⟨g, o, none⟩ : Addr).add j = ⟨g, o + j, none⟩ := by unfold Addr.add; split <;> simp_all
/-- copy as a run, over a row known whole. -/
theorem copy_run6 (W : World) (ty : TypeId) (dp : Addr) (sp : Option Addr) (dLen dCap sLen sCap g off : Nat) (cur : Array Value) (t : TypeId) (hg : Row W g cur t) (cs : List Value) (hn : cs.length = Nat.min sLen dLen * 6) (hdp : dp = ⟨g, off, none⟩)
    (hsrc : (sp = none ∧ sLen = 0 ∧ sCap = 0) ∨ ∃ q p, sp = some ⟨q, p, none⟩ ∧ ∀ j v, cs[j]? = some v → W.cell? ⟨q, p + j, none⟩ = some v)
    (hfit : off + cs.length ≤ cur.size) (h1 : ∀ v ∈ cs, v.oneCell' = true) (B : Nat) (w0 : World) (hb : Below B w0 W) (hBg : B ≤ g) :
    ∃ W', (Builtin.copy_ #[26, 26] ty #[.slice (some dp) dLen dCap, .slice sp sLen sCap]).run Tryz.prog W = .ok (goInt (Nat.min sLen dLen)) W' ∧ Row W' g (cur.toList.take off ++ cs ++ cur.toList.drop (off + cs.length)).toArray t ∧ Below B w0 W' := by
  subst hdp
  rcases hsrc with ⟨rfl, rfl, rfl⟩ | ⟨q, p, rfl, hs⟩
  · have h0 : cs = [] := List.eq_nil_of_length_eq_zero (by rw [hn]; simp)
    subst h0
    have hrun := run_copy_nil Tryz.prog W 26 26 ty 43 ⟨g, off, none⟩ dLen dCap Tryz.underlying26 (by rw [el_size]; rfl)
    refine ⟨W, ?_, by simpa using hg, hb⟩
    rw [hrun]
    simp
  · have hrun := run_copy_k Tryz.prog W 26 26 ty 43 6 g off dLen dCap ⟨q, p, none⟩ sLen sCap cur t cs Tryz.underlying26 el_size hg.eq hn (fun j v hv => by rw [add_at]; exact hs j v hv) hfit h1
    refine ⟨_, hrun, ⟨?_⟩, below_setRow hb hBg _⟩
    exact setRow_heap W g _ _ t _ hg.eq
theorem rep_one {cs : List Value} (n : Nat) (h : ∀ u ∈ cs, u.oneCell' = true) : ∀ u ∈ (List.replicate n cs).flatten, u.oneCell' = true := by
  intro u hu
  obtain ⟨l, hl, hul⟩ := List.mem_flatten.1 hu
  rw [List.eq_of_mem_replicate hl] at hul
  exact h u hul
theorem rep6_c (v : Value) (cs : List Value) (N n : Nat) (w : World) (hs : Src6 w v N cs) (hN : N ≤ 10000) (hn : 1 ≤ n) (hn2 : n ≤ 10000) (hp : N * n ≤ 20000) :
    Calls Tryz.prog 47 #[v, .int .i64 n] w fun e w' => e = .returned (.slice (some ⟨w.heap.size, 0, none⟩) (N * n) (N * n)) ∧ Row w' w.heap.size (List.replicate n cs).flatten.toArray 43 ∧ Below w.heap.size w w' := by
  obtain ⟨hlen, hone, hform⟩ := hs
  have hvf : ∃ sp c, v = .slice sp N c := by
    rcases hform with ⟨h1, h2⟩ | ⟨g, o, c, h1, _⟩
    · exact ⟨none, 0, by rw [h1, h2]⟩
    · exact ⟨_, c, h1⟩
  obtain ⟨sp, c, hvs⟩ := hvf
  have cm := fun w => mul_c N n (by omega) (by omega) w
  have u1 : IntKind.u64.wrap (N : Int) = N := IntWalk.u64_in _ ⟨by omega, by omega⟩
  have u2 : IntKind.u64.wrap (n : Int) = n := IntWalk.u64_in _ ⟨by omega, by omega⟩
  have hNT : N ≤ N * n := Nat.le_mul_of_pos_right _ hn
  have hFl : (List.replicate n cs).flatten.length = 6 * (N * n) := by rw [rep_len, hlen, Nat.mul_assoc]
  have hdvd : (N * n) % N = 0 := Nat.mul_mod_right _ _
  obtain ⟨F, hF⟩ : ∃ F, F = (List.replicate n cs).flatten := ⟨_, rfl⟩
  have hF1 : ∀ u ∈ F, u.oneCell' = true := by rw [hF]; exact rep_one n hone
  rw [← hF] at hFl ⊢
  have hFt : F.take (6 * N) = cs := by
    obtain ⟨k, rfl⟩ : ∃ k, n = k + 1 := ⟨n - 1, by omega⟩
    rw [hF, List.replicate_succ, List.flatten_cons, ← hlen, List.take_left' rfl]
  obtain ⟨T, hT⟩ : ∃ T, N * n = T := ⟨_, rfl⟩
  rw [hT] at cm hp hNT hFl hdvd ⊢
  have HN1 := Lib.hid (show 0 < T → 1 ≤ N from fun h => by rcases Nat.eq_zero_or_pos N with h0 | h0; (rw [h0, Nat.zero_mul] at hT; omega); exact h0)
  have u3 : IntKind.i64.wrap (T : Int) = T := IntWalk.i64_in _ ⟨by omega, by omega⟩
  have b1 : decide ((n : Int) < 0) = false := by rw [decide_eq_false_iff_not]; omega
  have b2 : decide (9223372036854775807 < (T : Int)) = false := by rw [decide_eq_false_iff_not]; omega
  obtain ⟨i0, hi, hz0, hz1, hz2⟩ := info_parts at_info
  obtain ⟨CS, hCS⟩ : ∃ CS, CS = madeCells #[.int .i64 0, .int .i64 0, .int .i64 0, .int .u32 0, .int .i64 0, .int .i64 0] (T * 6) := ⟨_, rfl⟩
  have hCz : CS.size = T * 6 := by rw [hCS, size_madeCells]
  have mk : ∀ W : World, (Instr.makeSlice 26 (.int .i64 (T : Int)) (.int .i64 (T : Int))).run Tryz.prog W = .ok (.slice (some ⟨W.heap.size, 0, none⟩) T T) (W.alloc (.cells CS 43)) := fun W => by
    have h := run_makeSlice (P := Tryz.prog) W 26 43 i0 _ Tryz.underlying26 hi hz0 .i64 .i64 (T : Int) (T : Int) (by omega) (Int.le_refl _) (by rw [hz1]; omega) (by rw [hz2]; omega) (by omega)
    rw [hz1, Int.toNat_natCast] at h
    rw [h, hCS]
    rfl
  have hmin : Nat.min N T = N := Nat.min_eq_left hNT
  obtain ⟨w2, hrun, hrow, hB2⟩ := copy_run6 (w.alloc (.cells CS 43)) 3 ⟨w.heap.size, 0, none⟩ sp T T N c w.heap.size 0 CS 43 Row.new cs (by rw [hlen, hmin, Nat.mul_comm]) rfl (by
      rcases hform with ⟨h1, h2⟩ | ⟨g, o, c', h1, h2⟩
      · rw [h1] at hvs
        injection hvs with h3 h4 h5
        exact .inl ⟨h3.symm, h4.symm, h5.symm⟩
      · rw [h1] at hvs
        injection hvs with h3 h4 h5
        refine .inr ⟨g, o, h3.symm, fun j u hu => ?_⟩
        have q := h2 j u hu
        exact keep_cell (below_alloc w _) (block_lt_of_cell (a := ⟨g, o + j, none⟩) q) q) (by rw [hlen, hCz]; omega) hone w.heap.size w ((Below.refl _ w).alloc (Nat.le_refl _) _) (Nat.le_refl _)
  rw [hmin] at hrun
  have e2 : goInt N = .int .i64 (N : Int) := rfl
  rw [e2] at hrun
  obtain ⟨cur0, hcur0⟩ : ∃ cur0, cur0 = (CS.toList.take 0 ++ cs ++ CS.toList.drop (0 + cs.length)).toArray := ⟨_, rfl⟩
  rw [← hcur0] at hrow
  have hz : cur0.size = 6 * T := by
    rw [hcur0]
    simp [hlen, hCz]
    omega
  have ht0 : cur0.toList.take (6 * N) = F.take (6 * N) := by
    rw [hFt, hcur0]
    simp only [List.take_zero, List.nil_append]
    rw [← hlen, List.take_left' rfl]
  have HR0 := Lib.hid hrow
  have HT0 := Lib.hid ht0
  have HZ := Lib.hid hz
  have CM := Lib.hid cm
  have HF := Lib.hid hF
  have HFL := Lib.hid hFl
  have HF1 := Lib.hid hF1
  have HDV := Lib.hid hdvd
  have HL := Lib.hid hlen
  clear hrow ht0 hz cm hF hFl hF1 hdvd hlen hform hone hFt hCz hCS hi hz0 hz1 hz2 hcur0 e2 hmin hT
  subst hvs
  go_enter Tryz.func47, Tryz.ntmps47
  go_wp2_with fail
  refine Calls.mono (CM.out _) ?_
  rintro e W1 ⟨rfl, hW1⟩
  subst W1
  go_wp2_with fail
  clear mk
  go_loopw [8] (fun i wr => ∃ (m : Nat) (cur : Array Value), N ≤ m ∧ m ≤ T ∧ i = .int .i64 m ∧ Hid (Row wr w.heap.size cur 43) ∧ Hid (cur.size = 6 * T) ∧ Hid (cur.toList.take (6 * m) = F.take (6 * m)) ∧ Hid (m % N = 0) ∧ Below w.heap.size w wr) (fun i _ => T - (intOf i).toNat)
  case atStart => exact ⟨N, cur0, Nat.le_refl _, hNT, rfl, HR0, HZ, HT0, Lib.hid (Nat.mod_self N), hB2⟩
  case round =>
    obtain ⟨m, cur, hk0, hk, rfl, hR, hS, hTk, hDv, hB⟩ := hrel
    clear hrun HR0 hB2 HT0 HZ
    by_cases hlt : m < T
    · have hd : decide ((m : Int) < (T : Int)) = true := decide_eq_true (by omega)
      have hne : ¬ T = m := by omega
      obtain ⟨q, hq⟩ : ∃ q, q = min m (T - m) := ⟨_, rfl⟩
      have hql : q ≤ T := by omega
      have hFtl : (F.take (6 * q)).length = 6 * q := by rw [List.length_take, HFL.out]; omega
      obtain ⟨w3, hrun, hrow, hB3⟩ := copy_run6 wr.drew 3 ⟨w.heap.size, m * 6, none⟩ (some ⟨w.heap.size, 0, none⟩) (T - m) (T - m) m T w.heap.size (6 * m) cur 43 ⟨hR.out.eq⟩ (F.take (6 * q)) (by
          rw [hFtl, show Nat.min m (T - m) = q from hq.symm, Nat.mul_comm]) (by rw [Nat.mul_comm]) (.inr ⟨_, 0, rfl, fun j v hv => by
          rw [Nat.zero_add]
          have hj : j < 6 * q := by have := (List.getElem?_eq_some_iff.1 hv).1; rwa [hFtl] at this
          refine (hR.out.cell j).trans ?_
          have h2 := congrArg (fun l => l[j]?) hTk.out
          simp only [List.getElem?_take] at h2 hv
          rw [if_pos (by omega), if_pos (by omega)] at h2
          rw [if_pos hj] at hv
          rw [← hv, ← h2, Array.getElem?_toList]⟩) (by rw [hFtl, hS.out]; omega) (fun v hv => HF1.out v (List.mem_of_mem_take hv)) w.heap.size w hB.drew (Nat.le_refl _)
      rw [show Nat.min m (T - m) = q from hq.symm] at hrun
      have hcs : cs.length = 6 * N := HL.out
      obtain ⟨f1, f2⟩ := fill_step cs n (6 * m) (6 * q) F HF.out cur (by rw [hS.out, HFL.out]) hTk.out (by rw [hcs, Nat.mul_mod_mul_left, hDv.out]) (by omega) (by rw [HFL.out]; omega)
      rw [hFtl] at hrow
      obtain ⟨cur2, hc2⟩ : ∃ cur2, cur2 = (cur.toList.take (6 * m) ++ F.take (6 * q) ++ cur.toList.drop (6 * m + 6 * q)).toArray := ⟨_, rfl⟩
      rw [← hc2] at f1 f2 hrow
      have e1 : IntKind.i64.wrap ((m : Int) + (q : Int)) = ((m + q : Nat) : Int) := by rw [IntKind.wrap_i64]; omega
      have e2 : goInt q = .int .i64 (q : Int) := rfl
      rw [e2] at hrun
      have hdv2 : (m + q) % N = 0 := by
        by_cases h2 : m ≤ T - m
        · rw [hq, Nat.min_eq_left h2, Nat.add_mod, hDv.out]
          simp
        · rw [hq, Nat.min_eq_right (by omega), show m + (T - m) = T by omega]
          exact HDV.out
      have HRow := Lib.hid hrow
      have HM2 := Lib.hid hq
      have HF2 := Lib.hid f2
      have HS2 := Lib.hid (show cur2.size = 6 * T by rw [f1, HFL.out])
      have HD2 := Lib.hid hdv2
      clear hR hq hrow e2 f1 f2 hc2 hdv2 hTk hS hDv hFtl hcs
      go_wp2_with fail
      refine wp_region_held_drew (S := fun _ => True) (by kernel_rfl) trivial (fun hHeld => ?_)
      refine' wpAnyH_take (i := 0) (oi := _) (v := _) ?_ (by kernel_rfl) (by kernel_rfl) (by kernel_rfl) ?_ (Or.inl ⟨?_, ?_⟩) (by assumption) ?_
      rotate_left 2
      · (simp only [List.getElem?_toArray, List.getElem?_cons_succ, List.getElem?_cons_zero]; rfl)
      · first | exact fun _ _ _ h => h | exact fun _ _ _ h => nomatch h.1
      · rfl
      · (intro W hSW; (try dsimp only at hSW); go_split_ands; first | (go_simp; done) | (go_simp; with_reducible rfl))
      try simp only [Act.put, List.setIfInBounds_toArray, List.set_cons_zero, List.set_cons_succ]
      refine' wpAnyH_take (i := 1) (oi := _) (v := _) ?_ (by kernel_rfl) (by kernel_rfl) (by kernel_rfl) ?_ (Or.inl ⟨?_, ?_⟩) (by assumption) ?_
      rotate_left 2
      · (simp only [List.getElem?_toArray, List.getElem?_cons_succ, List.getElem?_cons_zero]; rfl)
      · first | exact fun _ _ _ h => h | exact fun _ _ _ h => nomatch h.1
      · rfl
      · (intro W hSW; (try dsimp only at hSW); go_split_ands; first | (go_simp; done) | (go_simp; with_reducible rfl))
      try simp only [Act.put, List.setIfInBounds_toArray, List.set_cons_zero, List.set_cons_succ]
      refine' wpAnyH_take (i := 2) (oi := _) (v := _) ?_ (by kernel_rfl) (by kernel_rfl) (by kernel_rfl) ?_ (Or.inl ⟨?_, ?_⟩) (by assumption) ?_
      rotate_left 2
      · (simp only [List.getElem?_toArray, List.getElem?_cons_succ, List.getElem?_cons_zero]; rfl)
      · first | exact fun _ _ _ h => h | exact fun _ _ _ h => nomatch h.1
      · rfl
      · (intro W hSW; (try dsimp only at hSW); go_split_ands; first | (go_simp; done) | (go_simp; with_reducible rfl))
      try simp only [Act.put, List.setIfInBounds_toArray, List.set_cons_zero, List.set_cons_succ]
      refine' wpAnyH_take (i := 3) (oi := _) (v := _) ?_ (by kernel_rfl) (by kernel_rfl) (by kernel_rfl) ?_ (Or.inl ⟨?_, ?_⟩) (by assumption) ?_
      rotate_left 2
      · (simp only [List.getElem?_toArray, List.getElem?_cons_succ, List.getElem?_cons_zero]; rfl)
      · first | exact fun _ _ _ h => h | exact fun _ _ _ h => nomatch h.1
      · rfl
      · (intro W hSW; (try dsimp only at hSW); go_split_ands; first | (go_simp; done) | (go_simp; with_reducible rfl))
      try simp only [Act.put, List.setIfInBounds_toArray, List.set_cons_zero, List.set_cons_succ]
      refine' wpAnyH_take (i := 4) (oi := _) (v := _) ?_ (by kernel_rfl) (by kernel_rfl) (by kernel_rfl) ?_ (Or.inl ⟨?_, ?_⟩) (by assumption) ?_
      rotate_left 2
      · (simp only [List.getElem?_toArray, List.getElem?_cons_succ, List.getElem?_cons_zero]; rfl)
      · first | exact fun _ _ _ h => h | exact fun _ _ _ h => nomatch h.1
      · rfl
      · (intro W hSW; (try dsimp only at hSW); go_split_ands; first | (go_simp; done) | (go_simp; with_reducible rfl))
      try simp only [Act.put, List.setIfInBounds_toArray, List.set_cons_zero, List.set_cons_succ]
      refine' wpAnyH_take (i := 5) (oi := _) (v := _) ?_ (by kernel_rfl) (by kernel_rfl) (by kernel_rfl) ?_ (Or.inl ⟨?_, ?_⟩) (by assumption) ?_
      rotate_left 2
      · (simp only [List.getElem?_toArray, List.getElem?_cons_succ, List.getElem?_cons_zero]; rfl)
      · first | exact fun _ _ _ h => h | exact fun _ _ _ h => nomatch h.1
      · rfl
      · (intro W hSW; (try dsimp only at hSW); go_split_ands; first | (go_simp; done) | (go_simp; with_reducible rfl))
      try simp only [Act.put, List.setIfInBounds_toArray, List.set_cons_zero, List.set_cons_succ]
      refine' wpAnyH_take (i := 6) (oi := _) (v := _) ?_ (by kernel_rfl) (by kernel_rfl) (by kernel_rfl) ?_ (Or.inl ⟨?_, ?_⟩) (by assumption) ?_
      rotate_left 2
      · (simp only [List.getElem?_toArray, List.getElem?_cons_succ, List.getElem?_cons_zero]; rfl)
      · first | exact fun _ _ _ h => h | exact fun _ _ _ h => nomatch h.1
      · rfl
      · (intro W hSW; (try dsimp only at hSW); go_split_ands; first | (go_simp; done) | (go_simp; with_reducible rfl))
      try simp only [Act.put, List.setIfInBounds_toArray, List.set_cons_zero, List.set_cons_succ]
      refine wpAnyH_ready (rs := [7]) (by kernel_rfl) (by simp) ?_
      refine' AllReadyH.cons (o := _) ?_ (fun K hK => ?_) AllReadyH.nil
      rotate_left 1
      · (simp only [List.getElem?_toArray, List.getElem?_cons_succ, List.getElem?_cons_zero]; rfl)
      go_simp
      refine hK.out _ _ trivial (fun hHeld => ?_)
      clear hK K
      refine' wpAnyH_take (i := 8) (oi := _) (v := _) ?_ (by kernel_rfl) (by kernel_rfl) (by kernel_rfl) ?_ (Or.inl ⟨?_, ?_⟩) (by assumption) ?_
      rotate_left 2
      · (simp only [List.getElem?_toArray, List.getElem?_cons_succ, List.getElem?_cons_zero]; rfl)
      · first | exact fun _ _ _ h => h | exact fun _ _ _ h => nomatch h.1
      · rfl
      · (intro W hSW; (try dsimp only at hSW); go_split_ands; first | (go_simp; done) | (go_simp; with_reducible rfl))
      try simp only [Act.put, List.setIfInBounds_toArray, List.set_cons_zero, List.set_cons_succ]
      refine' wpAnyH_take (i := 9) (oi := _) (v := _) ?_ (by kernel_rfl) (by kernel_rfl) (by kernel_rfl) ?_ (Or.inl ⟨?_, ?_⟩) (by assumption) ?_
      rotate_left 2
      · (simp only [List.getElem?_toArray, List.getElem?_cons_succ, List.getElem?_cons_zero]; rfl)
      · first | exact fun _ _ _ h => h | exact fun _ _ _ h => nomatch h.1
      · rfl
      · (intro W hSW; (try dsimp only at hSW); go_split_ands; first | (go_simp; done) | (go_simp; with_reducible rfl))
      try simp only [Act.put, List.setIfInBounds_toArray, List.set_cons_zero, List.set_cons_succ]
      refine wpAnyH_done (by kernel_rfl) ?_ _
      go_wp2_with fail
      have hm := HM2.out
      have hN1 := HN1.out (by omega)
      refine ⟨⟨m + q, cur2, by omega, by omega, by simp, HRow, HS2, by rw [Nat.mul_add]; exact HF2, HD2, hB3⟩, by simp [intOf]; omega⟩
    · obtain rfl : m = T := by omega
      have HR := hR
      have HT2 := hTk
      clear hR hTk
      go_wp2_with fail
      go_ret
      have h := HT2.out
      rw [List.take_of_length_le (by rw [Array.length_toList, hS.out]; exact Nat.le_refl _), List.take_of_length_le (by rw [HFL.out]; exact Nat.le_refl _)] at h
      refine ⟨rfl, ?_, hB⟩
      rw [← h]
      exact HR.out
theorem cellsA_rep (l : List AtR) (n : Nat) : (List.replicate n (cellsA l)).flatten = cellsA (List.replicate n l).flatten := by
  induction n with
  | zero => rfl
  | succ n ih =>
    rw [List.replicate_succ, List.flatten_cons, ih, List.replicate_succ, List.flatten_cons]
    simp [cellsA]
theorem src_holdsA {W : World} {v : Value} {l : List AtR} (h : HoldsA W v l) : Src6 W v l.length (cellsA l) := by
  refine ⟨cellsA_len l, cellsA_one l, ?_⟩
  rcases h with ⟨h1, h2⟩ | ⟨g, o, c, h1, h2⟩
  · exact .inl ⟨h1, by rw [h2]; rfl⟩
  · exact .inr ⟨g, o, c, h1, holdsA_cell h2⟩
theorem repeatA_c (v : Value) (l : List AtR) (n : Nat) (w : World) (hv : HoldsA w v l) (hN : l.length ≤ 10000) (hn : 1 ≤ n) (hn2 : n ≤ 10000) (hp : l.length * n ≤ 20000) :
    Calls Tryz.prog 47 #[v, .int .i64 n] w fun e w' => ∃ u, e = .returned u ∧ OwnsA w.heap.size w' u (List.replicate n l).flatten ∧ Below w.heap.size w w' := by
  refine Calls.mono (rep6_c v (cellsA l) l.length n w (src_holdsA hv) hN hn hn2 hp) ?_
  rintro e w' ⟨rfl, hr, hb⟩
  have hlen : (List.replicate n l).flatten.length = l.length * n := rep_len l n
  refine ⟨_, rfl, ⟨by rw [cellsA_len, Nat.mul_comm], .inr ⟨w.heap.size, l.length * n, _, by rw [hlen], Nat.le_refl _, hr.eq, by rw [hlen]; exact Nat.le_refl _, by unfold maxLen; omega, ?_, ?_⟩⟩, hb⟩
  · rw [List.size_toArray, rep_len, cellsA_len]
    rw [Nat.mul_assoc, Nat.mul_comm]
  · rw [hlen, cellsA_rep, List.take_of_length_le (by rw [List.toList_toArray, cellsA_len, hlen]; omega)]
end Go.Proofs.YtinlfheonlpceaaGreatDoor
