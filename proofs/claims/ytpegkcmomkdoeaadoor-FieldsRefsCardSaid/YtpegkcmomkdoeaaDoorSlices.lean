/- slices.Repeat of a row of one string, slices.Grow of nil, slices.Concat of two rows of strings. -/
import Derived.Test.YtpegkcmomkdoeaaDoorRow
import Derived.Lib.AppendZerosOnto
import Derived.Lib.Walk
import Derived.Laws.CopyOwn
import Derived.Laws.AppendOwn
import Derived.Shelf.RegionOpenPlain
import Derived.Laws.OwnMore
namespace Go.Proofs.YtpegkcmomkdoeaaDoor
open Go.RowKit
open Go.Lib (run_append_grow_zeros)
set_option linter.unusedVariables false
set_option linter.unusedSimpArgs false

theorem strS_info : (Tryd.prog.info? 9).map (fun i => (i.zero, i.size, i.bytes)) = some (some (.string ⟨#[]⟩), 1, 16) := by kernel_rfl
theorem strS_size : (Tryd.prog.info? 9).map (·.size) = some 1 := by kernel_rfl
def zstr : Value := .string ⟨#[]⟩
theorem made_str (n : Nat) : madeCells #[Value.string ⟨#[]⟩] n = (List.replicate n (Value.string ⟨#[]⟩)).toArray := by
  rw [← toList_madeCells_one]
theorem splice_rep {α : Type} (x z : α) (n k t : Nat) (h : k + t ≤ n) : splice (List.replicate k x ++ List.replicate (n - k) z) k (List.replicate t x) = List.replicate (k + t) x ++ List.replicate (n - (k + t)) z := by
  unfold splice
  rw [List.take_append_of_le_length (by simp), List.take_of_length_le (by simp), List.drop_append]
  simp [List.drop_replicate, Nat.sub_sub]
  rw [← List.append_assoc, List.replicate_append_replicate]
/-- copy as a run: the row of the target is known whole. -/
theorem copy_run (W : World) (dT sT ty elem : TypeId) (hu : Tryd.prog.underlying dT = some (.slice elem)) (hsz : (Tryd.prog.info? elem).map (·.size) = some 1) (dp sp : Option Addr) (dLen dCap sLen sCap : Nat)
    (g off : Nat) (cur : List Value) (t : TypeId) (hg : Row W g cur.toArray t) (cs : List Value) (hn : cs.length = Nat.min sLen dLen)
    (hpos : 0 < cs.length → dp = some ⟨g, off, none⟩ ∧ ∃ ad, sp = some ad ∧ ∀ j v, cs[j]? = some v → W.cell? (ad.add j) = some v)
    (hfit : off + cs.length ≤ cur.length) (h1 : ∀ v ∈ cs, v.oneCell' = true) (B : Nat) (w0 : World) (hb : Below B w0 W) (hBg : B ≤ g) :
    ∃ W', (Builtin.copy_ #[dT, sT] ty #[.slice dp dLen dCap, .slice sp sLen sCap]).run Tryd.prog W = .ok (goInt cs.length) W' ∧ Row W' g (splice cur off cs).toArray t ∧ Below B w0 W' := by
  by_cases h0 : cs.length = 0
  · obtain rfl : cs = [] := List.eq_nil_of_length_eq_zero h0
    exact ⟨W, run_copy_none (P := Tryd.prog) W dT sT ty elem dp sp dLen dCap sLen sCap hu hsz (by simpa using hn.symm), by simpa [splice] using hg, hb⟩
  · obtain ⟨rfl, ad, rfl, hsrc⟩ := hpos (by omega)
    have hrun := run_copy_row (P := Tryd.prog) W dT sT ty elem g off dLen dCap ad sLen sCap cur.toArray t cs hu hsz hg.eq hn hsrc (by simpa using hfit) h1
    refine ⟨_, hrun, ⟨?_⟩, below_setRow hb hBg _⟩
    simpa [splice] using setRow_heap W g _ _ t _ hg.eq
set_option maxHeartbeats 4000000 in
set_option maxRecDepth 20000 in
theorem repeat_c (x : ByteArray) (X o c n : Nat) (w : World) (hX : X < w.heap.size) (hx : w.cell? ⟨X, o, none⟩ = some (.string x)) (hn : n ≤ 100000) :
    Calls Tryd.prog 34 #[.slice (some ⟨X, o, none⟩) 1 c, .int .i64 n] w fun e w' => e = .returned (.slice (some ⟨w.heap.size, 0, none⟩) n n) ∧ Below w.heap.size w w' ∧ Row w' w.heap.size (List.replicate n (Value.string x)).toArray 9 := by
  have hm := Tryd.bits_Mul 1 n (by omega) (by omega)
  have e1 : (1 * n / 18446744073709551616 : Nat) = 0 := by omega
  have e2 : (1 * n % 18446744073709551616 : Nat) = n := by omega
  rw [e1, e2] at hm
  have HM := Lib.hid hm
  have b1 : decide ((n : Int) < 0) = false := by rw [decide_eq_false_iff_not]; omega
  have b2 : decide (9223372036854775807 < (n : Int)) = false := by rw [decide_eq_false_iff_not]; omega
  obtain ⟨i0, hi, hz0, hz1, hz2⟩ := info_parts strS_info
  obtain ⟨Z, hZ⟩ : ∃ Z : List Value, Z = List.replicate n (Value.string ⟨#[]⟩) := ⟨_, rfl⟩
  have hmk : ∀ W : World, (Instr.makeSlice 61 (.int .i64 (n : Int)) (.int .i64 (n : Int))).run Tryd.prog W = .ok (.slice (some ⟨W.heap.size, 0, none⟩) n n) (W.alloc (.cells Z.toArray 9)) := fun W => by
    have h := run_makeSlice (P := Tryd.prog) (w := W) 61 9 i0 (.string ⟨#[]⟩) Tryd.underlying61 hi hz0 .i64 .i64 n n (by omega) (by omega) (by rw [hz1]; omega) (by rw [hz2]; omega) (by omega)
    rw [hz1, Int.toNat_natCast, Nat.mul_one] at h
    rw [h, hZ, ← made_str]
    rfl
  have HX := Lib.hid hx
  have HZ := Lib.hid hZ
  have hZl : Z.length = n := by rw [hZ]; simp
  have HZL := Lib.hid hZl
  clear hm e1 e2 hi hz0 hz1 hz2 hx hZ hZl
  obtain ⟨first, hfirst⟩ : ∃ first : List Value, first = List.replicate (min 1 n) (Value.string x) := ⟨_, rfl⟩
  have HF := Lib.hid hfirst
  have hfl : first.length = min 1 n := by rw [hfirst]; simp
  have HFL := Lib.hid hfl
  have h1 : ∀ v ∈ first, v.oneCell' = true := by
    intro v hv
    rw [hfirst] at hv
    rw [List.eq_of_mem_replicate hv]
    rfl
  have H1 := Lib.hid h1
  clear hfirst hfl h1
  have hcells : ∀ j v, first[j]? = some v → (w.alloc (.cells Z.toArray 9)).cell? ((⟨X, o, none⟩ : Addr).add j) = some v := by
    intro j v hv
    rw [HF.out] at hv
    have hj : j < min 1 n := by
      rcases Nat.lt_or_ge j (min 1 n) with h | h
      · exact h
      · rw [List.getElem?_eq_none (by simpa using h)] at hv; cases hv
    obtain rfl : j = 0 := by omega
    rw [List.getElem?_replicate, if_pos hj] at hv
    injection hv with hv
    rw [← hv, show (⟨X, o, none⟩ : Addr).add 0 = ⟨X, o, none⟩ from rfl]
    exact keep_cell (below_alloc w _) hX HX.out
  obtain ⟨w2, hrun, hrow, hB2⟩ := copy_run (w.alloc (.cells Z.toArray 9)) 61 61 3 9 Tryd.underlying61 strS_size (some ⟨w.heap.size, 0, none⟩) (some ⟨X, o, none⟩) n n 1 c w.heap.size 0 Z 9 Row.new first HFL.out (fun _ => ⟨rfl, _, rfl, hcells⟩) (by rw [HFL.out, HZL.out]; omega) H1.out w.heap.size w ((Below.refl _ w).alloc (Nat.le_refl _) _) (Nat.le_refl _)
  rw [HFL.out] at hrun
  have hrow0 : Row w2 w.heap.size (List.replicate (min 1 n) (Value.string x) ++ List.replicate (n - min 1 n) (Value.string ⟨#[]⟩)).toArray 9 := by
    rw [HF.out, HZ.out] at hrow
    have := splice_rep (Value.string x) (Value.string ⟨#[]⟩) n 0 (min 1 n) (by omega)
    simp only [List.replicate_zero, List.nil_append, Nat.sub_zero, Nat.zero_add] at this
    rw [this] at hrow
    exact hrow
  have HR0 := Lib.hid hrow0
  clear hrow hrow0 hcells HZ HF HFL HZL H1
  go_enter Tryd.func34, Tryd.ntmps34
  go_wp2_with fail
  refine (HM.out _).mono ?_
  rintro e w1 ⟨rfl, hw⟩
  have hw' := hw.symm
  subst hw'
  go_wp2_with fail
  go_loopw [8] (fun i wr => ∃ k : Nat, min 1 n ≤ k ∧ k ≤ n ∧ i = .int .i64 k ∧ Row wr w.heap.size (List.replicate k (Value.string x) ++ List.replicate (n - k) (Value.string ⟨#[]⟩)).toArray 9 ∧ Below w.heap.size w wr) (fun i _ => n - (intOf i).toNat)
  case atStart => exact ⟨min 1 n, by omega, by omega, rfl, HR0.out, hB2⟩
  case round =>
    obtain ⟨k, hk0, hk, rfl, hR, hB⟩ := hrel
    clear hrun HR0 hB2
    by_cases hlt : k < n
    · have hd : decide ((k : Int) < (n : Int)) = true := decide_eq_true (by omega)
      have hne : ¬ n = k := by omega
      have hk1 : 1 ≤ k := by omega
      obtain ⟨m, hm⟩ : ∃ m, m = min k (n - k) := ⟨_, rfl⟩
      obtain ⟨w3, hrun, hrow, hB3⟩ := copy_run wr.drew 61 61 3 9 Tryd.underlying61 strS_size (some ⟨w.heap.size, k, none⟩) (some ⟨w.heap.size, 0, none⟩) (n - k) (n - k) k n w.heap.size k _ 9 ⟨hR.eq⟩ (List.replicate m (Value.string x)) (by simp; omega) (fun _ => ⟨rfl, _, rfl, fun j v hv => by
          rw [show (⟨w.heap.size, 0, none⟩ : Addr).add j = ⟨w.heap.size, j, none⟩ by simp [Addr.add]; omega]
          rw [List.getElem?_replicate] at hv
          split at hv
          · rename_i hj
            refine (hR.cell j).trans ?_
            rw [List.getElem?_toArray, List.getElem?_append_left (by simp; omega), List.getElem?_replicate, if_pos (by omega)]
            exact hv
          · cases hv⟩) (by simp; omega) (fun v hv => by rw [List.eq_of_mem_replicate hv]; rfl) w.heap.size w hB.drew (Nat.le_refl _)
      rw [splice_rep _ _ n k m (by omega)] at hrow
      simp only [List.length_replicate] at hrun
      have e1 : IntKind.i64.wrap ((k : Int) + (m : Int)) = ((k + m : Nat) : Int) := by rw [IntKind.wrap_i64]; omega
      have e2 : goInt m = .int .i64 (m : Int) := rfl
      rw [e2] at hrun
      have HRow := Lib.hid hrow
      have HM2 := Lib.hid hm
      clear hR hm hrow e2
      go_wp2_with fail
      refine wp_region_held_drew (S := fun _ => True) (by kernel_rfl) trivial (fun hHeld => ?_)
      refine' wpAnyH_take (i := 0) (oi := _) (v := _) ?_ (by kernel_rfl) (by kernel_rfl) (by kernel_rfl) ?_ (Or.inl ⟨?_, ?_⟩) (by assumption) ?_
      rotate_left 2
      · (simp only [List.getElem?_toArray, List.getElem?_cons_succ, List.getElem?_cons_zero]; rfl)
      · first | exact fun _ _ _ h => h | exact fun _ _ _ h => nomatch h.1
      · rfl
      · (intro W hSW; (try dsimp only at hSW); go_split_ands; first | (go_simp; done) | (go_simp; with_reducible rfl))
      try simp only [Act.put, List.setIfInBounds_toArray, List.set_cons_zero, List.set_cons_succ]
      refine' wpAnyH_take (i := 1) (oi := _) (v := _) ?_ (by kernel_rfl) (by kernel_rfl) (by kernel_rfl) ?_ (Or.inl ⟨?_, ?_⟩) (by assumption) ?_
      rotate_left 2
      · (simp only [List.getElem?_toArray, List.getElem?_cons_succ, List.getElem?_cons_zero]; rfl)
      · first | exact fun _ _ _ h => h | exact fun _ _ _ h => nomatch h.1
      · rfl
      · (intro W hSW; (try dsimp only at hSW); go_split_ands; first | (go_simp; done) | (go_simp; with_reducible rfl))
      try simp only [Act.put, List.setIfInBounds_toArray, List.set_cons_zero, List.set_cons_succ]
      refine' wpAnyH_take (i := 2) (oi := _) (v := _) ?_ (by kernel_rfl) (by kernel_rfl) (by kernel_rfl) ?_ (Or.inl ⟨?_, ?_⟩) (by assumption) ?_
      rotate_left 2
      · (simp only [List.getElem?_toArray, List.getElem?_cons_succ, List.getElem?_cons_zero]; rfl)
      · first | exact fun _ _ _ h => h | exact fun _ _ _ h => nomatch h.1
      · rfl
      · (intro W hSW; (try dsimp only at hSW); go_split_ands; first | (go_simp; done) | (go_simp; with_reducible rfl))
      try simp only [Act.put, List.setIfInBounds_toArray, List.set_cons_zero, List.set_cons_succ]
      refine' wpAnyH_take (i := 3) (oi := _) (v := _) ?_ (by kernel_rfl) (by kernel_rfl) (by kernel_rfl) ?_ (Or.inl ⟨?_, ?_⟩) (by assumption) ?_
      rotate_left 2
      · (simp only [List.getElem?_toArray, List.getElem?_cons_succ, List.getElem?_cons_zero]; rfl)
      · first | exact fun _ _ _ h => h | exact fun _ _ _ h => nomatch h.1
      · rfl
      · (intro W hSW; (try dsimp only at hSW); go_split_ands; first | (go_simp; done) | (go_simp; with_reducible rfl))
      try simp only [Act.put, List.setIfInBounds_toArray, List.set_cons_zero, List.set_cons_succ]
      refine' wpAnyH_take (i := 4) (oi := _) (v := _) ?_ (by kernel_rfl) (by kernel_rfl) (by kernel_rfl) ?_ (Or.inl ⟨?_, ?_⟩) (by assumption) ?_
      rotate_left 2
      · (simp only [List.getElem?_toArray, List.getElem?_cons_succ, List.getElem?_cons_zero]; rfl)
      · first | exact fun _ _ _ h => h | exact fun _ _ _ h => nomatch h.1
      · rfl
      · (intro W hSW; (try dsimp only at hSW); go_split_ands; first | (go_simp; done) | (go_simp; with_reducible rfl))
      try simp only [Act.put, List.setIfInBounds_toArray, List.set_cons_zero, List.set_cons_succ]
      refine' wpAnyH_take (i := 5) (oi := _) (v := _) ?_ (by kernel_rfl) (by kernel_rfl) (by kernel_rfl) ?_ (Or.inl ⟨?_, ?_⟩) (by assumption) ?_
      rotate_left 2
      · (simp only [List.getElem?_toArray, List.getElem?_cons_succ, List.getElem?_cons_zero]; rfl)
      · first | exact fun _ _ _ h => h | exact fun _ _ _ h => nomatch h.1
      · rfl
      · (intro W hSW; (try dsimp only at hSW); go_split_ands; first | (go_simp; done) | (go_simp; with_reducible rfl))
      try simp only [Act.put, List.setIfInBounds_toArray, List.set_cons_zero, List.set_cons_succ]
      refine' wpAnyH_take (i := 6) (oi := _) (v := _) ?_ (by kernel_rfl) (by kernel_rfl) (by kernel_rfl) ?_ (Or.inl ⟨?_, ?_⟩) (by assumption) ?_
      rotate_left 2
      · (simp only [List.getElem?_toArray, List.getElem?_cons_succ, List.getElem?_cons_zero]; rfl)
      · first | exact fun _ _ _ h => h | exact fun _ _ _ h => nomatch h.1
      · rfl
      · (intro W hSW; (try dsimp only at hSW); go_split_ands; first | (go_simp; done) | (go_simp; with_reducible rfl))
      try simp only [Act.put, List.setIfInBounds_toArray, List.set_cons_zero, List.set_cons_succ]
      refine wpAnyH_ready (rs := [7]) (by kernel_rfl) (by simp) ?_
      refine' AllReadyH.cons (o := _) ?_ (fun K hK => ?_) AllReadyH.nil
      rotate_left 1
      · (simp only [List.getElem?_toArray, List.getElem?_cons_succ, List.getElem?_cons_zero]; rfl)
      go_simp
      refine hK.out _ _ trivial (fun hHeld => ?_)
      clear hK K
      refine' wpAnyH_take (i := 8) (oi := _) (v := _) ?_ (by kernel_rfl) (by kernel_rfl) (by kernel_rfl) ?_ (Or.inl ⟨?_, ?_⟩) (by assumption) ?_
      rotate_left 2
      · (simp only [List.getElem?_toArray, List.getElem?_cons_succ, List.getElem?_cons_zero]; rfl)
      · first | exact fun _ _ _ h => h | exact fun _ _ _ h => nomatch h.1
      · rfl
      · (intro W hSW; (try dsimp only at hSW); go_split_ands; first | (go_simp; done) | (go_simp; with_reducible rfl))
      try simp only [Act.put, List.setIfInBounds_toArray, List.set_cons_zero, List.set_cons_succ]
      refine' wpAnyH_take (i := 9) (oi := _) (v := _) ?_ (by kernel_rfl) (by kernel_rfl) (by kernel_rfl) ?_ (Or.inl ⟨?_, ?_⟩) (by assumption) ?_
      rotate_left 2
      · (simp only [List.getElem?_toArray, List.getElem?_cons_succ, List.getElem?_cons_zero]; rfl)
      · first | exact fun _ _ _ h => h | exact fun _ _ _ h => nomatch h.1
      · rfl
      · (intro W hSW; (try dsimp only at hSW); go_split_ands; first | (go_simp; done) | (go_simp; with_reducible rfl))
      try simp only [Act.put, List.setIfInBounds_toArray, List.set_cons_zero, List.set_cons_succ]
      refine wpAnyH_done (by kernel_rfl) ?_ _
      go_wp2_with fail
      have hm := HM2.out
      refine ⟨⟨k + m, by omega, by omega, by simp, HRow.out, hB3⟩, by simp [intOf]; omega⟩
    · obtain rfl : k = n := by omega
      have HR := Lib.hid hR
      clear hR
      go_wp2_with fail
      go_ret
      have h := HR.out
      rw [Nat.sub_self, List.replicate_zero, List.append_nil] at h
      exact ⟨rfl, hB, h⟩
set_option maxHeartbeats 4000000 in
set_option maxRecDepth 20000 in
theorem grow_nil (n : Nat) (w : World) (h0 : 0 < n) (hn : n ≤ 100000) :
    Calls Tryd.prog 45 #[.slice none 0 0, .int .i64 n] w fun e w' => ∃ v, e = .returned v ∧ w'.ownsRow w.heap.size 9 1 v 0 [] ∧ Below w.heap.size w w' := by
  obtain ⟨i0, hi, hz0, hz1, hz2⟩ := info_parts strS_info
  have hold : (Builtin.firstCells i0.size 0 (.slice none 0 0)).run Tryd.prog w.drew = .ok #[] w.drew := run_firstCells_none w.drew i0.size 0 0 0
  have hrz := fun ty => Lib.run_append_grow_zeros (P := Tryd.prog) w 61 3 ty 9 i0 (.string ⟨#[]⟩) .i64 .i64 Tryd.underlying61 Tryd.underlying3 hi hz0 none 0 0 [] hold n h0 (by rw [hz1]; omega) (by omega) (by omega) (by rw [hz2]; omega)
    (growslice_fits (by omega) (by rw [hz2]; omega))
  simp only [Nat.zero_add] at hrz
  have b1 : decide ((n : Int) < 0) = false := by rw [decide_eq_false_iff_not]; omega
  have b2 : decide (0 < (n : Int)) = true := decide_eq_true (by omega)
  have hG := grownCap_le_maxLen w n 0 9 (by unfold maxLen; omega)
  obtain ⟨G, hGe⟩ : ∃ G, G = grownCap w n 0 9 := ⟨_, rfl⟩
  rw [← hGe] at hrz hG
  have hG2 : n ≤ G := by rw [hGe]; exact grownCap_ge w _ _ _
  have hG3 : G ≤ 9223372036854775807 := by unfold maxLen at hG; omega
  have hsz : (#[] ++ Builtin.zeroCells (Value.string ⟨#[]⟩).cells n ++ Builtin.zeroCells (Value.string ⟨#[]⟩).cells (G - n)).size = G * 1 := by
    simp [Builtin.zeroCells, Value.cells]
    omega
  have hown := World.ownsRow_made (base := w.heap.size) (e := 9) (size := 1) w.drew _ G (Nat.le_refl _) hG hsz
  obtain ⟨Z, hZ⟩ : ∃ Z, Z = (#[] ++ Builtin.zeroCells (Value.string ⟨#[]⟩).cells n ++ Builtin.zeroCells (Value.string ⟨#[]⟩).cells (G - n)) := ⟨_, rfl⟩
  have hrz2 : ∀ ty, (Builtin.append_ #[61, 3] ty #[.slice none 0 0, .int .i64 (n : Int)]).run Tryd.prog w = .ok (.slice (some ⟨w.heap.size, 0, none⟩) n G) (w.drew.alloc (.cells Z 9)) := fun ty => by rw [hZ]; exact hrz ty
  rw [← hZ] at hown
  have HO := Lib.hid hown
  clear hrz hi hz0 hz1 hz2 hold hGe hZ hsz hown
  go_enter Tryd.func45, Tryd.ntmps45
  go_wp2_with (at_builtin; refine Lib.wpList_append_run _ rfl _ _ _ _ rfl _ _ rfl rfl _ _ (hrz2 _) ?_)
  go_ret
  exact ⟨_, rfl, HO.out, by go_grown⟩
set_option maxHeartbeats 8000000 in
set_option maxRecDepth 20000 in
theorem concat_c (A : Nat) (a1 a2 : Addr) (c1 c2 : Nat) (xs ys : List Value) (w : World) (hA : Row w A #[.slice (some a1) xs.length c1, .slice (some a2) ys.length c2] 61)
    (hx : ∀ j v, xs[j]? = some v → w.cell? (a1.add j) = some v) (hy : ∀ j v, ys[j]? = some v → w.cell? (a2.add j) = some v) (l1 : a1.block < w.heap.size) (l2 : a2.block < w.heap.size)
    (n0 : 0 < xs.length) (n1 : xs.length ≤ 1000) (n2 : ys.length ≤ 1000) (x1 : ∀ v ∈ xs, v.oneCell' = true) (y1 : ∀ v ∈ ys, v.oneCell' = true) :
    Calls Tryd.prog 33 #[.slice (some ⟨A, 0, none⟩) 2 2] w fun e w' => ∃ v, e = .returned v ∧ w'.ownsRow w.heap.size 9 1 v (xs.length + ys.length) (xs ++ ys) ∧ Below w.heap.size w w' := by
  obtain ⟨i0, hi, hz0, hz1, hz2⟩ := info_parts strS_info
  obtain ⟨n, hn⟩ : ∃ n, n = xs.length := ⟨_, rfl⟩
  obtain ⟨m, hm⟩ : ∃ m, m = ys.length := ⟨_, rfl⟩
  rw [← hn] at hA n0 n1 ⊢
  rw [← hm] at hA n2 ⊢
  have hg := grow_nil (n + m) w (by omega) (by omega)
  rw [Int.natCast_add] at hg
  have e1 : IntKind.i64.wrap ((n : Int) + (m : Int)) = ((n + m : Nat) : Int) := by rw [IntKind.wrap_i64]; omega
  have cA := hA.cell
  have zA := hA.lt
  have HG := Lib.hid hg
  have HA := Lib.hid hA
  have HX := Lib.hid hx
  have HY := Lib.hid hy
  have HX1 := Lib.hid x1
  have HY1 := Lib.hid y1
  have HN := Lib.hid hn
  have HM := Lib.hid hm
  have HI := Lib.hid (And.intro hi (And.intro hz0 (And.intro hz1 hz2)))
  clear hg hA hx hy x1 y1 hn hm hi hz0 hz1 hz2
  go_enter Tryd.func33, Tryd.ntmps33
  go_wp2_with fail
  refine wp_loop_rounds 3 ?_
  rw [rounds_succ]
  go_wp2_with fail
  rw [rounds_succ]
  go_wp2_with fail
  rw [rounds_succ]
  go_wp2_with (go_at_call 45; refine HG.out.mono ?_; rintro e w1 ⟨v1, rfl, hO1, hB1⟩)
  obtain ⟨hi, hz0, hz1, hz2⟩ := HI.out
  have k1 : ∀ j, w1.cell? ⟨A, j, none⟩ = #[Value.slice (some a1) n c1, Value.slice (some a2) m c2][j]? := fun j => (hB1.cell (p := ⟨A, j, none⟩) zA).trans (cA j)
  have hx1 : ∀ j u, xs[j]? = some u → w1.cell? (a1.add j) = some u := fun j u hu => (hB1.cell (p := a1.add j) (by rw [show (a1.add j).block = a1.block from by unfold Addr.add; split <;> rfl]; exact l1)).trans (HX.out j u hu)
  have HX2 := Lib.hid hx1
  have HO1 := Lib.hid hO1
  have HI2 := Lib.hid hi
  have HZ0 := Lib.hid hz0
  have HZ1 := Lib.hid hz1
  have HZ2 := Lib.hid hz2
  clear hx1 hO1 hi hz0 hz1 hz2 cA HI
  go_wp2_with fail
  refine wp_loop_rounds 3 ?_
  rw [rounds_succ]
  go_wp2_with (at_builtin; refine wpList_append_own _ rfl _ _ 61 rfl w.heap.size 9 i0 (.string ⟨#[]⟩) 1 16 Tryd.underlying61 HI2.out HZ0.out HZ1.out HZ2.out rfl (by decide) v1 0 [] rfl HO1.out a1 n c1 xs rfl (by rw [← HN.out]; omega) HX2.out HX1.out (by unfold maxLen; omega) (by omega) hB1.size ?_; intro v2 w2 hown2 hgrow2 hnil2; have HO2 := Lib.hid hown2; have hB2 : Below w.heap.size w w2 := hB1.grown hgrow2 hB1.size (fun k hk => (HO1.out.lt k hk).1); clear hown2 hnil2)
  have k2 : ∀ j, w2.cell? ⟨A, j, none⟩ = #[Value.slice (some a1) n c1, Value.slice (some a2) m c2][j]? := fun j => (hB2.cell (p := ⟨A, j, none⟩) zA).trans (by rw [← k1 j]; exact (hB1.cell (p := ⟨A, j, none⟩) zA).symm)
  have hy1 : ∀ j u, ys[j]? = some u → w2.cell? (a2.add j) = some u := fun j u hu => (hB2.cell (p := a2.add j) (by rw [show (a2.add j).block = a2.block from by unfold Addr.add; split <;> rfl]; exact l2)).trans (HY.out j u hu)
  have HY2 := Lib.hid hy1
  clear hy1 k1
  rw [rounds_succ]
  go_wp2_with (at_builtin; refine wpList_append_own _ rfl _ _ 61 rfl w.heap.size 9 i0 (.string ⟨#[]⟩) 1 16 Tryd.underlying61 HI2.out HZ0.out HZ1.out HZ2.out rfl (by decide) v2 (0 + n) ([] ++ xs) rfl HO2.out a2 m c2 ys rfl (by rw [← HM.out]; omega) HY2.out HY1.out (by unfold maxLen; omega) (by omega) hB2.size ?_; intro v3 w3 hown3 hgrow3 hnil3; have HO3 := Lib.hid hown3; have hB3 : Below w.heap.size w w3 := hB2.grown hgrow3 hB2.size (fun k hk => (HO2.out.lt k hk).1); clear hown3 hnil3)
  rw [rounds_succ]
  go_wp2_with fail
  go_ret
  refine ⟨v3, rfl, ?_, hB3⟩
  have h := HO3.out
  rw [Nat.zero_add, List.nil_append] at h
  exact h
end Go.Proofs.YtpegkcmomkdoeaaDoor
