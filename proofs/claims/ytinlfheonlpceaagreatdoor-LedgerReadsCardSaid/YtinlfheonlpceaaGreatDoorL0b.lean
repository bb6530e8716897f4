/- slices.Equal of attempts; == of attempts (chapter 07). -/
import Derived.Test.YtinlfheonlpceaaGreatDoorL0a
import Derived.WalkSmall
import Derived.Deep.DeepCutAuto
import Derived.Lib.Walk
import Derived.Lib.ItoaMem
import Derived.Deep.RegionWith
import Derived.Deep.DeepMust
import Derived.Deep.RegionHeld3
import Derived.Laws.BitsAllLaws
import Derived.Lib.OthersKept
import Derived.Lib.FrozenHead2
import Derived.Shelf.Strings.BuilderK
import Derived.Shelf.Strconv.ErrVarParseInt
import Derived.MapKept
import Derived.WideKeyRuns
import Derived.WideKeyEntry
import Derived.Deep.AppendLies
import Derived.WalkSpells
import Derived.Carry
namespace Go.Proofs.YtinlfheonlpceaaGreatDoor
open Go.RowKit
set_option linter.unusedVariables false
set_option linter.unusedSimpArgs false
theorem AtR.eq_iff (x y : AtR) : x = y ↔ (x.at_ = y.at_ ∧ x.k = y.k ∧ x.i = y.i ∧ x.g = y.g ∧ x.why = y.why ∧ x.ans = y.ans) := ⟨fun h => by rw [h]; exact ⟨rfl, rfl, rfl, rfl, rfl, rfl⟩, fun ⟨h1, h2, h3, h4, h5, h6⟩ => AtR.ext' h1 h2 h3 h4 h5 h6⟩
instance : DecidableEq AtR := fun x y => decidable_of_iff _ (AtR.eq_iff x y).symm
theorem at_dec (x y : AtR) : decide (x = y) = (decide (x.at_ = y.at_) && ((decide (x.k = y.k) && (decide (x.i = y.i) && decide (x.g = y.g))) && (decide (x.why = y.why) && decide (x.ans = y.ans)))) := by
  rw [Bool.eq_iff_iff]
  simp only [Bool.and_eq_true, decide_eq_true_iff]
  rw [AtR.eq_iff]
  constructor
  · rintro ⟨h1, h2, h3, h4, h5, h6⟩; exact ⟨h1, ⟨h2, h3, h4⟩, h5, h6⟩
  · rintro ⟨h1, ⟨h2, h3, h4⟩, h5, h6⟩; exact ⟨h1, h2, h3, h4, h5, h6⟩
theorem HoldsA.len {W : World} {v : Value} {l : List AtR} (h : HoldsA W v l) : ∃ p c, v = .slice p l.length c := by
  rcases h with ⟨rfl, rfl⟩ | ⟨g, o, c, rfl, _⟩
  · exact ⟨none, 0, rfl⟩
  · exact ⟨_, c, rfl⟩
theorem eq_at (r q : AtR) : ∀ W, (binOp .eql 43 (atV r) (atV q)).run Tryz.prog W = .ok (.bool (decide (r = q))) W := by
  intro W
  rw [at_dec]
  obtain ⟨a, k, i, g, y, z⟩ := r
  obtain ⟨a', k', i', g', y', z'⟩ := q
  go_simp
  by_cases h0 : a = a' <;> by_cases h1 : k = k' <;> by_cases h2 : i = i' <;> by_cases h3 : g = g' <;> by_cases h4 : y = y' <;> by_cases h5 : z = z' <;> simp_all [Result.andThen]
theorem neq_at (r q : AtR) : ∀ W, (binOp .neq 43 (atV r) (atV q)).run Tryz.prog W = .ok (.bool (!decide (r = q))) W := by
  intro W
  rw [at_dec]
  obtain ⟨a, k, i, g, y, z⟩ := r
  obtain ⟨a', k', i', g', y', z'⟩ := q
  go_simp
  by_cases h0 : a = a' <;> by_cases h1 : k = k' <;> by_cases h2 : i = i' <;> by_cases h3 : g = g' <;> by_cases h4 : y = y' <;> by_cases h5 : z = z' <;> simp_all [Result.andThen]
theorem eq_out (k i g k' i' g' : Int) : ∀ W, (binOp .eql 41 (.agg #[.int .i64 k, .int .i64 i, .int .u32 g]) (.agg #[.int .i64 k', .int .i64 i', .int .u32 g'])).run Tryz.prog W = .ok (.bool (decide (k = k') && (decide (i = i') && decide (g = g')))) W := by
  intro W
  go_simp
  by_cases h1 : k = k' <;> by_cases h2 : i = i' <;> by_cases h3 : g = g' <;> simp_all [Result.andThen]
theorem neq_out (k i g k' i' g' : Int) : ∀ W, (binOp .neq 41 (.agg #[.int .i64 k, .int .i64 i, .int .u32 g]) (.agg #[.int .i64 k', .int .i64 i', .int .u32 g'])).run Tryz.prog W = .ok (.bool (!(decide (k = k') && (decide (i = i') && decide (g = g'))))) W := by
  intro W
  go_simp
  by_cases h1 : k = k' <;> by_cases h2 : i = i' <;> by_cases h3 : g = g' <;> simp_all [Result.andThen]
set_option maxHeartbeats 16000000 in
set_option maxRecDepth 20000 in
theorem equalA_c (v u : Value) (l m : List AtR) (w : World) (hv : HoldsA w v l) (hu : HoldsA w u m) (hl : l.length ≤ 100000) (hm : m.length ≤ 100000) :
    Ret 23 #[v, u] w (.bool (decide (l = m))) := by
  obtain ⟨p, c, hve⟩ := hv.len
  obtain ⟨q, d, hue⟩ := hu.len
  by_cases hlm : l.length = m.length
  · have HV := Lib.hid hv
    have HU := Lib.hid hu
    subst hve
    subst hue
    rw [← hlm] at HU ⊢
    have HLM := Lib.hid hlm
    obtain ⟨N, hN⟩ : ∃ N, l.length = N := ⟨_, rfl⟩
    rw [hN] at HV HU HLM hl ⊢
    have HN := Lib.hid hN
    clear hv hu hlm hm hN
    go_enter Tryz.func23, Tryz.ntmps23
    go_wp2_with fail
    go_loopw [13] (fun i wr => ∃ k : Nat, k ≤ N ∧ i = .int .i64 k ∧ l.take k = m.take k ∧ (∃ nd, wr = w.drewN nd)) (fun i _ => N - (intOf i).toNat)
    case atStart => exact ⟨0, by omega, rfl, rfl, 0, rfl⟩
    case round =>
      obtain ⟨k, hk, rfl, hlk, nd, hwr⟩ := hrel
      have HLK := Lib.hid hlk
      have HWR := Lib.hid hwr
      clear hlk hwr
      by_cases hlt : k < N
      · have hkl : k < l.length := by rw [HN.out]; exact hlt
        have hkm : k < m.length := by rw [← HLM.out]; exact hlt
        rcases HV.out with ⟨h1, h2⟩ | ⟨ga, oa, ca, hva, ha⟩
        · exact absurd hkl (by rw [h2]; simp)
        rcases HU.out with ⟨h1, h2⟩ | ⟨gb, ob, cb, hvb, hb⟩
        · exact absurd hkm (by rw [h2]; simp)
        obtain ⟨x0, x1, x2, x3, x4, x5⟩ := HoldsA.six (ha k l[k] (List.getElem?_eq_getElem hkl))
        obtain ⟨y0, y1, y2, y3, y4, y5⟩ := HoldsA.six (hb k m[k] (List.getElem?_eq_getElem hkm))
        injection hva with hp1 hp2 hp3
        injection hvb with hp4 hp5 hp6
        subst hp1 hp4
        have X0 : wr.cell? ⟨ga, oa + k * 6, none⟩ = some (.int .i64 l[k].at_) := by rw [HWR.out]; exact x0
        have X1 : wr.cell? ⟨ga, oa + k * 6 + 1, none⟩ = some (.int .i64 l[k].k) := by rw [HWR.out]; exact x1
        have X2 : wr.cell? ⟨ga, oa + k * 6 + 2, none⟩ = some (.int .i64 l[k].i) := by rw [HWR.out]; exact x2
        have X3 : wr.cell? ⟨ga, oa + k * 6 + 3, none⟩ = some (.int .u32 l[k].g) := by rw [HWR.out]; exact x3
        have X4 : wr.cell? ⟨ga, oa + k * 6 + 4, none⟩ = some (.int .i64 l[k].why) := by rw [HWR.out]; exact x4
        have X5 : wr.cell? ⟨ga, oa + k * 6 + 5, none⟩ = some (.int .i64 l[k].ans) := by rw [HWR.out]; exact x5
        have Y0 : wr.cell? ⟨gb, ob + k * 6, none⟩ = some (.int .i64 m[k].at_) := by rw [HWR.out]; exact y0
        have Y1 : wr.cell? ⟨gb, ob + k * 6 + 1, none⟩ = some (.int .i64 m[k].k) := by rw [HWR.out]; exact y1
        have Y2 : wr.cell? ⟨gb, ob + k * 6 + 2, none⟩ = some (.int .i64 m[k].i) := by rw [HWR.out]; exact y2
        have Y3 : wr.cell? ⟨gb, ob + k * 6 + 3, none⟩ = some (.int .u32 m[k].g) := by rw [HWR.out]; exact y3
        have Y4 : wr.cell? ⟨gb, ob + k * 6 + 4, none⟩ = some (.int .i64 m[k].why) := by rw [HWR.out]; exact y4
        have Y5 : wr.cell? ⟨gb, ob + k * 6 + 5, none⟩ = some (.int .i64 m[k].ans) := by rw [HWR.out]; exact y5
        have hq := neq_at l[k] m[k]
        have htl : l.take (k + 1) = l.take k ++ [l[k]] := by rw [List.take_succ_eq_append_getElem hkl]
        have htm : m.take (k + 1) = m.take k ++ [m[k]] := by rw [List.take_succ_eq_append_getElem hkm]
        have hne : l[k] ≠ m[k] → l ≠ m := fun h e => h (by simp only [e])
        have HTL := Lib.hid htl
        have HTM := Lib.hid htm
        have HNE := Lib.hid hne
        generalize l[k] = a at *
        generalize m[k] = b at *
        clear ha hb x0 x1 x2 x3 x4 x5 y0 y1 y2 y3 y4 y5 htl htm hne hp2 hp3 hp5 hp6 HV HU hkl hkm
        have hlt' : (k : Int) < (N : Int) := by omega
        by_cases hab : a = b
        · have e : decide (a = b) = true := decide_eq_true hab
          rw [e] at hq
          have HAB := Lib.hid hab
          clear e hab
          go_wp2_with fail
          refine wp_region_held_drew (S := fun W' => W'.cell? ⟨ga, oa + k * 6, none⟩ = some (.int .i64 a.at_) ∧ W'.cell? ⟨ga, oa + k * 6 + 1, none⟩ = some (.int .i64 a.k) ∧ W'.cell? ⟨ga, oa + k * 6 + 2, none⟩ = some (.int .i64 a.i) ∧ W'.cell? ⟨ga, oa + k * 6 + 3, none⟩ = some (.int .u32 a.g) ∧ W'.cell? ⟨ga, oa + k * 6 + 4, none⟩ = some (.int .i64 a.why) ∧ W'.cell? ⟨ga, oa + k * 6 + 5, none⟩ = some (.int .i64 a.ans) ∧ W'.cell? ⟨gb, ob + k * 6, none⟩ = some (.int .i64 b.at_) ∧ W'.cell? ⟨gb, ob + k * 6 + 1, none⟩ = some (.int .i64 b.k) ∧ W'.cell? ⟨gb, ob + k * 6 + 2, none⟩ = some (.int .i64 b.i) ∧ W'.cell? ⟨gb, ob + k * 6 + 3, none⟩ = some (.int .u32 b.g) ∧ W'.cell? ⟨gb, ob + k * 6 + 4, none⟩ = some (.int .i64 b.why) ∧ W'.cell? ⟨gb, ob + k * 6 + 5, none⟩ = some (.int .i64 b.ans)) (by kernel_rfl) ⟨X0, X1, X2, X3, X4, X5, Y0, Y1, Y2, Y3, Y4, Y5⟩ (fun hHeld => ?_)
          refine' wpAnyH_take (i := 0) (oi := _) (v := _) ?_ (by kernel_rfl) (by kernel_rfl) (by kernel_rfl) ?_ (Or.inl ⟨?_, ?_⟩) (by assumption) ?_
          rotate_left 2
          · (simp only [List.getElem?_toArray, List.getElem?_cons_succ, List.getElem?_cons_zero]; rfl)
          · first | exact fun _ _ _ h => h | exact fun _ _ _ h => nomatch h.1
          · rfl
          · (intro W hSW; (try dsimp only at hSW); go_split_ands; first | (go_simp; done) | (go_simp; with_reducible rfl))
          try simp only [Act.put, List.setIfInBounds_toArray, List.set_cons_zero, List.set_cons_succ]
          refine' wpAnyH_take (i := 1) (oi := _) (v := _) ?_ (by kernel_rfl) (by kernel_rfl) (by kernel_rfl) ?_ (Or.inl ⟨?_, ?_⟩) (by assumption) ?_
          rotate_left 2
          · (simp only [List.getElem?_toArray, List.getElem?_cons_succ, List.getElem?_cons_zero]; rfl)
          · first | exact fun _ _ _ h => h | exact fun _ _ _ h => nomatch h.1
          · rfl
          · (intro W hSW; (try dsimp only at hSW); go_split_ands; first | (go_simp; done) | (go_simp; with_reducible rfl))
          try simp only [Act.put, List.setIfInBounds_toArray, List.set_cons_zero, List.set_cons_succ]
          refine' wpAnyH_take (i := 2) (oi := _) (v := _) ?_ (by kernel_rfl) (by kernel_rfl) (by kernel_rfl) ?_ (Or.inl ⟨?_, ?_⟩) (by assumption) ?_
          rotate_left 2
          · (simp only [List.getElem?_toArray, List.getElem?_cons_succ, List.getElem?_cons_zero]; rfl)
          · first | exact fun _ _ _ h => h | exact fun _ _ _ h => nomatch h.1
          · rfl
          · (intro W hSW; (try dsimp only at hSW); go_split_ands; first | (go_simp; done) | (go_simp; with_reducible rfl))
          try simp only [Act.put, List.setIfInBounds_toArray, List.set_cons_zero, List.set_cons_succ]
          refine' wpAnyH_take (i := 3) (oi := _) (v := _) ?_ (by kernel_rfl) (by kernel_rfl) (by kernel_rfl) ?_ (Or.inl ⟨?_, ?_⟩) (by assumption) ?_
          rotate_left 2
          · (simp only [List.getElem?_toArray, List.getElem?_cons_succ, List.getElem?_cons_zero]; rfl)
          · first | exact fun _ _ _ h => h | exact fun _ _ _ h => nomatch h.1
          · rfl
          · (intro W hSW; (try dsimp only at hSW); go_split_ands; first | (go_simp; done) | (go_simp; with_reducible rfl))
          try simp only [Act.put, List.setIfInBounds_toArray, List.set_cons_zero, List.set_cons_succ]
          refine' wpAnyH_take (i := 4) (oi := _) (v := _) ?_ (by kernel_rfl) (by kernel_rfl) (by kernel_rfl) ?_ (Or.inl ⟨?_, ?_⟩) (by assumption) ?_
          rotate_left 2
          · (simp only [List.getElem?_toArray, List.getElem?_cons_succ, List.getElem?_cons_zero]; rfl)
          · first | exact fun _ _ _ h => h | exact fun _ _ _ h => nomatch h.1
          · rfl
          · (intro W hSW; (try dsimp only at hSW); go_split_ands; first | (go_simp; done) | (go_simp; with_reducible rfl))
          try simp only [Act.put, List.setIfInBounds_toArray, List.set_cons_zero, List.set_cons_succ]
          refine' wpAnyH_take (i := 5) (oi := _) (v := _) ?_ (by kernel_rfl) (by kernel_rfl) (by kernel_rfl) ?_ (Or.inl ⟨?_, ?_⟩) (by assumption) ?_
          rotate_left 2
          · (simp only [List.getElem?_toArray, List.getElem?_cons_succ, List.getElem?_cons_zero]; rfl)
          · first | exact fun _ _ _ h => h | exact fun _ _ _ h => nomatch h.1
          · rfl
          · (intro W hSW; (try dsimp only at hSW); go_split_ands; first | (go_simp; done) | (go_simp; with_reducible rfl))
          try simp only [Act.put, List.setIfInBounds_toArray, List.set_cons_zero, List.set_cons_succ]
          refine' wpAnyH_take (i := 6) (oi := _) (v := _) ?_ (by kernel_rfl) (by kernel_rfl) (by kernel_rfl) ?_ (Or.inl ⟨?_, ?_⟩) (by assumption) ?_
          rotate_left 2
          · (simp only [List.getElem?_toArray, List.getElem?_cons_succ, List.getElem?_cons_zero]; rfl)
          · first | exact fun _ _ _ h => h | exact fun _ _ _ h => nomatch h.1
          · rfl
          · (intro W hSW; (try dsimp only at hSW); go_split_ands; first | (go_simp; done) | (go_simp; with_reducible rfl))
          try simp only [Act.put, List.setIfInBounds_toArray, List.set_cons_zero, List.set_cons_succ]
          refine' wpAnyH_take (i := 7) (oi := _) (v := _) ?_ (by kernel_rfl) (by kernel_rfl) (by kernel_rfl) ?_ (Or.inl ⟨?_, ?_⟩) (by assumption) ?_
          rotate_left 2
          · (simp only [List.getElem?_toArray, List.getElem?_cons_succ, List.getElem?_cons_zero]; rfl)
          · first | exact fun _ _ _ h => h | exact fun _ _ _ h => nomatch h.1
          · rfl
          · (intro W hSW; (try dsimp only at hSW); go_split_ands; first | (go_simp; done) | (go_simp; with_reducible rfl))
          try simp only [Act.put, List.setIfInBounds_toArray, List.set_cons_zero, List.set_cons_succ]
          refine' wpAnyH_take (i := 8) (oi := _) (v := _) ?_ (by kernel_rfl) (by kernel_rfl) (by kernel_rfl) ?_ (Or.inl ⟨?_, ?_⟩) (by assumption) ?_
          rotate_left 2
          · (simp only [List.getElem?_toArray, List.getElem?_cons_succ, List.getElem?_cons_zero]; rfl)
          · first | exact fun _ _ _ h => h | exact fun _ _ _ h => nomatch h.1
          · rfl
          · (intro W hSW; (try dsimp only at hSW); go_split_ands; first | (go_simp; done) | (go_simp; with_reducible rfl))
          try simp only [Act.put, List.setIfInBounds_toArray, List.set_cons_zero, List.set_cons_succ]
          refine wpAnyH_done (by kernel_rfl) ?_ _
          go_wp2_with fail
          refine ⟨⟨k + 1, by omega, by go_num, by rw [HTL.out, HTM.out, HLK.out, HAB.out], nd + 1, by rw [HWR.out]; rfl⟩, by simp [intOf]; omega⟩
        · have e : decide (a = b) = false := decide_eq_false hab
          rw [e] at hq
          have HAB := Lib.hid hab
          clear e hab
          go_wp2_with fail
          refine wp_region_held_drew (S := fun W' => W'.cell? ⟨ga, oa + k * 6, none⟩ = some (.int .i64 a.at_) ∧ W'.cell? ⟨ga, oa + k * 6 + 1, none⟩ = some (.int .i64 a.k) ∧ W'.cell? ⟨ga, oa + k * 6 + 2, none⟩ = some (.int .i64 a.i) ∧ W'.cell? ⟨ga, oa + k * 6 + 3, none⟩ = some (.int .u32 a.g) ∧ W'.cell? ⟨ga, oa + k * 6 + 4, none⟩ = some (.int .i64 a.why) ∧ W'.cell? ⟨ga, oa + k * 6 + 5, none⟩ = some (.int .i64 a.ans) ∧ W'.cell? ⟨gb, ob + k * 6, none⟩ = some (.int .i64 b.at_) ∧ W'.cell? ⟨gb, ob + k * 6 + 1, none⟩ = some (.int .i64 b.k) ∧ W'.cell? ⟨gb, ob + k * 6 + 2, none⟩ = some (.int .i64 b.i) ∧ W'.cell? ⟨gb, ob + k * 6 + 3, none⟩ = some (.int .u32 b.g) ∧ W'.cell? ⟨gb, ob + k * 6 + 4, none⟩ = some (.int .i64 b.why) ∧ W'.cell? ⟨gb, ob + k * 6 + 5, none⟩ = some (.int .i64 b.ans)) (by kernel_rfl) ⟨X0, X1, X2, X3, X4, X5, Y0, Y1, Y2, Y3, Y4, Y5⟩ (fun hHeld => ?_)
          refine' wpAnyH_take (i := 0) (oi := _) (v := _) ?_ (by kernel_rfl) (by kernel_rfl) (by kernel_rfl) ?_ (Or.inl ⟨?_, ?_⟩) (by assumption) ?_
          rotate_left 2
          · (simp only [List.getElem?_toArray, List.getElem?_cons_succ, List.getElem?_cons_zero]; rfl)
          · first | exact fun _ _ _ h => h | exact fun _ _ _ h => nomatch h.1
          · rfl
          · (intro W hSW; (try dsimp only at hSW); go_split_ands; first | (go_simp; done) | (go_simp; with_reducible rfl))
          try simp only [Act.put, List.setIfInBounds_toArray, List.set_cons_zero, List.set_cons_succ]
          refine' wpAnyH_take (i := 1) (oi := _) (v := _) ?_ (by kernel_rfl) (by kernel_rfl) (by kernel_rfl) ?_ (Or.inl ⟨?_, ?_⟩) (by assumption) ?_
          rotate_left 2
          · (simp only [List.getElem?_toArray, List.getElem?_cons_succ, List.getElem?_cons_zero]; rfl)
          · first | exact fun _ _ _ h => h | exact fun _ _ _ h => nomatch h.1
          · rfl
          · (intro W hSW; (try dsimp only at hSW); go_split_ands; first | (go_simp; done) | (go_simp; with_reducible rfl))
          try simp only [Act.put, List.setIfInBounds_toArray, List.set_cons_zero, List.set_cons_succ]
          refine' wpAnyH_take (i := 2) (oi := _) (v := _) ?_ (by kernel_rfl) (by kernel_rfl) (by kernel_rfl) ?_ (Or.inl ⟨?_, ?_⟩) (by assumption) ?_
          rotate_left 2
          · (simp only [List.getElem?_toArray, List.getElem?_cons_succ, List.getElem?_cons_zero]; rfl)
          · first | exact fun _ _ _ h => h | exact fun _ _ _ h => nomatch h.1
          · rfl
          · (intro W hSW; (try dsimp only at hSW); go_split_ands; first | (go_simp; done) | (go_simp; with_reducible rfl))
          try simp only [Act.put, List.setIfInBounds_toArray, List.set_cons_zero, List.set_cons_succ]
          refine' wpAnyH_take (i := 3) (oi := _) (v := _) ?_ (by kernel_rfl) (by kernel_rfl) (by kernel_rfl) ?_ (Or.inl ⟨?_, ?_⟩) (by assumption) ?_
          rotate_left 2
          · (simp only [List.getElem?_toArray, List.getElem?_cons_succ, List.getElem?_cons_zero]; rfl)
          · first | exact fun _ _ _ h => h | exact fun _ _ _ h => nomatch h.1
          · rfl
          · (intro W hSW; (try dsimp only at hSW); go_split_ands; first | (go_simp; done) | (go_simp; with_reducible rfl))
          try simp only [Act.put, List.setIfInBounds_toArray, List.set_cons_zero, List.set_cons_succ]
          refine' wpAnyH_take (i := 4) (oi := _) (v := _) ?_ (by kernel_rfl) (by kernel_rfl) (by kernel_rfl) ?_ (Or.inl ⟨?_, ?_⟩) (by assumption) ?_
          rotate_left 2
          · (simp only [List.getElem?_toArray, List.getElem?_cons_succ, List.getElem?_cons_zero]; rfl)
          · first | exact fun _ _ _ h => h | exact fun _ _ _ h => nomatch h.1
          · rfl
          · (intro W hSW; (try dsimp only at hSW); go_split_ands; first | (go_simp; done) | (go_simp; with_reducible rfl))
          try simp only [Act.put, List.setIfInBounds_toArray, List.set_cons_zero, List.set_cons_succ]
          refine' wpAnyH_take (i := 5) (oi := _) (v := _) ?_ (by kernel_rfl) (by kernel_rfl) (by kernel_rfl) ?_ (Or.inl ⟨?_, ?_⟩) (by assumption) ?_
          rotate_left 2
          · (simp only [List.getElem?_toArray, List.getElem?_cons_succ, List.getElem?_cons_zero]; rfl)
          · first | exact fun _ _ _ h => h | exact fun _ _ _ h => nomatch h.1
          · rfl
          · (intro W hSW; (try dsimp only at hSW); go_split_ands; first | (go_simp; done) | (go_simp; with_reducible rfl))
          try simp only [Act.put, List.setIfInBounds_toArray, List.set_cons_zero, List.set_cons_succ]
          refine' wpAnyH_take (i := 6) (oi := _) (v := _) ?_ (by kernel_rfl) (by kernel_rfl) (by kernel_rfl) ?_ (Or.inl ⟨?_, ?_⟩) (by assumption) ?_
          rotate_left 2
          · (simp only [List.getElem?_toArray, List.getElem?_cons_succ, List.getElem?_cons_zero]; rfl)
          · first | exact fun _ _ _ h => h | exact fun _ _ _ h => nomatch h.1
          · rfl
          · (intro W hSW; (try dsimp only at hSW); go_split_ands; first | (go_simp; done) | (go_simp; with_reducible rfl))
          try simp only [Act.put, List.setIfInBounds_toArray, List.set_cons_zero, List.set_cons_succ]
          refine' wpAnyH_take (i := 7) (oi := _) (v := _) ?_ (by kernel_rfl) (by kernel_rfl) (by kernel_rfl) ?_ (Or.inl ⟨?_, ?_⟩) (by assumption) ?_
          rotate_left 2
          · (simp only [List.getElem?_toArray, List.getElem?_cons_succ, List.getElem?_cons_zero]; rfl)
          · first | exact fun _ _ _ h => h | exact fun _ _ _ h => nomatch h.1
          · rfl
          · (intro W hSW; (try dsimp only at hSW); go_split_ands; first | (go_simp; done) | (go_simp; with_reducible rfl))
          try simp only [Act.put, List.setIfInBounds_toArray, List.set_cons_zero, List.set_cons_succ]
          refine' wpAnyH_take (i := 8) (oi := _) (v := _) ?_ (by kernel_rfl) (by kernel_rfl) (by kernel_rfl) ?_ (Or.inl ⟨?_, ?_⟩) (by assumption) ?_
          rotate_left 2
          · (simp only [List.getElem?_toArray, List.getElem?_cons_succ, List.getElem?_cons_zero]; rfl)
          · first | exact fun _ _ _ h => h | exact fun _ _ _ h => nomatch h.1
          · rfl
          · (intro W hSW; (try dsimp only at hSW); go_split_ands; first | (go_simp; done) | (go_simp; with_reducible rfl))
          try simp only [Act.put, List.setIfInBounds_toArray, List.set_cons_zero, List.set_cons_succ]
          refine wpAnyH_done (by kernel_rfl) ?_ _
          go_wp2_with fail
          go_ret
          refine ⟨by rw [decide_eq_false (HNE.out HAB.out)]; rfl, ?_⟩
          rw [HWR.out]
          exact (below_drewN (Below.refl _ _) nd).drew
      · obtain rfl : k = N := by omega
        go_wp2_with fail
        go_ret
        have h1 := HLK.out
        rw [List.take_of_length_le (by rw [HN.out]; omega), List.take_of_length_le (by rw [← HLM.out]; omega)] at h1
        refine ⟨by rw [decide_eq_true h1]; rfl, ?_⟩
        rw [HWR.out]
        exact below_drewN (Below.refl _ _) nd
  · have hd : decide (l = m) = false := decide_eq_false (fun e => hlm (by rw [e]))
    have hn : ((l.length : Int) == (m.length : Int)) = false := by rw [beq_eq_false_iff_ne]; omega
    have hn2 : ((l.length : Int) != (m.length : Int)) = true := by rw [bne, hn]; rfl
    rw [hd]
    subst hve
    subst hue
    clear hv hu hlm hd
    go_enter Tryz.func23, Tryz.ntmps23
    go_wp2_with fail
    go_ret
    exact ⟨rfl, by go_grown⟩
end Go.Proofs.YtinlfheonlpceaaGreatDoor

/- strconv.FormatUint at base 10, for every uint64: the decimal numeral. -/
namespace Go.Proofs.YtinlfheonlpceaaGreatDoor
open Go.RowKit Go.Sort Go.Lib

theorem below_grow_ (w : World) (k : Nat) (os : Array Obj) : Below w.heap.size w (grow (w.drewN k) os) :=
  ⟨rfl, rfl, rfl, by simp [grow, World.drewN], fun i hi => by
    show (w.heap ++ os)[i]? = _
    rw [Array.getElem?_append_left hi]⟩
theorem holds_zero0_ (w : World) (T : TypeId) (nd : Nat) (hs : nd ≤ 24) : Holds (fun (b : UInt8) => Value.int .u8 (b.toNat : Int)) (w.alloc (.cells zeros24 T)) w.heap.size 0 (Array.replicate nd (0 : UInt8)) := fun j hj => by
  have hj' : j < nd := by simpa using hj
  refine ⟨?_, World.frozen?_alloc_new _ _ _ _⟩
  rw [World.cell?_alloc_new, zeros24_at _ (by omega), getElem!_pos _ j hj]
  simp
theorem fin_at_ (w : World) (o : Obj) (dk : Array UInt8) (k off : Nat) : ∃ os, (putRow (fun (b : UInt8) => Value.int .u8 (b.toNat : Int)) (w.alloc o) w.heap.size off dk).drewN k = grow (w.drewN k) os := by
  rw [alloc_eq_grow]
  obtain ⟨os', _, e⟩ := putRow_grow_new (fun (b : UInt8) => Value.int .u8 (b.toNat : Int)) w #[o] w.heap.size off dk (Nat.le_refl _)
  exact ⟨os', by rw [e]; rfl⟩

theorem strconv_Itoa (n : Int) (w : World) (hE : Env w) (h0 : -9223372036854775808 ≤ n) (h1 : n ≤ 9223372036854775807) :
    Ret 114 #[.int .i64 n] w (.string ⟨(Lib.itoa n).toArray⟩) :=
  (Tryz.strconv_Itoa n h0 h1 w hE.tabIs).mono fun e w' ⟨he, k, os, hw⟩ => ⟨he, by rw [hw]; exact below_grow_ w k os⟩
set_option maxHeartbeats 6400000 in
set_option maxRecDepth 100000 in
theorem inner_FormatUint (u : Nat) (hu64 : u < 18446744073709551616) (w : World) (htab : Lib.TabIs Tryz.prog w "internal/strconv.uint64pow10" .u64 Lib.pow10Tab) :
    Ret 167 #[.int .u64 u, .int .i64 10] w (.string ⟨(Lib.decDigits u).toArray⟩) := by
  by_cases hi : u < 100
  · have Hu := Lib.hid hu64
    clear hu64
    go_enter Tryz.func167, Tryz.ntmps167
    go_wp2_with (go_at_call 116; refine (Tryz.internal_strconv_small u hi _).mono ?_; rintro e w' ⟨rfl, rfl⟩)
    go_ret
    exact ⟨rfl, Below.refl _ _⟩
  · have hu1 : 1 ≤ u := by omega
    have hnd20 : Lib.nDigits u ≤ 20 := by have := Lib.numDigits_eq u hu1 hu64; split at this <;> omega
    have hb3 : Lib.nDigits u ≤ 24 := by omega
    have hal : Tryz.prog.arrayLen 145 = 24 := by kernel_rfl
    have hsl1 : ∀ W, (Instr.sliceAt 145 (.pointer (some ⟨w.heap.size, 0, none⟩)) none (some (.int .i64 ((Lib.nDigits u : Int)))) none).run Tryz.prog W = .ok (.slice (some ⟨w.heap.size, 0, none⟩) (Lib.nDigits u) 24) W := fun W => by
      rw [run_sliceAt_array_h W 145 ⟨w.heap.size, 0, none⟩ (by kernel_rfl) .i64 ((Lib.nDigits u : Int)) (by omega) (by rw [hal]; omega)]
      go_simp
    have hH0 := holds_zero0_ w 145 (Lib.nDigits u) (by omega)
    have hfmt := Tryz.internal_strconv_formatBase10 w.heap.size 0 24 u (Array.replicate (Lib.nDigits u) 0) (w.alloc (.cells Lib.zeros24 145)) hH0 (by rw [Array.size_replicate]; exact Lib.lt_pow_nDigits u) hu64 (by rw [Array.size_replicate]; omega)
    rw [Array.size_replicate] at hfmt
    have HH0 := Lib.hid hH0
    have hnd := Tryz.internal_strconv_numDigits u hu1 hu64 _ (Lib.tabIs_alloc htab (.cells Lib.zeros24 145))
    have Hu := Lib.hid hu64
    have Hfmt := Lib.hid hfmt
    have Hnd := Lib.hid hnd
    clear hH0 hal hu64 hfmt hnd
    go_enter Tryz.func167, Tryz.ntmps167
    go_wp2_with fail
    go_at_call 117
    refine (Hnd.out).mono ?_
    rintro e w' ⟨rfl, rfl⟩
    go_wp2_with fail
    go_at_call 118
    refine (Hfmt.out).mono ?_
    rintro e w' ⟨rfl, k, v', dk, rfl, hF⟩
    have hcv : (convert 79 9 (.slice (some ⟨w.heap.size, 0, none⟩) (Lib.nDigits u) 24)).run Tryz.prog ((putRow (fun (b : UInt8) => Value.int .u8 (b.toNat : Int)) (w.alloc (.cells Lib.zeros24 145)) w.heap.size 0 dk).drewN k) = .ok (.string ⟨(Lib.decDigits u).toArray⟩) ((putRow (fun (b : UInt8) => Value.int .u8 (b.toNat : Int)) (w.alloc (.cells Lib.zeros24 145)) w.heap.size 0 dk).drewN k) := by
      have h := run_convert_bytes_back (P := Tryz.prog) ((putRow (fun (b : UInt8) => Value.int .u8 (b.toNat : Int)) (w.alloc (.cells Lib.zeros24 145)) w.heap.size 0 dk).drewN k) 79 9 5 ⟨w.heap.size, 0, none⟩ 24 (Lib.decDigits u) Tryz.underlying79 Tryz.underlying5 Tryz.underlying9 (fun j hj => by
        rw [Lib.row_is_numeral hF j hj, Lib.add_plain, World.cell?_drewN]
        exact cell?_putRow (fun (b : UInt8) => Value.int .u8 (b.toNat : Int)) _ w.heap.size 0 _ dk HH0.out (by rw [hF.size, Array.size_replicate]) j (by rw [hF.size]; rw [Lib.decDigits_length] at hj; exact hj))
      rw [Lib.decDigits_length] at h
      exact h
    go_wp2
    go_ret
    obtain ⟨os, eo⟩ := fin_at_ w (.cells Lib.zeros24 145) dk k 0
    refine ⟨rfl, ?_⟩
    rw [eo]
    exact below_grow_ w k os
theorem strconv_FormatUint (u : Nat) (hu64 : u < 18446744073709551616) (w : World) (htab : Lib.TabIs Tryz.prog w "internal/strconv.uint64pow10" .u64 Lib.pow10Tab) :
    Ret 166 #[.int .u64 u, .int .i64 10] w (.string ⟨(Lib.decDigits u).toArray⟩) := by
  have h := inner_FormatUint u hu64 w htab
  have H := Lib.hid h
  clear h
  have Hu := Lib.hid hu64
  clear hu64
  go_enter Tryz.func166, Tryz.ntmps166
  go_wp2_with fail
  refine (H.out).mono ?_
  rintro e w' ⟨rfl, hb⟩
  go_wp2
  go_ret
  exact ⟨rfl, hb⟩
end Go.Proofs.YtinlfheonlpceaaGreatDoor

/- The contracts of package gens: Check, Left, After, Next, Newer, Text, Parse. -/
namespace Go.Proofs.YtinlfheonlpceaaGreatDoor
open Go.RowKit
open Go.Lib (decDigits)

theorem Ret.to {f : FuncId} {args : Array Value} {w : World} {v v' : Value} (h : Ret f args w v) (e : v = v') : Ret f args w v' := by rw [← e]; exact h

theorem check_any (g : Int) (w : World) (h1 : 0 ≤ g) (h2 : g ≤ 4294967295) :
    Calls Tryz.prog 133 #[.int .u32 g] w fun e w' => e = .returned (.int .i64 (gErr g)) ∧ w' = w := by
  by_cases h : 1 ≤ g
  · rw [gErr_pos h]
    go_enter Tryz.func133, Tryz.ntmps133
    go_wp2
    go_ret
    exact ⟨rfl, rfl⟩
  · obtain rfl : g = 0 := by omega
    rw [gErr_zero]
    go_enter Tryz.func133, Tryz.ntmps133
    go_wp2
    go_ret
    exact ⟨rfl, rfl⟩

theorem text_zero (w : World) : Ret 163 #[.int .u32 0] w (.tuple #[.string ⟨#[]⟩, .int .i64 2]) := by
  go_enter Tryz.func163, Tryz.ntmps163
  go_wp2
  go_rounds 2
  go_returns
  refine ⟨rfl, ?_⟩
  go_grown
theorem text_pos (g : Nat) (w : World) (hE : Env w) (h1 : 1 ≤ g) (h2 : g ≤ 4294967295) :
    Ret 163 #[.int .u32 g] w (.tuple #[.string (digits g), .int .i64 0]) := by
  go_enter Tryz.func163, Tryz.ntmps163
  go_wp2
  refine wp_loop_rounds 2 ?_
  repeat any_goals (rw [rounds_succ]; go_wp2_with (first | (go_at_call 166; refine (strconv_FormatUint g (by omega) _ ((hE.alloc _).alloc _).tabIs).mono ?_; rintro e w' ⟨rfl, hb⟩) | go_in))
  go_returns
  exact ⟨rfl, off_alloc (off_alloc hb)⟩
theorem text_any (g : Int) (w : World) (hE : Env w) (h1 : 0 ≤ g) (h2 : g ≤ 4294967295) :
    Ret 163 #[.int .u32 g] w (.tuple #[.string (gText g), .int .i64 (gErr g)]) := by
  by_cases h : 1 ≤ g
  · obtain ⟨n, rfl⟩ : ∃ n : Nat, g = n := ⟨g.toNat, by omega⟩
    rw [gErr_pos h, gText_pos h, Int.toNat_natCast]; exact text_pos n w hE (by omega) (by omega)
  · obtain rfl : g = 0 := by omega
    rw [gErr_zero, gText_zero]; exact text_zero w

/-- What ParseUint(s, 10, 32) gives where s is a numeral of the size. -/
theorem pu32_ok (s : ByteArray) (hs : s.size ≤ 100000) (u : Nat) (h : Lib.parseUintB 32 s.data.toList = .ok u) (w : World) :
    Ret 162 #[.string s, .int .i64 10, .int .i64 32] w (.tuple #[.int .u64 u, .nilIface]) :=
  (Tryz.strconv_ParseUint_10_at32_ok s (by omega) u h w).mono fun e w' ⟨he, hw⟩ => ⟨he, by
    rcases hw with rfl | rfl
    · exact Below.refl _ _
    · exact Lib.bytesWorld_below _ _ _⟩
/-- .. and where it is not: some number, and an error. -/
theorem pu32_bad (s : ByteArray) (hs : s.size ≤ 100000) (h : ∀ u, Lib.parseUintB 32 s.data.toList ≠ .ok u) (w : World) (hE : EnvP w) :
    Calls Tryz.prog 162 #[.string s, .int .i64 10, .int .i64 32] w fun e w' => ∃ (n : Int) (N : Nat), e = .returned (.tuple #[.int .u64 n, .iface 180 (.pointer (some ⟨N, 0, none⟩))]) ∧ 0 ≤ n ∧ n ≤ 4294967295 ∧ Below w.heap.size w w' := by
  obtain ⟨tp, p, _, _, _, hsyn⟩ := hE.syn
  obtain ⟨tq, q, _, _, _, hrng⟩ := hE.rng
  cases hp : Lib.parseUintB 32 s.data.toList with
  | ok u => exact absurd hp (h u)
  | range => exact (Any.strconv_ParseUint_10_at32_range_var Tryz.laysPu14 s (by omega) hp tq q w hrng).mono fun e w' ⟨N, he, _, _, hb⟩ => ⟨4294967295, N, he, by omega, by omega, hb⟩
  | _ => exact (Any.strconv_ParseUint_10_at32_syntax_var Tryz.laysPu14 s (by omega) hp tp p w hsyn).mono fun e w' ⟨N, he, _, _, hb⟩ => ⟨0, N, he, by omega, by omega, hb⟩
theorem parse_ok (n : Nat) (w : World) (hE : EnvP w) (h1 : 1 ≤ n) (h2 : n ≤ 4294967295) :
    Ret 153 #[.string (digits n)] w (.tuple #[.int .u32 n, .int .i64 0]) := by
  have hl : (digits n).size ≤ 100000 := by
    have := nDigits_le_10 n (by omega)
    have e : (digits n).size = (Lib.decDigits n).length := by simp [digits, ByteArray.size]
    omega
  have hp : Lib.parseUintB 32 (digits n).data.toList = .ok n := by rw [digits_list]; exact parseUintB_decDigits 32 n (by omega) (by omega)
  have hc := pu32_ok (digits n) hl n hp w
  have HC := Lib.hid hc
  clear hc hp hl
  go_enter Tryz.func153, Tryz.ntmps153
  go_wp2_with fail
  refine (HC.out).mono ?_
  rintro e w1 ⟨rfl, hb⟩
  go_wp2_with fail
  refine (text_pos n _ (hE.on hb).toEnv h1 h2).mono ?_
  rintro e w2 ⟨rfl, hb2⟩
  go_wp2
  go_returns
  exact ⟨rfl, chain hb hb2⟩
theorem parse_bad (s : ByteArray) (w : World) (hE : EnvP w) (hs : s.size ≤ 100000) (hg : isGen s.data.toList = false) :
    Ret 153 #[.string s] w (.tuple #[.int .u32 0, .int .i64 9]) := by
  cases h : Lib.parseUintB 32 s.data.toList with
  | ok u =>
    obtain ⟨hv, hall, hle, hne⟩ := parseUintB_ok _ _ _ h
    have hle' : u ≤ 4294967295 := by omega
    have hc := pu32_ok s hs u h w
    have HC := Lib.hid hc
    clear hc h
    by_cases hu : 1 ≤ u
    · have hd : ((digits u).toList == s.toList) = false := by
        refine str_beq_ne fun e => ?_
        have : isGen s.data.toList = true := (isGen_iff _).2 ⟨u, hu, hle', by rw [← e, digits_list]⟩
        rw [hg] at this; cases this
      clear hg hv hall hne hle
      go_enter Tryz.func153, Tryz.ntmps153
      go_wp2_with fail
      refine (HC.out).mono ?_
      rintro e w1 ⟨rfl, hb⟩
      go_wp2_with fail
      refine (text_pos u _ (hE.on hb).toEnv hu hle').mono ?_
      rintro e w2 ⟨rfl, hb2⟩
      go_wp2
      go_returns
      exact ⟨rfl, chain hb hb2⟩
    · obtain rfl : u = 0 := by omega
      clear hg hv hall hne hle
      go_enter Tryz.func153, Tryz.ntmps153
      go_wp2_with fail
      refine (HC.out).mono ?_
      rintro e w1 ⟨rfl, hb⟩
      go_wp2_with fail
      refine (text_zero _).mono ?_
      rintro e w2 ⟨rfl, hb2⟩
      go_wp2
      go_returns
      exact ⟨rfl, chain hb hb2⟩
  | _ =>
    have hc := pu32_bad s hs (by intro u hu; rw [h] at hu; cases hu) w hE
    have HC := Lib.hid hc
    clear hc h hg
    go_enter Tryz.func153, Tryz.ntmps153
    go_wp2_with fail
    refine (HC.out).mono ?_
    rintro e w1 ⟨n, N, rfl, h0, h1, hb⟩
    go_wp2_with fail
    refine (text_any n _ (hE.on hb).toEnv h0 h1).mono ?_
    rintro e w2 ⟨rfl, hb2⟩
    go_wp2
    go_returns
    exact ⟨rfl, chain hb hb2⟩
theorem parse_any (s : ByteArray) (w : World) (hE : EnvP w) (hs : s.size ≤ 100000) :
    Ret 153 #[.string s] w (.tuple #[.int .u32 (gParse s.data.toList), .int .i64 (gParseE s.data.toList)]) := by
  cases hg : isGen s.data.toList with
  | true =>
    obtain ⟨n, h1, h2, h3⟩ := (isGen_iff _).1 hg
    have e : s = digits n := by
      apply ByteArray.ext
      apply Array.ext'
      rw [digits_list, h3]
    subst e
    rw [digits_list, (gParse_digits h1 h2).1, (gParse_digits h1 h2).2]
    exact parse_ok n w hE h1 h2
  | false =>
    rw [(gParse_not hg).1, (gParse_not hg).2]
    exact parse_bad s w hE hs hg
end Go.Proofs.YtinlfheonlpceaaGreatDoor

/- Contracts of package descr: letters, check. -/
namespace Go.Proofs.YtinlfheonlpceaaGreatDoor
open Go.RowKit

abbrev nmV (k s g : Int) : Value := .agg #[.int .i64 k, .int .i64 s, .int .i64 g]
abbrev dV (k s g : Int) : Value := .agg #[.int .i64 k, .int .i64 s, .int .u32 g]


theorem letters_c (w : World) : Calls Tryz.prog 113 #[] w fun e w' => e = .returned (.slice (some ⟨w.heap.size, 0, none⟩) 4 4) ∧ w' = w.alloc (.cells #[.string ⟨#[]⟩, .string ⟨#[102]⟩, .string ⟨#[98]⟩, .string ⟨#[108]⟩] 9) := by
  go_enter Tryz.func113, Tryz.ntmps113
  go_wp2
  go_returns
  exact ⟨rfl, rfl⟩

set_option maxHeartbeats 2000000 in
theorem nm_check_ok (size k s g : Int) (w : World) (h : dOk size k s g = true) (g0 : 0 ≤ g) (g1 : g ≤ 4294967295) :
    Ret 106 #[nmV k s g, .int .i64 size] w (.int .i64 0) := by
  rw [dOk_iff] at h
  obtain ⟨k1, k3, s0, s1, hg⟩ := h
  have hg1 : 1 ≤ g := by omega
  have e1 : (g == 0) = false := by rw [beq_eq_false_iff_ne]; exact hg
  clear hg
  go_enter Tryz.func106, Tryz.ntmps106
  go_wp2_with (go_at_call 133; refine (check_any _ _ g0 g1).mono ?_; rintro e w' ⟨rfl, rfl⟩)
  rw [gErr_pos hg1]
  go_returns
  exact ⟨rfl, by go_grown⟩
set_option maxHeartbeats 4000000 in
theorem nm_check_bad (size k s g : Int) (w : World) (h : dOk size k s g = false) (g0 : 0 ≤ g) (g1 : g ≤ 4294967295) :
    Ret 106 #[nmV k s g, .int .i64 size] w (.int .i64 2) := by
  have h' := dOk_not h
  have h2 : k < 1 ∨ (1 ≤ k ∧ (3 < k ∨ (k ≤ 3 ∧ (s < 0 ∨ (0 ≤ s ∧ (size ≤ s ∨ (s < size ∧ g = 0))))))) := by omega
  clear h h'
  rcases h2 with h | ⟨h1, h | ⟨h2, h | ⟨h3, h | ⟨h4, rfl⟩⟩⟩⟩
  · go_enter Tryz.func106, Tryz.ntmps106
    go_wp2
    go_returns
    exact ⟨rfl, by go_grown⟩
  · go_enter Tryz.func106, Tryz.ntmps106
    go_wp2
    go_returns
    exact ⟨rfl, by go_grown⟩
  · go_enter Tryz.func106, Tryz.ntmps106
    go_wp2
    go_returns
    exact ⟨rfl, by go_grown⟩
  · go_enter Tryz.func106, Tryz.ntmps106
    go_wp2
    go_returns
    exact ⟨rfl, by go_grown⟩
  · go_enter Tryz.func106, Tryz.ntmps106
    go_wp2_with (go_at_call 133; refine (check_any _ _ (by omega) (by omega)).mono ?_; rintro e w' ⟨rfl, rfl⟩)
    rw [gErr_zero]
    go_returns
    exact ⟨rfl, by go_grown⟩
theorem nm_check (size k s g : Int) (w : World) (g0 : 0 ≤ g) (g1 : g ≤ 4294967295) :
    Ret 106 #[nmV k s g, .int .i64 size] w (.int .i64 (dErr size k s g)) := by
  cases h : dOk size k s g with
  | true => rw [dErr_ok h]; exact nm_check_ok size k s g w h g0 g1
  | false => rw [dErr_bad h]; exact nm_check_bad size k s g w h g0 g1
end Go.Proofs.YtinlfheonlpceaaGreatDoor

/- Contracts of package descr: text. -/
namespace Go.Proofs.YtinlfheonlpceaaGreatDoor
open Go.RowKit
open Go.Lib (decDigits)

theorem itoa_ret (n : Int) (w : World) (hE : Env w) (h0 : 0 ≤ n) (h1 : n ≤ 9223372036854775807) :
    Ret 114 #[.int .i64 n] w (.string (digits n.toNat)) := by
  have h := strconv_Itoa n w hE (by omega) h1
  have e : Lib.itoa n = decDigits n.toNat := by unfold Lib.itoa; rw [if_neg (by omega)]
  rw [e] at h
  exact h
theorem cat_text (c : UInt8) (k s g : Int) : (ByteArray.mk #[letterB k]) ++ digits s.toNat ++ ⟨#[c]⟩ ++ digits g.toNat = dText c k s g := by
  apply str_ext
  simp [dText_list, dTextL, digits]
set_option linter.unusedSimpArgs false in
set_option maxHeartbeats 4000000 in
set_option maxRecDepth 20000 in
theorem nm_text_at (c l : UInt8) (k s g : Int) (j : Nat) (w : World) (hE : Env w) (hk : (k = 1 ∧ l = 102 ∧ j = 1) ∨ (k = 2 ∧ l = 98 ∧ j = 2) ∨ (k = 3 ∧ l = 108 ∧ j = 3)) (s0 : 0 ≤ s) (s1 : s < 10000000000) (g0 : 0 ≤ g) (g1 : g ≤ 4294967295) (t1 t2 t3 : ByteArray)
    (h1 : ByteArray.mk #[l] ++ digits s.toNat = t1) (h2 : t1 ++ ⟨#[c]⟩ = t2) (h3 : t2 ++ digits g.toNat = t3) :
    Ret 86 #[nmV k s g, .string ⟨#[c]⟩] w (.string t3) := by
  have hz1 := digits_size_le s.toNat (by omega)
  have hz2 := digits_size_le g.toNat (by omega)
  have e1 : t1.size ≤ 21 := by rw [← h1, ByteArray.size_append]; simp only [show (ByteArray.mk #[l]).size = 1 from rfl]; omega
  have e2 : t2.size ≤ 22 := by rw [← h2, ByteArray.size_append]; simp only [show (ByteArray.mk #[c]).size = 1 from rfl]; omega
  have r1 := add_run h1 (by simp only [show (ByteArray.mk #[l]).size = 1 from rfl]; omega)
  have r2 := add_run h2 (by simp only [show (ByteArray.mk #[c]).size = 1 from rfl]; omega)
  have r3 := add_run h3 (by omega)
  clear e1 e2 hz1 hz2 h1 h2 h3
  rcases hk with ⟨rfl, rfl, rfl⟩ | ⟨rfl, rfl, rfl⟩ | ⟨rfl, rfl, rfl⟩
  · go_enter Tryz.func86, Tryz.ntmps86
    go_wp2_with fail
    refine wp_region_held_drew (S := fun W' => W'.cell? ⟨w.heap.size, 0, none⟩ = some (.int .i64 1) ∧ W'.cell? ⟨w.heap.size, 1, none⟩ = some (.int .i64 s) ∧ W'.cell? ⟨w.heap.size, 2, none⟩ = some (.int .i64 g)) (by kernel_rfl) ?_ (fun hHeld => ?_)
    · go_keep
    refine' wpAnyH_take (i := 1) (oi := _) (v := _) ?_ (by kernel_rfl) (by kernel_rfl) (by kernel_rfl) ?_ (Or.inl ⟨?_, ?_⟩) (by assumption) ?_
    rotate_left 2
    · (simp only [List.getElem?_toArray, List.getElem?_cons_succ, List.getElem?_cons_zero]; rfl)
    · first | exact fun _ _ _ h => h | exact fun _ _ _ h => nomatch h.1
    · rfl
    · (intro W hSW; (try dsimp only at hSW); go_split_ands; first | (go_simp; done) | (go_simp; with_reducible rfl))
    try simp only [Act.put, List.setIfInBounds_toArray, List.set_cons_zero, List.set_cons_succ]
    refine' wpAnyH_take (i := 2) (oi := _) (v := _) ?_ (by kernel_rfl) (by kernel_rfl) (by kernel_rfl) ?_ (Or.inl ⟨?_, ?_⟩) (by assumption) ?_
    rotate_left 2
    · (simp only [List.getElem?_toArray, List.getElem?_cons_succ, List.getElem?_cons_zero]; rfl)
    · first | exact fun _ _ _ h => h | exact fun _ _ _ h => nomatch h.1
    · rfl
    · (intro W hSW; (try dsimp only at hSW); go_split_ands; first | (go_simp; done) | (go_simp; with_reducible rfl))
    try simp only [Act.put, List.setIfInBounds_toArray, List.set_cons_zero, List.set_cons_succ]
    refine' wpAnyH_take (i := 5) (oi := _) (v := _) ?_ (by kernel_rfl) (by kernel_rfl) (by kernel_rfl) ?_ (Or.inl ⟨?_, ?_⟩) (by assumption) ?_
    rotate_left 2
    · (simp only [List.getElem?_toArray, List.getElem?_cons_succ, List.getElem?_cons_zero]; rfl)
    · first | exact fun _ _ _ h => h | exact fun _ _ _ h => nomatch h.1
    · rfl
    · (intro W hSW; (try dsimp only at hSW); go_split_ands; first | (go_simp; done) | (go_simp; with_reducible rfl))
    try simp only [Act.put, List.setIfInBounds_toArray, List.set_cons_zero, List.set_cons_succ]
    refine' wpAnyH_take (i := 6) (oi := _) (v := _) ?_ (by kernel_rfl) (by kernel_rfl) (by kernel_rfl) ?_ (Or.inl ⟨?_, ?_⟩) (by assumption) ?_
    rotate_left 2
    · (simp only [List.getElem?_toArray, List.getElem?_cons_succ, List.getElem?_cons_zero]; rfl)
    · first | exact fun _ _ _ h => h | exact fun _ _ _ h => nomatch h.1
    · rfl
    · (intro W hSW; (try dsimp only at hSW); go_split_ands; first | (go_simp; done) | (go_simp; with_reducible rfl))
    try simp only [Act.put, List.setIfInBounds_toArray, List.set_cons_zero, List.set_cons_succ]
    refine' wpAnyH_take (i := 9) (oi := _) (v := _) ?_ (by kernel_rfl) (by kernel_rfl) (by kernel_rfl) ?_ (Or.inl ⟨?_, ?_⟩) (by assumption) ?_
    rotate_left 2
    · (simp only [List.getElem?_toArray, List.getElem?_cons_succ, List.getElem?_cons_zero]; rfl)
    · first | exact fun _ _ _ h => h | exact fun _ _ _ h => nomatch h.1
    · rfl
    · (intro W hSW; (try dsimp only at hSW); go_split_ands; first | (go_simp; done) | (go_simp; with_reducible rfl))
    try simp only [Act.put, List.setIfInBounds_toArray, List.set_cons_zero, List.set_cons_succ]
    refine' wpAnyH_take (i := 11) (oi := _) (v := _) ?_ (by kernel_rfl) (by kernel_rfl) (by kernel_rfl) ?_ (Or.inl ⟨?_, ?_⟩) (by assumption) ?_
    rotate_left 2
    · (simp only [List.getElem?_toArray, List.getElem?_cons_succ, List.getElem?_cons_zero]; rfl)
    · first | exact fun _ _ _ h => h | exact fun _ _ _ h => nomatch h.1
    · rfl
    · (intro W hSW; (try dsimp only at hSW); go_split_ands; first | (go_simp; done) | (go_simp; with_reducible rfl))
    try simp only [Act.put, List.setIfInBounds_toArray, List.set_cons_zero, List.set_cons_succ]
    refine' wpAnyH_take (i := 12) (oi := _) (v := _) ?_ (by kernel_rfl) (by kernel_rfl) (by kernel_rfl) ?_ (Or.inl ⟨?_, ?_⟩) (by assumption) ?_
    rotate_left 2
    · (simp only [List.getElem?_toArray, List.getElem?_cons_succ, List.getElem?_cons_zero]; rfl)
    · first | exact fun _ _ _ h => h | exact fun _ _ _ h => nomatch h.1
    · rfl
    · (intro W hSW; (try dsimp only at hSW); go_split_ands; first | (go_simp; done) | (go_simp; with_reducible rfl))
    try simp only [Act.put, List.setIfInBounds_toArray, List.set_cons_zero, List.set_cons_succ]
    refine wpAnyH_ready (rs := [0]) (by kernel_rfl) (by simp) ?_
    refine' AllReadyH.cons (o := _) ?_ (fun K hK => ?_) AllReadyH.nil
    rotate_left 1
    · (simp only [List.getElem?_toArray, List.getElem?_cons_succ, List.getElem?_cons_zero]; rfl)
    go_simp
    refine (letters_c _).mono ?_
    rintro e w1 ⟨rfl, rfl⟩
    go_simp
    refine hK.out _ _ ?_ (fun hHeld => ?_)
    · go_keep
    clear hHeld
    refine wpAnyH_more (S' := fun W' => W'.cell? ⟨w.heap.size, 0, none⟩ = some (.int .i64 1) ∧ W'.cell? ⟨w.heap.size, 1, none⟩ = some (.int .i64 s) ∧ W'.cell? ⟨w.heap.size, 2, none⟩ = some (.int .i64 g) ∧ W'.cell? ⟨w.heap.size + 1, 1, none⟩ = some (.string ⟨#[102]⟩)) (fun _ h => ⟨h.1, h.2.1, h.2.2.1⟩) ?_ (fun hHeld => ?_)
    · go_keep
    refine' wpAnyH_take (i := 3) (oi := _) (v := _) ?_ (by kernel_rfl) (by kernel_rfl) (by kernel_rfl) ?_ (Or.inl ⟨?_, ?_⟩) (by assumption) ?_
    rotate_left 2
    · (simp only [List.getElem?_toArray, List.getElem?_cons_succ, List.getElem?_cons_zero]; rfl)
    · first | exact fun _ _ _ h => h | exact fun _ _ _ h => nomatch h.1
    · rfl
    · (intro W hSW; (try dsimp only at hSW); go_split_ands; first | (go_simp; done) | (go_simp; with_reducible rfl))
    try simp only [Act.put, List.setIfInBounds_toArray, List.set_cons_zero, List.set_cons_succ]
    refine' wpAnyH_take (i := 4) (oi := _) (v := _) ?_ (by kernel_rfl) (by kernel_rfl) (by kernel_rfl) ?_ (Or.inl ⟨?_, ?_⟩) (by assumption) ?_
    rotate_left 2
    · (simp only [List.getElem?_toArray, List.getElem?_cons_succ, List.getElem?_cons_zero]; rfl)
    · first | exact fun _ _ _ h => h | exact fun _ _ _ h => nomatch h.1
    · rfl
    · (intro W hSW; (try dsimp only at hSW); go_split_ands; first | (go_simp; done) | (go_simp; with_reducible rfl))
    try simp only [Act.put, List.setIfInBounds_toArray, List.set_cons_zero, List.set_cons_succ]
    refine wpAnyH_ready (rs := [7]) (by kernel_rfl) (by simp) ?_
    refine' AllReadyH.cons (o := _) ?_ (fun K hK => ?_) AllReadyH.nil
    rotate_left 1
    · (simp only [List.getElem?_toArray, List.getElem?_cons_succ, List.getElem?_cons_zero]; rfl)
    go_simp
    refine (itoa_ret s _ ?_ ?_ ?_).mono ?_
    · exact hE.on (by go_grown)
    · omega
    · omega
    rintro e w1 ⟨rfl, hb1⟩
    have hB1 := under (w := w) hb1
    go_simp
    refine hK.out _ _ ?_ (fun hHeld => ?_)
    · (go_split_ands; refine ⟨?_, ?_, ?_, ?_⟩ <;> exact keep_cell hb1 (by first | (simp; done) | (simp; omega)) (by assumption))
    clear hK K
    refine' wpAnyH_take (i := 8) (oi := _) (v := _) ?_ (by kernel_rfl) (by kernel_rfl) (by kernel_rfl) ?_ (Or.inl ⟨?_, ?_⟩) (by assumption) ?_
    rotate_left 2
    · (simp only [List.getElem?_toArray, List.getElem?_cons_succ, List.getElem?_cons_zero]; rfl)
    · first | exact fun _ _ _ h => h | exact fun _ _ _ h => nomatch h.1
    · rfl
    · (intro W hSW; (try dsimp only at hSW); go_split_ands; first | (go_simp; done) | (go_simp; with_reducible rfl))
    try simp only [Act.put, List.setIfInBounds_toArray, List.set_cons_zero, List.set_cons_succ]
    refine' wpAnyH_take (i := 10) (oi := _) (v := _) ?_ (by kernel_rfl) (by kernel_rfl) (by kernel_rfl) ?_ (Or.inl ⟨?_, ?_⟩) (by assumption) ?_
    rotate_left 2
    · (simp only [List.getElem?_toArray, List.getElem?_cons_succ, List.getElem?_cons_zero]; rfl)
    · first | exact fun _ _ _ h => h | exact fun _ _ _ h => nomatch h.1
    · rfl
    · (intro W hSW; (try dsimp only at hSW); go_split_ands; first | (go_simp; done) | (go_simp; with_reducible rfl))
    try simp only [Act.put, List.setIfInBounds_toArray, List.set_cons_zero, List.set_cons_succ]
    refine wpAnyH_ready (rs := [13]) (by kernel_rfl) (by simp) ?_
    refine' AllReadyH.cons (o := _) ?_ (fun K hK => ?_) AllReadyH.nil
    rotate_left 1
    · (simp only [List.getElem?_toArray, List.getElem?_cons_succ, List.getElem?_cons_zero]; rfl)
    go_simp
    refine (itoa_ret g _ ?_ ?_ ?_).mono ?_
    · exact hE.on hB1
    · omega
    · omega
    rintro e w2 ⟨rfl, hb2⟩
    go_simp
    refine hK.out _ _ ?_ (fun hHeld => ?_)
    · (go_split_ands; refine ⟨?_, ?_, ?_, ?_⟩ <;> exact keep_cell hb2 (by have := hb1.size; simp at this; omega) (by assumption))
    clear hK K
    refine' wpAnyH_take (i := 14) (oi := _) (v := _) ?_ (by kernel_rfl) (by kernel_rfl) (by kernel_rfl) ?_ (Or.inl ⟨?_, ?_⟩) (by assumption) ?_
    rotate_left 2
    · (simp only [List.getElem?_toArray, List.getElem?_cons_succ, List.getElem?_cons_zero]; rfl)
    · first | exact fun _ _ _ h => h | exact fun _ _ _ h => nomatch h.1
    · rfl
    · (intro W hSW; (try dsimp only at hSW); go_split_ands; first | (go_simp; done) | (go_simp; with_reducible rfl))
    try simp only [Act.put, List.setIfInBounds_toArray, List.set_cons_zero, List.set_cons_succ]
    refine' wpAnyH_take (i := 15) (oi := _) (v := _) ?_ (by kernel_rfl) (by kernel_rfl) (by kernel_rfl) ?_ (Or.inl ⟨?_, ?_⟩) (by assumption) ?_
    rotate_left 2
    · (simp only [List.getElem?_toArray, List.getElem?_cons_succ, List.getElem?_cons_zero]; rfl)
    · first | exact fun _ _ _ h => h | exact fun _ _ _ h => nomatch h.1
    · rfl
    · (intro W hSW; (try dsimp only at hSW); go_split_ands; first | (go_simp; done) | (go_simp; with_reducible rfl))
    try simp only [Act.put, List.setIfInBounds_toArray, List.set_cons_zero, List.set_cons_succ]
    refine wpAnyH_done (by kernel_rfl) ?_ _
    go_wp2_with fail
    go_returns
    exact ⟨rfl, chain hB1 hb2⟩
  · go_enter Tryz.func86, Tryz.ntmps86
    go_wp2_with fail
    refine wp_region_held_drew (S := fun W' => W'.cell? ⟨w.heap.size, 0, none⟩ = some (.int .i64 2) ∧ W'.cell? ⟨w.heap.size, 1, none⟩ = some (.int .i64 s) ∧ W'.cell? ⟨w.heap.size, 2, none⟩ = some (.int .i64 g)) (by kernel_rfl) ?_ (fun hHeld => ?_)
    · go_keep
    refine' wpAnyH_take (i := 1) (oi := _) (v := _) ?_ (by kernel_rfl) (by kernel_rfl) (by kernel_rfl) ?_ (Or.inl ⟨?_, ?_⟩) (by assumption) ?_
    rotate_left 2
    · (simp only [List.getElem?_toArray, List.getElem?_cons_succ, List.getElem?_cons_zero]; rfl)
    · first | exact fun _ _ _ h => h | exact fun _ _ _ h => nomatch h.1
    · rfl
    · (intro W hSW; (try dsimp only at hSW); go_split_ands; first | (go_simp; done) | (go_simp; with_reducible rfl))
    try simp only [Act.put, List.setIfInBounds_toArray, List.set_cons_zero, List.set_cons_succ]
    refine' wpAnyH_take (i := 2) (oi := _) (v := _) ?_ (by kernel_rfl) (by kernel_rfl) (by kernel_rfl) ?_ (Or.inl ⟨?_, ?_⟩) (by assumption) ?_
    rotate_left 2
    · (simp only [List.getElem?_toArray, List.getElem?_cons_succ, List.getElem?_cons_zero]; rfl)
    · first | exact fun _ _ _ h => h | exact fun _ _ _ h => nomatch h.1
    · rfl
    · (intro W hSW; (try dsimp only at hSW); go_split_ands; first | (go_simp; done) | (go_simp; with_reducible rfl))
    try simp only [Act.put, List.setIfInBounds_toArray, List.set_cons_zero, List.set_cons_succ]
    refine' wpAnyH_take (i := 5) (oi := _) (v := _) ?_ (by kernel_rfl) (by kernel_rfl) (by kernel_rfl) ?_ (Or.inl ⟨?_, ?_⟩) (by assumption) ?_
    rotate_left 2
    · (simp only [List.getElem?_toArray, List.getElem?_cons_succ, List.getElem?_cons_zero]; rfl)
    · first | exact fun _ _ _ h => h | exact fun _ _ _ h => nomatch h.1
    · rfl
    · (intro W hSW; (try dsimp only at hSW); go_split_ands; first | (go_simp; done) | (go_simp; with_reducible rfl))
    try simp only [Act.put, List.setIfInBounds_toArray, List.set_cons_zero, List.set_cons_succ]
    refine' wpAnyH_take (i := 6) (oi := _) (v := _) ?_ (by kernel_rfl) (by kernel_rfl) (by kernel_rfl) ?_ (Or.inl ⟨?_, ?_⟩) (by assumption) ?_
    rotate_left 2
    · (simp only [List.getElem?_toArray, List.getElem?_cons_succ, List.getElem?_cons_zero]; rfl)
    · first | exact fun _ _ _ h => h | exact fun _ _ _ h => nomatch h.1
    · rfl
    · (intro W hSW; (try dsimp only at hSW); go_split_ands; first | (go_simp; done) | (go_simp; with_reducible rfl))
    try simp only [Act.put, List.setIfInBounds_toArray, List.set_cons_zero, List.set_cons_succ]
    refine' wpAnyH_take (i := 9) (oi := _) (v := _) ?_ (by kernel_rfl) (by kernel_rfl) (by kernel_rfl) ?_ (Or.inl ⟨?_, ?_⟩) (by assumption) ?_
    rotate_left 2
    · (simp only [List.getElem?_toArray, List.getElem?_cons_succ, List.getElem?_cons_zero]; rfl)
    · first | exact fun _ _ _ h => h | exact fun _ _ _ h => nomatch h.1
    · rfl
    · (intro W hSW; (try dsimp only at hSW); go_split_ands; first | (go_simp; done) | (go_simp; with_reducible rfl))
    try simp only [Act.put, List.setIfInBounds_toArray, List.set_cons_zero, List.set_cons_succ]
    refine' wpAnyH_take (i := 11) (oi := _) (v := _) ?_ (by kernel_rfl) (by kernel_rfl) (by kernel_rfl) ?_ (Or.inl ⟨?_, ?_⟩) (by assumption) ?_
    rotate_left 2
    · (simp only [List.getElem?_toArray, List.getElem?_cons_succ, List.getElem?_cons_zero]; rfl)
    · first | exact fun _ _ _ h => h | exact fun _ _ _ h => nomatch h.1
    · rfl
    · (intro W hSW; (try dsimp only at hSW); go_split_ands; first | (go_simp; done) | (go_simp; with_reducible rfl))
    try simp only [Act.put, List.setIfInBounds_toArray, List.set_cons_zero, List.set_cons_succ]
    refine' wpAnyH_take (i := 12) (oi := _) (v := _) ?_ (by kernel_rfl) (by kernel_rfl) (by kernel_rfl) ?_ (Or.inl ⟨?_, ?_⟩) (by assumption) ?_
    rotate_left 2
    · (simp only [List.getElem?_toArray, List.getElem?_cons_succ, List.getElem?_cons_zero]; rfl)
    · first | exact fun _ _ _ h => h | exact fun _ _ _ h => nomatch h.1
    · rfl
    · (intro W hSW; (try dsimp only at hSW); go_split_ands; first | (go_simp; done) | (go_simp; with_reducible rfl))
    try simp only [Act.put, List.setIfInBounds_toArray, List.set_cons_zero, List.set_cons_succ]
    refine wpAnyH_ready (rs := [0]) (by kernel_rfl) (by simp) ?_
    refine' AllReadyH.cons (o := _) ?_ (fun K hK => ?_) AllReadyH.nil
    rotate_left 1
    · (simp only [List.getElem?_toArray, List.getElem?_cons_succ, List.getElem?_cons_zero]; rfl)
    go_simp
    refine (letters_c _).mono ?_
    rintro e w1 ⟨rfl, rfl⟩
    go_simp
    refine hK.out _ _ ?_ (fun hHeld => ?_)
    · go_keep
    clear hHeld
    refine wpAnyH_more (S' := fun W' => W'.cell? ⟨w.heap.size, 0, none⟩ = some (.int .i64 2) ∧ W'.cell? ⟨w.heap.size, 1, none⟩ = some (.int .i64 s) ∧ W'.cell? ⟨w.heap.size, 2, none⟩ = some (.int .i64 g) ∧ W'.cell? ⟨w.heap.size + 1, 2, none⟩ = some (.string ⟨#[98]⟩)) (fun _ h => ⟨h.1, h.2.1, h.2.2.1⟩) ?_ (fun hHeld => ?_)
    · go_keep
    refine' wpAnyH_take (i := 3) (oi := _) (v := _) ?_ (by kernel_rfl) (by kernel_rfl) (by kernel_rfl) ?_ (Or.inl ⟨?_, ?_⟩) (by assumption) ?_
    rotate_left 2
    · (simp only [List.getElem?_toArray, List.getElem?_cons_succ, List.getElem?_cons_zero]; rfl)
    · first | exact fun _ _ _ h => h | exact fun _ _ _ h => nomatch h.1
    · rfl
    · (intro W hSW; (try dsimp only at hSW); go_split_ands; first | (go_simp; done) | (go_simp; with_reducible rfl))
    try simp only [Act.put, List.setIfInBounds_toArray, List.set_cons_zero, List.set_cons_succ]
    refine' wpAnyH_take (i := 4) (oi := _) (v := _) ?_ (by kernel_rfl) (by kernel_rfl) (by kernel_rfl) ?_ (Or.inl ⟨?_, ?_⟩) (by assumption) ?_
    rotate_left 2
    · (simp only [List.getElem?_toArray, List.getElem?_cons_succ, List.getElem?_cons_zero]; rfl)
    · first | exact fun _ _ _ h => h | exact fun _ _ _ h => nomatch h.1
    · rfl
    · (intro W hSW; (try dsimp only at hSW); go_split_ands; first | (go_simp; done) | (go_simp; with_reducible rfl))
    try simp only [Act.put, List.setIfInBounds_toArray, List.set_cons_zero, List.set_cons_succ]
    refine wpAnyH_ready (rs := [7]) (by kernel_rfl) (by simp) ?_
    refine' AllReadyH.cons (o := _) ?_ (fun K hK => ?_) AllReadyH.nil
    rotate_left 1
    · (simp only [List.getElem?_toArray, List.getElem?_cons_succ, List.getElem?_cons_zero]; rfl)
    go_simp
    refine (itoa_ret s _ ?_ ?_ ?_).mono ?_
    · exact hE.on (by go_grown)
    · omega
    · omega
    rintro e w1 ⟨rfl, hb1⟩
    have hB1 := under (w := w) hb1
    go_simp
    refine hK.out _ _ ?_ (fun hHeld => ?_)
    · (go_split_ands; refine ⟨?_, ?_, ?_, ?_⟩ <;> exact keep_cell hb1 (by first | (simp; done) | (simp; omega)) (by assumption))
    clear hK K
    refine' wpAnyH_take (i := 8) (oi := _) (v := _) ?_ (by kernel_rfl) (by kernel_rfl) (by kernel_rfl) ?_ (Or.inl ⟨?_, ?_⟩) (by assumption) ?_
    rotate_left 2
    · (simp only [List.getElem?_toArray, List.getElem?_cons_succ, List.getElem?_cons_zero]; rfl)
    · first | exact fun _ _ _ h => h | exact fun _ _ _ h => nomatch h.1
    · rfl
    · (intro W hSW; (try dsimp only at hSW); go_split_ands; first | (go_simp; done) | (go_simp; with_reducible rfl))
    try simp only [Act.put, List.setIfInBounds_toArray, List.set_cons_zero, List.set_cons_succ]
    refine' wpAnyH_take (i := 10) (oi := _) (v := _) ?_ (by kernel_rfl) (by kernel_rfl) (by kernel_rfl) ?_ (Or.inl ⟨?_, ?_⟩) (by assumption) ?_
    rotate_left 2
    · (simp only [List.getElem?_toArray, List.getElem?_cons_succ, List.getElem?_cons_zero]; rfl)
    · first | exact fun _ _ _ h => h | exact fun _ _ _ h => nomatch h.1
    · rfl
    · (intro W hSW; (try dsimp only at hSW); go_split_ands; first | (go_simp; done) | (go_simp; with_reducible rfl))
    try simp only [Act.put, List.setIfInBounds_toArray, List.set_cons_zero, List.set_cons_succ]
    refine wpAnyH_ready (rs := [13]) (by kernel_rfl) (by simp) ?_
    refine' AllReadyH.cons (o := _) ?_ (fun K hK => ?_) AllReadyH.nil
    rotate_left 1
    · (simp only [List.getElem?_toArray, List.getElem?_cons_succ, List.getElem?_cons_zero]; rfl)
    go_simp
    refine (itoa_ret g _ ?_ ?_ ?_).mono ?_
    · exact hE.on hB1
    · omega
    · omega
    rintro e w2 ⟨rfl, hb2⟩
    go_simp
    refine hK.out _ _ ?_ (fun hHeld => ?_)
    · (go_split_ands; refine ⟨?_, ?_, ?_, ?_⟩ <;> exact keep_cell hb2 (by have := hb1.size; simp at this; omega) (by assumption))
    clear hK K
    refine' wpAnyH_take (i := 14) (oi := _) (v := _) ?_ (by kernel_rfl) (by kernel_rfl) (by kernel_rfl) ?_ (Or.inl ⟨?_, ?_⟩) (by assumption) ?_
    rotate_left 2
    · (simp only [List.getElem?_toArray, List.getElem?_cons_succ, List.getElem?_cons_zero]; rfl)
    · first | exact fun _ _ _ h => h | exact fun _ _ _ h => nomatch h.1
    · rfl
    · (intro W hSW; (try dsimp only at hSW); go_split_ands; first | (go_simp; done) | (go_simp; with_reducible rfl))
    try simp only [Act.put, List.setIfInBounds_toArray, List.set_cons_zero, List.set_cons_succ]
    refine' wpAnyH_take (i := 15) (oi := _) (v := _) ?_ (by kernel_rfl) (by kernel_rfl) (by kernel_rfl) ?_ (Or.inl ⟨?_, ?_⟩) (by assumption) ?_
    rotate_left 2
    · (simp only [List.getElem?_toArray, List.getElem?_cons_succ, List.getElem?_cons_zero]; rfl)
    · first | exact fun _ _ _ h => h | exact fun _ _ _ h => nomatch h.1
    · rfl
    · (intro W hSW; (try dsimp only at hSW); go_split_ands; first | (go_simp; done) | (go_simp; with_reducible rfl))
    try simp only [Act.put, List.setIfInBounds_toArray, List.set_cons_zero, List.set_cons_succ]
    refine wpAnyH_done (by kernel_rfl) ?_ _
    go_wp2_with fail
    go_returns
    exact ⟨rfl, chain hB1 hb2⟩
  · go_enter Tryz.func86, Tryz.ntmps86
    go_wp2_with fail
    refine wp_region_held_drew (S := fun W' => W'.cell? ⟨w.heap.size, 0, none⟩ = some (.int .i64 3) ∧ W'.cell? ⟨w.heap.size, 1, none⟩ = some (.int .i64 s) ∧ W'.cell? ⟨w.heap.size, 2, none⟩ = some (.int .i64 g)) (by kernel_rfl) ?_ (fun hHeld => ?_)
    · go_keep
    refine' wpAnyH_take (i := 1) (oi := _) (v := _) ?_ (by kernel_rfl) (by kernel_rfl) (by kernel_rfl) ?_ (Or.inl ⟨?_, ?_⟩) (by assumption) ?_
    rotate_left 2
    · (simp only [List.getElem?_toArray, List.getElem?_cons_succ, List.getElem?_cons_zero]; rfl)
    · first | exact fun _ _ _ h => h | exact fun _ _ _ h => nomatch h.1
    · rfl
    · (intro W hSW; (try dsimp only at hSW); go_split_ands; first | (go_simp; done) | (go_simp; with_reducible rfl))
    try simp only [Act.put, List.setIfInBounds_toArray, List.set_cons_zero, List.set_cons_succ]
    refine' wpAnyH_take (i := 2) (oi := _) (v := _) ?_ (by kernel_rfl) (by kernel_rfl) (by kernel_rfl) ?_ (Or.inl ⟨?_, ?_⟩) (by assumption) ?_
    rotate_left 2
    · (simp only [List.getElem?_toArray, List.getElem?_cons_succ, List.getElem?_cons_zero]; rfl)
    · first | exact fun _ _ _ h => h | exact fun _ _ _ h => nomatch h.1
    · rfl
    · (intro W hSW; (try dsimp only at hSW); go_split_ands; first | (go_simp; done) | (go_simp; with_reducible rfl))
    try simp only [Act.put, List.setIfInBounds_toArray, List.set_cons_zero, List.set_cons_succ]
    refine' wpAnyH_take (i := 5) (oi := _) (v := _) ?_ (by kernel_rfl) (by kernel_rfl) (by kernel_rfl) ?_ (Or.inl ⟨?_, ?_⟩) (by assumption) ?_
    rotate_left 2
    · (simp only [List.getElem?_toArray, List.getElem?_cons_succ, List.getElem?_cons_zero]; rfl)
    · first | exact fun _ _ _ h => h | exact fun _ _ _ h => nomatch h.1
    · rfl
    · (intro W hSW; (try dsimp only at hSW); go_split_ands; first | (go_simp; done) | (go_simp; with_reducible rfl))
    try simp only [Act.put, List.setIfInBounds_toArray, List.set_cons_zero, List.set_cons_succ]
    refine' wpAnyH_take (i := 6) (oi := _) (v := _) ?_ (by kernel_rfl) (by kernel_rfl) (by kernel_rfl) ?_ (Or.inl ⟨?_, ?_⟩) (by assumption) ?_
    rotate_left 2
    · (simp only [List.getElem?_toArray, List.getElem?_cons_succ, List.getElem?_cons_zero]; rfl)
    · first | exact fun _ _ _ h => h | exact fun _ _ _ h => nomatch h.1
    · rfl
    · (intro W hSW; (try dsimp only at hSW); go_split_ands; first | (go_simp; done) | (go_simp; with_reducible rfl))
    try simp only [Act.put, List.setIfInBounds_toArray, List.set_cons_zero, List.set_cons_succ]
    refine' wpAnyH_take (i := 9) (oi := _) (v := _) ?_ (by kernel_rfl) (by kernel_rfl) (by kernel_rfl) ?_ (Or.inl ⟨?_, ?_⟩) (by assumption) ?_
    rotate_left 2
    · (simp only [List.getElem?_toArray, List.getElem?_cons_succ, List.getElem?_cons_zero]; rfl)
    · first | exact fun _ _ _ h => h | exact fun _ _ _ h => nomatch h.1
    · rfl
    · (intro W hSW; (try dsimp only at hSW); go_split_ands; first | (go_simp; done) | (go_simp; with_reducible rfl))
    try simp only [Act.put, List.setIfInBounds_toArray, List.set_cons_zero, List.set_cons_succ]
    refine' wpAnyH_take (i := 11) (oi := _) (v := _) ?_ (by kernel_rfl) (by kernel_rfl) (by kernel_rfl) ?_ (Or.inl ⟨?_, ?_⟩) (by assumption) ?_
    rotate_left 2
    · (simp only [List.getElem?_toArray, List.getElem?_cons_succ, List.getElem?_cons_zero]; rfl)
    · first | exact fun _ _ _ h => h | exact fun _ _ _ h => nomatch h.1
    · rfl
    · (intro W hSW; (try dsimp only at hSW); go_split_ands; first | (go_simp; done) | (go_simp; with_reducible rfl))
    try simp only [Act.put, List.setIfInBounds_toArray, List.set_cons_zero, List.set_cons_succ]
    refine' wpAnyH_take (i := 12) (oi := _) (v := _) ?_ (by kernel_rfl) (by kernel_rfl) (by kernel_rfl) ?_ (Or.inl ⟨?_, ?_⟩) (by assumption) ?_
    rotate_left 2
    · (simp only [List.getElem?_toArray, List.getElem?_cons_succ, List.getElem?_cons_zero]; rfl)
    · first | exact fun _ _ _ h => h | exact fun _ _ _ h => nomatch h.1
    · rfl
    · (intro W hSW; (try dsimp only at hSW); go_split_ands; first | (go_simp; done) | (go_simp; with_reducible rfl))
    try simp only [Act.put, List.setIfInBounds_toArray, List.set_cons_zero, List.set_cons_succ]
    refine wpAnyH_ready (rs := [0]) (by kernel_rfl) (by simp) ?_
    refine' AllReadyH.cons (o := _) ?_ (fun K hK => ?_) AllReadyH.nil
    rotate_left 1
    · (simp only [List.getElem?_toArray, List.getElem?_cons_succ, List.getElem?_cons_zero]; rfl)
    go_simp
    refine (letters_c _).mono ?_
    rintro e w1 ⟨rfl, rfl⟩
    go_simp
    refine hK.out _ _ ?_ (fun hHeld => ?_)
    · go_keep
    clear hHeld
    refine wpAnyH_more (S' := fun W' => W'.cell? ⟨w.heap.size, 0, none⟩ = some (.int .i64 3) ∧ W'.cell? ⟨w.heap.size, 1, none⟩ = some (.int .i64 s) ∧ W'.cell? ⟨w.heap.size, 2, none⟩ = some (.int .i64 g) ∧ W'.cell? ⟨w.heap.size + 1, 3, none⟩ = some (.string ⟨#[108]⟩)) (fun _ h => ⟨h.1, h.2.1, h.2.2.1⟩) ?_ (fun hHeld => ?_)
    · go_keep
    refine' wpAnyH_take (i := 3) (oi := _) (v := _) ?_ (by kernel_rfl) (by kernel_rfl) (by kernel_rfl) ?_ (Or.inl ⟨?_, ?_⟩) (by assumption) ?_
    rotate_left 2
    · (simp only [List.getElem?_toArray, List.getElem?_cons_succ, List.getElem?_cons_zero]; rfl)
    · first | exact fun _ _ _ h => h | exact fun _ _ _ h => nomatch h.1
    · rfl
    · (intro W hSW; (try dsimp only at hSW); go_split_ands; first | (go_simp; done) | (go_simp; with_reducible rfl))
    try simp only [Act.put, List.setIfInBounds_toArray, List.set_cons_zero, List.set_cons_succ]
    refine' wpAnyH_take (i := 4) (oi := _) (v := _) ?_ (by kernel_rfl) (by kernel_rfl) (by kernel_rfl) ?_ (Or.inl ⟨?_, ?_⟩) (by assumption) ?_
    rotate_left 2
    · (simp only [List.getElem?_toArray, List.getElem?_cons_succ, List.getElem?_cons_zero]; rfl)
    · first | exact fun _ _ _ h => h | exact fun _ _ _ h => nomatch h.1
    · rfl
    · (intro W hSW; (try dsimp only at hSW); go_split_ands; first | (go_simp; done) | (go_simp; with_reducible rfl))
    try simp only [Act.put, List.setIfInBounds_toArray, List.set_cons_zero, List.set_cons_succ]
    refine wpAnyH_ready (rs := [7]) (by kernel_rfl) (by simp) ?_
    refine' AllReadyH.cons (o := _) ?_ (fun K hK => ?_) AllReadyH.nil
    rotate_left 1
    · (simp only [List.getElem?_toArray, List.getElem?_cons_succ, List.getElem?_cons_zero]; rfl)
    go_simp
    refine (itoa_ret s _ ?_ ?_ ?_).mono ?_
    · exact hE.on (by go_grown)
    · omega
    · omega
    rintro e w1 ⟨rfl, hb1⟩
    have hB1 := under (w := w) hb1
    go_simp
    refine hK.out _ _ ?_ (fun hHeld => ?_)
    · (go_split_ands; refine ⟨?_, ?_, ?_, ?_⟩ <;> exact keep_cell hb1 (by first | (simp; done) | (simp; omega)) (by assumption))
    clear hK K
    refine' wpAnyH_take (i := 8) (oi := _) (v := _) ?_ (by kernel_rfl) (by kernel_rfl) (by kernel_rfl) ?_ (Or.inl ⟨?_, ?_⟩) (by assumption) ?_
    rotate_left 2
    · (simp only [List.getElem?_toArray, List.getElem?_cons_succ, List.getElem?_cons_zero]; rfl)
    · first | exact fun _ _ _ h => h | exact fun _ _ _ h => nomatch h.1
    · rfl
    · (intro W hSW; (try dsimp only at hSW); go_split_ands; first | (go_simp; done) | (go_simp; with_reducible rfl))
    try simp only [Act.put, List.setIfInBounds_toArray, List.set_cons_zero, List.set_cons_succ]
    refine' wpAnyH_take (i := 10) (oi := _) (v := _) ?_ (by kernel_rfl) (by kernel_rfl) (by kernel_rfl) ?_ (Or.inl ⟨?_, ?_⟩) (by assumption) ?_
    rotate_left 2
    · (simp only [List.getElem?_toArray, List.getElem?_cons_succ, List.getElem?_cons_zero]; rfl)
    · first | exact fun _ _ _ h => h | exact fun _ _ _ h => nomatch h.1
    · rfl
    · (intro W hSW; (try dsimp only at hSW); go_split_ands; first | (go_simp; done) | (go_simp; with_reducible rfl))
    try simp only [Act.put, List.setIfInBounds_toArray, List.set_cons_zero, List.set_cons_succ]
    refine wpAnyH_ready (rs := [13]) (by kernel_rfl) (by simp) ?_
    refine' AllReadyH.cons (o := _) ?_ (fun K hK => ?_) AllReadyH.nil
    rotate_left 1
    · (simp only [List.getElem?_toArray, List.getElem?_cons_succ, List.getElem?_cons_zero]; rfl)
    go_simp
    refine (itoa_ret g _ ?_ ?_ ?_).mono ?_
    · exact hE.on hB1
    · omega
    · omega
    rintro e w2 ⟨rfl, hb2⟩
    go_simp
    refine hK.out _ _ ?_ (fun hHeld => ?_)
    · (go_split_ands; refine ⟨?_, ?_, ?_, ?_⟩ <;> exact keep_cell hb2 (by have := hb1.size; simp at this; omega) (by assumption))
    clear hK K
    refine' wpAnyH_take (i := 14) (oi := _) (v := _) ?_ (by kernel_rfl) (by kernel_rfl) (by kernel_rfl) ?_ (Or.inl ⟨?_, ?_⟩) (by assumption) ?_
    rotate_left 2
    · (simp only [List.getElem?_toArray, List.getElem?_cons_succ, List.getElem?_cons_zero]; rfl)
    · first | exact fun _ _ _ h => h | exact fun _ _ _ h => nomatch h.1
    · rfl
    · (intro W hSW; (try dsimp only at hSW); go_split_ands; first | (go_simp; done) | (go_simp; with_reducible rfl))
    try simp only [Act.put, List.setIfInBounds_toArray, List.set_cons_zero, List.set_cons_succ]
    refine' wpAnyH_take (i := 15) (oi := _) (v := _) ?_ (by kernel_rfl) (by kernel_rfl) (by kernel_rfl) ?_ (Or.inl ⟨?_, ?_⟩) (by assumption) ?_
    rotate_left 2
    · (simp only [List.getElem?_toArray, List.getElem?_cons_succ, List.getElem?_cons_zero]; rfl)
    · first | exact fun _ _ _ h => h | exact fun _ _ _ h => nomatch h.1
    · rfl
    · (intro W hSW; (try dsimp only at hSW); go_split_ands; first | (go_simp; done) | (go_simp; with_reducible rfl))
    try simp only [Act.put, List.setIfInBounds_toArray, List.set_cons_zero, List.set_cons_succ]
    refine wpAnyH_done (by kernel_rfl) ?_ _
    go_wp2_with fail
    go_returns
    exact ⟨rfl, chain hB1 hb2⟩
theorem nm_text (c : UInt8) (k s g : Int) (w : World) (hE : Env w) (k1 : 1 ≤ k) (k3 : k ≤ 3) (s0 : 0 ≤ s) (s1 : s < 10000000000) (g0 : 0 ≤ g) (g1 : g ≤ 4294967295) :
    Ret 86 #[nmV k s g, .string ⟨#[c]⟩] w (.string (dText c k s g)) := by
  rw [← cat_text]
  refine nm_text_at c (letterB k) k s g k.toNat w hE ?_ s0 s1 g0 g1 _ _ _ rfl rfl rfl
  rcases (by omega : k = 1 ∨ k = 2 ∨ k = 3) with rfl | rfl | rfl
  · exact .inl ⟨rfl, rfl, rfl⟩
  · exact .inr (.inl ⟨rfl, rfl, rfl⟩)
  · exact .inr (.inr ⟨rfl, rfl, rfl⟩)
end Go.Proofs.YtinlfheonlpceaaGreatDoor

/- Contracts of package descr: Check, Pack, Unpack, Text, CheckOuter, OuterText. -/
namespace Go.Proofs.YtinlfheonlpceaaGreatDoor
open Go.RowKit
open Go.Lib (decDigits)

theorem o_check (k s g : Int) (w : World) (g0 : 0 ≤ g) (g1 : g ≤ 4294967295) : Ret 72 #[dV k s g] w (.int .i64 (dErr 64 k s g)) := by
  have hk := fun w => nm_check 64 k s g w g0 g1
  generalize dErr 64 k s g = v at hk
  have HK := Lib.hid hk
  clear hk
  go_enter Tryz.func72, Tryz.ntmps72
  go_wp2_with (first | (go_at_call 106; refine (HK.out _).mono ?_; rintro e w1 ⟨rfl, hb1⟩) | go_in)
  go_returns
  exact ⟨rfl, under hb1⟩
set_option maxHeartbeats 2000000 in
theorem o_text_ok (k s g : Int) (w : World) (hE : Env w) (h : dOk 64 k s g = true) (g0 : 0 ≤ g) (g1 : g ≤ 4294967295) : Ret 51 #[dV k s g] w (.tuple #[.string (dText 58 k s g), .int .i64 0]) := by
  have hk := fun w => o_check k s g w g0 g1
  rw [dErr_ok h] at hk
  rw [dOk_iff] at h
  have ht := fun w hE => nm_text 58 k s g w hE h.1 h.2.1 h.2.2.1 (by omega) g0 g1
  generalize dText 58 k s g = v at ht
  have HK := Lib.hid hk
  have HT := Lib.hid ht
  clear hk h ht
  go_enter Tryz.func51, Tryz.ntmps51
  go_wp2_with fail
  refine (HK.out _).mono ?_
  rintro e w1 ⟨rfl, hb1⟩
  obtain ⟨k1, f1⟩ := bcell hb1
  go_wp2_with (first | (go_at_call 86; refine (HT.out _ ?_).mono ?_; exact (hE.on (under hb1)).on (by go_grown); rintro e w2 ⟨rfl, hb2⟩) | go_in)
  go_returns
  exact ⟨rfl, chain (under hb1) (under hb2)⟩
theorem o_text_bad (k s g : Int) (w : World) (h : dOk 64 k s g = false) (g0 : 0 ≤ g) (g1 : g ≤ 4294967295) : Ret 51 #[dV k s g] w (.tuple #[.string ⟨#[]⟩, .int .i64 2]) := by
  have hk := fun w => o_check k s g w g0 g1
  rw [dErr_bad h] at hk
  have HK := Lib.hid hk
  clear hk h
  go_enter Tryz.func51, Tryz.ntmps51
  go_wp2_with fail
  refine (HK.out _).mono ?_
  rintro e w1 ⟨rfl, hb1⟩
  go_wp2_with fail
  go_returns
  exact ⟨rfl, under hb1⟩
end Go.Proofs.YtinlfheonlpceaaGreatDoor

/- ledger.Check, and 'is one not possible' over a slice (chapter 07): their contracts. -/
namespace Go.Proofs.YtinlfheonlpceaaGreatDoor
open Go.RowKit
set_option linter.unusedVariables false
set_option linter.unusedSimpArgs false
set_option maxHeartbeats 16000000
set_option maxRecDepth 20000
theorem aErr_no {a : AtR} (h : ¬ ((0 ≤ a.at_ ∧ a.at_ ≤ maxT) ∧ dOk 64 a.k a.i a.g = true ∧ (1 ≤ a.why ∧ a.why ≤ 3) ∧ (1 ≤ a.ans ∧ a.ans ≤ 3))) : aErr a = 2 := aErr_bad (by cases hh : aOk a with | false => rfl | true => exact absurd (aOk_iff.1 hh) h)
theorem acheck_c (a : AtR) (hg : gIn a) (w : World) : Ret 25 #[atV a] w (.int .i64 (aErr a)) := by
  have c := fun W => o_check a.k a.i a.g W hg.1 hg.2
  by_cases h1 : a.at_ < 0
  · rw [aErr_no (fun h => by omega)]
    go_enter Tryz.func25, Tryz.ntmps25
    go_wp2_with fail
    go_returns
    exact ⟨rfl, by go_grown⟩
  by_cases h2 : (1099511627776 : Int) < a.at_
  · rw [aErr_no (fun h => by have := h.1.2; unfold maxT at this; omega)]
    go_enter Tryz.func25, Tryz.ntmps25
    go_wp2_with fail
    go_returns
    exact ⟨rfl, by go_grown⟩
  cases hd : dOk 64 a.k a.i a.g
  · rw [dErr_bad hd] at c
    rw [aErr_no (fun h => by rw [hd] at h; exact absurd h.2.1 (by decide))]
    have CC := Lib.hid c
    clear c hd
    go_enter Tryz.func25, Tryz.ntmps25
    go_wp2_with fail
    refine Calls.mono (CC.out _) ?_
    rintro e w1 ⟨rfl, hb⟩
    go_wp2_with fail
    go_returns
    exact ⟨rfl, under hb⟩
  rw [dErr_ok hd] at c
  have CC := Lib.hid c
  by_cases h3 : a.why < 1
  · rw [aErr_no (fun h => by omega)]
    clear c
    go_enter Tryz.func25, Tryz.ntmps25
    go_wp2_with fail
    refine Calls.mono (CC.out _) ?_
    rintro e w1 ⟨rfl, hb⟩
    have r1 := (Row.new (W := w) (cs := atC a) (t := 43)).on hb
    have y0 := r1.cell
    have y1 := r1.lt
    go_wp2_with fail
    go_returns
    exact ⟨rfl, under hb⟩
  by_cases h4 : (3 : Int) < a.why
  · rw [aErr_no (fun h => by omega)]
    clear c
    go_enter Tryz.func25, Tryz.ntmps25
    go_wp2_with fail
    refine Calls.mono (CC.out _) ?_
    rintro e w1 ⟨rfl, hb⟩
    have r1 := (Row.new (W := w) (cs := atC a) (t := 43)).on hb
    have y0 := r1.cell
    have y1 := r1.lt
    go_wp2_with fail
    go_returns
    exact ⟨rfl, under hb⟩
  by_cases h5 : a.ans < 1
  · rw [aErr_no (fun h => by omega)]
    clear c
    go_enter Tryz.func25, Tryz.ntmps25
    go_wp2_with fail
    refine Calls.mono (CC.out _) ?_
    rintro e w1 ⟨rfl, hb⟩
    have r1 := (Row.new (W := w) (cs := atC a) (t := 43)).on hb
    have y0 := r1.cell
    have y1 := r1.lt
    go_wp2_with fail
    go_returns
    exact ⟨rfl, under hb⟩
  by_cases h6 : (3 : Int) < a.ans
  · rw [aErr_no (fun h => by omega)]
    clear c
    go_enter Tryz.func25, Tryz.ntmps25
    go_wp2_with fail
    refine Calls.mono (CC.out _) ?_
    rintro e w1 ⟨rfl, hb⟩
    have r1 := (Row.new (W := w) (cs := atC a) (t := 43)).on hb
    have y0 := r1.cell
    have y1 := r1.lt
    go_wp2_with fail
    go_returns
    exact ⟨rfl, under hb⟩
  rw [show aErr a = 0 from aErr_ok (aOk_iff.2 ⟨⟨by omega, by unfold maxT; omega⟩, hd, ⟨by omega, by omega⟩, ⟨by omega, by omega⟩⟩)]
  clear c hd
  go_enter Tryz.func25, Tryz.ntmps25
  go_wp2_with fail
  refine Calls.mono (CC.out _) ?_
  rintro e w1 ⟨rfl, hb⟩
  have r1 := (Row.new (W := w) (cs := atC a) (t := 43)).on hb
  have y0 := r1.cell
  have y1 := r1.lt
  go_wp2_with fail
  go_returns
  exact ⟨rfl, under hb⟩
theorem clo2_c (p : AtR) (w : World) (hg : gIn p) : Ret 50 #[atV p] w (.bool (!aOk p)) := by
  have cc := fun W => acheck_c p hg W
  have he : aErr p = if aOk p then 0 else 2 := rfl
  have hc := Below.refl w.heap.size w
  cases hk : aOk p
  all_goals
    rw [he, hk] at cc
    have CC := Lib.hid cc
    clear cc he hk
    go_enter Tryz.func50, Tryz.ntmps50
    go_upto_region 1 with fail
    have r1 := Row.new (W := w) (cs := atC p) (t := 43)
    replace hc := below_alloc w (.cells (atC p) 43)
    generalize w.alloc (.cells (atC p) 43) = V1 at r1 hc ⊢
    have y1 := r1.cell
    have z1 := r1.lt
    go_wp2_with fail
    refine Calls.mono (CC.out _) ?_
    rintro e V2 ⟨rfl, hn⟩
    replace hc := chain hc hn
    go_wp2_with fail
    go_returns
    exact ⟨rfl, hc⟩
/-- What a list of attempts' cells are, in a world behind. -/
theorem holds_at {W W2 : World} {v : Value} {l : List AtR} (h : HoldsA W v l) (hb : Below W.heap.size W W2) {k : Nat} (hk : k < l.length) : ∃ g o c, v = .slice (some ⟨g, o, none⟩) l.length c ∧ W2.cell? ⟨g, o + k * 6, none⟩ = some (.int .i64 l[k].at_) ∧ W2.cell? ⟨g, o + k * 6 + 1, none⟩ = some (.int .i64 l[k].k) ∧ W2.cell? ⟨g, o + k * 6 + 2, none⟩ = some (.int .i64 l[k].i) ∧ W2.cell? ⟨g, o + k * 6 + 3, none⟩ = some (.int .u32 l[k].g) ∧ W2.cell? ⟨g, o + k * 6 + 4, none⟩ = some (.int .i64 l[k].why) ∧ W2.cell? ⟨g, o + k * 6 + 5, none⟩ = some (.int .i64 l[k].ans) := by
  rcases h.on hb with ⟨h1, h2⟩ | ⟨g, o, c, hv, ha⟩
  · rw [h2] at hk; simp at hk
  · exact ⟨g, o, c, hv, HoldsA.six (ha k l[k] (List.getElem?_eq_getElem hk))⟩
theorem indexA_c (v : Value) (l : List AtR) (w : World) (hv : HoldsA w v l) (hl : l.length ≤ 100000) (ht : ∀ p ∈ l, gIn p) :
    Calls Tryz.prog 84 #[v, .func (.func 50) #[] #[]] w fun e w' => (∃ k, e = .returned (.int .i64 k) ∧ ((k = -1 ∧ l.all aOk = true) ∨ (0 ≤ k ∧ l.all aOk = false))) ∧ Below w.heap.size w w' := by
  obtain ⟨p0, c0, hve⟩ := hv.len
  have HV := Lib.hid hv
  have HT := Lib.hid ht
  subst hve
  obtain ⟨N, hN⟩ : ∃ N, l.length = N := ⟨_, rfl⟩
  rw [hN] at HV hl ⊢
  have HN := Lib.hid hN
  clear hv hN ht
  go_enter Tryz.func84, Tryz.ntmps84
  go_wp2_with fail
  go_loopw [8] (fun i wr => ∃ k : Nat, k ≤ N ∧ i = .int .i64 k ∧ (l.take k).all aOk = true ∧ Below w.heap.size w wr) (fun i _ => N - (intOf i).toNat)
  case atStart => exact ⟨0, by omega, rfl, rfl, Below.refl _ _⟩
  case round =>
    obtain ⟨k, hk, rfl, hall, hc⟩ := hrel
    have HA := Lib.hid hall
    clear hall
    by_cases hlt : k < N
    · have hkl : k < l.length := by rw [HN.out]; exact hlt
      obtain ⟨g, o, c, hvv, x0, x1, x2, x3, x4, x5⟩ := holds_at HV.out hc hkl
      rw [HN.out] at hvv
      injection hvv with hp1 hp2 hp3
      subst hp1
      have htg := HT.out l[k] (List.getElem_mem hkl)
      have htk : l.take (k + 1) = l.take k ++ [l[k]] := by rw [List.take_succ_eq_append_getElem hkl]
      have hno : aOk l[k] = false → l.all aOk = false := fun h => by
        cases hh : l.all aOk with
        | false => rfl
        | true => rw [List.all_eq_true.1 hh l[k] (List.getElem_mem hkl)] at h; cases h
      have cc := fun W => clo2_c l[k] W htg
      have HTK := Lib.hid htk
      have HNO := Lib.hid hno
      clear htk hno htg hp2 hp3
      generalize l[k] = p at *
      clear hkl
      cases hp : aOk p
      · rw [hp] at cc
        have HP := Lib.hid hp
        have CC := Lib.hid cc
        clear cc hp
        go_wp2_with fail
        refine Calls.mono (CC.out _) ?_
        rintro e V2 ⟨rfl, hn⟩
        replace hc := chain hc hn
        clear x0 x1 x2 x3 x4 x5
        go_wp2_with fail
        go_returns
        exact ⟨⟨_, rfl, .inr ⟨by omega, HNO.out HP.out⟩⟩, hc⟩
      · rw [hp] at cc
        have HP := Lib.hid hp
        have CC := Lib.hid cc
        clear cc hp
        go_wp2_with fail
        refine Calls.mono (CC.out _) ?_
        rintro e V2 ⟨rfl, hn⟩
        replace hc := chain hc hn
        clear x0 x1 x2 x3 x4 x5
        go_wp2_with fail
        go_roundw
        case rel => exact ⟨k + 1, by omega, by go_num, by rw [HTK.out, List.all_append, HA.out]; simp [HP.out], hc⟩
        case measure => simp [intOf]; omega
    · obtain rfl : k = N := by omega
      go_wp2_with fail
      go_returns
      have h1 := HA.out
      rw [List.take_of_length_le (by rw [HN.out]; exact Nat.le_refl _)] at h1
      exact ⟨⟨_, rfl, .inl ⟨rfl, h1⟩⟩, hc⟩
theorem containsA_c (v : Value) (l : List AtR) (w : World) (hv : HoldsA w v l) (hl : l.length ≤ 100000) (ht : ∀ p ∈ l, gIn p) :
    Ret 49 #[v, .func (.func 50) #[] #[]] w (.bool (!l.all aOk)) := by
  have c := indexA_c v l w hv hl ht
  have C := Lib.hid c
  clear c
  go_enter Tryz.func49, Tryz.ntmps49
  go_wp2_with fail
  refine Calls.mono C.out ?_
  rintro e V1 ⟨⟨k, rfl, hk⟩, hn⟩
  rcases hk with ⟨rfl, ha⟩ | ⟨hk, ha⟩
  · go_wp2_with fail
    go_returns
    exact ⟨by rw [ha]; rfl, hn⟩
  · have HA := Lib.hid ha
    clear ha
    go_wp2_with fail
    go_returns
    exact ⟨by rw [HA.out]; simp; try omega, hn⟩
end Go.Proofs.YtinlfheonlpceaaGreatDoor

/- strings.Builder's writers at this program (its copyCheck has a branch that the loader leaves out: the library's contracts do not lay here): their contracts. -/
namespace Go.Proofs.YtinlfheonlpceaaGreatDoor
open Go.RowKit
set_option linter.unusedVariables false
set_option linter.unusedSimpArgs false

abbrev bldT : TypeId := 81
abbrev BF (B b : Nat) (l : List UInt8) (w : World) : Prop := Lib.IsBuilderF 81 5 B b (Lib.byteCells l) w
theorem b_size : (Tryz.prog.info? 81).map (·.size) = some 2 := by kernel_rfl
theorem b_byte : (Tryz.prog.info? 5).map (fun i => (i.zero, i.size, i.bytes)) = some (some (.int .u8 0), 1, 1) := by kernel_rfl
set_option maxHeartbeats 1000000 in
set_option maxRecDepth 100000 in
theorem copy_used (b : Nat) (w : World) (h0 : w.cell? ⟨b, 0, none⟩ = some (.pointer (some ⟨b, 0, none⟩))) :
    Calls Tryz.prog 87 #[.pointer (some ⟨b, 0, none⟩)] w fun e w' => e = .returned (.tuple #[]) ∧ w' = w := by
  obtain ⟨j, hj, _⟩ := Option.map_eq_some_iff.1 b_size
  go_enter Tryz.func87, Tryz.ntmps87
  go_wp2
  rw [Lib.run_neq_ptr_same w _ Tryz.underlying78 hj]
  go_wp2
  go_end0
  exact ⟨rfl, rfl⟩
set_option maxHeartbeats 1000000 in
set_option maxRecDepth 100000 in
theorem copy_fresh (b : Nat) (w : World) (h0 : w.cell? ⟨b, 0, none⟩ = some (.pointer none)) (hsh : w.shape? b = some (81, 2)) (hfz : w.frozen? ⟨b, 0, none⟩ = false) :
    Calls Tryz.prog 87 #[.pointer (some ⟨b, 0, none⟩)] w fun e w' => e = .returned (.tuple #[]) ∧ w' = w.setCell ⟨b, 0, none⟩ (.pointer (some ⟨b, 0, none⟩)) := by
  obtain ⟨j, hj, hjs⟩ := Option.map_eq_some_iff.1 b_size
  go_enter Tryz.func87, Tryz.ntmps87
  go_wp2
  rw [Lib.run_to_unsafe w ⟨b, 0, none⟩ Tryz.underlying78 Tryz.underlying143 hj (by rw [hjs]; decide) hsh (Nat.zero_lt_succ 1)]
  simp only [Result.andThen]
  rw [Oper.upon_value]
  go_wp2
  rw [run_callFunc_extern Tryz.func115 (by kernel_rfl) (by kernel_rfl) (by kernel_rfl) (e := Extern.AbiNoEscape.same) (by kernel_rfl)]
  rw [Lib.run_noEscape]
  simp only [Result.andThen]
  rw [Oper.upon_value]
  go_wp2
  rw [Lib.run_from_unsafe w ⟨b, 0, none⟩ Tryz.underlying143 Tryz.underlying78 hj hsh (by kernel_rfl)]
  simp only [Result.andThen]
  rw [Oper.upon_value]
  go_wp2
  go_end0
  exact ⟨rfl, rfl⟩
theorem copy_c (B b : Nat) (bs : List Value) (w : World) (h : Lib.IsBuilderF 81 5 B b bs w) :
    Calls Tryz.prog 87 #[.pointer (some ⟨b, 0, none⟩)] w fun e w' => e = .returned (.tuple #[]) ∧ (Lib.BuilderAtF 81 5 B b (.pointer (some ⟨b, 0, none⟩)) bs w' ∧ Below B w w' ∧ Lib.OthersKept 5 (some b) w w') := by
  rcases h with h | h
  · refine (copy_fresh b w h.cell0 h.shape h.frozen0).mono ?_
    rintro e w' ⟨rfl, rfl⟩
    exact ⟨rfl, h.used _, (Below.refl B w).setCell (p := ⟨b, 0, none⟩) h.1 _, (Lib.OthersKept.refl _ _ w).setCell ⟨b, 0, none⟩ rfl _⟩
  · refine (copy_used b w h.cell0).mono ?_
    rintro e w' ⟨rfl, rfl⟩
    exact ⟨rfl, h, Below.refl B _, Lib.OthersKept.refl _ _ _⟩
set_option maxHeartbeats 2000000 in
set_option maxRecDepth 100000 in
theorem wbyte_c (B b : Nat) (l : List UInt8) (c : UInt8) (w : World) (h : BF B b l w) (hlen : l.length + 1 ≤ 1000000000) (hBw : B ≤ w.heap.size) :
    Calls Tryz.prog 64 #[.pointer (some ⟨b, 0, none⟩), .int .u8 (c.toNat : Int)] w fun e w' => e = .returned .nilIface ∧ (BF B b (l ++ [c]) w' ∧ Below B w w' ∧ Lib.OthersKept 5 (some b) w w') := by
  obtain ⟨i0, hi, hz0, hz1, hz2⟩ := info_parts b_byte
  have hll : (Lib.byteCells l).length = l.length := Lib.byteCells_length l
  go_enter Tryz.func64, Tryz.ntmps64
  go_wp2_with (go_at_call 87; refine (copy_c B b _ _ h).mono ?_)
  rintro e w1 ⟨rfl, h1, hb1, hk1⟩
  obtain ⟨hB, v, hbk, hown, hne⟩ := h1
  rw [hll] at hown
  have c0 : w1.cell? ⟨b, 0, none⟩ = some (.pointer (some ⟨b, 0, none⟩)) := by rw [Lib.cell_of_heap hbk]; rfl
  have c1 : w1.cell? ⟨b, 1, none⟩ = some v := by rw [Lib.cell_of_heap hbk]; rfl
  have hlt : b < w1.heap.size := (Array.getElem?_eq_some_iff.1 hbk).1
  have hs1 := hb1.size
  go_wp2_with (at_builtin; refine wpList_append_ownF _ rfl _ _ 79 rfl B 5 i0 (.int .u8 0) 1 1 Tryz.underlying79 hi hz0 hz1 hz2 rfl (by decide) _ _ _ rfl (hown.alloc _) ⟨w1.heap.size, 0, none⟩ 1 1 [.int .u8 (c.toNat : Int)] rfl rfl (by intro j u hj; match j, hj with | 0, hj => (simp at hj; subst hj; simp [Addr.add])) (by intro u hu; simp at hu; subst hu; rfl) (by unfold maxLen; omega) (by omega) (by simp; omega) ?_)
  intro v' w2 hown' hgrow hnil
  have hb2 : w2.heap[b]? = some (.cells #[.pointer (some ⟨b, 0, none⟩), v] 81 (0, 0)) := by
    rw [hgrow.block b (by simp; omega) (fun e => hne e.symm), Lib.alloc_old w1 _ b hlt]
    exact hbk
  have d0 : w2.cell? ⟨b, 0, none⟩ = some (.pointer (some ⟨b, 0, none⟩)) := by rw [Lib.cell_of_heap hb2]; rfl
  have d1 : w2.cell? ⟨b, 1, none⟩ = some v := by rw [Lib.cell_of_heap hb2]; rfl
  have f1 : w2.frozen? ⟨b, 1, none⟩ = false := Lib.frozen_of_heap hb2 1
  obtain ⟨g, cap, rfl⟩ : ∃ g cap, v' = .slice (some ⟨g, 0, none⟩) (l.length + 1) cap := by
    rcases hown'.2 with ⟨_, h0⟩ | ⟨g, cap, cur, fz, hv, _⟩
    · omega
    · exact ⟨g, cap, hv⟩
  go_wp2
  go_ret
  refine ⟨rfl, .inr ?_, ?_, ((hk1.alloc _).grown hgrow (Lib.ownsRowF_kind (hown.alloc _))).setCell ⟨b, 1, none⟩ rfl _⟩
  · rw [Lib.byteCells_append]
    exact Lib.BuilderAtF.put (T := 81) (e := 5) hB hb2 (bs' := Lib.byteCells l ++ Lib.byteCells [c]) (by rw [List.length_append, hll]; exact hown') (by decide)
  · exact ((hb1.alloc (by omega) _).grown hgrow (by simp; omega) (fun k hk => (hown.lt k hk).1)).setCell (p := ⟨b, 1, none⟩) hB _
set_option maxHeartbeats 2000000 in
set_option maxRecDepth 100000 in
theorem wrune_c (B b : Nat) (l : List UInt8) (r : Nat) (hr : r ≤ 2147483647) (w : World) (h : BF B b l w) (hlen : l.length + 4 ≤ 1000000000) (hBw : B ≤ w.heap.size) :
    Calls Tryz.prog 95 #[.pointer (some ⟨b, 0, none⟩), .int .i32 r] w fun e w' => e = .returned (.tuple #[.int .i64 (Lib.encodeRune (r : Int)).length, .nilIface]) ∧ (BF B b (l ++ Lib.encodeRune (r : Int)) w' ∧ Below B w w' ∧ Lib.OthersKept 5 (some b) w w') := by
  have hll : (Lib.byteCells l).length = l.length := Lib.byteCells_length l
  have hr4 := Lib.runeCells_le (r : Int)
  have hrl : (Lib.runeCells (r : Int)).length = (Lib.encodeRune (r : Int)).length := Lib.runeCells_length _
  rw [hrl] at hr4
  go_enter Tryz.func95, Tryz.ntmps95
  go_wp2_with (go_at_call 87; refine (copy_c B b _ _ h).mono ?_)
  rintro e w1 ⟨rfl, h1, hb1, hk1⟩
  obtain ⟨hB, v, hbk, hown, hne⟩ := h1
  rw [hll] at hown
  obtain ⟨ao, cap, rfl⟩ : ∃ ao cap, v = .slice ao l.length cap := by
    rcases hown.2 with ⟨hv, h0⟩ | ⟨g, cap, cur, fz, hv, _⟩
    · exact ⟨none, 0, by rw [hv, h0]⟩
    · exact ⟨_, _, hv⟩
  have c0 : w1.cell? ⟨b, 0, none⟩ = some (.pointer (some ⟨b, 0, none⟩)) := by rw [Lib.cell_of_heap hbk]; rfl
  have c1 : w1.cell? ⟨b, 1, none⟩ = some (.slice ao l.length cap) := by rw [Lib.cell_of_heap hbk]; rfl
  have hlt : b < w1.heap.size := (Array.getElem?_eq_some_iff.1 hbk).1
  have hs1 := hb1.size
  go_wp2_with (go_at_call 125; refine (Tryz.utf8_AppendRune_row B _ l.length (Lib.byteCells l) r (by omega) (by omega) _ hown (by omega) (by omega)).mono ?_)
  rintro e w2 ⟨v', rfl, hown', o, hgrow⟩
  have hb2 : w2.heap[b]? = some (.cells #[.pointer (some ⟨b, 0, none⟩), .slice ao l.length cap] 81 (0, 0)) := by
    rw [hgrow.block b (by simp; omega) (fun e => hne e.symm), Lib.alloc_old w1 _ b hlt]
    exact hbk
  have d0 : w2.cell? ⟨b, 0, none⟩ = some (.pointer (some ⟨b, 0, none⟩)) := by rw [Lib.cell_of_heap hb2]; rfl
  have d1 : w2.cell? ⟨b, 1, none⟩ = some (.slice ao l.length cap) := by rw [Lib.cell_of_heap hb2]; rfl
  have f1 : w2.frozen? ⟨b, 1, none⟩ = false := Lib.frozen_of_heap hb2 1
  rw [hrl] at hown'
  obtain ⟨ao', cap', rfl⟩ : ∃ ao' cap', v' = .slice ao' (l.length + (Lib.encodeRune (r : Int)).length) cap' := by
    rcases hown'.2 with ⟨hv, h0⟩ | ⟨g, cap, cur, fz, hv, _⟩
    · exact ⟨none, 0, by rw [hv, h0]⟩
    · exact ⟨_, _, hv⟩
  go_wp2_with fail
  rw [show ((l.length : Int) + ((Lib.encodeRune (r : Int)).length : Int) - (l.length : Int)) = ((Lib.encodeRune (r : Int)).length : Int) by omega]
  go_returns
  refine ⟨rfl, .inr ?_, ?_, ((hk1.alloc _).grown hgrow (Lib.ownsRowF_kind (hown.alloc _))).setCell ⟨b, 1, none⟩ rfl _⟩
  · rw [Lib.byteCells_append, Lib.byteCells_encodeRune]
    exact Lib.BuilderAtF.put (T := 81) (e := 5) hB hb2 (bs' := Lib.byteCells l ++ Lib.runeCells r) (by rw [List.length_append, hll, hrl]; exact hown') (by decide)
  · exact ((hb1.alloc (by omega) _).grown hgrow (by simp; omega) (fun k hk => (hown.lt k hk).1)).setCell (p := ⟨b, 1, none⟩) hB _
theorem bstr_c (B b : Nat) (l : List UInt8) (w : World) (h : BF B b l w) (hBw : B ≤ w.heap.size) :
    Calls Tryz.prog 57 #[.pointer (some ⟨b, 0, none⟩)] w fun e w' => e = .returned (.string ⟨l.toArray⟩) ∧ BF B b l w' ∧ Below B w w' :=
  (Tryz.Builder_String_any_f B b l w h hBw).mono (fun e w' h => h)
/-- A builder stays one over a call that leaves the old blocks as they were. -/
theorem BF_on {B b : Nat} {l : List UInt8} {w w' : World} (h : BF B b l w) (hb : Below w.heap.size w w') : BF B b l w' := by
  have key : ∀ p, Lib.BuilderAtF 81 5 B b p (Lib.byteCells l) w → Lib.BuilderAtF 81 5 B b p (Lib.byteCells l) w' := by
    intro p h
    obtain ⟨hB, v, hbk, hown, hne⟩ := h
    refine ⟨hB, v, (hb.block b (Array.getElem?_eq_some_iff.1 hbk).1).trans hbk, ⟨hown.1, ?_⟩, hne⟩
    rcases hown.2 with h0 | ⟨g, cap, cur, fz, h1, h2, h3, h4⟩
    · exact .inl h0
    · exact .inr ⟨g, cap, cur, fz, h1, h2, (hb.block g (Array.getElem?_eq_some_iff.1 h3).1).trans h3, h4⟩
  exact h.imp (key _) (key _)
end Go.Proofs.YtinlfheonlpceaaGreatDoor

/- Iterators over strings, as a fact that is carried. -/
namespace Go.Proofs.YtinlfheonlpceaaGreatDoor
open Go.RowKit
set_option linter.unusedVariables false
theorem Row.drew {W : World} {x : Nat} {cs : Array Value} {t : TypeId} (h : Row W x cs t) : Row W.drew x cs t := ⟨h.eq⟩
/-- Block b is an iterator over s, at pos. -/
structure It (W : World) (b : Nat) (s : ByteArray) (pos : Nat) : Prop where
  eq : W.heap[b]? = some (.stringIter s pos)
theorem It.lt {W : World} {b : Nat} {s : ByteArray} {pos : Nat} (h : It W b s pos) : b < W.heap.size := (Array.getElem?_eq_some_iff.1 h.eq).1
theorem It.on {W W' : World} {b : Nat} {s : ByteArray} {pos : Nat} (h : It W b s pos) (hb : Below W.heap.size W W') : It W' b s pos := ⟨(hb.block b h.lt).trans h.eq⟩
theorem It.new (W : World) (s : ByteArray) : It (W.iter s 0) W.heap.size s 0 := ⟨World.iter_heap W s 0⟩
theorem below_iter (W : World) (s : ByteArray) : Below W.heap.size W (W.iter s 0) := below_alloc W _
theorem It.set {W : World} {b y : Nat} {s : ByteArray} {pos : Nat} (h : It W b s pos) (hn : y ≠ b) (j : Nat) (v : Value) : It (W.setCell ⟨y, j, none⟩ v) b s pos := by
  refine ⟨Eq.trans ?_ h.eq⟩
  simp only [World.setCell, Array.getElem?_modify]
  rw [if_neg hn]
theorem It.step {W : World} {b : Nat} {s : ByteArray} {pos : Nat} (h : It W b s pos) (pos' : Nat) : It (W.iterAt b s pos') b s pos' := ⟨Lib.iterAt_heap W b s pos pos' h.eq⟩
theorem Row.ne_iter {W : World} {x b : Nat} {cs : Array Value} {t : TypeId} {s : ByteArray} {pos : Nat} (h : Row W x cs t) (i : It W b s pos) : x ≠ b := by
  intro e
  subst e
  have := h.eq.symm.trans i.eq
  injection this with this
  cases this
theorem Row.iter {W : World} {x b : Nat} {cs : Array Value} {t : TypeId} {s : ByteArray} {pos : Nat} (h : Row W x cs t) (i : It W b s pos) (pos' : Nat) : Row (W.iterAt b s pos') x cs t :=
  ⟨(Lib.iterAt_other W b x s pos' (h.ne_iter i)).trans h.eq⟩
theorem It.next {W : World} {b : Nat} {s : ByteArray} {pos : Nat} (h : It W b s pos) (hp : pos < s.size) (n : Nat) (hs : (s[pos]'hp).toNat = n) (hn : n < 128) (ty : TypeId) :
    (Instr.next (.pointer (some ⟨b, 0, none⟩)) true ty).run Tryz.prog W = .ok (.tuple #[.bool true, .int .i64 pos, .int .i32 n]) (W.iterAt b s (pos + 1)) := by
  subst hs
  exact Lib.run_next_ascii_at W b s pos ty h.eq hp hn
theorem It.done {W : World} {b : Nat} {s : ByteArray} {pos : Nat} (h : It W b s pos) (hp : ¬ pos < s.size) (ty : TypeId) :
    (Instr.next (.pointer (some ⟨b, 0, none⟩)) true ty).run Tryz.prog W = .ok (.tuple #[.bool false]) W := Lib.run_next_end_at W b s pos ty h.eq hp
end Go.Proofs.YtinlfheonlpceaaGreatDoor

/- ledger.Print: its contract (chapter 07). -/
namespace Go.Proofs.YtinlfheonlpceaaGreatDoor
open Go.RowKit
set_option linter.unusedVariables false
set_option linter.unusedSimpArgs false
set_option maxHeartbeats 16000000
set_option maxRecDepth 20000
theorem wstr_k (B b : Nat) (l : List UInt8) (s : ByteArray) (w : World) (h : BF B b l w) (hlen : l.length + s.size ≤ 1000000000) (hBw : B ≤ w.heap.size) :
    Calls Tryz.prog 52 #[.pointer (some ⟨b, 0, none⟩), .string s] w fun e w' => e = .returned (.tuple #[.int .i64 s.size, .nilIface]) ∧ (BF B b (l ++ s.data.toList) w' ∧ Below B w w' ∧ Lib.OthersKept 5 (some b) w w') := by
  obtain ⟨i0, hi, hz0, hz1, hz2⟩ := info_parts b_byte
  have hll : (Lib.byteCells l).length = l.length := Lib.byteCells_length l
  go_enter Tryz.func52, Tryz.ntmps52
  go_wp2_with (go_at_call 87; refine (copy_c B b _ _ h).mono ?_)
  rintro e w1 ⟨rfl, h1, hb1, hk1⟩
  obtain ⟨hB, v, hbk, hown, hne⟩ := h1
  rw [hll] at hown
  have c0 : w1.cell? ⟨b, 0, none⟩ = some (.pointer (some ⟨b, 0, none⟩)) := by rw [Lib.cell_of_heap hbk]; rfl
  have c1 : w1.cell? ⟨b, 1, none⟩ = some v := by rw [Lib.cell_of_heap hbk]; rfl
  have hlt : b < w1.heap.size := (Array.getElem?_eq_some_iff.1 hbk).1
  have hs1 := hb1.size
  go_wp2_with (at_builtin; refine Lib.wpList_append_own_stringF _ rfl _ _ 79 9 rfl B 5 i0 Tryz.underlying79 Tryz.underlying9 hi hz0 hz1 hz2 _ _ _ rfl hown s rfl ?c3 ?c4 ?c5 ?_)
  case c3 => unfold maxLen; omega
  case c4 => omega
  case c5 => omega
  intro v' w2 hown' hgrow _
  have hb2 : w2.heap[b]? = some (.cells #[.pointer (some ⟨b, 0, none⟩), v] 81 (0, 0)) := by
    rw [hgrow.block b hlt (fun e => hne e.symm)]
    exact hbk
  have d0 : w2.cell? ⟨b, 0, none⟩ = some (.pointer (some ⟨b, 0, none⟩)) := by rw [Lib.cell_of_heap hb2]; rfl
  have d1 : w2.cell? ⟨b, 1, none⟩ = some v := by rw [Lib.cell_of_heap hb2]; rfl
  have f1 : w2.frozen? ⟨b, 1, none⟩ = false := Lib.frozen_of_heap hb2 1
  obtain ⟨ao, n', cap, rfl⟩ : ∃ ao n' cap, v' = .slice ao n' cap := by
    rcases hown'.2 with ⟨hv, _⟩ | ⟨g, cap, cur, fz, hv, _⟩
    · exact ⟨_, _, _, hv⟩
    · exact ⟨_, _, _, hv⟩
  go_wp2
  go_returns
  refine ⟨rfl, .inr ?_, ?_, (hk1.grown hgrow (Lib.ownsRowF_kind hown)).setCell ⟨b, 1, none⟩ rfl _⟩
  · rw [Lib.byteCells_append]
    exact Lib.BuilderAtF.put (T := 81) (e := 5) hB hb2 (bs' := Lib.byteCells l ++ Lib.byteCells s.data.toList) (by rw [show Lib.byteCells s.data.toList = Lib.strCells s from rfl]; simpa [Lib.strCells_length, Lib.byteCells_length, hll, len_bytes] using hown') (by decide)
  · exact (hb1.grown hgrow (by omega) (fun k hk => (hown.lt k hk).1)).setCell (p := ⟨b, 1, none⟩) hB _
theorem blen_c (B b : Nat) (l : List UInt8) (w : World) (h : BF B b l w) : Calls Tryz.prog 56 #[.pointer (some ⟨b, 0, none⟩)] w fun e w' => e = .returned (.int .i64 l.length) ∧ w' = w := by
  have := Tryz.Builder_Len_f B b (Lib.byteCells l) w h
  rw [Lib.byteCells_length] at this
  exact this

theorem fmtint_c (n : Int) (w : World) (hE : Env w) (h0 : 0 ≤ n) (h1 : n ≤ 9223372036854775807) : Ret 53 #[.int .i64 n, .int .i64 10] w (.string (digits n.toNat)) := by
  have c := fun w hE => Tryz.internal_strconv_FormatInt_10 n (by omega) h1 w (Env.tabIs hE)
  have C := Lib.hid c
  clear c
  go_enter Tryz.func53, Tryz.ntmps53
  go_wp2_with fail
  refine Calls.mono (C.out _ hE) ?_
  rintro e w1 ⟨rfl, k, os, hw⟩
  go_wp2_with fail
  go_returns
  exact ⟨by rw [show (⟨(Lib.itoa n).toArray⟩ : ByteArray) = digits n.toNat by unfold Lib.itoa digits; rw [if_neg (by omega)]]; rfl, by first | exact below_grow_ w k os | (rw [hw]; exact below_grow_ w k os)⟩

theorem BF_drew {B b : Nat} {l : List UInt8} {w : World} (h : BF B b l w) : BF B b l w.drew := h
theorem row_others {w w' : World} {b x : Nat} {cs : Array Value} {t : TypeId} (hk : Lib.OthersKept 5 (some b) w w') (h : Row w x cs t) (hx : x ≠ b) (ht : t ≠ 5) : Row w' x cs t := ⟨hk x _ h.eq (fun e => hx (Option.some.inj e)) (fun c fz e => by cases e; exact ht rfl)⟩
abbrev whyC : Array Value := #[.string ⟨#[]⟩, .string ⟨#[99, 108, 111, 115, 101]⟩, .string ⟨#[101, 120, 112, 105, 114, 121]⟩, .string ⟨#[99, 111, 108, 108, 101, 99, 116]⟩]
abbrev ansC : Array Value := #[.string ⟨#[]⟩, .string ⟨#[111, 107]⟩, .string ⟨#[108, 97, 116, 101, 114]⟩, .string ⟨#[102, 97, 105, 108]⟩]
def whyB (n : Int) : ByteArray := ⟨(whyW n).toArray⟩
def ansB (n : Int) : ByteArray := ⟨(ansW n).toArray⟩
theorem whyC_at {n : Nat} (h : 1 ≤ n ∧ n ≤ 3) : whyC[n]? = some (.string (whyB n)) := by
  rcases (by omega : n = 1 ∨ n = 2 ∨ n = 3) with rfl | rfl | rfl <;> rfl
theorem ansC_at {n : Nat} (h : 1 ≤ n ∧ n ≤ 3) : ansC[n]? = some (.string (ansB n)) := by
  rcases (by omega : n = 1 ∨ n = 2 ∨ n = 3) with rfl | rfl | rfl <;> rfl
theorem whys_c (w : World) : Calls Tryz.prog 54 #[] w fun e w' => e = .returned (.slice (some ⟨w.heap.size, 0, none⟩) 4 4) ∧ w' = w.alloc (.cells whyC 9) := by
  go_enter Tryz.func54, Tryz.ntmps54
  go_wp2_with fail
  go_returns
  exact ⟨rfl, rfl⟩
theorem answers_c (w : World) : Calls Tryz.prog 55 #[] w fun e w' => e = .returned (.slice (some ⟨w.heap.size, 0, none⟩) 4 4) ∧ w' = w.alloc (.cells ansC 9) := by
  go_enter Tryz.func55, Tryz.ntmps55
  go_wp2_with fail
  go_returns
  exact ⟨rfl, rfl⟩
abbrev CatL (a b c : ByteArray) : Prop := ∀ W, (Op.stringOp .add a b).run Tryz.prog W = .ok (.string c) W
abbrev spL : ByteArray := ⟨#[32]⟩
abbrev nlL : ByteArray := ⟨#[10]⟩
/-- The pieces of a line. -/
theorem line_cats (at_ k i g : Int) (y z : Nat) (ok : aOk ⟨at_, k, i, g, y, z⟩ = true) (hg : 0 ≤ g ∧ g ≤ 4294967295) : ∃ A0 A1 A2 A3 A4 A5 A6 : ByteArray, CatL (digits at_.toNat) spL A0 ∧ CatL A0 (dText 58 k i g) A1 ∧ CatL A1 spL A2 ∧ CatL A2 (whyB y) A3 ∧ CatL A3 spL A4 ∧ CatL A4 (ansB z) A5 ∧ CatL A5 nlL A6 ∧ A6.data.toList = lineL ⟨at_, k, i, g, y, z⟩ ++ [10] ∧ A6.size ≤ 61 := by
  have hl := lineL_len ok hg
  have key : (digits at_.toNat ++ spL ++ dText 58 k i g ++ spL ++ whyB y ++ spL ++ ansB z ++ nlL).data.toList = lineL ⟨at_, k, i, g, y, z⟩ ++ [10] := by
    simp [ByteArray.data_append, lineL, digits, dText, whyB, ansB]
  have hs : (digits at_.toNat ++ spL ++ dText 58 k i g ++ spL ++ whyB y ++ spL ++ ansB z ++ nlL).size ≤ 61 := by
    have := len_bytes (digits at_.toNat ++ spL ++ dText 58 k i g ++ spL ++ whyB y ++ spL ++ ansB z ++ nlL)
    rw [key, List.length_append, List.length_singleton] at this
    omega
  simp only [ByteArray.size_append] at hs
  refine ⟨_, _, _, _, _, _, _, fun W => add_run rfl ?_ W, fun W => add_run rfl ?_ W, fun W => add_run rfl ?_ W, fun W => add_run rfl ?_ W, fun W => add_run rfl ?_ W, fun W => add_run rfl ?_ W, fun W => add_run rfl ?_ W, key, ?_⟩
  all_goals first | omega | (simp only [ByteArray.size_append]; omega)
theorem lprint_c (v : Value) (l : List AtR) (w : World) (hE : Env w) (hv : HoldsA w v l) (hl : l.length ≤ 100000) (ht : ∀ p ∈ l, gIn p) :
    Ret 13 #[v] w (.tuple #[.string ⟨(printA l).1.toArray⟩, .int .i64 (printA l).2]) := by
  obtain ⟨p0, c0, hve⟩ := hv.len
  have ct := fun W (hb : Below w.heap.size w W) => containsA_c v l W (hv.on hb) hl ht
  have HV := Lib.hid hv
  have HE := Lib.hid hE
  subst hve
  cases hall : l.all aOk
  · rw [show printA l = ([], 2) by unfold printA; rw [if_neg (by rw [hall]; decide)]]
    rw [hall] at ct
    have CT := Lib.hid ct
    clear ct hv ht hE hall
    go_enter Tryz.func13, Tryz.ntmps13
    go_wp2_with fail
    refine Calls.mono (CT.out _ (Below.refl _ _)) ?_
    rintro e V1 ⟨rfl, hn⟩
    go_wp2_with fail
    go_returns
    exact ⟨rfl, hn⟩
  · rw [hall] at ct
    have hr1 : ∀ k, 65536 < (linesA (l.take k)).length → printA l = ([], 10) := fun k hk => by
      unfold printA
      have e : linesA l = linesA (l.take k) ++ linesA (l.drop k) := by rw [← linesA_app, List.take_append_drop]
      rw [if_pos hall, if_pos (by rw [e, List.length_append]; omega)]
    have hr2 : (linesA l).length ≤ 65536 → printA l = (linesA l, 0) := fun h => by
      unfold printA
      rw [if_pos hall, if_neg (by omega)]
    have CT := Lib.hid ct
    have HR1 := Lib.hid hr1
    have HR2 := Lib.hid hr2
    have HALL := Lib.hid (List.all_eq_true.1 hall)
    have HG := Lib.hid ht
    obtain ⟨N, hN⟩ : ∃ N, l.length = N := ⟨_, rfl⟩
    have HN := Lib.hid hN
    rw [hN] at HV hl CT ⊢
    clear ct hv ht hE hr1 hr2 hall hN
    go_enter Tryz.func13, Tryz.ntmps13
    go_wp2_with fail
    refine Calls.mono (CT.out _ (Below.refl _ _)) ?_
    rintro e V1 ⟨rfl, hn⟩
    go_upto_region 4 with fail
    have hI : BF V1.heap.size V1.heap.size [] (V1.alloc (.cells #[.pointer none, .slice none 0 0] 81)) := Lib.IsBuilderF.of (Lib.fresh_isBuilder _ _ V1)
    have hc := hn.alloc hn.size (.cells #[.pointer none, .slice none 0 0] 81)
    have hb0 : w.heap.size ≤ V1.heap.size := hn.size
    have hbb : V1.heap.size < (V1.alloc (.cells #[.pointer none, .slice none 0 0] 81)).heap.size := by simp
    clear hn CT
    generalize V1.alloc (.cells #[.pointer none, .slice none 0 0] 81) = V2 at *
    generalize V1.heap.size = b at *
    go_wp2_with fail
    go_loopw [13] (fun iv wr => ∃ k : Nat, k ≤ N ∧ iv = .int .i64 k ∧ BF b b (linesA (l.take k)) wr ∧ (linesA (l.take k)).length ≤ 65536 ∧ Below w.heap.size w wr ∧ b < wr.heap.size) (fun iv _ => N - (intOf iv).toNat)
    case atStart => exact ⟨0, by omega, rfl, hI, by simp [linesA], hc, hbb⟩
    case round =>
      clear hI hc hbb
      obtain ⟨k, hk, rfl, hI, hsz, hc, hbb⟩ := hrel
      by_cases hlt : k < N
      · have hkl : k < l.length := by rw [HN.out]; exact hlt
        obtain ⟨gg, o, c, hvv, x0, x1, x2, x3, x4, x5⟩ := holds_at HV.out hc hkl
        rw [HN.out] at hvv
        injection hvv with hp1 hp2 hp3
        subst hp1
        have hok := HALL.out l[k] (List.getElem_mem hkl)
        have hgi := HG.out l[k] (List.getElem_mem hkl)
        have htk : linesA (l.take (k + 1)) = linesA (l.take k) ++ lineL l[k] ++ [10] := by rw [List.take_succ_eq_append_getElem hkl, linesA_snoc]
        generalize l[k] = a at *
        obtain ⟨A, kk, ii, g0, yy, zz⟩ := a
        have ok := aOk_iff.1 hok
        obtain ⟨yn, hyn⟩ : ∃ yn : Nat, yy = yn := ⟨yy.toNat, by have := ok.2.2.1; simp only at this; omega⟩
        obtain ⟨zn, hzn⟩ : ∃ zn : Nat, zz = zn := ⟨zz.toNat, by have := ok.2.2.2; simp only at this; omega⟩
        subst hyn hzn
        have hA0 : 0 ≤ A := ok.1.1
        have hA1 : A ≤ 9223372036854775807 := by have := ok.1.2; unfold maxT at this; simp only at this; omega
        have hy : 1 ≤ yn ∧ yn ≤ 3 := by have := ok.2.2.1; simp only at this; omega
        have hz : 1 ≤ zn ∧ zn ≤ 3 := by have := ok.2.2.2; simp only at this; omega
        obtain ⟨A0, A1, A2, A3, A4, A5, A6, q0, q1, q2, q3, q4, q5, q6, q7, q8⟩ := line_cats A kk ii g0 yn zn hok hgi
        have hwc := whyC_at hy
        have hac := ansC_at hz
        have cf := fun W (hW : Env W) => fmtint_c A W hW hA0 hA1
        have co := fun W (hW : Env W) => o_text_ok kk ii g0 W hW ok.2.1 hgi.1 hgi.2
        have CF := Lib.hid cf
        have CO := Lib.hid co
        have HTK := Lib.hid htk
        have HA6 := Lib.hid q7
        have HWC := Lib.hid hwc
        have HAC := Lib.hid hac
        have hy4 : (yn : Int) < 4 := by omega
        have hz4 : (zn : Int) < 4 := by omega
        have hy0 : (0 : Int) ≤ (yn : Int) := by omega
        have hz0 : (0 : Int) ≤ (zn : Int) := by omega
        clear cf co htk hok ok hgi hp2 hp3 hkl hwc hac q7 hA0 hA1 hy hz
        generalize digits A.toNat = DA at *
        generalize dText 58 kk ii g0 = DT at *
        generalize whyB yn = WB at *
        generalize ansB zn = AB at *
        go_upto_region 7 with fail
        clear x0 x1 x2 x3 x4 x5
        have r6 := Row.new (W := wr) (cs := #[.int .i64 A, .int .i64 kk, .int .i64 ii, .int .u32 g0, .int .i64 yn, .int .i64 zn]) (t := 43)
        have hn := below_alloc wr (.cells #[.int .i64 A, .int .i64 kk, .int .i64 ii, .int .u32 g0, .int .i64 yn, .int .i64 zn] 43)
        have hb6 : wr.heap.size ≠ b := by omega
        replace hI := BF_on hI hn
        replace hc := chain hc hn
        replace hbb := Nat.lt_of_lt_of_le hbb hn.size
        clear hn
        generalize wr.alloc (.cells #[.int .i64 A, .int .i64 kk, .int .i64 ii, .int .u32 g0, .int .i64 yn, .int .i64 zn] 43) = W1 at *
        generalize wr.heap.size = b6 at *
        have y6 := r6.cell
        have z6 := r6.lt
        go_wp2_with fail
        refine Calls.mono (CO.out _ (HE.out.on hc)) ?_
        rintro e W2 ⟨rfl, hn⟩
        clear y6 z6 CO
        replace r6 := r6.on hn
        replace hI := BF_on hI hn
        replace hc := chain hc hn
        replace hbb := Nat.lt_of_lt_of_le hbb hn.size
        clear hn
        have y6 := r6.cell
        have z6 := r6.lt
        go_upto_region 10 with fail
        clear y6 z6
        go_cut [47] (fun _ wx => BF b b (linesA (l.take (k + 1))) wx ∧ Below w.heap.size w wx ∧ b < wx.heap.size)
        case first =>
          refine wp_region_held_drew (S := fun W' => (∀ j, W'.cell? ⟨b6, j, none⟩ = (#[.int .i64 A, .int .i64 kk, .int .i64 ii, .int .u32 g0, .int .i64 yn, .int .i64 zn] : Array Value)[j]?)) (by kernel_rfl) r6.cell (fun hHeld => ?_)
          replace r6 := r6.drew
          replace hc := hc.drew
          replace hI : BF b b (linesA (l.take k)) W2.drew := BF_drew hI
          replace hbb : b < W2.drew.heap.size := hbb
          generalize W2.drew = W3 at *
          refine' wpAnyH_take (i := 0) (oi := _) (v := _) ?_ (by kernel_rfl) (by kernel_rfl) (by kernel_rfl) ?_ (Or.inl ⟨?_, ?_⟩) (by assumption) ?_
          rotate_left 2
          · (simp only [List.getElem?_toArray, List.getElem?_cons_succ, List.getElem?_cons_zero]; rfl)
          · first | exact fun _ _ _ h => h | exact fun _ _ _ h => nomatch h.1
          · rfl
          · (intro W hSW; (try dsimp only at hSW); go_split_ands; first | (go_simp; done) | (go_simp; with_reducible rfl))
          try simp only [Act.put, List.setIfInBounds_toArray, List.set_cons_zero, List.set_cons_succ]
          refine' wpAnyH_take (i := 1) (oi := _) (v := _) ?_ (by kernel_rfl) (by kernel_rfl) (by kernel_rfl) ?_ (Or.inl ⟨?_, ?_⟩) (by assumption) ?_
          rotate_left 2
          · (simp only [List.getElem?_toArray, List.getElem?_cons_succ, List.getElem?_cons_zero]; rfl)
          · first | exact fun _ _ _ h => h | exact fun _ _ _ h => nomatch h.1
          · rfl
          · (intro W hSW; (try dsimp only at hSW); go_split_ands; first | (go_simp; done) | (go_simp; with_reducible rfl))
          try simp only [Act.put, List.setIfInBounds_toArray, List.set_cons_zero, List.set_cons_succ]
          refine' wpAnyH_take (i := 4) (oi := _) (v := _) ?_ (by kernel_rfl) (by kernel_rfl) (by kernel_rfl) ?_ (Or.inl ⟨?_, ?_⟩) (by assumption) ?_
          rotate_left 2
          · (simp only [List.getElem?_toArray, List.getElem?_cons_succ, List.getElem?_cons_zero]; rfl)
          · first | exact fun _ _ _ h => h | exact fun _ _ _ h => nomatch h.1
          · rfl
          · (intro W hSW; (try dsimp only at hSW); go_split_ands; first | (go_simp; done) | (go_simp; with_reducible rfl))
          try simp only [Act.put, List.setIfInBounds_toArray, List.set_cons_zero, List.set_cons_succ]
          refine' wpAnyH_take (i := 8) (oi := _) (v := _) ?_ (by kernel_rfl) (by kernel_rfl) (by kernel_rfl) ?_ (Or.inl ⟨?_, ?_⟩) (by assumption) ?_
          rotate_left 2
          · (simp only [List.getElem?_toArray, List.getElem?_cons_succ, List.getElem?_cons_zero]; rfl)
          · first | exact fun _ _ _ h => h | exact fun _ _ _ h => nomatch h.1
          · rfl
          · (intro W hSW; (try dsimp only at hSW); go_split_ands; first | (go_simp; done) | (go_simp; with_reducible rfl))
          try simp only [Act.put, List.setIfInBounds_toArray, List.set_cons_zero, List.set_cons_succ]
          refine' wpAnyH_take (i := 9) (oi := _) (v := _) ?_ (by kernel_rfl) (by kernel_rfl) (by kernel_rfl) ?_ (Or.inl ⟨?_, ?_⟩) (by assumption) ?_
          rotate_left 2
          · (simp only [List.getElem?_toArray, List.getElem?_cons_succ, List.getElem?_cons_zero]; rfl)
          · first | exact fun _ _ _ h => h | exact fun _ _ _ h => nomatch h.1
          · rfl
          · (intro W hSW; (try dsimp only at hSW); go_split_ands; first | (go_simp; done) | (go_simp; with_reducible rfl))
          try simp only [Act.put, List.setIfInBounds_toArray, List.set_cons_zero, List.set_cons_succ]
          refine' wpAnyH_take (i := 15) (oi := _) (v := _) ?_ (by kernel_rfl) (by kernel_rfl) (by kernel_rfl) ?_ (Or.inl ⟨?_, ?_⟩) (by assumption) ?_
          rotate_left 2
          · (simp only [List.getElem?_toArray, List.getElem?_cons_succ, List.getElem?_cons_zero]; rfl)
          · first | exact fun _ _ _ h => h | exact fun _ _ _ h => nomatch h.1
          · rfl
          · (intro W hSW; (try dsimp only at hSW); go_split_ands; first | (go_simp; done) | (go_simp; with_reducible rfl))
          try simp only [Act.put, List.setIfInBounds_toArray, List.set_cons_zero, List.set_cons_succ]
          refine' wpAnyH_take (i := 16) (oi := _) (v := _) ?_ (by kernel_rfl) (by kernel_rfl) (by kernel_rfl) ?_ (Or.inl ⟨?_, ?_⟩) (by assumption) ?_
          rotate_left 2
          · (simp only [List.getElem?_toArray, List.getElem?_cons_succ, List.getElem?_cons_zero]; rfl)
          · first | exact fun _ _ _ h => h | exact fun _ _ _ h => nomatch h.1
          · rfl
          · (intro W hSW; (try dsimp only at hSW); go_split_ands; first | (go_simp; done) | (go_simp; with_reducible rfl))
          try simp only [Act.put, List.setIfInBounds_toArray, List.set_cons_zero, List.set_cons_succ]
          clear hHeld
          refine wpAnyH_ready (rs := [2]) (by kernel_rfl) (by simp) ?_
          refine' AllReadyH.cons (o := _) ?_ (fun K hK => ?_) AllReadyH.nil
          rotate_left 1
          · (simp only [List.getElem?_toArray, List.getElem?_cons_succ, List.getElem?_cons_zero]; rfl)
          go_simp
          refine Calls.mono (CF.out _ (HE.out.on hc)) ?_
          rintro e W4 ⟨rfl, hn⟩
          replace r6 := r6.on hn
          replace hI := BF_on hI hn
          replace hc := chain hc hn
          replace hbb := Nat.lt_of_lt_of_le hbb hn.size
          clear hn
          go_simp
          refine hK.out _ _ r6.cell (fun hHeld => ?_)
          clear hK K
          refine' wpAnyH_take (i := 3) (oi := _) (v := _) ?_ (by kernel_rfl) (by kernel_rfl) (by kernel_rfl) ?_ (Or.inl ⟨?_, ?_⟩) (by assumption) ?_
          rotate_left 2
          · (simp only [List.getElem?_toArray, List.getElem?_cons_succ, List.getElem?_cons_zero]; rfl)
          · first | exact fun _ _ _ h => h | exact fun _ _ _ h => nomatch h.1
          · rfl
          · (intro W hSW; (try dsimp only at hSW); go_split_ands; first | (go_simp; done) | (go_simp; with_reducible rfl))
          try simp only [Act.put, List.setIfInBounds_toArray, List.set_cons_zero, List.set_cons_succ]
          refine' wpAnyH_take (i := 5) (oi := _) (v := _) ?_ (by kernel_rfl) (by kernel_rfl) (by kernel_rfl) ?_ (Or.inl ⟨?_, ?_⟩) (by assumption) ?_
          rotate_left 2
          · (simp only [List.getElem?_toArray, List.getElem?_cons_succ, List.getElem?_cons_zero]; rfl)
          · first | exact fun _ _ _ h => h | exact fun _ _ _ h => nomatch h.1
          · rfl
          · (intro W hSW; (try dsimp only at hSW); go_split_ands; first | (go_simp; done) | (go_simp; with_reducible rfl))
          try simp only [Act.put, List.setIfInBounds_toArray, List.set_cons_zero, List.set_cons_succ]
          refine' wpAnyH_take (i := 6) (oi := _) (v := _) ?_ (by kernel_rfl) (by kernel_rfl) (by kernel_rfl) ?_ (Or.inl ⟨?_, ?_⟩) (by assumption) ?_
          rotate_left 2
          · (simp only [List.getElem?_toArray, List.getElem?_cons_succ, List.getElem?_cons_zero]; rfl)
          · first | exact fun _ _ _ h => h | exact fun _ _ _ h => nomatch h.1
          · rfl
          · (intro W hSW; (try dsimp only at hSW); go_split_ands; first | (go_simp; done) | (go_simp; with_reducible rfl))
          try simp only [Act.put, List.setIfInBounds_toArray, List.set_cons_zero, List.set_cons_succ]
          clear hHeld
          refine wpAnyH_ready (rs := [7]) (by kernel_rfl) (by simp) ?_
          refine' AllReadyH.cons (o := _) ?_ (fun K hK => ?_) AllReadyH.nil
          rotate_left 1
          · (simp only [List.getElem?_toArray, List.getElem?_cons_succ, List.getElem?_cons_zero]; rfl)
          go_simp
          refine Calls.mono (whys_c W4) ?_
          rintro e W5 ⟨rfl, hW⟩
          have hnb : W4.heap.size ≠ b := by omega
          have hn := below_alloc W4 (.cells whyC 9)
          have r7 := Row.new (W := W4) (cs := whyC) (t := 9)
          rw [← hW] at hn r7
          clear hW
          replace r6 := r6.on hn
          replace hI := BF_on hI hn
          replace hc := chain hc hn
          replace hbb := Nat.lt_of_lt_of_le hbb hn.size
          clear hn
          have hn78 : W4.heap.size ≠ b := hnb
          generalize W4.heap.size = b7 at *
          have hwcell : W5.cell? ⟨b7, yn, none⟩ = some (.string WB) := (r7.cell yn).trans HWC.out
          go_simp
          refine hK.out _ _ r6.cell (fun _ => ?_)
          clear hK K
          refine wpAnyH_more (S' := fun W' => (∀ j, W'.cell? ⟨b6, j, none⟩ = (#[.int .i64 A, .int .i64 kk, .int .i64 ii, .int .u32 g0, .int .i64 yn, .int .i64 zn] : Array Value)[j]?) ∧ W'.cell? ⟨b7, yn, none⟩ = some (.string WB)) (fun _ h => h.1) ⟨r6.cell, hwcell⟩ (fun hHeld => ?_)
          refine' wpAnyH_take (i := 10) (oi := _) (v := _) ?_ (by kernel_rfl) (by kernel_rfl) (by kernel_rfl) ?_ (Or.inl ⟨?_, ?_⟩) (by assumption) ?_
          rotate_left 2
          · (simp only [List.getElem?_toArray, List.getElem?_cons_succ, List.getElem?_cons_zero]; rfl)
          · first | exact fun _ _ _ h => h | exact fun _ _ _ h => nomatch h.1
          · rfl
          · (intro W hSW; (try dsimp only at hSW); go_split_ands; first | (go_simp; done) | (go_simp; with_reducible rfl))
          try simp only [Act.put, List.setIfInBounds_toArray, List.set_cons_zero, List.set_cons_succ]
          refine' wpAnyH_take (i := 11) (oi := _) (v := _) ?_ (by kernel_rfl) (by kernel_rfl) (by kernel_rfl) ?_ (Or.inl ⟨?_, ?_⟩) (by assumption) ?_
          rotate_left 2
          · (simp only [List.getElem?_toArray, List.getElem?_cons_succ, List.getElem?_cons_zero]; rfl)
          · first | exact fun _ _ _ h => h | exact fun _ _ _ h => nomatch h.1
          · rfl
          · (intro W hSW; (try dsimp only at hSW); go_split_ands; first | (go_simp; done) | (go_simp; with_reducible rfl))
          try simp only [Act.put, List.setIfInBounds_toArray, List.set_cons_zero, List.set_cons_succ]
          refine' wpAnyH_take (i := 12) (oi := _) (v := _) ?_ (by kernel_rfl) (by kernel_rfl) (by kernel_rfl) ?_ (Or.inl ⟨?_, ?_⟩) (by assumption) ?_
          rotate_left 2
          · (simp only [List.getElem?_toArray, List.getElem?_cons_succ, List.getElem?_cons_zero]; rfl)
          · first | exact fun _ _ _ h => h | exact fun _ _ _ h => nomatch h.1
          · rfl
          · (intro W hSW; (try dsimp only at hSW); go_split_ands; first | (go_simp; done) | (go_simp; with_reducible rfl))
          try simp only [Act.put, List.setIfInBounds_toArray, List.set_cons_zero, List.set_cons_succ]
          refine' wpAnyH_take (i := 13) (oi := _) (v := _) ?_ (by kernel_rfl) (by kernel_rfl) (by kernel_rfl) ?_ (Or.inl ⟨?_, ?_⟩) (by assumption) ?_
          rotate_left 2
          · (simp only [List.getElem?_toArray, List.getElem?_cons_succ, List.getElem?_cons_zero]; rfl)
          · first | exact fun _ _ _ h => h | exact fun _ _ _ h => nomatch h.1
          · rfl
          · (intro W hSW; (try dsimp only at hSW); go_split_ands; first | (go_simp; done) | (go_simp; with_reducible rfl))
          try simp only [Act.put, List.setIfInBounds_toArray, List.set_cons_zero, List.set_cons_succ]
          clear hHeld
          refine wpAnyH_ready (rs := [14]) (by kernel_rfl) (by simp) ?_
          refine' AllReadyH.cons (o := _) ?_ (fun K hK => ?_) AllReadyH.nil
          rotate_left 1
          · (simp only [List.getElem?_toArray, List.getElem?_cons_succ, List.getElem?_cons_zero]; rfl)
          go_simp
          refine Calls.mono (answers_c W5) ?_
          rintro e W6 ⟨rfl, hW⟩
          have hnc : W5.heap.size ≠ b := by omega
          have hn := below_alloc W5 (.cells ansC 9)
          have r8 := Row.new (W := W5) (cs := ansC) (t := 9)
          rw [← hW] at hn r8
          clear hW
          replace r6 := r6.on hn
          replace r7 := r7.on hn
          replace hI := BF_on hI hn
          replace hc := chain hc hn
          replace hbb := Nat.lt_of_lt_of_le hbb hn.size
          clear hn
          have hn88 : W5.heap.size ≠ b := hnc
          generalize W5.heap.size = b8 at *
          have hwcell : W6.cell? ⟨b7, yn, none⟩ = some (.string WB) := (r7.cell yn).trans HWC.out
          have hacell : W6.cell? ⟨b8, zn, none⟩ = some (.string AB) := (r8.cell zn).trans HAC.out
          go_simp
          refine hK.out _ _ ⟨r6.cell, hwcell⟩ (fun _ => ?_)
          clear hK K
          refine wpAnyH_more (S' := fun W' => ((∀ j, W'.cell? ⟨b6, j, none⟩ = (#[.int .i64 A, .int .i64 kk, .int .i64 ii, .int .u32 g0, .int .i64 yn, .int .i64 zn] : Array Value)[j]?) ∧ W'.cell? ⟨b7, yn, none⟩ = some (.string WB)) ∧ W'.cell? ⟨b8, zn, none⟩ = some (.string AB)) (fun _ h => h.1) ⟨⟨r6.cell, hwcell⟩, hacell⟩ (fun hHeld => ?_)
          refine' wpAnyH_take (i := 17) (oi := _) (v := _) ?_ (by kernel_rfl) (by kernel_rfl) (by kernel_rfl) ?_ (Or.inl ⟨?_, ?_⟩) (by assumption) ?_
          rotate_left 2
          · (simp only [List.getElem?_toArray, List.getElem?_cons_succ, List.getElem?_cons_zero]; rfl)
          · first | exact fun _ _ _ h => h | exact fun _ _ _ h => nomatch h.1
          · rfl
          · (intro W hSW; (try dsimp only at hSW); go_split_ands; first | (go_simp; done) | (go_simp; with_reducible rfl))
          try simp only [Act.put, List.setIfInBounds_toArray, List.set_cons_zero, List.set_cons_succ]
          refine' wpAnyH_take (i := 18) (oi := _) (v := _) ?_ (by kernel_rfl) (by kernel_rfl) (by kernel_rfl) ?_ (Or.inl ⟨?_, ?_⟩) (by assumption) ?_
          rotate_left 2
          · (simp only [List.getElem?_toArray, List.getElem?_cons_succ, List.getElem?_cons_zero]; rfl)
          · first | exact fun _ _ _ h => h | exact fun _ _ _ h => nomatch h.1
          · rfl
          · (intro W hSW; (try dsimp only at hSW); go_split_ands; first | (go_simp; done) | (go_simp; with_reducible rfl))
          try simp only [Act.put, List.setIfInBounds_toArray, List.set_cons_zero, List.set_cons_succ]
          refine' wpAnyH_take (i := 19) (oi := _) (v := _) ?_ (by kernel_rfl) (by kernel_rfl) (by kernel_rfl) ?_ (Or.inl ⟨?_, ?_⟩) (by assumption) ?_
          rotate_left 2
          · (simp only [List.getElem?_toArray, List.getElem?_cons_succ, List.getElem?_cons_zero]; rfl)
          · first | exact fun _ _ _ h => h | exact fun _ _ _ h => nomatch h.1
          · rfl
          · (intro W hSW; (try dsimp only at hSW); go_split_ands; first | (go_simp; done) | (go_simp; with_reducible rfl))
          try simp only [Act.put, List.setIfInBounds_toArray, List.set_cons_zero, List.set_cons_succ]
          refine' wpAnyH_take (i := 20) (oi := _) (v := _) ?_ (by kernel_rfl) (by kernel_rfl) (by kernel_rfl) ?_ (Or.inl ⟨?_, ?_⟩) (by assumption) ?_
          rotate_left 2
          · (simp only [List.getElem?_toArray, List.getElem?_cons_succ, List.getElem?_cons_zero]; rfl)
          · first | exact fun _ _ _ h => h | exact fun _ _ _ h => nomatch h.1
          · rfl
          · (intro W hSW; (try dsimp only at hSW); go_split_ands; first | (go_simp; done) | (go_simp; with_reducible rfl))
          try simp only [Act.put, List.setIfInBounds_toArray, List.set_cons_zero, List.set_cons_succ]
          clear hHeld
          refine wpAnyH_ready (rs := [21]) (by kernel_rfl) (by simp) ?_
          refine' AllReadyH.cons (o := _) ?_ (fun K hK => ?_) AllReadyH.nil
          rotate_left 1
          · (simp only [List.getElem?_toArray, List.getElem?_cons_succ, List.getElem?_cons_zero]; rfl)
          go_simp
          refine Calls.mono (wstr_k b b _ A6 _ hI (by omega) (by omega)) ?_
          rintro e W7 ⟨rfl, hI7, hb7, hk7⟩
          have hbz := hb7.size
          replace r6 := row_others hk7 r6 hb6 (by decide)
          replace r7 := row_others hk7 r7 hn78 (by decide)
          replace r8 := row_others hk7 r8 hn88 (by decide)
          have hwcell : W7.cell? ⟨b7, yn, none⟩ = some (.string WB) := (r7.cell yn).trans HWC.out
          have hacell : W7.cell? ⟨b8, zn, none⟩ = some (.string AB) := (r8.cell zn).trans HAC.out
          rw [HA6.out, ← List.append_assoc, ← HTK.out] at hI7
          replace hc := hc.trans (hb7.mono hb0)
          replace hbb := Nat.lt_of_lt_of_le hbb hbz
          go_simp
          refine hK.out _ _ ⟨⟨r6.cell, hwcell⟩, hacell⟩ (fun _ => ?_)
          clear hK K
          refine wpAnyH_done (by kernel_rfl) ?_ _
          go_wp2_with fail
          go_meet
          exact ⟨hI7, hc, hbb⟩
        obtain ⟨hI, hc, hbb⟩ := hcut
        go_wp2_with fail
        refine Calls.mono (blen_c b b _ _ hI) ?_
        rintro e W8 ⟨rfl, hW⟩
        subst W8
        by_cases hlong : (65536 : Int) < (linesA (l.take (k + 1))).length
        · have h10 := HR1.out (k + 1) (by omega)
          have H10 := Lib.hid h10
          clear h10
          go_wp2_with fail
          go_returns
          exact ⟨by rw [H10.out]; rfl, hc⟩
        · have hs5 : (linesA (l.take (k + 1))).length ≤ 65536 := by omega
          generalize hX : linesA (l.take (k + 1)) = X at *
          go_wp2_with fail
          go_roundw
          case rel => exact ⟨k + 1, by omega, by go_num, by rw [hX]; exact hI, by rw [hX]; exact hs5, hc, hbb⟩
          case measure => simp [intOf]; omega
      · obtain rfl : k = N := by omega
        rw [List.take_of_length_le (by rw [HN.out]; exact Nat.le_refl _)] at hI hsz
        have h0 := HR2.out hsz
        have H0 := Lib.hid h0
        clear h0
        go_wp2_with fail
        refine Calls.mono (bstr_c b b _ _ hI (by omega)) ?_
        rintro e W2 ⟨rfl, hI2, hb2⟩
        go_wp2_with fail
        go_returns
        exact ⟨by rw [H0.out]; rfl, hc.trans (hb2.mono hb0)⟩
end Go.Proofs.YtinlfheonlpceaaGreatDoor

/- strconv.Atoi: a number, or an error. -/
namespace Go.Proofs.YtinlfheonlpceaaGreatDoor
open Go.RowKit

theorem atoi_ok (s : ByteArray) (hs : s.size ≤ 100000) (v : Int) (h : Lib.atoiAll s.data.toList = .ok v) (w : World) :
    Ret 152 #[.string s] w (.tuple #[.int .i64 v, .nilIface]) :=
  (Tryz.strconv_Atoi_ok s (by omega) v h w).mono fun e w' ⟨he, hw⟩ => ⟨he, by
    rcases hw with rfl | ⟨t, rfl⟩
    · exact Below.refl _ _
    · exact Lib.bytesWorld_below _ _ _⟩
theorem atoi_bad (s : ByteArray) (hs : s.size ≤ 100000) (h : ∀ v, Lib.atoiAll s.data.toList ≠ .ok v) (w : World) (hE : EnvP w) :
    Calls Tryz.prog 152 #[.string s] w fun e w' => ∃ (n : Int) (N : Nat), e = .returned (.tuple #[.int .i64 n, .iface 180 (.pointer (some ⟨N, 0, none⟩))]) ∧ Below w.heap.size w w' := by
  obtain ⟨tp, p, _, _, _, hsyn⟩ := hE.syn
  obtain ⟨tq, q, _, _, _, hrng⟩ := hE.rng
  cases hp : Lib.atoiAll s.data.toList with
  | ok u => exact absurd hp (h u)
  | range => exact (Any.strconv_Atoi_range_var Tryz.laysC172 s (by omega) hp tq q w hrng).mono fun e w' ⟨N, he, _, _, hb⟩ => ⟨_, N, he, hb⟩
  | _ => exact (Any.strconv_Atoi_syntax_var Tryz.laysC172 s (by omega) hp tp p w hsyn).mono fun e w' ⟨N, he, _, _, hb⟩ => ⟨_, N, he, hb⟩
end Go.Proofs.YtinlfheonlpceaaGreatDoor

/- Package descr: a letter's place; strings.Cut at one byte. -/
namespace Go.Proofs.YtinlfheonlpceaaGreatDoor
open Go.RowKit

def kIdx (x : UInt8) : Int := if x = 102 then 1 else if x = 98 then 2 else if x = 108 then 3 else -1
set_option maxHeartbeats 2000000 in
set_option maxRecDepth 20000 in
theorem index_c (x : UInt8) (b : Nat) (w : World) (h0 : w.cell? ⟨b, 0, none⟩ = some (.string ⟨#[]⟩)) (h1 : w.cell? ⟨b, 1, none⟩ = some (.string ⟨#[102]⟩)) (h2 : w.cell? ⟨b, 2, none⟩ = some (.string ⟨#[98]⟩)) (h3 : w.cell? ⟨b, 3, none⟩ = some (.string ⟨#[108]⟩)) :
    Ret 131 #[.slice (some ⟨b, 0, none⟩) 4 4, .string ⟨#[x]⟩] w (.int .i64 (kIdx x)) := by
  unfold kIdx
  by_cases e1 : x = 102
  · subst e1
    go_enter Tryz.func131, Tryz.ntmps131
    go_wp2
    go_rounds 5
    go_returns
    exact ⟨rfl, by go_grown⟩
  · by_cases e2 : x = 98
    · subst e2
      go_enter Tryz.func131, Tryz.ntmps131
      go_wp2
      go_rounds 5
      go_returns
      exact ⟨rfl, by go_grown⟩
    · by_cases e3 : x = 108
      · subst e3
        go_enter Tryz.func131, Tryz.ntmps131
        go_wp2
        go_rounds 5
        go_returns
        exact ⟨rfl, by go_grown⟩
      · rw [if_neg e1, if_neg e2, if_neg e3]
        have f1 := beq_eq_false_iff_ne.2 e1
        have f2 := beq_eq_false_iff_ne.2 e2
        have f3 := beq_eq_false_iff_ne.2 e3
        clear e1 e2 e3
        go_enter Tryz.func131, Tryz.ntmps131
        go_wp2
        go_rounds 5
        go_returns
        exact ⟨rfl, by go_grown⟩
theorem cut_c (s : ByteArray) (c : UInt8) (w : World) (hE : Env w) (hs : s.size ≤ 100000) :
    Ret 67 #[.string s, .string ⟨#[c]⟩] w (.tuple #[.string ⟨(Lib.cut s.data.toList [c]).1.toArray⟩, .string ⟨(Lib.cut s.data.toList [c]).2.1.toArray⟩, .bool (Lib.cut s.data.toList [c]).2.2]) :=
  (Tryz.strings_Cut_shaped s ⟨#[c]⟩ w hE.shp (by omega)).mono fun e w' ⟨he, n, hw⟩ => ⟨he, by rw [hw]; exact below_drewN (Below.refl _ _) n⟩
end Go.Proofs.YtinlfheonlpceaaGreatDoor

/- strconv.ParseInt(s, 10, 64): a number, or an error. -/
namespace Go.Proofs.YtinlfheonlpceaaGreatDoor
open Go.RowKit
theorem pint_ok (s : ByteArray) (hs : s.size ≤ 100000) (v : Int) (h : Lib.parseIntB 64 s.data.toList = .ok v) (w : World) :
    Ret 100 #[.string s, .int .i64 10, .int .i64 64] w (.tuple #[.int .i64 v, .nilIface]) :=
  (Tryz.strconv_ParseInt_10_at64_ok s (by omega) v h w).mono fun e w' ⟨he, hw⟩ => ⟨he, by
    rcases hw with rfl | ⟨t, rfl⟩
    · exact Below.refl _ _
    · exact Lib.bytesWorld_below _ _ _⟩
theorem pint_bad (s : ByteArray) (hs : s.size ≤ 100000) (h : ∀ v, Lib.parseIntB 64 s.data.toList ≠ .ok v) (w : World) (hE : EnvP w) :
    Calls Tryz.prog 100 #[.string s, .int .i64 10, .int .i64 64] w fun e w' => ∃ (n : Int) (N : Nat), e = .returned (.tuple #[.int .i64 n, .iface 180 (.pointer (some ⟨N, 0, none⟩))]) ∧ Below w.heap.size w w' := by
  obtain ⟨tp, p, _, _, _, hsyn⟩ := hE.syn
  obtain ⟨tq, q, _, _, _, hrng⟩ := hE.rng
  cases hp : Lib.parseIntB 64 s.data.toList with
  | ok u => exact absurd hp (h u)
  | range => exact (Any.strconv_ParseInt_10_at64_range_var Tryz.laysC174 s (by omega) hp tq q w hrng).mono fun e w' ⟨N, he, _, _, hb⟩ => ⟨_, N, he, hb⟩
  | _ => exact (Any.strconv_ParseInt_10_at64_syntax_var Tryz.laysC174 s (by omega) hp tp p w hsyn).mono fun e w' ⟨N, he, _, _, hb⟩ => ⟨_, N, he, hb⟩
end Go.Proofs.YtinlfheonlpceaaGreatDoor

/- A map whose keys are resources of the outer world (chapter 07): its look-ups and its stores. -/
namespace Go.Proofs.YtinlfheonlpceaaGreatDoor
open Go.RowKit
open Go.ChangeMaps (setBlock)
open Go.WideElems (findIdx_arr)
set_option linter.unusedVariables false
set_option linter.unusedSimpArgs false
abbrev oV (k i g : Int) : Value := .agg #[.int .i64 k, .int .i64 i, .int .u32 g]
theorem out_equal (k i g k' i' g' : Int) (W : World) : (Op.equal 41 (oV k i g) (oV k' i' g')).run Tryz.prog W = .ok (decide (k = k') && (decide (i = i') && decide (g = g'))) W := by
  simp only [Op.equal, Op.maxDepth]
  go_simp
  by_cases h0 : k = k' <;> by_cases h1 : i = i' <;> by_cases h2 : g = g' <;> simp_all [Result.andThen]
theorem chk_i64 (e : Bool) (n : Nat) (x : Int) (W : World) : (Instr.checkKey e (n + 1) 3 (.int .i64 x)).run Tryz.prog W = .ok () W := by
  simp [Instr.checkKey, run_underlying Tryz.underlying3]
theorem chk_u32 (e : Bool) (n : Nat) (x : Int) (W : World) : (Instr.checkKey e (n + 1) 39 (.int .u32 x)).run Tryz.prog W = .ok () W := by
  simp [Instr.checkKey, run_underlying Tryz.underlying39]
theorem out_check0 (k i g : Int) (e : Bool) (n : Nat) (W : World) : (Instr.checkKey e (n + 1 + 1) 41 (oV k i g)).run Tryz.prog W = .ok () W := by
  rw [Instr.checkKey]
  simp [run_underlying Tryz.underlying41, Result.andThen]
  go_simp
  simp [chk_i64, chk_u32]
theorem out_check (k i g : Int) (e : Bool) (W : World) : (Instr.checkKey e 10000 41 (oV k i g)).run Tryz.prog W = .ok () W := out_check0 k i g e 9998 W
structure En where
  k : Int
  i : Int
  g : Int
  val : Value
  born : Nat
def En.me (e : En) : MapEntry := ⟨oV e.k e.i e.g, e.val, e.born⟩
def En.same (k i g : Int) (e : En) : Bool := decide (k = e.k) && (decide (i = e.i) && decide (g = e.g))
theorem En.same_iff {k i g : Int} {e : En} : e.same k i g = true ↔ k = e.k ∧ i = e.i ∧ g = e.g := by
  unfold En.same
  simp only [Bool.and_eq_true, decide_eq_true_iff]
def findE (k i g : Int) : List En → Nat → Option (Nat × Value)
  | [], _ => none
  | e :: es, n => if e.same k i g then some (n, e.val) else findE k i g es (n + 1)
theorem run_findE (k i g : Int) (W : World) : ∀ (es : List En) (n : Nat), (Instr.findAsking 41 (oV k i g) (es.map En.me) n).run Tryz.prog W = .ok (findE k i g es n) W
  | [], n => rfl
  | e :: es, n => by
    have h := out_equal k i g e.k e.i e.g W
    have ih := run_findE k i g W es (n + 1)
    rw [List.map_cons, Instr.findAsking, findE]
    simp only [Sem.run_bind, En.me, h, Result.andThen]
    unfold En.same
    cases decide (k = e.k) && (decide (i = e.i) && decide (g = e.g))
    · simpa using ih
    · rfl
theorem out_wide : (match Tryz.prog.underlying 41 with | some (.array _ _) | some (.struct _) => true | _ => false) = true := by kernel_rfl
theorem run_findK (k i g : Int) (W : World) (es : List En) : (Instr.findKey 41 (oV k i g) (es.map En.me)).run Tryz.prog W = .ok (findE k i g es 0) W := by
  rw [run_findKey_eq W (by rw [Tryz.underlying41])]
  exact run_findE k i g W es 0
/-- A map block: its entries, and its clock. -/
structure MapIs (W : World) (m : Nat) (es : List En) (clock : Nat) : Prop where
  eq : W.heap[m]? = some (.map (es.map En.me).toArray clock)
theorem MapIs.lt {W : World} {m : Nat} {es : List En} {c : Nat} (h : MapIs W m es c) : m < W.heap.size := by
  have h := h.eq
  rcases Nat.lt_or_ge m W.heap.size with h' | h'
  · exact h'
  · simp [Array.getElem?_eq_none h'] at h
theorem MapIs.on {W W' : World} {m : Nat} {es : List En} {c : Nat} (h : MapIs W m es c) (hb : Below W.heap.size W W') : MapIs W' m es c := ⟨(hb.block m h.lt).trans h.eq⟩
theorem MapIs.other {W : World} {m y : Nat} {es : List En} {c : Nat} (h : MapIs W m es c) (hn : y ≠ m) (j : Nat) (v : Value) : MapIs (W.setCell ⟨y, j, none⟩ v) m es c :=
  ⟨by have h := h.eq; simp [World.setCell, Array.getElem?_modify, h, hn]⟩
/-- What the map holds for a resource. -/
def atE (k i g : Int) (es : List En) : Value := match es.find? (En.same k i g) with
  | some e => e.val
  | none => .slice none 0 0
theorem findE_eq (k i g : Int) : ∀ (es : List En) (n : Nat), (findE k i g es n).map (·.2) = (es.find? (En.same k i g)).map (·.val)
  | [], n => rfl
  | e :: es, n => by
    rw [findE, List.find?_cons]
    cases h : e.same k i g
    · simpa using findE_eq k i g es (n + 1)
    · rfl
theorem run_lookup_o {W : World} {m : Nat} {es : List En} {c : Nat} (h : MapIs W m es c) (k i g : Int) : (Instr.lookup 67 (.map (some m)) (oV k i g) false).run Tryz.prog W = .ok (atE k i g es) W := by
  have hk := run_findK k i g W es
  have hz : (zeroValue 108).run Tryz.prog W = .ok (.slice none 0 0) W := by go_simp
  have he := findE_eq k i g es 0
  unfold atE
  simp only [Instr.lookup, run_underlying Tryz.underlying67, Sem.run_bind, MapKept.run_getObj_map h.eq, out_check, Result.andThen, List.toList_toArray, Sem.run_pure, hk]
  cases hf : findE k i g es 0 with
  | none =>
    rw [hf] at he
    have : es.find? (En.same k i g) = none := by simpa using he.symm
    rw [this]
    simp [hz, Result.andThen]
  | some q =>
    rw [hf] at he
    obtain ⟨e, he1, he2⟩ : ∃ e, es.find? (En.same k i g) = some e ∧ e.val = q.2 := by
      cases hh : es.find? (En.same k i g) with
      | none => rw [hh] at he; simp at he
      | some e => rw [hh] at he; simp at he; exact ⟨e, rfl, he.symm⟩
    rw [he1]
    simp [he2, Result.andThen]
theorem findE_none {k i g : Int} : ∀ {es : List En} {n : Nat}, findE k i g es n = none → ∀ x ∈ es, x.same k i g = false
  | [], _, _, x, hx => by simp at hx
  | e :: es, n, h, x, hx => by
    rw [findE] at h
    cases he : e.same k i g with
    | true => rw [he] at h; simp at h
    | false =>
      rw [he] at h
      rcases List.mem_cons.1 hx with rfl | hx
      · exact he
      · exact findE_none (by simpa using h) x hx
theorem findE_some {k i g : Int} : ∀ {es : List En} {n : Nat} {q : Nat × Value}, findE k i g es n = some q → ∃ pre e post, es = pre ++ e :: post ∧ q = (n + pre.length, e.val) ∧ e.same k i g = true ∧ ∀ x ∈ pre, x.same k i g = false
  | [], _, _, h => by simp [findE] at h
  | e :: es, n, q, h => by
    rw [findE] at h
    cases he : e.same k i g with
    | true =>
      rw [he] at h
      simp at h
      exact ⟨[], e, es, rfl, by simp [h.symm], he, by simp⟩
    | false =>
      rw [he] at h
      obtain ⟨pre, e0, post, h1, h2, h3, h4⟩ := findE_some (by simpa using h : findE k i g es (n + 1) = some q)
      refine ⟨e :: pre, e0, post, by rw [h1]; rfl, by rw [h2]; simp; omega, h3, fun x hx => ?_⟩
      rcases List.mem_cons.1 hx with rfl | hx
      · exact he
      · exact h4 x hx
/-- The entries behind a store. -/
def putE (k i g : Int) (v : Value) (c : Nat) (es : List En) : List En := if es.any (En.same k i g) then es.map (fun e => if e.same k i g then ⟨e.k, e.i, e.g, v, e.born⟩ else e) else es ++ [⟨k, i, g, v, c⟩]
def putC (k i g : Int) (c : Nat) (es : List En) : Nat := if es.any (En.same k i g) then c else c + 1
def stampE (k i g : Int) (c : Nat) (es : List En) : Nat := match es.find? (En.same k i g) with
  | some e => e.born
  | none => c
def KeysApart (es : List En) : Prop := es.Pairwise fun x y => ¬ (x.k = y.k ∧ x.i = y.i ∧ x.g = y.g)
theorem keys_post {k i g : Int} {pre post : List En} {e : En} (h : KeysApart (pre ++ e :: post)) (he : e.same k i g = true) : (∀ x ∈ pre, x.same k i g = false) ∧ ∀ x ∈ post, x.same k i g = false := by
  have h2 := List.pairwise_append.1 h
  have h3 := List.pairwise_cons.1 h2.2.1
  obtain ⟨e1, e2, e3⟩ := En.same_iff.1 he
  constructor <;> intro x hx <;> cases hs : x.same k i g with
  | false => rfl
  | true =>
    obtain ⟨a1, a2, a3⟩ := En.same_iff.1 hs
    first
      | exact absurd ⟨a1.symm.trans e1, a2.symm.trans e2, a3.symm.trans e3⟩ (h2.2.2 x hx e (by simp))
      | exact absurd ⟨e1.symm.trans a1, e2.symm.trans a2, e3.symm.trans a3⟩ (h3.1 x hx)
theorem map_none {k i g : Int} (v : Value) : ∀ (l : List En), (∀ x ∈ l, x.same k i g = false) → l.map (fun e => if e.same k i g then (⟨e.k, e.i, e.g, v, e.born⟩ : En) else e) = l
  | [], _ => rfl
  | x :: l, h => by
    rw [List.map_cons, map_none v l (fun y hy => h y (by simp [hy])), h x (by simp)]
    rfl
theorem any_none {k i g : Int} {l : List En} (h : ∀ x ∈ l, x.same k i g = false) : l.any (En.same k i g) = false := by
  rw [List.any_eq_false]
  intro x hx
  rw [h x hx]
  decide
theorem put_hit {k i g : Int} (v : Value) (c : Nat) {pre post : List En} {e : En} (h : KeysApart (pre ++ e :: post)) (he : e.same k i g = true) :
    putE k i g v c (pre ++ e :: post) = pre ++ ⟨e.k, e.i, e.g, v, e.born⟩ :: post ∧ putC k i g c (pre ++ e :: post) = c ∧ atE k i g (pre ++ e :: post) = e.val ∧ stampE k i g c (pre ++ e :: post) = e.born := by
  obtain ⟨h1, h2⟩ := keys_post h he
  have ha : (pre ++ e :: post).any (En.same k i g) = true := List.any_eq_true.2 ⟨e, by simp, he⟩
  have hf : (pre ++ e :: post).find? (En.same k i g) = some e := by
    rw [List.find?_append, List.find?_eq_none.2 (fun x hx => by rw [h1 x hx]; decide), Option.none_or, List.find?_cons, he]
  refine ⟨?_, ?_, ?_, ?_⟩
  · unfold putE
    rw [if_pos ha, List.map_append, map_none v pre h1, List.map_cons, map_none v post h2, if_pos he]
  · unfold putC
    rw [if_pos ha]
  · unfold atE
    rw [hf]
  · unfold stampE
    rw [hf]
theorem put_miss {k i g : Int} (v : Value) (c : Nat) {es : List En} (h : ∀ x ∈ es, x.same k i g = false) : putE k i g v c es = es ++ [⟨k, i, g, v, c⟩] ∧ putC k i g c es = c + 1 ∧ atE k i g es = .slice none 0 0 ∧ stampE k i g c es = c := by
  have ha := any_none h
  have hf : es.find? (En.same k i g) = none := List.find?_eq_none.2 (fun x hx => by rw [h x hx]; decide)
  refine ⟨?_, ?_, ?_, ?_⟩
  · unfold putE
    rw [ha]
    rfl
  · unfold putC
    rw [ha]
    rfl
  · unfold atE
    rw [hf]
  · unfold stampE
    rw [hf]
theorem modify_mid {α : Type} (pre post : List α) (e : α) (f : α → α) : (pre ++ e :: post).toArray.modify pre.length f = (pre ++ f e :: post).toArray := by
  apply Array.ext'
  rw [Array.toList_modify]
  simp only [List.toList_toArray]
  induction pre with
  | nil => rfl
  | cons x pre ih => simpa using ih
theorem findIdx_mid {α : Type} (p : α → Bool) (pre post : List α) (e : α) (h1 : ∀ x ∈ pre, p x = false) (h2 : p e = true) : (pre ++ e :: post).toArray.findIdx? p = some pre.length := by
  simp only [List.findIdx?_toArray]
  induction pre with
  | nil => simp [List.findIdx?_cons, h2]
  | cons x pre ih =>
    rw [List.cons_append, List.findIdx?_cons, h1 x (by simp), ih (fun y hy => h1 y (by simp [hy]))]
    simp
theorem out_stays (k i g : Int) (W : World) : (Instr.keyThatStays (oV k i g) (oV k i g)).run Tryz.prog W = .ok (oV k i g) W := by
  have : Instr.sameBits 10000 (oV k i g) (oV k i g) = true := by simp [Instr.sameBits]
  unfold Instr.keyThatStays
  rw [if_pos this]
  rfl
abbrev mapT : TypeId := 67
theorem set_same {W : World} {m : Nat} {o : Obj} (h : W.heap[m]? = some o) : setBlock W m o = W := by
  unfold setBlock
  have hv : W.heap.setIfInBounds m o = W.heap := by
    apply Array.ext_getElem?
    intro j
    rw [Array.getElem?_setIfInBounds]
    split
    · rename_i e
      subst e
      rw [h, if_pos (Array.getElem?_eq_some_iff.1 h).1]
    · rfl
  rw [hv]
theorem run_mapEntry_o {W : World} {m : Nat} {es : List En} {c : Nat} (h : MapIs W m es c) (hk : KeysApart es) (k i g : Int) :
    (Instr.mapEntry mapT (.map (some m)) (oV k i g)).run Tryz.prog W = .ok (.tuple #[atE k i g es, goInt (stampE k i g c es)]) (setBlock W m (.map ((putE k i g (atE k i g es) c es).map En.me).toArray (putC k i g c es))) := by
  have hz : (zeroValue 108).run Tryz.prog W = .ok (.slice none 0 0) W := by go_simp
  have hf := run_findK k i g W es
  cases hq : findE k i g es 0 with
  | none =>
    rw [hq] at hf
    obtain ⟨p1, p2, p3, p4⟩ := put_miss (k := k) (i := i) (g := g) (atE k i g es) c (findE_none hq)
    rw [p1, p2, p4, p3]
    simp [Instr.mapEntry, run_underlying Tryz.underlying67, MapKept.run_getObj_map h.eq, out_check, hf, hz, MapKept.run_setObj_map _ h.eq, Result.andThen, setBlock, En.me]
  | some q =>
    rw [hq] at hf
    obtain ⟨pre, e, post, rfl, rfl, he, hpre⟩ := findE_some hq
    obtain ⟨p1, p2, p3, p4⟩ := put_hit (k := k) (i := i) (g := g) (atE k i g (pre ++ e :: post)) c hk he
    rw [p1, p2, p4, p3]
    obtain ⟨rfl, rfl, rfl⟩ := En.same_iff.1 he
    have hm := modify_mid (pre.map En.me) (post.map En.me) (En.me e) (fun e' => { e' with key := oV e.k e.i e.g })
    rw [List.length_map] at hm
    have hget : ((pre ++ e :: post).map En.me).toArray[0 + pre.length]? = some (En.me e) := by simp
    have hst := out_stays e.k e.i e.g W
    simp only [Nat.zero_add] at hget hf
    simp only [Instr.mapEntry, run_underlying Tryz.underlying67, Sem.run_bind, MapKept.run_getObj_map h.eq, out_check, Result.andThen, List.toList_toArray, Sem.run_pure, hf, hget, Option.map_some, Option.getD_some]
    simp only [En.me] at hst ⊢
    rw [hst]
    simp only [List.map_append, List.map_cons] at hm ⊢
    simp only [En.me] at hm ⊢
    rw [hm, MapKept.run_setObj_map _ h.eq]
    rfl
theorem run_entryStore_o {W : World} {m : Nat} {es : List En} {c : Nat} {u : Value} {k i g : Int} (hk : KeysApart es) (hb : ∀ e ∈ es, e.born < c) (hn : (es.map (·.born)).Nodup) (h : MapIs W m (putE k i g u c es) (putC k i g c es)) (v : Value) :
    (Instr.entryStore mapT (.map (some m)) (goInt (stampE k i g c es)) v).run Tryz.prog W = .ok () (setBlock W m (.map ((putE k i g v c es).map En.me).toArray (putC k i g c es))) := by
  cases hq : findE k i g es 0 with
  | none =>
    obtain ⟨p1, p2, _, p4⟩ := put_miss (k := k) (i := i) (g := g) u c (findE_none hq)
    obtain ⟨q1, _⟩ := put_miss (k := k) (i := i) (g := g) v c (findE_none hq)
    have heq := h.eq
    rw [p1, p2] at heq
    rw [q1, p2, p4]
    have hidx := findIdx_mid (fun e => ((e.born : Nat) : Int) == ((c : Nat) : Int)) (es.map En.me) [] (En.me ⟨k, i, g, u, c⟩) (fun x hx => by
      obtain ⟨y, hy, rfl⟩ := List.mem_map.1 hx
      have := hb y hy
      rw [beq_eq_false_iff_ne]
      show ((y.born : Nat) : Int) ≠ _
      omega) (by simp [En.me])
    have hm := modify_mid (es.map En.me) [] (En.me ⟨k, i, g, u, c⟩) (fun e' => { e' with val := v })
    simp only [List.map_append, List.map_cons, List.map_nil] at heq ⊢
    simp only [Instr.entryStore, Sem.run_bind, MapKept.run_getObj_map heq, asInt, asIntOf, goInt, Result.andThen, Sem.run_pure, hidx]
    rw [hm, MapKept.run_setObj_map _ heq]
    rfl
  | some q =>
    obtain ⟨pre, e, post, rfl, _, he, hpre⟩ := findE_some hq
    obtain ⟨p1, p2, _, p4⟩ := put_hit (k := k) (i := i) (g := g) u c hk he
    obtain ⟨q1, _⟩ := put_hit (k := k) (i := i) (g := g) v c hk he
    have heq := h.eq
    rw [p1, p2] at heq
    rw [q1, p2, p4]
    rw [List.map_append, List.map_cons] at hn
    have hn2 := List.nodup_append.1 hn
    have hidx := findIdx_mid (fun e' => ((e'.born : Nat) : Int) == ((e.born : Nat) : Int)) (pre.map En.me) (post.map En.me) (En.me ⟨e.k, e.i, e.g, u, e.born⟩) (fun x hx => by
      obtain ⟨y, hy, rfl⟩ := List.mem_map.1 hx
      rw [beq_eq_false_iff_ne]
      show ((y.born : Nat) : Int) ≠ _
      have := hn2.2.2 y.born (List.mem_map.2 ⟨y, hy, rfl⟩) e.born (by simp)
      omega) (by simp [En.me])
    have hm := modify_mid (pre.map En.me) (post.map En.me) (En.me ⟨e.k, e.i, e.g, u, e.born⟩) (fun e' => { e' with val := v })
    simp only [List.map_append, List.map_cons] at heq ⊢
    simp only [Instr.entryStore, Sem.run_bind, MapKept.run_getObj_map heq, asInt, asIntOf, goInt, Result.andThen, Sem.run_pure, hidx]
    rw [hm, MapKept.run_setObj_map _ heq]
    rfl
end Go.Proofs.YtinlfheonlpceaaGreatDoor

/- A ledger in memory: its slice, its map, and the slices in the map; what stays, when it is added to (chapter 07). -/
namespace Go.Proofs.YtinlfheonlpceaaGreatDoor
open Go.RowKit
set_option linter.unusedVariables false
set_option linter.unusedSimpArgs false
/-- Nothing that lay there has turned but blocks of F. -/
structure But (F : Nat → Prop) (w w' : World) : Prop where
  os : w'.os = w.os
  tape : w'.tape = w.tape
  output : w'.output = w.output
  size : w.heap.size ≤ w'.heap.size
  block : ∀ k, k < w.heap.size → ¬ F k → w'.heap[k]? = w.heap[k]?
theorem but_of {w w' : World} (F : Nat → Prop) (h : Below w.heap.size w w') : But F w w' := ⟨h.os, h.tape, h.output, h.size, fun k hk _ => h.block k hk⟩
theorem But.refl (F : Nat → Prop) (w : World) : But F w w := but_of F (Below.refl _ _)
theorem But.trans {F G : Nat → Prop} {a b c : World} (h : But F a b) (k : But G b c) (hG : ∀ i, i < a.heap.size → G i → F i) : But F a c :=
  ⟨k.os.trans h.os, k.tape.trans h.tape, k.output.trans h.output, Nat.le_trans h.size k.size, fun i hi hF => (k.block i (Nat.lt_of_lt_of_le hi h.size) (fun hg => hF (hG i hi hg))).trans (h.block i hi hF)⟩
theorem But.on {F : Nat → Prop} {a b c : World} (h : But F a b) (k : Below b.heap.size b c) : But F a c := h.trans (but_of (fun _ => False) k) (fun _ _ h => h.elim)
theorem But.below {F : Nat → Prop} {w w' : World} {B : Nat} (h : But F w w') (hB : B ≤ w.heap.size) (hF : ∀ i, i < B → ¬ F i) : Below B w w' :=
  ⟨h.os, h.tape, h.output, h.size, fun k hk => h.block k (Nat.lt_of_lt_of_le hk hB) (hF k hk)⟩
theorem But.row {F : Nat → Prop} {W W' : World} {x : Nat} {cs : Array Value} {t : TypeId} (hb : But F W W') (h : Row W x cs t) (hx : ¬ F x) : Row W' x cs t := ⟨(hb.block x h.lt hx).trans h.eq⟩
theorem OwnsA.lt {b : Nat} {W : World} {v : Value} {l : List AtR} (h : OwnsA b W v l) : ∀ k, v.ownBlock = some k → b ≤ k ∧ k < W.heap.size := World.ownsRow.lt h
theorem OwnsA.via {b : Nat} {W W' : World} {v : Value} {l : List AtR} (h : OwnsA b W v l) (hb : ∀ k, v.ownBlock = some k → W'.heap[k]? = W.heap[k]?) : OwnsA b W' v l := by
  refine ⟨h.1, ?_⟩
  rcases h.2 with h0 | ⟨g, cap, cur, h1, h2, h3, h4⟩
  · exact .inl h0
  · exact .inr ⟨g, cap, cur, h1, h2, (hb g (by rw [h1]; rfl)).trans h3, h4⟩
theorem But.own {F : Nat → Prop} {W W' : World} {b : Nat} {v : Value} {l : List AtR} (hb : But F W W') (h : OwnsA b W v l) (hF : ∀ i, v.ownBlock = some i → ¬ F i) : OwnsA b W' v l :=
  h.via (fun k hk => hb.block k (h.lt k hk).2 (hF k hk))
theorem HoldsA.via {W W' : World} {v : Value} {l : List AtR} (h : HoldsA W v l) (hb : ∀ k, v.ownBlock = some k → W'.heap[k]? = W.heap[k]?) : HoldsA W' v l := by
  rcases h with h | ⟨g, o, c, h1, h2⟩
  · exact .inl h
  · refine .inr ⟨g, o, c, h1, fun j r hj t ht => ?_⟩
    rw [← h2 j r hj t ht]
    have := hb g (by rw [h1]; rfl)
    simp [World.cell?, this]
/-- A slice of one's own of positions. -/
def OwnsI (base : Nat) (W : World) (v : Value) (l : List Nat) : Prop := W.ownsRow base 3 1 v l.length (l.map fun (n : Nat) => Value.int .i64 n)
theorem OwnsI.lt {b : Nat} {W : World} {v : Value} {l : List Nat} (h : OwnsI b W v l) : ∀ k, v.ownBlock = some k → b ≤ k ∧ k < W.heap.size := World.ownsRow.lt h
theorem OwnsI.via {b : Nat} {W W' : World} {v : Value} {l : List Nat} (h : OwnsI b W v l) (hb : ∀ k, v.ownBlock = some k → W'.heap[k]? = W.heap[k]?) : OwnsI b W' v l := by
  refine ⟨h.1, ?_⟩
  rcases h.2 with h0 | ⟨g, cap, cur, h1, h2, h3, h4⟩
  · exact .inl h0
  · exact .inr ⟨g, cap, cur, h1, h2, (hb g (by rw [h1]; rfl)).trans h3, h4⟩
theorem OwnsI.on {b : Nat} {W W' : World} {v : Value} {l : List Nat} (h : OwnsI b W v l) (hb : Below W.heap.size W W') : OwnsI b W' v l := h.via (fun k hk => hb.block k (h.lt k hk).2)
theorem OwnsI.nil (b : Nat) (W : World) : OwnsI b W (.slice none 0 0) [] := World.ownsRow_nil _ _ _ _
theorem OwnsI.form {b : Nat} {W : World} {v : Value} {l : List Nat} (h : OwnsI b W v l) : (v = .slice none 0 0 ∧ l = []) ∨ ∃ g cap, v = .slice (some ⟨g, 0, none⟩) l.length cap ∧ g < W.heap.size ∧ ∀ (j n : Nat), l[j]? = some n → W.cell? ⟨g, j, none⟩ = some (.int .i64 n) := by
  rcases h.2 with ⟨h0, h1⟩ | ⟨g, cap, cur, h1, h2, h3, h4, h5, h6, h7⟩
  · exact .inl ⟨h0, List.eq_nil_of_length_eq_zero h1⟩
  · refine .inr ⟨g, cap, h1, (Array.getElem?_eq_some_iff.1 h3).1, fun j n hj => ?_⟩
    have hjl := (List.getElem?_eq_some_iff.1 hj).1
    have e : W.cell? ⟨g, j, none⟩ = cur[j]? := by simp [World.cell?, h3]
    have e2 : (cur.toList.take (l.length * 1))[j]? = some (.int .i64 n) := by rw [h7]; simp [hj]
    rw [List.getElem?_take, if_pos (by omega), Array.getElem?_toList] at e2
    rw [e, e2]
abbrev LedT : TypeId := 69
abbrev ledP (p : Nat) : Value := .pointer (some ⟨p, 0, none⟩)
structure LedIs (W : World) (F : Nat → Prop) (p : Nat) (l : List AtR) (v : Value) (m : Nat) (es : List En) (clk : Nat) : Prop where
  row : Row W p #[v, .map (some m)] LedT
  own : OwnsA 0 W v l
  mp : MapIs W m es clk
  apart : KeysApart es
  born : ∀ e ∈ es, e.born < clk
  nodup : (es.map (·.born)).Nodup
  ints : ∀ e ∈ es, OwnsI 0 W e.val (posL e.k e.i e.g l)
  has : ∀ k i g, (∀ x ∈ es, x.same k i g = false) → ofL k i g l = []
  rows : es.Pairwise fun x y => ∀ b, x.val.ownBlock = some b → y.val.ownBlock ≠ some b
  fp : F p
  fm : F m
  fv : ∀ b, v.ownBlock = some b → F b
  fe : ∀ e ∈ es, ∀ b, e.val.ownBlock = some b → F b
  fin : ∀ b, F b → b < W.heap.size
  len : l.length ≤ 10000
  ok : ∀ a ∈ l, aOk a = true ∧ gIn a
def Led (W : World) (F : Nat → Prop) (p : Nat) (l : List AtR) : Prop := ∃ v m es clk, LedIs W F p l v m es clk
section
variable {W W' : World} {F : Nat → Prop} {p : Nat} {l : List AtR} {v : Value} {m : Nat} {es : List En} {clk : Nat}
theorem MapIs.via {m : Nat} {es : List En} {c : Nat} (h : MapIs W m es c) (hb : W'.heap[m]? = W.heap[m]?) : MapIs W' m es c := ⟨hb.trans h.eq⟩
/-- What stays where no block of the ledger turns. -/
theorem LedIs.via (h : LedIs W F p l v m es clk) (hs : W.heap.size ≤ W'.heap.size) (hb : ∀ b, F b → W'.heap[b]? = W.heap[b]?) : LedIs W' F p l v m es clk where
  row := ⟨(hb p h.fp).trans h.row.eq⟩
  own := h.own.via (fun k hk => hb k (h.fv k hk))
  mp := h.mp.via (hb m h.fm)
  apart := h.apart
  born := h.born
  nodup := h.nodup
  ints := fun e he => (h.ints e he).via (fun k hk => hb k (h.fe e he k hk))
  has := h.has
  rows := h.rows
  fp := h.fp
  fm := h.fm
  fv := h.fv
  fe := h.fe
  fin := fun b hF => Nat.lt_of_lt_of_le (h.fin b hF) hs
  len := h.len
  ok := h.ok
theorem LedIs.on (h : LedIs W F p l v m es clk) (hb : Below W.heap.size W W') : LedIs W' F p l v m es clk := h.via hb.size (fun b hF => hb.block b (h.fin b hF))
theorem Led.on (h : Led W F p l) (hb : Below W.heap.size W W') : Led W' F p l := by
  obtain ⟨v, m, es, clk, h⟩ := h
  exact ⟨v, m, es, clk, h.on hb⟩
/-- Another ledger's blocks are not this one's. -/
theorem Led.but {G : Nat → Prop} (h : Led W F p l) (hb : But G W W') (hd : ∀ b, F b → ¬ G b) : Led W' F p l := by
  obtain ⟨v, m, es, clk, h⟩ := h
  exact ⟨v, m, es, clk, h.via hb.size (fun b hF => hb.block b (h.fin b hF) (hd b hF))⟩
theorem Led.fin (h : Led W F p l) : ∀ b, F b → b < W.heap.size := by
  obtain ⟨v, m, es, clk, h⟩ := h
  exact h.fin
/-- The entry of a resource. -/
theorem find_in {k i g : Int} {e : En} (h : es.find? (En.same k i g) = some e) : e ∈ es ∧ e.same k i g = true := ⟨List.mem_of_find?_eq_some h, List.find?_some h⟩
theorem LedIs.at_ (h : LedIs W F p l v m es clk) (k i g : Int) : OwnsI 0 W (atE k i g es) (posL k i g l) ∧ ∀ b, (atE k i g es).ownBlock = some b → F b := by
  unfold atE
  cases hf : es.find? (En.same k i g) with
  | none =>
    have h0 := h.has k i g (fun x hx => by
      have := List.find?_eq_none.1 hf x hx
      simpa using this)
    have h1 : posL k i g l = [] := List.eq_nil_of_length_eq_zero (by rw [posL_len, h0]; rfl)
    rw [h1]
    exact ⟨OwnsI.nil _ _, fun b hb => by simp [Value.ownBlock] at hb⟩
  | some e =>
    obtain ⟨hm, hs⟩ := find_in hf
    obtain ⟨rfl, rfl, rfl⟩ := En.same_iff.1 hs
    exact ⟨h.ints e hm, h.fe e hm⟩
theorem putE_mem {k i g : Int} {u : Value} {c : Nat} {x : En} (ha : KeysApart es) (h : x ∈ putE k i g u c es) : (x.k = k ∧ x.i = i ∧ x.g = g ∧ x.val = u) ∨ (x ∈ es ∧ x.same k i g = false) := by
  by_cases hq : ∃ e ∈ es, e.same k i g = true
  · obtain ⟨e, he, hs⟩ := hq
    obtain ⟨pre, post, rfl⟩ := List.append_of_mem he
    rw [(put_hit u c ha hs).1] at h
    obtain ⟨h1, h2⟩ := keys_post ha hs
    obtain ⟨rfl, rfl, rfl⟩ := En.same_iff.1 hs
    rcases List.mem_append.1 h with h | h
    · exact .inr ⟨by simp [h], h1 x h⟩
    · rcases List.mem_cons.1 h with rfl | h
      · exact .inl ⟨rfl, rfl, rfl, rfl⟩
      · exact .inr ⟨by simp [h], h2 x h⟩
  · have hn : ∀ x ∈ es, x.same k i g = false := fun x hx => by
      cases hs : x.same k i g with
      | false => rfl
      | true => exact absurd ⟨x, hx, hs⟩ hq
    rw [(put_miss u c hn).1] at h
    rcases List.mem_append.1 h with h | h
    · exact .inr ⟨h, hn x h⟩
    · rw [List.mem_singleton] at h
      subst h
      exact .inl ⟨rfl, rfl, rfl, rfl⟩
theorem atE_mem {k i g : Int} {e : En} (ha : KeysApart es) (he : e ∈ es) (hs : e.same k i g = true) : atE k i g es = e.val := by
  obtain ⟨pre, post, rfl⟩ := List.append_of_mem he
  exact (put_hit e.val 0 ha hs).2.2.1
theorem posL_other {k i g : Int} (l : List AtR) (a : AtR) (h : sameO k i g a = false) : posL k i g (l ++ [a]) = posL k i g l := by rw [posL_snoc, h]; simp
theorem ofL_other {k i g : Int} (l : List AtR) (a : AtR) (h : sameO k i g a = false) : ofL k i g (l ++ [a]) = ofL k i g l := by unfold ofL; simp [h]
theorem sameO_self (a : AtR) : sameO a.k a.i a.g a = true := sameO_iff.2 ⟨rfl, rfl, rfl⟩
/-- The ledger with one more. -/
theorem LedIs.add (h : LedIs W F p l v m es clk) (a : AtR) (ha : aOk a = true ∧ gIn a) (hl : l.length + 1 ≤ 10000) {v' u : Value} (hs : W.heap.size ≤ W'.heap.size)
    (hrow : Row W' p #[v', .map (some m)] LedT) (hown : OwnsA 0 W' v' (l ++ [a])) (hint : OwnsI 0 W' u (posL a.k a.i a.g l ++ [l.length])) (hmap : MapIs W' m (putE a.k a.i a.g u clk es) (putC a.k a.i a.g clk es))
    (hvb : ∀ b, v'.ownBlock = some b → F b ∨ W.heap.size ≤ b) (hub : ∀ b, u.ownBlock = some b → (atE a.k a.i a.g es).ownBlock = some b ∨ W.heap.size ≤ b)
    (hstay : ∀ e ∈ es, e.same a.k a.i a.g = false → ∀ b, e.val.ownBlock = some b → W'.heap[b]? = W.heap[b]?) :
    LedIs W' (fun b => F b ∨ (W.heap.size ≤ b ∧ b < W'.heap.size)) p (l ++ [a]) v' m (putE a.k a.i a.g u clk es) (putC a.k a.i a.g clk es) := by
  have hat := (h.at_ a.k a.i a.g).2
  have hufresh : ∀ b, u.ownBlock = some b → ∀ e ∈ es, e.same a.k a.i a.g = false → e.val.ownBlock ≠ some b := by
    intro b hb e he hs heb
    rcases hub b hb with h1 | h1
    · cases hf : es.find? (En.same a.k a.i a.g) with
      | none => unfold atE at h1; rw [hf] at h1; simp [Value.ownBlock] at h1
      | some e2 =>
        obtain ⟨hm2, hs2⟩ := find_in hf
        rw [atE_mem h.apart hm2 hs2] at h1
        have hne : e ≠ e2 := fun e' => by rw [e', hs2] at hs; cases hs
        have hsym : es.Pairwise fun x y => (∀ b, x.val.ownBlock = some b → y.val.ownBlock ≠ some b) := h.rows
        rcases List.append_of_mem he with ⟨pre, post, rfl⟩
        have hp := List.pairwise_append.1 hsym
        have hp2 := List.pairwise_cons.1 hp.2.1
        rcases List.mem_append.1 hm2 with hq | hq
        · exact hp.2.2 e2 hq e (by simp) b h1 heb
        · rcases List.mem_cons.1 hq with hq | hq
          · exact hne hq.symm
          · exact hp2.1 e2 hq b heb h1
    · have := (h.ints e he).lt b heb
      omega
  refine ⟨hrow, hown, hmap, ?_, ?_, ?_, ?_, ?_, ?_, .inl h.fp, .inl h.fm, ?_, ?_, ?_, by simp; omega, ?_⟩
  · -- apart
    by_cases hq : ∃ e ∈ es, e.same a.k a.i a.g = true
    · obtain ⟨e, he, hs⟩ := hq
      obtain ⟨pre, post, rfl⟩ := List.append_of_mem he
      rw [(put_hit u clk h.apart hs).1]
      have hp := List.pairwise_append.1 h.apart
      have hp2 := List.pairwise_cons.1 hp.2.1
      refine List.pairwise_append.2 ⟨hp.1, List.pairwise_cons.2 ⟨fun y hy => hp2.1 y hy, hp2.2⟩, fun x hx y hy => ?_⟩
      rcases List.mem_cons.1 hy with rfl | hy
      · exact hp.2.2 x hx e (by simp)
      · exact hp.2.2 x hx y (by simp [hy])
    · have hn : ∀ x ∈ es, x.same a.k a.i a.g = false := fun x hx => by
        cases hs : x.same a.k a.i a.g with
        | false => rfl
        | true => exact absurd ⟨x, hx, hs⟩ hq
      rw [(put_miss u clk hn).1]
      refine List.pairwise_append.2 ⟨h.apart, by simp, fun x hx y hy => ?_⟩
      rw [List.mem_singleton] at hy
      subst hy
      rintro ⟨h1, h2, h3⟩
      have := hn x hx
      rw [En.same_iff.2 ⟨h1.symm, h2.symm, h3.symm⟩] at this
      cases this
  · -- born
    intro x hx
    by_cases hq : ∃ e ∈ es, e.same a.k a.i a.g = true
    · obtain ⟨e, he, hs⟩ := hq
      obtain ⟨pre, post, rfl⟩ := List.append_of_mem he
      rw [(put_hit u clk h.apart hs).1] at hx
      rw [(put_hit u clk h.apart hs).2.1]
      rcases List.mem_append.1 hx with hx | hx
      · exact h.born x (by simp [hx])
      · rcases List.mem_cons.1 hx with rfl | hx
        · exact h.born e (by simp)
        · exact h.born x (by simp [hx])
    · have hn : ∀ x ∈ es, x.same a.k a.i a.g = false := fun x hx => by
        cases hs : x.same a.k a.i a.g with
        | false => rfl
        | true => exact absurd ⟨x, hx, hs⟩ hq
      rw [(put_miss u clk hn).1] at hx
      rw [(put_miss u clk hn).2.1]
      rcases List.mem_append.1 hx with hx | hx
      · exact Nat.lt_succ_of_lt (h.born x hx)
      · rw [List.mem_singleton] at hx
        subst hx
        exact Nat.lt_succ_self _
  · -- nodup
    by_cases hq : ∃ e ∈ es, e.same a.k a.i a.g = true
    · obtain ⟨e, he, hs⟩ := hq
      obtain ⟨pre, post, rfl⟩ := List.append_of_mem he
      rw [(put_hit u clk h.apart hs).1]
      have := h.nodup
      simpa using this
    · have hn : ∀ x ∈ es, x.same a.k a.i a.g = false := fun x hx => by
        cases hs : x.same a.k a.i a.g with
        | false => rfl
        | true => exact absurd ⟨x, hx, hs⟩ hq
      rw [(put_miss u clk hn).1, List.map_append]
      refine List.nodup_append.2 ⟨h.nodup, by simp, fun x hx y hy => ?_⟩
      obtain ⟨z, hz, rfl⟩ := List.mem_map.1 hx
      have := h.born z hz
      simp at hy
      omega
  · -- ints
    intro x hx
    rcases putE_mem h.apart hx with ⟨h1, h2, h3, h4⟩ | ⟨h1, h2⟩
    · rw [h1, h2, h3, h4, posL_snoc, sameO_self, if_pos rfl]
      exact hint
    · have hso : sameO x.k x.i x.g a = false := by
        cases hh : sameO x.k x.i x.g a with
        | false => rfl
        | true =>
          obtain ⟨e1, e2, e3⟩ := sameO_iff.1 hh
          rw [En.same_iff.2 ⟨e1, e2, e3⟩] at h2
          cases h2
      rw [posL_other l a hso]
      exact (h.ints x h1).via (fun k hk => hstay x h1 h2 k hk)
  · -- has
    intro k i g hx
    by_cases hk : sameO k i g a = true
    · obtain ⟨e1, e2, e3⟩ := sameO_iff.1 hk
      subst e1 e2 e3
      exfalso
      by_cases hq : ∃ e ∈ es, e.same a.k a.i a.g = true
      · obtain ⟨e, he, hs⟩ := hq
        obtain ⟨pre, post, rfl⟩ := List.append_of_mem he
        rw [(put_hit u clk h.apart hs).1] at hx
        have := hx ⟨e.k, e.i, e.g, u, e.born⟩ (by simp)
        have ht : En.same a.k a.i a.g ⟨e.k, e.i, e.g, u, e.born⟩ = true := En.same_iff.2 (En.same_iff.1 hs)
        exact Bool.noConfusion (ht.symm.trans this)
      · have hn : ∀ x ∈ es, x.same a.k a.i a.g = false := fun x hx => by
          cases hs : x.same a.k a.i a.g with
          | false => rfl
          | true => exact absurd ⟨x, hx, hs⟩ hq
        rw [(put_miss u clk hn).1] at hx
        have := hx ⟨a.k, a.i, a.g, u, clk⟩ (by simp)
        have ht : En.same a.k a.i a.g ⟨a.k, a.i, a.g, u, clk⟩ = true := En.same_iff.2 ⟨rfl, rfl, rfl⟩
        exact Bool.noConfusion (ht.symm.trans this)
    · have hk2 : sameO k i g a = false := by simpa using hk
      rw [ofL_other l a hk2]
      refine h.has k i g (fun x hxe => ?_)
      cases hs : x.same k i g with
      | false => rfl
      | true =>
        exfalso
        by_cases hq : x.same a.k a.i a.g = true
        · obtain ⟨e1, e2, e3⟩ := En.same_iff.1 hs
          obtain ⟨f1, f2, f3⟩ := En.same_iff.1 hq
          rw [sameO_iff.2 ⟨f1.trans e1.symm, f2.trans e2.symm, f3.trans e3.symm⟩] at hk2
          cases hk2
        · have hq2 : x.same a.k a.i a.g = false := by simpa using hq
          have hin : x ∈ putE a.k a.i a.g u clk es := by
            unfold putE
            split
            · exact List.mem_map.2 ⟨x, hxe, by rw [hq2]; rfl⟩
            · simp [hxe]
          rw [hx x hin] at hs
          cases hs
  · -- rows
    by_cases hq : ∃ e ∈ es, e.same a.k a.i a.g = true
    · obtain ⟨e, he, hs⟩ := hq
      obtain ⟨pre, post, rfl⟩ := List.append_of_mem he
      rw [(put_hit u clk h.apart hs).1]
      obtain ⟨h1, h2⟩ := keys_post h.apart hs
      have hp := List.pairwise_append.1 h.rows
      have hp2 := List.pairwise_cons.1 hp.2.1
      refine List.pairwise_append.2 ⟨hp.1, List.pairwise_cons.2 ⟨fun y hy b hb => hufresh b hb y (by simp [hy]) (h2 y hy), hp2.2⟩, fun x hx y hy => ?_⟩
      rcases List.mem_cons.1 hy with rfl | hy
      · exact fun b hb hb2 => hufresh b hb2 x (by simp [hx]) (h1 x hx) hb
      · exact hp.2.2 x hx y (by simp [hy])
    · have hn : ∀ x ∈ es, x.same a.k a.i a.g = false := fun x hx => by
        cases hs : x.same a.k a.i a.g with
        | false => rfl
        | true => exact absurd ⟨x, hx, hs⟩ hq
      rw [(put_miss u clk hn).1]
      refine List.pairwise_append.2 ⟨h.rows, by simp, fun x hx y hy => ?_⟩
      rw [List.mem_singleton] at hy
      subst hy
      exact fun b hb hb2 => hufresh b hb2 x hx (hn x hx) hb
  · intro b hb
    rcases hvb b hb with h1 | h1
    · exact .inl h1
    · exact .inr ⟨h1, (hown.lt b hb).2⟩
  · intro x hx b hb
    rcases putE_mem h.apart hx with ⟨_, _, _, h4⟩ | ⟨h1, _⟩
    · rw [h4] at hb
      rcases hub b hb with h5 | h5
      · exact .inl (hat b h5)
      · exact .inr ⟨h5, (hint.lt b hb).2⟩
    · exact .inl (h.fe x h1 b hb)
  · rintro b (hb | hb)
    · exact Nat.lt_of_lt_of_le (h.fin b hb) hs
    · exact hb.2
  · intro x hx
    rcases List.mem_append.1 hx with hx | hx
    · exact h.ok x hx
    · rw [List.mem_singleton] at hx
      rw [hx]
      exact ha
end
end Go.Proofs.YtinlfheonlpceaaGreatDoor

/- ledger's made, Len, New, slices.Clone at attempts, All (chapter 07): their contracts. -/
namespace Go.Proofs.YtinlfheonlpceaaGreatDoor
open Go.RowKit
set_option linter.unusedVariables false
set_option linter.unusedSimpArgs false
set_option maxHeartbeats 16000000
set_option maxRecDepth 20000
theorem lmade_c {W : World} {p : Nat} {v : Value} {m : Nat} (h : Row W p #[v, .map (some m)] LedT) : Calls Tryz.prog 73 #[ledP p] W fun e w' => e = .returned (.bool true) ∧ w' = W := by
  have y := h.cell
  have z := h.lt
  have hq := fun W => run_neq_map_nil (P := Tryz.prog) W 67 _ _ (some m) Tryz.underlying67
  go_enter Tryz.func73, Tryz.ntmps73
  go_wp2_with fail
  go_returns
  exact ⟨rfl, rfl⟩
theorem lmade_nil (W : World) : Calls Tryz.prog 73 #[.pointer none] W fun e w' => e = .returned (.bool false) ∧ w' = W := by
  go_enter Tryz.func73, Tryz.ntmps73
  go_wp2_with fail
  go_returns
  exact ⟨rfl, rfl⟩
theorem lmade_zero {W : World} {p : Nat} {v : Value} (h : Row W p #[v, .map none] LedT) : Calls Tryz.prog 73 #[ledP p] W fun e w' => e = .returned (.bool false) ∧ w' = W := by
  have y := h.cell
  have z := h.lt
  have hq := fun W => run_neq_map_nil (P := Tryz.prog) W 67 _ _ none Tryz.underlying67
  go_enter Tryz.func73, Tryz.ntmps73
  go_wp2_with fail
  go_returns
  exact ⟨rfl, rfl⟩
theorem llen_c {W : World} {p : Nat} {a : Option Addr} {n c : Nat} {m : Nat} (h : Row W p #[.slice a n c, .map (some m)] LedT) : Calls Tryz.prog 28 #[ledP p] W fun e w' => e = .returned (.int .i64 n) ∧ w' = W := by
  have y := h.cell
  have z := h.lt
  have C := Lib.hid (lmade_c h)
  go_enter Tryz.func28, Tryz.ntmps28
  go_wp2_with fail
  refine Calls.mono C.out ?_
  rintro e w1 ⟨rfl, hw⟩
  subst w1
  go_wp2_with fail
  go_returns
  exact ⟨rfl, rfl⟩
theorem llen_no {W : World} {p : Value} (hm : Calls Tryz.prog 73 #[p] W fun e w' => e = .returned (.bool false) ∧ w' = W) : Calls Tryz.prog 28 #[p] W fun e w' => e = .returned (.int .i64 0) ∧ w' = W := by
  have C := Lib.hid hm
  clear hm
  go_enter Tryz.func28, Tryz.ntmps28
  go_wp2_with fail
  refine Calls.mono C.out ?_
  rintro e w1 ⟨rfl, hw⟩
  subst w1
  go_wp2_with fail
  go_returns
  exact ⟨rfl, rfl⟩
/-- A new ledger, in two new blocks. -/
def FreshL (w w' : World) (b : Nat) : Prop := w.heap.size ≤ b ∧ b < w'.heap.size
theorem lnew_c (w : World) : Calls Tryz.prog 33 #[] w fun e w' => ∃ p m, e = .returned (ledP p) ∧ LedIs w' (FreshL w w') p [] (.slice none 0 0) m [] 0 ∧ Below w.heap.size w w' := by
  have hmk := fun W => run_makeMap (P := Tryz.prog) 67 W
  go_enter Tryz.func33, Tryz.ntmps33
  go_wp2_with fail
  have hrow := Row.new (W := w.alloc (.map #[] 0)) (cs := #[.slice none 0 0, .map (some w.heap.size)]) (t := LedT)
  have hb1 : Below w.heap.size w (w.alloc (.map #[] 0)) := below_alloc w _
  have hmp : MapIs (w.alloc (.map #[] 0)) w.heap.size [] 0 := ⟨by show (w.heap.push _)[w.heap.size]? = _; simp⟩
  have hb2 := below_alloc (w.alloc (.map #[] 0)) (.cells #[.slice none 0 0, .map (some w.heap.size)] LedT)
  have hs1 : (w.alloc (.map #[] 0)).heap.size = w.heap.size + 1 := by simp
  replace hmp := hmp.on hb2
  have hs2 : ((w.alloc (.map #[] 0)).alloc (.cells #[.slice none 0 0, .map (some w.heap.size)] LedT)).heap.size = w.heap.size + 1 + 1 := by simp
  rw [hs1] at hrow
  have hB := chain hb1 hb2
  generalize (w.alloc (.map #[] 0)).alloc (.cells #[.slice none 0 0, .map (some w.heap.size)] LedT) = W at *
  refine bodyPost_ret (v := ledP (w.heap.size + 1)) (by simp [results, Tryz.results33, go_sem]) rfl ⟨_, w.heap.size, rfl, ?_, hB⟩
  exact {
    row := hrow
    own := OwnsA.nil _ _
    mp := hmp
    apart := List.Pairwise.nil
    born := fun e he => by simp at he
    nodup := List.nodup_nil
    ints := fun e he => by simp at he
    has := fun k i g _ => rfl
    rows := List.Pairwise.nil
    fp := ⟨by omega, by omega⟩
    fm := ⟨by omega, by omega⟩
    fv := fun b hb => by simp [Value.ownBlock] at hb
    fe := fun e he => by simp at he
    fin := fun b hb => hb.2
    len := by simp
    ok := fun a ha => by simp at ha }
theorem holdsA_cell {W : World} {g o : Nat} {l : List AtR} (h : ∀ (j : Nat) (r : AtR), l[j]? = some r → ∀ t, t < 6 → W.cell? ⟨g, o + j * 6 + t, none⟩ = (atL r)[t]?) : ∀ (j : Nat) v, (cellsA l)[j]? = some v → W.cell? ⟨g, o + j, none⟩ = some v := by
  intro j v hj
  have hjl : j < 6 * l.length := by have := (List.getElem?_eq_some_iff.1 hj).1; rwa [cellsA_len] at this
  obtain ⟨q, t, ht, rfl⟩ : ∃ q t, t < 6 ∧ j = q * 6 + t := ⟨j / 6, j % 6, by omega, by omega⟩
  have hq : q < l.length := by omega
  rw [← Nat.add_assoc, h q l[q] (List.getElem?_eq_getElem hq) t ht, ← cellsA_get l q l[q] t ht (List.getElem?_eq_getElem hq), hj]
theorem add_off (g o j : Nat) : (⟨g, o, none⟩ : Addr).add j = ⟨g, o + j, none⟩ := by unfold Addr.add; split <;> simp_all
theorem cloneA_c (v : Value) (l : List AtR) (w : World) (hv : HoldsA w v l) (hl : l.length ≤ 100000) : Calls Tryz.prog 45 #[v] w fun e w' => ∃ u, e = .returned u ∧ OwnsA w.heap.size w' u l ∧ Below w.heap.size w w' := by
  rcases hv with ⟨rfl, rfl⟩ | ⟨g, o, c, rfl, ha⟩
  · have hq := fun W => Lib.run_eql_slice_nil (P := Tryz.prog) W 26 _ none 0 0 0 0 Tryz.underlying26
    go_enter Tryz.func45, Tryz.ntmps45
    go_wp2_with fail
    go_returns
    exact ⟨_, rfl, OwnsA.nil _ _, by go_grown⟩
  · obtain ⟨i0, hi, hz0, hz1, hz2⟩ := info_parts at_info
    have HI0 := Lib.hid hi
    have HZ0 := Lib.hid hz0
    have HZ1 := Lib.hid hz1
    have HZ2 := Lib.hid hz2
    have HA := Lib.hid ha
    have hq := fun W => Lib.run_eql_slice_nil (P := Tryz.prog) W 26 _ (some ⟨g, o, none⟩) l.length c 0 0 Tryz.underlying26
    clear hi hz0 hz1 hz2 ha
    go_enter Tryz.func45, Tryz.ntmps45
    have hb := below_alloc w (.cells #[] 43)
    have hsrc : ∀ j u, (cellsA l)[j]? = some u → (w.alloc (.cells #[] 43)).cell? ((⟨g, o, none⟩ : Addr).add j) = some u := fun j u hj => by
      rw [add_off]
      have q := holdsA_cell HA.out j u hj
      exact keep_cell hb (block_lt_of_cell (a := ⟨g, o + j, none⟩) q) q
    have HS := Lib.hid hsrc
    have HO := Lib.hid (World.ownsRow_made (base := w.heap.size) (e := 43) (size := 6) w #[] 0 (Nat.le_refl _) (by unfold maxLen; omega) rfl)
    have HB := Lib.hid hb
    clear hsrc hb
    go_wp2_with (at_builtin; refine wpList_append_own _ rfl _ _ 26 rfl w.heap.size 43 i0 (.agg #[.int .i64 0, .int .i64 0, .int .i64 0, .int .u32 0, .int .i64 0, .int .i64 0]) 6 48 Tryz.underlying26 HI0.out HZ0.out HZ1.out HZ2.out rfl (by decide) _ 0 [] rfl HO.out ⟨g, o, none⟩ l.length c (cellsA l) rfl (by rw [cellsA_len, Nat.mul_comm]) HS.out (cellsA_one l) (by unfold maxLen; omega) (by omega) (by simp) ?_; intro v' w9 hown' hgrow hnil; have HOWN := Lib.hid hown'; have HGR := Lib.hid hgrow; clear hown' hgrow hnil)
    go_returns
    refine ⟨_, rfl, ?_, HB.out.grown HGR.out (by simp) (fun k hk => Nat.le_of_eq (Option.some.inj (show some w.heap.size = some k from hk)))⟩
    have h9 := HOWN.out
    rw [Nat.zero_add, List.nil_append] at h9
    exact h9
theorem lall_c {w : World} {p : Nat} {v : Value} {m : Nat} {l : List AtR} (h : Row w p #[v, .map (some m)] LedT) (hv : HoldsA w v l) (hl : l.length ≤ 100000) : Calls Tryz.prog 27 #[ledP p] w fun e w' => ∃ u, e = .returned u ∧ OwnsA w.heap.size w' u l ∧ Below w.heap.size w w' := by
  have y := h.cell
  have z := h.lt
  have C := Lib.hid (lmade_c h)
  have CL := Lib.hid (cloneA_c v l w hv hl)
  clear hv hl
  go_enter Tryz.func27, Tryz.ntmps27
  go_wp2_with fail
  refine Calls.mono C.out ?_
  rintro e w1 ⟨rfl, hw⟩
  subst w1
  go_wp2_with fail
  refine Calls.mono CL.out ?_
  rintro e w1 ⟨u, rfl, ho, hb⟩
  have HO := Lib.hid ho
  clear ho
  go_wp2_with fail
  go_returns
  exact ⟨_, rfl, HO.out, hb⟩
theorem lall_no {W : World} {p : Value} (hm : Calls Tryz.prog 73 #[p] W fun e w' => e = .returned (.bool false) ∧ w' = W) : Calls Tryz.prog 27 #[p] W fun e w' => e = .returned (.slice none 0 0) ∧ w' = W := by
  have C := Lib.hid hm
  clear hm
  go_enter Tryz.func27, Tryz.ntmps27
  go_wp2_with fail
  refine Calls.mono C.out ?_
  rintro e w1 ⟨rfl, hw⟩
  subst w1
  go_wp2_with fail
  go_returns
  exact ⟨rfl, rfl⟩
end Go.Proofs.YtinlfheonlpceaaGreatDoor


/- Attempts by numbers: valid, and in order (chapter 07). Plain Lean. -/
namespace Go.Proofs.YtinlfheonlpceaaGreatDoor
set_option linter.unusedVariables false
set_option linter.unusedSimpArgs false
/-- An entry: ticks, resource, why, answer. -/
structure EnR where
  t : Nat
  r : Nat
  y : Nat
  n : Nat
  ht : t < 256
  hr : r < 256
  hy : y < 256
  hn : n < 256
/-- The attempt of an entry, at a time. -/
def mkA (at_ : Int) (x : EnR) : AtR := ⟨at_, 1 + (x.r % 3 : Nat), (x.r / 3 % 2 : Nat), 1 + (x.r / 6 % 2 : Nat), 1 + (x.y % 3 : Nat), 1 + (x.n % 3 : Nat)⟩
def attsFrom : Int → List EnR → List AtR
  | _, [] => []
  | at_, x :: l => mkA (at_ + (x.t : Int)) x :: attsFrom (at_ + (x.t : Int)) l
def attsL (l : List EnR) : List AtR := attsFrom 0 (l.take 100)
def sumT (l : List EnR) : Int := l.foldl (fun s x => s + (x.t : Int)) 0
theorem sumT_snoc (l : List EnR) (x : EnR) : sumT (l ++ [x]) = sumT l + (x.t : Int) := by simp [sumT]
theorem foldT_shift : ∀ (l : List EnR) (s : Int), l.foldl (fun s x => s + (x.t : Int)) s = s + sumT l
  | [], s => by simp [sumT]
  | x :: l, s => by
    unfold sumT
    rw [List.foldl_cons, List.foldl_cons, foldT_shift l, foldT_shift l (0 + (x.t : Int))]
    omega
theorem sumT_bound : ∀ (l : List EnR), 0 ≤ sumT l ∧ sumT l ≤ 255 * l.length
  | [] => by simp [sumT]
  | x :: l => by
    have h := sumT_bound l
    have hx := x.ht
    have e : sumT (x :: l) = (x.t : Int) + sumT l := by
      unfold sumT
      rw [List.foldl_cons, foldT_shift]
      unfold sumT
      omega
    rw [e, List.length_cons]
    omega
theorem attsFrom_snoc : ∀ (l : List EnR) (at_ : Int) (x : EnR), attsFrom at_ (l ++ [x]) = attsFrom at_ l ++ [mkA (at_ + sumT l + (x.t : Int)) x]
  | [], at_, x => by simp [attsFrom, sumT]
  | y :: l, at_, x => by
    have e : sumT (y :: l) = (y.t : Int) + sumT l := by
      unfold sumT
      rw [List.foldl_cons, foldT_shift]
      unfold sumT
      omega
    rw [List.cons_append, attsFrom, attsFrom, attsFrom_snoc l, e, List.cons_append]
    congr 4
    omega
theorem attsFrom_len : ∀ (l : List EnR) (at_ : Int), (attsFrom at_ l).length = l.length
  | [], _ => rfl
  | x :: l, at_ => by rw [attsFrom, List.length_cons, attsFrom_len l, List.length_cons]
theorem attsL_len (l : List EnR) : (attsL l).length ≤ 100 := by
  unfold attsL
  rw [attsFrom_len, List.length_take]
  exact Nat.min_le_left _ _
theorem mkA_ok {at_ : Int} (x : EnR) (h0 : 0 ≤ at_) (h1 : at_ ≤ maxT) : aOk (mkA at_ x) = true ∧ gIn (mkA at_ x) := by
  have h2 : x.r % 3 < 3 := Nat.mod_lt _ (by decide)
  have h3 : x.r / 3 % 2 < 2 := Nat.mod_lt _ (by decide)
  have h4 : x.r / 6 % 2 < 2 := Nat.mod_lt _ (by decide)
  have h5 : x.y % 3 < 3 := Nat.mod_lt _ (by decide)
  have h6 : x.n % 3 < 3 := Nat.mod_lt _ (by decide)
  rw [aOk_iff]
  unfold gIn mkA
  simp only [dOk_iff]
  refine ⟨⟨⟨h0, h1⟩, ?_, ?_, ?_⟩, ?_, ?_⟩ <;> omega
/-- The entries read so far give attempts that are valid and do not go back. -/
theorem attsFrom_ok : ∀ (l : List EnR) (at_ : Int), 0 ≤ at_ → at_ + 255 * l.length ≤ maxT → ∀ a ∈ attsFrom at_ l, aOk a = true ∧ gIn a ∧ at_ ≤ a.at_
  | [], _, _, _, a, h => by simp [attsFrom] at h
  | x :: l, at_, h0, h1, a, h => by
    have hx := x.ht
    rw [List.length_cons] at h1
    rw [attsFrom] at h
    rcases List.mem_cons.1 h with rfl | h
    · obtain ⟨h2, h3⟩ := mkA_ok (at_ := at_ + (x.t : Int)) x (by omega) (by omega)
      refine ⟨h2, h3, ?_⟩
      show at_ ≤ at_ + (x.t : Int)
      omega
    · obtain ⟨h2, h3, h4⟩ := attsFrom_ok l (at_ + (x.t : Int)) (by omega) (by omega) a h
      exact ⟨h2, h3, by omega⟩
theorem attsFrom_sorted : ∀ (l : List EnR) (at_ : Int), 0 ≤ at_ → at_ + 255 * l.length ≤ maxT → (attsFrom at_ l).Pairwise fun a b => a.at_ ≤ b.at_
  | [], _, _, _ => by simp [attsFrom]
  | x :: l, at_, h0, h1 => by
    have hx := x.ht
    rw [List.length_cons] at h1
    rw [attsFrom]
    refine List.pairwise_cons.2 ⟨fun b hb => ?_, attsFrom_sorted l _ (by omega) (by omega)⟩
    exact (attsFrom_ok l (at_ + (x.t : Int)) (by omega) (by omega) b hb).2.2
theorem attsL_ok (l : List EnR) : ∀ a ∈ attsL l, aOk a = true ∧ gIn a := fun a ha => by
  have hl : (l.take 100).length ≤ 100 := by rw [List.length_take]; exact Nat.min_le_left _ _
  obtain ⟨h1, h2, _⟩ := attsFrom_ok (l.take 100) 0 (Int.le_refl _) (by unfold maxT; omega) a ha
  exact ⟨h1, h2⟩
theorem attsL_sorted (l : List EnR) : (attsL l).Pairwise fun a b => a.at_ ≤ b.at_ := by
  have hl : (l.take 100).length ≤ 100 := by rw [List.length_take]; exact Nat.min_le_left _ _
  exact attsFrom_sorted (l.take 100) 0 (Int.le_refl _) (by unfold maxT; omega)
/-- A list that is valid and in order is added, one after the other. -/
theorem addE_next {l : List AtR} (hok : ∀ a ∈ l, aOk a = true ∧ gIn a) (hs : l.Pairwise fun a b => a.at_ ≤ b.at_) (hl : l.length ≤ 10000) {k : Nat} (hk : k < l.length) : addE (l.take k) l[k] = 0 := by
  have ha := hok l[k] (List.getElem_mem hk)
  have hlast : ((l.take k).getLast?.map fun b => decide (l[k].at_ < b.at_)) ≠ some true := by
    intro h
    obtain ⟨b, hb, hd⟩ := Option.map_eq_some_iff.1 h
    have hd := of_decide_eq_true hd
    have hm := List.mem_of_getLast? hb
    obtain ⟨i, hi, rfl⟩ := List.getElem_of_mem hm
    rw [List.length_take] at hi
    rw [List.getElem_take] at hd
    have := List.pairwise_iff_getElem.1 hs i k (by omega) hk (by omega)
    omega
  unfold addE
  rw [if_neg (by rw [ha.1]; decide), if_neg hlast, if_neg (by rw [List.length_take]; omega)]
theorem addL_ok {l : List AtR} {a : AtR} (h : addE l a = 0) : addL l a = l ++ [a] := by unfold addL; rw [if_pos h]
theorem addL_no {l : List AtR} {a : AtR} (h : addE l a ≠ 0) : addL l a = l := by unfold addL; rw [if_neg h]
end Go.Proofs.YtinlfheonlpceaaGreatDoor
