/- attempts and filled of the statements of chapter 07: valid attempts by numbers. -/
import Derived.Test.YtinlfheonlpceaaGreatDoorM51a
import Derived.Test.YtinlfheonlpceaaGreatDoorL0b
import Derived.Test.YtinlfheonlpceaaGreatDoorL0c
import Derived.Deep.DeepCutAuto
import Derived.Deep.AppendLies
namespace Go.Proofs.YtinlfheonlpceaaGreatDoor
open Go.RowKit
set_option linter.unusedVariables false
set_option linter.unusedSimpArgs false
set_option maxHeartbeats 40000000
set_option maxRecDepth 20000
abbrev leavesE : List Leaf := [.int .u8, .int .u8, .int .u8, .int .u8]
theorem b8e {n : Int} (h : (Lit.int .u8 n).wf = true) : 0 ≤ n ∧ n ≤ 255 := by
  have := bounds_u8 h
  omega
def enL (x : EnR) : List Value := [.int .u8 (x.t : Int), .int .u8 (x.r : Int), .int .u8 (x.y : Int), .int .u8 (x.n : Int)]
theorem en4 {l : List Value} (h : OkL leavesE l) : ∃ x : EnR, l = enL x := by
  obtain ⟨_, _, rfl, ⟨a, rfl, wa⟩, h1⟩ := OkL_cons h
  obtain ⟨_, _, rfl, ⟨b, rfl, wb⟩, h2⟩ := OkL_cons h1
  obtain ⟨_, _, rfl, ⟨c, rfl, wc⟩, h3⟩ := OkL_cons h2
  obtain ⟨_, _, rfl, ⟨d, rfl, wd⟩, h4⟩ := OkL_cons h3
  obtain rfl := OkL_nil h4
  have ba := b8e wa
  have bb := b8e wb
  have bc := b8e wc
  have bd := b8e wd
  refine ⟨⟨a.toNat, b.toNat, c.toNat, d.toNat, by omega, by omega, by omega, by omega⟩, ?_⟩
  unfold enL
  simp only
  rw [Int.toNat_of_nonneg ba.1, Int.toNat_of_nonneg bb.1, Int.toNat_of_nonneg bc.1, Int.toNat_of_nonneg bd.1]
theorem list_of {α β : Type} (f : β → α) (E : Nat → α) : ∀ n, (∀ i, i < n → ∃ x, E i = f x) → ∃ l : List β, l.length = n ∧ ∀ i (x : β), l[i]? = some x → E i = f x
  | 0, _ => ⟨[], rfl, fun i x h => by simp at h⟩
  | n + 1, h => by
    obtain ⟨l, hl, hi⟩ := list_of f E n (fun i hi => h i (by omega))
    obtain ⟨x, hx⟩ := h n (by omega)
    refine ⟨l ++ [x], by simp [hl], fun i y hy => ?_⟩
    rw [List.getElem?_append] at hy
    split at hy
    · exact hi i y hy
    · rename_i hlt
      have h1 : i - l.length = 0 := by
        rcases Nat.eq_zero_or_pos (i - l.length) with h | h
        · exact h
        · rw [List.getElem?_eq_none (by simp; omega)] at hy; cases hy
      rw [h1] at hy
      simp at hy
      subst hy
      rw [show i = n by omega]
      exact hx
/-- A slice of entries that is read alone. -/
def HoldsE (w : World) (v : Value) (L : List EnR) : Prop := ∃ p cap, v = .slice p L.length cap ∧ L.length ≤ cap ∧ cap ≤ maxLen ∧ (L.length = 0 ∨ ∃ b off, p = some ⟨b, off, none⟩ ∧ b < w.heap.size ∧ ∀ (i : Nat) (x : EnR), L[i]? = some x → ∀ j, j < 4 → w.cell? ⟨b, off + i * 4 + j, none⟩ = (enL x)[j]?)
theorem sl_en {w : World} {v : Value} {n : Nat} {E : Nat → List Value} (h : Sl w v leavesE n E) : ∃ L : List EnR, HoldsE w v L := by
  obtain ⟨⟨p, cap, rfl, h1, h2, h3⟩, hok⟩ := h
  obtain ⟨L, hL, hi⟩ := list_of enL E n (fun i hi => en4 (hok i hi))
  refine ⟨L, p, cap, by rw [hL], by omega, h2, ?_⟩
  rcases h3 with h3 | ⟨b, off, rfl, hb, hc⟩
  · exact .inl (by omega)
  · refine .inr ⟨b, off, rfl, hb, fun i x hx j hj => ?_⟩
    have hlt : i < L.length := by
      rcases Nat.lt_or_ge i L.length with h | h
      · exact h
      · rw [List.getElem?_eq_none h] at hx; cases hx
    rw [← hi i x hx]
    exact hc i (by omega) j hj
theorem HoldsE.on {w W : World} {v : Value} {L : List EnR} (h : HoldsE w v L) (hb : Below w.heap.size w W) : HoldsE W v L := by
  obtain ⟨p, cap, rfl, h1, h2, h3⟩ := h
  refine ⟨p, cap, rfl, h1, h2, ?_⟩
  rcases h3 with h3 | ⟨b, off, rfl, hlt, hc⟩
  · exact .inl h3
  · exact .inr ⟨b, off, rfl, Nat.lt_of_lt_of_le hlt hb.size, fun i x hx j hj => (hb.cell (p := ⟨b, off + i * 4 + j, none⟩) hlt).trans (hc i x hx j hj)⟩
theorem take_nxE {L : List EnR} {i : Nat} {x : EnR} (h : L[i]? = some x) : L.take (i + 1) = L.take i ++ [x] := by
  rw [List.take_add_one, h]; rfl
theorem attempts_c (v : Value) (L : List EnR) (w : World) (hv : HoldsE w v L) : Calls Tryz.prog 14 #[v] w fun e w' => (∃ u, e = .returned u ∧ OwnsA w.heap.size w' u (attsL L)) ∧ Below w.heap.size w w' := by
  obtain ⟨p, cap, rfl, hcap, hmax, hel⟩ := hv
  have HEL := Lib.hid hel
  obtain ⟨i0, hi, hz0, hz1, hz2⟩ := info_parts at_info
  have HI0 := Lib.hid hi
  have HZ0 := Lib.hid hz0
  have HZ1 := Lib.hid hz1
  have HZ2 := Lib.hid hz2
  clear hel hi hz0 hz1 hz2
  have hc := Below.refl w.heap.size w
  obtain ⟨N, hN1, hN2, eN, hNT⟩ : ∃ N : Nat, N ≤ L.length ∧ N ≤ 100 ∧ min (L.length : Int) 100 = (N : Int) ∧ L.take N = L.take 100 := by
    refine ⟨min L.length 100, by omega, by omega, by omega, ?_⟩
    rcases Nat.le_total L.length 100 with h | h
    · rw [Nat.min_eq_left h, List.take_of_length_le (Nat.le_refl _), List.take_of_length_le h]
    · rw [Nat.min_eq_right h]
  have HNT := Lib.hid hNT
  have eM : max (N : Int) 0 = (N : Int) := by omega
  clear hNT
  have HT := Lib.hid (fun i => sumT_bound (L.take i))
  go_enter Tryz.func14, Tryz.ntmps14
  go_wp2_with fail
  clear eN eM
  go_loopw [3, 4, 14] (fun ov tv iv wr => ∃ (i : Nat), i ≤ N ∧ iv = .int .i64 i ∧ tv = .int .i64 (sumT (L.take i)) ∧ OwnsA w.heap.size wr ov (attsFrom 0 (L.take i)) ∧ Below w.heap.size w wr) (fun _ _ iv _ => N - (intOf iv).toNat)
  case atStart => exact ⟨0, Nat.zero_le _, rfl, rfl, OwnsA.nil _ _, hc⟩
  case round =>
    obtain ⟨i, hiN, rfl, rfl, ho, hc⟩ := hrel
    obtain ⟨hs0, hs1⟩ := HT.out i
    rw [List.length_take] at hs1
    generalize hS : sumT (L.take i) = S at *
    have HS := Lib.hid hS
    clear hS
    by_cases hlt : i < N
    · rcases HEL.out with h0 | ⟨b, off, rfl, hb, hcell⟩
      · omega
      obtain ⟨x, hx⟩ : ∃ x, L[i]? = some x := ⟨L[i]'(by omega), List.getElem?_eq_getElem _⟩
      have q := hcell i x hx
      have HX := Lib.hid hx
      have d0 : wr.cell? ⟨b, off + i * 4, none⟩ = some (.int .u8 (x.t : Int)) := (hc.cell (p := ⟨b, off + i * 4, none⟩) hb).trans (q 0 (by decide))
      have d1 : wr.cell? ⟨b, off + i * 4 + 1, none⟩ = some (.int .u8 (x.r : Int)) := (hc.cell (p := ⟨b, off + i * 4 + 1, none⟩) hb).trans (q 1 (by decide))
      have d2 : wr.cell? ⟨b, off + i * 4 + 2, none⟩ = some (.int .u8 (x.y : Int)) := (hc.cell (p := ⟨b, off + i * 4 + 2, none⟩) hb).trans (q 2 (by decide))
      have d3 : wr.cell? ⟨b, off + i * 4 + 3, none⟩ = some (.int .u8 (x.n : Int)) := (hc.cell (p := ⟨b, off + i * 4 + 3, none⟩) hb).trans (q 3 (by decide))
      have t1 := x.ht
      have t2 := x.hr
      have t3 := x.hy
      have t4 := x.hn
      clear q hcell hb hx
      go_upto_region 6 with fail
      clear d0 d1 d2 d3
      have r5 := Row.new (W := wr) (cs := #[.int .u8 (x.t : Int), .int .u8 (x.r : Int), .int .u8 (x.y : Int), .int .u8 (x.n : Int)]) (t := 59)
      have hn := below_alloc wr (.cells #[.int .u8 (x.t : Int), .int .u8 (x.r : Int), .int .u8 (x.y : Int), .int .u8 (x.n : Int)] 59)
      replace ho := ho.on hn
      replace hc := chain hc hn
      clear hn
      generalize wr.alloc (.cells #[.int .u8 (x.t : Int), .int .u8 (x.r : Int), .int .u8 (x.y : Int), .int .u8 (x.n : Int)] 59) = V1 at r5 ho hc ⊢
      generalize wr.heap.size = b5 at *
      have y5 := r5.cell
      have z5 := r5.lt
      go_upto_region 8 with fail
      clear y5 z5
      have r7 := Row.new (W := V1) (cs := #[.int .i64 (1 + (x.r : Int) % 3), .int .i64 ((x.r : Int) / 3 % 2), .int .u32 (1 + (x.r : Int) / 6 % 2)]) (t := 41)
      have hn := below_alloc V1 (.cells #[.int .i64 (1 + (x.r : Int) % 3), .int .i64 ((x.r : Int) / 3 % 2), .int .u32 (1 + (x.r : Int) / 6 % 2)] 41)
      replace ho := ho.on hn
      replace hc := chain hc hn
      replace r5 := r5.on hn
      clear hn
      generalize V1.alloc (.cells #[.int .i64 (1 + (x.r : Int) % 3), .int .i64 ((x.r : Int) / 3 % 2), .int .u32 (1 + (x.r : Int) / 6 % 2)] 41) = V2 at r5 r7 ho hc ⊢
      generalize V1.heap.size = b7 at *
      obtain ⟨p, hp⟩ : ∃ p : AtR, p = ⟨S + (x.t : Int), 1 + (x.r : Int) % 3, (x.r : Int) / 3 % 2, 1 + (x.r : Int) / 6 % 2, 1 + (x.y : Int) % 3, 1 + (x.n : Int) % 3⟩ := ⟨_, rfl⟩
      have hp2 : p = mkA (S + (x.t : Int)) x := by rw [hp]; rfl
      have HP := Lib.hid hp2
      obtain ⟨a0, c0, rfl⟩ := (OwnsA.holds ho).len
      have HO := Lib.hid ho
      have Q2 := Lib.hid (ho.on (below_alloc V2 (.cells (atC p) 43)))
      have hsrc := at_src V2 p
      have hL : (attsFrom 0 (L.take i)).length = i := by rw [attsFrom_len, List.length_take]; omega
      generalize hA : attsFrom 0 (L.take i) = A at *
      have HA := Lib.hid hA
      have hcs := hc.size
      have y5 := r5.cell
      have z5 := r5.lt
      have y7 := r7.cell
      have z7 := r7.lt
      rw [hp] at hsrc
      have HPC := Lib.hid (show atC p = #[.int .i64 (S + (x.t : Int)), .int .i64 (1 + (x.r : Int) % 3), .int .i64 ((x.r : Int) / 3 % 2), .int .u32 (1 + (x.r : Int) / 6 % 2), .int .i64 (1 + (x.y : Int) % 3), .int .i64 (1 + (x.n : Int) % 3)] by rw [hp])
      have HPL := Lib.hid (show atL p = [.int .i64 (S + (x.t : Int)), .int .i64 (1 + (x.r : Int) % 3), .int .i64 ((x.r : Int) / 3 % 2), .int .u32 (1 + (x.r : Int) / 6 % 2), .int .i64 (1 + (x.y : Int) % 3), .int .i64 (1 + (x.n : Int) % 3)] by rw [hp])
      have HSRC := Lib.hid hsrc
      clear hp hp2 hsrc hA ho
      go_wp2_with (at_builtin; refine wpList_append_own _ rfl _ _ 26 rfl w.heap.size 43 i0 (.agg #[.int .i64 0, .int .i64 0, .int .i64 0, .int .u32 0, .int .i64 0, .int .i64 0]) 6 48 Tryz.underlying26 HI0.out HZ0.out HZ1.out HZ2.out rfl (by decide) _ _ _ rfl (HO.out.on (below_alloc V2 _)) ⟨V2.heap.size, 0, none⟩ 1 1 (atL _) rfl rfl HSRC.out (by intro u hu; simp at hu; rcases hu with rfl | rfl | rfl | rfl | rfl | rfl <;> rfl) (by unfold maxLen; omega) (by omega) (by simp; omega) ?_; intro v' w9 hown' hgrow hnil; have HOWN := Lib.hid hown'; have HGR := Lib.hid hgrow; clear hown' hgrow hnil)
      have hB4 := hc.alloc hc.size (.cells (atC p) 43)
      have hlo := fun k hk => (World.ownsRow.lt Q2.out k hk).1
      have hB6 : Below w.heap.size w w9 := hB4.grown (by rw [HPC.out]; exact HGR.out) (by simp; omega) hlo
      have e1 : sumT (L.take (i + 1)) = S + (x.t : Int) := by rw [take_nxE HX.out, sumT_snoc, HS.out]
      have e2 : attsFrom 0 (L.take (i + 1)) = A ++ [p] := by rw [take_nxE HX.out, attsFrom_snoc, HA.out, HS.out, HP.out, Int.zero_add]
      refine ⟨⟨i + 1, by omega, by go_num, ?_, ?_, hB6⟩, ?_⟩
      · rw [e1]
      · rw [e2]
        unfold OwnsA
        rw [cellsA_snoc, List.length_append, HPL.out]
        exact HOWN.out
      · simp only [intOf]; omega
    · obtain rfl : i = N := by omega
      have HO := Lib.hid ho
      clear ho
      go_wp2_with fail
      go_returns
      refine ⟨⟨_, rfl, ?_⟩, hc⟩
      have h := HO.out
      rw [HNT.out] at h
      exact h
theorem filled_c (v : Value) (l : List AtR) (w : World) (hv : HoldsA w v l) (hok : ∀ a ∈ l, aOk a = true ∧ gIn a) (hso : l.Pairwise fun a b => a.at_ ≤ b.at_) (hlen : l.length ≤ 200) :
    Calls Tryz.prog 26 #[v] w fun e w' => ∃ p, e = .returned (ledP p) ∧ (∃ F, LedW w w' F p l) ∧ Below w.heap.size w w' := by
  have HV := Lib.hid hv
  obtain ⟨a0, c0, rfl⟩ := hv.len
  have HOK := Lib.hid hok
  have HN := Lib.hid (fun k hk => addE_next hok hso (Nat.le_trans hlen (by decide)) (k := k) hk)
  have hc := Below.refl w.heap.size w
  clear hv hok hso
  go_enter Tryz.func26, Tryz.ntmps26
  go_wp2_with fail
  refine Calls.mono (newW_c (w := w) _ hc.size) ?_
  rintro e V1 ⟨p, rfl, ⟨F0, hl, -⟩, hn⟩
  replace hc := chain hc hn
  clear hn
  go_wp2_with fail
  go_loopw [9] (fun iv wr => ∃ i : Nat, i ≤ l.length ∧ iv = .int .i64 i ∧ (∃ F, LedW w wr F p (l.take i)) ∧ Below w.heap.size w wr) (fun iv _ => l.length - (intOf iv).toNat)
  case atStart => exact ⟨0, Nat.zero_le _, rfl, ⟨_, hl⟩, hc⟩
  case round =>
    clear hl hc
    obtain ⟨i, hiN, rfl, ⟨F, hl⟩, hc⟩ := hrel
    by_cases hlt : i < l.length
    · have hx : l[i]? = some l[i] := List.getElem?_eq_getElem hlt
      have hadd := HN.out i hlt
      have hin := (HOK.out l[i] (List.getElem_mem hlt)).2
      have htk : l.take (i + 1) = l.take i ++ [l[i]] := by rw [List.take_add_one, hx]; rfl
      generalize l[i] = x at *
      have HTK := Lib.hid htk
      have HADD := Lib.hid hadd
      have HIN := Lib.hid hin
      clear htk hadd hin
      rcases HV.out.on hc with ⟨-, h0⟩ | ⟨b, off, c, hve, hcell⟩
      · rw [h0] at hlt; simp at hlt
      · simp only [Value.slice.injEq] at hve
        obtain ⟨rfl, -, rfl⟩ := hve
        have q := hcell i x hx
        have d0 : wr.cell? ⟨b, off + i * 6, none⟩ = some (.int .i64 x.at_) := q 0 (by decide)
        have d1 : wr.cell? ⟨b, off + i * 6 + 1, none⟩ = some (.int .i64 x.k) := q 1 (by decide)
        have d2 : wr.cell? ⟨b, off + i * 6 + 2, none⟩ = some (.int .i64 x.i) := q 2 (by decide)
        have d3 : wr.cell? ⟨b, off + i * 6 + 3, none⟩ = some (.int .u32 x.g) := q 3 (by decide)
        have d4 : wr.cell? ⟨b, off + i * 6 + 4, none⟩ = some (.int .i64 x.why) := q 4 (by decide)
        have d5 : wr.cell? ⟨b, off + i * 6 + 5, none⟩ = some (.int .i64 x.ans) := q 5 (by decide)
        clear q hcell hx
        go_upto_region 5 with fail
        clear d0 d1 d2 d3 d4 d5
        have r5 := Row.new (W := wr) (cs := atC x) (t := 43)
        have hn := below_alloc wr (.cells (atC x) 43)
        replace hl := hl.on hn
        replace hc := chain hc hn
        clear hn
        unfold atC at r5 hl hc
        generalize wr.alloc (.cells #[.int .i64 x.at_, .int .i64 x.k, .int .i64 x.i, .int .u32 x.g, .int .i64 x.why, .int .i64 x.ans] 43) = V2 at r5 hl hc ⊢
        generalize wr.heap.size = b5 at *
        have y5 := r5.cell
        have z5 := r5.lt
        go_wp2_with fail
        refine Calls.mono (addW_c x HIN.out hc.size hl) ?_
        rintro e V3 ⟨rfl, F', hl2, hadd⟩
        clear hl
        replace hc := hadd.below _ hc
        have he := HADD.out
        rw [addL_ok he, ← HTK.out] at hl2
        rw [he]
        clear y5 z5 r5 hadd he
        go_wp2_with fail
        refine ⟨⟨i + 1, by omega, by go_num, ⟨_, hl2⟩, hc⟩, by simp only [intOf]; omega⟩
    · obtain rfl : i = l.length := by omega
      rw [List.take_length] at hl
      have HL := Lib.hid hl
      clear hl
      go_wp2_with fail
      go_returns
      exact ⟨p, rfl, ⟨F, HL.out⟩, hc⟩
end Go.Proofs.YtinlfheonlpceaaGreatDoor

/- What the walks of chapter 07's laws share. -/
namespace Go.Proofs.YtinlfheonlpceaaGreatDoor
open Go.RowKit
set_option linter.unusedVariables false
set_option linter.unusedSimpArgs false
set_option maxHeartbeats 40000000
set_option maxRecDepth 20000
/-- A world that has come of another one. -/
structure Beh (B W : World) : Prop where
  b : Below B.heap.size B W
theorem Beh.on {B W W' : World} (h : Beh B W) (hn : Below W.heap.size W W') : Beh B W' := ⟨chain h.b hn⟩
theorem Beh.drew {B W : World} (h : Beh B W) : Beh B W.drew := ⟨h.b.drew⟩
theorem Beh.add {B W W' : World} {F F' : Nat → Prop} (h : Beh B W) (ha : AddTo B W W' F F') : Beh B W' := ⟨ha.below _ h.b⟩
theorem OwnsA.drew {b : Nat} {W : World} {v : Value} {l : List AtR} (h : OwnsA b W v l) : OwnsA b W.drew v l := h.on (Below.refl _ _).drew
theorem HoldsA.drew {W : World} {v : Value} {l : List AtR} (h : HoldsA W v l) : HoldsA W.drew v l := h.on (Below.refl _ _).drew
theorem equal_same (v u : Value) (l : List AtR) (W : World) (hv : HoldsA W v l) (hu : HoldsA W u l) (hl : l.length ≤ 100000) : Ret 23 #[v, u] W (.bool true) :=
  (equalA_c v u l l W hv hu hl hl).to (by rw [decide_eq_true rfl])
theorem holdsE_new (x : EnR) (W : World) : HoldsE (W.alloc (.cells (enL x).toArray 59)) (.slice (some ⟨W.heap.size, 0, none⟩) 1 1) [x] := by
  refine ⟨_, 1, rfl, Nat.le_refl _, by unfold maxLen; decide, .inr ⟨_, 0, rfl, by simp, fun i y hy j hj => ?_⟩⟩
  match i, hy with
  | 0, hy =>
    simp at hy
    subst hy
    have hr := Row.cell (Row.new (W := W) (cs := (enL x).toArray) (t := 59)) j
    rw [List.getElem?_toArray] at hr
    rw [Nat.zero_mul, Nat.zero_add]
    exact hr
theorem one_att (x : EnR) : attsL [x] = [mkA (x.t : Int) x] := by
  unfold attsL
  rw [show ([x] : List EnR).take 100 = [x] from rfl, attsFrom, attsFrom, Int.zero_add]
theorem one_ok (x : EnR) : aOk (mkA (x.t : Int) x) = true ∧ gIn (mkA (x.t : Int) x) := attsL_ok [x] _ (by rw [one_att]; exact List.mem_singleton.2 rfl)
/-- An attempt with another time. -/
def atT (a : AtR) (t : Int) : AtR := ⟨t, a.k, a.i, a.g, a.why, a.ans⟩
theorem atT_ok {a : AtR} (h : aOk a = true) (t : Int) : aOk (atT a t) = true ↔ 0 ≤ t ∧ t ≤ maxT := by
  rw [aOk_iff] at h ⊢
  exact ⟨fun h => h.1, fun h1 => ⟨h1, h.2⟩⟩
def lastT (l : List AtR) : Int := (l.getLast?.map (·.at_)).getD 0
theorem times_arg (l : List AtR) {a : AtR} (h : aOk a = true) {t : Int} (ht : t < 0 ∨ maxT < t) : addE l (atT a t) = 2 := by
  have h1 : aOk (atT a t) = false := by
    cases h2 : aOk (atT a t) with
    | false => rfl
    | true => have := (atT_ok h t).1 h2; omega
  unfold addE
  rw [if_pos h1]
theorem times_state (l : List AtR) {a : AtR} (h : aOk a = true) {t : Int} (h0 : 0 ≤ t) (h1 : t ≤ maxT) (hl : t < lastT l) : addE l (atT a t) = 8 := by
  have h2 := (atT_ok h t).2 ⟨h0, h1⟩
  unfold addE
  rw [if_neg (by rw [h2]; decide)]
  unfold lastT at hl
  cases hg : l.getLast? with
  | none => rw [hg] at hl; simp at hl; omega
  | some b =>
    rw [hg] at hl
    have hl : t < b.at_ := hl
    rw [if_pos (by simp only [Option.map_some]; rw [decide_eq_true (show (atT a t).at_ < b.at_ from hl)])]
theorem times_fine (l : List AtR) {a : AtR} (h : aOk a = true) {t : Int} (h0 : 0 ≤ t) (h1 : t ≤ maxT) (hl : lastT l ≤ t) (hlen : l.length ≤ 100) : addE l (atT a t) = 0 := by
  have h2 := (atT_ok h t).2 ⟨h0, h1⟩
  unfold addE
  rw [if_neg (by rw [h2]; decide)]
  have h3 : (l.getLast?.map fun b => decide ((atT a t).at_ < b.at_)) ≠ some true := by
    unfold lastT at hl
    cases hg : l.getLast? with
    | none => simp
    | some b =>
      rw [hg] at hl
      have hl : b.at_ ≤ t := hl
      simp only [Option.map_some, ne_eq, Option.some.injEq, decide_eq_true_eq]
      show ¬ t < b.at_
      omega
  rw [if_neg h3, if_neg (by omega)]
end Go.Proofs.YtinlfheonlpceaaGreatDoor

/- LedgerTimes walked. -/
namespace Go.Proofs.YtinlfheonlpceaaGreatDoor
open Go.RowKit
set_option linter.unusedVariables false
set_option linter.unusedSimpArgs false
set_option maxHeartbeats 40000000
set_option maxRecDepth 20000
theorem times_walk (v : Value) (n : Nat) (E : Nat → List Value) (a b c d at' : Int) (w : World) (hE : EnvP w) (hsl : Sl w v leavesE n E) (a0 : 0 ≤ a) (a1 : a ≤ 255) (b0 : 0 ≤ b) (b1 : b ≤ 255) (c0 : 0 ≤ c) (c1 : c ≤ 255) (d0 : 0 ≤ d) (d1 : d ≤ 255) (t0 : -9223372036854775808 ≤ at') (t1 : at' ≤ 9223372036854775807) :
    Ret 7 #[v, .agg #[.int .u8 a, .int .u8 b, .int .u8 c, .int .u8 d], .int .i64 at'] w (.bool true) := by
  obtain ⟨L, hl⟩ := sl_en hsl
  obtain ⟨x, hx⟩ : ∃ x : EnR, (⟨(x.t : Int), (x.r : Int), (x.y : Int), (x.n : Int)⟩ : Int × Int × Int × Int) = ⟨a, b, c, d⟩ := ⟨⟨a.toNat, b.toNat, c.toNat, d.toNat, by omega, by omega, by omega, by omega⟩, by simp only; rw [Int.toNat_of_nonneg a0, Int.toNat_of_nonneg b0, Int.toNat_of_nonneg c0, Int.toNat_of_nonneg d0]⟩
  simp only [Prod.mk.injEq] at hx
  obtain ⟨rfl, rfl, rfl, rfl⟩ := hx
  have HE := Lib.hid hE
  have HOK := Lib.hid (one_ok x)
  have HA := Lib.hid (attsL_ok L)
  have HS := Lib.hid (attsL_sorted L)
  have HL := Lib.hid (attsL_len L)
  obtain ⟨i0, hi, hz0, hz1, hz2⟩ := info_parts at_info
  have HI0 := Lib.hid hi
  have HZ0 := Lib.hid hz0
  have HZ1 := Lib.hid hz1
  have HZ2 := Lib.hid hz2
  clear hi hz0 hz1 hz2
  have hc := Below.refl w.heap.size w
  clear hE hsl a0 a1 b0 b1 c0 c1 d0 d1
  go_enter Tryz.func7, Tryz.ntmps7
  go_upto_region 1 with fail
  have ry := Row.new (W := w) (cs := #[.int .u8 (x.t : Int), .int .u8 (x.r : Int), .int .u8 (x.y : Int), .int .u8 (x.n : Int)]) (t := 59)
  have hn := below_alloc w (.cells #[.int .u8 (x.t : Int), .int .u8 (x.r : Int), .int .u8 (x.y : Int), .int .u8 (x.n : Int)] 59)
  have wry : w.heap.size ≤ w.heap.size := hc.size
  replace hl := hl.on hn
  replace hc := chain hc hn
  clear hn
  generalize w.alloc (.cells #[.int .u8 (x.t : Int), .int .u8 (x.r : Int), .int .u8 (x.y : Int), .int .u8 (x.n : Int)] 59) = V1 at hl ry hc ⊢
  have yry := ry.cell
  have zry := ry.lt
  go_wp2_with fail
  clear yry zry
  refine Calls.mono (attempts_c v L _ hl) ?_
  rintro e VA ⟨⟨u, rfl, ho⟩, hn⟩
  replace ho := OwnsA.base ho hc.size
  replace ry := ry.on hn
  replace hl := hl.on hn
  replace hc := chain hc hn
  clear hn
  have HU := Lib.hid (OwnsA.holds ho)
  have HU0 := Lib.hid ho
  have HC0 := Lib.hid hc
  clear hl
  have hB : Beh VA VA := ⟨Below.refl _ _⟩
  have yry := ry.cell
  have zry := ry.lt
  go_wp2_with fail
  clear yry zry
  refine Calls.mono (filled_c u _ _ HU.out HA.out HS.out (by have := HL.out; omega)) ?_
  rintro e VB ⟨p, rfl, ⟨F, hl⟩, hn⟩
  replace ry := ry.on hn
  replace ho := ho.on hn
  replace hB := hB.on hn
  replace hc := chain hc hn
  clear hn
  clear HU
  have yry := ry.cell
  have zry := ry.lt
  go_upto_region 5 with fail
  clear yry zry
  have yry := ry.cell
  have zry := ry.lt
  go_wp2_with fail
  clear yry zry
  have hz := holdsE_new x VB
  rw [show (enL x).toArray = #[.int .u8 (x.t : Int), .int .u8 (x.r : Int), .int .u8 (x.y : Int), .int .u8 (x.n : Int)] from rfl] at hz
  have hn := below_alloc VB (.cells #[.int .u8 (x.t : Int), .int .u8 (x.r : Int), .int .u8 (x.y : Int), .int .u8 (x.n : Int)] 59)
  replace ry := ry.on hn
  replace ho := ho.on hn
  replace hB := hB.on hn
  replace hl := hl.on hn
  replace hc := chain hc hn
  clear hn
  generalize VB.alloc (.cells #[.int .u8 (x.t : Int), .int .u8 (x.r : Int), .int .u8 (x.y : Int), .int .u8 (x.n : Int)] 59) = VC at hz hB ho hl ry hc ⊢
  generalize VB.heap.size = bZ at *
  clear ry
  refine Calls.mono (attempts_c _ [x] _ hz) ?_
  rintro e VD ⟨⟨u2, rfl, ho2⟩, hn⟩
  clear hz
  rw [one_att] at ho2
  have hy := OwnsA.holds ho2
  clear ho2
  replace ho := ho.on hn
  replace hB := hB.on hn
  replace hl := hl.on hn
  replace hc := chain hc hn
  clear hn
  generalize mkA (x.t : Int) x = z at *
  rcases hy with ⟨-, h0⟩ | ⟨g, o, c2, rfl, hcell⟩
  · cases h0
  have six := HoldsA.six (j := 0) (hcell 0 z rfl)
  simp only [Nat.zero_mul, Nat.add_zero] at six
  obtain ⟨e0, e1, e2, e3, e4, e5⟩ := six
  clear hcell
  go_upto_region 9 with fail
  clear e0 e1 e2 e3 e4 e5
  have nF : ¬ F VD.heap.size := hl.not_new (Nat.le_refl _)
  have hbB : VA.heap.size ≤ VD.heap.size := hB.b.size
  go_upto_region 10 with fail
  have rb := Row.new (W := VD) (cs := #[.int .i64 at', .int .i64 z.k, .int .i64 z.i, .int .u32 z.g, .int .i64 z.why, .int .i64 z.ans]) (t := 43)
  have hn := below_alloc VD (.cells #[.int .i64 at', .int .i64 z.k, .int .i64 z.i, .int .u32 z.g, .int .i64 z.why, .int .i64 z.ans] 43)
  have wrb : w.heap.size ≤ VD.heap.size := hc.size
  replace ho := ho.on hn
  replace hB := hB.on hn
  replace hl := hl.on hn
  replace hc := chain hc hn
  clear hn
  generalize VD.alloc (.cells #[.int .i64 at', .int .i64 z.k, .int .i64 z.i, .int .u32 z.g, .int .i64 z.why, .int .i64 z.ans] 43) = V2 at ho hB hl rb hc ⊢
  generalize VD.heap.size = bB at *
  have hq := (OwnsA.holds ho)
  generalize attsL L = A at *
  have hAL := HL.out
  have hz1 := HOK.out
  clear HL HOK
  have hZB : atC (atT z at') = #[.int .i64 at', .int .i64 z.k, .int .i64 z.i, .int .u32 z.g, .int .i64 z.why, .int .i64 z.ans] := rfl
  obtain ⟨p5, c5, rfl⟩ := hq.len
  by_cases ht : at' < 0
  · rcases List.eq_nil_or_concat A with hA | ⟨A2, zl, hA⟩
    · have e0 : lastT A = 0 := by rw [hA]; rfl
      have e1 : A.length = 0 := by rw [hA]; rfl
      clear hA hq
      clear e0
      try rw [e0] at hlt
      have yrb := rb.cell
      have zrb := rb.lt
      have E1 := Lib.hid e1
      skip
      go_wp2_with fail
      clear yrb zrb
      have he := times_arg A hz1.1 (t := at') (by unfold maxT; omega)
      refine Calls.mono (addW_c (atT z at') (show gIn z from hz1.2) hB.b.size hl) ?_
      rintro e V3 ⟨rfl, F2, hl2, hadd⟩
      rw [addL_no (by rw [he]; decide)] at hl2
      rw [he]
      replace hB := hB.add hadd
      replace rb := hadd.row rb nF
      replace hc := chain HC0.out hB.b
      replace ho := HU0.out.on hB.b
      clear hl hadd nF
      have hl := hl2
      clear hl2
      go_wp2_with fail
      refine Calls.mono (allW_c hl) ?_
      rintro e V4 ⟨u3, rfl, h3, hn⟩
      replace rb := rb.on hn
      replace ho := ho.on hn
      replace hB := hB.on hn
      replace hl := hl.on hn
      replace hc := chain hc hn
      clear hn
      have hc3 := OwnsA.holds h3
      have hc4 := OwnsA.holds ho
      rw [e1] at hc4
      go_wp2_with fail
      refine Calls.mono (equal_same _ _ A _ hc3 hc4 (by omega)) ?_
      rintro e V5 ⟨rfl, hn⟩
      replace rb := rb.on hn
      replace ho := ho.on hn
      replace hB := hB.on hn
      replace hl := hl.on hn
      replace hc := chain hc hn
      clear hn
      clear hc3 h3 hc4
      go_wp2_with fail
      refine Calls.mono (works _ (HE.out.on hc)) ?_
      rintro e V6 ⟨rfl, hn⟩
      replace rb := rb.on hn
      replace ho := ho.on hn
      replace hB := hB.on hn
      replace hl := hl.on hn
      replace hc := chain hc hn
      clear hn
      go_wp2_with fail
      go_returns
      exact ⟨rfl, hc⟩
    · have e0 : lastT A = zl.at_ := by rw [hA]; unfold lastT; rw [List.concat_eq_append, List.getLast?_append]; rfl
      have e1 : A.length = A2.length + 1 := by rw [hA, List.length_concat]
      rcases hq with ⟨-, h0⟩ | ⟨g5, o5, cc, hve, hcell⟩
      · rw [h0] at e1; simp at e1
      simp only [Value.slice.injEq] at hve
      obtain ⟨rfl, -, rfl⟩ := hve
      have d0 : V2.cell? ⟨g5, o5 + A2.length * 6, none⟩ = some (.int .i64 zl.at_) := hcell A2.length zl (by rw [hA, List.concat_eq_append, List.getElem?_concat_length]) 0 (by decide)
      clear hA hcell
      clear e0
      try rw [e0] at hlt
      have yrb := rb.cell
      have zrb := rb.lt
      have E1 := Lib.hid e1
      skip
      go_wp2_with fail
      clear yrb zrb
      clear d0
      have he := times_arg A hz1.1 (t := at') (by unfold maxT; omega)
      refine Calls.mono (addW_c (atT z at') (show gIn z from hz1.2) hB.b.size hl) ?_
      rintro e V3 ⟨rfl, F2, hl2, hadd⟩
      rw [addL_no (by rw [he]; decide)] at hl2
      rw [he]
      replace hB := hB.add hadd
      replace rb := hadd.row rb nF
      replace hc := chain HC0.out hB.b
      replace ho := HU0.out.on hB.b
      clear hl hadd nF
      have hl := hl2
      clear hl2
      go_wp2_with fail
      refine Calls.mono (allW_c hl) ?_
      rintro e V4 ⟨u3, rfl, h3, hn⟩
      replace rb := rb.on hn
      replace ho := ho.on hn
      replace hB := hB.on hn
      replace hl := hl.on hn
      replace hc := chain hc hn
      clear hn
      have hc3 := OwnsA.holds h3
      have hc4 := OwnsA.holds ho
      rw [e1] at hc4
      go_wp2_with fail
      refine Calls.mono (equal_same _ _ A _ hc3 hc4 (by omega)) ?_
      rintro e V5 ⟨rfl, hn⟩
      replace rb := rb.on hn
      replace ho := ho.on hn
      replace hB := hB.on hn
      replace hl := hl.on hn
      replace hc := chain hc hn
      clear hn
      clear hc3 h3 hc4
      go_wp2_with fail
      refine Calls.mono (works _ (HE.out.on hc)) ?_
      rintro e V6 ⟨rfl, hn⟩
      replace rb := rb.on hn
      replace ho := ho.on hn
      replace hB := hB.on hn
      replace hl := hl.on hn
      replace hc := chain hc hn
      clear hn
      go_wp2_with fail
      go_returns
      exact ⟨rfl, hc⟩
  by_cases hu : 1099511627776 < at'
  · rcases List.eq_nil_or_concat A with hA | ⟨A2, zl, hA⟩
    · have e0 : lastT A = 0 := by rw [hA]; rfl
      have e1 : A.length = 0 := by rw [hA]; rfl
      clear hA hq
      clear e0
      try rw [e0] at hlt
      have yrb := rb.cell
      have zrb := rb.lt
      have E1 := Lib.hid e1
      skip
      go_wp2_with fail
      clear yrb zrb
      have he := times_arg A hz1.1 (t := at') (by unfold maxT; omega)
      refine Calls.mono (addW_c (atT z at') (show gIn z from hz1.2) hB.b.size hl) ?_
      rintro e V3 ⟨rfl, F2, hl2, hadd⟩
      rw [addL_no (by rw [he]; decide)] at hl2
      rw [he]
      replace hB := hB.add hadd
      replace rb := hadd.row rb nF
      replace hc := chain HC0.out hB.b
      replace ho := HU0.out.on hB.b
      clear hl hadd nF
      have hl := hl2
      clear hl2
      go_wp2_with fail
      refine Calls.mono (allW_c hl) ?_
      rintro e V4 ⟨u3, rfl, h3, hn⟩
      replace rb := rb.on hn
      replace ho := ho.on hn
      replace hB := hB.on hn
      replace hl := hl.on hn
      replace hc := chain hc hn
      clear hn
      have hc3 := OwnsA.holds h3
      have hc4 := OwnsA.holds ho
      rw [e1] at hc4
      go_wp2_with fail
      refine Calls.mono (equal_same _ _ A _ hc3 hc4 (by omega)) ?_
      rintro e V5 ⟨rfl, hn⟩
      replace rb := rb.on hn
      replace ho := ho.on hn
      replace hB := hB.on hn
      replace hl := hl.on hn
      replace hc := chain hc hn
      clear hn
      clear hc3 h3 hc4
      go_wp2_with fail
      refine Calls.mono (works _ (HE.out.on hc)) ?_
      rintro e V6 ⟨rfl, hn⟩
      replace rb := rb.on hn
      replace ho := ho.on hn
      replace hB := hB.on hn
      replace hl := hl.on hn
      replace hc := chain hc hn
      clear hn
      go_wp2_with fail
      go_returns
      exact ⟨rfl, hc⟩
    · have e0 : lastT A = zl.at_ := by rw [hA]; unfold lastT; rw [List.concat_eq_append, List.getLast?_append]; rfl
      have e1 : A.length = A2.length + 1 := by rw [hA, List.length_concat]
      rcases hq with ⟨-, h0⟩ | ⟨g5, o5, cc, hve, hcell⟩
      · rw [h0] at e1; simp at e1
      simp only [Value.slice.injEq] at hve
      obtain ⟨rfl, -, rfl⟩ := hve
      have d0 : V2.cell? ⟨g5, o5 + A2.length * 6, none⟩ = some (.int .i64 zl.at_) := hcell A2.length zl (by rw [hA, List.concat_eq_append, List.getElem?_concat_length]) 0 (by decide)
      clear hA hcell
      clear e0
      try rw [e0] at hlt
      have yrb := rb.cell
      have zrb := rb.lt
      have E1 := Lib.hid e1
      skip
      go_wp2_with fail
      clear yrb zrb
      clear d0
      have he := times_arg A hz1.1 (t := at') (by unfold maxT; omega)
      refine Calls.mono (addW_c (atT z at') (show gIn z from hz1.2) hB.b.size hl) ?_
      rintro e V3 ⟨rfl, F2, hl2, hadd⟩
      rw [addL_no (by rw [he]; decide)] at hl2
      rw [he]
      replace hB := hB.add hadd
      replace rb := hadd.row rb nF
      replace hc := chain HC0.out hB.b
      replace ho := HU0.out.on hB.b
      clear hl hadd nF
      have hl := hl2
      clear hl2
      go_wp2_with fail
      refine Calls.mono (allW_c hl) ?_
      rintro e V4 ⟨u3, rfl, h3, hn⟩
      replace rb := rb.on hn
      replace ho := ho.on hn
      replace hB := hB.on hn
      replace hl := hl.on hn
      replace hc := chain hc hn
      clear hn
      have hc3 := OwnsA.holds h3
      have hc4 := OwnsA.holds ho
      rw [e1] at hc4
      go_wp2_with fail
      refine Calls.mono (equal_same _ _ A _ hc3 hc4 (by omega)) ?_
      rintro e V5 ⟨rfl, hn⟩
      replace rb := rb.on hn
      replace ho := ho.on hn
      replace hB := hB.on hn
      replace hl := hl.on hn
      replace hc := chain hc hn
      clear hn
      clear hc3 h3 hc4
      go_wp2_with fail
      refine Calls.mono (works _ (HE.out.on hc)) ?_
      rintro e V6 ⟨rfl, hn⟩
      replace rb := rb.on hn
      replace ho := ho.on hn
      replace hB := hB.on hn
      replace hl := hl.on hn
      replace hc := chain hc hn
      clear hn
      go_wp2_with fail
      go_returns
      exact ⟨rfl, hc⟩
  · by_cases hlt : at' < lastT A
    · rcases List.eq_nil_or_concat A with hA | ⟨A2, zl, hA⟩
      · have e0 : lastT A = 0 := by rw [hA]; rfl
        have e1 : A.length = 0 := by rw [hA]; rfl
        clear hA hq
        rw [e0] at hlt
        omega
      · have e0 : lastT A = zl.at_ := by rw [hA]; unfold lastT; rw [List.concat_eq_append, List.getLast?_append]; rfl
        have e1 : A.length = A2.length + 1 := by rw [hA, List.length_concat]
        rcases hq with ⟨-, h0⟩ | ⟨g5, o5, cc, hve, hcell⟩
        · rw [h0] at e1; simp at e1
        simp only [Value.slice.injEq] at hve
        obtain ⟨rfl, -, rfl⟩ := hve
        have d0 : V2.cell? ⟨g5, o5 + A2.length * 6, none⟩ = some (.int .i64 zl.at_) := hcell A2.length zl (by rw [hA, List.concat_eq_append, List.getElem?_concat_length]) 0 (by decide)
        clear hA hcell
        try rw [e0] at hlt
        have yrb := rb.cell
        have zrb := rb.lt
        have E1 := Lib.hid e1
        skip
        go_wp2_with fail
        clear yrb zrb
        clear d0
        have he := times_state A hz1.1 (by omega) (by unfold maxT; omega) (by rw [e0]; exact hlt)
        clear e0
        refine Calls.mono (addW_c (atT z at') (show gIn z from hz1.2) hB.b.size hl) ?_
        rintro e V3 ⟨rfl, F2, hl2, hadd⟩
        rw [addL_no (by rw [he]; decide)] at hl2
        rw [he]
        replace hB := hB.add hadd
        replace rb := hadd.row rb nF
        replace hc := chain HC0.out hB.b
        replace ho := HU0.out.on hB.b
        clear hl hadd nF
        have hl := hl2
        clear hl2
        go_wp2_with fail
        refine Calls.mono (allW_c hl) ?_
        rintro e V4 ⟨u3, rfl, h3, hn⟩
        replace rb := rb.on hn
        replace ho := ho.on hn
        replace hB := hB.on hn
        replace hl := hl.on hn
        replace hc := chain hc hn
        clear hn
        have hc3 := OwnsA.holds h3
        have hc4 := OwnsA.holds ho
        rw [e1] at hc4
        go_wp2_with fail
        refine Calls.mono (equal_same _ _ A _ hc3 hc4 (by omega)) ?_
        rintro e V5 ⟨rfl, hn⟩
        replace rb := rb.on hn
        replace ho := ho.on hn
        replace hB := hB.on hn
        replace hl := hl.on hn
        replace hc := chain hc hn
        clear hn
        clear hc3 h3 hc4
        go_wp2_with fail
        refine Calls.mono (works _ (HE.out.on hc)) ?_
        rintro e V6 ⟨rfl, hn⟩
        replace rb := rb.on hn
        replace ho := ho.on hn
        replace hB := hB.on hn
        replace hl := hl.on hn
        replace hc := chain hc hn
        clear hn
        go_wp2_with fail
        go_returns
        exact ⟨rfl, hc⟩
    · rcases List.eq_nil_or_concat A with hA | ⟨A2, zl, hA⟩
      · have e0 : lastT A = 0 := by rw [hA]; rfl
        have e1 : A.length = 0 := by rw [hA]; rfl
        clear hA hq
        try rw [e0] at hlt
        have yrb := rb.cell
        have zrb := rb.lt
        have E1 := Lib.hid e1
        skip
        go_wp2_with fail
        clear yrb zrb
        have he := times_fine A hz1.1 (by omega) (by unfold maxT; omega) (by rw [e0]; omega) (by omega)
        clear e0
        refine Calls.mono (addW_c (atT z at') (show gIn z from hz1.2) hB.b.size hl) ?_
        rintro e V3 ⟨rfl, F2, hl2, hadd⟩
        rw [addL_ok he] at hl2
        rw [he]
        replace hB := hB.add hadd
        replace rb := hadd.row rb nF
        replace hc := chain HC0.out hB.b
        replace ho := HU0.out.on hB.b
        clear hl hadd nF
        have hl := hl2
        clear hl2
        have yrb := rb.cell
        have zrb := rb.lt
        go_upto_region 18 with fail
        clear yrb zrb
        refine wp_region_held_drew (S := fun W' => ∀ j : Nat, W'.cell? ⟨bB, j, none⟩ = #[.int .i64 at', .int .i64 z.k, .int .i64 z.i, .int .u32 z.g, .int .i64 z.why, .int .i64 z.ans][j]?) (by kernel_rfl) rb.cell (fun hHeld => ?_)
        replace hc := hc.drew
        replace ho := OwnsA.drew ho
        replace hl := hl.drew
        replace rb := rb.drew
        generalize V3.drew = X0 at *
        clear hB
        have hsz : X0.heap.size ≤ X0.heap.size := Nat.le_refl _
        have HOX := Lib.hid (fun k hk => (OwnsA.lt ho k hk).2)
        refine' wpAnyH_take (i := 0) (oi := _) (v := _) ?_ (by kernel_rfl) (by kernel_rfl) (by kernel_rfl) ?_ (Or.inl ⟨?_, ?_⟩) (by assumption) ?_
        rotate_left 2
        · (simp only [List.getElem?_toArray, List.getElem?_cons_succ, List.getElem?_cons_zero]; rfl)
        · first | exact fun _ _ _ h => h | exact fun _ _ _ h => nomatch h.1
        · rfl
        · (intro W hSW; (try dsimp only at hSW); go_split_ands; first | (go_simp; done) | (go_simp; with_reducible rfl))
        try simp only [Act.put, List.setIfInBounds_toArray, List.set_cons_zero, List.set_cons_succ]
        refine' wpAnyH_take (i := 1) (oi := _) (v := _) ?_ (by kernel_rfl) (by kernel_rfl) (by kernel_rfl) ?_ (Or.inl ⟨?_, ?_⟩) (by assumption) ?_
        rotate_left 2
        · (simp only [List.getElem?_toArray, List.getElem?_cons_succ, List.getElem?_cons_zero]; rfl)
        · first | exact fun _ _ _ h => h | exact fun _ _ _ h => nomatch h.1
        · rfl
        · (intro W hSW; (try dsimp only at hSW); go_split_ands; first | (go_simp; done) | (go_simp; with_reducible rfl))
        try simp only [Act.put, List.setIfInBounds_toArray, List.set_cons_zero, List.set_cons_succ]
        refine' wpAnyH_take (i := 2) (oi := _) (v := _) ?_ (by kernel_rfl) (by kernel_rfl) (by kernel_rfl) ?_ (Or.inl ⟨?_, ?_⟩) (by assumption) ?_
        rotate_left 2
        · (simp only [List.getElem?_toArray, List.getElem?_cons_succ, List.getElem?_cons_zero]; rfl)
        · first | exact fun _ _ _ h => h | exact fun _ _ _ h => nomatch h.1
        · rfl
        · (intro W hSW; (try dsimp only at hSW); go_split_ands; first | (go_simp; done) | (go_simp; with_reducible rfl))
        try simp only [Act.put, List.setIfInBounds_toArray, List.set_cons_zero, List.set_cons_succ]
        refine' wpAnyH_take (i := 3) (oi := _) (v := _) ?_ (by kernel_rfl) (by kernel_rfl) (by kernel_rfl) ?_ (Or.inl ⟨?_, ?_⟩) (by assumption) ?_
        rotate_left 2
        · (simp only [List.getElem?_toArray, List.getElem?_cons_succ, List.getElem?_cons_zero]; rfl)
        · first | exact fun _ _ _ h => h | exact fun _ _ _ h => nomatch h.1
        · rfl
        · (intro W hSW; (try dsimp only at hSW); go_split_ands; first | (go_simp; done) | (go_simp; with_reducible rfl))
        try simp only [Act.put, List.setIfInBounds_toArray, List.set_cons_zero, List.set_cons_succ]
        refine' wpAnyH_take (i := 5) (oi := _) (v := _) ?_ (by kernel_rfl) (by kernel_rfl) (by kernel_rfl) ?_ (Or.inl ⟨?_, ?_⟩) (by assumption) ?_
        rotate_left 2
        · (simp only [List.getElem?_toArray, List.getElem?_cons_succ, List.getElem?_cons_zero]; rfl)
        · first | exact fun _ _ _ h => h | exact fun _ _ _ h => nomatch h.1
        · rfl
        · (intro W hSW; (try dsimp only at hSW); go_split_ands; first | (go_simp; done) | (go_simp; with_reducible rfl))
        try simp only [Act.put, List.setIfInBounds_toArray, List.set_cons_zero, List.set_cons_succ]
        refine' wpAnyH_take (i := 6) (oi := _) (v := _) ?_ (by kernel_rfl) (by kernel_rfl) (by kernel_rfl) ?_ (Or.inl ⟨?_, ?_⟩) (by assumption) ?_
        rotate_left 2
        · (simp only [List.getElem?_toArray, List.getElem?_cons_succ, List.getElem?_cons_zero]; rfl)
        · first | exact fun _ _ _ h => h | exact fun _ _ _ h => nomatch h.1
        · rfl
        · (intro W hSW; (try dsimp only at hSW); go_split_ands; first | (go_simp; done) | (go_simp; with_reducible rfl))
        try simp only [Act.put, List.setIfInBounds_toArray, List.set_cons_zero, List.set_cons_succ]
        clear hHeld
        refine wpAnyH_ready (rs := [4, 7]) (by kernel_rfl) (by simp) ?_
        refine' AllReadyH.cons (o := _) (by simp only [List.getElem?_toArray, List.getElem?_cons_succ, List.getElem?_cons_zero]; rfl) (fun K hK => ?_) (AllReadyH.cons (o := _) (by simp only [List.getElem?_toArray, List.getElem?_cons_succ, List.getElem?_cons_zero]; rfl) (fun K hK => ?_) AllReadyH.nil)
        · go_simp
          refine Calls.mono (allW_c hl) ?_
          rintro e V4 ⟨u3, rfl, h3, hn⟩
          replace h3 := OwnsA.base h3 hsz
          replace hsz := Nat.le_trans hsz hn.size
          try replace rn := rn.on hn
          replace rb := rb.on hn
          replace ho := ho.on hn
          replace hl := hl.on hn
          replace hc := chain hc hn
          clear hn
          go_simp
          refine hK.out _ _ rb.cell (fun hHeld => ?_)
          clear hK K hHeld
          refine wpAnyH_ready (rs := [7]) (by kernel_rfl) (by simp) ?_
          refine' AllReadyH.cons (o := _) ?_ (fun K hK => ?_) AllReadyH.nil
          rotate_left 1
          · (simp only [List.getElem?_toArray, List.getElem?_cons_succ, List.getElem?_cons_zero]; rfl)
          go_simp
          have rn := Row.new (W := V4) (cs := #[.int .i64 at', .int .i64 z.k, .int .i64 z.i, .int .u32 z.g, .int .i64 z.why, .int .i64 z.ans]) (t := 43)
          have hn := below_alloc V4 (.cells #[.int .i64 at', .int .i64 z.k, .int .i64 z.i, .int .u32 z.g, .int .i64 z.why, .int .i64 z.ans] 43)
          replace hsz := Nat.le_trans hsz hn.size
          replace rb := rb.on hn
          replace ho := ho.on hn
          replace hl := hl.on hn
          replace h3 := h3.on hn
          replace hc := chain hc hn
          clear hn
          generalize V4.alloc (.cells #[.int .i64 at', .int .i64 z.k, .int .i64 z.i, .int .u32 z.g, .int .i64 z.why, .int .i64 z.ans] 43) = V5 at *
          generalize V4.heap.size = bN at rn ⊢
          refine hK.out _ _ rb.cell (fun hHeld => ?_)
          clear hK K hHeld
          refine wpAnyH_ready (rs := [8]) (by kernel_rfl) (by simp) ?_
          refine' AllReadyH.cons (o := _) (by simp only [List.getElem?_toArray, List.getElem?_cons_succ, List.getElem?_cons_zero]; rfl) (fun K hK => ?_) AllReadyH.nil
          have hcs := hc.size
          have hsrc : ∀ (j : Nat) (v : Value), (atL (atT z at'))[j]? = some v → V5.cell? ((⟨bN, 0, none⟩ : Addr).add j) = some v := fun j v hv => by rw [show (⟨bN, 0, none⟩ : Addr).add j = ⟨bN, j, none⟩ by simp [Addr.add]; omega, rn.cell j, List.getElem?_toArray]; exact hv
          rw [if_pos (by first | kernel_rfl | rfl | go_simp)]
          refine wp_append_lies _ (.tmp 81) (.tmp 83) 26 rfl w.heap.size 43 i0 (.agg #[.int .i64 0, .int .i64 0, .int .i64 0, .int .u32 0, .int .i64 0, .int .i64 0]) 6 48 Tryz.underlying26 HI0.out HZ0.out HZ1.out HZ2.out rfl (by decide) (.slice p5 0 c5) 0 (cellsA A) rfl (by have h9 := ho; unfold OwnsA at h9; rw [e1] at h9; exact h9) ⟨bN, 0, none⟩ 1 1 (atL (atT z at')) rfl rfl hsrc (by intro u hu; simp at hu; rcases hu with rfl | rfl | rfl | rfl | rfl | rfl <;> rfl) (by omega) (by unfold maxLen; omega) (by omega) hcs _ rfl ?_
          intro g1 cap X2 hown2 hgrow hat hlt2
          have hub : ∀ k, (Value.slice p5 0 c5).ownBlock = some k → k < VA.heap.size := fun k hk => (OwnsA.lt HU0.out k (by rw [e1]; exact hk)).2
          have hub1 : ∀ k, (Value.slice p5 0 c5).ownBlock = some k → w.heap.size ≤ k := fun k hk => (OwnsA.lt HU0.out k (by rw [e1]; exact hk)).1
          have hubX : ∀ k, (Value.slice p5 0 c5).ownBlock = some k → k < X0.heap.size := fun k hk => HOX.out k (by rw [e1]; exact hk)
          replace h3 : OwnsA X0.heap.size X2 u3 _ := OwnsA.via h3 (fun k hk => hgrow.block k (OwnsA.lt h3 k hk).2 (fun e => by have := (OwnsA.lt h3 k hk).1; have := hubX k e.symm; omega))
          replace rb := row_grown rb hgrow (fun e => by have := hub _ e; omega)
          replace hc := hc.grown hgrow hcs hub1
          have hv2 : OwnsA w.heap.size X2 (.slice (some ⟨g1, 0, none⟩) (0 + 1) cap) (A ++ [atT z at']) := by unfold OwnsA; rw [cellsA_snoc, List.length_append, List.length_singleton, e1]; exact hown2
          clear hown2 hgrow hat hub hub1 hubX rn hsrc ho hl
          refine hK.out _ _ rb.cell (fun hHeld => ?_)
          clear hK K hHeld
          refine wpAnyH_ready (rs := [9]) (by kernel_rfl) (by simp) ?_
          refine' AllReadyH.cons (o := _) ?_ (fun K hK => ?_) AllReadyH.nil
          rotate_left 1
          · (simp only [List.getElem?_toArray, List.getElem?_cons_succ, List.getElem?_cons_zero]; rfl)
          go_simp
          refine Calls.mono (equal_same _ _ (A ++ [atT z at']) _ (OwnsA.holds h3) (OwnsA.holds hv2) (by rw [List.length_append, List.length_singleton]; omega)) ?_
          rintro e Y1 ⟨rfl, hn⟩
          clear h3 hv2
          replace rb := rb.on hn
          replace hc := chain hc hn
          clear hn
          go_simp
          refine hK.out _ _ rb.cell (fun hHeld => ?_)
          clear hK K
          refine' wpAnyH_take (i := 10) (oi := _) (v := _) ?_ (by kernel_rfl) (by kernel_rfl) (by kernel_rfl) ?_ (Or.inl ⟨?_, ?_⟩) (by assumption) ?_
          rotate_left 2
          · (simp only [List.getElem?_toArray, List.getElem?_cons_succ, List.getElem?_cons_zero]; rfl)
          · first | exact fun _ _ _ h => h | exact fun _ _ _ h => nomatch h.1
          · rfl
          · (intro W hSW; (try dsimp only at hSW); go_split_ands; first | (go_simp; done) | (go_simp; with_reducible rfl))
          try simp only [Act.put, List.setIfInBounds_toArray, List.set_cons_zero, List.set_cons_succ]
          refine' wpAnyH_take (i := 11) (oi := _) (v := _) ?_ (by kernel_rfl) (by kernel_rfl) (by kernel_rfl) ?_ (Or.inl ⟨?_, ?_⟩) (by assumption) ?_
          rotate_left 2
          · (simp only [List.getElem?_toArray, List.getElem?_cons_succ, List.getElem?_cons_zero]; rfl)
          · first | exact fun _ _ _ h => h | exact fun _ _ _ h => nomatch h.1
          · rfl
          · (intro W hSW; (try dsimp only at hSW); go_split_ands; first | (go_simp; done) | (go_simp; with_reducible rfl))
          try simp only [Act.put, List.setIfInBounds_toArray, List.set_cons_zero, List.set_cons_succ]
          clear hHeld
          refine wpAnyH_ready (rs := [12]) (by kernel_rfl) (by simp) ?_
          refine' AllReadyH.cons (o := _) ?_ (fun K hK => ?_) AllReadyH.nil
          rotate_left 1
          · (simp only [List.getElem?_toArray, List.getElem?_cons_succ, List.getElem?_cons_zero]; rfl)
          go_simp
          refine Calls.mono (works _ (HE.out.on hc)) ?_
          rintro e Y2 ⟨rfl, hn⟩
          replace rb := rb.on hn
          replace hc := chain hc hn
          clear hn
          go_simp
          refine hK.out _ _ rb.cell (fun hHeld => ?_)
          clear hK K
          refine' wpAnyH_take (i := 13) (oi := _) (v := _) ?_ (by kernel_rfl) (by kernel_rfl) (by kernel_rfl) ?_ (Or.inl ⟨?_, ?_⟩) (by assumption) ?_
          rotate_left 2
          · (simp only [List.getElem?_toArray, List.getElem?_cons_succ, List.getElem?_cons_zero]; rfl)
          · first | exact fun _ _ _ h => h | exact fun _ _ _ h => nomatch h.1
          · rfl
          · (intro W hSW; (try dsimp only at hSW); go_split_ands; first | (go_simp; done) | (go_simp; with_reducible rfl))
          try simp only [Act.put, List.setIfInBounds_toArray, List.set_cons_zero, List.set_cons_succ]
          refine' wpAnyH_take (i := 14) (oi := _) (v := _) ?_ (by kernel_rfl) (by kernel_rfl) (by kernel_rfl) ?_ (Or.inl ⟨?_, ?_⟩) (by assumption) ?_
          rotate_left 2
          · (simp only [List.getElem?_toArray, List.getElem?_cons_succ, List.getElem?_cons_zero]; rfl)
          · first | exact fun _ _ _ h => h | exact fun _ _ _ h => nomatch h.1
          · rfl
          · (intro W hSW; (try dsimp only at hSW); go_split_ands; first | (go_simp; done) | (go_simp; with_reducible rfl))
          try simp only [Act.put, List.setIfInBounds_toArray, List.set_cons_zero, List.set_cons_succ]
          refine wpAnyH_done (by kernel_rfl) ?_ _
          go_wp2_with fail
          go_returns
          exact ⟨rfl, hc⟩
        · go_simp
          have rn := Row.new (W := X0) (cs := #[.int .i64 at', .int .i64 z.k, .int .i64 z.i, .int .u32 z.g, .int .i64 z.why, .int .i64 z.ans]) (t := 43)
          have hn := below_alloc X0 (.cells #[.int .i64 at', .int .i64 z.k, .int .i64 z.i, .int .u32 z.g, .int .i64 z.why, .int .i64 z.ans] 43)
          replace hsz := Nat.le_trans hsz hn.size
          replace rb := rb.on hn
          replace ho := ho.on hn
          replace hl := hl.on hn
          replace hc := chain hc hn
          clear hn
          generalize X0.alloc (.cells #[.int .i64 at', .int .i64 z.k, .int .i64 z.i, .int .u32 z.g, .int .i64 z.why, .int .i64 z.ans] 43) = V4 at *
          generalize X0.heap.size = bN at rn ⊢
          refine hK.out _ _ rb.cell (fun hHeld => ?_)
          clear hK K hHeld
          refine wpAnyH_ready (rs := [4]) (by kernel_rfl) (by simp) ?_
          refine' AllReadyH.cons (o := _) ?_ (fun K hK => ?_) AllReadyH.nil
          rotate_left 1
          · (simp only [List.getElem?_toArray, List.getElem?_cons_succ, List.getElem?_cons_zero]; rfl)
          go_simp
          refine Calls.mono (allW_c hl) ?_
          rintro e V5 ⟨u3, rfl, h3, hn⟩
          replace h3 := OwnsA.base h3 hsz
          replace hsz := Nat.le_trans hsz hn.size
          try replace rn := rn.on hn
          replace rb := rb.on hn
          replace ho := ho.on hn
          replace hl := hl.on hn
          replace hc := chain hc hn
          clear hn
          go_simp
          refine hK.out _ _ rb.cell (fun hHeld => ?_)
          clear hK K hHeld
          refine wpAnyH_ready (rs := [8]) (by kernel_rfl) (by simp) ?_
          refine' AllReadyH.cons (o := _) (by simp only [List.getElem?_toArray, List.getElem?_cons_succ, List.getElem?_cons_zero]; rfl) (fun K hK => ?_) AllReadyH.nil
          have hcs := hc.size
          have hsrc : ∀ (j : Nat) (v : Value), (atL (atT z at'))[j]? = some v → V5.cell? ((⟨bN, 0, none⟩ : Addr).add j) = some v := fun j v hv => by rw [show (⟨bN, 0, none⟩ : Addr).add j = ⟨bN, j, none⟩ by simp [Addr.add]; omega, rn.cell j, List.getElem?_toArray]; exact hv
          rw [if_pos (by first | kernel_rfl | rfl | go_simp)]
          refine wp_append_lies _ (.tmp 81) (.tmp 83) 26 rfl w.heap.size 43 i0 (.agg #[.int .i64 0, .int .i64 0, .int .i64 0, .int .u32 0, .int .i64 0, .int .i64 0]) 6 48 Tryz.underlying26 HI0.out HZ0.out HZ1.out HZ2.out rfl (by decide) (.slice p5 0 c5) 0 (cellsA A) rfl (by have h9 := ho; unfold OwnsA at h9; rw [e1] at h9; exact h9) ⟨bN, 0, none⟩ 1 1 (atL (atT z at')) rfl rfl hsrc (by intro u hu; simp at hu; rcases hu with rfl | rfl | rfl | rfl | rfl | rfl <;> rfl) (by omega) (by unfold maxLen; omega) (by omega) hcs _ rfl ?_
          intro g1 cap X2 hown2 hgrow hat hlt2
          have hub : ∀ k, (Value.slice p5 0 c5).ownBlock = some k → k < VA.heap.size := fun k hk => (OwnsA.lt HU0.out k (by rw [e1]; exact hk)).2
          have hub1 : ∀ k, (Value.slice p5 0 c5).ownBlock = some k → w.heap.size ≤ k := fun k hk => (OwnsA.lt HU0.out k (by rw [e1]; exact hk)).1
          have hubX : ∀ k, (Value.slice p5 0 c5).ownBlock = some k → k < X0.heap.size := fun k hk => HOX.out k (by rw [e1]; exact hk)
          replace h3 : OwnsA X0.heap.size X2 u3 _ := OwnsA.via h3 (fun k hk => hgrow.block k (OwnsA.lt h3 k hk).2 (fun e => by have := (OwnsA.lt h3 k hk).1; have := hubX k e.symm; omega))
          replace rb := row_grown rb hgrow (fun e => by have := hub _ e; omega)
          replace hc := hc.grown hgrow hcs hub1
          have hv2 : OwnsA w.heap.size X2 (.slice (some ⟨g1, 0, none⟩) (0 + 1) cap) (A ++ [atT z at']) := by unfold OwnsA; rw [cellsA_snoc, List.length_append, List.length_singleton, e1]; exact hown2
          clear hown2 hgrow hat hub hub1 hubX rn hsrc ho hl
          refine hK.out _ _ rb.cell (fun hHeld => ?_)
          clear hK K hHeld
          refine wpAnyH_ready (rs := [9]) (by kernel_rfl) (by simp) ?_
          refine' AllReadyH.cons (o := _) ?_ (fun K hK => ?_) AllReadyH.nil
          rotate_left 1
          · (simp only [List.getElem?_toArray, List.getElem?_cons_succ, List.getElem?_cons_zero]; rfl)
          go_simp
          refine Calls.mono (equal_same _ _ (A ++ [atT z at']) _ (OwnsA.holds h3) (OwnsA.holds hv2) (by rw [List.length_append, List.length_singleton]; omega)) ?_
          rintro e Y1 ⟨rfl, hn⟩
          clear h3 hv2
          replace rb := rb.on hn
          replace hc := chain hc hn
          clear hn
          go_simp
          refine hK.out _ _ rb.cell (fun hHeld => ?_)
          clear hK K
          refine' wpAnyH_take (i := 10) (oi := _) (v := _) ?_ (by kernel_rfl) (by kernel_rfl) (by kernel_rfl) ?_ (Or.inl ⟨?_, ?_⟩) (by assumption) ?_
          rotate_left 2
          · (simp only [List.getElem?_toArray, List.getElem?_cons_succ, List.getElem?_cons_zero]; rfl)
          · first | exact fun _ _ _ h => h | exact fun _ _ _ h => nomatch h.1
          · rfl
          · (intro W hSW; (try dsimp only at hSW); go_split_ands; first | (go_simp; done) | (go_simp; with_reducible rfl))
          try simp only [Act.put, List.setIfInBounds_toArray, List.set_cons_zero, List.set_cons_succ]
          refine' wpAnyH_take (i := 11) (oi := _) (v := _) ?_ (by kernel_rfl) (by kernel_rfl) (by kernel_rfl) ?_ (Or.inl ⟨?_, ?_⟩) (by assumption) ?_
          rotate_left 2
          · (simp only [List.getElem?_toArray, List.getElem?_cons_succ, List.getElem?_cons_zero]; rfl)
          · first | exact fun _ _ _ h => h | exact fun _ _ _ h => nomatch h.1
          · rfl
          · (intro W hSW; (try dsimp only at hSW); go_split_ands; first | (go_simp; done) | (go_simp; with_reducible rfl))
          try simp only [Act.put, List.setIfInBounds_toArray, List.set_cons_zero, List.set_cons_succ]
          clear hHeld
          refine wpAnyH_ready (rs := [12]) (by kernel_rfl) (by simp) ?_
          refine' AllReadyH.cons (o := _) ?_ (fun K hK => ?_) AllReadyH.nil
          rotate_left 1
          · (simp only [List.getElem?_toArray, List.getElem?_cons_succ, List.getElem?_cons_zero]; rfl)
          go_simp
          refine Calls.mono (works _ (HE.out.on hc)) ?_
          rintro e Y2 ⟨rfl, hn⟩
          replace rb := rb.on hn
          replace hc := chain hc hn
          clear hn
          go_simp
          refine hK.out _ _ rb.cell (fun hHeld => ?_)
          clear hK K
          refine' wpAnyH_take (i := 13) (oi := _) (v := _) ?_ (by kernel_rfl) (by kernel_rfl) (by kernel_rfl) ?_ (Or.inl ⟨?_, ?_⟩) (by assumption) ?_
          rotate_left 2
          · (simp only [List.getElem?_toArray, List.getElem?_cons_succ, List.getElem?_cons_zero]; rfl)
          · first | exact fun _ _ _ h => h | exact fun _ _ _ h => nomatch h.1
          · rfl
          · (intro W hSW; (try dsimp only at hSW); go_split_ands; first | (go_simp; done) | (go_simp; with_reducible rfl))
          try simp only [Act.put, List.setIfInBounds_toArray, List.set_cons_zero, List.set_cons_succ]
          refine' wpAnyH_take (i := 14) (oi := _) (v := _) ?_ (by kernel_rfl) (by kernel_rfl) (by kernel_rfl) ?_ (Or.inl ⟨?_, ?_⟩) (by assumption) ?_
          rotate_left 2
          · (simp only [List.getElem?_toArray, List.getElem?_cons_succ, List.getElem?_cons_zero]; rfl)
          · first | exact fun _ _ _ h => h | exact fun _ _ _ h => nomatch h.1
          · rfl
          · (intro W hSW; (try dsimp only at hSW); go_split_ands; first | (go_simp; done) | (go_simp; with_reducible rfl))
          try simp only [Act.put, List.setIfInBounds_toArray, List.set_cons_zero, List.set_cons_succ]
          refine wpAnyH_done (by kernel_rfl) ?_ _
          go_wp2_with fail
          go_returns
          exact ⟨rfl, hc⟩
      · have e0 : lastT A = zl.at_ := by rw [hA]; unfold lastT; rw [List.concat_eq_append, List.getLast?_append]; rfl
        have e1 : A.length = A2.length + 1 := by rw [hA, List.length_concat]
        rcases hq with ⟨-, h0⟩ | ⟨g5, o5, cc, hve, hcell⟩
        · rw [h0] at e1; simp at e1
        simp only [Value.slice.injEq] at hve
        obtain ⟨rfl, -, rfl⟩ := hve
        have d0 : V2.cell? ⟨g5, o5 + A2.length * 6, none⟩ = some (.int .i64 zl.at_) := hcell A2.length zl (by rw [hA, List.concat_eq_append, List.getElem?_concat_length]) 0 (by decide)
        clear hA hcell
        try rw [e0] at hlt
        have yrb := rb.cell
        have zrb := rb.lt
        have E1 := Lib.hid e1
        skip
        go_wp2_with fail
        clear yrb zrb
        clear d0
        have he := times_fine A hz1.1 (by omega) (by unfold maxT; omega) (by rw [e0]; omega) (by omega)
        clear e0
        refine Calls.mono (addW_c (atT z at') (show gIn z from hz1.2) hB.b.size hl) ?_
        rintro e V3 ⟨rfl, F2, hl2, hadd⟩
        rw [addL_ok he] at hl2
        rw [he]
        replace hB := hB.add hadd
        replace rb := hadd.row rb nF
        replace hc := chain HC0.out hB.b
        replace ho := HU0.out.on hB.b
        clear hl hadd nF
        have hl := hl2
        clear hl2
        have yrb := rb.cell
        have zrb := rb.lt
        go_upto_region 18 with fail
        clear yrb zrb
        refine wp_region_held_drew (S := fun W' => ∀ j : Nat, W'.cell? ⟨bB, j, none⟩ = #[.int .i64 at', .int .i64 z.k, .int .i64 z.i, .int .u32 z.g, .int .i64 z.why, .int .i64 z.ans][j]?) (by kernel_rfl) rb.cell (fun hHeld => ?_)
        replace hc := hc.drew
        replace ho := OwnsA.drew ho
        replace hl := hl.drew
        replace rb := rb.drew
        generalize V3.drew = X0 at *
        clear hB
        have hsz : X0.heap.size ≤ X0.heap.size := Nat.le_refl _
        have HOX := Lib.hid (fun k hk => (OwnsA.lt ho k hk).2)
        refine' wpAnyH_take (i := 0) (oi := _) (v := _) ?_ (by kernel_rfl) (by kernel_rfl) (by kernel_rfl) ?_ (Or.inl ⟨?_, ?_⟩) (by assumption) ?_
        rotate_left 2
        · (simp only [List.getElem?_toArray, List.getElem?_cons_succ, List.getElem?_cons_zero]; rfl)
        · first | exact fun _ _ _ h => h | exact fun _ _ _ h => nomatch h.1
        · rfl
        · (intro W hSW; (try dsimp only at hSW); go_split_ands; first | (go_simp; done) | (go_simp; with_reducible rfl))
        try simp only [Act.put, List.setIfInBounds_toArray, List.set_cons_zero, List.set_cons_succ]
        refine' wpAnyH_take (i := 1) (oi := _) (v := _) ?_ (by kernel_rfl) (by kernel_rfl) (by kernel_rfl) ?_ (Or.inl ⟨?_, ?_⟩) (by assumption) ?_
        rotate_left 2
        · (simp only [List.getElem?_toArray, List.getElem?_cons_succ, List.getElem?_cons_zero]; rfl)
        · first | exact fun _ _ _ h => h | exact fun _ _ _ h => nomatch h.1
        · rfl
        · (intro W hSW; (try dsimp only at hSW); go_split_ands; first | (go_simp; done) | (go_simp; with_reducible rfl))
        try simp only [Act.put, List.setIfInBounds_toArray, List.set_cons_zero, List.set_cons_succ]
        refine' wpAnyH_take (i := 2) (oi := _) (v := _) ?_ (by kernel_rfl) (by kernel_rfl) (by kernel_rfl) ?_ (Or.inl ⟨?_, ?_⟩) (by assumption) ?_
        rotate_left 2
        · (simp only [List.getElem?_toArray, List.getElem?_cons_succ, List.getElem?_cons_zero]; rfl)
        · first | exact fun _ _ _ h => h | exact fun _ _ _ h => nomatch h.1
        · rfl
        · (intro W hSW; (try dsimp only at hSW); go_split_ands; first | (go_simp; done) | (go_simp; with_reducible rfl))
        try simp only [Act.put, List.setIfInBounds_toArray, List.set_cons_zero, List.set_cons_succ]
        refine' wpAnyH_take (i := 3) (oi := _) (v := _) ?_ (by kernel_rfl) (by kernel_rfl) (by kernel_rfl) ?_ (Or.inl ⟨?_, ?_⟩) (by assumption) ?_
        rotate_left 2
        · (simp only [List.getElem?_toArray, List.getElem?_cons_succ, List.getElem?_cons_zero]; rfl)
        · first | exact fun _ _ _ h => h | exact fun _ _ _ h => nomatch h.1
        · rfl
        · (intro W hSW; (try dsimp only at hSW); go_split_ands; first | (go_simp; done) | (go_simp; with_reducible rfl))
        try simp only [Act.put, List.setIfInBounds_toArray, List.set_cons_zero, List.set_cons_succ]
        refine' wpAnyH_take (i := 5) (oi := _) (v := _) ?_ (by kernel_rfl) (by kernel_rfl) (by kernel_rfl) ?_ (Or.inl ⟨?_, ?_⟩) (by assumption) ?_
        rotate_left 2
        · (simp only [List.getElem?_toArray, List.getElem?_cons_succ, List.getElem?_cons_zero]; rfl)
        · first | exact fun _ _ _ h => h | exact fun _ _ _ h => nomatch h.1
        · rfl
        · (intro W hSW; (try dsimp only at hSW); go_split_ands; first | (go_simp; done) | (go_simp; with_reducible rfl))
        try simp only [Act.put, List.setIfInBounds_toArray, List.set_cons_zero, List.set_cons_succ]
        refine' wpAnyH_take (i := 6) (oi := _) (v := _) ?_ (by kernel_rfl) (by kernel_rfl) (by kernel_rfl) ?_ (Or.inl ⟨?_, ?_⟩) (by assumption) ?_
        rotate_left 2
        · (simp only [List.getElem?_toArray, List.getElem?_cons_succ, List.getElem?_cons_zero]; rfl)
        · first | exact fun _ _ _ h => h | exact fun _ _ _ h => nomatch h.1
        · rfl
        · (intro W hSW; (try dsimp only at hSW); go_split_ands; first | (go_simp; done) | (go_simp; with_reducible rfl))
        try simp only [Act.put, List.setIfInBounds_toArray, List.set_cons_zero, List.set_cons_succ]
        clear hHeld
        refine wpAnyH_ready (rs := [4, 7]) (by kernel_rfl) (by simp) ?_
        refine' AllReadyH.cons (o := _) (by simp only [List.getElem?_toArray, List.getElem?_cons_succ, List.getElem?_cons_zero]; rfl) (fun K hK => ?_) (AllReadyH.cons (o := _) (by simp only [List.getElem?_toArray, List.getElem?_cons_succ, List.getElem?_cons_zero]; rfl) (fun K hK => ?_) AllReadyH.nil)
        · go_simp
          refine Calls.mono (allW_c hl) ?_
          rintro e V4 ⟨u3, rfl, h3, hn⟩
          replace h3 := OwnsA.base h3 hsz
          replace hsz := Nat.le_trans hsz hn.size
          try replace rn := rn.on hn
          replace rb := rb.on hn
          replace ho := ho.on hn
          replace hl := hl.on hn
          replace hc := chain hc hn
          clear hn
          go_simp
          refine hK.out _ _ rb.cell (fun hHeld => ?_)
          clear hK K hHeld
          refine wpAnyH_ready (rs := [7]) (by kernel_rfl) (by simp) ?_
          refine' AllReadyH.cons (o := _) ?_ (fun K hK => ?_) AllReadyH.nil
          rotate_left 1
          · (simp only [List.getElem?_toArray, List.getElem?_cons_succ, List.getElem?_cons_zero]; rfl)
          go_simp
          have rn := Row.new (W := V4) (cs := #[.int .i64 at', .int .i64 z.k, .int .i64 z.i, .int .u32 z.g, .int .i64 z.why, .int .i64 z.ans]) (t := 43)
          have hn := below_alloc V4 (.cells #[.int .i64 at', .int .i64 z.k, .int .i64 z.i, .int .u32 z.g, .int .i64 z.why, .int .i64 z.ans] 43)
          replace hsz := Nat.le_trans hsz hn.size
          replace rb := rb.on hn
          replace ho := ho.on hn
          replace hl := hl.on hn
          replace h3 := h3.on hn
          replace hc := chain hc hn
          clear hn
          generalize V4.alloc (.cells #[.int .i64 at', .int .i64 z.k, .int .i64 z.i, .int .u32 z.g, .int .i64 z.why, .int .i64 z.ans] 43) = V5 at *
          generalize V4.heap.size = bN at rn ⊢
          refine hK.out _ _ rb.cell (fun hHeld => ?_)
          clear hK K hHeld
          refine wpAnyH_ready (rs := [8]) (by kernel_rfl) (by simp) ?_
          refine' AllReadyH.cons (o := _) (by simp only [List.getElem?_toArray, List.getElem?_cons_succ, List.getElem?_cons_zero]; rfl) (fun K hK => ?_) AllReadyH.nil
          have hcs := hc.size
          have hsrc : ∀ (j : Nat) (v : Value), (atL (atT z at'))[j]? = some v → V5.cell? ((⟨bN, 0, none⟩ : Addr).add j) = some v := fun j v hv => by rw [show (⟨bN, 0, none⟩ : Addr).add j = ⟨bN, j, none⟩ by simp [Addr.add]; omega, rn.cell j, List.getElem?_toArray]; exact hv
          rw [if_pos (by first | kernel_rfl | rfl | go_simp)]
          refine wp_append_lies _ (.tmp 81) (.tmp 83) 26 rfl w.heap.size 43 i0 (.agg #[.int .i64 0, .int .i64 0, .int .i64 0, .int .u32 0, .int .i64 0, .int .i64 0]) 6 48 Tryz.underlying26 HI0.out HZ0.out HZ1.out HZ2.out rfl (by decide) (.slice (some ⟨g5, o5, none⟩) (A2.length + 1) c5) (A2.length + 1) (cellsA A) rfl (by have h9 := ho; unfold OwnsA at h9; rw [e1] at h9; exact h9) ⟨bN, 0, none⟩ 1 1 (atL (atT z at')) rfl rfl hsrc (by intro u hu; simp at hu; rcases hu with rfl | rfl | rfl | rfl | rfl | rfl <;> rfl) (by omega) (by unfold maxLen; omega) (by omega) hcs _ rfl ?_
          intro g1 cap X2 hown2 hgrow hat hlt2
          have hub : ∀ k, (Value.slice (some ⟨g5, o5, none⟩) (A2.length + 1) c5).ownBlock = some k → k < VA.heap.size := fun k hk => (OwnsA.lt HU0.out k (by rw [e1]; exact hk)).2
          have hub1 : ∀ k, (Value.slice (some ⟨g5, o5, none⟩) (A2.length + 1) c5).ownBlock = some k → w.heap.size ≤ k := fun k hk => (OwnsA.lt HU0.out k (by rw [e1]; exact hk)).1
          have hubX : ∀ k, (Value.slice (some ⟨g5, o5, none⟩) (A2.length + 1) c5).ownBlock = some k → k < X0.heap.size := fun k hk => HOX.out k (by rw [e1]; exact hk)
          replace h3 : OwnsA X0.heap.size X2 u3 _ := OwnsA.via h3 (fun k hk => hgrow.block k (OwnsA.lt h3 k hk).2 (fun e => by have := (OwnsA.lt h3 k hk).1; have := hubX k e.symm; omega))
          replace rb := row_grown rb hgrow (fun e => by have := hub _ e; omega)
          replace hc := hc.grown hgrow hcs hub1
          have hv2 : OwnsA w.heap.size X2 (.slice (some ⟨g1, 0, none⟩) ((A2.length + 1) + 1) cap) (A ++ [atT z at']) := by unfold OwnsA; rw [cellsA_snoc, List.length_append, List.length_singleton, e1]; exact hown2
          clear hown2 hgrow hat hub hub1 hubX rn hsrc ho hl
          refine hK.out _ _ rb.cell (fun hHeld => ?_)
          clear hK K hHeld
          refine wpAnyH_ready (rs := [9]) (by kernel_rfl) (by simp) ?_
          refine' AllReadyH.cons (o := _) ?_ (fun K hK => ?_) AllReadyH.nil
          rotate_left 1
          · (simp only [List.getElem?_toArray, List.getElem?_cons_succ, List.getElem?_cons_zero]; rfl)
          go_simp
          refine Calls.mono (equal_same _ _ (A ++ [atT z at']) _ (OwnsA.holds h3) (OwnsA.holds hv2) (by rw [List.length_append, List.length_singleton]; omega)) ?_
          rintro e Y1 ⟨rfl, hn⟩
          clear h3 hv2
          replace rb := rb.on hn
          replace hc := chain hc hn
          clear hn
          go_simp
          refine hK.out _ _ rb.cell (fun hHeld => ?_)
          clear hK K
          refine' wpAnyH_take (i := 10) (oi := _) (v := _) ?_ (by kernel_rfl) (by kernel_rfl) (by kernel_rfl) ?_ (Or.inl ⟨?_, ?_⟩) (by assumption) ?_
          rotate_left 2
          · (simp only [List.getElem?_toArray, List.getElem?_cons_succ, List.getElem?_cons_zero]; rfl)
          · first | exact fun _ _ _ h => h | exact fun _ _ _ h => nomatch h.1
          · rfl
          · (intro W hSW; (try dsimp only at hSW); go_split_ands; first | (go_simp; done) | (go_simp; with_reducible rfl))
          try simp only [Act.put, List.setIfInBounds_toArray, List.set_cons_zero, List.set_cons_succ]
          refine' wpAnyH_take (i := 11) (oi := _) (v := _) ?_ (by kernel_rfl) (by kernel_rfl) (by kernel_rfl) ?_ (Or.inl ⟨?_, ?_⟩) (by assumption) ?_
          rotate_left 2
          · (simp only [List.getElem?_toArray, List.getElem?_cons_succ, List.getElem?_cons_zero]; rfl)
          · first | exact fun _ _ _ h => h | exact fun _ _ _ h => nomatch h.1
          · rfl
          · (intro W hSW; (try dsimp only at hSW); go_split_ands; first | (go_simp; done) | (go_simp; with_reducible rfl))
          try simp only [Act.put, List.setIfInBounds_toArray, List.set_cons_zero, List.set_cons_succ]
          clear hHeld
          refine wpAnyH_ready (rs := [12]) (by kernel_rfl) (by simp) ?_
          refine' AllReadyH.cons (o := _) ?_ (fun K hK => ?_) AllReadyH.nil
          rotate_left 1
          · (simp only [List.getElem?_toArray, List.getElem?_cons_succ, List.getElem?_cons_zero]; rfl)
          go_simp
          refine Calls.mono (works _ (HE.out.on hc)) ?_
          rintro e Y2 ⟨rfl, hn⟩
          replace rb := rb.on hn
          replace hc := chain hc hn
          clear hn
          go_simp
          refine hK.out _ _ rb.cell (fun hHeld => ?_)
          clear hK K
          refine' wpAnyH_take (i := 13) (oi := _) (v := _) ?_ (by kernel_rfl) (by kernel_rfl) (by kernel_rfl) ?_ (Or.inl ⟨?_, ?_⟩) (by assumption) ?_
          rotate_left 2
          · (simp only [List.getElem?_toArray, List.getElem?_cons_succ, List.getElem?_cons_zero]; rfl)
          · first | exact fun _ _ _ h => h | exact fun _ _ _ h => nomatch h.1
          · rfl
          · (intro W hSW; (try dsimp only at hSW); go_split_ands; first | (go_simp; done) | (go_simp; with_reducible rfl))
          try simp only [Act.put, List.setIfInBounds_toArray, List.set_cons_zero, List.set_cons_succ]
          refine' wpAnyH_take (i := 14) (oi := _) (v := _) ?_ (by kernel_rfl) (by kernel_rfl) (by kernel_rfl) ?_ (Or.inl ⟨?_, ?_⟩) (by assumption) ?_
          rotate_left 2
          · (simp only [List.getElem?_toArray, List.getElem?_cons_succ, List.getElem?_cons_zero]; rfl)
          · first | exact fun _ _ _ h => h | exact fun _ _ _ h => nomatch h.1
          · rfl
          · (intro W hSW; (try dsimp only at hSW); go_split_ands; first | (go_simp; done) | (go_simp; with_reducible rfl))
          try simp only [Act.put, List.setIfInBounds_toArray, List.set_cons_zero, List.set_cons_succ]
          refine wpAnyH_done (by kernel_rfl) ?_ _
          go_wp2_with fail
          go_returns
          exact ⟨rfl, hc⟩
        · go_simp
          have rn := Row.new (W := X0) (cs := #[.int .i64 at', .int .i64 z.k, .int .i64 z.i, .int .u32 z.g, .int .i64 z.why, .int .i64 z.ans]) (t := 43)
          have hn := below_alloc X0 (.cells #[.int .i64 at', .int .i64 z.k, .int .i64 z.i, .int .u32 z.g, .int .i64 z.why, .int .i64 z.ans] 43)
          replace hsz := Nat.le_trans hsz hn.size
          replace rb := rb.on hn
          replace ho := ho.on hn
          replace hl := hl.on hn
          replace hc := chain hc hn
          clear hn
          generalize X0.alloc (.cells #[.int .i64 at', .int .i64 z.k, .int .i64 z.i, .int .u32 z.g, .int .i64 z.why, .int .i64 z.ans] 43) = V4 at *
          generalize X0.heap.size = bN at rn ⊢
          refine hK.out _ _ rb.cell (fun hHeld => ?_)
          clear hK K hHeld
          refine wpAnyH_ready (rs := [4]) (by kernel_rfl) (by simp) ?_
          refine' AllReadyH.cons (o := _) ?_ (fun K hK => ?_) AllReadyH.nil
          rotate_left 1
          · (simp only [List.getElem?_toArray, List.getElem?_cons_succ, List.getElem?_cons_zero]; rfl)
          go_simp
          refine Calls.mono (allW_c hl) ?_
          rintro e V5 ⟨u3, rfl, h3, hn⟩
          replace h3 := OwnsA.base h3 hsz
          replace hsz := Nat.le_trans hsz hn.size
          try replace rn := rn.on hn
          replace rb := rb.on hn
          replace ho := ho.on hn
          replace hl := hl.on hn
          replace hc := chain hc hn
          clear hn
          go_simp
          refine hK.out _ _ rb.cell (fun hHeld => ?_)
          clear hK K hHeld
          refine wpAnyH_ready (rs := [8]) (by kernel_rfl) (by simp) ?_
          refine' AllReadyH.cons (o := _) (by simp only [List.getElem?_toArray, List.getElem?_cons_succ, List.getElem?_cons_zero]; rfl) (fun K hK => ?_) AllReadyH.nil
          have hcs := hc.size
          have hsrc : ∀ (j : Nat) (v : Value), (atL (atT z at'))[j]? = some v → V5.cell? ((⟨bN, 0, none⟩ : Addr).add j) = some v := fun j v hv => by rw [show (⟨bN, 0, none⟩ : Addr).add j = ⟨bN, j, none⟩ by simp [Addr.add]; omega, rn.cell j, List.getElem?_toArray]; exact hv
          rw [if_pos (by first | kernel_rfl | rfl | go_simp)]
          refine wp_append_lies _ (.tmp 81) (.tmp 83) 26 rfl w.heap.size 43 i0 (.agg #[.int .i64 0, .int .i64 0, .int .i64 0, .int .u32 0, .int .i64 0, .int .i64 0]) 6 48 Tryz.underlying26 HI0.out HZ0.out HZ1.out HZ2.out rfl (by decide) (.slice (some ⟨g5, o5, none⟩) (A2.length + 1) c5) (A2.length + 1) (cellsA A) rfl (by have h9 := ho; unfold OwnsA at h9; rw [e1] at h9; exact h9) ⟨bN, 0, none⟩ 1 1 (atL (atT z at')) rfl rfl hsrc (by intro u hu; simp at hu; rcases hu with rfl | rfl | rfl | rfl | rfl | rfl <;> rfl) (by omega) (by unfold maxLen; omega) (by omega) hcs _ rfl ?_
          intro g1 cap X2 hown2 hgrow hat hlt2
          have hub : ∀ k, (Value.slice (some ⟨g5, o5, none⟩) (A2.length + 1) c5).ownBlock = some k → k < VA.heap.size := fun k hk => (OwnsA.lt HU0.out k (by rw [e1]; exact hk)).2
          have hub1 : ∀ k, (Value.slice (some ⟨g5, o5, none⟩) (A2.length + 1) c5).ownBlock = some k → w.heap.size ≤ k := fun k hk => (OwnsA.lt HU0.out k (by rw [e1]; exact hk)).1
          have hubX : ∀ k, (Value.slice (some ⟨g5, o5, none⟩) (A2.length + 1) c5).ownBlock = some k → k < X0.heap.size := fun k hk => HOX.out k (by rw [e1]; exact hk)
          replace h3 : OwnsA X0.heap.size X2 u3 _ := OwnsA.via h3 (fun k hk => hgrow.block k (OwnsA.lt h3 k hk).2 (fun e => by have := (OwnsA.lt h3 k hk).1; have := hubX k e.symm; omega))
          replace rb := row_grown rb hgrow (fun e => by have := hub _ e; omega)
          replace hc := hc.grown hgrow hcs hub1
          have hv2 : OwnsA w.heap.size X2 (.slice (some ⟨g1, 0, none⟩) ((A2.length + 1) + 1) cap) (A ++ [atT z at']) := by unfold OwnsA; rw [cellsA_snoc, List.length_append, List.length_singleton, e1]; exact hown2
          clear hown2 hgrow hat hub hub1 hubX rn hsrc ho hl
          refine hK.out _ _ rb.cell (fun hHeld => ?_)
          clear hK K hHeld
          refine wpAnyH_ready (rs := [9]) (by kernel_rfl) (by simp) ?_
          refine' AllReadyH.cons (o := _) ?_ (fun K hK => ?_) AllReadyH.nil
          rotate_left 1
          · (simp only [List.getElem?_toArray, List.getElem?_cons_succ, List.getElem?_cons_zero]; rfl)
          go_simp
          refine Calls.mono (equal_same _ _ (A ++ [atT z at']) _ (OwnsA.holds h3) (OwnsA.holds hv2) (by rw [List.length_append, List.length_singleton]; omega)) ?_
          rintro e Y1 ⟨rfl, hn⟩
          clear h3 hv2
          replace rb := rb.on hn
          replace hc := chain hc hn
          clear hn
          go_simp
          refine hK.out _ _ rb.cell (fun hHeld => ?_)
          clear hK K
          refine' wpAnyH_take (i := 10) (oi := _) (v := _) ?_ (by kernel_rfl) (by kernel_rfl) (by kernel_rfl) ?_ (Or.inl ⟨?_, ?_⟩) (by assumption) ?_
          rotate_left 2
          · (simp only [List.getElem?_toArray, List.getElem?_cons_succ, List.getElem?_cons_zero]; rfl)
          · first | exact fun _ _ _ h => h | exact fun _ _ _ h => nomatch h.1
          · rfl
          · (intro W hSW; (try dsimp only at hSW); go_split_ands; first | (go_simp; done) | (go_simp; with_reducible rfl))
          try simp only [Act.put, List.setIfInBounds_toArray, List.set_cons_zero, List.set_cons_succ]
          refine' wpAnyH_take (i := 11) (oi := _) (v := _) ?_ (by kernel_rfl) (by kernel_rfl) (by kernel_rfl) ?_ (Or.inl ⟨?_, ?_⟩) (by assumption) ?_
          rotate_left 2
          · (simp only [List.getElem?_toArray, List.getElem?_cons_succ, List.getElem?_cons_zero]; rfl)
          · first | exact fun _ _ _ h => h | exact fun _ _ _ h => nomatch h.1
          · rfl
          · (intro W hSW; (try dsimp only at hSW); go_split_ands; first | (go_simp; done) | (go_simp; with_reducible rfl))
          try simp only [Act.put, List.setIfInBounds_toArray, List.set_cons_zero, List.set_cons_succ]
          clear hHeld
          refine wpAnyH_ready (rs := [12]) (by kernel_rfl) (by simp) ?_
          refine' AllReadyH.cons (o := _) ?_ (fun K hK => ?_) AllReadyH.nil
          rotate_left 1
          · (simp only [List.getElem?_toArray, List.getElem?_cons_succ, List.getElem?_cons_zero]; rfl)
          go_simp
          refine Calls.mono (works _ (HE.out.on hc)) ?_
          rintro e Y2 ⟨rfl, hn⟩
          replace rb := rb.on hn
          replace hc := chain hc hn
          clear hn
          go_simp
          refine hK.out _ _ rb.cell (fun hHeld => ?_)
          clear hK K
          refine' wpAnyH_take (i := 13) (oi := _) (v := _) ?_ (by kernel_rfl) (by kernel_rfl) (by kernel_rfl) ?_ (Or.inl ⟨?_, ?_⟩) (by assumption) ?_
          rotate_left 2
          · (simp only [List.getElem?_toArray, List.getElem?_cons_succ, List.getElem?_cons_zero]; rfl)
          · first | exact fun _ _ _ h => h | exact fun _ _ _ h => nomatch h.1
          · rfl
          · (intro W hSW; (try dsimp only at hSW); go_split_ands; first | (go_simp; done) | (go_simp; with_reducible rfl))
          try simp only [Act.put, List.setIfInBounds_toArray, List.set_cons_zero, List.set_cons_succ]
          refine' wpAnyH_take (i := 14) (oi := _) (v := _) ?_ (by kernel_rfl) (by kernel_rfl) (by kernel_rfl) ?_ (Or.inl ⟨?_, ?_⟩) (by assumption) ?_
          rotate_left 2
          · (simp only [List.getElem?_toArray, List.getElem?_cons_succ, List.getElem?_cons_zero]; rfl)
          · first | exact fun _ _ _ h => h | exact fun _ _ _ h => nomatch h.1
          · rfl
          · (intro W hSW; (try dsimp only at hSW); go_split_ands; first | (go_simp; done) | (go_simp; with_reducible rfl))
          try simp only [Act.put, List.setIfInBounds_toArray, List.set_cons_zero, List.set_cons_succ]
          refine wpAnyH_done (by kernel_rfl) ?_ _
          go_wp2_with fail
          go_returns
          exact ⟨rfl, hc⟩
end Go.Proofs.YtinlfheonlpceaaGreatDoor
