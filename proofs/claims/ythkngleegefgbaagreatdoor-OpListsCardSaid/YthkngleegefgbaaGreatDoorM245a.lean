/- OpLists walked. -/
import Derived.Test.YthkngleegefgbaaGreatDoorM203a
import Derived.Test.YthkngleegefgbaaGreatDoorM244a
import Derived.Test.YthkngleegefgbaaGreatDoorHWorks39
namespace Go.Proofs.YthkngleegefgbaaGreatDoor
open Go.RowKit
set_option linter.unusedVariables false
set_option linter.unusedSimpArgs false
set_option maxHeartbeats 40000000
set_option maxRecDepth 20000
theorem mem_repO {α : Type} {l : List α} {n : Nat} {a : α} (h : a ∈ (List.replicate n l).flatten) : a ∈ l := by
  obtain ⟨m, hm, ha⟩ := List.mem_flatten.1 h
  rwa [List.eq_of_mem_replicate hm] at ha
theorem repeatV_c (v : Value) (l : List OpR) (n : Nat) (w : World) (hv : HoldsV w v l) (hN : l.length ≤ 10000) (hn : 1 ≤ n) (hn2 : n ≤ 10000) (hp : l.length * n ≤ 20000) :
    Calls Tryz.prog 20 #[v, .int .i64 n] w fun e w' => ∃ u, e = .returned u ∧ OwnsO w.heap.size w' u (List.replicate n l).flatten ∧ Below w.heap.size w w' := by
  obtain ⟨p, c, rfl, -, h⟩ := hv
  rcases h with rfl | ⟨b, off, rfl, hc⟩
  · have e : (List.replicate n ([] : List OpR)).flatten = [] := List.eq_nil_of_length_eq_zero (by rw [rep_len]; simp)
    rw [e]
    exact repeat0O_c p c n w hn hn2
  · exact repeatO_c _ l n w (.inr ⟨b, off, c, rfl, fun i x hx => by
      have q := hc i x hx
      exact ⟨q 0 (by decide), q 1 (by decide), q 2 (by decide), q 3 (by decide), q 4 (by decide), q 5 (by decide)⟩⟩) hN hn hn2 hp
theorem equalO_same2 (v u : Value) (l : List OpR) (w : World) (hv : HoldsO w v l) (hu : HoldsO w u l) (hl : l.length ≤ 100000) : Ret 19 #[v, u] w (.bool true) := by
  have h := equalO_c v u l l w hv hu hl hl
  rwa [decide_eq_true (rfl : l = l)] at h
def sumS : List OpR → Nat
  | [] => 0
  | p :: l => p.2.tag.size + sumS l
theorem sumS_app : ∀ (l m : List OpR), sumS (l ++ m) = sumS l + sumS m
  | [], m => by simp [sumS]
  | p :: l, m => by rw [List.cons_append, sumS, sumS, sumS_app l m]; omega
theorem sumS_mem : ∀ {l : List OpR} {p : OpR}, p ∈ l → p.2.tag.size ≤ sumS l
  | q :: l, p, h => by
    rw [sumS]
    rcases List.mem_cons.1 h with rfl | h
    · omega
    · have := sumS_mem h; omega
theorem sumS_le (M : Nat) : ∀ (l : List OpR), (∀ p ∈ l, p.2.tag.size ≤ M) → sumS l ≤ l.length * M
  | [], _ => by simp [sumS]
  | p :: l, h => by
    have h1 := sumS_le M l (fun q hq => h q (List.mem_cons_of_mem _ hq))
    have h2 := h p (List.mem_cons_self ..)
    rw [sumS, List.length_cons, Nat.add_mul]
    omega
theorem tags_reach {w : World} {v : Value} {L : List OpR} (h : HoldsV w v L) (hb : WtS w v) : ∀ p ∈ L, p.2.tag.size ≤ 140737488351232 := by
  obtain ⟨p, cap, rfl, _, h3⟩ := h
  intro q hq
  rcases h3 with rfl | ⟨b, off, rfl, hc⟩
  · simp at hq
  · obtain ⟨i, hi, rfl⟩ := List.getElem_of_mem hq
    have h5 := hc i L[i] (List.getElem?_eq_getElem hi) 5 (by decide)
    have e : (((⟨b, off, none⟩ : Addr).add (i * 6)).add 5) = ⟨b, off + i * 6 + 5, none⟩ := by rw [add_offO, add_offO]
    exact hb _ _ _ rfl i hi _ (by rw [e]; exact h5)
theorem lists_walk (v : Value) (n : Nat) (E : Nat → List Value) (t : Int) (w : World) (hE : EnvL w) (hsl : Sl w v leavesO n E) (hb : WtS w v) (t0 : 0 ≤ t) (t1 : t ≤ 255) :
    Ret 5 #[v, .int .u8 t] w (.bool true) := by
  obtain ⟨L, rfl, hl, hg⟩ := sl_op hsl
  obtain ⟨p, cap, hv, ⟨hcap, hmax⟩, hel⟩ := id hl
  have hg2 := tags_reach hl hb
  have HE := Lib.hid hE
  have HL := Lib.hid hl
  have HEL := Lib.hid hel
  have hc := Below.refl w.heap.size w
  obtain ⟨N, hN1, hN2, eN, hN3⟩ : ∃ N : Nat, N ≤ L.length ∧ N ≤ 101 ∧ min (L.length : Int) 101 = (N : Int) ∧ (L.length ≤ 100 → N = L.length) := ⟨min L.length 101, by omega, by omega, by omega, by omega⟩
  have eM : max (N : Int) 0 = (N : Int) := by omega
  have HN3 := Lib.hid hN3
  have HB := Lib.hid (fun i (hi : i ≤ 101) => show sumS (L.take i) ≤ 101 * 140737488351232 from Nat.le_trans (sumS_le _ _ (fun q hq => hg2 q (List.mem_of_mem_take hq))) (Nat.mul_le_mul (by rw [List.length_take]; omega) (Nat.le_refl _)))
  clear hE hsl hl hel hN3 hg hg2 hb
  subst hv
  go_enter Tryz.func5, Tryz.ntmps5
  go_wp2_with fail
  clear eN eM
  go_loopw [5, 19] (fun sv iv wr => ∃ (i : Nat), i ≤ N ∧ iv = .int .i64 i ∧ sv = .int .i64 (sumS (L.take i) : Nat) ∧ Below w.heap.size w wr) (fun _ iv _ => N - (intOf iv).toNat)
  case atStart => exact ⟨0, Nat.zero_le _, rfl, by simp [sumS], hc⟩
  case round =>
    clear hc
    obtain ⟨i, hiN, rfl, rfl, hc⟩ := hrel
    by_cases hlt : i < N
    · rcases HEL.out with h0 | ⟨b, off, rfl, hcell⟩
      · rw [h0] at hN1; simp at hN1; omega
      obtain ⟨x, hx⟩ : ∃ x, L[i]? = some x := ⟨L[i]'(by omega), List.getElem?_eq_getElem _⟩
      have q := hcell i x hx
      have hst : sumS (L.take (i + 1)) = sumS (L.take i) + x.2.tag.size := by rw [List.take_add_one, hx, sumS_app]; simp [sumS]
      have hbd := HB.out (i + 1) (by omega)
      have key : ∀ (j : Nat) (u : Value), w.cell? ⟨b, off + i * 6 + j, none⟩ = some u → wr.cell? ⟨b, off + i * 6 + j, none⟩ = some u := fun j u hu => (hc.cell (p := ⟨b, off + i * 6 + j, none⟩) (block_lt_of_cell (a := ⟨b, off + i * 6 + j, none⟩) hu)).trans hu
      have d0 := key 0 _ (q 0 (by decide))
      have d1 := key 1 _ (q 1 (by decide))
      have d2 := key 2 _ (q 2 (by decide))
      have d3 := key 3 _ (q 3 (by decide))
      have d4 := key 4 _ (q 4 (by decide))
      have d5 := key 5 _ (q 5 (by decide))
      rw [Nat.add_zero] at d0
      obtain ⟨kd, ⟨m, a, bb, c, tag⟩⟩ := x
      simp only at hst
      have x1 : IntKind.i64.wrap ((sumS (L.take i) : Int) + (tag.size : Int)) = ((sumS (L.take (i + 1)) : Nat) : Int) := by
        rw [hst]
        rw [hst] at hbd
        rw [IntKind.wrap_i64]
        omega
      clear q key hcell hx hst hbd
      generalize hS2 : sumS (L.take (i + 1)) = S2 at *
      have HS2 := Lib.hid hS2
      clear hS2
      go_upto_region 5 with fail
      clear d0 d1 d2 d3 d4 d5
      have r5 := Row.new (W := wr) (cs := #[.int .i64 kd, .int .i64 m, .int .i64 a, .int .i64 bb, .int .i64 c, .string tag]) (t := 23)
      have hn := below_alloc wr (.cells #[.int .i64 kd, .int .i64 m, .int .i64 a, .int .i64 bb, .int .i64 c, .string tag] 23)
      replace hc := chain hc hn
      clear hn
      generalize wr.alloc (.cells #[.int .i64 kd, .int .i64 m, .int .i64 a, .int .i64 bb, .int .i64 c, .string tag] 23) = W2 at *
      generalize wr.heap.size = b5 at *
      have y5 := r5.cell
      have z5 := r5.lt
      go_wp2_with fail
      refine ⟨⟨i + 1, by omega, by go_num, by rw [HS2.out], hc⟩, by simp only [intOf]; omega⟩
    · obtain rfl : i = N := by omega
      have hsum : L.length ≤ 100 → sumS (L.take i) = sumS L := fun h => by rw [HN3.out h, List.take_of_length_le (Nat.le_refl _)]
      have HSUM := Lib.hid hsum
      clear hsum HB
      generalize sumS (L.take i) = S at *
      by_cases hbig : (100 : Int) < L.length
      · go_wp2_with fail
        refine Calls.mono (works _ (HE.out.on hc)) ?_
        rintro e V1 ⟨rfl, hn⟩
        replace hc := chain hc hn
        go_wp2_with fail
        go_returns
        exact ⟨rfl, hc⟩
      · by_cases hbig2 : (3000 : Int) < (S : Int)
        · go_wp2_with fail
          refine Calls.mono (works _ (HE.out.on hc)) ?_
          rintro e V1 ⟨rfl, hn⟩
          replace hc := chain hc hn
          go_wp2_with fail
          go_returns
          exact ⟨rfl, hc⟩
        · have hS3 : sumS L ≤ 3000 := by rw [← HSUM.out (by omega)]; omega
          obtain ⟨m, hm⟩ : ∃ m : Nat, (m : Int) = 1 + t % 30 := ⟨(1 + t % 30).toNat, by omega⟩
          have hmod : t.tmod 30 = t % 30 := Int.tmod_eq_emod_of_nonneg t0
          have w1 : IntKind.i64.wrap t = t := IntWalk.i64_in _ ⟨by omega, by omega⟩
          have w2 : IntKind.i64.wrap (1 + t % 30) = (m : Int) := by rw [hm]; exact IntWalk.i64_in _ ⟨by omega, by omega⟩
          have hm1 : 1 ≤ m := by omega
          have hm2 : m ≤ 30 := by omega
          have hLm : L.length * m ≤ 3000 := Nat.le_trans (Nat.mul_le_mul (show L.length ≤ 100 by omega) hm2) (by omega)
          have CR := Lib.hid (fun W (h : HoldsV W (.slice p L.length cap) L) => repeatV_c _ L m W h (by omega) hm1 (by omega) (by omega))
          have hrl : (List.replicate m L).flatten.length = L.length * m := rep_len L m
          have HG := Lib.hid (fun a (ha : a ∈ (List.replicate m L).flatten) => show a.2.tag.size ≤ 1000000 from Nat.le_trans (sumS_mem (mem_repO ha)) (by omega))
          generalize (List.replicate m L).flatten = A at *
          have hAl : A.length ≤ 3000 := by omega
          clear hm hLm hrl hS3 HSUM
          go_wp2_with fail
          refine Calls.mono (CR.out _ (HL.out.on hc)) ?_
          rintro e V1 ⟨u, rfl, h1, hn⟩
          replace hc := chain hc hn
          replace h1 := OwnsO.holds h1
          clear hn CR HL
          go_wp2_with fail
          refine Calls.mono (cloneO_c _ A _ h1 (by omega)) ?_
          rintro e V2 ⟨u2, rfl, h2, hn⟩
          replace hc := chain hc hn
          replace h1 := HoldsO.on h1 hn
          replace h2 := OwnsO.holds h2
          clear hn
          have CL := Lib.hid (fun W (h : EnvL W) (hh : HoldsO W u2 A) => printAll_c u2 A W h hh (by omega) HG.out)
          have CP := Lib.hid (fun W (hh : HoldsO W u A) => rprintAll_c u A W hh (by omega) HG.out)
          have e2 : ((printAllR A).2 == (printAllR A).2) = true := by simp
          have e1 : ((⟨(printAllR A).1.toArray⟩ : ByteArray).toList == (⟨(printAllR A).1.toArray⟩ : ByteArray).toList) = true := by simp
          generalize (⟨(printAllR A).1.toArray⟩ : ByteArray) = T at *
          generalize (printAllR A).2 = NN at *
          go_wp2_with fail
          refine Calls.mono (CL.out _ (HE.out.on hc) h2) ?_
          rintro e V3 ⟨rfl, hn⟩
          replace hc := chain hc hn
          replace h1 := HoldsO.on h1 hn
          replace h2 := HoldsO.on h2 hn
          clear hn
          go_wp2_with fail
          refine Calls.mono (CP.out _ h1) ?_
          rintro e V4 ⟨rfl, hn⟩
          replace hc := chain hc hn
          replace h1 := HoldsO.on h1 hn
          replace h2 := HoldsO.on h2 hn
          clear hn
          go_wp2_with fail
          refine Calls.mono (equalO_same2 _ _ A _ h2 h1 (by omega)) ?_
          rintro e V5 ⟨rfl, hn⟩
          replace hc := chain hc hn
          clear hn h1 h2
          go_wp2_with fail
          refine Calls.mono (works _ (HE.out.on hc)) ?_
          rintro e V6 ⟨rfl, hn⟩
          replace hc := chain hc hn
          go_wp2_with fail
          go_returns
          exact ⟨rfl, hc⟩
end Go.Proofs.YthkngleegefgbaaGreatDoor
