/- StatsOthers (chapter 37): its walk. -/
import Derived.Test.YtkjpdciccablpaaGreatDoorL6a
import Derived.Test.YtkjpdciccablpaaGreatDoorHStats1
import Derived.Test.YtkjpdciccablpaaGreatDoorL2a
import Derived.Test.YtkjpdciccablpaaGreatDoorHStats3a
import Derived.Test.YtkjpdciccablpaaGreatDoorHStats3b
namespace Go.Proofs.YtkjpdciccablpaaGreatDoor
open Go.RowKit
set_option linter.unusedVariables false
set_option linter.unusedSimpArgs false
set_option maxHeartbeats 16000000
set_option maxRecDepth 20000
/-- The counts of the states are all. -/
theorem cnt_all : ∀ (l : List RS), (∀ r ∈ l, r.st = 1 ∨ r.st = 2 ∨ r.st = 3 ∨ r.st = 4) → cntS l 1 + cntS l 2 + cntS l 3 + cntS l 4 = l.length
  | [], _ => rfl
  | r :: l, h => by
    have h1 := h r (by simp)
    have ih := cnt_all l (fun x hx => h x (by simp [hx]))
    unfold cntS at *
    simp only [List.countP_cons, List.length_cons]
    rcases h1 with h1 | h1 | h1 | h1 <;> rw [h1] <;> simp <;> omega
theorem good_cnt {B : Nat} {T : TabR} (h : GoodT B T) : cntS T.rs 1 + cntS T.rs 2 + cntS T.rs 3 + cntS T.rs 4 = T.rs.length ∧ T.rs.length ≤ 60 := by
  refine ⟨cnt_all _ (fun r hr => ?_), h.most⟩
  have := h.states r hr
  omega
theorem ofV_bad {rs : List RS} {q : Int} (h : q < 0 ∨ 8000 < q) : ofV rs q = .tuple #[stV 0 0 0 0 0, .int .i64 2] := by unfold ofV; rw [if_pos h]
theorem ofV_ok {rs : List RS} {q : Int} (h : ¬ (q < 0 ∨ 8000 < q)) : ofV rs q = .tuple #[stV (rs.length + q) (cntS rs 1 : Nat) (cntS rs 2 : Nat) ((cntS rs 3 : Nat) + q) (cntS rs 4 : Nat), .int .i64 0] := by unfold ofV; rw [if_neg h]
theorem others_walk (v : Value) (n : Nat) (E : Nat → List Value) (q : Int) (w : World) (hE : Env w) (hsl : Sl w v leavesD n E) (q0 : 0 ≤ q) (q1 : q ≤ 65535) :
    Ret 5 #[v, .int .u16 q] w (.bool true) := by
  obtain ⟨L, p, cap, rfl, hcap, hmax, hel⟩ := sl_de hsl
  have HE := Lib.hid hE
  have HEL := Lib.hid hel
  obtain ⟨N, hN1, hN2, eN⟩ : ∃ N : Nat, N ≤ L.length ∧ N ≤ 60 ∧ min (L.length : Int) 60 = (N : Int) := ⟨min L.length 60, by omega, by omega, by omega⟩
  have eM : max (N : Int) 0 = (N : Int) := by omega
  have HG := Lib.hid (good_run L)
  clear hel hE hsl
  go_enter Tryz.func5, Tryz.ntmps5
  go_wp2_with fail
  refine Calls.mono (newPair_c _) ?_
  rintro e V1 ⟨pp, rfl, hP, hc⟩
  go_wp2_with fail
  clear eN eM
  go_loopw [6, 26] (fun ov iv wr => ∃ (i : Nat) (F : Nat → Prop), i ≤ N ∧ ov = .bool true ∧ iv = .int .i64 i ∧ Pair wr F pp (runT emptyT (L.take i)) ∧ (∀ b, F b → w.heap.size ≤ b) ∧ Below w.heap.size w wr) (fun _ iv _ => N - (intOf iv).toNat)
  case atStart => exact ⟨0, _, Nat.zero_le _, rfl, rfl, hP, fun b hb => hb.1, hc⟩
  case round =>
    clear hP hc
    obtain ⟨i, F, hiN, rfl, rfl, hP, hF, hc⟩ := hrel
    by_cases hlt : i < N
    · rcases HEL.out with h0 | ⟨b, off, rfl, hb, hcell⟩
      · omega
      obtain ⟨x, hx⟩ : ∃ x, L[i]? = some x := ⟨L[i]'(by omega), List.getElem?_eq_getElem _⟩
      obtain ⟨d0, d1⟩ := hcell i x hx
      replace d0 := (hc.cell (p := ⟨b, off + i * 2, none⟩) hb).trans d0
      replace d1 := (hc.cell (p := ⟨b, off + i * 2 + 1, none⟩) hb).trans d1
      have HX := Lib.hid hx
      clear hcell hx
      have i0 : (0 : Int) ≤ (i : Int) := by omega
      have i1 : (i : Int) < (N : Int) := by omega
      go_upto_region 5 with fail
      clear d0 d1
      have r8 := Row.new (W := wr) (cs := #[.int .u8 (x.k : Int), .int .u8 (x.w : Int)]) (t := DeedT)
      have hn := below_alloc wr (.cells #[.int .u8 (x.k : Int), .int .u8 (x.w : Int)] DeedT)
      replace hP := hP.on hn
      replace hc := chain hc hn
      clear hn
      generalize wr.alloc _ = V at *
      generalize wr.heap.size = a8 at *
      have y8 := r8.cell
      have z8 := r8.lt
      have CD := Lib.hid (pdo (B := i) hP (HG.out i) (by omega) x.hk x.hw)
      go_wp2_with fail
      refine Calls.mono CD.out ?_
      rintro e V2 ⟨rfl, hP2, hb2⟩
      rw [← runT_next emptyT HX.out] at hP2
      have hc2 : Below w.heap.size w V2 := hc.trans (hb2.below hc.size (fun k hk h => by have := hF k h; omega))
      have H2 := Lib.hid hP2
      have hVs := hc.size
      clear hP hc hP2 hb2 y8 z8 r8 CD
      go_wp2_with fail
      go_roundw
      case rel => exact ⟨i + 1, _, by omega, rfl, by go_num, H2.out, fun b hb => by
        rcases hb with hb | hb
        · exact hF b hb
        · exact Nat.le_trans hVs hb.1, hc2⟩
      case measure => simp [intOf]; omega
    · obtain rfl : i = N := by omega
      obtain ⟨hsum, hmost⟩ := good_cnt (HG.out i)
      obtain ⟨p1, p2, vd, vs, F1, F2, rp, hT1, hT2⟩ := hP.tabs
      have C0 := fun W (hb : Below wr.heap.size wr W) => of_c 0 (hT1.on hb)
      rw [ofV_ok (by omega)] at C0
      have C2 := fun W (hb : Below wr.heap.size wr W) => of_c (-1 - q) (hT1.on hb)
      rw [ofV_bad (by omega)] at C2
      have C1 := Lib.hid (fun W (hb : Below wr.heap.size wr W) => of_c q (hT1.on hb))
      have HC0 := Lib.hid C0
      have HC2 := Lib.hid C2
      clear hT1 hT2 hP hF C0 C2
      obtain ⟨T, hTe⟩ : ∃ T, (runT emptyT (L.take i)).rs = T := ⟨_, rfl⟩
      rw [hTe] at C1 HC0 hsum hmost
      obtain ⟨M, hM⟩ : ∃ n, T.length = n := ⟨_, rfl⟩
      obtain ⟨n1, h1⟩ : ∃ n, cntS T 1 = n := ⟨_, rfl⟩
      obtain ⟨n2, h2⟩ : ∃ n, cntS T 2 = n := ⟨_, rfl⟩
      obtain ⟨n3, h3⟩ : ∃ n, cntS T 3 = n := ⟨_, rfl⟩
      obtain ⟨n4, h4⟩ : ∃ n, cntS T 4 = n := ⟨_, rfl⟩
      rw [hM, h1, h2, h3, h4] at hsum
      rw [hM] at hmost
      rw [hM, h1, h2, h3, h4] at HC0
      have hw0 := Below.refl wr.heap.size wr
      have y1 := rp.cell
      have z1 := rp.lt
      go_wp2_with fail
      refine Calls.mono (HC0.out _ hw0) ?_
      rintro e V ⟨rfl, hn⟩
      replace rp := rp.on hn
      replace hw0 := chain hw0 hn
      replace hc := chain hc hn
      clear y1 z1 hn
      go_upto_region 12 with fail
      have hca1 := hc.size
      have hn := below_alloc V (.cells #[.int .i64 M, .int .i64 n1, .int .i64 n2, .int .i64 n3, .int .i64 n4] 31)
      have r10 := Row.new (W := V) (cs := #[.int .i64 M, .int .i64 n1, .int .i64 n2, .int .i64 n3, .int .i64 n4]) (t := 31)
      replace rp := rp.on hn
      replace hw0 := chain hw0 hn
      replace hc := chain hc hn
      clear hn
      generalize V.alloc _ = V3 at *
      have hca0 := hca1
      generalize V.heap.size = a10 at *
      have hwq : IntKind.i64.wrap (-1 - q) = -1 - q := IntWalk.i64_in _ ⟨by omega, by omega⟩
      have r10l := r10.lt
      by_cases h8 : 8000 < q
      · rw [ofV_bad (.inr h8)] at C1
        have y1 := rp.cell
        have z1 := rp.lt
        go_wp2_with fail
        refine Calls.mono (C1.out _ hw0) ?_
        rintro e V4 ⟨rfl, hn⟩
        replace rp := rp.on hn
        replace r10 := r10.on hn
        replace hw0 := chain hw0 hn
        replace hc := chain hc hn
        clear y1 z1 hn
        go_upto_region 13 with fail
        have r10m := r10.lt
        have hn := below_alloc V4 (.cells #[.int .i64 0, .int .i64 0, .int .i64 0, .int .i64 0, .int .i64 0] 31)
        have r12 := Row.new (W := V4) (cs := #[.int .i64 0, .int .i64 0, .int .i64 0, .int .i64 0, .int .i64 0]) (t := 31)
        replace rp := rp.on hn
        replace r10 := r10.on hn
        replace hw0 := chain hw0 hn
        replace hc := chain hc hn
        clear hn
        generalize V4.alloc _ = V5 at *
        have h1012 := r10m
        generalize V4.heap.size = a12 at *
        have y1 := rp.cell
        have z1 := rp.lt
        go_wp2_with fail
        refine Calls.mono (HC2.out _ hw0) ?_
        rintro e V6 ⟨rfl, hn⟩
        replace rp := rp.on hn
        replace r10 := r10.on hn
        replace r12 := r12.on hn
        replace hw0 := chain hw0 hn
        replace hc := chain hc hn
        clear y1 z1 hn
        go_upto_region 14 with fail
        have hn := below_alloc V6 (.cells #[.int .i64 0, .int .i64 0, .int .i64 0, .int .i64 0, .int .i64 0] 31)
        have r14 := Row.new (W := V6) (cs := #[.int .i64 0, .int .i64 0, .int .i64 0, .int .i64 0, .int .i64 0]) (t := 31)
        replace rp := rp.on hn
        replace r10 := r10.on hn
        replace r12 := r12.on hn
        replace hw0 := chain hw0 hn
        replace hc := chain hc hn
        clear hn
        generalize V6.alloc _ = V7 at *
        generalize V6.heap.size = a14 at *
        have y12 := r12.cell
        have z12 := r12.lt
        have h9 : q > 8000 := by omega
        have HW := Lib.hid (works V7 (HE.out.on hc))
        go_wp2_with fail
        clear y12 z12
        refine Calls.mono HW.out ?_
        rintro e V8 ⟨rfl, hn⟩
        have hc3 := chain hc hn
        clear hn
        go_wp2_with fail
        go_returns
        exact ⟨rfl, hc3⟩
      · rw [ofV_ok (by omega), hM, h1, h2, h3, h4] at C1
        have y1 := rp.cell
        have z1 := rp.lt
        go_wp2_with fail
        refine Calls.mono (C1.out _ hw0) ?_
        rintro e V4 ⟨rfl, hn⟩
        replace rp := rp.on hn
        replace r10 := r10.on hn
        replace hw0 := chain hw0 hn
        replace hc := chain hc hn
        clear y1 z1 hn
        go_upto_region 13 with fail
        have r10m := r10.lt
        have hn := below_alloc V4 (.cells #[.int .i64 (M + q), .int .i64 n1, .int .i64 n2, .int .i64 (n3 + q), .int .i64 n4] 31)
        have r12 := Row.new (W := V4) (cs := #[.int .i64 (M + q), .int .i64 n1, .int .i64 n2, .int .i64 (n3 + q), .int .i64 n4]) (t := 31)
        replace rp := rp.on hn
        replace r10 := r10.on hn
        replace hw0 := chain hw0 hn
        replace hc := chain hc hn
        clear hn
        generalize V4.alloc _ = V5 at *
        have h1012 := r10m
        generalize V4.heap.size = a12 at *
        have y1 := rp.cell
        have z1 := rp.lt
        go_wp2_with fail
        refine Calls.mono (HC2.out _ hw0) ?_
        rintro e V6 ⟨rfl, hn⟩
        replace rp := rp.on hn
        replace r10 := r10.on hn
        replace r12 := r12.on hn
        replace hw0 := chain hw0 hn
        replace hc := chain hc hn
        clear y1 z1 hn
        go_upto_region 14 with fail
        have hn := below_alloc V6 (.cells #[.int .i64 0, .int .i64 0, .int .i64 0, .int .i64 0, .int .i64 0] 31)
        have r14 := Row.new (W := V6) (cs := #[.int .i64 0, .int .i64 0, .int .i64 0, .int .i64 0, .int .i64 0]) (t := 31)
        replace rp := rp.on hn
        replace r10 := r10.on hn
        replace r12 := r12.on hn
        replace hw0 := chain hw0 hn
        replace hc := chain hc hn
        clear hn
        generalize V6.alloc _ = V7 at *
        generalize V6.heap.size = a14 at *
        have y10 := r10.cell
        have z10 := r10.lt
        have u10 := r10.free
        have h9 : ¬ (q > 8000) := by omega
        have e1 : IntKind.i64.wrap ((M : Int) + q) = (M : Int) + q := IntWalk.i64_in _ ⟨by omega, by omega⟩
        have e2 : IntKind.i64.wrap ((n3 : Int) + q) = (n3 : Int) + q := IntWalk.i64_in _ ⟨by omega, by omega⟩
        have h12 : a10 < a12 := h1012
        go_upto_region 20 with fail
        clear y10 z10 u10
        have hca : w.heap.size ≤ a10 := hca0
        replace hc := (hc.setCell (p := ⟨a10, 0, none⟩) hca (.int .i64 (M + q))).setCell (p := ⟨a10, 3, none⟩) hca (.int .i64 (n3 + q))
        replace r12 := (r12.other (show a10 ≠ a12 by omega) 0 (.int .i64 (M + q))).other (show a10 ≠ a12 by omega) 3 (.int .i64 (n3 + q))
        replace r10 := (r10.set 0 (.int .i64 (M + q))).set 3 (.int .i64 (n3 + q))
        simp only [List.setIfInBounds_toArray, List.set_cons_zero, List.set_cons_succ] at r10
        generalize (World.setCell (World.setCell _ _ _) _ _) = V8' at *
        have y10 := r10.cell
        have z10 := r10.lt
        have y12 := r12.cell
        have z12 := r12.lt
        have hok : sErr ((M : Int) + q) n1 n2 ((n3 : Int) + q) n4 = 0 := by
          unfold sErr sOk
          rw [if_pos (by simp; omega)]
        have HCK := Lib.hid (check_st ((M : Int) + q) n1 n2 ((n3 : Int) + q) n4 V8')
        rw [hok] at HCK
        go_wp2_with fail
        refine Calls.mono HCK.out ?_
        rintro e V9 ⟨rfl, hn⟩
        replace hc := chain hc hn
        clear y10 z10 y12 z12 hn HCK
        have HW := Lib.hid (works V9 (HE.out.on hc))
        go_wp2_with fail
        refine Calls.mono HW.out ?_
        rintro e V8 ⟨rfl, hn⟩
        have hc3 := chain hc hn
        clear hn
        go_wp2_with fail
        go_returns
        exact ⟨rfl, hc3⟩
end Go.Proofs.YtkjpdciccablpaaGreatDoor

/- StatsFollow (chapter 37): its walk. -/
namespace Go.Proofs.YtkjpdciccablpaaGreatDoor
open Go.RowKit
set_option linter.unusedVariables false
set_option linter.unusedSimpArgs false
set_option maxHeartbeats 16000000
set_option maxRecDepth 20000
theorem cnt_set {l : List RS} {k : Nat} {r : RS} (hk : l[k]? = some r) (r' : RS) (s : Int) : cntS (l.set k r') s + (if r.st = s then 1 else 0) = cntS l s + (if r'.st = s then 1 else 0) := by
  obtain ⟨h1, h2⟩ := List.getElem?_eq_some_iff.1 hk
  have := count_set (fun r : RS => decide (r.st = s)) l k h1 r'
  rw [h2] at this
  simp only [decide_eq_true_eq] at this
  exact this
theorem cnt_snoc (l : List RS) (r : RS) (s : Int) : cntS (l ++ [r]) s = cntS l s + (if r.st = s then 1 else 0) := by
  unfold cntS
  rw [List.countP_append, List.countP_singleton]
  simp
def stT (T : TabR) : Value := stV T.rs.length (cntS T.rs 1 : Nat) (cntS T.rs 2 : Nat) (cntS T.rs 3 : Nat) (cntS T.rs 4 : Nat)
theorem stT_of {T : TabR} {n1 n2 n3 n4 M : Int} (hM : (T.rs.length : Int) = M) (h1 : ((cntS T.rs 1 : Nat) : Int) = n1) (h2 : ((cntS T.rs 2 : Nat) : Int) = n2) (h3 : ((cntS T.rs 3 : Nat) : Int) = n3) (h4 : ((cntS T.rs 4 : Nat) : Int) = n4) : stT T = stV M n1 n2 n3 n4 := by
  unfold stT
  rw [hM, h1, h2, h3, h4]
theorem triedS_st (r : RS) {q : Int} (hq : 2 ≤ q ∧ q ≤ 4) : (triedS r q).st = q := by
  unfold triedS
  split
  · rename_i h0; exact h0.symm
  · split
    · rename_i h0; exact h0.symm
    · show (2 : Int) = q; omega
/-- What a deed does to the counts. -/
theorem step_add {B : Nat} {T : TabR} (h : GoodT B T) (kind which : Nat) :
    ((doT T kind which).2.2 = 0 ∧ (doT T kind which).1 = T) ∨ ((doT T kind which).2.2 ≠ 0 ∧ (∀ W, Ret 11 #[stT T, .int .i64 (doT T kind which).2.1, .int .i64 (doT T kind which).2.2] W (.tuple #[stT (doT T kind which).1, .int .i64 0])) ∧ T.rs.length ≤ (doT T kind which).1.rs.length ∧ cntS T.rs 3 ≤ cntS (doT T kind which).1.rs 3) := by
  obtain ⟨hsum, hmost⟩ := good_cnt h
  have hT : stT T = stV (((cntS T.rs 1 : Nat) : Int) + (cntS T.rs 2 : Nat) + (cntS T.rs 3 : Nat) + (cntS T.rs 4 : Nat)) (cntS T.rs 1 : Nat) (cntS T.rs 2 : Nat) (cntS T.rs 3 : Nat) (cntS T.rs 4 : Nat) := stT_of (by omega) rfl rfl rfl rfl
  by_cases hop : T.rs.length = 0 ∨ (kind % 3 = 0 ∧ T.rs.length < 60)
  · rw [doT_open hop]
    have s1 := cnt_snoc T.rs ⟨1, 0, 0⟩ 1
    have s2 := cnt_snoc T.rs ⟨1, 0, 0⟩ 2
    have s3 := cnt_snoc T.rs ⟨1, 0, 0⟩ 3
    have s4 := cnt_snoc T.rs ⟨1, 0, 0⟩ 4
    simp at s1 s2 s3 s4
    have hlen : (openT T).rs.length = T.rs.length + 1 := by unfold openT; simp
    have hrs : (openT T).rs = T.rs ++ [⟨1, 0, 0⟩] := rfl
    refine .inr ⟨by show (1 : Int) ≠ 0; decide, fun W => ?_, by rw [hlen]; omega, by rw [hrs]; omega⟩
    have e2 : stT (openT T) = stV (((cntS T.rs 1 : Nat) : Int) + (cntS T.rs 2 : Nat) + (cntS T.rs 3 : Nat) + (cntS T.rs 4 : Nat) + 1) ((cntS T.rs 1 : Nat) + 1) (cntS T.rs 2 : Nat) (cntS T.rs 3 : Nat) (cntS T.rs 4 : Nat) := stT_of (by rw [hlen]; omega) (by rw [hrs]; omega) (by rw [hrs]; omega) (by rw [hrs]; omega) (by rw [hrs]; omega)
    rw [hT, e2]
    exact add_01 _ _ _ _ W (by omega) (by omega) (by omega) (by omega) (by omega) (by omega) (by omega) (by omega) (by omega)
  · have hk : which % max T.rs.length 1 < T.rs.length := by
      have : max T.rs.length 1 = T.rs.length := Nat.max_eq_left (by omega)
      rw [this]
      exact Nat.mod_lt _ (by omega)
    obtain ⟨r, hr⟩ : ∃ r, T.rs[which % max T.rs.length 1]? = some r := ⟨_, List.getElem?_eq_getElem hk⟩
    rw [doT_rest hop hr]
    by_cases h34 : r.st = 3 ∨ r.st = 4
    · rw [if_pos h34]
      exact .inl ⟨rfl, rfl⟩
    · rw [if_neg h34]
      have hS := h.states _ (List.mem_of_getElem? hr)
      generalize which % max T.rs.length 1 = k at *
      by_cases h1 : r.st = 1
      · rw [if_pos h1]
        have hrs : (closeT T k).rs = T.rs.set k ⟨2, 0, 1⟩ := rfl
        have s1 := cnt_set hr ⟨2, 0, 1⟩ 1
        have s2 := cnt_set hr ⟨2, 0, 1⟩ 2
        have s3 := cnt_set hr ⟨2, 0, 1⟩ 3
        have s4 := cnt_set hr ⟨2, 0, 1⟩ 4
        rw [h1] at s1 s2 s3 s4
        simp at s1 s2 s3 s4
        refine .inr ⟨by show (2 : Int) ≠ 0; decide, fun W => ?_, by rw [hrs, List.length_set]; omega, by rw [hrs]; omega⟩
        have e2 : stT (closeT T k) = stV (((cntS T.rs 1 : Nat) : Int) + (cntS T.rs 2 : Nat) + (cntS T.rs 3 : Nat) + (cntS T.rs 4 : Nat)) ((cntS T.rs 1 : Nat) - 1) ((cntS T.rs 2 : Nat) + 1) (cntS T.rs 3 : Nat) (cntS T.rs 4 : Nat) := stT_of (by rw [hrs, List.length_set]; omega) (by rw [hrs]; omega) (by rw [hrs]; omega) (by rw [hrs]; omega) (by rw [hrs]; omega)
        show Ret 11 #[stT T, .int .i64 1, .int .i64 2] W (.tuple #[stT (closeT T k), .int .i64 0])
        rw [hT, e2]
        exact add_12 _ _ _ _ W (by omega) (by omega) (by omega) (by omega) (by omega) (by omega) (by omega) (by omega) (by omega) (by omega)
      · rw [if_neg h1]
        have h2 : r.st = 2 := by omega
        obtain ⟨j, hj⟩ : ∃ j, kind / 3 % 3 = j := ⟨_, rfl⟩
        rw [hj]
        have hj3 : j < 3 := by omega
        have hts := triedS_st r (q := 2 + (j : Int)) (by omega)
        have hrs : (triedT T k (2 + (j : Int))).rs = T.rs.set k (triedS r (2 + (j : Int))) := by unfold triedT; rw [hr]; rfl
        have s1 := cnt_set hr (triedS r (2 + (j : Int))) 1
        have s2 := cnt_set hr (triedS r (2 + (j : Int))) 2
        have s3 := cnt_set hr (triedS r (2 + (j : Int))) 3
        have s4 := cnt_set hr (triedS r (2 + (j : Int))) 4
        rw [h2, hts] at s1 s2 s3 s4
        have hlen : (triedT T k (2 + (j : Int))).rs.length = T.rs.length := by rw [hrs, List.length_set]
        have hc2 : 1 ≤ cntS T.rs 2 := List.countP_pos_iff.2 ⟨r, List.mem_of_getElem? hr, by simp [h2]⟩
        obtain ⟨m1, hm1⟩ : ∃ m, cntS (T.rs.set k (triedS r (2 + (j : Int)))) 1 = m := ⟨_, rfl⟩
        obtain ⟨m2, hm2⟩ : ∃ m, cntS (T.rs.set k (triedS r (2 + (j : Int)))) 2 = m := ⟨_, rfl⟩
        obtain ⟨m3, hm3⟩ : ∃ m, cntS (T.rs.set k (triedS r (2 + (j : Int)))) 3 = m := ⟨_, rfl⟩
        obtain ⟨m4, hm4⟩ : ∃ m, cntS (T.rs.set k (triedS r (2 + (j : Int)))) 4 = m := ⟨_, rfl⟩
        rw [hm1] at s1
        rw [hm2] at s2
        rw [hm3] at s3
        rw [hm4] at s4
        obtain rfl | rfl | rfl : j = 0 ∨ j = 1 ∨ j = 2 := by omega
        · simp at s1 s2 s3 s4
          refine .inr ⟨by show (2 : Int) + 0 ≠ 0; decide, fun W => ?_, by rw [hlen]; omega, by rw [hrs, hm3]; omega⟩
          have e2 : stT (triedT T k (2 + ((0 : Nat) : Int))) = stV (((cntS T.rs 1 : Nat) : Int) + (cntS T.rs 2 : Nat) + (cntS T.rs 3 : Nat) + (cntS T.rs 4 : Nat)) (cntS T.rs 1 : Nat) (cntS T.rs 2 : Nat) (cntS T.rs 3 : Nat) (cntS T.rs 4 : Nat) := stT_of (by rw [hlen]; omega) (by rw [hrs, hm1]; omega) (by rw [hrs, hm2]; omega) (by rw [hrs, hm3]; omega) (by rw [hrs, hm4]; omega)
          show Ret 11 #[stT T, .int .i64 2, .int .i64 2] W (.tuple #[stT (triedT T k (2 + ((0 : Nat) : Int))), .int .i64 0])
          rw [hT, e2]
          exact add_22 _ _ _ _ W (by omega) (by omega) (by omega) (by omega) (by omega) (by omega) (by omega) (by omega) (by omega) (by omega)
        · simp at s1 s2 s3 s4
          refine .inr ⟨by show (2 : Int) + 1 ≠ 0; decide, fun W => ?_, by rw [hlen]; omega, by rw [hrs, hm3]; omega⟩
          have e2 : stT (triedT T k (2 + ((1 : Nat) : Int))) = stV (((cntS T.rs 1 : Nat) : Int) + (cntS T.rs 2 : Nat) + (cntS T.rs 3 : Nat) + (cntS T.rs 4 : Nat)) (cntS T.rs 1 : Nat) ((cntS T.rs 2 : Nat) - 1) ((cntS T.rs 3 : Nat) + 1) (cntS T.rs 4 : Nat) := stT_of (by rw [hlen]; omega) (by rw [hrs, hm1]; omega) (by rw [hrs, hm2]; omega) (by rw [hrs, hm3]; omega) (by rw [hrs, hm4]; omega)
          show Ret 11 #[stT T, .int .i64 2, .int .i64 3] W (.tuple #[stT (triedT T k (2 + ((1 : Nat) : Int))), .int .i64 0])
          rw [hT, e2]
          exact add_23 _ _ _ _ W (by omega) (by omega) (by omega) (by omega) (by omega) (by omega) (by omega) (by omega) (by omega) (by omega)
        · simp at s1 s2 s3 s4
          refine .inr ⟨by show (2 : Int) + 2 ≠ 0; decide, fun W => ?_, by rw [hlen]; omega, by rw [hrs, hm3]; omega⟩
          have e2 : stT (triedT T k (2 + ((2 : Nat) : Int))) = stV (((cntS T.rs 1 : Nat) : Int) + (cntS T.rs 2 : Nat) + (cntS T.rs 3 : Nat) + (cntS T.rs 4 : Nat)) (cntS T.rs 1 : Nat) ((cntS T.rs 2 : Nat) - 1) (cntS T.rs 3 : Nat) ((cntS T.rs 4 : Nat) + 1) := stT_of (by rw [hlen]; omega) (by rw [hrs, hm1]; omega) (by rw [hrs, hm2]; omega) (by rw [hrs, hm3]; omega) (by rw [hrs, hm4]; omega)
          show Ret 11 #[stT T, .int .i64 2, .int .i64 4] W (.tuple #[stT (triedT T k (2 + ((2 : Nat) : Int))), .int .i64 0])
          rw [hT, e2]
          exact add_24 _ _ _ _ W (by omega) (by omega) (by omega) (by omega) (by omega) (by omega) (by omega) (by omega) (by omega) (by omega)
theorem stT_ok {B : Nat} {T : TabR} (h : GoodT B T) : sOk T.rs.length (cntS T.rs 1 : Nat) (cntS T.rs 2 : Nat) (cntS T.rs 3 : Nat) (cntS T.rs 4 : Nat) = true := by
  obtain ⟨hsum, hmost⟩ := good_cnt h
  unfold sOk
  simp
  omega
theorem ofV_stT (T : TabR) : ofV T.rs 0 = .tuple #[stT T, .int .i64 0] := by
  rw [ofV_ok (by omega)]
  unfold stT
  simp
def nA (l : List RS) : Array Value := #[.int .i64 0, .int .i64 (cntS l 1 : Nat), .int .i64 (cntS l 2 : Nat), .int .i64 (cntS l 3 : Nat), .int .i64 (cntS l 4 : Nat)]
theorem nA_get {l : List RS} {s : Nat} (hs : 1 ≤ s ∧ s ≤ 4) : (nA l)[s]? = some (.int .i64 (cntS l (s : Int) : Nat)) := by
  obtain rfl | rfl | rfl | rfl : s = 1 ∨ s = 2 ∨ s = 3 ∨ s = 4 := by omega
  all_goals rfl
theorem nA_next {l : List RS} {j s : Nat} {r : RS} (hr : l[j]? = some r) (hs : 1 ≤ s ∧ s ≤ 4) (hst : r.st = s) : (nA (l.take j)).setIfInBounds s (.int .i64 ((cntS (l.take j) (s : Int) : Nat) + 1)) = nA (l.take (j + 1)) := by
  have s1 := cntS_take hr 1
  have s2 := cntS_take hr 2
  have s3 := cntS_take hr 3
  have s4 := cntS_take hr 4
  rw [hst] at s1 s2 s3 s4
  unfold nA
  obtain rfl | rfl | rfl | rfl : s = 1 ∨ s = 2 ∨ s = 3 ∨ s = 4 := by omega
  all_goals
    simp at s1 s2 s3 s4
    simp [s1, s2, s3, s4]
theorem Pair.own {W : World} {F : Nat → Prop} {pp : Nat} {T : TabR} (h : Pair W F pp T) : ∃ p1 p2 vd a c, Row W pp #[ptr p1, ptr p2, vd, .slice a T.rs.length c] PairT ∧ OwnsC IntT 1 0 W (.slice a T.rs.length c) (stL T.rs) ∧ (∀ b, (Value.slice a T.rs.length c).ownBlock = some b → F b) ∧ F pp := by
  obtain ⟨F1, F2, p1, p2, vd, vs, h⟩ := h
  obtain ⟨a, c, rfl⟩ := h.stlen
  exact ⟨p1, p2, vd, a, c, h.row, h.st, h.is, h.ip⟩
theorem follow_walk (v : Value) (n : Nat) (E : Nat → List Value) (w : World) (hE : Env w) (hsl : Sl w v leavesD n E) : Ret 4 #[v] w (.bool true) := by
  obtain ⟨L, p, cap, rfl, hcap, hmax, hel⟩ := sl_de hsl
  have HE := Lib.hid hE
  have HEL := Lib.hid hel
  obtain ⟨N, hN1, hN2, eN⟩ : ∃ N : Nat, N ≤ L.length ∧ N ≤ 80 ∧ min (L.length : Int) 80 = (N : Int) := ⟨min L.length 80, by omega, by omega, by omega⟩
  have eM : max (N : Int) 0 = (N : Int) := by omega
  have HG := Lib.hid (good_run L)
  clear hel hE hsl
  go_enter Tryz.func4, Tryz.ntmps4
  go_wp2_with fail
  refine Calls.mono (newPair_c _) ?_
  rintro e V1 ⟨pp, rfl, hP, hc⟩
  go_upto_region 3 with fail
  have hn := below_alloc V1 (.cells #[.int .i64 0, .int .i64 0, .int .i64 0, .int .i64 0, .int .i64 0] 31)
  have r5 := Row.new (W := V1) (cs := #[.int .i64 0, .int .i64 0, .int .i64 0, .int .i64 0, .int .i64 0]) (t := 31)
  have ha5w0 := hc.size
  have hFa : ¬ FreshL w V1 V1.heap.size := fun h => by have := h.2; omega
  replace hP := hP.on hn
  replace hc := chain hc hn
  clear hn
  generalize V1.alloc _ = V2 at *
  generalize hFr : FreshL w V1 = F0 at *
  have hF0 : ∀ b, F0 b → w.heap.size ≤ b := fun b hb => by rw [← hFr] at hb; exact hb.1
  clear hFr
  generalize V1.heap.size = a5 at *
  have ha5w : w.heap.size ≤ a5 := ha5w0
  go_wp2_with fail
  clear eN eM
  go_loopw [31] (fun iv wr => ∃ (i : Nat) (F : Nat → Prop), i ≤ N ∧ iv = .int .i64 i ∧ Pair wr F pp (runT emptyT (L.take i)) ∧ (∀ b, F b → w.heap.size ≤ b) ∧ ¬ F a5 ∧ Row wr a5 (stT (runT emptyT (L.take i))).cells 31 ∧ Below w.heap.size w wr) (fun iv _ => N - (intOf iv).toNat)
  case atStart => exact ⟨0, _, Nat.zero_le _, rfl, hP, hF0, hFa, r5, hc⟩
  case round =>
    clear hP hc r5 hFa hF0
    obtain ⟨i, F, hiN, rfl, hP, hF, hFa, r5, hc⟩ := hrel
    by_cases hlt : i < N
    · rcases HEL.out with h0 | ⟨b, off, rfl, hb, hcell⟩
      · omega
      obtain ⟨x, hx⟩ : ∃ x, L[i]? = some x := ⟨L[i]'(by omega), List.getElem?_eq_getElem _⟩
      obtain ⟨d0, d1⟩ := hcell i x hx
      replace d0 := (hc.cell (p := ⟨b, off + i * 2, none⟩) hb).trans d0
      replace d1 := (hc.cell (p := ⟨b, off + i * 2 + 1, none⟩) hb).trans d1
      have HX := Lib.hid hx
      clear hcell hx
      have i0 : (0 : Int) ≤ (i : Int) := by omega
      have i1 : (i : Int) < (N : Int) := by omega
      go_upto_region 6 with fail
      clear d0 d1
      have r8 := Row.new (W := wr) (cs := #[.int .u8 (x.k : Int), .int .u8 (x.w : Int)]) (t := DeedT)
      have hn := below_alloc wr (.cells #[.int .u8 (x.k : Int), .int .u8 (x.w : Int)] DeedT)
      replace hP := hP.on hn
      replace r5 := r5.on hn
      replace hc := chain hc hn
      have ha5 := r5.lt
      clear hn
      generalize wr.alloc _ = V at *
      generalize wr.heap.size = a8 at *
      have y8 := r8.cell
      have z8 := r8.lt
      have CD := Lib.hid (pdo (B := i) hP (HG.out i) (by omega) x.hk x.hw)
      have HST := Lib.hid (step_add (HG.out i) x.k x.w)
      have hn1 := HG.out (i + 1)
      have hnx := runT_next emptyT HX.out
      rw [hnx] at hn1
      have HG1 := Lib.hid hn1
      have HNX := Lib.hid hnx
      clear hn1 hnx
      obtain ⟨T, hT⟩ : ∃ T, runT emptyT (L.take i) = T := ⟨_, rfl⟩
      rw [hT] at CD HST HG1 HNX r5
      obtain ⟨D, hD⟩ : ∃ D, doT T x.k x.w = D := ⟨_, rfl⟩
      rw [hD] at CD HST HG1 HNX
      go_wp2_with fail
      refine Calls.mono CD.out ?_
      rintro e V2 ⟨rfl, hP2, hb2⟩
      have hc2 : Below w.heap.size w V2 := hc.trans (hb2.below hc.size (fun k hk h => by have := hF k h; omega))
      replace r5 := hb2.row r5 hFa
      have hVs := hc.size
      have hFa2 : ¬ (F a5 ∨ FreshL V V2 a5) := fun h => by
        rcases h with h | h
        · exact hFa h
        · have := h.1; omega
      have hF2 : ∀ b, (F b ∨ FreshL V V2 b) → w.heap.size ≤ b := fun b hb => by
        rcases hb with hb | hb
        · exact hF b hb
        · exact Nat.le_trans hVs hb.1
      obtain ⟨G, hP2, hF2, hFa2⟩ : ∃ G, Pair V2 G pp D.1 ∧ (∀ b, G b → w.heap.size ≤ b) ∧ ¬ G a5 := ⟨_, hP2, hF2, hFa2⟩
      clear hP hc hb2 y8 z8 r8 CD hT hF hFa hVs
      obtain ⟨T2, fr, tq⟩ := D
      simp only at *
      obtain ⟨M, n1, n2, n3, n4, hV1, hM3⟩ : ∃ M n1 n2 n3 n4 : Int, stT T = stV M n1 n2 n3 n4 ∧ (M = (T.rs.length : Int) ∧ n3 = (cntS T.rs 3 : Nat)) := ⟨_, _, _, _, _, rfl, rfl, rfl⟩
      have HV1 := Lib.hid hV1
      have HM3 := Lib.hid hM3
      clear hM3
      rw [hV1] at r5
      clear hV1
      change Row V2 a5 #[.int .i64 M, .int .i64 n1, .int .i64 n2, .int .i64 n3, .int .i64 n4] _ at r5
      have y5 := r5.cell
      have z5 := r5.lt
      go_upto_region 12 with fail
      clear y5
      have hn := below_alloc V2 (.cells #[.int .i64 M, .int .i64 n1, .int .i64 n2, .int .i64 n3, .int .i64 n4] 31)
      have r11 := Row.new (W := V2) (cs := #[.int .i64 M, .int .i64 n1, .int .i64 n2, .int .i64 n3, .int .i64 n4]) (t := 31)
      replace r5 := r5.on hn
      replace hP2 := hP2.on hn
      replace hc2 := chain hc2 hn
      clear hn
      generalize V2.alloc _ = V3 at *
      generalize V2.heap.size = a11 at *
      have ha511 : a5 ≠ a11 := by omega
      rcases HST.out with ⟨h0, h1⟩ | ⟨h0, hadd, hl1, hl3⟩
      · subst h0
        subst h1
        have HV2 := HV1
        have HOK : RowKit.Hid (sOk M n1 n2 n3 n4 = true) := Lib.hid (by
          have h1 := stT_ok HG1.out
          have h2 := HV1.out
          unfold stT stV at h2
          injection h2 with h2
          injection h2 with h2
          simp only [List.cons.injEq, Value.int.injEq, true_and, and_true] at h2
          obtain ⟨e1, e2, e3, e4, e5⟩ := h2
          rw [← e1, ← e2, ← e3, ← e4, ← e5]
          exact h1)
        have d1 : ¬ (M < M) := by omega
        have d2 : ¬ (n3 < n3) := by omega
        go_upto_region 17 with fail
        have HCK := Lib.hid (check_ok M n1 n2 n3 n4 V3 HOK.out)
        have y5 := r5.cell
        have z5 := r5.lt
        have y11 := r11.cell
        have z11 := r11.lt
        go_wp2_with fail
        refine Calls.mono HCK.out ?_
        rintro e WA ⟨rfl, hn⟩
        clear y5 z5 y11 z11 HCK
        replace r5 := r5.on hn
        replace r11 := r11.on hn
        replace hP2 := hP2.on hn
        replace hc2 := chain hc2 hn
        clear hn
        have y5 := r5.cell
        have z5 := r5.lt
        have y11 := r11.cell
        have z11 := r11.lt
        obtain ⟨p1, p2, vd, vs, F1, F2, rp, hT1, _⟩ := hP2.tabs
        have C1 := Lib.hid (of_c 0 hT1)
        rw [ofV_stT] at C1
        rw [HV2.out] at C1
        have yp := rp.cell
        have zp := rp.lt
        clear hT1
        go_wp2_with fail
        refine Calls.mono C1.out ?_
        rintro e WB ⟨rfl, hn⟩
        clear y5 z5 y11 z11 yp zp rp C1
        replace r5 := r5.on hn
        replace hP2 := hP2.on hn
        replace hc2 := chain hc2 hn
        clear hn
        go_upto_region 20 with fail
        have hn := below_alloc WB (.cells #[.int .i64 M, .int .i64 n1, .int .i64 n2, .int .i64 n3, .int .i64 n4] 31)
        have r14 := Row.new (W := WB) (cs := #[.int .i64 M, .int .i64 n1, .int .i64 n2, .int .i64 n3, .int .i64 n4]) (t := 31)
        replace r5 := r5.on hn
        replace hP2 := hP2.on hn
        replace hc2 := chain hc2 hn
        clear hn
        generalize WB.alloc _ = WC at *
        generalize WB.heap.size = a14 at *
        have y5 := r5.cell
        have z5 := r5.lt
        have y14 := r14.cell
        have z14 := r14.lt
        have H2 := Lib.hid hP2
        clear hP2
        go_wp2_with fail
        go_roundw
        case rel =>
          refine ⟨i + 1, G, by omega, by go_num, ?_, hF2, hFa2, ?_, hc2⟩
          · rw [HNX.out]; exact H2.out
          · rw [HNX.out]; show Row _ a5 (stT T2).cells _; rw [HV2.out]; exact r5
        case measure => simp [intOf]; omega
      · have h0b : (tq != (0 : Int)) = true := by simpa using h0
        have h0c : (tq == (0 : Int)) = false := by simpa using h0
        obtain ⟨M2, m1, m2, m3, m4, hV2, hM2⟩ : ∃ M n1 n2 n3 n4 : Int, stT T2 = stV M n1 n2 n3 n4 ∧ (M = (T2.rs.length : Int) ∧ n1 = (cntS T2.rs 1 : Nat) ∧ n2 = (cntS T2.rs 2 : Nat) ∧ n3 = (cntS T2.rs 3 : Nat) ∧ n4 = (cntS T2.rs 4 : Nat)) := ⟨_, _, _, _, _, rfl, rfl, rfl, rfl, rfl, rfl⟩
        have HV2 := Lib.hid hV2
        have HOK : RowKit.Hid (sOk M2 m1 m2 m3 m4 = true) := Lib.hid (by
          have h1 := stT_ok HG1.out
          obtain ⟨e1, e2, e3, e4, e5⟩ := hM2
          rw [e1, e2, e3, e4, e5]
          exact h1)
        have hM3 := HM3.out
        have d1 : ¬ (M2 < M) := by omega
        have d2 : ¬ (m3 < n3) := by omega
        clear hM3
        rw [HV1.out, hV2] at hadd
        have HAD := Lib.hid hadd
        clear hadd hV2 hM2 hl1 hl3
        have y5 := r5.cell
        have z5 := r5.lt
        go_wp2_with fail
        refine Calls.mono (HAD.out _) ?_
        rintro e V4 ⟨rfl, hn⟩
        clear y5 z5
        replace r5 := r5.on hn
        replace r11 := r11.on hn
        replace hP2 := hP2.on hn
        replace hc2 := chain hc2 hn
        clear hn
        go_upto_region 14 with fail
        have hn := below_alloc V4 (.cells #[.int .i64 M2, .int .i64 m1, .int .i64 m2, .int .i64 m3, .int .i64 m4] 31)
        have r12 := Row.new (W := V4) (cs := #[.int .i64 M2, .int .i64 m1, .int .i64 m2, .int .i64 m3, .int .i64 m4]) (t := 31)
        replace r5 := r5.on hn
        replace r11 := r11.on hn
        replace hP2 := hP2.on hn
        replace hc2 := chain hc2 hn
        clear hn
        generalize V4.alloc _ = V5 at *
        generalize V4.heap.size = a12 at *
        have y12 := r12.cell
        have z12 := r12.lt
        have y5 := r5.cell
        have z5 := r5.lt
        have u5 := r5.free
        have h511 : a5 ≠ a11 := ha511
        go_upto_region 17 with fail
        clear y12 z12 y5 z5 u5
        replace hc2 := (((((hc2.setCell (p := ⟨a5, 0, none⟩) ha5w (.int .i64 M2)).setCell (p := ⟨a5, 1, none⟩) ha5w (.int .i64 m1)).setCell (p := ⟨a5, 2, none⟩) ha5w (.int .i64 m2)).setCell (p := ⟨a5, 3, none⟩) ha5w (.int .i64 m3)).setCell (p := ⟨a5, 4, none⟩) ha5w (.int .i64 m4))
        have hbS : But (fun b => b = a5) V5 (((((V5.setCell ⟨a5, 0, none⟩ (.int .i64 M2)).setCell ⟨a5, 1, none⟩ (.int .i64 m1)).setCell ⟨a5, 2, none⟩ (.int .i64 m2)).setCell ⟨a5, 3, none⟩ (.int .i64 m3)).setCell ⟨a5, 4, none⟩ (.int .i64 m4)) := (((((But.refl (fun b => b = a5) V5).setCell (y := a5) (fun _ => rfl) 0 (.int .i64 M2)).setCell (y := a5) (fun _ => rfl) 1 (.int .i64 m1)).setCell (y := a5) (fun _ => rfl) 2 (.int .i64 m2)).setCell (y := a5) (fun _ => rfl) 3 (.int .i64 m3)).setCell (y := a5) (fun _ => rfl) 4 (.int .i64 m4)
        replace hP2 := hP2.but hbS (fun b hb h => hFa2 (by rw [← h]; exact hb))
        replace r11 := hbS.row r11 (fun h => h511 h.symm)
        replace r5 := ((((r5.set 0 (.int .i64 M2)).set 1 (.int .i64 m1)).set 2 (.int .i64 m2)).set 3 (.int .i64 m3)).set 4 (.int .i64 m4)
        simp only [List.setIfInBounds_toArray, List.set_cons_zero, List.set_cons_succ] at r5
        clear hbS
        generalize World.setCell _ _ _ = V6 at *
        have HCK := Lib.hid (check_ok M2 m1 m2 m3 m4 V6 HOK.out)
        have y5 := r5.cell
        have z5 := r5.lt
        have y11 := r11.cell
        have z11 := r11.lt
        go_wp2_with fail
        refine Calls.mono HCK.out ?_
        rintro e WA ⟨rfl, hn⟩
        clear y5 z5 y11 z11 HCK
        replace r5 := r5.on hn
        replace r11 := r11.on hn
        replace hP2 := hP2.on hn
        replace hc2 := chain hc2 hn
        clear hn
        have y5 := r5.cell
        have z5 := r5.lt
        have y11 := r11.cell
        have z11 := r11.lt
        obtain ⟨p1, p2, vd, vs, F1, F2, rp, hT1, _⟩ := hP2.tabs
        have C1 := Lib.hid (of_c 0 hT1)
        rw [ofV_stT] at C1
        rw [HV2.out] at C1
        have yp := rp.cell
        have zp := rp.lt
        clear hT1
        go_wp2_with fail
        refine Calls.mono C1.out ?_
        rintro e WB ⟨rfl, hn⟩
        clear y5 z5 y11 z11 yp zp rp C1
        replace r5 := r5.on hn
        replace hP2 := hP2.on hn
        replace hc2 := chain hc2 hn
        clear hn
        go_upto_region 20 with fail
        have hn := below_alloc WB (.cells #[.int .i64 M2, .int .i64 m1, .int .i64 m2, .int .i64 m3, .int .i64 m4] 31)
        have r14 := Row.new (W := WB) (cs := #[.int .i64 M2, .int .i64 m1, .int .i64 m2, .int .i64 m3, .int .i64 m4]) (t := 31)
        replace r5 := r5.on hn
        replace hP2 := hP2.on hn
        replace hc2 := chain hc2 hn
        clear hn
        generalize WB.alloc _ = WC at *
        generalize WB.heap.size = a14 at *
        have y5 := r5.cell
        have z5 := r5.lt
        have y14 := r14.cell
        have z14 := r14.lt
        have H2 := Lib.hid hP2
        clear hP2
        go_wp2_with fail
        go_roundw
        case rel =>
          refine ⟨i + 1, G, by omega, by go_num, ?_, hF2, hFa2, ?_, hc2⟩
          · rw [HNX.out]; exact H2.out
          · rw [HNX.out]; show Row _ a5 (stT T2).cells _; rw [HV2.out]; exact r5
        case measure => simp [intOf]; omega
    · obtain rfl : i = N := by omega
      obtain ⟨hsum, hmost⟩ := good_cnt (HG.out i)
      have hok := stT_ok (HG.out i)
      have hstates := (HG.out i).states
      obtain ⟨T, hT⟩ : ∃ T, runT emptyT (L.take i) = T := ⟨_, rfl⟩
      rw [hT] at hP r5 hsum hmost hok hstates
      obtain ⟨kN, hkN⟩ : ∃ n, T.rs.length = n := ⟨_, rfl⟩
      obtain ⟨n1, h1⟩ : ∃ n, cntS T.rs 1 = n := ⟨_, rfl⟩
      obtain ⟨n2, h2⟩ : ∃ n, cntS T.rs 2 = n := ⟨_, rfl⟩
      obtain ⟨n3, h3⟩ : ∃ n, cntS T.rs 3 = n := ⟨_, rfl⟩
      obtain ⟨n4, h4⟩ : ∃ n, cntS T.rs 4 = n := ⟨_, rfl⟩
      have hV : stT T = stV (kN : Nat) (n1 : Nat) (n2 : Nat) (n3 : Nat) (n4 : Nat) := by
        unfold stT
        rw [hkN, h1, h2, h3, h4]
      have hnA : nA T.rs = #[.int .i64 0, .int .i64 (n1 : Nat), .int .i64 (n2 : Nat), .int .i64 (n3 : Nat), .int .i64 (n4 : Nat)] := by
        unfold nA
        rw [h1, h2, h3, h4]
      rw [hV] at r5
      change Row wr a5 #[.int .i64 (kN : Nat), .int .i64 (n1 : Nat), .int .i64 (n2 : Nat), .int .i64 (n3 : Nat), .int .i64 (n4 : Nat)] _ at r5
      rw [hkN, h1, h2, h3, h4] at hok
      rw [hkN, h1, h2, h3, h4] at hsum
      have HOK := Lib.hid hok
      have HNA := Lib.hid hnA
      have HSTS := Lib.hid hstates
      have HK := Lib.hid hkN
      rw [hkN] at hmost
      clear hok hV hnA hstates h1 h2 h3 h4
      go_upto_region 24 with fail
      have ha16 := hP.fin
      have hn := below_alloc wr (.cells #[.int .i64 0, .int .i64 0, .int .i64 0, .int .i64 0, .int .i64 0] 48)
      have r16 := Row.new (W := wr) (cs := #[.int .i64 0, .int .i64 0, .int .i64 0, .int .i64 0, .int .i64 0]) (t := 48)
      have h516 := r5.lt
      have hF16 : ¬ F wr.heap.size := fun h => by have := ha16 _ h; omega
      have hw16 := hc.size
      replace hP := hP.on hn
      replace r5 := r5.on hn
      replace hc := chain hc hn
      clear hn ha16
      generalize wr.alloc _ = V at *
      generalize wr.heap.size = a16 at *
      obtain ⟨p1, p2, vd, aS, cS, rp, hst, hSF, hpF⟩ := hP.own
      rw [hkN] at rp hst hSF
      have hp16 : pp ≠ a16 := fun e => hF16 (by rw [← e]; exact hpF)
      have yp := rp.cell
      have zp := rp.lt
      clear hkN hT
      go_wp2_with fail
      clear yp zp
      go_loopw [97] (fun iv wr => ∃ j : Nat, j ≤ kN ∧ iv = .int .i64 j ∧ Row wr a16 (nA (T.rs.take j)) 48 ∧ But (fun b => b = a16) V wr) (fun iv _ => kN - (intOf iv).toNat)
      case atStart => exact ⟨0, Nat.zero_le _, rfl, r16, But.refl _ _⟩
      case round =>
        clear r16
        obtain ⟨j, hj, rfl, r16, hb⟩ := hrel
        by_cases hlt2 : j < kN
        · obtain ⟨r, hr⟩ : ∃ r, T.rs[j]? = some r := ⟨_, List.getElem?_eq_getElem (by rw [HK.out]; exact hlt2)⟩
          have hS := HSTS.out r (List.mem_of_getElem? hr)
          obtain ⟨s, hs⟩ : ∃ s : Nat, r.st = (s : Int) := ⟨r.st.toNat, by omega⟩
          have hs4 : 1 ≤ s ∧ s ≤ 4 := by omega
          have hst2 := hst.via (W' := wr) (fun k hk => hb.block k (hst.lt k hk).2 (fun e => hF16 (by rw [← e]; exact hSF k hk)))
          obtain ⟨gs, cs, hv, hgs, hcc⟩ := hst2.cells (stL_get hr)
          injection hv with hv1 hv2 hv3
          subst hv1
          have ysc := hcc 0 (by omega)
          simp only [Nat.mul_one, Nat.add_zero, List.getElem?_cons_zero] at ysc
          rw [hs] at ysc
          have hnx := nA_next hr hs4 hs
          have hcle : cntS (T.rs.take j) (s : Int) ≤ 60 := by
            have h0 : cntS (T.rs.take j) (s : Int) ≤ (T.rs.take j).length := List.countP_le_length
            rw [List.length_take] at h0
            omega
          have y16 := (r16.cell s).trans (nA_get hs4)
          have z16 := r16.lt
          have u16 := r16.free
          obtain ⟨cN, hcN⟩ : ∃ n, cntS (T.rs.take j) (s : Int) = n := ⟨_, rfl⟩
          rw [hcN] at y16 hnx hcle
          have HNX := Lib.hid hnx
          have j0 : (0 : Int) ≤ (j : Int) := by omega
          have j1 : (j : Int) < (kN : Int) := by omega
          have s0 : (0 : Int) ≤ (s : Int) := by omega
          have s1 : (s : Int) < 5 := by omega
          have w1 : IntKind.i64.wrap ((cN : Int) + 1) = (cN : Int) + 1 := IntWalk.i64_in _ ⟨by omega, by omega⟩
          clear hr hS hs hcc hv2 hv3 hnx hcN hst2
          go_wp2_with fail
          go_roundw
          case rel =>
            refine ⟨j + 1, by omega, by go_num, ?_, hb.setCell (y := a16) (fun _ => rfl) s _⟩
            rw [← HNX.out]
            exact r16.set s _
          case measure => simp [intOf]; omega
        · obtain rfl : j = kN := by omega
          rw [List.take_of_length_le (Nat.le_of_eq HK.out), HNA.out] at r16
          have r5c := hb.row r5 (show ¬ a5 = a16 by omega)
          have rpc := hb.row rp hp16
          have hc2 : Below w.heap.size w wr := hc.trans (hb.below hc.size (fun k hk h => by omega))
          have HU := Lib.hid (used_ok (j : Nat) (n1 : Nat) (n2 : Nat) (n3 : Nat) (n4 : Nat) wr HOK.out)
          have y5 := r5c.cell
          have z5 := r5c.lt
          clear hst rp r5 hP hc hb
          go_wp2_with fail
          refine Calls.mono HU.out ?_
          rintro e V3 ⟨rfl, hn⟩
          replace r5c := r5c.on hn
          replace rpc := rpc.on hn
          replace r16 := r16.on hn
          replace hc2 := chain hc2 hn
          clear hn y5 z5 HU
          have w3 : IntKind.i64.wrap ((j : Int) - (n3 : Int)) = (j : Int) - (n3 : Int) := IntWalk.i64_in _ ⟨by omega, by omega⟩
          go_upto_region 30 with fail
          refine wp_region_held_drew (S := fun W' => (∀ x, W'.cell? ⟨a5, x, none⟩ = (#[.int .i64 (j : Nat), .int .i64 (n1 : Nat), .int .i64 (n2 : Nat), .int .i64 (n3 : Nat), .int .i64 (n4 : Nat)] : Array Value)[x]?) ∧ (∀ x, W'.cell? ⟨pp, x, none⟩ = (#[ptr p1, ptr p2, vd, .slice aS j cS] : Array Value)[x]?) ∧ (∀ x, W'.cell? ⟨a16, x, none⟩ = (#[.int .i64 0, .int .i64 (n1 : Nat), .int .i64 (n2 : Nat), .int .i64 (n3 : Nat), .int .i64 (n4 : Nat)] : Array Value)[x]?)) (by kernel_rfl) ⟨r5c.cell, rpc.cell, r16.cell⟩ (fun hHeld => ?_)
          replace r5c := r5c.drew
          replace rpc := rpc.drew
          replace r16 := r16.drew
          replace hc2 := hc2.drew
          generalize V3.drew = X at *
          refine' wpAnyH_take (i := 0) (oi := _) (v := _) ?_ (by kernel_rfl) (by kernel_rfl) (by kernel_rfl) ?_ (Or.inl ⟨?_, ?_⟩) (by assumption) ?_
          rotate_left 2
          · (simp only [List.getElem?_toArray, List.getElem?_cons_succ, List.getElem?_cons_zero]; rfl)
          · first | exact fun _ _ _ h => h | exact fun _ _ _ h => nomatch h.1
          · rfl
          · (intro W hSW; (try dsimp only at hSW); go_split_ands; first | (go_simp; done) | (go_simp; with_reducible rfl))
          try simp only [Act.put, List.setIfInBounds_toArray, List.set_cons_zero, List.set_cons_succ]
          refine' wpAnyH_take (i := 1) (oi := _) (v := _) ?_ (by kernel_rfl) (by kernel_rfl) (by kernel_rfl) ?_ (Or.inl ⟨?_, ?_⟩) (by assumption) ?_
          rotate_left 2
          · (simp only [List.getElem?_toArray, List.getElem?_cons_succ, List.getElem?_cons_zero]; rfl)
          · first | exact fun _ _ _ h => h | exact fun _ _ _ h => nomatch h.1
          · rfl
          · (intro W hSW; (try dsimp only at hSW); go_split_ands; first | (go_simp; done) | (go_simp; with_reducible rfl))
          try simp only [Act.put, List.setIfInBounds_toArray, List.set_cons_zero, List.set_cons_succ]
          refine' wpAnyH_take (i := 2) (oi := _) (v := _) ?_ (by kernel_rfl) (by kernel_rfl) (by kernel_rfl) ?_ (Or.inl ⟨?_, ?_⟩) (by assumption) ?_
          rotate_left 2
          · (simp only [List.getElem?_toArray, List.getElem?_cons_succ, List.getElem?_cons_zero]; rfl)
          · first | exact fun _ _ _ h => h | exact fun _ _ _ h => nomatch h.1
          · rfl
          · (intro W hSW; (try dsimp only at hSW); go_split_ands; first | (go_simp; done) | (go_simp; with_reducible rfl))
          try simp only [Act.put, List.setIfInBounds_toArray, List.set_cons_zero, List.set_cons_succ]
          refine' wpAnyH_take (i := 3) (oi := _) (v := _) ?_ (by kernel_rfl) (by kernel_rfl) (by kernel_rfl) ?_ (Or.inl ⟨?_, ?_⟩) (by assumption) ?_
          rotate_left 2
          · (simp only [List.getElem?_toArray, List.getElem?_cons_succ, List.getElem?_cons_zero]; rfl)
          · first | exact fun _ _ _ h => h | exact fun _ _ _ h => nomatch h.1
          · rfl
          · (intro W hSW; (try dsimp only at hSW); go_split_ands; first | (go_simp; done) | (go_simp; with_reducible rfl))
          try simp only [Act.put, List.setIfInBounds_toArray, List.set_cons_zero, List.set_cons_succ]
          refine' wpAnyH_take (i := 4) (oi := _) (v := _) ?_ (by kernel_rfl) (by kernel_rfl) (by kernel_rfl) ?_ (Or.inl ⟨?_, ?_⟩) (by assumption) ?_
          rotate_left 2
          · (simp only [List.getElem?_toArray, List.getElem?_cons_succ, List.getElem?_cons_zero]; rfl)
          · first | exact fun _ _ _ h => h | exact fun _ _ _ h => nomatch h.1
          · rfl
          · (intro W hSW; (try dsimp only at hSW); go_split_ands; first | (go_simp; done) | (go_simp; with_reducible rfl))
          try simp only [Act.put, List.setIfInBounds_toArray, List.set_cons_zero, List.set_cons_succ]
          refine' wpAnyH_take (i := 5) (oi := _) (v := _) ?_ (by kernel_rfl) (by kernel_rfl) (by kernel_rfl) ?_ (Or.inl ⟨?_, ?_⟩) (by assumption) ?_
          rotate_left 2
          · (simp only [List.getElem?_toArray, List.getElem?_cons_succ, List.getElem?_cons_zero]; rfl)
          · first | exact fun _ _ _ h => h | exact fun _ _ _ h => nomatch h.1
          · rfl
          · (intro W hSW; (try dsimp only at hSW); go_split_ands; first | (go_simp; done) | (go_simp; with_reducible rfl))
          try simp only [Act.put, List.setIfInBounds_toArray, List.set_cons_zero, List.set_cons_succ]
          refine' wpAnyH_take (i := 6) (oi := _) (v := _) ?_ (by kernel_rfl) (by kernel_rfl) (by kernel_rfl) ?_ (Or.inl ⟨?_, ?_⟩) (by assumption) ?_
          rotate_left 2
          · (simp only [List.getElem?_toArray, List.getElem?_cons_succ, List.getElem?_cons_zero]; rfl)
          · first | exact fun _ _ _ h => h | exact fun _ _ _ h => nomatch h.1
          · rfl
          · (intro W hSW; (try dsimp only at hSW); go_split_ands; first | (go_simp; done) | (go_simp; with_reducible rfl))
          try simp only [Act.put, List.setIfInBounds_toArray, List.set_cons_zero, List.set_cons_succ]
          refine' wpAnyH_take (i := 7) (oi := _) (v := _) ?_ (by kernel_rfl) (by kernel_rfl) (by kernel_rfl) ?_ (Or.inl ⟨?_, ?_⟩) (by assumption) ?_
          rotate_left 2
          · (simp only [List.getElem?_toArray, List.getElem?_cons_succ, List.getElem?_cons_zero]; rfl)
          · first | exact fun _ _ _ h => h | exact fun _ _ _ h => nomatch h.1
          · rfl
          · (intro W hSW; (try dsimp only at hSW); go_split_ands; first | (go_simp; done) | (go_simp; with_reducible rfl))
          try simp only [Act.put, List.setIfInBounds_toArray, List.set_cons_zero, List.set_cons_succ]
          refine' wpAnyH_take (i := 8) (oi := _) (v := _) ?_ (by kernel_rfl) (by kernel_rfl) (by kernel_rfl) ?_ (Or.inl ⟨?_, ?_⟩) (by assumption) ?_
          rotate_left 2
          · (simp only [List.getElem?_toArray, List.getElem?_cons_succ, List.getElem?_cons_zero]; rfl)
          · first | exact fun _ _ _ h => h | exact fun _ _ _ h => nomatch h.1
          · rfl
          · (intro W hSW; (try dsimp only at hSW); go_split_ands; first | (go_simp; done) | (go_simp; with_reducible rfl))
          try simp only [Act.put, List.setIfInBounds_toArray, List.set_cons_zero, List.set_cons_succ]
          refine' wpAnyH_take (i := 9) (oi := _) (v := _) ?_ (by kernel_rfl) (by kernel_rfl) (by kernel_rfl) ?_ (Or.inl ⟨?_, ?_⟩) (by assumption) ?_
          rotate_left 2
          · (simp only [List.getElem?_toArray, List.getElem?_cons_succ, List.getElem?_cons_zero]; rfl)
          · first | exact fun _ _ _ h => h | exact fun _ _ _ h => nomatch h.1
          · rfl
          · (intro W hSW; (try dsimp only at hSW); go_split_ands; first | (go_simp; done) | (go_simp; with_reducible rfl))
          try simp only [Act.put, List.setIfInBounds_toArray, List.set_cons_zero, List.set_cons_succ]
          refine' wpAnyH_take (i := 10) (oi := _) (v := _) ?_ (by kernel_rfl) (by kernel_rfl) (by kernel_rfl) ?_ (Or.inl ⟨?_, ?_⟩) (by assumption) ?_
          rotate_left 2
          · (simp only [List.getElem?_toArray, List.getElem?_cons_succ, List.getElem?_cons_zero]; rfl)
          · first | exact fun _ _ _ h => h | exact fun _ _ _ h => nomatch h.1
          · rfl
          · (intro W hSW; (try dsimp only at hSW); go_split_ands; first | (go_simp; done) | (go_simp; with_reducible rfl))
          try simp only [Act.put, List.setIfInBounds_toArray, List.set_cons_zero, List.set_cons_succ]
          refine' wpAnyH_take (i := 11) (oi := _) (v := _) ?_ (by kernel_rfl) (by kernel_rfl) (by kernel_rfl) ?_ (Or.inl ⟨?_, ?_⟩) (by assumption) ?_
          rotate_left 2
          · (simp only [List.getElem?_toArray, List.getElem?_cons_succ, List.getElem?_cons_zero]; rfl)
          · first | exact fun _ _ _ h => h | exact fun _ _ _ h => nomatch h.1
          · rfl
          · (intro W hSW; (try dsimp only at hSW); go_split_ands; first | (go_simp; done) | (go_simp; with_reducible rfl))
          try simp only [Act.put, List.setIfInBounds_toArray, List.set_cons_zero, List.set_cons_succ]
          refine' wpAnyH_take (i := 12) (oi := _) (v := _) ?_ (by kernel_rfl) (by kernel_rfl) (by kernel_rfl) ?_ (Or.inl ⟨?_, ?_⟩) (by assumption) ?_
          rotate_left 2
          · (simp only [List.getElem?_toArray, List.getElem?_cons_succ, List.getElem?_cons_zero]; rfl)
          · first | exact fun _ _ _ h => h | exact fun _ _ _ h => nomatch h.1
          · rfl
          · (intro W hSW; (try dsimp only at hSW); go_split_ands; first | (go_simp; done) | (go_simp; with_reducible rfl))
          try simp only [Act.put, List.setIfInBounds_toArray, List.set_cons_zero, List.set_cons_succ]
          refine' wpAnyH_take (i := 13) (oi := _) (v := _) ?_ (by kernel_rfl) (by kernel_rfl) (by kernel_rfl) ?_ (Or.inl ⟨?_, ?_⟩) (by assumption) ?_
          rotate_left 2
          · (simp only [List.getElem?_toArray, List.getElem?_cons_succ, List.getElem?_cons_zero]; rfl)
          · first | exact fun _ _ _ h => h | exact fun _ _ _ h => nomatch h.1
          · rfl
          · (intro W hSW; (try dsimp only at hSW); go_split_ands; first | (go_simp; done) | (go_simp; with_reducible rfl))
          try simp only [Act.put, List.setIfInBounds_toArray, List.set_cons_zero, List.set_cons_succ]
          refine' wpAnyH_take (i := 14) (oi := _) (v := _) ?_ (by kernel_rfl) (by kernel_rfl) (by kernel_rfl) ?_ (Or.inl ⟨?_, ?_⟩) (by assumption) ?_
          rotate_left 2
          · (simp only [List.getElem?_toArray, List.getElem?_cons_succ, List.getElem?_cons_zero]; rfl)
          · first | exact fun _ _ _ h => h | exact fun _ _ _ h => nomatch h.1
          · rfl
          · (intro W hSW; (try dsimp only at hSW); go_split_ands; first | (go_simp; done) | (go_simp; with_reducible rfl))
          try simp only [Act.put, List.setIfInBounds_toArray, List.set_cons_zero, List.set_cons_succ]
          refine' wpAnyH_take (i := 15) (oi := _) (v := _) ?_ (by kernel_rfl) (by kernel_rfl) (by kernel_rfl) ?_ (Or.inl ⟨?_, ?_⟩) (by assumption) ?_
          rotate_left 2
          · (simp only [List.getElem?_toArray, List.getElem?_cons_succ, List.getElem?_cons_zero]; rfl)
          · first | exact fun _ _ _ h => h | exact fun _ _ _ h => nomatch h.1
          · rfl
          · (intro W hSW; (try dsimp only at hSW); go_split_ands; first | (go_simp; done) | (go_simp; with_reducible rfl))
          try simp only [Act.put, List.setIfInBounds_toArray, List.set_cons_zero, List.set_cons_succ]
          refine' wpAnyH_take (i := 16) (oi := _) (v := _) ?_ (by kernel_rfl) (by kernel_rfl) (by kernel_rfl) ?_ (Or.inl ⟨?_, ?_⟩) (by assumption) ?_
          rotate_left 2
          · (simp only [List.getElem?_toArray, List.getElem?_cons_succ, List.getElem?_cons_zero]; rfl)
          · first | exact fun _ _ _ h => h | exact fun _ _ _ h => nomatch h.1
          · rfl
          · (intro W hSW; (try dsimp only at hSW); go_split_ands; first | (go_simp; done) | (go_simp; with_reducible rfl))
          try simp only [Act.put, List.setIfInBounds_toArray, List.set_cons_zero, List.set_cons_succ]
          refine' wpAnyH_take (i := 17) (oi := _) (v := _) ?_ (by kernel_rfl) (by kernel_rfl) (by kernel_rfl) ?_ (Or.inl ⟨?_, ?_⟩) (by assumption) ?_
          rotate_left 2
          · (simp only [List.getElem?_toArray, List.getElem?_cons_succ, List.getElem?_cons_zero]; rfl)
          · first | exact fun _ _ _ h => h | exact fun _ _ _ h => nomatch h.1
          · rfl
          · (intro W hSW; (try dsimp only at hSW); go_split_ands; first | (go_simp; done) | (go_simp; with_reducible rfl))
          try simp only [Act.put, List.setIfInBounds_toArray, List.set_cons_zero, List.set_cons_succ]
          refine' wpAnyH_take (i := 18) (oi := _) (v := _) ?_ (by kernel_rfl) (by kernel_rfl) (by kernel_rfl) ?_ (Or.inl ⟨?_, ?_⟩) (by assumption) ?_
          rotate_left 2
          · (simp only [List.getElem?_toArray, List.getElem?_cons_succ, List.getElem?_cons_zero]; rfl)
          · first | exact fun _ _ _ h => h | exact fun _ _ _ h => nomatch h.1
          · rfl
          · (intro W hSW; (try dsimp only at hSW); go_split_ands; first | (go_simp; done) | (go_simp; with_reducible rfl))
          try simp only [Act.put, List.setIfInBounds_toArray, List.set_cons_zero, List.set_cons_succ]
          refine' wpAnyH_take (i := 19) (oi := _) (v := _) ?_ (by kernel_rfl) (by kernel_rfl) (by kernel_rfl) ?_ (Or.inl ⟨?_, ?_⟩) (by assumption) ?_
          rotate_left 2
          · (simp only [List.getElem?_toArray, List.getElem?_cons_succ, List.getElem?_cons_zero]; rfl)
          · first | exact fun _ _ _ h => h | exact fun _ _ _ h => nomatch h.1
          · rfl
          · (intro W hSW; (try dsimp only at hSW); go_split_ands; first | (go_simp; done) | (go_simp; with_reducible rfl))
          try simp only [Act.put, List.setIfInBounds_toArray, List.set_cons_zero, List.set_cons_succ]
          refine' wpAnyH_take (i := 20) (oi := _) (v := _) ?_ (by kernel_rfl) (by kernel_rfl) (by kernel_rfl) ?_ (Or.inl ⟨?_, ?_⟩) (by assumption) ?_
          rotate_left 2
          · (simp only [List.getElem?_toArray, List.getElem?_cons_succ, List.getElem?_cons_zero]; rfl)
          · first | exact fun _ _ _ h => h | exact fun _ _ _ h => nomatch h.1
          · rfl
          · (intro W hSW; (try dsimp only at hSW); go_split_ands; first | (go_simp; done) | (go_simp; with_reducible rfl))
          try simp only [Act.put, List.setIfInBounds_toArray, List.set_cons_zero, List.set_cons_succ]
          refine' wpAnyH_take (i := 21) (oi := _) (v := _) ?_ (by kernel_rfl) (by kernel_rfl) (by kernel_rfl) ?_ (Or.inl ⟨?_, ?_⟩) (by assumption) ?_
          rotate_left 2
          · (simp only [List.getElem?_toArray, List.getElem?_cons_succ, List.getElem?_cons_zero]; rfl)
          · first | exact fun _ _ _ h => h | exact fun _ _ _ h => nomatch h.1
          · rfl
          · (intro W hSW; (try dsimp only at hSW); go_split_ands; first | (go_simp; done) | (go_simp; with_reducible rfl))
          try simp only [Act.put, List.setIfInBounds_toArray, List.set_cons_zero, List.set_cons_succ]
          refine' wpAnyH_take (i := 22) (oi := _) (v := _) ?_ (by kernel_rfl) (by kernel_rfl) (by kernel_rfl) ?_ (Or.inl ⟨?_, ?_⟩) (by assumption) ?_
          rotate_left 2
          · (simp only [List.getElem?_toArray, List.getElem?_cons_succ, List.getElem?_cons_zero]; rfl)
          · first | exact fun _ _ _ h => h | exact fun _ _ _ h => nomatch h.1
          · rfl
          · (intro W hSW; (try dsimp only at hSW); go_split_ands; first | (go_simp; done) | (go_simp; with_reducible rfl))
          try simp only [Act.put, List.setIfInBounds_toArray, List.set_cons_zero, List.set_cons_succ]
          refine' wpAnyH_take (i := 23) (oi := _) (v := _) ?_ (by kernel_rfl) (by kernel_rfl) (by kernel_rfl) ?_ (Or.inl ⟨?_, ?_⟩) (by assumption) ?_
          rotate_left 2
          · (simp only [List.getElem?_toArray, List.getElem?_cons_succ, List.getElem?_cons_zero]; rfl)
          · first | exact fun _ _ _ h => h | exact fun _ _ _ h => nomatch h.1
          · rfl
          · (intro W hSW; (try dsimp only at hSW); go_split_ands; first | (go_simp; done) | (go_simp; with_reducible rfl))
          try simp only [Act.put, List.setIfInBounds_toArray, List.set_cons_zero, List.set_cons_succ]
          refine' wpAnyH_take (i := 24) (oi := _) (v := _) ?_ (by kernel_rfl) (by kernel_rfl) (by kernel_rfl) ?_ (Or.inl ⟨?_, ?_⟩) (by assumption) ?_
          rotate_left 2
          · (simp only [List.getElem?_toArray, List.getElem?_cons_succ, List.getElem?_cons_zero]; rfl)
          · first | exact fun _ _ _ h => h | exact fun _ _ _ h => nomatch h.1
          · rfl
          · (intro W hSW; (try dsimp only at hSW); go_split_ands; first | (go_simp; done) | (go_simp; with_reducible rfl))
          try simp only [Act.put, List.setIfInBounds_toArray, List.set_cons_zero, List.set_cons_succ]
          refine' wpAnyH_take (i := 25) (oi := _) (v := _) ?_ (by kernel_rfl) (by kernel_rfl) (by kernel_rfl) ?_ (Or.inl ⟨?_, ?_⟩) (by assumption) ?_
          rotate_left 2
          · (simp only [List.getElem?_toArray, List.getElem?_cons_succ, List.getElem?_cons_zero]; rfl)
          · first | exact fun _ _ _ h => h | exact fun _ _ _ h => nomatch h.1
          · rfl
          · (intro W hSW; (try dsimp only at hSW); go_split_ands; first | (go_simp; done) | (go_simp; with_reducible rfl))
          try simp only [Act.put, List.setIfInBounds_toArray, List.set_cons_zero, List.set_cons_succ]
          refine' wpAnyH_take (i := 26) (oi := _) (v := _) ?_ (by kernel_rfl) (by kernel_rfl) (by kernel_rfl) ?_ (Or.inl ⟨?_, ?_⟩) (by assumption) ?_
          rotate_left 2
          · (simp only [List.getElem?_toArray, List.getElem?_cons_succ, List.getElem?_cons_zero]; rfl)
          · first | exact fun _ _ _ h => h | exact fun _ _ _ h => nomatch h.1
          · rfl
          · (intro W hSW; (try dsimp only at hSW); go_split_ands; first | (go_simp; done) | (go_simp; with_reducible rfl))
          try simp only [Act.put, List.setIfInBounds_toArray, List.set_cons_zero, List.set_cons_succ]
          refine' wpAnyH_take (i := 27) (oi := _) (v := _) ?_ (by kernel_rfl) (by kernel_rfl) (by kernel_rfl) ?_ (Or.inl ⟨?_, ?_⟩) (by assumption) ?_
          rotate_left 2
          · (simp only [List.getElem?_toArray, List.getElem?_cons_succ, List.getElem?_cons_zero]; rfl)
          · first | exact fun _ _ _ h => h | exact fun _ _ _ h => nomatch h.1
          · rfl
          · (intro W hSW; (try dsimp only at hSW); go_split_ands; first | (go_simp; done) | (go_simp; with_reducible rfl))
          try simp only [Act.put, List.setIfInBounds_toArray, List.set_cons_zero, List.set_cons_succ]
          refine' wpAnyH_take (i := 28) (oi := _) (v := _) ?_ (by kernel_rfl) (by kernel_rfl) (by kernel_rfl) ?_ (Or.inl ⟨?_, ?_⟩) (by assumption) ?_
          rotate_left 2
          · (simp only [List.getElem?_toArray, List.getElem?_cons_succ, List.getElem?_cons_zero]; rfl)
          · first | exact fun _ _ _ h => h | exact fun _ _ _ h => nomatch h.1
          · rfl
          · (intro W hSW; (try dsimp only at hSW); go_split_ands; first | (go_simp; done) | (go_simp; with_reducible rfl))
          try simp only [Act.put, List.setIfInBounds_toArray, List.set_cons_zero, List.set_cons_succ]
          refine' wpAnyH_take (i := 29) (oi := _) (v := _) ?_ (by kernel_rfl) (by kernel_rfl) (by kernel_rfl) ?_ (Or.inl ⟨?_, ?_⟩) (by assumption) ?_
          rotate_left 2
          · (simp only [List.getElem?_toArray, List.getElem?_cons_succ, List.getElem?_cons_zero]; rfl)
          · first | exact fun _ _ _ h => h | exact fun _ _ _ h => nomatch h.1
          · rfl
          · (intro W hSW; (try dsimp only at hSW); go_split_ands; first | (go_simp; done) | (go_simp; with_reducible rfl))
          try simp only [Act.put, List.setIfInBounds_toArray, List.set_cons_zero, List.set_cons_succ]
          refine' wpAnyH_take (i := 30) (oi := _) (v := _) ?_ (by kernel_rfl) (by kernel_rfl) (by kernel_rfl) ?_ (Or.inl ⟨?_, ?_⟩) (by assumption) ?_
          rotate_left 2
          · (simp only [List.getElem?_toArray, List.getElem?_cons_succ, List.getElem?_cons_zero]; rfl)
          · first | exact fun _ _ _ h => h | exact fun _ _ _ h => nomatch h.1
          · rfl
          · (intro W hSW; (try dsimp only at hSW); go_split_ands; first | (go_simp; done) | (go_simp; with_reducible rfl))
          try simp only [Act.put, List.setIfInBounds_toArray, List.set_cons_zero, List.set_cons_succ]
          refine' wpAnyH_take (i := 31) (oi := _) (v := _) ?_ (by kernel_rfl) (by kernel_rfl) (by kernel_rfl) ?_ (Or.inl ⟨?_, ?_⟩) (by assumption) ?_
          rotate_left 2
          · (simp only [List.getElem?_toArray, List.getElem?_cons_succ, List.getElem?_cons_zero]; rfl)
          · first | exact fun _ _ _ h => h | exact fun _ _ _ h => nomatch h.1
          · rfl
          · (intro W hSW; (try dsimp only at hSW); go_split_ands; first | (go_simp; done) | (go_simp; with_reducible rfl))
          try simp only [Act.put, List.setIfInBounds_toArray, List.set_cons_zero, List.set_cons_succ]
          refine' wpAnyH_take (i := 32) (oi := _) (v := _) ?_ (by kernel_rfl) (by kernel_rfl) (by kernel_rfl) ?_ (Or.inl ⟨?_, ?_⟩) (by assumption) ?_
          rotate_left 2
          · (simp only [List.getElem?_toArray, List.getElem?_cons_succ, List.getElem?_cons_zero]; rfl)
          · first | exact fun _ _ _ h => h | exact fun _ _ _ h => nomatch h.1
          · rfl
          · (intro W hSW; (try dsimp only at hSW); go_split_ands; first | (go_simp; done) | (go_simp; with_reducible rfl))
          try simp only [Act.put, List.setIfInBounds_toArray, List.set_cons_zero, List.set_cons_succ]
          clear hHeld
          have HW := Lib.hid (works X (HE.out.on hc2))
          refine wpAnyH_ready (rs := [33]) (by kernel_rfl) (by simp) ?_
          refine' AllReadyH.cons (o := _) ?_ (fun K hK => ?_) AllReadyH.nil
          rotate_left 1
          · (simp only [List.getElem?_toArray, List.getElem?_cons_succ, List.getElem?_cons_zero]; rfl)
          go_simp
          refine Calls.mono HW.out ?_
          rintro e V4 ⟨rfl, hn⟩
          go_simp
          replace r5c := r5c.on hn
          replace rpc := rpc.on hn
          replace r16 := r16.on hn
          replace hc2 := chain hc2 hn
          refine hK.out _ _ ⟨r5c.cell, rpc.cell, r16.cell⟩ (fun hHeld => ?_)
          clear hK K
          refine' wpAnyH_take (i := 34) (oi := _) (v := _) ?_ (by kernel_rfl) (by kernel_rfl) (by kernel_rfl) ?_ (Or.inl ⟨?_, ?_⟩) (by assumption) ?_
          rotate_left 2
          · (simp only [List.getElem?_toArray, List.getElem?_cons_succ, List.getElem?_cons_zero]; rfl)
          · first | exact fun _ _ _ h => h | exact fun _ _ _ h => nomatch h.1
          · rfl
          · (intro W hSW; (try dsimp only at hSW); go_split_ands; first | (go_simp; done) | (go_simp; with_reducible rfl))
          try simp only [Act.put, List.setIfInBounds_toArray, List.set_cons_zero, List.set_cons_succ]
          refine' wpAnyH_take (i := 35) (oi := _) (v := _) ?_ (by kernel_rfl) (by kernel_rfl) (by kernel_rfl) ?_ (Or.inl ⟨?_, ?_⟩) (by assumption) ?_
          rotate_left 2
          · (simp only [List.getElem?_toArray, List.getElem?_cons_succ, List.getElem?_cons_zero]; rfl)
          · first | exact fun _ _ _ h => h | exact fun _ _ _ h => nomatch h.1
          · rfl
          · (intro W hSW; (try dsimp only at hSW); go_split_ands; first | (go_simp; done) | (go_simp; with_reducible rfl))
          try simp only [Act.put, List.setIfInBounds_toArray, List.set_cons_zero, List.set_cons_succ]
          clear hHeld
          refine wpAnyH_done (by kernel_rfl) ?_ _
          go_wp2_with fail
          go_returns
          exact ⟨rfl, hc2⟩
end Go.Proofs.YtkjpdciccablpaaGreatDoor
