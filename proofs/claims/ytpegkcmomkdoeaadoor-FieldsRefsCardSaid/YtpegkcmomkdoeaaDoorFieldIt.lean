/- The iterator over the fields that are not empty: its contract. -/
import Derived.Test.YtpegkcmomkdoeaaDoorField1
import Derived.RangeFuncNested
import Derived.RangeFuncBound
import Derived.RangeFuncCalls
import Derived.RangeFuncLeaves
import Derived.Shelf.Abstract
import Derived.Shelf.RegionOpen
import Derived.OwnWalkIn
import Derived.TacticsInMore
import Derived.LoopNIn
import Derived.LoopIn
namespace Go.Proofs.YtpegkcmomkdoeaaDoor
open Go.RowKit Go.Shelf
set_option linter.unusedVariables false
set_option linter.unusedSimpArgs false
attribute [local go_sem] Oper.semAt_some

abbrev encR (x : Int × Rf) : Array Value := #[.int .i64 x.1, .agg #[.int .i64 x.2.1, .int .u32 x.2.2]]
abbrev arrV (s0 g0 s1 g1 s2 g2 s3 g3 : Int) : Value := .agg #[.int .i64 s0, .int .u32 g0, .int .i64 s1, .int .u32 g1, .int .i64 s2, .int .u32 g2, .int .i64 s3, .int .u32 g3]
theorem aIdx0 (s0 g0 s1 g1 s2 g2 s3 g3 : Int) : ∀ w, (Instr.index 25 (arrV s0 g0 s1 g1 s2 g2 s3 g3) (.int .i64 0)).run Tryd.prog w = .ok (refV s0 g0) w := fun _ => by kernel_rfl
theorem aIdx1 (s0 g0 s1 g1 s2 g2 s3 g3 : Int) : ∀ w, (Instr.index 25 (arrV s0 g0 s1 g1 s2 g2 s3 g3) (.int .i64 1)).run Tryd.prog w = .ok (refV s1 g1) w := fun _ => by kernel_rfl
theorem aIdx2 (s0 g0 s1 g1 s2 g2 s3 g3 : Int) : ∀ w, (Instr.index 25 (arrV s0 g0 s1 g1 s2 g2 s3 g3) (.int .i64 2)).run Tryd.prog w = .ok (refV s2 g2) w := fun _ => by kernel_rfl
theorem aIdx3 (s0 g0 s1 g1 s2 g2 s3 g3 : Int) : ∀ w, (Instr.index 25 (arrV s0 g0 s1 g1 s2 g2 s3 g3) (.int .i64 3)).run Tryd.prog w = .ok (refV s3 g3) w := fun _ => by kernel_rfl
/-- What has come when k fields are over. -/
def fpre (a b c d : Rf) : Nat → List (Int × Rf)
  | 0 => []
  | 1 => if rNone a then [] else [(0, a)]
  | 2 => (if rNone a then [] else [(0, a)]) ++ (if rNone b then [] else [(1, b)])
  | 3 => (if rNone a then [] else [(0, a)]) ++ (if rNone b then [] else [(1, b)]) ++ (if rNone c then [] else [(2, c)])
  | _ => full a b c d
theorem fpre_len (a b c d : Rf) (k : Nat) (h : k < 4) : (fpre a b c d k).length < 4 := by
  rcases (by omega : k = 0 ∨ k = 1 ∨ k = 2 ∨ k = 3) with rfl | rfl | rfl | rfl <;> simp only [fpre] <;> cases rNone a <;> cases rNone b <;> cases rNone c <;> simp
theorem fpre_pre (a b c d : Rf) (k : Nat) : fpre a b c d k <+: full a b c d := by
  rw [full_eq]
  match k with
  | 0 => exact List.nil_prefix
  | 1 => simp only [fpre, List.append_assoc]; exact List.prefix_append _ _
  | 2 => simp only [fpre, List.append_assoc]; rw [← List.append_assoc]; exact List.prefix_append _ _
  | 3 => simp only [fpre]; exact List.prefix_append _ _
  | _ + 4 => simp only [fpre]; rw [full_eq]; exact List.prefix_rfl
theorem fpre_none (a b c d : Rf) (k : Nat) (r : Rf) (h : (k = 0 ∧ r = a) ∨ (k = 1 ∧ r = b) ∨ (k = 2 ∧ r = c) ∨ (k = 3 ∧ r = d)) (hn : rNone r = true) : fpre a b c d (k + 1) = fpre a b c d k := by
  rcases h with ⟨rfl, rfl⟩ | ⟨rfl, rfl⟩ | ⟨rfl, rfl⟩ | ⟨rfl, rfl⟩ <;> simp [fpre, hn, full_eq]
theorem fpre_some (a b c d : Rf) (k : Nat) (r : Rf) (h : (k = 0 ∧ r = a) ∨ (k = 1 ∧ r = b) ∨ (k = 2 ∧ r = c) ∨ (k = 3 ∧ r = d)) (hn : rNone r = false) : fpre a b c d k ++ [((k : Int), r)] = fpre a b c d (k + 1) := by
  rcases h with ⟨rfl, rfl⟩ | ⟨rfl, rfl⟩ | ⟨rfl, rfl⟩ | ⟨rfl, rfl⟩ <;> simp [fpre, hn, full_eq]
theorem full_mem (a b c d : Rf) (k : Nat) (r : Rf) (h : (k = 0 ∧ r = a) ∨ (k = 1 ∧ r = b) ∨ (k = 2 ∧ r = c) ∨ (k = 3 ∧ r = d)) (hn : rNone r = false) : ((k : Int), r) ∈ full a b c d := by
  rcases h with ⟨rfl, rfl⟩ | ⟨rfl, rfl⟩ | ⟨rfl, rfl⟩ | ⟨rfl, rfl⟩ <;> simp [full_eq, hn]
set_option maxRecDepth 100000 in
set_option maxHeartbeats 8000000 in
theorem full1_in (F : Fence) (n : Nat) (hf : F.fn 42) (hro : F.round = none) (hn : 1 ≤ n) (l Bn : Nat) (s0 g0 s1 g1 s2 g2 s3 g3 : Int) (J Jx : List (Int × Rf) → World → Prop) (Kp : World → World → Prop) (P : Int × Rf → Prop) (hP : ∀ x ∈ full (s0, g0) (s1, g1) (s2, g2) (s3, g3), P x) (W : World)
    (hJ : ∀ s W o, J s W → J s (W.alloc o)) (hJx : ∀ s W o, Jx s W → Jx s (W.alloc o))
    (hY : ∀ pre x W1, P x → J pre W1 → pre.length < 4 → YieldAt F (n - 1) Tryd.prog l (encR x) W1 fun e W' => (e = .returned (.bool true) ∧ J (pre ++ [x]) W' ∧ Kp W1 W') ∨ (e = .returned (.bool false) ∧ Jx (pre ++ [x]) W'))
    (hc : ∀ j, W.cell? ⟨Bn, 1 + j, none⟩ = (#[.int .i64 s0, .int .u32 g0, .int .i64 s1, .int .u32 g1, .int .i64 s2, .int .u32 g2, .int .i64 s3, .int .u32 g3] : Array Value)[j]? ∨ 8 ≤ j) (h0 : J [] W) :
    CallsIn F n Tryd.prog 42 #[.func (.yield l) #[] #[], .pointer (some ⟨Bn, 0, none⟩)] W fun e W' => (∃ v, e = .returned v) ∧
      ((∃ ys, ys = full (s0, g0) (s1, g1) (s2, g2) (s3, g3) ∧ J ys W') ∨ (∃ pre, pre <+: full (s0, g0) (s1, g1) (s2, g2) (s3, g3) ∧ Jx pre W')) := by
  have c1 : W.cell? ⟨Bn, 1, none⟩ = some (.int .i64 s0) := (hc 0).resolve_right (by omega)
  have c2 : W.cell? ⟨Bn, 2, none⟩ = some (.int .u32 g0) := (hc 1).resolve_right (by omega)
  have c3 : W.cell? ⟨Bn, 3, none⟩ = some (.int .i64 s1) := (hc 2).resolve_right (by omega)
  have c4 : W.cell? ⟨Bn, 4, none⟩ = some (.int .u32 g1) := (hc 3).resolve_right (by omega)
  have c5 : W.cell? ⟨Bn, 5, none⟩ = some (.int .i64 s2) := (hc 4).resolve_right (by omega)
  have c6 : W.cell? ⟨Bn, 6, none⟩ = some (.int .u32 g2) := (hc 5).resolve_right (by omega)
  have c7 : W.cell? ⟨Bn, 7, none⟩ = some (.int .i64 s3) := (hc 6).resolve_right (by omega)
  have c8 : W.cell? ⟨Bn, 8, none⟩ = some (.int .u32 g3) := (hc 7).resolve_right (by omega)
  have HJ := Lib.hid hJ
  have HY := Lib.hid hY
  have HP := Lib.hid hP
  clear hc hJ hY hJx hP
  refine callsIn_of_wp Tryd.func42 rfl hf ?_ hro
  simp only [Tryd.ntmps42, List.size_toArray, List.length_cons, List.length_nil, Nat.reduceAdd, Nat.reduceSub, Array.replicate_succ, Array.replicate_zero, List.push_toArray, List.append_toArray, List.nil_append, List.cons_append]
  gi_wp2
  gi_loopw [7] (fun i wr => ∃ k : Nat, k ≤ 4 ∧ i = .int .i64 k ∧ J (fpre (s0, g0) (s1, g1) (s2, g2) (s3, g3) k) wr) (fun i _ => 4 - (intOf i).toNat)
  case atStart => exact ⟨0, by omega, rfl, h0⟩
  case round =>
    obtain ⟨k, hk, rfl, hJk⟩ := hrel
    clear c1 c2 c3 c4 c5 c6 c7 c8
    rcases (by omega : k = 0 ∨ k = 1 ∨ k = 2 ∨ k = 3 ∨ k = 4) with rfl | rfl | rfl | rfl | rfl
    · have ix := aIdx0 s0 g0 s1 g1 s2 g2 s3 g3
      have hq := ref_neq0 s0 g0
      cases hnn : rNone (s0, g0) with
      | true =>
        rw [hnn] at hq
        have hJ2 := HJ.out _ _ (.cells #[.int .i64 s0, .int .u32 g0] 24) hJk
        rw [← fpre_none (s0, g0) (s1, g1) (s2, g2) (s3, g3) 0 (s0, g0) (.inl ⟨rfl, rfl⟩) hnn] at hJ2
        have HJ2 := Lib.hid hJ2
        clear hJ2 hJk hnn
        gi_wp2
        refine ⟨fun _ h => (by cases h), ?_⟩
        gi_wp2
        go_roundw
        case rel => exact ⟨0 + 1, by omega, by go_num, HJ2.out⟩
        case measure => simp [intOf]
      | false =>
        rw [hnn] at hq
        have hJ2 := HJ.out _ _ (.cells #[.int .i64 s0, .int .u32 g0] 24) hJk
        obtain ⟨fn, tmps, assign, body, hy, hR⟩ := HY.out _ ((0 : Int), (s0, g0)) _ (HP.out _ (full_mem _ _ _ _ 0 _ (.inl ⟨rfl, rfl⟩) hnn)) hJ2 (fpre_len _ _ _ _ 0 (by omega))
        have hfs : fpre (s0, g0) (s1, g1) (s2, g2) (s3, g3) 0 ++ [((0 : Int), (s0, g0))] = fpre (s0, g0) (s1, g1) (s2, g2) (s3, g3) (0 + 1) := fpre_some (s0, g0) (s1, g1) (s2, g2) (s3, g3) 0 (s0, g0) (.inl ⟨rfl, rfl⟩) hnn
        rw [hfs] at hR
        dsimp only [encR] at hy
        have HR := Lib.hid hR
        clear hfs hR
        clear hJ2 hJk hnn
        gi_wp2
        refine HR.out.mono ?_
        rintro e W3 (⟨rfl, hJ3, hk3⟩ | ⟨rfl, hJx3⟩)
        · have HJ3 := Lib.hid hJ3
          clear hJ3
          gi_wp2
          go_roundw
          case rel => exact ⟨0 + 1, by omega, by go_num, HJ3.out⟩
          case measure => simp [intOf]
        · have HJ3 := Lib.hid hJx3
          clear hJx3
          gi_wp2
          refine bodyPost_ret (results_none rfl _ _ _) rfl ?_
          exact ⟨⟨_, rfl⟩, .inr ⟨_, fpre_pre _ _ _ _ (0 + 1), HJ3.out⟩⟩
    · have ix := aIdx1 s0 g0 s1 g1 s2 g2 s3 g3
      have hq := ref_neq0 s1 g1
      cases hnn : rNone (s1, g1) with
      | true =>
        rw [hnn] at hq
        have hJ2 := HJ.out _ _ (.cells #[.int .i64 s1, .int .u32 g1] 24) hJk
        rw [← fpre_none (s0, g0) (s1, g1) (s2, g2) (s3, g3) 1 (s1, g1) (.inr (.inl ⟨rfl, rfl⟩)) hnn] at hJ2
        have HJ2 := Lib.hid hJ2
        clear hJ2 hJk hnn
        gi_wp2
        refine ⟨fun _ h => (by cases h), ?_⟩
        gi_wp2
        go_roundw
        case rel => exact ⟨1 + 1, by omega, by go_num, HJ2.out⟩
        case measure => simp [intOf]
      | false =>
        rw [hnn] at hq
        have hJ2 := HJ.out _ _ (.cells #[.int .i64 s1, .int .u32 g1] 24) hJk
        obtain ⟨fn, tmps, assign, body, hy, hR⟩ := HY.out _ ((1 : Int), (s1, g1)) _ (HP.out _ (full_mem _ _ _ _ 1 _ (.inr (.inl ⟨rfl, rfl⟩)) hnn)) hJ2 (fpre_len _ _ _ _ 1 (by omega))
        have hfs : fpre (s0, g0) (s1, g1) (s2, g2) (s3, g3) 1 ++ [((1 : Int), (s1, g1))] = fpre (s0, g0) (s1, g1) (s2, g2) (s3, g3) (1 + 1) := fpre_some (s0, g0) (s1, g1) (s2, g2) (s3, g3) 1 (s1, g1) (.inr (.inl ⟨rfl, rfl⟩)) hnn
        rw [hfs] at hR
        dsimp only [encR] at hy
        have HR := Lib.hid hR
        clear hfs hR
        clear hJ2 hJk hnn
        gi_wp2
        refine HR.out.mono ?_
        rintro e W3 (⟨rfl, hJ3, hk3⟩ | ⟨rfl, hJx3⟩)
        · have HJ3 := Lib.hid hJ3
          clear hJ3
          gi_wp2
          go_roundw
          case rel => exact ⟨1 + 1, by omega, by go_num, HJ3.out⟩
          case measure => simp [intOf]
        · have HJ3 := Lib.hid hJx3
          clear hJx3
          gi_wp2
          refine bodyPost_ret (results_none rfl _ _ _) rfl ?_
          exact ⟨⟨_, rfl⟩, .inr ⟨_, fpre_pre _ _ _ _ (1 + 1), HJ3.out⟩⟩
    · have ix := aIdx2 s0 g0 s1 g1 s2 g2 s3 g3
      have hq := ref_neq0 s2 g2
      cases hnn : rNone (s2, g2) with
      | true =>
        rw [hnn] at hq
        have hJ2 := HJ.out _ _ (.cells #[.int .i64 s2, .int .u32 g2] 24) hJk
        rw [← fpre_none (s0, g0) (s1, g1) (s2, g2) (s3, g3) 2 (s2, g2) (.inr (.inr (.inl ⟨rfl, rfl⟩))) hnn] at hJ2
        have HJ2 := Lib.hid hJ2
        clear hJ2 hJk hnn
        gi_wp2
        refine ⟨fun _ h => (by cases h), ?_⟩
        gi_wp2
        go_roundw
        case rel => exact ⟨2 + 1, by omega, by go_num, HJ2.out⟩
        case measure => simp [intOf]
      | false =>
        rw [hnn] at hq
        have hJ2 := HJ.out _ _ (.cells #[.int .i64 s2, .int .u32 g2] 24) hJk
        obtain ⟨fn, tmps, assign, body, hy, hR⟩ := HY.out _ ((2 : Int), (s2, g2)) _ (HP.out _ (full_mem _ _ _ _ 2 _ (.inr (.inr (.inl ⟨rfl, rfl⟩))) hnn)) hJ2 (fpre_len _ _ _ _ 2 (by omega))
        have hfs : fpre (s0, g0) (s1, g1) (s2, g2) (s3, g3) 2 ++ [((2 : Int), (s2, g2))] = fpre (s0, g0) (s1, g1) (s2, g2) (s3, g3) (2 + 1) := fpre_some (s0, g0) (s1, g1) (s2, g2) (s3, g3) 2 (s2, g2) (.inr (.inr (.inl ⟨rfl, rfl⟩))) hnn
        rw [hfs] at hR
        dsimp only [encR] at hy
        have HR := Lib.hid hR
        clear hfs hR
        clear hJ2 hJk hnn
        gi_wp2
        refine HR.out.mono ?_
        rintro e W3 (⟨rfl, hJ3, hk3⟩ | ⟨rfl, hJx3⟩)
        · have HJ3 := Lib.hid hJ3
          clear hJ3
          gi_wp2
          go_roundw
          case rel => exact ⟨2 + 1, by omega, by go_num, HJ3.out⟩
          case measure => simp [intOf]
        · have HJ3 := Lib.hid hJx3
          clear hJx3
          gi_wp2
          refine bodyPost_ret (results_none rfl _ _ _) rfl ?_
          exact ⟨⟨_, rfl⟩, .inr ⟨_, fpre_pre _ _ _ _ (2 + 1), HJ3.out⟩⟩
    · have ix := aIdx3 s0 g0 s1 g1 s2 g2 s3 g3
      have hq := ref_neq0 s3 g3
      cases hnn : rNone (s3, g3) with
      | true =>
        rw [hnn] at hq
        have hJ2 := HJ.out _ _ (.cells #[.int .i64 s3, .int .u32 g3] 24) hJk
        rw [← fpre_none (s0, g0) (s1, g1) (s2, g2) (s3, g3) 3 (s3, g3) (.inr (.inr (.inr ⟨rfl, rfl⟩))) hnn] at hJ2
        have HJ2 := Lib.hid hJ2
        clear hJ2 hJk hnn
        gi_wp2
        refine ⟨fun _ h => (by cases h), ?_⟩
        gi_wp2
        go_roundw
        case rel => exact ⟨3 + 1, by omega, by go_num, HJ2.out⟩
        case measure => simp [intOf]
      | false =>
        rw [hnn] at hq
        have hJ2 := HJ.out _ _ (.cells #[.int .i64 s3, .int .u32 g3] 24) hJk
        obtain ⟨fn, tmps, assign, body, hy, hR⟩ := HY.out _ ((3 : Int), (s3, g3)) _ (HP.out _ (full_mem _ _ _ _ 3 _ (.inr (.inr (.inr ⟨rfl, rfl⟩))) hnn)) hJ2 (fpre_len _ _ _ _ 3 (by omega))
        have hfs : fpre (s0, g0) (s1, g1) (s2, g2) (s3, g3) 3 ++ [((3 : Int), (s3, g3))] = fpre (s0, g0) (s1, g1) (s2, g2) (s3, g3) (3 + 1) := fpre_some (s0, g0) (s1, g1) (s2, g2) (s3, g3) 3 (s3, g3) (.inr (.inr (.inr ⟨rfl, rfl⟩))) hnn
        rw [hfs] at hR
        dsimp only [encR] at hy
        have HR := Lib.hid hR
        clear hfs hR
        clear hJ2 hJk hnn
        gi_wp2
        refine HR.out.mono ?_
        rintro e W3 (⟨rfl, hJ3, hk3⟩ | ⟨rfl, hJx3⟩)
        · have HJ3 := Lib.hid hJ3
          clear hJ3
          gi_wp2
          go_roundw
          case rel => exact ⟨3 + 1, by omega, by go_num, HJ3.out⟩
          case measure => simp [intOf]
        · have HJ3 := Lib.hid hJx3
          clear hJx3
          gi_wp2
          refine bodyPost_ret (results_none rfl _ _ _) rfl ?_
          exact ⟨⟨_, rfl⟩, .inr ⟨_, fpre_pre _ _ _ _ (3 + 1), HJ3.out⟩⟩
    · gi_wp2
      go_end0
      exact ⟨⟨_, rfl⟩, .inl ⟨_, rfl, hJk⟩⟩
end Go.Proofs.YtpegkcmomkdoeaaDoor
