/- The walk of DescrCuts. -/
import Derived.Test.YtjonbmocamjhaaaDoorLaw05c
import Derived.Deep.LoopGhost
namespace Go.Proofs.YtjonbmocamjhaaaDoor
open Go.RowKit
open Go.Lib (decDigits)
set_option linter.unusedVariables false
set_option linter.unusedSimpArgs false

/-- What a text near that of k, s, g (D) is read as. -/
def Out (f : FuncId) (X : ByteArray) (k s g : Int) (D : ByteArray) : Prop := ∃ k' l' g' e : Int, (∀ w, EnvP w → Ret f #[.string X] w (.tuple #[dV k' l' g', .int .i64 e])) ∧
  (e = 9 ∨ (e = 0 ∧ ¬ (k' = k ∧ l' = s ∧ g' = g)) ∨ (e = 0 ∧ k' = k ∧ l' = s ∧ g' = g ∧ X = D))
theorem out_d (X : ByteArray) (hX : X.size ≤ 100000) (k s g : Int) : Out 22 X k s g (dText 46 k s g) := by
  by_cases h : ∃ k l g, IsD 46 256 X.data.toList k l g
  · obtain ⟨k', l', g', h⟩ := h
    refine ⟨k', l', g', 0, fun w hE => d_parse_is X k' l' g' h w hE, ?_⟩
    by_cases e : k' = k ∧ l' = s ∧ g' = g
    · obtain ⟨rfl, rfl, rfl⟩ := e
      exact .inr (.inr ⟨rfl, rfl, rfl, rfl, str_ext (by rw [h.eq, dText_list])⟩)
    · exact .inr (.inl ⟨rfl, e⟩)
  · exact ⟨0, 0, 0, 9, fun w hE => d_parse_not X hX (fun k l g hd => h ⟨k, l, g, hd⟩) w hE, .inl rfl⟩
theorem out_o (X : ByteArray) (hX : X.size ≤ 100000) (k s g : Int) : Out 26 X k s g (dText 58 k s g) := by
  by_cases h : ∃ k l g, IsD 58 64 X.data.toList k l g
  · obtain ⟨k', l', g', h⟩ := h
    refine ⟨k', l', g', 0, fun w hE => o_parse_is X k' l' g' h w hE, ?_⟩
    by_cases e : k' = k ∧ l' = s ∧ g' = g
    · obtain ⟨rfl, rfl, rfl⟩ := e
      exact .inr (.inr ⟨rfl, rfl, rfl, rfl, str_ext (by rw [h.eq, dText_list])⟩)
    · exact .inr (.inl ⟨rfl, e⟩)
  · exact ⟨0, 0, 0, 9, fun w hE => o_parse_not X hX (fun k l g hd => h ⟨k, l, g, hd⟩) w hE, .inl rfl⟩
theorem cut1_size (S : ByteArray) (k : Nat) (h : k < S.size) : (S.extract 0 k ++ S.extract (k + 1) S.size).size = S.size - 1 := by
  simp only [ByteArray.size_append, ByteArray.size_extract]
  omega
theorem cut2_size (S : ByteArray) (b : UInt8) (k : Nat) (h : k < S.size) : (S.extract 0 k ++ ⟨#[b]⟩ ++ S.extract k S.size).size = S.size + 1 := by
  simp only [ByteArray.size_append, ByteArray.size_extract, show (ByteArray.mk #[b]).size = 1 from rfl]
  omega
set_option maxHeartbeats 16000000 in
set_option maxRecDepth 20000 in
theorem cuts_core (a s g at_ c kd L G : Int) (k m : Nat) (S T X1 X2 Y1 Y2 : ByteArray) (w : World) (hE : EnvP w) (s0 : 0 ≤ s) (s1 : s ≤ 255) (t0 : 0 ≤ at_) (t1 : at_ ≤ 255) (b0 : 0 ≤ c) (b1 : c ≤ 255)
    (hS : S.size ≤ 22) (hT : T.size ≤ 22) (hk : at_ % (S.size : Int) = k) (hm : at_ % (T.size : Int) = m) (hk1 : k < S.size) (hm1 : m < T.size)
    (e1 : S.extract 0 k ++ S.extract (k + 1) S.size = X1) (e2 : S.extract 0 k ++ ⟨#[UInt8.ofNat c.toNat]⟩ ++ S.extract k S.size = X2)
    (e3 : T.extract 0 m ++ T.extract (m + 1) T.size = Y1) (e4 : T.extract 0 m ++ ⟨#[UInt8.ofNat c.toNat]⟩ ++ T.extract m T.size = Y2)
    (c1 : ∀ w, Ret 32 #[.int .u8 a, .int .u8 s, .int .u32 g] w (.tuple #[dV kd s G, dV kd L G]))
    (c2 : ∀ w, EnvP w → Ret 20 #[dV kd s G] w (.tuple #[.string S, .int .i64 0])) (c3 : ∀ w, EnvP w → Ret 24 #[dV kd L G] w (.tuple #[.string T, .int .i64 0]))
    (o1 : Out 22 X1 kd s G S) (o2 : Out 22 X2 kd s G S) (o3 : Out 26 Y1 kd L G T) (o4 : Out 26 Y2 kd L G T) :
    Ret 10 #[.int .u8 a, .int .u8 s, .int .u32 g, .int .u8 at_, .int .u8 c] w (.bool true) := by
  have hE0 := hE
  have hc0 := Below.refl w.heap.size w
  have C1 := Lib.hid c1
  have C2 := Lib.hid c2
  have C3 := Lib.hid c3
  have O1 := Lib.hid o1
  have O2 := Lib.hid o2
  have O3 := Lib.hid o3
  have O4 := Lib.hid o4
  have hcv := conv_one c b0 b1
  have n1 : S.toList.isEmpty = false := by rw [ByteArray.toList_eq, List.isEmpty_eq_false_iff]; intro e; have := len_bytes S; rw [e] at this; simp at this; omega
  have n2 : T.toList.isEmpty = false := by rw [ByteArray.toList_eq, List.isEmpty_eq_false_iff]; intro e; have := len_bytes T; rw [e] at this; simp at this; omega
  have k2 : (k : Int) ≤ (S.size : Int) := by omega
  have k3 : (k : Int) + 1 ≤ (S.size : Int) := by omega
  have m2 : (m : Int) ≤ (T.size : Int) := by omega
  have m3 : (m : Int) + 1 ≤ (T.size : Int) := by omega
  have z1 : ¬ (S.size : Int) = 0 := by omega
  have z2 : ¬ (T.size : Int) = 0 := by omega
  have z1' : ¬ S.size = 0 := by omega
  have z2' : ¬ T.size = 0 := by omega
  have tm1 : Int.tmod at_ (S.size : Int) = k := by rw [Int.tmod_eq_emod_of_nonneg t0]; exact hk
  have tm2 : Int.tmod at_ (T.size : Int) = m := by rw [Int.tmod_eq_emod_of_nonneg t0]; exact hm
  have k4 : (0 : Int) ≤ (k : Int) + 1 := by omega
  have m4 : (0 : Int) ≤ (m : Int) + 1 := by omega
  have ra1 := add_run e1 (by simp only [ByteArray.size_extract]; omega)
  have ra2 := add_run (a := S.extract 0 k) (b := ⟨#[UInt8.ofNat c.toNat]⟩) rfl (by simp only [ByteArray.size_extract, show (ByteArray.mk #[UInt8.ofNat c.toNat]).size = 1 from rfl]; omega)
  have ra3 := add_run e2 (by simp only [ByteArray.size_append, ByteArray.size_extract, show (ByteArray.mk #[UInt8.ofNat c.toNat]).size = 1 from rfl]; omega)
  have ra4 := add_run e3 (by simp only [ByteArray.size_extract]; omega)
  have ra5 := add_run (a := T.extract 0 m) (b := ⟨#[UInt8.ofNat c.toNat]⟩) rfl (by simp only [ByteArray.size_extract, show (ByteArray.mk #[UInt8.ofNat c.toNat]).size = 1 from rfl]; omega)
  have ra6 := add_run e4 (by simp only [ByteArray.size_append, ByteArray.size_extract, show (ByteArray.mk #[UInt8.ofNat c.toNat]).size = 1 from rfl]; omega)
  have wa : IntKind.i64.wrap at_ = at_ := IntWalk.i64_in _ ⟨by omega, by omega⟩
  have wS : IntKind.i64.wrap (S.size : Int) = S.size := IntWalk.i64_in _ ⟨by omega, by omega⟩
  have wT : IntKind.i64.wrap (T.size : Int) = T.size := IntWalk.i64_in _ ⟨by omega, by omega⟩
  have wk : IntKind.i64.wrap (k : Int) = k := IntWalk.i64_in _ ⟨by omega, by omega⟩
  have wm : IntKind.i64.wrap (m : Int) = m := IntWalk.i64_in _ ⟨by omega, by omega⟩
  have wk1 : IntKind.i64.wrap ((k : Int) + 1) = k + 1 := IntWalk.i64_in _ ⟨by omega, by omega⟩
  have wm1 : IntKind.i64.wrap ((m : Int) + 1) = m + 1 := IntWalk.i64_in _ ⟨by omega, by omega⟩
  clear hE c1 c2 c3 o1 o2 o3 o4
  go_enter Tryd.func10, Tryd.ntmps10
  go_wp2_with fail
  refine Calls.mono (C1.out _) ?_
  rintro e w1 ⟨rfl, hb1⟩
  obtain ⟨k1, f1⟩ := bcell hb1
  have hE1 := hE0.on (under hb1)
  have hc1 := chain hc0 (under hb1)
  clear hE0 hc0 hb1
  go_wp2_with fail
  refine Calls.mono (C2.out _ (hE1.on (by go_grown))) ?_
  rintro e w2 ⟨rfl, hb2⟩
  obtain ⟨k2, f2⟩ := bcell hb2
  have hE2 := hE1.on (under hb2)
  have hc2 := chain hc1 (under hb2)
  have z2_0 : w1.heap.size < w2.heap.size := by have := hb2.size; (try simp at this); omega
  have z2_1 : w1.heap.size+1 < w2.heap.size := by have := hb2.size; (try simp at this); omega
  clear hE1 hc1 hb2
  go_wp2_with fail
  refine Calls.mono (C3.out _ hE2) ?_
  rintro e w3 ⟨rfl, hb3⟩
  obtain ⟨k3, f3⟩ := bcell hb3
  have hE3 := hE2.on (under hb3)
  have hc3 := chain hc2 (under hb3)
  have z3_0 : w1.heap.size < w3.heap.size := by have := hb3.size; (try simp at this); omega
  have z3_1 : w1.heap.size+1 < w3.heap.size := by have := hb3.size; (try simp at this); omega
  clear hE2 hc2 hb3
  have d0 : w3.cell? ⟨w1.heap.size, 0, none⟩ = some (.int .i64 kd) := by go_simp
  have d1 : w3.cell? ⟨w1.heap.size, 1, none⟩ = some (.int .i64 s) := by go_simp
  have d2 : w3.cell? ⟨w1.heap.size, 2, none⟩ = some (.int .u32 G) := by go_simp
  have p0 : w3.cell? ⟨w1.heap.size + 1, 0, none⟩ = some (.int .i64 kd) := by go_simp
  have p1 : w3.cell? ⟨w1.heap.size + 1, 1, none⟩ = some (.int .i64 L) := by go_simp
  have p2 : w3.cell? ⟨w1.heap.size + 1, 2, none⟩ = some (.int .u32 G) := by go_simp
  clear k1 f1 k2 f2 k3 f3
  go_wp2_with fail
  go_region_with (fail)
  go_wp2_with fail
  refine wp_region_held_drew (S := fun W' => W'.cell? ⟨w1.heap.size, 0, none⟩ = some (.int .i64 kd)) (by kernel_rfl) ?_ (fun hHeld => ?_)
  · go_keep
  refine' wpAnyH_take (i := 0) (oi := _) (v := _) ?_ (by kernel_rfl) (by kernel_rfl) (by kernel_rfl) ?_ (Or.inl ⟨?_, ?_⟩) (by assumption) ?_
  rotate_left 2
  · (simp only [List.getElem?_toArray, List.getElem?_cons_succ, List.getElem?_cons_zero]; rfl)
  · exact fun _ _ _ h => h
  · rfl
  · (intro W hSW; (try dsimp only at hSW); go_split_ands; first | (go_simp; done) | (go_simp; with_reducible rfl))
  try simp only [Act.put, List.setIfInBounds_toArray, List.set_cons_zero, List.set_cons_succ]
  refine' wpAnyH_take (i := 1) (oi := _) (v := _) ?_ (by kernel_rfl) (by kernel_rfl) (by kernel_rfl) ?_ (Or.inl ⟨?_, ?_⟩) (by assumption) ?_
  rotate_left 2
  · (simp only [List.getElem?_toArray, List.getElem?_cons_succ, List.getElem?_cons_zero]; rfl)
  · exact fun _ _ _ h => h
  · rfl
  · (intro W hSW; (try dsimp only at hSW); go_split_ands; first | (go_simp; done) | (go_simp; with_reducible rfl))
  try simp only [Act.put, List.setIfInBounds_toArray, List.set_cons_zero, List.set_cons_succ]
  refine' wpAnyH_take (i := 2) (oi := _) (v := _) ?_ (by kernel_rfl) (by kernel_rfl) (by kernel_rfl) ?_ (Or.inl ⟨?_, ?_⟩) (by assumption) ?_
  rotate_left 2
  · (simp only [List.getElem?_toArray, List.getElem?_cons_succ, List.getElem?_cons_zero]; rfl)
  · exact fun _ _ _ h => h
  · rfl
  · (intro W hSW; (try dsimp only at hSW); go_split_ands; first | (go_simp; done) | (go_simp; with_reducible rfl))
  try simp only [Act.put, List.setIfInBounds_toArray, List.set_cons_zero, List.set_cons_succ]
  refine' wpAnyH_take (i := 3) (oi := _) (v := _) ?_ (by kernel_rfl) (by kernel_rfl) (by kernel_rfl) ?_ (Or.inl ⟨?_, ?_⟩) (by assumption) ?_
  rotate_left 2
  · (simp only [List.getElem?_toArray, List.getElem?_cons_succ, List.getElem?_cons_zero]; rfl)
  · exact fun _ _ _ h => h
  · rfl
  · (intro W hSW; (try dsimp only at hSW); go_split_ands; first | (go_simp; done) | (go_simp; with_reducible rfl))
  try simp only [Act.put, List.setIfInBounds_toArray, List.set_cons_zero, List.set_cons_succ]
  refine' wpAnyH_take (i := 4) (oi := _) (v := _) ?_ (by kernel_rfl) (by kernel_rfl) (by kernel_rfl) ?_ (Or.inl ⟨?_, ?_⟩) (by assumption) ?_
  rotate_left 2
  · (simp only [List.getElem?_toArray, List.getElem?_cons_succ, List.getElem?_cons_zero]; rfl)
  · exact fun _ _ _ h => h
  · rfl
  · (intro W hSW; (try dsimp only at hSW); go_split_ands; first | (go_simp; done) | (go_simp; with_reducible rfl))
  try simp only [Act.put, List.setIfInBounds_toArray, List.set_cons_zero, List.set_cons_succ]
  refine' wpAnyH_take (i := 5) (oi := _) (v := _) ?_ (by kernel_rfl) (by kernel_rfl) (by kernel_rfl) ?_ (Or.inl ⟨?_, ?_⟩) (by assumption) ?_
  rotate_left 2
  · (simp only [List.getElem?_toArray, List.getElem?_cons_succ, List.getElem?_cons_zero]; rfl)
  · exact fun _ _ _ h => h
  · rfl
  · (intro W hSW; (try dsimp only at hSW); go_split_ands; first | (go_simp; done) | (go_simp; with_reducible rfl))
  try simp only [Act.put, List.setIfInBounds_toArray, List.set_cons_zero, List.set_cons_succ]
  refine' wpAnyH_take (i := 6) (oi := _) (v := _) ?_ (by kernel_rfl) (by kernel_rfl) (by kernel_rfl) ?_ (Or.inl ⟨?_, ?_⟩) (by assumption) ?_
  rotate_left 2
  · (simp only [List.getElem?_toArray, List.getElem?_cons_succ, List.getElem?_cons_zero]; rfl)
  · exact fun _ _ _ h => h
  · rfl
  · (intro W hSW; (try dsimp only at hSW); go_split_ands; first | (go_simp; done) | (go_simp; with_reducible rfl))
  try simp only [Act.put, List.setIfInBounds_toArray, List.set_cons_zero, List.set_cons_succ]
  refine' wpAnyH_take (i := 7) (oi := _) (v := _) ?_ (by kernel_rfl) (by kernel_rfl) (by kernel_rfl) ?_ (Or.inl ⟨?_, ?_⟩) (by assumption) ?_
  rotate_left 2
  · (simp only [List.getElem?_toArray, List.getElem?_cons_succ, List.getElem?_cons_zero]; rfl)
  · exact fun _ _ _ h => h
  · rfl
  · (intro W hSW; (try dsimp only at hSW); go_split_ands; first | (go_simp; done) | (go_simp; with_reducible rfl))
  try simp only [Act.put, List.setIfInBounds_toArray, List.set_cons_zero, List.set_cons_succ]
  refine' wpAnyH_take (i := 8) (oi := _) (v := _) ?_ (by kernel_rfl) (by kernel_rfl) (by kernel_rfl) ?_ (Or.inl ⟨?_, ?_⟩) (by assumption) ?_
  rotate_left 2
  · (simp only [List.getElem?_toArray, List.getElem?_cons_succ, List.getElem?_cons_zero]; rfl)
  · exact fun _ _ _ h => h
  · rfl
  · (intro W hSW; (try dsimp only at hSW); go_split_ands; first | (go_simp; done) | (go_simp; with_reducible rfl))
  try simp only [Act.put, List.setIfInBounds_toArray, List.set_cons_zero, List.set_cons_succ]
  refine' wpAnyH_take (i := 9) (oi := _) (v := _) ?_ (by kernel_rfl) (by kernel_rfl) (by kernel_rfl) ?_ (Or.inl ⟨?_, ?_⟩) (by assumption) ?_
  rotate_left 2
  · (simp only [List.getElem?_toArray, List.getElem?_cons_succ, List.getElem?_cons_zero]; rfl)
  · exact fun _ _ _ h => h
  · rfl
  · (intro W hSW; (try dsimp only at hSW); go_split_ands; first | (go_simp; done) | (go_simp; with_reducible rfl))
  try simp only [Act.put, List.setIfInBounds_toArray, List.set_cons_zero, List.set_cons_succ]
  refine' wpAnyH_take (i := 10) (oi := _) (v := _) ?_ (by kernel_rfl) (by kernel_rfl) (by kernel_rfl) ?_ (Or.inl ⟨?_, ?_⟩) (by assumption) ?_
  rotate_left 2
  · (simp only [List.getElem?_toArray, List.getElem?_cons_succ, List.getElem?_cons_zero]; rfl)
  · exact fun _ _ _ h => h
  · rfl
  · (intro W hSW; (try dsimp only at hSW); go_split_ands; first | (go_simp; done) | (go_simp; with_reducible rfl))
  try simp only [Act.put, List.setIfInBounds_toArray, List.set_cons_zero, List.set_cons_succ]
  refine' wpAnyH_take (i := 11) (oi := _) (v := _) ?_ (by kernel_rfl) (by kernel_rfl) (by kernel_rfl) ?_ (Or.inl ⟨?_, ?_⟩) (by assumption) ?_
  rotate_left 2
  · (simp only [List.getElem?_toArray, List.getElem?_cons_succ, List.getElem?_cons_zero]; rfl)
  · exact fun _ _ _ h => h
  · rfl
  · (intro W hSW; (try dsimp only at hSW); go_split_ands; first | (go_simp; done) | (go_simp; with_reducible rfl))
  try simp only [Act.put, List.setIfInBounds_toArray, List.set_cons_zero, List.set_cons_succ]
  refine' wpAnyH_take (i := 15) (oi := _) (v := _) ?_ (by kernel_rfl) (by kernel_rfl) (by kernel_rfl) ?_ (Or.inl ⟨?_, ?_⟩) (by assumption) ?_
  rotate_left 2
  · (simp only [List.getElem?_toArray, List.getElem?_cons_succ, List.getElem?_cons_zero]; rfl)
  · exact fun _ _ _ h => h
  · rfl
  · (intro W hSW; (try dsimp only at hSW); go_split_ands; first | (go_simp; done) | (go_simp; with_reducible rfl))
  try simp only [Act.put, List.setIfInBounds_toArray, List.set_cons_zero, List.set_cons_succ]
  refine' wpAnyH_take (i := 16) (oi := _) (v := _) ?_ (by kernel_rfl) (by kernel_rfl) (by kernel_rfl) ?_ (Or.inl ⟨?_, ?_⟩) (by assumption) ?_
  rotate_left 2
  · (simp only [List.getElem?_toArray, List.getElem?_cons_succ, List.getElem?_cons_zero]; rfl)
  · exact fun _ _ _ h => h
  · rfl
  · (intro W hSW; (try dsimp only at hSW); go_split_ands; first | (go_simp; done) | (go_simp; with_reducible rfl))
  try simp only [Act.put, List.setIfInBounds_toArray, List.set_cons_zero, List.set_cons_succ]
  refine' wpAnyH_take (i := 17) (oi := _) (v := _) ?_ (by kernel_rfl) (by kernel_rfl) (by kernel_rfl) ?_ (Or.inl ⟨?_, ?_⟩) (by assumption) ?_
  rotate_left 2
  · (simp only [List.getElem?_toArray, List.getElem?_cons_succ, List.getElem?_cons_zero]; rfl)
  · exact fun _ _ _ h => h
  · rfl
  · (intro W hSW; (try dsimp only at hSW); go_split_ands; first | (go_simp; done) | (go_simp; with_reducible rfl))
  try simp only [Act.put, List.setIfInBounds_toArray, List.set_cons_zero, List.set_cons_succ]
  refine' wpAnyH_take (i := 21) (oi := _) (v := _) ?_ (by kernel_rfl) (by kernel_rfl) (by kernel_rfl) ?_ (Or.inl ⟨?_, ?_⟩) (by assumption) ?_
  rotate_left 2
  · (simp only [List.getElem?_toArray, List.getElem?_cons_succ, List.getElem?_cons_zero]; rfl)
  · exact fun _ _ _ h => h
  · rfl
  · (intro W hSW; (try dsimp only at hSW); go_split_ands; first | (go_simp; done) | (go_simp; with_reducible rfl))
  try simp only [Act.put, List.setIfInBounds_toArray, List.set_cons_zero, List.set_cons_succ]
  refine wpAnyH_ready (rs := [12]) (by kernel_rfl) (by simp) ?_
  refine' AllReadyH.cons (o := _) ?_ (fun K hK => ?_) AllReadyH.nil
  rotate_left 1
  · (simp only [List.getElem?_toArray, List.getElem?_cons_succ, List.getElem?_cons_zero]; rfl)
  go_simp
  refine hK.out _ _ ?_ (fun hHeld => ?_)
  · go_keep
  clear hK K
  refine wpAnyH_more (S' := fun W' => W'.cell? ⟨w1.heap.size, 0, none⟩ = some (.int .i64 kd) ∧ W'.cell? ⟨w3.heap.size, 0, none⟩ = some (.int .u8 c)) (fun _ h => h.1) ?_ (fun hHeld => ?_)
  · go_keep
  refine' wpAnyH_take (i := 13) (oi := _) (v := _) ?_ (by kernel_rfl) (by kernel_rfl) (by kernel_rfl) ?_ (Or.inl ⟨?_, ?_⟩) (by assumption) ?_
  rotate_left 2
  · (simp only [List.getElem?_toArray, List.getElem?_cons_succ, List.getElem?_cons_zero]; rfl)
  · exact fun _ _ _ h => h
  · rfl
  · (intro W hSW; (try dsimp only at hSW); go_split_ands; first | (go_simp; done) | (go_simp; with_reducible rfl))
  try simp only [Act.put, List.setIfInBounds_toArray, List.set_cons_zero, List.set_cons_succ]
  refine' wpAnyH_take (i := 14) (oi := _) (v := _) ?_ (by kernel_rfl) (by kernel_rfl) (by kernel_rfl) ?_ (Or.inl ⟨?_, ?_⟩) (by assumption) ?_
  rotate_left 2
  · (simp only [List.getElem?_toArray, List.getElem?_cons_succ, List.getElem?_cons_zero]; rfl)
  · exact fun _ _ _ h => h
  · rfl
  · (intro W hSW; (try dsimp only at hSW); go_split_ands; first | (go_simp; done) | (go_simp; with_reducible rfl))
  try simp only [Act.put, List.setIfInBounds_toArray, List.set_cons_zero, List.set_cons_succ]
  refine' wpAnyH_take (i := 18) (oi := _) (v := _) ?_ (by kernel_rfl) (by kernel_rfl) (by kernel_rfl) ?_ (Or.inl ⟨?_, ?_⟩) (by assumption) ?_
  rotate_left 2
  · (simp only [List.getElem?_toArray, List.getElem?_cons_succ, List.getElem?_cons_zero]; rfl)
  · exact fun _ _ _ h => h
  · rfl
  · (intro W hSW; (try dsimp only at hSW); go_split_ands; first | (go_simp; done) | (go_simp; with_reducible rfl))
  try simp only [Act.put, List.setIfInBounds_toArray, List.set_cons_zero, List.set_cons_succ]
  refine wpAnyH_ready (rs := [19]) (by kernel_rfl) (by simp) ?_
  refine' AllReadyH.cons (o := _) ?_ (fun K hK => ?_) AllReadyH.nil
  rotate_left 1
  · (simp only [List.getElem?_toArray, List.getElem?_cons_succ, List.getElem?_cons_zero]; rfl)
  go_simp
  refine hK.out _ _ ?_ (fun hHeld => ?_)
  · go_keep
  clear hK K
  refine' wpAnyH_take (i := 20) (oi := _) (v := _) ?_ (by kernel_rfl) (by kernel_rfl) (by kernel_rfl) ?_ (Or.inl ⟨?_, ?_⟩) (by assumption) ?_
  rotate_left 2
  · (simp only [List.getElem?_toArray, List.getElem?_cons_succ, List.getElem?_cons_zero]; rfl)
  · exact fun _ _ _ h => h
  · rfl
  · (intro W hSW; (try dsimp only at hSW); go_split_ands; first | (go_simp; done) | (go_simp; with_reducible rfl))
  try simp only [Act.put, List.setIfInBounds_toArray, List.set_cons_zero, List.set_cons_succ]
  refine wpAnyH_done (by kernel_rfl) ?_ _
  go_wp2_with fail
  go_loopw [89] (fun t wr => ∃ j : Nat, j ≤ 2 ∧ t = .int .i64 j ∧ EnvP wr ∧ Below w.heap.size w wr ∧ w1.heap.size < wr.heap.size ∧ w1.heap.size + 1 < wr.heap.size ∧ w3.heap.size + 1 < wr.heap.size ∧ wr.cell? ⟨w1.heap.size, 0, none⟩ = some (.int .i64 kd) ∧ wr.cell? ⟨w1.heap.size, 1, none⟩ = some (.int .i64 s) ∧ wr.cell? ⟨w1.heap.size, 2, none⟩ = some (.int .u32 G) ∧ wr.cell? ⟨w1.heap.size + 1, 0, none⟩ = some (.int .i64 kd) ∧ wr.cell? ⟨w1.heap.size + 1, 1, none⟩ = some (.int .i64 L) ∧ wr.cell? ⟨w1.heap.size + 1, 2, none⟩ = some (.int .u32 G) ∧ wr.cell? ⟨w3.heap.size + 1, 0, none⟩ = some (.string X1) ∧ wr.cell? ⟨w3.heap.size + 1, 1, none⟩ = some (.string X2)) (fun t _ => 2 - (intOf t).toNat)
  case atStart =>
    refine ⟨0, by omega, rfl, hE3.on (by go_grown), chain hc3 (by go_grown), ?_, ?_, ?_, ?_, ?_, ?_, ?_, ?_, ?_, ?_, ?_⟩
    all_goals first | (simp; done) | (simp; omega) | (go_simp; done)
  case round =>
    clear hE3 hc3 d0 d1 d2 p0 p1 p2
    obtain ⟨j, hj, rfl, hEr, hBr, y0, y1, yr, d0, d1, d2, p0, p1, p2, r0, r1⟩ := hrel
    rcases (by omega : j = 0 ∨ j = 1 ∨ j = 2) with rfl | rfl | rfl
    · obtain ⟨k', l', g', e, cp, ho⟩ := O1.out
      have CP := Lib.hid cp
      clear cp
      go_wp2_with fail
      refine (CP.out _ hEr).mono ?_
      rintro e' w5 ⟨rfl, hb5⟩
      have hE5 := hEr.on hb5
      have hB5 := hBr.trans (hb5.mono hBr.size)
      replace d0 := keep_cell hb5 y0 d0
      replace d1 := keep_cell hb5 y0 d1
      replace d2 := keep_cell hb5 y0 d2
      replace p0 := keep_cell hb5 y1 p0
      replace p1 := keep_cell hb5 y1 p1
      replace p2 := keep_cell hb5 y1 p2
      replace r0 := keep_cell hb5 yr r0
      replace r1 := keep_cell hb5 yr r1
      replace y0 := keep_lt hb5 y0
      replace y1 := keep_lt hb5 y1
      replace yr := keep_lt hb5 yr
      clear hEr hBr hb5
      rcases ho with rfl | ⟨rfl, hne⟩ | ⟨rfl, h1, h2, h3, hX⟩
      · go_wp2_with fail
        go_roundw
        case rel =>
          refine ⟨1, by omega, rfl, hE5.on (by go_grown), chain hB5 (by go_grown), ?_, ?_, ?_, ?_, ?_, ?_, ?_, ?_, ?_, ?_, ?_⟩
          all_goals first | (simp; done) | (simp; omega) | (go_simp; done)
        case measure => simp [intOf]
      · have hq := d_eql k' l' g' kd s G false ⟨fun h => absurd h hne, fun h => by simp at h⟩
        clear hne
        go_wp2_with fail
        go_roundw
        case rel =>
          refine ⟨1, by omega, rfl, hE5.on (by go_grown), chain hB5 (by go_grown), ?_, ?_, ?_, ?_, ?_, ?_, ?_, ?_, ?_, ?_, ?_⟩
          all_goals first | (simp; done) | (simp; omega) | (go_simp; done)
        case measure => simp [intOf]
      · have hq := d_eql k' l' g' kd s G true ⟨fun _ => rfl, fun _ => ⟨h1, h2, h3⟩⟩
        have hn : (X1.toList == S.toList) = true := by
          rw [hX]
          simp
        clear h1 h2 h3 hX
        go_wp2_with fail
        go_roundw
        case rel =>
          refine ⟨1, by omega, rfl, hE5.on (by go_grown), chain hB5 (by go_grown), ?_, ?_, ?_, ?_, ?_, ?_, ?_, ?_, ?_, ?_, ?_⟩
          all_goals first | (simp; done) | (simp; omega) | (go_simp; done)
        case measure => simp [intOf]
    · obtain ⟨k', l', g', e, cp, ho⟩ := O2.out
      have CP := Lib.hid cp
      clear cp
      go_wp2_with fail
      refine (CP.out _ hEr).mono ?_
      rintro e' w5 ⟨rfl, hb5⟩
      have hE5 := hEr.on hb5
      have hB5 := hBr.trans (hb5.mono hBr.size)
      replace d0 := keep_cell hb5 y0 d0
      replace d1 := keep_cell hb5 y0 d1
      replace d2 := keep_cell hb5 y0 d2
      replace p0 := keep_cell hb5 y1 p0
      replace p1 := keep_cell hb5 y1 p1
      replace p2 := keep_cell hb5 y1 p2
      replace r0 := keep_cell hb5 yr r0
      replace r1 := keep_cell hb5 yr r1
      replace y0 := keep_lt hb5 y0
      replace y1 := keep_lt hb5 y1
      replace yr := keep_lt hb5 yr
      clear hEr hBr hb5
      rcases ho with rfl | ⟨rfl, hne⟩ | ⟨rfl, h1, h2, h3, hX⟩
      · go_wp2_with fail
        go_roundw
        case rel =>
          refine ⟨2, by omega, rfl, hE5.on (by go_grown), chain hB5 (by go_grown), ?_, ?_, ?_, ?_, ?_, ?_, ?_, ?_, ?_, ?_, ?_⟩
          all_goals first | (simp; done) | (simp; omega) | (go_simp; done)
        case measure => simp [intOf]
      · have hq := d_eql k' l' g' kd s G false ⟨fun h => absurd h hne, fun h => by simp at h⟩
        clear hne
        go_wp2_with fail
        go_roundw
        case rel =>
          refine ⟨2, by omega, rfl, hE5.on (by go_grown), chain hB5 (by go_grown), ?_, ?_, ?_, ?_, ?_, ?_, ?_, ?_, ?_, ?_, ?_⟩
          all_goals first | (simp; done) | (simp; omega) | (go_simp; done)
        case measure => simp [intOf]
      · have hq := d_eql k' l' g' kd s G true ⟨fun _ => rfl, fun _ => ⟨h1, h2, h3⟩⟩
        have hn : (X2.toList == S.toList) = true := by
          rw [hX]
          simp
        clear h1 h2 h3 hX
        go_wp2_with fail
        go_roundw
        case rel =>
          refine ⟨2, by omega, rfl, hE5.on (by go_grown), chain hB5 (by go_grown), ?_, ?_, ?_, ?_, ?_, ?_, ?_, ?_, ?_, ?_, ?_⟩
          all_goals first | (simp; done) | (simp; omega) | (go_simp; done)
        case measure => simp [intOf]
    · go_wp2_with fail
      refine wp_region_held_drew (S := fun W' => W'.cell? ⟨w1.heap.size, 0, none⟩ = some (.int .i64 kd)) (by kernel_rfl) ?_ (fun hHeld => ?_)
      · go_keep
      refine' wpAnyH_take (i := 0) (oi := _) (v := _) ?_ (by kernel_rfl) (by kernel_rfl) (by kernel_rfl) ?_ (Or.inl ⟨?_, ?_⟩) (by assumption) ?_
      rotate_left 2
      · (simp only [List.getElem?_toArray, List.getElem?_cons_succ, List.getElem?_cons_zero]; rfl)
      · exact fun _ _ _ h => h
      · rfl
      · (intro W hSW; (try dsimp only at hSW); go_split_ands; first | (go_simp; done) | (go_simp; with_reducible rfl))
      try simp only [Act.put, List.setIfInBounds_toArray, List.set_cons_zero, List.set_cons_succ]
      refine' wpAnyH_take (i := 1) (oi := _) (v := _) ?_ (by kernel_rfl) (by kernel_rfl) (by kernel_rfl) ?_ (Or.inl ⟨?_, ?_⟩) (by assumption) ?_
      rotate_left 2
      · (simp only [List.getElem?_toArray, List.getElem?_cons_succ, List.getElem?_cons_zero]; rfl)
      · exact fun _ _ _ h => h
      · rfl
      · (intro W hSW; (try dsimp only at hSW); go_split_ands; first | (go_simp; done) | (go_simp; with_reducible rfl))
      try simp only [Act.put, List.setIfInBounds_toArray, List.set_cons_zero, List.set_cons_succ]
      refine' wpAnyH_take (i := 2) (oi := _) (v := _) ?_ (by kernel_rfl) (by kernel_rfl) (by kernel_rfl) ?_ (Or.inl ⟨?_, ?_⟩) (by assumption) ?_
      rotate_left 2
      · (simp only [List.getElem?_toArray, List.getElem?_cons_succ, List.getElem?_cons_zero]; rfl)
      · exact fun _ _ _ h => h
      · rfl
      · (intro W hSW; (try dsimp only at hSW); go_split_ands; first | (go_simp; done) | (go_simp; with_reducible rfl))
      try simp only [Act.put, List.setIfInBounds_toArray, List.set_cons_zero, List.set_cons_succ]
      refine' wpAnyH_take (i := 3) (oi := _) (v := _) ?_ (by kernel_rfl) (by kernel_rfl) (by kernel_rfl) ?_ (Or.inl ⟨?_, ?_⟩) (by assumption) ?_
      rotate_left 2
      · (simp only [List.getElem?_toArray, List.getElem?_cons_succ, List.getElem?_cons_zero]; rfl)
      · exact fun _ _ _ h => h
      · rfl
      · (intro W hSW; (try dsimp only at hSW); go_split_ands; first | (go_simp; done) | (go_simp; with_reducible rfl))
      try simp only [Act.put, List.setIfInBounds_toArray, List.set_cons_zero, List.set_cons_succ]
      refine' wpAnyH_take (i := 4) (oi := _) (v := _) ?_ (by kernel_rfl) (by kernel_rfl) (by kernel_rfl) ?_ (Or.inl ⟨?_, ?_⟩) (by assumption) ?_
      rotate_left 2
      · (simp only [List.getElem?_toArray, List.getElem?_cons_succ, List.getElem?_cons_zero]; rfl)
      · exact fun _ _ _ h => h
      · rfl
      · (intro W hSW; (try dsimp only at hSW); go_split_ands; first | (go_simp; done) | (go_simp; with_reducible rfl))
      try simp only [Act.put, List.setIfInBounds_toArray, List.set_cons_zero, List.set_cons_succ]
      refine' wpAnyH_take (i := 5) (oi := _) (v := _) ?_ (by kernel_rfl) (by kernel_rfl) (by kernel_rfl) ?_ (Or.inl ⟨?_, ?_⟩) (by assumption) ?_
      rotate_left 2
      · (simp only [List.getElem?_toArray, List.getElem?_cons_succ, List.getElem?_cons_zero]; rfl)
      · exact fun _ _ _ h => h
      · rfl
      · (intro W hSW; (try dsimp only at hSW); go_split_ands; first | (go_simp; done) | (go_simp; with_reducible rfl))
      try simp only [Act.put, List.setIfInBounds_toArray, List.set_cons_zero, List.set_cons_succ]
      refine' wpAnyH_take (i := 6) (oi := _) (v := _) ?_ (by kernel_rfl) (by kernel_rfl) (by kernel_rfl) ?_ (Or.inl ⟨?_, ?_⟩) (by assumption) ?_
      rotate_left 2
      · (simp only [List.getElem?_toArray, List.getElem?_cons_succ, List.getElem?_cons_zero]; rfl)
      · exact fun _ _ _ h => h
      · rfl
      · (intro W hSW; (try dsimp only at hSW); go_split_ands; first | (go_simp; done) | (go_simp; with_reducible rfl))
      try simp only [Act.put, List.setIfInBounds_toArray, List.set_cons_zero, List.set_cons_succ]
      refine' wpAnyH_take (i := 7) (oi := _) (v := _) ?_ (by kernel_rfl) (by kernel_rfl) (by kernel_rfl) ?_ (Or.inl ⟨?_, ?_⟩) (by assumption) ?_
      rotate_left 2
      · (simp only [List.getElem?_toArray, List.getElem?_cons_succ, List.getElem?_cons_zero]; rfl)
      · exact fun _ _ _ h => h
      · rfl
      · (intro W hSW; (try dsimp only at hSW); go_split_ands; first | (go_simp; done) | (go_simp; with_reducible rfl))
      try simp only [Act.put, List.setIfInBounds_toArray, List.set_cons_zero, List.set_cons_succ]
      refine' wpAnyH_take (i := 8) (oi := _) (v := _) ?_ (by kernel_rfl) (by kernel_rfl) (by kernel_rfl) ?_ (Or.inl ⟨?_, ?_⟩) (by assumption) ?_
      rotate_left 2
      · (simp only [List.getElem?_toArray, List.getElem?_cons_succ, List.getElem?_cons_zero]; rfl)
      · exact fun _ _ _ h => h
      · rfl
      · (intro W hSW; (try dsimp only at hSW); go_split_ands; first | (go_simp; done) | (go_simp; with_reducible rfl))
      try simp only [Act.put, List.setIfInBounds_toArray, List.set_cons_zero, List.set_cons_succ]
      refine' wpAnyH_take (i := 9) (oi := _) (v := _) ?_ (by kernel_rfl) (by kernel_rfl) (by kernel_rfl) ?_ (Or.inl ⟨?_, ?_⟩) (by assumption) ?_
      rotate_left 2
      · (simp only [List.getElem?_toArray, List.getElem?_cons_succ, List.getElem?_cons_zero]; rfl)
      · exact fun _ _ _ h => h
      · rfl
      · (intro W hSW; (try dsimp only at hSW); go_split_ands; first | (go_simp; done) | (go_simp; with_reducible rfl))
      try simp only [Act.put, List.setIfInBounds_toArray, List.set_cons_zero, List.set_cons_succ]
      refine' wpAnyH_take (i := 10) (oi := _) (v := _) ?_ (by kernel_rfl) (by kernel_rfl) (by kernel_rfl) ?_ (Or.inl ⟨?_, ?_⟩) (by assumption) ?_
      rotate_left 2
      · (simp only [List.getElem?_toArray, List.getElem?_cons_succ, List.getElem?_cons_zero]; rfl)
      · exact fun _ _ _ h => h
      · rfl
      · (intro W hSW; (try dsimp only at hSW); go_split_ands; first | (go_simp; done) | (go_simp; with_reducible rfl))
      try simp only [Act.put, List.setIfInBounds_toArray, List.set_cons_zero, List.set_cons_succ]
      refine' wpAnyH_take (i := 11) (oi := _) (v := _) ?_ (by kernel_rfl) (by kernel_rfl) (by kernel_rfl) ?_ (Or.inl ⟨?_, ?_⟩) (by assumption) ?_
      rotate_left 2
      · (simp only [List.getElem?_toArray, List.getElem?_cons_succ, List.getElem?_cons_zero]; rfl)
      · exact fun _ _ _ h => h
      · rfl
      · (intro W hSW; (try dsimp only at hSW); go_split_ands; first | (go_simp; done) | (go_simp; with_reducible rfl))
      try simp only [Act.put, List.setIfInBounds_toArray, List.set_cons_zero, List.set_cons_succ]
      refine' wpAnyH_take (i := 15) (oi := _) (v := _) ?_ (by kernel_rfl) (by kernel_rfl) (by kernel_rfl) ?_ (Or.inl ⟨?_, ?_⟩) (by assumption) ?_
      rotate_left 2
      · (simp only [List.getElem?_toArray, List.getElem?_cons_succ, List.getElem?_cons_zero]; rfl)
      · exact fun _ _ _ h => h
      · rfl
      · (intro W hSW; (try dsimp only at hSW); go_split_ands; first | (go_simp; done) | (go_simp; with_reducible rfl))
      try simp only [Act.put, List.setIfInBounds_toArray, List.set_cons_zero, List.set_cons_succ]
      refine' wpAnyH_take (i := 16) (oi := _) (v := _) ?_ (by kernel_rfl) (by kernel_rfl) (by kernel_rfl) ?_ (Or.inl ⟨?_, ?_⟩) (by assumption) ?_
      rotate_left 2
      · (simp only [List.getElem?_toArray, List.getElem?_cons_succ, List.getElem?_cons_zero]; rfl)
      · exact fun _ _ _ h => h
      · rfl
      · (intro W hSW; (try dsimp only at hSW); go_split_ands; first | (go_simp; done) | (go_simp; with_reducible rfl))
      try simp only [Act.put, List.setIfInBounds_toArray, List.set_cons_zero, List.set_cons_succ]
      refine' wpAnyH_take (i := 17) (oi := _) (v := _) ?_ (by kernel_rfl) (by kernel_rfl) (by kernel_rfl) ?_ (Or.inl ⟨?_, ?_⟩) (by assumption) ?_
      rotate_left 2
      · (simp only [List.getElem?_toArray, List.getElem?_cons_succ, List.getElem?_cons_zero]; rfl)
      · exact fun _ _ _ h => h
      · rfl
      · (intro W hSW; (try dsimp only at hSW); go_split_ands; first | (go_simp; done) | (go_simp; with_reducible rfl))
      try simp only [Act.put, List.setIfInBounds_toArray, List.set_cons_zero, List.set_cons_succ]
      refine' wpAnyH_take (i := 21) (oi := _) (v := _) ?_ (by kernel_rfl) (by kernel_rfl) (by kernel_rfl) ?_ (Or.inl ⟨?_, ?_⟩) (by assumption) ?_
      rotate_left 2
      · (simp only [List.getElem?_toArray, List.getElem?_cons_succ, List.getElem?_cons_zero]; rfl)
      · exact fun _ _ _ h => h
      · rfl
      · (intro W hSW; (try dsimp only at hSW); go_split_ands; first | (go_simp; done) | (go_simp; with_reducible rfl))
      try simp only [Act.put, List.setIfInBounds_toArray, List.set_cons_zero, List.set_cons_succ]
      refine wpAnyH_ready (rs := [12]) (by kernel_rfl) (by simp) ?_
      refine' AllReadyH.cons (o := _) ?_ (fun K hK => ?_) AllReadyH.nil
      rotate_left 1
      · (simp only [List.getElem?_toArray, List.getElem?_cons_succ, List.getElem?_cons_zero]; rfl)
      go_simp
      refine hK.out _ _ ?_ (fun hHeld => ?_)
      · go_keep
      clear hK K
      refine wpAnyH_more (S' := fun W' => W'.cell? ⟨w1.heap.size, 0, none⟩ = some (.int .i64 kd) ∧ W'.cell? ⟨wr.heap.size, 0, none⟩ = some (.int .u8 c)) (fun _ h => h.1) ?_ (fun hHeld => ?_)
      · go_keep
      refine' wpAnyH_take (i := 13) (oi := _) (v := _) ?_ (by kernel_rfl) (by kernel_rfl) (by kernel_rfl) ?_ (Or.inl ⟨?_, ?_⟩) (by assumption) ?_
      rotate_left 2
      · (simp only [List.getElem?_toArray, List.getElem?_cons_succ, List.getElem?_cons_zero]; rfl)
      · exact fun _ _ _ h => h
      · rfl
      · (intro W hSW; (try dsimp only at hSW); go_split_ands; first | (go_simp; done) | (go_simp; with_reducible rfl))
      try simp only [Act.put, List.setIfInBounds_toArray, List.set_cons_zero, List.set_cons_succ]
      refine' wpAnyH_take (i := 14) (oi := _) (v := _) ?_ (by kernel_rfl) (by kernel_rfl) (by kernel_rfl) ?_ (Or.inl ⟨?_, ?_⟩) (by assumption) ?_
      rotate_left 2
      · (simp only [List.getElem?_toArray, List.getElem?_cons_succ, List.getElem?_cons_zero]; rfl)
      · exact fun _ _ _ h => h
      · rfl
      · (intro W hSW; (try dsimp only at hSW); go_split_ands; first | (go_simp; done) | (go_simp; with_reducible rfl))
      try simp only [Act.put, List.setIfInBounds_toArray, List.set_cons_zero, List.set_cons_succ]
      refine' wpAnyH_take (i := 18) (oi := _) (v := _) ?_ (by kernel_rfl) (by kernel_rfl) (by kernel_rfl) ?_ (Or.inl ⟨?_, ?_⟩) (by assumption) ?_
      rotate_left 2
      · (simp only [List.getElem?_toArray, List.getElem?_cons_succ, List.getElem?_cons_zero]; rfl)
      · exact fun _ _ _ h => h
      · rfl
      · (intro W hSW; (try dsimp only at hSW); go_split_ands; first | (go_simp; done) | (go_simp; with_reducible rfl))
      try simp only [Act.put, List.setIfInBounds_toArray, List.set_cons_zero, List.set_cons_succ]
      refine wpAnyH_ready (rs := [19]) (by kernel_rfl) (by simp) ?_
      refine' AllReadyH.cons (o := _) ?_ (fun K hK => ?_) AllReadyH.nil
      rotate_left 1
      · (simp only [List.getElem?_toArray, List.getElem?_cons_succ, List.getElem?_cons_zero]; rfl)
      go_simp
      refine hK.out _ _ ?_ (fun hHeld => ?_)
      · go_keep
      clear hK K
      refine' wpAnyH_take (i := 20) (oi := _) (v := _) ?_ (by kernel_rfl) (by kernel_rfl) (by kernel_rfl) ?_ (Or.inl ⟨?_, ?_⟩) (by assumption) ?_
      rotate_left 2
      · (simp only [List.getElem?_toArray, List.getElem?_cons_succ, List.getElem?_cons_zero]; rfl)
      · exact fun _ _ _ h => h
      · rfl
      · (intro W hSW; (try dsimp only at hSW); go_split_ands; first | (go_simp; done) | (go_simp; with_reducible rfl))
      try simp only [Act.put, List.setIfInBounds_toArray, List.set_cons_zero, List.set_cons_succ]
      refine wpAnyH_done (by kernel_rfl) ?_ _
      go_wp2_with fail
      go_loopw [140] (fun t wq => ∃ j : Nat, j ≤ 2 ∧ t = .int .i64 j ∧ EnvP wq ∧ Below w.heap.size w wq ∧ w1.heap.size < wq.heap.size ∧ w1.heap.size + 1 < wq.heap.size ∧ wr.heap.size + 1 < wq.heap.size ∧ wq.cell? ⟨w1.heap.size, 0, none⟩ = some (.int .i64 kd) ∧ wq.cell? ⟨w1.heap.size, 1, none⟩ = some (.int .i64 s) ∧ wq.cell? ⟨w1.heap.size, 2, none⟩ = some (.int .u32 G) ∧ wq.cell? ⟨w1.heap.size + 1, 0, none⟩ = some (.int .i64 kd) ∧ wq.cell? ⟨w1.heap.size + 1, 1, none⟩ = some (.int .i64 L) ∧ wq.cell? ⟨w1.heap.size + 1, 2, none⟩ = some (.int .u32 G) ∧ wq.cell? ⟨wr.heap.size + 1, 0, none⟩ = some (.string Y1) ∧ wq.cell? ⟨wr.heap.size + 1, 1, none⟩ = some (.string Y2)) (fun t _ => 2 - (intOf t).toNat)
      case atStart =>
        refine ⟨0, by omega, rfl, hEr.on (by go_grown), chain hBr (by go_grown), ?_, ?_, ?_, ?_, ?_, ?_, ?_, ?_, ?_, ?_, ?_⟩
        all_goals first | (simp; done) | (simp; omega) | (go_simp; done)
      case round =>
        clear hEr hBr d0 d1 d2 p0 p1 p2 r0 r1
        obtain ⟨j, hj, rfl, hEr, hBr, y0, y1, yr, d0, d1, d2, p0, p1, p2, r0, r1⟩ := hrel
        rcases (by omega : j = 0 ∨ j = 1 ∨ j = 2) with rfl | rfl | rfl
        · obtain ⟨k', l', g', e, cp, ho⟩ := O3.out
          have CP := Lib.hid cp
          clear cp
          go_wp2_with fail
          refine (CP.out _ hEr).mono ?_
          rintro e' w5 ⟨rfl, hb5⟩
          have hE5 := hEr.on hb5
          have hB5 := hBr.trans (hb5.mono hBr.size)
          replace d0 := keep_cell hb5 y0 d0
          replace d1 := keep_cell hb5 y0 d1
          replace d2 := keep_cell hb5 y0 d2
          replace p0 := keep_cell hb5 y1 p0
          replace p1 := keep_cell hb5 y1 p1
          replace p2 := keep_cell hb5 y1 p2
          replace r0 := keep_cell hb5 yr r0
          replace r1 := keep_cell hb5 yr r1
          replace y0 := keep_lt hb5 y0
          replace y1 := keep_lt hb5 y1
          replace yr := keep_lt hb5 yr
          clear hEr hBr hb5
          rcases ho with rfl | ⟨rfl, hne⟩ | ⟨rfl, h1, h2, h3, hX⟩
          · go_wp2_with fail
            go_roundw
            case rel =>
              refine ⟨1, by omega, rfl, hE5.on (by go_grown), chain hB5 (by go_grown), ?_, ?_, ?_, ?_, ?_, ?_, ?_, ?_, ?_, ?_, ?_⟩
              all_goals first | (simp; done) | (simp; omega) | (go_simp; done)
            case measure => simp [intOf]
          · have hq := o_eql k' l' g' kd L G false ⟨fun h => absurd h hne, fun h => by simp at h⟩
            clear hne
            go_wp2_with fail
            go_roundw
            case rel =>
              refine ⟨1, by omega, rfl, hE5.on (by go_grown), chain hB5 (by go_grown), ?_, ?_, ?_, ?_, ?_, ?_, ?_, ?_, ?_, ?_, ?_⟩
              all_goals first | (simp; done) | (simp; omega) | (go_simp; done)
            case measure => simp [intOf]
          · have hq := o_eql k' l' g' kd L G true ⟨fun _ => rfl, fun _ => ⟨h1, h2, h3⟩⟩
            have hn : (Y1.toList == T.toList) = true := by
              rw [hX]
              simp
            clear h1 h2 h3 hX
            go_wp2_with fail
            go_roundw
            case rel =>
              refine ⟨1, by omega, rfl, hE5.on (by go_grown), chain hB5 (by go_grown), ?_, ?_, ?_, ?_, ?_, ?_, ?_, ?_, ?_, ?_, ?_⟩
              all_goals first | (simp; done) | (simp; omega) | (go_simp; done)
            case measure => simp [intOf]
        · obtain ⟨k', l', g', e, cp, ho⟩ := O4.out
          have CP := Lib.hid cp
          clear cp
          go_wp2_with fail
          refine (CP.out _ hEr).mono ?_
          rintro e' w5 ⟨rfl, hb5⟩
          have hE5 := hEr.on hb5
          have hB5 := hBr.trans (hb5.mono hBr.size)
          replace d0 := keep_cell hb5 y0 d0
          replace d1 := keep_cell hb5 y0 d1
          replace d2 := keep_cell hb5 y0 d2
          replace p0 := keep_cell hb5 y1 p0
          replace p1 := keep_cell hb5 y1 p1
          replace p2 := keep_cell hb5 y1 p2
          replace r0 := keep_cell hb5 yr r0
          replace r1 := keep_cell hb5 yr r1
          replace y0 := keep_lt hb5 y0
          replace y1 := keep_lt hb5 y1
          replace yr := keep_lt hb5 yr
          clear hEr hBr hb5
          rcases ho with rfl | ⟨rfl, hne⟩ | ⟨rfl, h1, h2, h3, hX⟩
          · go_wp2_with fail
            go_roundw
            case rel =>
              refine ⟨2, by omega, rfl, hE5.on (by go_grown), chain hB5 (by go_grown), ?_, ?_, ?_, ?_, ?_, ?_, ?_, ?_, ?_, ?_, ?_⟩
              all_goals first | (simp; done) | (simp; omega) | (go_simp; done)
            case measure => simp [intOf]
          · have hq := o_eql k' l' g' kd L G false ⟨fun h => absurd h hne, fun h => by simp at h⟩
            clear hne
            go_wp2_with fail
            go_roundw
            case rel =>
              refine ⟨2, by omega, rfl, hE5.on (by go_grown), chain hB5 (by go_grown), ?_, ?_, ?_, ?_, ?_, ?_, ?_, ?_, ?_, ?_, ?_⟩
              all_goals first | (simp; done) | (simp; omega) | (go_simp; done)
            case measure => simp [intOf]
          · have hq := o_eql k' l' g' kd L G true ⟨fun _ => rfl, fun _ => ⟨h1, h2, h3⟩⟩
            have hn : (Y2.toList == T.toList) = true := by
              rw [hX]
              simp
            clear h1 h2 h3 hX
            go_wp2_with fail
            go_roundw
            case rel =>
              refine ⟨2, by omega, rfl, hE5.on (by go_grown), chain hB5 (by go_grown), ?_, ?_, ?_, ?_, ?_, ?_, ?_, ?_, ?_, ?_, ?_⟩
              all_goals first | (simp; done) | (simp; omega) | (go_simp; done)
            case measure => simp [intOf]
        · go_wp2_with fail
          refine (works _ hEr).mono ?_
          rintro e w6 ⟨rfl, hb6⟩
          go_wp2_with fail
          go_returns
          exact ⟨rfl, chain hBr (hb6.mono (Nat.le_refl _))⟩
theorem cuts_walk (a s g t c : Int) (w : World) (hE : EnvP w) (a0 : 0 ≤ a) (a1 : a ≤ 255) (s0 : 0 ≤ s) (s1 : s ≤ 255) (g0 : 0 ≤ g) (g1 : g ≤ 4294967295) (t0 : 0 ≤ t) (t1 : t ≤ 255) (b0 : 0 ≤ c) (b1 : c ≤ 255) :
    Ret 10 #[.int .u8 a, .int .u8 s, .int .u32 g, .int .u8 t, .int .u8 c] w (.bool true) := by
  have c1 := fun w => made_c a s g a0 a1 s0 s1 g0 g1 w
  generalize hG : max g 1 = G at c1
  generalize hL : s % 64 = L at c1
  generalize hK : 1 + a % 3 = kd at c1
  have G1 : 1 ≤ G := by omega
  have Gm : G ≤ 4294967295 := by omega
  have L0 : 0 ≤ L := by omega
  have L1 : L ≤ 63 := by omega
  have K1 : 1 ≤ kd := by omega
  have K3 : kd ≤ 3 := by omega
  have hd : dOk 256 kd s G = true := dOk_iff.2 ⟨K1, K3, s0, by omega, by omega⟩
  have ho : dOk 64 kd L G = true := dOk_iff.2 ⟨K1, K3, L0, by omega, by omega⟩
  obtain ⟨z1, z1'⟩ := dText_size 46 (k := kd) (s := s) (g := G) (by omega) (by omega)
  obtain ⟨z2, z2'⟩ := dText_size 58 (k := kd) (s := L) (g := G) (by omega) (by omega)
  have c2 := fun w (hE : EnvP w) => d_text_ok kd s G w hE.toEnv hd (by omega) Gm
  have c3 := fun w (hE : EnvP w) => o_text_ok kd L G w hE.toEnv ho (by omega) Gm
  have o1 := fun X h => out_d X h kd s G
  have o3 := fun X h => out_o X h kd L G
  clear hG hL hK hd ho
  generalize dText 46 kd s G = S at *
  generalize dText 58 kd L G = T at *
  have q1 := Int.emod_nonneg t (show (S.size : Int) ≠ 0 by omega)
  have q2 := Int.emod_lt_of_pos t (show (0 : Int) < (S.size : Int) by omega)
  have q3 := Int.emod_nonneg t (show (T.size : Int) ≠ 0 by omega)
  have q4 := Int.emod_lt_of_pos t (show (0 : Int) < (T.size : Int) by omega)
  obtain ⟨k, hk⟩ := Int.eq_ofNat_of_zero_le q1
  obtain ⟨m, hm⟩ := Int.eq_ofNat_of_zero_le q3
  have hk1 : k < S.size := by omega
  have hm1 : m < T.size := by omega
  refine cuts_core a s g t c kd L G k m S T _ _ _ _ w hE s0 s1 t0 t1 b0 b1 z1 z2 hk hm hk1 hm1 rfl rfl rfl rfl c1 c2 c3 (o1 _ ?_) (o1 _ ?_) (o3 _ ?_) (o3 _ ?_)
  · rw [cut1_size S k hk1]; omega
  · rw [cut2_size S _ k hk1]; omega
  · rw [cut1_size T m hm1]; omega
  · rw [cut2_size T _ m hm1]; omega
end Go.Proofs.YtjonbmocamjhaaaDoor
