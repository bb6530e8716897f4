/- FieldsReads. -/
import Derived.Test.YtpegkcmomkdoeaaDoorWorks13
import Derived.Test.YtpegkcmomkdoeaaDoorDigits
namespace Go.Proofs.YtpegkcmomkdoeaaDoor
open Go.RowKit
set_option linter.unusedVariables false
set_option linter.unusedSimpArgs false

theorem par_ne {s t : ByteArray} (hs : t.size ≠ s.size) {n : Int} {a b c d : Rf} {h : Bool} (hi : IsO s.data.toList n a b c d h) :
    ∃ (n' : Int) (a' b' c' d' : Rf) (h' : Bool) (e : Int), parV (cutAll 32 t.data.toList) t = .tuple #[obR n' a' b' c' d' h', .int .i64 e] ∧ (e = 9 ∨ (e = 0 ∧ eqO n' a' b' c' d' h' n a b c d h = false)) := by
  by_cases hx : ∃ n a b c d h, IsO t.data.toList n a b c d h
  · obtain ⟨n', a', b', c', d', h', hj⟩ := hx
    refine ⟨n', a', b', c', d', h', 0, parV_is hj, .inr ⟨rfl, ?_⟩⟩
    cases hq : eqO n' a' b' c' d' h' n a b c d h with
    | false => rfl
    | true =>
      exfalso
      unfold eqO at hq
      simp only [Bool.and_eq_true, decide_eq_true_iff, beq_iff_eq] at hq
      obtain ⟨rfl, ⟨rfl, rfl, rfl, rfl⟩, rfl⟩ := hq
      apply hs
      rw [← len_bytes, ← len_bytes, hj.eq, hi.eq]
  · exact ⟨0, (0, 0), (0, 0), (0, 0), (0, 0), false, 9, parV_not (fun n a b c d h hi => hx ⟨n, a, b, c, d, h, hi⟩), .inl rfl⟩
theorem neq_objF (n : Int) (a b c d : Rf) (h : Bool) (n' : Int) (a' b' c' d' : Rf) (h' : Bool) : ∀ W, (binOp .neq 27 (obR n a b c d h) (obR n' a' b' c' d' h')).run Tryd.prog W = .ok (.bool (!eqO n a b c d h n' a' b' c' d' h')) W := by
  intro W
  have e := eq_arr a b c d a' b' c' d'
  unfold eqO
  generalize (decide (a = a') && (decide (b = b') && (decide (c = c') && decide (d = d')))) = q at *
  go_simp
  by_cases hn : n = n' <;> cases q <;> cases h <;> cases h' <;> simp_all [Result.andThen]
set_option maxHeartbeats 16000000 in
set_option maxRecDepth 20000 in
theorem reads_core (n s0 g0 s1 g1 s2 g2 s3 g3 : Int) (h : Bool) (n' a0 b0 a1 b1 a2 b2 a3 b3 : Int) (h' : Bool) (e' : Int) (s X : ByteArray) (c at_ : Int) (k : Nat) (w : World) (hE : EnvP w) (hs : s.size ≤ 300)
    (hc0 : 0 ≤ c) (hc1 : c ≤ 255) (ht0 : 0 ≤ at_) (ht1 : at_ ≤ 255) (hk : at_ % ((s.size : Int) + 1) = k) (hk1 : k ≤ s.size)
    (e2 : s.extract 0 k ++ ⟨#[UInt8.ofNat c.toNat]⟩ ++ s.extract k s.size = X)
    (c1 : ∀ w, EnvP w → Ret 25 #[.string s] w (.tuple #[obV n s0 g0 s1 g1 s2 g2 s3 g3 h, .int .i64 0]))
    (c2 : ∀ w, Env w → Ret 23 #[obV n s0 g0 s1 g1 s2 g2 s3 g3 h] w (.tuple #[.string s, .int .i64 0]))
    (c3 : ∀ w, EnvP w → Ret 25 #[.string X] w (.tuple #[obV n' a0 b0 a1 b1 a2 b2 a3 b3 h', .int .i64 e']))
    (c4 : ∀ w, Ret 13 #[obV n s0 g0 s1 g1 s2 g2 s3 g3 h] w (.int .i64 0))
    (hne : e' = 9 ∨ (e' = 0 ∧ ∀ W, (binOp .neq 27 (obV n' a0 b0 a1 b1 a2 b2 a3 b3 h') (obV n s0 g0 s1 g1 s2 g2 s3 g3 h)).run Tryd.prog W = .ok (.bool true) W)) :
    Ret 8 #[.string s, .int .u8 c, .int .u8 at_] w (.bool true) := by
  have hcv := conv_one c hc0 hc1
  have hs' : (s.size : Int) ≤ 300 := by omega
  have k2 : (k : Int) ≤ (s.size : Int) := by omega
  have z1 : ¬ (s.size : Int) + 1 = 0 := by omega
  have z2 : ¬ s.size + 1 = 0 := by omega
  have tm : Int.tmod at_ ((s.size : Int) + 1) = k := by rw [Int.tmod_eq_emod_of_nonneg ht0]; exact hk
  have ra2 := add_run (a := s.extract 0 k) (b := ⟨#[UInt8.ofNat c.toNat]⟩) rfl (by simp only [ByteArray.size_extract, show (ByteArray.mk #[UInt8.ofNat c.toNat]).size = 1 from rfl]; omega)
  have ra3 := add_run e2 (by simp only [ByteArray.size_append, ByteArray.size_extract, show (ByteArray.mk #[UInt8.ofNat c.toNat]).size = 1 from rfl]; omega)
  have wa : IntKind.i64.wrap at_ = at_ := IntWalk.i64_in _ ⟨by omega, by omega⟩
  have wS : IntKind.i64.wrap (s.size : Int) = s.size := IntWalk.i64_in _ ⟨by omega, by omega⟩
  have wS1 : IntKind.i64.wrap ((s.size : Int) + 1) = s.size + 1 := IntWalk.i64_in _ ⟨by omega, by omega⟩
  have wk : IntKind.i64.wrap (k : Int) = k := IntWalk.i64_in _ ⟨by omega, by omega⟩
  have C1 := Lib.hid c1
  have C2 := Lib.hid c2
  have C3 := Lib.hid c3
  have C4 := Lib.hid c4
  have HN := Lib.hid hne
  have HE := Lib.hid hE
  clear c1 c2 c3 c4 hne hE e2
  go_enter Tryd.func8, Tryd.ntmps8
  go_wp2_with fail
  refine Calls.mono (C1.out _ HE.out) ?_
  rintro e w1 ⟨rfl, hb1⟩
  have hc : Below w.heap.size w w1 := hb1
  clear hb1
  go_wp2_with fail
  have r1 : Row (w1.alloc (.cells (obC n s0 g0 s1 g1 s2 g2 s3 g3 h) 27)) w1.heap.size (obC n s0 g0 s1 g1 s2 g2 s3 g3 h) 27 := Row.new
  replace hc := hc.alloc hc.size (.cells (obC n s0 g0 s1 g1 s2 g2 s3 g3 h) 27)
  refine Calls.mono (C2.out _ (HE.out.toEnv.on hc)) ?_
  rintro e w2 ⟨rfl, hb2⟩
  replace r1 := r1.on hb2
  replace hc := chain hc hb2
  clear hb2
  generalize w1.heap.size = x1 at *
  go_wp2_with fail
  go_cut [12, 13] (fun s12 s13 wx => ∃ x2, s12 = .pointer (some ⟨x2, 0, none⟩) ∧ s13 = .int .i64 e' ∧ x2 ≠ x1 ∧ Row wx x1 (obC n s0 g0 s1 g1 s2 g2 s3 g3 h) 27 ∧ Row wx x2 (obC n' a0 b0 a1 b1 a2 b2 a3 b3 h') 27 ∧ Below w.heap.size w wx)
  case first =>
   refine wp_region_held_drew (S := fun W' => w.heap.size ≤ W'.heap.size) (by kernel_rfl) hc.size (fun hHeld => ?_)
   replace r1 := r1.drew
   replace hc := hc.drew
   generalize w2.drew = W_0 at *
   refine' wpAnyH_take (i := 0) (oi := _) (v := _) ?_ (by kernel_rfl) (by kernel_rfl) (by kernel_rfl) ?_ (Or.inl ⟨?_, ?_⟩) (by assumption) ?_
   rotate_left 2
   · (simp only [List.getElem?_toArray, List.getElem?_cons_succ, List.getElem?_cons_zero]; rfl)
   · first | exact fun _ _ _ h => h | exact fun _ _ _ h => nomatch h.1
   · rfl
   · (intro W hSW; (try dsimp only at hSW); go_split_ands; first | (go_simp; done) | (go_simp; with_reducible rfl))
   try simp only [Act.put, List.setIfInBounds_toArray, List.set_cons_zero, List.set_cons_succ]
   refine' wpAnyH_take (i := 1) (oi := _) (v := _) ?_ (by kernel_rfl) (by kernel_rfl) (by kernel_rfl) ?_ (Or.inl ⟨?_, ?_⟩) (by assumption) ?_
   rotate_left 2
   · (simp only [List.getElem?_toArray, List.getElem?_cons_succ, List.getElem?_cons_zero]; rfl)
   · first | exact fun _ _ _ h => h | exact fun _ _ _ h => nomatch h.1
   · rfl
   · (intro W hSW; (try dsimp only at hSW); go_split_ands; first | (go_simp; done) | (go_simp; with_reducible rfl))
   try simp only [Act.put, List.setIfInBounds_toArray, List.set_cons_zero, List.set_cons_succ]
   refine' wpAnyH_take (i := 2) (oi := _) (v := _) ?_ (by kernel_rfl) (by kernel_rfl) (by kernel_rfl) ?_ (Or.inl ⟨?_, ?_⟩) (by assumption) ?_
   rotate_left 2
   · (simp only [List.getElem?_toArray, List.getElem?_cons_succ, List.getElem?_cons_zero]; rfl)
   · first | exact fun _ _ _ h => h | exact fun _ _ _ h => nomatch h.1
   · rfl
   · (intro W hSW; (try dsimp only at hSW); go_split_ands; first | (go_simp; done) | (go_simp; with_reducible rfl))
   try simp only [Act.put, List.setIfInBounds_toArray, List.set_cons_zero, List.set_cons_succ]
   refine' wpAnyH_take (i := 3) (oi := _) (v := _) ?_ (by kernel_rfl) (by kernel_rfl) (by kernel_rfl) ?_ (Or.inl ⟨?_, ?_⟩) (by assumption) ?_
   rotate_left 2
   · (simp only [List.getElem?_toArray, List.getElem?_cons_succ, List.getElem?_cons_zero]; rfl)
   · first | exact fun _ _ _ h => h | exact fun _ _ _ h => nomatch h.1
   · rfl
   · (intro W hSW; (try dsimp only at hSW); go_split_ands; first | (go_simp; done) | (go_simp; with_reducible rfl))
   try simp only [Act.put, List.setIfInBounds_toArray, List.set_cons_zero, List.set_cons_succ]
   refine' wpAnyH_take (i := 7) (oi := _) (v := _) ?_ (by kernel_rfl) (by kernel_rfl) (by kernel_rfl) ?_ (Or.inl ⟨?_, ?_⟩) (by assumption) ?_
   rotate_left 2
   · (simp only [List.getElem?_toArray, List.getElem?_cons_succ, List.getElem?_cons_zero]; rfl)
   · first | exact fun _ _ _ h => h | exact fun _ _ _ h => nomatch h.1
   · rfl
   · (intro W hSW; (try dsimp only at hSW); go_split_ands; first | (go_simp; done) | (go_simp; with_reducible rfl))
   try simp only [Act.put, List.setIfInBounds_toArray, List.set_cons_zero, List.set_cons_succ]
   refine' wpAnyH_take (i := 8) (oi := _) (v := _) ?_ (by kernel_rfl) (by kernel_rfl) (by kernel_rfl) ?_ (Or.inl ⟨?_, ?_⟩) (by assumption) ?_
   rotate_left 2
   · (simp only [List.getElem?_toArray, List.getElem?_cons_succ, List.getElem?_cons_zero]; rfl)
   · first | exact fun _ _ _ h => h | exact fun _ _ _ h => nomatch h.1
   · rfl
   · (intro W hSW; (try dsimp only at hSW); go_split_ands; first | (go_simp; done) | (go_simp; with_reducible rfl))
   try simp only [Act.put, List.setIfInBounds_toArray, List.set_cons_zero, List.set_cons_succ]
   refine' wpAnyH_take (i := 9) (oi := _) (v := _) ?_ (by kernel_rfl) (by kernel_rfl) (by kernel_rfl) ?_ (Or.inl ⟨?_, ?_⟩) (by assumption) ?_
   rotate_left 2
   · (simp only [List.getElem?_toArray, List.getElem?_cons_succ, List.getElem?_cons_zero]; rfl)
   · first | exact fun _ _ _ h => h | exact fun _ _ _ h => nomatch h.1
   · rfl
   · (intro W hSW; (try dsimp only at hSW); go_split_ands; first | (go_simp; done) | (go_simp; with_reducible rfl))
   try simp only [Act.put, List.setIfInBounds_toArray, List.set_cons_zero, List.set_cons_succ]
   clear hHeld
   refine wpAnyH_ready (rs := [4, 15]) (by kernel_rfl) (by simp) ?_
   refine' AllReadyH.cons (o := _) (by simp only [List.getElem?_toArray, List.getElem?_cons_succ, List.getElem?_cons_zero]; rfl) (fun K hK => ?_) (AllReadyH.cons (o := _) (by simp only [List.getElem?_toArray, List.getElem?_cons_succ, List.getElem?_cons_zero]; rfl) (fun K hK => ?_) AllReadyH.nil)
   · go_simp
     have hn := below_alloc W_0 (.cells #[.int .u8 c] 5)
     have rb : Row (W_0.alloc (.cells #[.int .u8 c] 5)) W_0.heap.size #[.int .u8 c] 5 := Row.new
     replace r1 := r1.on hn
     replace hc := chain hc hn
     clear hn
     generalize (W_0.alloc (.cells #[.int .u8 c] 5)) = W_4 at *
     generalize W_0.heap.size = xb at *
     refine hK.out _ _ hc.size (fun _ => ?_)
     clear hK K
     refine wpAnyH_more (S' := fun W' => w.heap.size ≤ W'.heap.size ∧ W'.cell? ⟨xb, 0, none⟩ = some (.int .u8 c)) (fun _ h => h.1) ⟨hc.size, rb.cell 0⟩ (fun hHeld => ?_)
     refine' wpAnyH_take (i := 5) (oi := _) (v := _) ?_ (by kernel_rfl) (by kernel_rfl) (by kernel_rfl) ?_ (Or.inl ⟨?_, ?_⟩) (by assumption) ?_
     rotate_left 2
     · (simp only [List.getElem?_toArray, List.getElem?_cons_succ, List.getElem?_cons_zero]; rfl)
     · first | exact fun _ _ _ h => h | exact fun _ _ _ h => nomatch h.1
     · rfl
     · (intro W hSW; (try dsimp only at hSW); go_split_ands; first | (go_simp; done) | (go_simp; with_reducible rfl))
     try simp only [Act.put, List.setIfInBounds_toArray, List.set_cons_zero, List.set_cons_succ]
     refine' wpAnyH_take (i := 6) (oi := _) (v := _) ?_ (by kernel_rfl) (by kernel_rfl) (by kernel_rfl) ?_ (Or.inl ⟨?_, ?_⟩) (by assumption) ?_
     rotate_left 2
     · (simp only [List.getElem?_toArray, List.getElem?_cons_succ, List.getElem?_cons_zero]; rfl)
     · first | exact fun _ _ _ h => h | exact fun _ _ _ h => nomatch h.1
     · rfl
     · (intro W hSW; (try dsimp only at hSW); go_split_ands; first | (go_simp; done) | (go_simp; with_reducible rfl))
     try simp only [Act.put, List.setIfInBounds_toArray, List.set_cons_zero, List.set_cons_succ]
     refine' wpAnyH_take (i := 10) (oi := _) (v := _) ?_ (by kernel_rfl) (by kernel_rfl) (by kernel_rfl) ?_ (Or.inl ⟨?_, ?_⟩) (by assumption) ?_
     rotate_left 2
     · (simp only [List.getElem?_toArray, List.getElem?_cons_succ, List.getElem?_cons_zero]; rfl)
     · first | exact fun _ _ _ h => h | exact fun _ _ _ h => nomatch h.1
     · rfl
     · (intro W hSW; (try dsimp only at hSW); go_split_ands; first | (go_simp; done) | (go_simp; with_reducible rfl))
     try simp only [Act.put, List.setIfInBounds_toArray, List.set_cons_zero, List.set_cons_succ]
     clear hHeld
     refine wpAnyH_ready (rs := [11, 15]) (by kernel_rfl) (by simp) ?_
     refine' AllReadyH.cons (o := _) (by simp only [List.getElem?_toArray, List.getElem?_cons_succ, List.getElem?_cons_zero]; rfl) (fun K hK => ?_) (AllReadyH.cons (o := _) (by simp only [List.getElem?_toArray, List.getElem?_cons_succ, List.getElem?_cons_zero]; rfl) (fun K hK => ?_) AllReadyH.nil)
     · go_simp
       refine Calls.mono (C3.out _ (HE.out.on hc)) ?_
       rintro e W_411 ⟨rfl, hn⟩
       replace r1 := r1.on hn
       replace rb := rb.on hn
       replace hc := chain hc hn
       clear hn
       go_simp
       refine hK.out _ _ ⟨hc.size, rb.cell 0⟩ (fun _ => ?_)
       clear hK K
       refine' wpAnyH_take (i := 12) (oi := _) (v := _) ?_ (by kernel_rfl) (by kernel_rfl) (by kernel_rfl) ?_ (Or.inl ⟨?_, ?_⟩) (by assumption) ?_
       rotate_left 2
       · (simp only [List.getElem?_toArray, List.getElem?_cons_succ, List.getElem?_cons_zero]; rfl)
       · first | exact fun _ _ _ h => h | exact fun _ _ _ h => nomatch h.1
       · rfl
       · (intro W hSW; (try dsimp only at hSW); go_split_ands; first | (go_simp; done) | (go_simp; with_reducible rfl))
       try simp only [Act.put, List.setIfInBounds_toArray, List.set_cons_zero, List.set_cons_succ]
       refine' wpAnyH_take (i := 13) (oi := _) (v := _) ?_ (by kernel_rfl) (by kernel_rfl) (by kernel_rfl) ?_ (Or.inl ⟨?_, ?_⟩) (by assumption) ?_
       rotate_left 2
       · (simp only [List.getElem?_toArray, List.getElem?_cons_succ, List.getElem?_cons_zero]; rfl)
       · first | exact fun _ _ _ h => h | exact fun _ _ _ h => nomatch h.1
       · rfl
       · (intro W hSW; (try dsimp only at hSW); go_split_ands; first | (go_simp; done) | (go_simp; with_reducible rfl))
       try simp only [Act.put, List.setIfInBounds_toArray, List.set_cons_zero, List.set_cons_succ]
       refine' wpAnyH_take (i := 14) (oi := _) (v := _) ?_ (by kernel_rfl) (by kernel_rfl) (by kernel_rfl) ?_ (Or.inl ⟨?_, ?_⟩) (by assumption) ?_
       rotate_left 2
       · (simp only [List.getElem?_toArray, List.getElem?_cons_succ, List.getElem?_cons_zero]; rfl)
       · first | exact fun _ _ _ h => h | exact fun _ _ _ h => nomatch h.1
       · rfl
       · (intro W hSW; (try dsimp only at hSW); go_split_ands; first | (go_simp; done) | (go_simp; with_reducible rfl))
       try simp only [Act.put, List.setIfInBounds_toArray, List.set_cons_zero, List.set_cons_succ]
       refine wpAnyH_ready (rs := [15]) (by kernel_rfl) (by simp) ?_
       refine' AllReadyH.cons (o := _) (by simp only [List.getElem?_toArray, List.getElem?_cons_succ, List.getElem?_cons_zero]; rfl) (fun K hK => ?_) AllReadyH.nil
       · go_simp
         have hn := below_alloc W_411 (.cells ob0C 27)
         have r2 : Row (W_411.alloc (.cells ob0C 27)) W_411.heap.size ob0C 27 := Row.new
         have hxy : W_411.heap.size ≠ x1 := Nat.ne_of_gt r1.lt
         have hx2 : w.heap.size ≤ W_411.heap.size := hc.size
         replace r1 := r1.on hn
         replace hc := chain hc hn
         have hyb : W_411.heap.size ≠ xb := Nat.ne_of_gt rb.lt
         replace rb := rb.on hn
         clear hn
         generalize (W_411.alloc (.cells ob0C 27)) = W_41115 at *
         generalize W_411.heap.size = x2 at *
         refine hK.out _ _ ⟨hc.size, rb.cell 0⟩ (fun _ => ?_)
         clear hK K
         have y0 := r2.cell
         have y1 := r2.free
         have y2 := r2.lt
         refine wpAnyH_ready (rs := [16]) (by kernel_rfl) (by simp) ?_
         refine' AllReadyH.cons (o := _) ?_ (fun K hK => ?_) AllReadyH.nil
         rotate_left 1
         · (simp only [List.getElem?_toArray, List.getElem?_cons_succ, List.getElem?_cons_zero]; rfl)
         go_simp
         replace r1 := ((((((((((r1.other hxy 0 (.int .i64 n')).other hxy 1 (.int .i64 a0)).other hxy 2 (.int .u32 b0)).other hxy 3 (.int .i64 a1)).other hxy 4 (.int .u32 b1)).other hxy 5 (.int .i64 a2)).other hxy 6 (.int .u32 b2)).other hxy 7 (.int .i64 a3)).other hxy 8 (.int .u32 b3)).other hxy 9 (.bool h'))
         replace r2 := ((((((((((r2.set 0 (.int .i64 n')).set 1 (.int .i64 a0)).set 2 (.int .u32 b0)).set 3 (.int .i64 a1)).set 4 (.int .u32 b1)).set 5 (.int .i64 a2)).set 6 (.int .u32 b2)).set 7 (.int .i64 a3)).set 8 (.int .u32 b3)).set 9 (.bool h'))
         replace hc := ((((((((((hc.setCell (p := ⟨x2, 0, none⟩) hx2 (.int .i64 n')).setCell (p := ⟨x2, 1, none⟩) hx2 (.int .i64 a0)).setCell (p := ⟨x2, 2, none⟩) hx2 (.int .u32 b0)).setCell (p := ⟨x2, 3, none⟩) hx2 (.int .i64 a1)).setCell (p := ⟨x2, 4, none⟩) hx2 (.int .u32 b1)).setCell (p := ⟨x2, 5, none⟩) hx2 (.int .i64 a2)).setCell (p := ⟨x2, 6, none⟩) hx2 (.int .u32 b2)).setCell (p := ⟨x2, 7, none⟩) hx2 (.int .i64 a3)).setCell (p := ⟨x2, 8, none⟩) hx2 (.int .u32 b3)).setCell (p := ⟨x2, 9, none⟩) hx2 (.bool h'))
         clear y0 y1 y2
         replace rb := ((((((((((rb.other hyb 0 (.int .i64 n')).other hyb 1 (.int .i64 a0)).other hyb 2 (.int .u32 b0)).other hyb 3 (.int .i64 a1)).other hyb 4 (.int .u32 b1)).other hyb 5 (.int .i64 a2)).other hyb 6 (.int .u32 b2)).other hyb 7 (.int .i64 a3)).other hyb 8 (.int .u32 b3)).other hyb 9 (.bool h'))
         generalize hW : World.setCell _ _ _ = V at *
         clear hW
         simp only [List.setIfInBounds_toArray, List.set_cons_zero, List.set_cons_succ] at r2
         have q0 : V.cell? ⟨xb, 0, none⟩ = some (.int .u8 c) := rb.cell 0
         refine hK.out _ _ ⟨hc.size, q0⟩ (fun _ => ?_)
         clear hK K
         refine' wpAnyH_take (i := 17) (oi := _) (v := _) ?_ (by kernel_rfl) (by kernel_rfl) (by kernel_rfl) ?_ (Or.inl ⟨?_, ?_⟩) (by assumption) ?_
         rotate_left 2
         · (simp only [List.getElem?_toArray, List.getElem?_cons_succ, List.getElem?_cons_zero]; rfl)
         · first | exact fun _ _ _ h => h | exact fun _ _ _ h => nomatch h.1
         · rfl
         · (intro W hSW; (try dsimp only at hSW); go_split_ands; first | (go_simp; done) | (go_simp; with_reducible rfl))
         try simp only [Act.put, List.setIfInBounds_toArray, List.set_cons_zero, List.set_cons_succ]
         refine wpAnyH_done (by kernel_rfl) ?_ _
         go_wp2_with fail
         go_meet
         exact ⟨_, rfl, rfl, hxy, r1, r2, hc⟩
     · go_simp
       have hn := below_alloc W_4 (.cells ob0C 27)
       have r2 : Row (W_4.alloc (.cells ob0C 27)) W_4.heap.size ob0C 27 := Row.new
       have hxy : W_4.heap.size ≠ x1 := Nat.ne_of_gt r1.lt
       have hx2 : w.heap.size ≤ W_4.heap.size := hc.size
       replace r1 := r1.on hn
       replace hc := chain hc hn
       have hyb : W_4.heap.size ≠ xb := Nat.ne_of_gt rb.lt
       replace rb := rb.on hn
       clear hn
       generalize (W_4.alloc (.cells ob0C 27)) = W_415 at *
       generalize W_4.heap.size = x2 at *
       refine hK.out _ _ ⟨hc.size, rb.cell 0⟩ (fun _ => ?_)
       clear hK K
       refine wpAnyH_ready (rs := [11]) (by kernel_rfl) (by simp) ?_
       refine' AllReadyH.cons (o := _) (by simp only [List.getElem?_toArray, List.getElem?_cons_succ, List.getElem?_cons_zero]; rfl) (fun K hK => ?_) AllReadyH.nil
       · go_simp
         refine Calls.mono (C3.out _ (HE.out.on hc)) ?_
         rintro e W_41511 ⟨rfl, hn⟩
         replace r1 := r1.on hn
         replace rb := rb.on hn
         replace hc := chain hc hn
         replace r2 := r2.on hn
         clear hn
         go_simp
         refine hK.out _ _ ⟨hc.size, rb.cell 0⟩ (fun _ => ?_)
         clear hK K
         refine' wpAnyH_take (i := 12) (oi := _) (v := _) ?_ (by kernel_rfl) (by kernel_rfl) (by kernel_rfl) ?_ (Or.inl ⟨?_, ?_⟩) (by assumption) ?_
         rotate_left 2
         · (simp only [List.getElem?_toArray, List.getElem?_cons_succ, List.getElem?_cons_zero]; rfl)
         · first | exact fun _ _ _ h => h | exact fun _ _ _ h => nomatch h.1
         · rfl
         · (intro W hSW; (try dsimp only at hSW); go_split_ands; first | (go_simp; done) | (go_simp; with_reducible rfl))
         try simp only [Act.put, List.setIfInBounds_toArray, List.set_cons_zero, List.set_cons_succ]
         refine' wpAnyH_take (i := 13) (oi := _) (v := _) ?_ (by kernel_rfl) (by kernel_rfl) (by kernel_rfl) ?_ (Or.inl ⟨?_, ?_⟩) (by assumption) ?_
         rotate_left 2
         · (simp only [List.getElem?_toArray, List.getElem?_cons_succ, List.getElem?_cons_zero]; rfl)
         · first | exact fun _ _ _ h => h | exact fun _ _ _ h => nomatch h.1
         · rfl
         · (intro W hSW; (try dsimp only at hSW); go_split_ands; first | (go_simp; done) | (go_simp; with_reducible rfl))
         try simp only [Act.put, List.setIfInBounds_toArray, List.set_cons_zero, List.set_cons_succ]
         refine' wpAnyH_take (i := 14) (oi := _) (v := _) ?_ (by kernel_rfl) (by kernel_rfl) (by kernel_rfl) ?_ (Or.inl ⟨?_, ?_⟩) (by assumption) ?_
         rotate_left 2
         · (simp only [List.getElem?_toArray, List.getElem?_cons_succ, List.getElem?_cons_zero]; rfl)
         · first | exact fun _ _ _ h => h | exact fun _ _ _ h => nomatch h.1
         · rfl
         · (intro W hSW; (try dsimp only at hSW); go_split_ands; first | (go_simp; done) | (go_simp; with_reducible rfl))
         try simp only [Act.put, List.setIfInBounds_toArray, List.set_cons_zero, List.set_cons_succ]
         have y0 := r2.cell
         have y1 := r2.free
         have y2 := r2.lt
         refine wpAnyH_ready (rs := [16]) (by kernel_rfl) (by simp) ?_
         refine' AllReadyH.cons (o := _) ?_ (fun K hK => ?_) AllReadyH.nil
         rotate_left 1
         · (simp only [List.getElem?_toArray, List.getElem?_cons_succ, List.getElem?_cons_zero]; rfl)
         go_simp
         replace r1 := ((((((((((r1.other hxy 0 (.int .i64 n')).other hxy 1 (.int .i64 a0)).other hxy 2 (.int .u32 b0)).other hxy 3 (.int .i64 a1)).other hxy 4 (.int .u32 b1)).other hxy 5 (.int .i64 a2)).other hxy 6 (.int .u32 b2)).other hxy 7 (.int .i64 a3)).other hxy 8 (.int .u32 b3)).other hxy 9 (.bool h'))
         replace r2 := ((((((((((r2.set 0 (.int .i64 n')).set 1 (.int .i64 a0)).set 2 (.int .u32 b0)).set 3 (.int .i64 a1)).set 4 (.int .u32 b1)).set 5 (.int .i64 a2)).set 6 (.int .u32 b2)).set 7 (.int .i64 a3)).set 8 (.int .u32 b3)).set 9 (.bool h'))
         replace hc := ((((((((((hc.setCell (p := ⟨x2, 0, none⟩) hx2 (.int .i64 n')).setCell (p := ⟨x2, 1, none⟩) hx2 (.int .i64 a0)).setCell (p := ⟨x2, 2, none⟩) hx2 (.int .u32 b0)).setCell (p := ⟨x2, 3, none⟩) hx2 (.int .i64 a1)).setCell (p := ⟨x2, 4, none⟩) hx2 (.int .u32 b1)).setCell (p := ⟨x2, 5, none⟩) hx2 (.int .i64 a2)).setCell (p := ⟨x2, 6, none⟩) hx2 (.int .u32 b2)).setCell (p := ⟨x2, 7, none⟩) hx2 (.int .i64 a3)).setCell (p := ⟨x2, 8, none⟩) hx2 (.int .u32 b3)).setCell (p := ⟨x2, 9, none⟩) hx2 (.bool h'))
         clear y0 y1 y2
         replace rb := ((((((((((rb.other hyb 0 (.int .i64 n')).other hyb 1 (.int .i64 a0)).other hyb 2 (.int .u32 b0)).other hyb 3 (.int .i64 a1)).other hyb 4 (.int .u32 b1)).other hyb 5 (.int .i64 a2)).other hyb 6 (.int .u32 b2)).other hyb 7 (.int .i64 a3)).other hyb 8 (.int .u32 b3)).other hyb 9 (.bool h'))
         generalize hW : World.setCell _ _ _ = V at *
         clear hW
         simp only [List.setIfInBounds_toArray, List.set_cons_zero, List.set_cons_succ] at r2
         have q0 : V.cell? ⟨xb, 0, none⟩ = some (.int .u8 c) := rb.cell 0
         refine hK.out _ _ ⟨hc.size, q0⟩ (fun _ => ?_)
         clear hK K
         refine' wpAnyH_take (i := 17) (oi := _) (v := _) ?_ (by kernel_rfl) (by kernel_rfl) (by kernel_rfl) ?_ (Or.inl ⟨?_, ?_⟩) (by assumption) ?_
         rotate_left 2
         · (simp only [List.getElem?_toArray, List.getElem?_cons_succ, List.getElem?_cons_zero]; rfl)
         · first | exact fun _ _ _ h => h | exact fun _ _ _ h => nomatch h.1
         · rfl
         · (intro W hSW; (try dsimp only at hSW); go_split_ands; first | (go_simp; done) | (go_simp; with_reducible rfl))
         try simp only [Act.put, List.setIfInBounds_toArray, List.set_cons_zero, List.set_cons_succ]
         refine wpAnyH_done (by kernel_rfl) ?_ _
         go_wp2_with fail
         go_meet
         exact ⟨_, rfl, rfl, hxy, r1, r2, hc⟩
   · go_simp
     have hn := below_alloc W_0 (.cells ob0C 27)
     have r2 : Row (W_0.alloc (.cells ob0C 27)) W_0.heap.size ob0C 27 := Row.new
     have hxy : W_0.heap.size ≠ x1 := Nat.ne_of_gt r1.lt
     have hx2 : w.heap.size ≤ W_0.heap.size := hc.size
     replace r1 := r1.on hn
     replace hc := chain hc hn
     clear hn
     generalize (W_0.alloc (.cells ob0C 27)) = W_15 at *
     generalize W_0.heap.size = x2 at *
     refine hK.out _ _ hc.size (fun _ => ?_)
     clear hK K
     refine wpAnyH_ready (rs := [4]) (by kernel_rfl) (by simp) ?_
     refine' AllReadyH.cons (o := _) (by simp only [List.getElem?_toArray, List.getElem?_cons_succ, List.getElem?_cons_zero]; rfl) (fun K hK => ?_) AllReadyH.nil
     · go_simp
       have hn := below_alloc W_15 (.cells #[.int .u8 c] 5)
       have rb : Row (W_15.alloc (.cells #[.int .u8 c] 5)) W_15.heap.size #[.int .u8 c] 5 := Row.new
       replace r1 := r1.on hn
       replace hc := chain hc hn
       have hyb : x2 ≠ W_15.heap.size := Nat.ne_of_lt r2.lt
       replace r2 := r2.on hn
       clear hn
       generalize (W_15.alloc (.cells #[.int .u8 c] 5)) = W_154 at *
       generalize W_15.heap.size = xb at *
       refine hK.out _ _ hc.size (fun _ => ?_)
       clear hK K
       refine wpAnyH_more (S' := fun W' => w.heap.size ≤ W'.heap.size ∧ W'.cell? ⟨xb, 0, none⟩ = some (.int .u8 c)) (fun _ h => h.1) ⟨hc.size, rb.cell 0⟩ (fun hHeld => ?_)
       refine' wpAnyH_take (i := 5) (oi := _) (v := _) ?_ (by kernel_rfl) (by kernel_rfl) (by kernel_rfl) ?_ (Or.inl ⟨?_, ?_⟩) (by assumption) ?_
       rotate_left 2
       · (simp only [List.getElem?_toArray, List.getElem?_cons_succ, List.getElem?_cons_zero]; rfl)
       · first | exact fun _ _ _ h => h | exact fun _ _ _ h => nomatch h.1
       · rfl
       · (intro W hSW; (try dsimp only at hSW); go_split_ands; first | (go_simp; done) | (go_simp; with_reducible rfl))
       try simp only [Act.put, List.setIfInBounds_toArray, List.set_cons_zero, List.set_cons_succ]
       refine' wpAnyH_take (i := 6) (oi := _) (v := _) ?_ (by kernel_rfl) (by kernel_rfl) (by kernel_rfl) ?_ (Or.inl ⟨?_, ?_⟩) (by assumption) ?_
       rotate_left 2
       · (simp only [List.getElem?_toArray, List.getElem?_cons_succ, List.getElem?_cons_zero]; rfl)
       · first | exact fun _ _ _ h => h | exact fun _ _ _ h => nomatch h.1
       · rfl
       · (intro W hSW; (try dsimp only at hSW); go_split_ands; first | (go_simp; done) | (go_simp; with_reducible rfl))
       try simp only [Act.put, List.setIfInBounds_toArray, List.set_cons_zero, List.set_cons_succ]
       refine' wpAnyH_take (i := 10) (oi := _) (v := _) ?_ (by kernel_rfl) (by kernel_rfl) (by kernel_rfl) ?_ (Or.inl ⟨?_, ?_⟩) (by assumption) ?_
       rotate_left 2
       · (simp only [List.getElem?_toArray, List.getElem?_cons_succ, List.getElem?_cons_zero]; rfl)
       · first | exact fun _ _ _ h => h | exact fun _ _ _ h => nomatch h.1
       · rfl
       · (intro W hSW; (try dsimp only at hSW); go_split_ands; first | (go_simp; done) | (go_simp; with_reducible rfl))
       try simp only [Act.put, List.setIfInBounds_toArray, List.set_cons_zero, List.set_cons_succ]
       clear hHeld
       refine wpAnyH_ready (rs := [11]) (by kernel_rfl) (by simp) ?_
       refine' AllReadyH.cons (o := _) (by simp only [List.getElem?_toArray, List.getElem?_cons_succ, List.getElem?_cons_zero]; rfl) (fun K hK => ?_) AllReadyH.nil
       · go_simp
         refine Calls.mono (C3.out _ (HE.out.on hc)) ?_
         rintro e W_15411 ⟨rfl, hn⟩
         replace r1 := r1.on hn
         replace rb := rb.on hn
         replace hc := chain hc hn
         replace r2 := r2.on hn
         clear hn
         go_simp
         refine hK.out _ _ ⟨hc.size, rb.cell 0⟩ (fun _ => ?_)
         clear hK K
         refine' wpAnyH_take (i := 12) (oi := _) (v := _) ?_ (by kernel_rfl) (by kernel_rfl) (by kernel_rfl) ?_ (Or.inl ⟨?_, ?_⟩) (by assumption) ?_
         rotate_left 2
         · (simp only [List.getElem?_toArray, List.getElem?_cons_succ, List.getElem?_cons_zero]; rfl)
         · first | exact fun _ _ _ h => h | exact fun _ _ _ h => nomatch h.1
         · rfl
         · (intro W hSW; (try dsimp only at hSW); go_split_ands; first | (go_simp; done) | (go_simp; with_reducible rfl))
         try simp only [Act.put, List.setIfInBounds_toArray, List.set_cons_zero, List.set_cons_succ]
         refine' wpAnyH_take (i := 13) (oi := _) (v := _) ?_ (by kernel_rfl) (by kernel_rfl) (by kernel_rfl) ?_ (Or.inl ⟨?_, ?_⟩) (by assumption) ?_
         rotate_left 2
         · (simp only [List.getElem?_toArray, List.getElem?_cons_succ, List.getElem?_cons_zero]; rfl)
         · first | exact fun _ _ _ h => h | exact fun _ _ _ h => nomatch h.1
         · rfl
         · (intro W hSW; (try dsimp only at hSW); go_split_ands; first | (go_simp; done) | (go_simp; with_reducible rfl))
         try simp only [Act.put, List.setIfInBounds_toArray, List.set_cons_zero, List.set_cons_succ]
         refine' wpAnyH_take (i := 14) (oi := _) (v := _) ?_ (by kernel_rfl) (by kernel_rfl) (by kernel_rfl) ?_ (Or.inl ⟨?_, ?_⟩) (by assumption) ?_
         rotate_left 2
         · (simp only [List.getElem?_toArray, List.getElem?_cons_succ, List.getElem?_cons_zero]; rfl)
         · first | exact fun _ _ _ h => h | exact fun _ _ _ h => nomatch h.1
         · rfl
         · (intro W hSW; (try dsimp only at hSW); go_split_ands; first | (go_simp; done) | (go_simp; with_reducible rfl))
         try simp only [Act.put, List.setIfInBounds_toArray, List.set_cons_zero, List.set_cons_succ]
         have y0 := r2.cell
         have y1 := r2.free
         have y2 := r2.lt
         refine wpAnyH_ready (rs := [16]) (by kernel_rfl) (by simp) ?_
         refine' AllReadyH.cons (o := _) ?_ (fun K hK => ?_) AllReadyH.nil
         rotate_left 1
         · (simp only [List.getElem?_toArray, List.getElem?_cons_succ, List.getElem?_cons_zero]; rfl)
         go_simp
         replace r1 := ((((((((((r1.other hxy 0 (.int .i64 n')).other hxy 1 (.int .i64 a0)).other hxy 2 (.int .u32 b0)).other hxy 3 (.int .i64 a1)).other hxy 4 (.int .u32 b1)).other hxy 5 (.int .i64 a2)).other hxy 6 (.int .u32 b2)).other hxy 7 (.int .i64 a3)).other hxy 8 (.int .u32 b3)).other hxy 9 (.bool h'))
         replace r2 := ((((((((((r2.set 0 (.int .i64 n')).set 1 (.int .i64 a0)).set 2 (.int .u32 b0)).set 3 (.int .i64 a1)).set 4 (.int .u32 b1)).set 5 (.int .i64 a2)).set 6 (.int .u32 b2)).set 7 (.int .i64 a3)).set 8 (.int .u32 b3)).set 9 (.bool h'))
         replace hc := ((((((((((hc.setCell (p := ⟨x2, 0, none⟩) hx2 (.int .i64 n')).setCell (p := ⟨x2, 1, none⟩) hx2 (.int .i64 a0)).setCell (p := ⟨x2, 2, none⟩) hx2 (.int .u32 b0)).setCell (p := ⟨x2, 3, none⟩) hx2 (.int .i64 a1)).setCell (p := ⟨x2, 4, none⟩) hx2 (.int .u32 b1)).setCell (p := ⟨x2, 5, none⟩) hx2 (.int .i64 a2)).setCell (p := ⟨x2, 6, none⟩) hx2 (.int .u32 b2)).setCell (p := ⟨x2, 7, none⟩) hx2 (.int .i64 a3)).setCell (p := ⟨x2, 8, none⟩) hx2 (.int .u32 b3)).setCell (p := ⟨x2, 9, none⟩) hx2 (.bool h'))
         clear y0 y1 y2
         replace rb := ((((((((((rb.other hyb 0 (.int .i64 n')).other hyb 1 (.int .i64 a0)).other hyb 2 (.int .u32 b0)).other hyb 3 (.int .i64 a1)).other hyb 4 (.int .u32 b1)).other hyb 5 (.int .i64 a2)).other hyb 6 (.int .u32 b2)).other hyb 7 (.int .i64 a3)).other hyb 8 (.int .u32 b3)).other hyb 9 (.bool h'))
         generalize hW : World.setCell _ _ _ = V at *
         clear hW
         simp only [List.setIfInBounds_toArray, List.set_cons_zero, List.set_cons_succ] at r2
         have q0 : V.cell? ⟨xb, 0, none⟩ = some (.int .u8 c) := rb.cell 0
         refine hK.out _ _ ⟨hc.size, q0⟩ (fun _ => ?_)
         clear hK K
         refine' wpAnyH_take (i := 17) (oi := _) (v := _) ?_ (by kernel_rfl) (by kernel_rfl) (by kernel_rfl) ?_ (Or.inl ⟨?_, ?_⟩) (by assumption) ?_
         rotate_left 2
         · (simp only [List.getElem?_toArray, List.getElem?_cons_succ, List.getElem?_cons_zero]; rfl)
         · first | exact fun _ _ _ h => h | exact fun _ _ _ h => nomatch h.1
         · rfl
         · (intro W hSW; (try dsimp only at hSW); go_split_ands; first | (go_simp; done) | (go_simp; with_reducible rfl))
         try simp only [Act.put, List.setIfInBounds_toArray, List.set_cons_zero, List.set_cons_succ]
         refine wpAnyH_done (by kernel_rfl) ?_ _
         go_wp2_with fail
         go_meet
         exact ⟨_, rfl, rfl, hxy, r1, r2, hc⟩
  case rest =>
    obtain ⟨x2, rfl, rfl, hxy, r1, r2, hc⟩ := hcut
    have y1 := r1.cell
    have y2 := r2.cell
    have z1 := r1.lt
    have z2 := r2.lt
    go_wp2_with fail
    refine Calls.mono (C4.out _) ?_
    rintro e w4 ⟨rfl, hb⟩
    replace y1 := keep_cells hb z1 y1
    replace y2 := keep_cells hb z2 y2
    replace hc := chain hc hb
    clear hb r1 r2
    rcases HN.out with rfl | ⟨rfl, hq⟩
    all_goals
      go_wp2_with fail
      refine Calls.mono (works _ (HE.out.on hc)) ?_
      rintro e w5 ⟨rfl, hb⟩
      replace hc := chain hc hb
      go_wp2_with fail
      go_returns
      exact ⟨rfl, hc⟩
set_option maxHeartbeats 8000000 in
set_option maxRecDepth 20000 in
theorem reads_long (s : ByteArray) (c at_ : Int) (w : World) (hE : EnvP w) (hs : 300 < s.size) : Ret 8 #[.string s, .int .u8 c, .int .u8 at_] w (.bool true) := by
  have hs' : (300 : Int) < (s.size : Int) := by omega
  go_enter Tryd.func8, Tryd.ntmps8
  go_wp2_with fail
  refine Calls.mono (works _ hE) ?_
  rintro e w1 ⟨rfl, hb1⟩
  go_wp2_with fail
  go_returns
  exact ⟨rfl, hb1⟩
set_option maxHeartbeats 8000000 in
set_option maxRecDepth 20000 in
theorem reads_not (s : ByteArray) (c at_ : Int) (w : World) (hE : EnvP w) (hs : s.size ≤ 300) (c1 : ∀ w, EnvP w → Ret 25 #[.string s] w (.tuple #[ob0, .int .i64 9])) : Ret 8 #[.string s, .int .u8 c, .int .u8 at_] w (.bool true) := by
  have hs' : (s.size : Int) ≤ 300 := by omega
  have C1 := Lib.hid c1
  have hc0 := Below.refl w.heap.size w
  have hq := eq_objF 0 (0, 0) (0, 0) (0, 0) (0, 0) false 0 (0, 0) (0, 0) (0, 0) (0, 0) false
  rw [eqO_same] at hq
  clear c1
  go_enter Tryd.func8, Tryd.ntmps8
  go_wp2_with fail
  refine Calls.mono (C1.out _ hE) ?_
  rintro e w1 ⟨rfl, hb1⟩
  obtain ⟨kk, ff⟩ := bcell hb1
  have hc1 : Below w.heap.size w w1 := under hb1
  clear kk ff
  have hs1 := hc1.size
  clear hc0 hb1
  go_wp2_with fail
  refine Calls.mono (works _ (hE.on (by go_grown))) ?_
  rintro e w2 ⟨rfl, hb2⟩
  obtain ⟨kk, ff⟩ := bcell hb2
  have hc2 : Below w.heap.size w w2 := under hb2
  have k2_0 : ∀ o, w2.cell? ⟨w1.heap.size, o, none⟩ = _ := fun o => kk _ o (by first | assumption | omega | (simp; done) | (simp; omega))
  have f2_0 : ∀ o, w2.frozen? ⟨w1.heap.size, o, none⟩ = _ := fun o => ff _ o (by first | assumption | omega | (simp; done) | (simp; omega))
  have z2_0 : w1.heap.size < w2.heap.size := by have := hb2.size; (try simp at this); omega
  clear kk ff
  have hs2 := hc2.size
  clear hc1 hb2
  go_wp2_with fail
  go_returns
  exact ⟨rfl, hc2⟩
theorem reads_walk (s : ByteArray) (c at_ : Int) (w : World) (hE : EnvP w) (hc0 : 0 ≤ c) (hc1 : c ≤ 255) (ht0 : 0 ≤ at_) (ht1 : at_ ≤ 255) : Ret 8 #[.string s, .int .u8 c, .int .u8 at_] w (.bool true) := by
  rcases Nat.lt_or_ge 300 s.size with hs | hs
  · exact reads_long s c at_ w hE hs
  · by_cases hx : ∃ n a b c d h, IsO s.data.toList n a b c d h
    · obtain ⟨n, a, b, p, d, h, hi⟩ := hx
      have hm : 0 ≤ at_ % ((s.size : Int) + 1) := Int.emod_nonneg _ (by omega)
      have hm2 : at_ % ((s.size : Int) + 1) < (s.size : Int) + 1 := Int.emod_lt_of_pos _ (by omega)
      obtain ⟨k, hk⟩ := Int.eq_ofNat_of_zero_le hm
      have hk1 : k ≤ s.size := by omega
      have hz : (s.extract 0 k ++ ⟨#[UInt8.ofNat c.toNat]⟩ ++ s.extract k s.size).size = s.size + 1 := by
        simp only [ByteArray.size_append, ByteArray.size_extract, show (ByteArray.mk #[UInt8.ofNat c.toNat]).size = 1 from rfl]
        omega
      obtain ⟨n', a', b', p', d', h', e', hv, hn⟩ := par_ne (s := s) (t := s.extract 0 k ++ ⟨#[UInt8.ofNat c.toNat]⟩ ++ s.extract k s.size) (by omega) hi
      have t1 := fun w hE => fparse_c s (by omega) w hE
      rw [parV_is hi] at t1
      have t2 := fun w hE => ftext_c n a b p d h w hE
      have hsz : oText n a b p d h = s := str_ext (by rw [oText_list, hi.eq])
      have t3 := fun w hE => fparse_c (s.extract 0 k ++ ⟨#[UInt8.ofNat c.toNat]⟩ ++ s.extract k s.size) (by omega) w hE
      rw [hv] at t3
      have t4 := fun w => fcheck_c n a.1 a.2 b.1 b.2 p.1 p.2 d.1 d.2 h w
      have hok := hi.ok
      rw [show oErr n (a.1, a.2) (b.1, b.2) (p.1, p.2) (d.1, d.2) h = 0 by unfold oErr; rw [if_pos hok]] at t4
      rw [if_pos hok, hsz] at t2
      refine reads_core n _ _ _ _ _ _ _ _ h n' _ _ _ _ _ _ _ _ h' e' s _ c at_ k w hE hs hc0 hc1 ht0 ht1 hk hk1 rfl t1 t2 t3 t4 (hn.imp id (fun x => ⟨x.1, fun W => ?_⟩))
      have := neq_objF n' a' b' p' d' h' n a b p d h W
      rw [x.2] at this
      exact this
    · have t1 := fun w hE => fparse_c s (by omega) w hE
      rw [parV_not (fun n a b c d h hi => hx ⟨n, a, b, c, d, h, hi⟩)] at t1
      exact reads_not s c at_ w hE hs t1
end Go.Proofs.YtpegkcmomkdoeaaDoor
