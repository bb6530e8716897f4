/- OpBack walked. -/
import Derived.Test.YtbbleafcflhmiaaDoorHMade39
import Derived.Test.YtbbleafcflhmiaaDoorHWorks39
import Derived.Test.YtbbleafcflhmiaaDoorM122a
import Derived.Test.YtbbleafcflhmiaaDoorL0a
import Derived.Deep.DeepCutAuto
import Derived.Deep.CutBlock
namespace Go.Proofs.YtbbleafcflhmiaaDoor
open Go.RowKit
set_option linter.unusedVariables false
set_option linter.unusedSimpArgs false
set_option maxHeartbeats 40000000
set_option maxRecDepth 20000
theorem err_ok {p : OpR} (h : okR p = true) : opErr p.1 p.2.m p.2.a p.2.b p.2.c p.2.tag = 0 := by
  unfold opErr
  rw [show opOk p.1 p.2.m p.2.a p.2.b p.2.c p.2.tag.data.toList = true from h]
  rfl
def opT (p : OpR) : ByteArray := opText p.1 p.2.m p.2.a p.2.b p.2.c p.2.tag
theorem opT_l (p : OpR) : (opT p).data.toList = opLR p := by simp [opT, opText, opLR]
theorem opT_size {p : OpR} (h : okR p = true) : (opT p).size ≤ 1000 := by
  have := opLR_short h
  rw [← opT_l, len_bytes] at this
  exact this
theorem opT_eq (p q : OpR) (hp : okR p = true) (hq : okR q = true) : ((opT p).toList == (opT q).toList) = decide (p = q) := by
  rw [Bool.eq_iff_iff, beq_iff_eq, decide_eq_true_iff, ByteArray.toList_eq, ByteArray.toList_eq, opT_l, opT_l]
  exact ⟨fun h => opLR_inj hp hq h, fun h => by rw [h]⟩
theorem cont_no10 {s : ByteArray} (h : (10 : UInt8) ∉ s.data.toList) : Lib.contains s.data.toList [10] = false := by
  unfold Lib.contains
  rw [Lib.index_one, decide_eq_false_iff_not]
  have key : ∀ l : List UInt8, (10 : UInt8) ∉ l → Lib.indexByte l 10 = -1 := by
    intro l
    induction l with
    | nil => intro _; rfl
    | cons b l ih =>
      intro hl
      simp only [List.mem_cons, not_or] at hl
      have hb : (b == (10 : UInt8)) = false := by rw [beq_eq_false_iff_ne]; exact fun e => hl.1 e.symm
      simp only [Lib.indexByte, ih hl.2, hb]
      rfl
  rw [key _ h]
  decide
theorem contains_nl (s : ByteArray) (w : World) (hw : w.ShapedOpen Tryd.prog) (hs : s.size ≤ 1000000) (h : (10 : UInt8) ∉ s.data.toList) : Ret 14 #[.string s, .string ⟨#[10]⟩] w (.bool false) :=
  (Tryd.strings_Contains_shaped s ⟨#[10]⟩ w hw (by omega)).mono fun e w' ⟨he, hw⟩ => ⟨by rw [he, show (⟨#[10]⟩ : ByteArray).data.toList = [10] from rfl, cont_no10 h], by rw [hw]; exact Below.refl _ _⟩
theorem hp_word (p : OpR) (hp : okR p = true) (w : World) : Ret 15 #[.string (opT p), .string (wordB p.1)] w (.bool true) :=
  (Tryd.strings_HasPrefix (opT p) (wordB p.1) w).mono fun e w' ⟨he, hw⟩ => ⟨by rw [he, opT_l, show (wordB p.1).data.toList = wordL p.1 by simp [wordB], word_pre hp], by rw [hw]; exact Below.refl _ _⟩
theorem back_walk (k0 m0 t0 a0 b0 c0 k1 m1 t1 a1 b1 c1 : Int) (s : ByteArray) (w : World) (hE : EnvL w) (k0l : 0 ≤ k0) (k0h : k0 ≤ 255) (m0l : 0 ≤ m0) (m0h : m0 ≤ 255) (t0l : 0 ≤ t0) (t0h : t0 ≤ 255) (a0l : 0 ≤ a0) (a0h : a0 ≤ 4294967295) (b0l : 0 ≤ b0) (b0h : b0 ≤ 4294967295) (c0l : 0 ≤ c0) (c0h : c0 ≤ 4294967295) (k1l : 0 ≤ k1) (k1h : k1 ≤ 255) (m1l : 0 ≤ m1) (m1h : m1 ≤ 255) (t1l : 0 ≤ t1) (t1h : t1 ≤ 255) (a1l : 0 ≤ a1) (a1h : a1 ≤ 4294967295) (b1l : 0 ≤ b1) (b1h : b1 ≤ 4294967295) (c1l : 0 ≤ c1) (c1h : c1 ≤ 4294967295) :
    Ret 4 #[.agg #[.int .u8 k0, .int .u8 m0, .int .u8 t0, .int .u32 a0, .int .u32 b0, .int .u32 c0], .agg #[.int .u8 k1, .int .u8 m1, .int .u8 t1, .int .u32 a1, .int .u32 b1, .int .u32 c1], .string s] w (.bool true) := by
  have MC := Lib.hid (fun W => made_c k0 m0 t0 a0 b0 c0 W k0l k0h m0l m0h t0l t0h a0l a0h b0l b0h c0l c0h)
  have MD := Lib.hid (fun W => made_c k1 m1 t1 a1 b1 c1 W k1l k1h m1l m1h t1l t1h a1l a1h b1l b1h c1l c1h)
  have HE := Lib.hid hE
  clear hE k0l k0h m0l m0h t0l t0h a0l a0h b0l b0h c0l c0h k1l k1h m1l m1h t1l t1h a1l a1h b1l b1h c1l c1h
  have hc := Below.refl w.heap.size w
  go_enter Tryd.func4, Tryd.ntmps4
  go_upto_region 1 with fail
  have r3 := Row.new (W := w) (cs := #[.int .u8 k0, .int .u8 m0, .int .u8 t0, .int .u32 a0, .int .u32 b0, .int .u32 c0]) (t := 24)
  have hn := below_alloc w (.cells #[.int .u8 k0, .int .u8 m0, .int .u8 t0, .int .u32 a0, .int .u32 b0, .int .u32 c0] 24)
  replace hc := chain hc hn
  have hz1 : (w.alloc (.cells #[.int .u8 k0, .int .u8 m0, .int .u8 t0, .int .u32 a0, .int .u32 b0, .int .u32 c0] 24)).heap.size = w.heap.size + 1 := by simp
  clear hn
  generalize w.alloc (.cells #[.int .u8 k0, .int .u8 m0, .int .u8 t0, .int .u32 a0, .int .u32 b0, .int .u32 c0] 24) = V1 at r3 hc hz1 ⊢
  have r4 := Row.new (W := V1) (cs := #[.int .u8 k1, .int .u8 m1, .int .u8 t1, .int .u32 a1, .int .u32 b1, .int .u32 c1]) (t := 24)
  have hn := below_alloc V1 (.cells #[.int .u8 k1, .int .u8 m1, .int .u8 t1, .int .u32 a1, .int .u32 b1, .int .u32 c1] 24)
  replace r3 := r3.on hn
  replace hc := chain hc hn
  rw [hz1] at r4
  clear hn hz1
  generalize V1.alloc (.cells #[.int .u8 k1, .int .u8 m1, .int .u8 t1, .int .u32 a1, .int .u32 b1, .int .u32 c1] 24) = V2 at r3 r4 hc ⊢
  have nr3_r4 : w.heap.size ≠ w.heap.size + 1 := by omega
  have wr4 : w.heap.size ≤ w.heap.size + 1 := by omega
  have wr3 : w.heap.size ≤ w.heap.size := Nat.le_refl _
  go_cut [7, 8] (fun v u wx => ∃ (b7 b8 : Nat) (p q : OpR), v = .pointer (some ⟨b7, 0, none⟩) ∧ u = .pointer (some ⟨b8, 0, none⟩) ∧ okR p = true ∧ okR q = true ∧ Row wx b7 #[.int .i64 p.1, .int .i64 p.2.m, .int .i64 p.2.a, .int .i64 p.2.b, .int .i64 p.2.c, .string p.2.tag] 27 ∧ Row wx b8 #[.int .i64 q.1, .int .i64 q.2.m, .int .i64 q.2.a, .int .i64 q.2.b, .int .i64 q.2.c, .string q.2.tag] 27 ∧ Below w.heap.size w wx)
  case first =>
    refine wp_region_held_drew (S := fun W' => (∀ j, W'.cell? ⟨w.heap.size, j, none⟩ = #[.int .u8 k0, .int .u8 m0, .int .u8 t0, .int .u32 a0, .int .u32 b0, .int .u32 c0][j]?) ∧ (∀ j, W'.cell? ⟨(w.heap.size + 1), j, none⟩ = #[.int .u8 k1, .int .u8 m1, .int .u8 t1, .int .u32 a1, .int .u32 b1, .int .u32 c1][j]?)) (by kernel_rfl) ⟨r3.cell, r4.cell⟩ (fun hHeld => ?_)
    replace r3 := r3.drew
    replace r4 := r4.drew
    replace hc := hc.drew
    generalize V2.drew = V3 at *
    refine' wpAnyH_take (i := 0) (oi := _) (v := _) ?_ (by kernel_rfl) (by kernel_rfl) (by kernel_rfl) ?_ (Or.inl ⟨?_, ?_⟩) (by assumption) ?_
    rotate_left 2
    · (simp only [List.getElem?_toArray, List.getElem?_cons_succ, List.getElem?_cons_zero]; rfl)
    · first | exact fun _ _ _ h => h | exact fun _ _ _ h => nomatch h.1
    · rfl
    · (intro W hSW; (try dsimp only at hSW); go_split_ands; first | (go_simp; done) | (go_simp; with_reducible rfl))
    try simp only [Act.put, List.setIfInBounds_toArray, List.set_cons_zero, List.set_cons_succ]
    refine' wpAnyH_take (i := 2) (oi := _) (v := _) ?_ (by kernel_rfl) (by kernel_rfl) (by kernel_rfl) ?_ (Or.inl ⟨?_, ?_⟩) (by assumption) ?_
    rotate_left 2
    · (simp only [List.getElem?_toArray, List.getElem?_cons_succ, List.getElem?_cons_zero]; rfl)
    · first | exact fun _ _ _ h => h | exact fun _ _ _ h => nomatch h.1
    · rfl
    · (intro W hSW; (try dsimp only at hSW); go_split_ands; first | (go_simp; done) | (go_simp; with_reducible rfl))
    try simp only [Act.put, List.setIfInBounds_toArray, List.set_cons_zero, List.set_cons_succ]
    clear hHeld
    refine wpAnyH_ready (rs := [1, 4, 5]) (by kernel_rfl) (by simp) ?_
    refine' AllReadyH.cons (o := _) (by simp only [List.getElem?_toArray, List.getElem?_cons_succ, List.getElem?_cons_zero]; rfl) (fun K hK => ?_) (AllReadyH.cons (o := _) (by simp only [List.getElem?_toArray, List.getElem?_cons_succ, List.getElem?_cons_zero]; rfl) (fun K hK => ?_) (AllReadyH.cons (o := _) (by simp only [List.getElem?_toArray, List.getElem?_cons_succ, List.getElem?_cons_zero]; rfl) (fun K hK => ?_) AllReadyH.nil))
    · go_simp
      refine Calls.mono (MC.out _) ?_
      rintro e V4 ⟨⟨p, rfl, hp⟩, hn⟩
      replace r3 := r3.on hn
      replace r4 := r4.on hn
      replace hc := chain hc hn
      clear hn
      go_simp
      refine hK.out _ _ ⟨r3.cell, r4.cell⟩ (fun hHeld => ?_)
      clear hK K
      clear hHeld
      refine wpAnyH_ready (rs := [3, 4, 5]) (by kernel_rfl) (by simp) ?_
      refine' AllReadyH.cons (o := _) (by simp only [List.getElem?_toArray, List.getElem?_cons_succ, List.getElem?_cons_zero]; rfl) (fun K hK => ?_) (AllReadyH.cons (o := _) (by simp only [List.getElem?_toArray, List.getElem?_cons_succ, List.getElem?_cons_zero]; rfl) (fun K hK => ?_) (AllReadyH.cons (o := _) (by simp only [List.getElem?_toArray, List.getElem?_cons_succ, List.getElem?_cons_zero]; rfl) (fun K hK => ?_) AllReadyH.nil))
      · go_simp
        refine Calls.mono (MD.out _) ?_
        rintro e V5 ⟨⟨q, rfl, hq⟩, hn⟩
        replace r3 := r3.on hn
        replace r4 := r4.on hn
        replace hc := chain hc hn
        clear hn
        go_simp
        refine hK.out _ _ ⟨r3.cell, r4.cell⟩ (fun hHeld => ?_)
        clear hK K
        clear hHeld
        refine wpAnyH_ready (rs := [4, 5]) (by kernel_rfl) (by simp) ?_
        refine' AllReadyH.cons (o := _) (by simp only [List.getElem?_toArray, List.getElem?_cons_succ, List.getElem?_cons_zero]; rfl) (fun K hK => ?_) (AllReadyH.cons (o := _) (by simp only [List.getElem?_toArray, List.getElem?_cons_succ, List.getElem?_cons_zero]; rfl) (fun K hK => ?_) AllReadyH.nil)
        · go_simp
          have r7 := Row.new (W := V5) (cs := #[.int .i64 0, .int .i64 0, .int .i64 0, .int .i64 0, .int .i64 0, .string ⟨#[]⟩]) (t := 27)
          have hn := below_alloc V5 (.cells #[.int .i64 0, .int .i64 0, .int .i64 0, .int .i64 0, .int .i64 0, .string ⟨#[]⟩] 27)
          have nr3_r7 : w.heap.size ≠ V5.heap.size := Nat.ne_of_lt r3.lt
          have nr4_r7 : (w.heap.size + 1) ≠ V5.heap.size := Nat.ne_of_lt r4.lt
          have wr7 : w.heap.size ≤ V5.heap.size := hc.size
          replace r3 := r3.on hn
          replace r4 := r4.on hn
          replace hc := chain hc hn
          clear hn
          generalize V5.alloc (.cells #[.int .i64 0, .int .i64 0, .int .i64 0, .int .i64 0, .int .i64 0, .string ⟨#[]⟩] 27) = V6 at r3 r4 r7 hc ⊢
          generalize V5.heap.size = b7 at *
          refine hK.out _ _ ⟨r3.cell, r4.cell⟩ (fun hHeld => ?_)
          clear hK K
          clear hHeld
          refine wpAnyH_ready (rs := [5]) (by kernel_rfl) (by simp) ?_
          refine' AllReadyH.cons (o := _) ?_ (fun K hK => ?_) AllReadyH.nil
          rotate_left 1
          · (simp only [List.getElem?_toArray, List.getElem?_cons_succ, List.getElem?_cons_zero]; rfl)
          go_simp
          have r8 := Row.new (W := V6) (cs := #[.int .i64 0, .int .i64 0, .int .i64 0, .int .i64 0, .int .i64 0, .string ⟨#[]⟩]) (t := 27)
          have hn := below_alloc V6 (.cells #[.int .i64 0, .int .i64 0, .int .i64 0, .int .i64 0, .int .i64 0, .string ⟨#[]⟩] 27)
          have nr3_r8 : w.heap.size ≠ V6.heap.size := Nat.ne_of_lt r3.lt
          have nr4_r8 : (w.heap.size + 1) ≠ V6.heap.size := Nat.ne_of_lt r4.lt
          have nr7_r8 : b7 ≠ V6.heap.size := Nat.ne_of_lt r7.lt
          have wr8 : w.heap.size ≤ V6.heap.size := hc.size
          replace r3 := r3.on hn
          replace r4 := r4.on hn
          replace r7 := r7.on hn
          replace hc := chain hc hn
          clear hn
          generalize V6.alloc (.cells #[.int .i64 0, .int .i64 0, .int .i64 0, .int .i64 0, .int .i64 0, .string ⟨#[]⟩] 27) = V7 at r3 r4 r7 r8 hc ⊢
          generalize V6.heap.size = b8 at *
          refine hK.out _ _ ⟨r3.cell, r4.cell⟩ (fun hHeld => ?_)
          clear hK K
          clear hHeld
          have yr7 := r7.cell
          have zr7 := r7.lt
          have ur7 := r7.free
          refine wpAnyH_ready (rs := [6]) (by kernel_rfl) (by simp) ?_
          refine' AllReadyH.cons (o := _) ?_ (fun K hK => ?_) AllReadyH.nil
          rotate_left 1
          · (simp only [List.getElem?_toArray, List.getElem?_cons_succ, List.getElem?_cons_zero]; rfl)
          go_simp
          clear yr7 zr7 ur7
          replace r3 := ((((((r3.other nr3_r7.symm 0 (.int .i64 p.1)).other nr3_r7.symm 1 (.int .i64 p.2.m)).other nr3_r7.symm 2 (.int .i64 p.2.a)).other nr3_r7.symm 3 (.int .i64 p.2.b)).other nr3_r7.symm 4 (.int .i64 p.2.c)).other nr3_r7.symm 5 (.string p.2.tag))
          replace r4 := ((((((r4.other nr4_r7.symm 0 (.int .i64 p.1)).other nr4_r7.symm 1 (.int .i64 p.2.m)).other nr4_r7.symm 2 (.int .i64 p.2.a)).other nr4_r7.symm 3 (.int .i64 p.2.b)).other nr4_r7.symm 4 (.int .i64 p.2.c)).other nr4_r7.symm 5 (.string p.2.tag))
          replace r8 := ((((((r8.other nr7_r8 0 (.int .i64 p.1)).other nr7_r8 1 (.int .i64 p.2.m)).other nr7_r8 2 (.int .i64 p.2.a)).other nr7_r8 3 (.int .i64 p.2.b)).other nr7_r8 4 (.int .i64 p.2.c)).other nr7_r8 5 (.string p.2.tag))
          replace r7 := ((((((r7.set 0 (.int .i64 p.1)).set 1 (.int .i64 p.2.m)).set 2 (.int .i64 p.2.a)).set 3 (.int .i64 p.2.b)).set 4 (.int .i64 p.2.c)).set 5 (.string p.2.tag))
          simp only [List.setIfInBounds_toArray, List.set_cons_zero, List.set_cons_succ] at r7
          replace hc := ((((((hc.setCell (p := ⟨b7, 0, none⟩) wr7 (.int .i64 p.1)).setCell (p := ⟨b7, 1, none⟩) wr7 (.int .i64 p.2.m)).setCell (p := ⟨b7, 2, none⟩) wr7 (.int .i64 p.2.a)).setCell (p := ⟨b7, 3, none⟩) wr7 (.int .i64 p.2.b)).setCell (p := ⟨b7, 4, none⟩) wr7 (.int .i64 p.2.c)).setCell (p := ⟨b7, 5, none⟩) wr7 (.string p.2.tag))
          generalize hW : World.setCell _ _ _ = V8 at *
          clear hW
          refine hK.out _ _ ⟨r3.cell, r4.cell⟩ (fun hHeld => ?_)
          clear hK K
          clear hHeld
          have yr8 := r8.cell
          have zr8 := r8.lt
          have ur8 := r8.free
          refine wpAnyH_ready (rs := [7]) (by kernel_rfl) (by simp) ?_
          refine' AllReadyH.cons (o := _) ?_ (fun K hK => ?_) AllReadyH.nil
          rotate_left 1
          · (simp only [List.getElem?_toArray, List.getElem?_cons_succ, List.getElem?_cons_zero]; rfl)
          go_simp
          clear yr8 zr8 ur8
          replace r3 := ((((((r3.other nr3_r8.symm 0 (.int .i64 q.1)).other nr3_r8.symm 1 (.int .i64 q.2.m)).other nr3_r8.symm 2 (.int .i64 q.2.a)).other nr3_r8.symm 3 (.int .i64 q.2.b)).other nr3_r8.symm 4 (.int .i64 q.2.c)).other nr3_r8.symm 5 (.string q.2.tag))
          replace r4 := ((((((r4.other nr4_r8.symm 0 (.int .i64 q.1)).other nr4_r8.symm 1 (.int .i64 q.2.m)).other nr4_r8.symm 2 (.int .i64 q.2.a)).other nr4_r8.symm 3 (.int .i64 q.2.b)).other nr4_r8.symm 4 (.int .i64 q.2.c)).other nr4_r8.symm 5 (.string q.2.tag))
          replace r7 := ((((((r7.other nr7_r8.symm 0 (.int .i64 q.1)).other nr7_r8.symm 1 (.int .i64 q.2.m)).other nr7_r8.symm 2 (.int .i64 q.2.a)).other nr7_r8.symm 3 (.int .i64 q.2.b)).other nr7_r8.symm 4 (.int .i64 q.2.c)).other nr7_r8.symm 5 (.string q.2.tag))
          replace r8 := ((((((r8.set 0 (.int .i64 q.1)).set 1 (.int .i64 q.2.m)).set 2 (.int .i64 q.2.a)).set 3 (.int .i64 q.2.b)).set 4 (.int .i64 q.2.c)).set 5 (.string q.2.tag))
          simp only [List.setIfInBounds_toArray, List.set_cons_zero, List.set_cons_succ] at r8
          replace hc := ((((((hc.setCell (p := ⟨b8, 0, none⟩) wr8 (.int .i64 q.1)).setCell (p := ⟨b8, 1, none⟩) wr8 (.int .i64 q.2.m)).setCell (p := ⟨b8, 2, none⟩) wr8 (.int .i64 q.2.a)).setCell (p := ⟨b8, 3, none⟩) wr8 (.int .i64 q.2.b)).setCell (p := ⟨b8, 4, none⟩) wr8 (.int .i64 q.2.c)).setCell (p := ⟨b8, 5, none⟩) wr8 (.string q.2.tag))
          generalize hW : World.setCell _ _ _ = V9 at *
          clear hW
          refine hK.out _ _ ⟨r3.cell, r4.cell⟩ (fun hHeld => ?_)
          clear hK K
          clear hHeld
          refine wpAnyH_done (by kernel_rfl) ?_ _
          go_wp2_with fail
          go_meet
          exact ⟨_, _, p, q, rfl, rfl, hp, hq, r7, r8, hc⟩
        · go_simp
          have r8 := Row.new (W := V5) (cs := #[.int .i64 0, .int .i64 0, .int .i64 0, .int .i64 0, .int .i64 0, .string ⟨#[]⟩]) (t := 27)
          have hn := below_alloc V5 (.cells #[.int .i64 0, .int .i64 0, .int .i64 0, .int .i64 0, .int .i64 0, .string ⟨#[]⟩] 27)
          have nr3_r8 : w.heap.size ≠ V5.heap.size := Nat.ne_of_lt r3.lt
          have nr4_r8 : (w.heap.size + 1) ≠ V5.heap.size := Nat.ne_of_lt r4.lt
          have wr8 : w.heap.size ≤ V5.heap.size := hc.size
          replace r3 := r3.on hn
          replace r4 := r4.on hn
          replace hc := chain hc hn
          clear hn
          generalize V5.alloc (.cells #[.int .i64 0, .int .i64 0, .int .i64 0, .int .i64 0, .int .i64 0, .string ⟨#[]⟩] 27) = V6 at r3 r4 r8 hc ⊢
          generalize V5.heap.size = b8 at *
          refine hK.out _ _ ⟨r3.cell, r4.cell⟩ (fun hHeld => ?_)
          clear hK K
          clear hHeld
          refine wpAnyH_ready (rs := [4]) (by kernel_rfl) (by simp) ?_
          refine' AllReadyH.cons (o := _) ?_ (fun K hK => ?_) AllReadyH.nil
          rotate_left 1
          · (simp only [List.getElem?_toArray, List.getElem?_cons_succ, List.getElem?_cons_zero]; rfl)
          go_simp
          have r7 := Row.new (W := V6) (cs := #[.int .i64 0, .int .i64 0, .int .i64 0, .int .i64 0, .int .i64 0, .string ⟨#[]⟩]) (t := 27)
          have hn := below_alloc V6 (.cells #[.int .i64 0, .int .i64 0, .int .i64 0, .int .i64 0, .int .i64 0, .string ⟨#[]⟩] 27)
          have nr3_r7 : w.heap.size ≠ V6.heap.size := Nat.ne_of_lt r3.lt
          have nr4_r7 : (w.heap.size + 1) ≠ V6.heap.size := Nat.ne_of_lt r4.lt
          have nr8_r7 : b8 ≠ V6.heap.size := Nat.ne_of_lt r8.lt
          have wr7 : w.heap.size ≤ V6.heap.size := hc.size
          replace r3 := r3.on hn
          replace r4 := r4.on hn
          replace r8 := r8.on hn
          replace hc := chain hc hn
          clear hn
          generalize V6.alloc (.cells #[.int .i64 0, .int .i64 0, .int .i64 0, .int .i64 0, .int .i64 0, .string ⟨#[]⟩] 27) = V7 at r3 r4 r8 r7 hc ⊢
          generalize V6.heap.size = b7 at *
          refine hK.out _ _ ⟨r3.cell, r4.cell⟩ (fun hHeld => ?_)
          clear hK K
          clear hHeld
          have yr7 := r7.cell
          have zr7 := r7.lt
          have ur7 := r7.free
          refine wpAnyH_ready (rs := [6]) (by kernel_rfl) (by simp) ?_
          refine' AllReadyH.cons (o := _) ?_ (fun K hK => ?_) AllReadyH.nil
          rotate_left 1
          · (simp only [List.getElem?_toArray, List.getElem?_cons_succ, List.getElem?_cons_zero]; rfl)
          go_simp
          clear yr7 zr7 ur7
          replace r3 := ((((((r3.other nr3_r7.symm 0 (.int .i64 p.1)).other nr3_r7.symm 1 (.int .i64 p.2.m)).other nr3_r7.symm 2 (.int .i64 p.2.a)).other nr3_r7.symm 3 (.int .i64 p.2.b)).other nr3_r7.symm 4 (.int .i64 p.2.c)).other nr3_r7.symm 5 (.string p.2.tag))
          replace r4 := ((((((r4.other nr4_r7.symm 0 (.int .i64 p.1)).other nr4_r7.symm 1 (.int .i64 p.2.m)).other nr4_r7.symm 2 (.int .i64 p.2.a)).other nr4_r7.symm 3 (.int .i64 p.2.b)).other nr4_r7.symm 4 (.int .i64 p.2.c)).other nr4_r7.symm 5 (.string p.2.tag))
          replace r8 := ((((((r8.other nr8_r7.symm 0 (.int .i64 p.1)).other nr8_r7.symm 1 (.int .i64 p.2.m)).other nr8_r7.symm 2 (.int .i64 p.2.a)).other nr8_r7.symm 3 (.int .i64 p.2.b)).other nr8_r7.symm 4 (.int .i64 p.2.c)).other nr8_r7.symm 5 (.string p.2.tag))
          replace r7 := ((((((r7.set 0 (.int .i64 p.1)).set 1 (.int .i64 p.2.m)).set 2 (.int .i64 p.2.a)).set 3 (.int .i64 p.2.b)).set 4 (.int .i64 p.2.c)).set 5 (.string p.2.tag))
          simp only [List.setIfInBounds_toArray, List.set_cons_zero, List.set_cons_succ] at r7
          replace hc := ((((((hc.setCell (p := ⟨b7, 0, none⟩) wr7 (.int .i64 p.1)).setCell (p := ⟨b7, 1, none⟩) wr7 (.int .i64 p.2.m)).setCell (p := ⟨b7, 2, none⟩) wr7 (.int .i64 p.2.a)).setCell (p := ⟨b7, 3, none⟩) wr7 (.int .i64 p.2.b)).setCell (p := ⟨b7, 4, none⟩) wr7 (.int .i64 p.2.c)).setCell (p := ⟨b7, 5, none⟩) wr7 (.string p.2.tag))
          generalize hW : World.setCell _ _ _ = V8 at *
          clear hW
          refine hK.out _ _ ⟨r3.cell, r4.cell⟩ (fun hHeld => ?_)
          clear hK K
          clear hHeld
          have yr8 := r8.cell
          have zr8 := r8.lt
          have ur8 := r8.free
          refine wpAnyH_ready (rs := [7]) (by kernel_rfl) (by simp) ?_
          refine' AllReadyH.cons (o := _) ?_ (fun K hK => ?_) AllReadyH.nil
          rotate_left 1
          · (simp only [List.getElem?_toArray, List.getElem?_cons_succ, List.getElem?_cons_zero]; rfl)
          go_simp
          clear yr8 zr8 ur8
          replace r3 := ((((((r3.other nr3_r8.symm 0 (.int .i64 q.1)).other nr3_r8.symm 1 (.int .i64 q.2.m)).other nr3_r8.symm 2 (.int .i64 q.2.a)).other nr3_r8.symm 3 (.int .i64 q.2.b)).other nr3_r8.symm 4 (.int .i64 q.2.c)).other nr3_r8.symm 5 (.string q.2.tag))
          replace r4 := ((((((r4.other nr4_r8.symm 0 (.int .i64 q.1)).other nr4_r8.symm 1 (.int .i64 q.2.m)).other nr4_r8.symm 2 (.int .i64 q.2.a)).other nr4_r8.symm 3 (.int .i64 q.2.b)).other nr4_r8.symm 4 (.int .i64 q.2.c)).other nr4_r8.symm 5 (.string q.2.tag))
          replace r7 := ((((((r7.other nr8_r7 0 (.int .i64 q.1)).other nr8_r7 1 (.int .i64 q.2.m)).other nr8_r7 2 (.int .i64 q.2.a)).other nr8_r7 3 (.int .i64 q.2.b)).other nr8_r7 4 (.int .i64 q.2.c)).other nr8_r7 5 (.string q.2.tag))
          replace r8 := ((((((r8.set 0 (.int .i64 q.1)).set 1 (.int .i64 q.2.m)).set 2 (.int .i64 q.2.a)).set 3 (.int .i64 q.2.b)).set 4 (.int .i64 q.2.c)).set 5 (.string q.2.tag))
          simp only [List.setIfInBounds_toArray, List.set_cons_zero, List.set_cons_succ] at r8
          replace hc := ((((((hc.setCell (p := ⟨b8, 0, none⟩) wr8 (.int .i64 q.1)).setCell (p := ⟨b8, 1, none⟩) wr8 (.int .i64 q.2.m)).setCell (p := ⟨b8, 2, none⟩) wr8 (.int .i64 q.2.a)).setCell (p := ⟨b8, 3, none⟩) wr8 (.int .i64 q.2.b)).setCell (p := ⟨b8, 4, none⟩) wr8 (.int .i64 q.2.c)).setCell (p := ⟨b8, 5, none⟩) wr8 (.string q.2.tag))
          generalize hW : World.setCell _ _ _ = V9 at *
          clear hW
          refine hK.out _ _ ⟨r3.cell, r4.cell⟩ (fun hHeld => ?_)
          clear hK K
          clear hHeld
          refine wpAnyH_done (by kernel_rfl) ?_ _
          go_wp2_with fail
          go_meet
          exact ⟨_, _, p, q, rfl, rfl, hp, hq, r7, r8, hc⟩
      · go_simp
        have r7 := Row.new (W := V4) (cs := #[.int .i64 0, .int .i64 0, .int .i64 0, .int .i64 0, .int .i64 0, .string ⟨#[]⟩]) (t := 27)
        have hn := below_alloc V4 (.cells #[.int .i64 0, .int .i64 0, .int .i64 0, .int .i64 0, .int .i64 0, .string ⟨#[]⟩] 27)
        have nr3_r7 : w.heap.size ≠ V4.heap.size := Nat.ne_of_lt r3.lt
        have nr4_r7 : (w.heap.size + 1) ≠ V4.heap.size := Nat.ne_of_lt r4.lt
        have wr7 : w.heap.size ≤ V4.heap.size := hc.size
        replace r3 := r3.on hn
        replace r4 := r4.on hn
        replace hc := chain hc hn
        clear hn
        generalize V4.alloc (.cells #[.int .i64 0, .int .i64 0, .int .i64 0, .int .i64 0, .int .i64 0, .string ⟨#[]⟩] 27) = V5 at r3 r4 r7 hc ⊢
        generalize V4.heap.size = b7 at *
        refine hK.out _ _ ⟨r3.cell, r4.cell⟩ (fun hHeld => ?_)
        clear hK K
        clear hHeld
        refine wpAnyH_ready (rs := [3, 5]) (by kernel_rfl) (by simp) ?_
        refine' AllReadyH.cons (o := _) (by simp only [List.getElem?_toArray, List.getElem?_cons_succ, List.getElem?_cons_zero]; rfl) (fun K hK => ?_) (AllReadyH.cons (o := _) (by simp only [List.getElem?_toArray, List.getElem?_cons_succ, List.getElem?_cons_zero]; rfl) (fun K hK => ?_) AllReadyH.nil)
        · go_simp
          refine Calls.mono (MD.out _) ?_
          rintro e V6 ⟨⟨q, rfl, hq⟩, hn⟩
          replace r3 := r3.on hn
          replace r4 := r4.on hn
          replace r7 := r7.on hn
          replace hc := chain hc hn
          clear hn
          go_simp
          refine hK.out _ _ ⟨r3.cell, r4.cell⟩ (fun hHeld => ?_)
          clear hK K
          clear hHeld
          refine wpAnyH_ready (rs := [5]) (by kernel_rfl) (by simp) ?_
          refine' AllReadyH.cons (o := _) ?_ (fun K hK => ?_) AllReadyH.nil
          rotate_left 1
          · (simp only [List.getElem?_toArray, List.getElem?_cons_succ, List.getElem?_cons_zero]; rfl)
          go_simp
          have r8 := Row.new (W := V6) (cs := #[.int .i64 0, .int .i64 0, .int .i64 0, .int .i64 0, .int .i64 0, .string ⟨#[]⟩]) (t := 27)
          have hn := below_alloc V6 (.cells #[.int .i64 0, .int .i64 0, .int .i64 0, .int .i64 0, .int .i64 0, .string ⟨#[]⟩] 27)
          have nr3_r8 : w.heap.size ≠ V6.heap.size := Nat.ne_of_lt r3.lt
          have nr4_r8 : (w.heap.size + 1) ≠ V6.heap.size := Nat.ne_of_lt r4.lt
          have nr7_r8 : b7 ≠ V6.heap.size := Nat.ne_of_lt r7.lt
          have wr8 : w.heap.size ≤ V6.heap.size := hc.size
          replace r3 := r3.on hn
          replace r4 := r4.on hn
          replace r7 := r7.on hn
          replace hc := chain hc hn
          clear hn
          generalize V6.alloc (.cells #[.int .i64 0, .int .i64 0, .int .i64 0, .int .i64 0, .int .i64 0, .string ⟨#[]⟩] 27) = V7 at r3 r4 r7 r8 hc ⊢
          generalize V6.heap.size = b8 at *
          refine hK.out _ _ ⟨r3.cell, r4.cell⟩ (fun hHeld => ?_)
          clear hK K
          clear hHeld
          have yr7 := r7.cell
          have zr7 := r7.lt
          have ur7 := r7.free
          refine wpAnyH_ready (rs := [6]) (by kernel_rfl) (by simp) ?_
          refine' AllReadyH.cons (o := _) ?_ (fun K hK => ?_) AllReadyH.nil
          rotate_left 1
          · (simp only [List.getElem?_toArray, List.getElem?_cons_succ, List.getElem?_cons_zero]; rfl)
          go_simp
          clear yr7 zr7 ur7
          replace r3 := ((((((r3.other nr3_r7.symm 0 (.int .i64 p.1)).other nr3_r7.symm 1 (.int .i64 p.2.m)).other nr3_r7.symm 2 (.int .i64 p.2.a)).other nr3_r7.symm 3 (.int .i64 p.2.b)).other nr3_r7.symm 4 (.int .i64 p.2.c)).other nr3_r7.symm 5 (.string p.2.tag))
          replace r4 := ((((((r4.other nr4_r7.symm 0 (.int .i64 p.1)).other nr4_r7.symm 1 (.int .i64 p.2.m)).other nr4_r7.symm 2 (.int .i64 p.2.a)).other nr4_r7.symm 3 (.int .i64 p.2.b)).other nr4_r7.symm 4 (.int .i64 p.2.c)).other nr4_r7.symm 5 (.string p.2.tag))
          replace r8 := ((((((r8.other nr7_r8 0 (.int .i64 p.1)).other nr7_r8 1 (.int .i64 p.2.m)).other nr7_r8 2 (.int .i64 p.2.a)).other nr7_r8 3 (.int .i64 p.2.b)).other nr7_r8 4 (.int .i64 p.2.c)).other nr7_r8 5 (.string p.2.tag))
          replace r7 := ((((((r7.set 0 (.int .i64 p.1)).set 1 (.int .i64 p.2.m)).set 2 (.int .i64 p.2.a)).set 3 (.int .i64 p.2.b)).set 4 (.int .i64 p.2.c)).set 5 (.string p.2.tag))
          simp only [List.setIfInBounds_toArray, List.set_cons_zero, List.set_cons_succ] at r7
          replace hc := ((((((hc.setCell (p := ⟨b7, 0, none⟩) wr7 (.int .i64 p.1)).setCell (p := ⟨b7, 1, none⟩) wr7 (.int .i64 p.2.m)).setCell (p := ⟨b7, 2, none⟩) wr7 (.int .i64 p.2.a)).setCell (p := ⟨b7, 3, none⟩) wr7 (.int .i64 p.2.b)).setCell (p := ⟨b7, 4, none⟩) wr7 (.int .i64 p.2.c)).setCell (p := ⟨b7, 5, none⟩) wr7 (.string p.2.tag))
          generalize hW : World.setCell _ _ _ = V8 at *
          clear hW
          refine hK.out _ _ ⟨r3.cell, r4.cell⟩ (fun hHeld => ?_)
          clear hK K
          clear hHeld
          have yr8 := r8.cell
          have zr8 := r8.lt
          have ur8 := r8.free
          refine wpAnyH_ready (rs := [7]) (by kernel_rfl) (by simp) ?_
          refine' AllReadyH.cons (o := _) ?_ (fun K hK => ?_) AllReadyH.nil
          rotate_left 1
          · (simp only [List.getElem?_toArray, List.getElem?_cons_succ, List.getElem?_cons_zero]; rfl)
          go_simp
          clear yr8 zr8 ur8
          replace r3 := ((((((r3.other nr3_r8.symm 0 (.int .i64 q.1)).other nr3_r8.symm 1 (.int .i64 q.2.m)).other nr3_r8.symm 2 (.int .i64 q.2.a)).other nr3_r8.symm 3 (.int .i64 q.2.b)).other nr3_r8.symm 4 (.int .i64 q.2.c)).other nr3_r8.symm 5 (.string q.2.tag))
          replace r4 := ((((((r4.other nr4_r8.symm 0 (.int .i64 q.1)).other nr4_r8.symm 1 (.int .i64 q.2.m)).other nr4_r8.symm 2 (.int .i64 q.2.a)).other nr4_r8.symm 3 (.int .i64 q.2.b)).other nr4_r8.symm 4 (.int .i64 q.2.c)).other nr4_r8.symm 5 (.string q.2.tag))
          replace r7 := ((((((r7.other nr7_r8.symm 0 (.int .i64 q.1)).other nr7_r8.symm 1 (.int .i64 q.2.m)).other nr7_r8.symm 2 (.int .i64 q.2.a)).other nr7_r8.symm 3 (.int .i64 q.2.b)).other nr7_r8.symm 4 (.int .i64 q.2.c)).other nr7_r8.symm 5 (.string q.2.tag))
          replace r8 := ((((((r8.set 0 (.int .i64 q.1)).set 1 (.int .i64 q.2.m)).set 2 (.int .i64 q.2.a)).set 3 (.int .i64 q.2.b)).set 4 (.int .i64 q.2.c)).set 5 (.string q.2.tag))
          simp only [List.setIfInBounds_toArray, List.set_cons_zero, List.set_cons_succ] at r8
          replace hc := ((((((hc.setCell (p := ⟨b8, 0, none⟩) wr8 (.int .i64 q.1)).setCell (p := ⟨b8, 1, none⟩) wr8 (.int .i64 q.2.m)).setCell (p := ⟨b8, 2, none⟩) wr8 (.int .i64 q.2.a)).setCell (p := ⟨b8, 3, none⟩) wr8 (.int .i64 q.2.b)).setCell (p := ⟨b8, 4, none⟩) wr8 (.int .i64 q.2.c)).setCell (p := ⟨b8, 5, none⟩) wr8 (.string q.2.tag))
          generalize hW : World.setCell _ _ _ = V9 at *
          clear hW
          refine hK.out _ _ ⟨r3.cell, r4.cell⟩ (fun hHeld => ?_)
          clear hK K
          clear hHeld
          refine wpAnyH_done (by kernel_rfl) ?_ _
          go_wp2_with fail
          go_meet
          exact ⟨_, _, p, q, rfl, rfl, hp, hq, r7, r8, hc⟩
        · go_simp
          have r8 := Row.new (W := V5) (cs := #[.int .i64 0, .int .i64 0, .int .i64 0, .int .i64 0, .int .i64 0, .string ⟨#[]⟩]) (t := 27)
          have hn := below_alloc V5 (.cells #[.int .i64 0, .int .i64 0, .int .i64 0, .int .i64 0, .int .i64 0, .string ⟨#[]⟩] 27)
          have nr3_r8 : w.heap.size ≠ V5.heap.size := Nat.ne_of_lt r3.lt
          have nr4_r8 : (w.heap.size + 1) ≠ V5.heap.size := Nat.ne_of_lt r4.lt
          have nr7_r8 : b7 ≠ V5.heap.size := Nat.ne_of_lt r7.lt
          have wr8 : w.heap.size ≤ V5.heap.size := hc.size
          replace r3 := r3.on hn
          replace r4 := r4.on hn
          replace r7 := r7.on hn
          replace hc := chain hc hn
          clear hn
          generalize V5.alloc (.cells #[.int .i64 0, .int .i64 0, .int .i64 0, .int .i64 0, .int .i64 0, .string ⟨#[]⟩] 27) = V6 at r3 r4 r7 r8 hc ⊢
          generalize V5.heap.size = b8 at *
          refine hK.out _ _ ⟨r3.cell, r4.cell⟩ (fun hHeld => ?_)
          clear hK K
          clear hHeld
          refine wpAnyH_ready (rs := [3]) (by kernel_rfl) (by simp) ?_
          refine' AllReadyH.cons (o := _) ?_ (fun K hK => ?_) AllReadyH.nil
          rotate_left 1
          · (simp only [List.getElem?_toArray, List.getElem?_cons_succ, List.getElem?_cons_zero]; rfl)
          go_simp
          refine Calls.mono (MD.out _) ?_
          rintro e V7 ⟨⟨q, rfl, hq⟩, hn⟩
          replace r3 := r3.on hn
          replace r4 := r4.on hn
          replace r7 := r7.on hn
          replace r8 := r8.on hn
          replace hc := chain hc hn
          clear hn
          go_simp
          refine hK.out _ _ ⟨r3.cell, r4.cell⟩ (fun hHeld => ?_)
          clear hK K
          clear hHeld
          have yr7 := r7.cell
          have zr7 := r7.lt
          have ur7 := r7.free
          refine wpAnyH_ready (rs := [6]) (by kernel_rfl) (by simp) ?_
          refine' AllReadyH.cons (o := _) ?_ (fun K hK => ?_) AllReadyH.nil
          rotate_left 1
          · (simp only [List.getElem?_toArray, List.getElem?_cons_succ, List.getElem?_cons_zero]; rfl)
          go_simp
          clear yr7 zr7 ur7
          replace r3 := ((((((r3.other nr3_r7.symm 0 (.int .i64 p.1)).other nr3_r7.symm 1 (.int .i64 p.2.m)).other nr3_r7.symm 2 (.int .i64 p.2.a)).other nr3_r7.symm 3 (.int .i64 p.2.b)).other nr3_r7.symm 4 (.int .i64 p.2.c)).other nr3_r7.symm 5 (.string p.2.tag))
          replace r4 := ((((((r4.other nr4_r7.symm 0 (.int .i64 p.1)).other nr4_r7.symm 1 (.int .i64 p.2.m)).other nr4_r7.symm 2 (.int .i64 p.2.a)).other nr4_r7.symm 3 (.int .i64 p.2.b)).other nr4_r7.symm 4 (.int .i64 p.2.c)).other nr4_r7.symm 5 (.string p.2.tag))
          replace r8 := ((((((r8.other nr7_r8 0 (.int .i64 p.1)).other nr7_r8 1 (.int .i64 p.2.m)).other nr7_r8 2 (.int .i64 p.2.a)).other nr7_r8 3 (.int .i64 p.2.b)).other nr7_r8 4 (.int .i64 p.2.c)).other nr7_r8 5 (.string p.2.tag))
          replace r7 := ((((((r7.set 0 (.int .i64 p.1)).set 1 (.int .i64 p.2.m)).set 2 (.int .i64 p.2.a)).set 3 (.int .i64 p.2.b)).set 4 (.int .i64 p.2.c)).set 5 (.string p.2.tag))
          simp only [List.setIfInBounds_toArray, List.set_cons_zero, List.set_cons_succ] at r7
          replace hc := ((((((hc.setCell (p := ⟨b7, 0, none⟩) wr7 (.int .i64 p.1)).setCell (p := ⟨b7, 1, none⟩) wr7 (.int .i64 p.2.m)).setCell (p := ⟨b7, 2, none⟩) wr7 (.int .i64 p.2.a)).setCell (p := ⟨b7, 3, none⟩) wr7 (.int .i64 p.2.b)).setCell (p := ⟨b7, 4, none⟩) wr7 (.int .i64 p.2.c)).setCell (p := ⟨b7, 5, none⟩) wr7 (.string p.2.tag))
          generalize hW : World.setCell _ _ _ = V8 at *
          clear hW
          refine hK.out _ _ ⟨r3.cell, r4.cell⟩ (fun hHeld => ?_)
          clear hK K
          clear hHeld
          have yr8 := r8.cell
          have zr8 := r8.lt
          have ur8 := r8.free
          refine wpAnyH_ready (rs := [7]) (by kernel_rfl) (by simp) ?_
          refine' AllReadyH.cons (o := _) ?_ (fun K hK => ?_) AllReadyH.nil
          rotate_left 1
          · (simp only [List.getElem?_toArray, List.getElem?_cons_succ, List.getElem?_cons_zero]; rfl)
          go_simp
          clear yr8 zr8 ur8
          replace r3 := ((((((r3.other nr3_r8.symm 0 (.int .i64 q.1)).other nr3_r8.symm 1 (.int .i64 q.2.m)).other nr3_r8.symm 2 (.int .i64 q.2.a)).other nr3_r8.symm 3 (.int .i64 q.2.b)).other nr3_r8.symm 4 (.int .i64 q.2.c)).other nr3_r8.symm 5 (.string q.2.tag))
          replace r4 := ((((((r4.other nr4_r8.symm 0 (.int .i64 q.1)).other nr4_r8.symm 1 (.int .i64 q.2.m)).other nr4_r8.symm 2 (.int .i64 q.2.a)).other nr4_r8.symm 3 (.int .i64 q.2.b)).other nr4_r8.symm 4 (.int .i64 q.2.c)).other nr4_r8.symm 5 (.string q.2.tag))
          replace r7 := ((((((r7.other nr7_r8.symm 0 (.int .i64 q.1)).other nr7_r8.symm 1 (.int .i64 q.2.m)).other nr7_r8.symm 2 (.int .i64 q.2.a)).other nr7_r8.symm 3 (.int .i64 q.2.b)).other nr7_r8.symm 4 (.int .i64 q.2.c)).other nr7_r8.symm 5 (.string q.2.tag))
          replace r8 := ((((((r8.set 0 (.int .i64 q.1)).set 1 (.int .i64 q.2.m)).set 2 (.int .i64 q.2.a)).set 3 (.int .i64 q.2.b)).set 4 (.int .i64 q.2.c)).set 5 (.string q.2.tag))
          simp only [List.setIfInBounds_toArray, List.set_cons_zero, List.set_cons_succ] at r8
          replace hc := ((((((hc.setCell (p := ⟨b8, 0, none⟩) wr8 (.int .i64 q.1)).setCell (p := ⟨b8, 1, none⟩) wr8 (.int .i64 q.2.m)).setCell (p := ⟨b8, 2, none⟩) wr8 (.int .i64 q.2.a)).setCell (p := ⟨b8, 3, none⟩) wr8 (.int .i64 q.2.b)).setCell (p := ⟨b8, 4, none⟩) wr8 (.int .i64 q.2.c)).setCell (p := ⟨b8, 5, none⟩) wr8 (.string q.2.tag))
          generalize hW : World.setCell _ _ _ = V9 at *
          clear hW
          refine hK.out _ _ ⟨r3.cell, r4.cell⟩ (fun hHeld => ?_)
          clear hK K
          clear hHeld
          refine wpAnyH_done (by kernel_rfl) ?_ _
          go_wp2_with fail
          go_meet
          exact ⟨_, _, p, q, rfl, rfl, hp, hq, r7, r8, hc⟩
      · go_simp
        have r8 := Row.new (W := V4) (cs := #[.int .i64 0, .int .i64 0, .int .i64 0, .int .i64 0, .int .i64 0, .string ⟨#[]⟩]) (t := 27)
        have hn := below_alloc V4 (.cells #[.int .i64 0, .int .i64 0, .int .i64 0, .int .i64 0, .int .i64 0, .string ⟨#[]⟩] 27)
        have nr3_r8 : w.heap.size ≠ V4.heap.size := Nat.ne_of_lt r3.lt
        have nr4_r8 : (w.heap.size + 1) ≠ V4.heap.size := Nat.ne_of_lt r4.lt
        have wr8 : w.heap.size ≤ V4.heap.size := hc.size
        replace r3 := r3.on hn
        replace r4 := r4.on hn
        replace hc := chain hc hn
        clear hn
        generalize V4.alloc (.cells #[.int .i64 0, .int .i64 0, .int .i64 0, .int .i64 0, .int .i64 0, .string ⟨#[]⟩] 27) = V5 at r3 r4 r8 hc ⊢
        generalize V4.heap.size = b8 at *
        refine hK.out _ _ ⟨r3.cell, r4.cell⟩ (fun hHeld => ?_)
        clear hK K
        clear hHeld
        refine wpAnyH_ready (rs := [3, 4]) (by kernel_rfl) (by simp) ?_
        refine' AllReadyH.cons (o := _) (by simp only [List.getElem?_toArray, List.getElem?_cons_succ, List.getElem?_cons_zero]; rfl) (fun K hK => ?_) (AllReadyH.cons (o := _) (by simp only [List.getElem?_toArray, List.getElem?_cons_succ, List.getElem?_cons_zero]; rfl) (fun K hK => ?_) AllReadyH.nil)
        · go_simp
          refine Calls.mono (MD.out _) ?_
          rintro e V6 ⟨⟨q, rfl, hq⟩, hn⟩
          replace r3 := r3.on hn
          replace r4 := r4.on hn
          replace r8 := r8.on hn
          replace hc := chain hc hn
          clear hn
          go_simp
          refine hK.out _ _ ⟨r3.cell, r4.cell⟩ (fun hHeld => ?_)
          clear hK K
          clear hHeld
          refine wpAnyH_ready (rs := [4]) (by kernel_rfl) (by simp) ?_
          refine' AllReadyH.cons (o := _) ?_ (fun K hK => ?_) AllReadyH.nil
          rotate_left 1
          · (simp only [List.getElem?_toArray, List.getElem?_cons_succ, List.getElem?_cons_zero]; rfl)
          go_simp
          have r7 := Row.new (W := V6) (cs := #[.int .i64 0, .int .i64 0, .int .i64 0, .int .i64 0, .int .i64 0, .string ⟨#[]⟩]) (t := 27)
          have hn := below_alloc V6 (.cells #[.int .i64 0, .int .i64 0, .int .i64 0, .int .i64 0, .int .i64 0, .string ⟨#[]⟩] 27)
          have nr3_r7 : w.heap.size ≠ V6.heap.size := Nat.ne_of_lt r3.lt
          have nr4_r7 : (w.heap.size + 1) ≠ V6.heap.size := Nat.ne_of_lt r4.lt
          have nr8_r7 : b8 ≠ V6.heap.size := Nat.ne_of_lt r8.lt
          have wr7 : w.heap.size ≤ V6.heap.size := hc.size
          replace r3 := r3.on hn
          replace r4 := r4.on hn
          replace r8 := r8.on hn
          replace hc := chain hc hn
          clear hn
          generalize V6.alloc (.cells #[.int .i64 0, .int .i64 0, .int .i64 0, .int .i64 0, .int .i64 0, .string ⟨#[]⟩] 27) = V7 at r3 r4 r8 r7 hc ⊢
          generalize V6.heap.size = b7 at *
          refine hK.out _ _ ⟨r3.cell, r4.cell⟩ (fun hHeld => ?_)
          clear hK K
          clear hHeld
          have yr7 := r7.cell
          have zr7 := r7.lt
          have ur7 := r7.free
          refine wpAnyH_ready (rs := [6]) (by kernel_rfl) (by simp) ?_
          refine' AllReadyH.cons (o := _) ?_ (fun K hK => ?_) AllReadyH.nil
          rotate_left 1
          · (simp only [List.getElem?_toArray, List.getElem?_cons_succ, List.getElem?_cons_zero]; rfl)
          go_simp
          clear yr7 zr7 ur7
          replace r3 := ((((((r3.other nr3_r7.symm 0 (.int .i64 p.1)).other nr3_r7.symm 1 (.int .i64 p.2.m)).other nr3_r7.symm 2 (.int .i64 p.2.a)).other nr3_r7.symm 3 (.int .i64 p.2.b)).other nr3_r7.symm 4 (.int .i64 p.2.c)).other nr3_r7.symm 5 (.string p.2.tag))
          replace r4 := ((((((r4.other nr4_r7.symm 0 (.int .i64 p.1)).other nr4_r7.symm 1 (.int .i64 p.2.m)).other nr4_r7.symm 2 (.int .i64 p.2.a)).other nr4_r7.symm 3 (.int .i64 p.2.b)).other nr4_r7.symm 4 (.int .i64 p.2.c)).other nr4_r7.symm 5 (.string p.2.tag))
          replace r8 := ((((((r8.other nr8_r7.symm 0 (.int .i64 p.1)).other nr8_r7.symm 1 (.int .i64 p.2.m)).other nr8_r7.symm 2 (.int .i64 p.2.a)).other nr8_r7.symm 3 (.int .i64 p.2.b)).other nr8_r7.symm 4 (.int .i64 p.2.c)).other nr8_r7.symm 5 (.string p.2.tag))
          replace r7 := ((((((r7.set 0 (.int .i64 p.1)).set 1 (.int .i64 p.2.m)).set 2 (.int .i64 p.2.a)).set 3 (.int .i64 p.2.b)).set 4 (.int .i64 p.2.c)).set 5 (.string p.2.tag))
          simp only [List.setIfInBounds_toArray, List.set_cons_zero, List.set_cons_succ] at r7
          replace hc := ((((((hc.setCell (p := ⟨b7, 0, none⟩) wr7 (.int .i64 p.1)).setCell (p := ⟨b7, 1, none⟩) wr7 (.int .i64 p.2.m)).setCell (p := ⟨b7, 2, none⟩) wr7 (.int .i64 p.2.a)).setCell (p := ⟨b7, 3, none⟩) wr7 (.int .i64 p.2.b)).setCell (p := ⟨b7, 4, none⟩) wr7 (.int .i64 p.2.c)).setCell (p := ⟨b7, 5, none⟩) wr7 (.string p.2.tag))
          generalize hW : World.setCell _ _ _ = V8 at *
          clear hW
          refine hK.out _ _ ⟨r3.cell, r4.cell⟩ (fun hHeld => ?_)
          clear hK K
          clear hHeld
          have yr8 := r8.cell
          have zr8 := r8.lt
          have ur8 := r8.free
          refine wpAnyH_ready (rs := [7]) (by kernel_rfl) (by simp) ?_
          refine' AllReadyH.cons (o := _) ?_ (fun K hK => ?_) AllReadyH.nil
          rotate_left 1
          · (simp only [List.getElem?_toArray, List.getElem?_cons_succ, List.getElem?_cons_zero]; rfl)
          go_simp
          clear yr8 zr8 ur8
          replace r3 := ((((((r3.other nr3_r8.symm 0 (.int .i64 q.1)).other nr3_r8.symm 1 (.int .i64 q.2.m)).other nr3_r8.symm 2 (.int .i64 q.2.a)).other nr3_r8.symm 3 (.int .i64 q.2.b)).other nr3_r8.symm 4 (.int .i64 q.2.c)).other nr3_r8.symm 5 (.string q.2.tag))
          replace r4 := ((((((r4.other nr4_r8.symm 0 (.int .i64 q.1)).other nr4_r8.symm 1 (.int .i64 q.2.m)).other nr4_r8.symm 2 (.int .i64 q.2.a)).other nr4_r8.symm 3 (.int .i64 q.2.b)).other nr4_r8.symm 4 (.int .i64 q.2.c)).other nr4_r8.symm 5 (.string q.2.tag))
          replace r7 := ((((((r7.other nr8_r7 0 (.int .i64 q.1)).other nr8_r7 1 (.int .i64 q.2.m)).other nr8_r7 2 (.int .i64 q.2.a)).other nr8_r7 3 (.int .i64 q.2.b)).other nr8_r7 4 (.int .i64 q.2.c)).other nr8_r7 5 (.string q.2.tag))
          replace r8 := ((((((r8.set 0 (.int .i64 q.1)).set 1 (.int .i64 q.2.m)).set 2 (.int .i64 q.2.a)).set 3 (.int .i64 q.2.b)).set 4 (.int .i64 q.2.c)).set 5 (.string q.2.tag))
          simp only [List.setIfInBounds_toArray, List.set_cons_zero, List.set_cons_succ] at r8
          replace hc := ((((((hc.setCell (p := ⟨b8, 0, none⟩) wr8 (.int .i64 q.1)).setCell (p := ⟨b8, 1, none⟩) wr8 (.int .i64 q.2.m)).setCell (p := ⟨b8, 2, none⟩) wr8 (.int .i64 q.2.a)).setCell (p := ⟨b8, 3, none⟩) wr8 (.int .i64 q.2.b)).setCell (p := ⟨b8, 4, none⟩) wr8 (.int .i64 q.2.c)).setCell (p := ⟨b8, 5, none⟩) wr8 (.string q.2.tag))
          generalize hW : World.setCell _ _ _ = V9 at *
          clear hW
          refine hK.out _ _ ⟨r3.cell, r4.cell⟩ (fun hHeld => ?_)
          clear hK K
          clear hHeld
          refine wpAnyH_done (by kernel_rfl) ?_ _
          go_wp2_with fail
          go_meet
          exact ⟨_, _, p, q, rfl, rfl, hp, hq, r7, r8, hc⟩
        · go_simp
          have r7 := Row.new (W := V5) (cs := #[.int .i64 0, .int .i64 0, .int .i64 0, .int .i64 0, .int .i64 0, .string ⟨#[]⟩]) (t := 27)
          have hn := below_alloc V5 (.cells #[.int .i64 0, .int .i64 0, .int .i64 0, .int .i64 0, .int .i64 0, .string ⟨#[]⟩] 27)
          have nr3_r7 : w.heap.size ≠ V5.heap.size := Nat.ne_of_lt r3.lt
          have nr4_r7 : (w.heap.size + 1) ≠ V5.heap.size := Nat.ne_of_lt r4.lt
          have nr8_r7 : b8 ≠ V5.heap.size := Nat.ne_of_lt r8.lt
          have wr7 : w.heap.size ≤ V5.heap.size := hc.size
          replace r3 := r3.on hn
          replace r4 := r4.on hn
          replace r8 := r8.on hn
          replace hc := chain hc hn
          clear hn
          generalize V5.alloc (.cells #[.int .i64 0, .int .i64 0, .int .i64 0, .int .i64 0, .int .i64 0, .string ⟨#[]⟩] 27) = V6 at r3 r4 r8 r7 hc ⊢
          generalize V5.heap.size = b7 at *
          refine hK.out _ _ ⟨r3.cell, r4.cell⟩ (fun hHeld => ?_)
          clear hK K
          clear hHeld
          refine wpAnyH_ready (rs := [3]) (by kernel_rfl) (by simp) ?_
          refine' AllReadyH.cons (o := _) ?_ (fun K hK => ?_) AllReadyH.nil
          rotate_left 1
          · (simp only [List.getElem?_toArray, List.getElem?_cons_succ, List.getElem?_cons_zero]; rfl)
          go_simp
          refine Calls.mono (MD.out _) ?_
          rintro e V7 ⟨⟨q, rfl, hq⟩, hn⟩
          replace r3 := r3.on hn
          replace r4 := r4.on hn
          replace r8 := r8.on hn
          replace r7 := r7.on hn
          replace hc := chain hc hn
          clear hn
          go_simp
          refine hK.out _ _ ⟨r3.cell, r4.cell⟩ (fun hHeld => ?_)
          clear hK K
          clear hHeld
          have yr7 := r7.cell
          have zr7 := r7.lt
          have ur7 := r7.free
          refine wpAnyH_ready (rs := [6]) (by kernel_rfl) (by simp) ?_
          refine' AllReadyH.cons (o := _) ?_ (fun K hK => ?_) AllReadyH.nil
          rotate_left 1
          · (simp only [List.getElem?_toArray, List.getElem?_cons_succ, List.getElem?_cons_zero]; rfl)
          go_simp
          clear yr7 zr7 ur7
          replace r3 := ((((((r3.other nr3_r7.symm 0 (.int .i64 p.1)).other nr3_r7.symm 1 (.int .i64 p.2.m)).other nr3_r7.symm 2 (.int .i64 p.2.a)).other nr3_r7.symm 3 (.int .i64 p.2.b)).other nr3_r7.symm 4 (.int .i64 p.2.c)).other nr3_r7.symm 5 (.string p.2.tag))
          replace r4 := ((((((r4.other nr4_r7.symm 0 (.int .i64 p.1)).other nr4_r7.symm 1 (.int .i64 p.2.m)).other nr4_r7.symm 2 (.int .i64 p.2.a)).other nr4_r7.symm 3 (.int .i64 p.2.b)).other nr4_r7.symm 4 (.int .i64 p.2.c)).other nr4_r7.symm 5 (.string p.2.tag))
          replace r8 := ((((((r8.other nr8_r7.symm 0 (.int .i64 p.1)).other nr8_r7.symm 1 (.int .i64 p.2.m)).other nr8_r7.symm 2 (.int .i64 p.2.a)).other nr8_r7.symm 3 (.int .i64 p.2.b)).other nr8_r7.symm 4 (.int .i64 p.2.c)).other nr8_r7.symm 5 (.string p.2.tag))
          replace r7 := ((((((r7.set 0 (.int .i64 p.1)).set 1 (.int .i64 p.2.m)).set 2 (.int .i64 p.2.a)).set 3 (.int .i64 p.2.b)).set 4 (.int .i64 p.2.c)).set 5 (.string p.2.tag))
          simp only [List.setIfInBounds_toArray, List.set_cons_zero, List.set_cons_succ] at r7
          replace hc := ((((((hc.setCell (p := ⟨b7, 0, none⟩) wr7 (.int .i64 p.1)).setCell (p := ⟨b7, 1, none⟩) wr7 (.int .i64 p.2.m)).setCell (p := ⟨b7, 2, none⟩) wr7 (.int .i64 p.2.a)).setCell (p := ⟨b7, 3, none⟩) wr7 (.int .i64 p.2.b)).setCell (p := ⟨b7, 4, none⟩) wr7 (.int .i64 p.2.c)).setCell (p := ⟨b7, 5, none⟩) wr7 (.string p.2.tag))
          generalize hW : World.setCell _ _ _ = V8 at *
          clear hW
          refine hK.out _ _ ⟨r3.cell, r4.cell⟩ (fun hHeld => ?_)
          clear hK K
          clear hHeld
          have yr8 := r8.cell
          have zr8 := r8.lt
          have ur8 := r8.free
          refine wpAnyH_ready (rs := [7]) (by kernel_rfl) (by simp) ?_
          refine' AllReadyH.cons (o := _) ?_ (fun K hK => ?_) AllReadyH.nil
          rotate_left 1
          · (simp only [List.getElem?_toArray, List.getElem?_cons_succ, List.getElem?_cons_zero]; rfl)
          go_simp
          clear yr8 zr8 ur8
          replace r3 := ((((((r3.other nr3_r8.symm 0 (.int .i64 q.1)).other nr3_r8.symm 1 (.int .i64 q.2.m)).other nr3_r8.symm 2 (.int .i64 q.2.a)).other nr3_r8.symm 3 (.int .i64 q.2.b)).other nr3_r8.symm 4 (.int .i64 q.2.c)).other nr3_r8.symm 5 (.string q.2.tag))
          replace r4 := ((((((r4.other nr4_r8.symm 0 (.int .i64 q.1)).other nr4_r8.symm 1 (.int .i64 q.2.m)).other nr4_r8.symm 2 (.int .i64 q.2.a)).other nr4_r8.symm 3 (.int .i64 q.2.b)).other nr4_r8.symm 4 (.int .i64 q.2.c)).other nr4_r8.symm 5 (.string q.2.tag))
          replace r7 := ((((((r7.other nr8_r7 0 (.int .i64 q.1)).other nr8_r7 1 (.int .i64 q.2.m)).other nr8_r7 2 (.int .i64 q.2.a)).other nr8_r7 3 (.int .i64 q.2.b)).other nr8_r7 4 (.int .i64 q.2.c)).other nr8_r7 5 (.string q.2.tag))
          replace r8 := ((((((r8.set 0 (.int .i64 q.1)).set 1 (.int .i64 q.2.m)).set 2 (.int .i64 q.2.a)).set 3 (.int .i64 q.2.b)).set 4 (.int .i64 q.2.c)).set 5 (.string q.2.tag))
          simp only [List.setIfInBounds_toArray, List.set_cons_zero, List.set_cons_succ] at r8
          replace hc := ((((((hc.setCell (p := ⟨b8, 0, none⟩) wr8 (.int .i64 q.1)).setCell (p := ⟨b8, 1, none⟩) wr8 (.int .i64 q.2.m)).setCell (p := ⟨b8, 2, none⟩) wr8 (.int .i64 q.2.a)).setCell (p := ⟨b8, 3, none⟩) wr8 (.int .i64 q.2.b)).setCell (p := ⟨b8, 4, none⟩) wr8 (.int .i64 q.2.c)).setCell (p := ⟨b8, 5, none⟩) wr8 (.string q.2.tag))
          generalize hW : World.setCell _ _ _ = V9 at *
          clear hW
          refine hK.out _ _ ⟨r3.cell, r4.cell⟩ (fun hHeld => ?_)
          clear hK K
          clear hHeld
          refine wpAnyH_done (by kernel_rfl) ?_ _
          go_wp2_with fail
          go_meet
          exact ⟨_, _, p, q, rfl, rfl, hp, hq, r7, r8, hc⟩
    · go_simp
      have r7 := Row.new (W := V3) (cs := #[.int .i64 0, .int .i64 0, .int .i64 0, .int .i64 0, .int .i64 0, .string ⟨#[]⟩]) (t := 27)
      have hn := below_alloc V3 (.cells #[.int .i64 0, .int .i64 0, .int .i64 0, .int .i64 0, .int .i64 0, .string ⟨#[]⟩] 27)
      have nr3_r7 : w.heap.size ≠ V3.heap.size := Nat.ne_of_lt r3.lt
      have nr4_r7 : (w.heap.size + 1) ≠ V3.heap.size := Nat.ne_of_lt r4.lt
      have wr7 : w.heap.size ≤ V3.heap.size := hc.size
      replace r3 := r3.on hn
      replace r4 := r4.on hn
      replace hc := chain hc hn
      clear hn
      generalize V3.alloc (.cells #[.int .i64 0, .int .i64 0, .int .i64 0, .int .i64 0, .int .i64 0, .string ⟨#[]⟩] 27) = V4 at r3 r4 r7 hc ⊢
      generalize V3.heap.size = b7 at *
      refine hK.out _ _ ⟨r3.cell, r4.cell⟩ (fun hHeld => ?_)
      clear hK K
      clear hHeld
      refine wpAnyH_ready (rs := [1, 5]) (by kernel_rfl) (by simp) ?_
      refine' AllReadyH.cons (o := _) (by simp only [List.getElem?_toArray, List.getElem?_cons_succ, List.getElem?_cons_zero]; rfl) (fun K hK => ?_) (AllReadyH.cons (o := _) (by simp only [List.getElem?_toArray, List.getElem?_cons_succ, List.getElem?_cons_zero]; rfl) (fun K hK => ?_) AllReadyH.nil)
      · go_simp
        refine Calls.mono (MC.out _) ?_
        rintro e V5 ⟨⟨p, rfl, hp⟩, hn⟩
        replace r3 := r3.on hn
        replace r4 := r4.on hn
        replace r7 := r7.on hn
        replace hc := chain hc hn
        clear hn
        go_simp
        refine hK.out _ _ ⟨r3.cell, r4.cell⟩ (fun hHeld => ?_)
        clear hK K
        clear hHeld
        refine wpAnyH_ready (rs := [3, 5]) (by kernel_rfl) (by simp) ?_
        refine' AllReadyH.cons (o := _) (by simp only [List.getElem?_toArray, List.getElem?_cons_succ, List.getElem?_cons_zero]; rfl) (fun K hK => ?_) (AllReadyH.cons (o := _) (by simp only [List.getElem?_toArray, List.getElem?_cons_succ, List.getElem?_cons_zero]; rfl) (fun K hK => ?_) AllReadyH.nil)
        · go_simp
          refine Calls.mono (MD.out _) ?_
          rintro e V6 ⟨⟨q, rfl, hq⟩, hn⟩
          replace r3 := r3.on hn
          replace r4 := r4.on hn
          replace r7 := r7.on hn
          replace hc := chain hc hn
          clear hn
          go_simp
          refine hK.out _ _ ⟨r3.cell, r4.cell⟩ (fun hHeld => ?_)
          clear hK K
          clear hHeld
          refine wpAnyH_ready (rs := [5]) (by kernel_rfl) (by simp) ?_
          refine' AllReadyH.cons (o := _) ?_ (fun K hK => ?_) AllReadyH.nil
          rotate_left 1
          · (simp only [List.getElem?_toArray, List.getElem?_cons_succ, List.getElem?_cons_zero]; rfl)
          go_simp
          have r8 := Row.new (W := V6) (cs := #[.int .i64 0, .int .i64 0, .int .i64 0, .int .i64 0, .int .i64 0, .string ⟨#[]⟩]) (t := 27)
          have hn := below_alloc V6 (.cells #[.int .i64 0, .int .i64 0, .int .i64 0, .int .i64 0, .int .i64 0, .string ⟨#[]⟩] 27)
          have nr3_r8 : w.heap.size ≠ V6.heap.size := Nat.ne_of_lt r3.lt
          have nr4_r8 : (w.heap.size + 1) ≠ V6.heap.size := Nat.ne_of_lt r4.lt
          have nr7_r8 : b7 ≠ V6.heap.size := Nat.ne_of_lt r7.lt
          have wr8 : w.heap.size ≤ V6.heap.size := hc.size
          replace r3 := r3.on hn
          replace r4 := r4.on hn
          replace r7 := r7.on hn
          replace hc := chain hc hn
          clear hn
          generalize V6.alloc (.cells #[.int .i64 0, .int .i64 0, .int .i64 0, .int .i64 0, .int .i64 0, .string ⟨#[]⟩] 27) = V7 at r3 r4 r7 r8 hc ⊢
          generalize V6.heap.size = b8 at *
          refine hK.out _ _ ⟨r3.cell, r4.cell⟩ (fun hHeld => ?_)
          clear hK K
          clear hHeld
          have yr7 := r7.cell
          have zr7 := r7.lt
          have ur7 := r7.free
          refine wpAnyH_ready (rs := [6]) (by kernel_rfl) (by simp) ?_
          refine' AllReadyH.cons (o := _) ?_ (fun K hK => ?_) AllReadyH.nil
          rotate_left 1
          · (simp only [List.getElem?_toArray, List.getElem?_cons_succ, List.getElem?_cons_zero]; rfl)
          go_simp
          clear yr7 zr7 ur7
          replace r3 := ((((((r3.other nr3_r7.symm 0 (.int .i64 p.1)).other nr3_r7.symm 1 (.int .i64 p.2.m)).other nr3_r7.symm 2 (.int .i64 p.2.a)).other nr3_r7.symm 3 (.int .i64 p.2.b)).other nr3_r7.symm 4 (.int .i64 p.2.c)).other nr3_r7.symm 5 (.string p.2.tag))
          replace r4 := ((((((r4.other nr4_r7.symm 0 (.int .i64 p.1)).other nr4_r7.symm 1 (.int .i64 p.2.m)).other nr4_r7.symm 2 (.int .i64 p.2.a)).other nr4_r7.symm 3 (.int .i64 p.2.b)).other nr4_r7.symm 4 (.int .i64 p.2.c)).other nr4_r7.symm 5 (.string p.2.tag))
          replace r8 := ((((((r8.other nr7_r8 0 (.int .i64 p.1)).other nr7_r8 1 (.int .i64 p.2.m)).other nr7_r8 2 (.int .i64 p.2.a)).other nr7_r8 3 (.int .i64 p.2.b)).other nr7_r8 4 (.int .i64 p.2.c)).other nr7_r8 5 (.string p.2.tag))
          replace r7 := ((((((r7.set 0 (.int .i64 p.1)).set 1 (.int .i64 p.2.m)).set 2 (.int .i64 p.2.a)).set 3 (.int .i64 p.2.b)).set 4 (.int .i64 p.2.c)).set 5 (.string p.2.tag))
          simp only [List.setIfInBounds_toArray, List.set_cons_zero, List.set_cons_succ] at r7
          replace hc := ((((((hc.setCell (p := ⟨b7, 0, none⟩) wr7 (.int .i64 p.1)).setCell (p := ⟨b7, 1, none⟩) wr7 (.int .i64 p.2.m)).setCell (p := ⟨b7, 2, none⟩) wr7 (.int .i64 p.2.a)).setCell (p := ⟨b7, 3, none⟩) wr7 (.int .i64 p.2.b)).setCell (p := ⟨b7, 4, none⟩) wr7 (.int .i64 p.2.c)).setCell (p := ⟨b7, 5, none⟩) wr7 (.string p.2.tag))
          generalize hW : World.setCell _ _ _ = V8 at *
          clear hW
          refine hK.out _ _ ⟨r3.cell, r4.cell⟩ (fun hHeld => ?_)
          clear hK K
          clear hHeld
          have yr8 := r8.cell
          have zr8 := r8.lt
          have ur8 := r8.free
          refine wpAnyH_ready (rs := [7]) (by kernel_rfl) (by simp) ?_
          refine' AllReadyH.cons (o := _) ?_ (fun K hK => ?_) AllReadyH.nil
          rotate_left 1
          · (simp only [List.getElem?_toArray, List.getElem?_cons_succ, List.getElem?_cons_zero]; rfl)
          go_simp
          clear yr8 zr8 ur8
          replace r3 := ((((((r3.other nr3_r8.symm 0 (.int .i64 q.1)).other nr3_r8.symm 1 (.int .i64 q.2.m)).other nr3_r8.symm 2 (.int .i64 q.2.a)).other nr3_r8.symm 3 (.int .i64 q.2.b)).other nr3_r8.symm 4 (.int .i64 q.2.c)).other nr3_r8.symm 5 (.string q.2.tag))
          replace r4 := ((((((r4.other nr4_r8.symm 0 (.int .i64 q.1)).other nr4_r8.symm 1 (.int .i64 q.2.m)).other nr4_r8.symm 2 (.int .i64 q.2.a)).other nr4_r8.symm 3 (.int .i64 q.2.b)).other nr4_r8.symm 4 (.int .i64 q.2.c)).other nr4_r8.symm 5 (.string q.2.tag))
          replace r7 := ((((((r7.other nr7_r8.symm 0 (.int .i64 q.1)).other nr7_r8.symm 1 (.int .i64 q.2.m)).other nr7_r8.symm 2 (.int .i64 q.2.a)).other nr7_r8.symm 3 (.int .i64 q.2.b)).other nr7_r8.symm 4 (.int .i64 q.2.c)).other nr7_r8.symm 5 (.string q.2.tag))
          replace r8 := ((((((r8.set 0 (.int .i64 q.1)).set 1 (.int .i64 q.2.m)).set 2 (.int .i64 q.2.a)).set 3 (.int .i64 q.2.b)).set 4 (.int .i64 q.2.c)).set 5 (.string q.2.tag))
          simp only [List.setIfInBounds_toArray, List.set_cons_zero, List.set_cons_succ] at r8
          replace hc := ((((((hc.setCell (p := ⟨b8, 0, none⟩) wr8 (.int .i64 q.1)).setCell (p := ⟨b8, 1, none⟩) wr8 (.int .i64 q.2.m)).setCell (p := ⟨b8, 2, none⟩) wr8 (.int .i64 q.2.a)).setCell (p := ⟨b8, 3, none⟩) wr8 (.int .i64 q.2.b)).setCell (p := ⟨b8, 4, none⟩) wr8 (.int .i64 q.2.c)).setCell (p := ⟨b8, 5, none⟩) wr8 (.string q.2.tag))
          generalize hW : World.setCell _ _ _ = V9 at *
          clear hW
          refine hK.out _ _ ⟨r3.cell, r4.cell⟩ (fun hHeld => ?_)
          clear hK K
          clear hHeld
          refine wpAnyH_done (by kernel_rfl) ?_ _
          go_wp2_with fail
          go_meet
          exact ⟨_, _, p, q, rfl, rfl, hp, hq, r7, r8, hc⟩
        · go_simp
          have r8 := Row.new (W := V5) (cs := #[.int .i64 0, .int .i64 0, .int .i64 0, .int .i64 0, .int .i64 0, .string ⟨#[]⟩]) (t := 27)
          have hn := below_alloc V5 (.cells #[.int .i64 0, .int .i64 0, .int .i64 0, .int .i64 0, .int .i64 0, .string ⟨#[]⟩] 27)
          have nr3_r8 : w.heap.size ≠ V5.heap.size := Nat.ne_of_lt r3.lt
          have nr4_r8 : (w.heap.size + 1) ≠ V5.heap.size := Nat.ne_of_lt r4.lt
          have nr7_r8 : b7 ≠ V5.heap.size := Nat.ne_of_lt r7.lt
          have wr8 : w.heap.size ≤ V5.heap.size := hc.size
          replace r3 := r3.on hn
          replace r4 := r4.on hn
          replace r7 := r7.on hn
          replace hc := chain hc hn
          clear hn
          generalize V5.alloc (.cells #[.int .i64 0, .int .i64 0, .int .i64 0, .int .i64 0, .int .i64 0, .string ⟨#[]⟩] 27) = V6 at r3 r4 r7 r8 hc ⊢
          generalize V5.heap.size = b8 at *
          refine hK.out _ _ ⟨r3.cell, r4.cell⟩ (fun hHeld => ?_)
          clear hK K
          clear hHeld
          refine wpAnyH_ready (rs := [3]) (by kernel_rfl) (by simp) ?_
          refine' AllReadyH.cons (o := _) ?_ (fun K hK => ?_) AllReadyH.nil
          rotate_left 1
          · (simp only [List.getElem?_toArray, List.getElem?_cons_succ, List.getElem?_cons_zero]; rfl)
          go_simp
          refine Calls.mono (MD.out _) ?_
          rintro e V7 ⟨⟨q, rfl, hq⟩, hn⟩
          replace r3 := r3.on hn
          replace r4 := r4.on hn
          replace r7 := r7.on hn
          replace r8 := r8.on hn
          replace hc := chain hc hn
          clear hn
          go_simp
          refine hK.out _ _ ⟨r3.cell, r4.cell⟩ (fun hHeld => ?_)
          clear hK K
          clear hHeld
          have yr7 := r7.cell
          have zr7 := r7.lt
          have ur7 := r7.free
          refine wpAnyH_ready (rs := [6]) (by kernel_rfl) (by simp) ?_
          refine' AllReadyH.cons (o := _) ?_ (fun K hK => ?_) AllReadyH.nil
          rotate_left 1
          · (simp only [List.getElem?_toArray, List.getElem?_cons_succ, List.getElem?_cons_zero]; rfl)
          go_simp
          clear yr7 zr7 ur7
          replace r3 := ((((((r3.other nr3_r7.symm 0 (.int .i64 p.1)).other nr3_r7.symm 1 (.int .i64 p.2.m)).other nr3_r7.symm 2 (.int .i64 p.2.a)).other nr3_r7.symm 3 (.int .i64 p.2.b)).other nr3_r7.symm 4 (.int .i64 p.2.c)).other nr3_r7.symm 5 (.string p.2.tag))
          replace r4 := ((((((r4.other nr4_r7.symm 0 (.int .i64 p.1)).other nr4_r7.symm 1 (.int .i64 p.2.m)).other nr4_r7.symm 2 (.int .i64 p.2.a)).other nr4_r7.symm 3 (.int .i64 p.2.b)).other nr4_r7.symm 4 (.int .i64 p.2.c)).other nr4_r7.symm 5 (.string p.2.tag))
          replace r8 := ((((((r8.other nr7_r8 0 (.int .i64 p.1)).other nr7_r8 1 (.int .i64 p.2.m)).other nr7_r8 2 (.int .i64 p.2.a)).other nr7_r8 3 (.int .i64 p.2.b)).other nr7_r8 4 (.int .i64 p.2.c)).other nr7_r8 5 (.string p.2.tag))
          replace r7 := ((((((r7.set 0 (.int .i64 p.1)).set 1 (.int .i64 p.2.m)).set 2 (.int .i64 p.2.a)).set 3 (.int .i64 p.2.b)).set 4 (.int .i64 p.2.c)).set 5 (.string p.2.tag))
          simp only [List.setIfInBounds_toArray, List.set_cons_zero, List.set_cons_succ] at r7
          replace hc := ((((((hc.setCell (p := ⟨b7, 0, none⟩) wr7 (.int .i64 p.1)).setCell (p := ⟨b7, 1, none⟩) wr7 (.int .i64 p.2.m)).setCell (p := ⟨b7, 2, none⟩) wr7 (.int .i64 p.2.a)).setCell (p := ⟨b7, 3, none⟩) wr7 (.int .i64 p.2.b)).setCell (p := ⟨b7, 4, none⟩) wr7 (.int .i64 p.2.c)).setCell (p := ⟨b7, 5, none⟩) wr7 (.string p.2.tag))
          generalize hW : World.setCell _ _ _ = V8 at *
          clear hW
          refine hK.out _ _ ⟨r3.cell, r4.cell⟩ (fun hHeld => ?_)
          clear hK K
          clear hHeld
          have yr8 := r8.cell
          have zr8 := r8.lt
          have ur8 := r8.free
          refine wpAnyH_ready (rs := [7]) (by kernel_rfl) (by simp) ?_
          refine' AllReadyH.cons (o := _) ?_ (fun K hK => ?_) AllReadyH.nil
          rotate_left 1
          · (simp only [List.getElem?_toArray, List.getElem?_cons_succ, List.getElem?_cons_zero]; rfl)
          go_simp
          clear yr8 zr8 ur8
          replace r3 := ((((((r3.other nr3_r8.symm 0 (.int .i64 q.1)).other nr3_r8.symm 1 (.int .i64 q.2.m)).other nr3_r8.symm 2 (.int .i64 q.2.a)).other nr3_r8.symm 3 (.int .i64 q.2.b)).other nr3_r8.symm 4 (.int .i64 q.2.c)).other nr3_r8.symm 5 (.string q.2.tag))
          replace r4 := ((((((r4.other nr4_r8.symm 0 (.int .i64 q.1)).other nr4_r8.symm 1 (.int .i64 q.2.m)).other nr4_r8.symm 2 (.int .i64 q.2.a)).other nr4_r8.symm 3 (.int .i64 q.2.b)).other nr4_r8.symm 4 (.int .i64 q.2.c)).other nr4_r8.symm 5 (.string q.2.tag))
          replace r7 := ((((((r7.other nr7_r8.symm 0 (.int .i64 q.1)).other nr7_r8.symm 1 (.int .i64 q.2.m)).other nr7_r8.symm 2 (.int .i64 q.2.a)).other nr7_r8.symm 3 (.int .i64 q.2.b)).other nr7_r8.symm 4 (.int .i64 q.2.c)).other nr7_r8.symm 5 (.string q.2.tag))
          replace r8 := ((((((r8.set 0 (.int .i64 q.1)).set 1 (.int .i64 q.2.m)).set 2 (.int .i64 q.2.a)).set 3 (.int .i64 q.2.b)).set 4 (.int .i64 q.2.c)).set 5 (.string q.2.tag))
          simp only [List.setIfInBounds_toArray, List.set_cons_zero, List.set_cons_succ] at r8
          replace hc := ((((((hc.setCell (p := ⟨b8, 0, none⟩) wr8 (.int .i64 q.1)).setCell (p := ⟨b8, 1, none⟩) wr8 (.int .i64 q.2.m)).setCell (p := ⟨b8, 2, none⟩) wr8 (.int .i64 q.2.a)).setCell (p := ⟨b8, 3, none⟩) wr8 (.int .i64 q.2.b)).setCell (p := ⟨b8, 4, none⟩) wr8 (.int .i64 q.2.c)).setCell (p := ⟨b8, 5, none⟩) wr8 (.string q.2.tag))
          generalize hW : World.setCell _ _ _ = V9 at *
          clear hW
          refine hK.out _ _ ⟨r3.cell, r4.cell⟩ (fun hHeld => ?_)
          clear hK K
          clear hHeld
          refine wpAnyH_done (by kernel_rfl) ?_ _
          go_wp2_with fail
          go_meet
          exact ⟨_, _, p, q, rfl, rfl, hp, hq, r7, r8, hc⟩
      · go_simp
        have r8 := Row.new (W := V4) (cs := #[.int .i64 0, .int .i64 0, .int .i64 0, .int .i64 0, .int .i64 0, .string ⟨#[]⟩]) (t := 27)
        have hn := below_alloc V4 (.cells #[.int .i64 0, .int .i64 0, .int .i64 0, .int .i64 0, .int .i64 0, .string ⟨#[]⟩] 27)
        have nr3_r8 : w.heap.size ≠ V4.heap.size := Nat.ne_of_lt r3.lt
        have nr4_r8 : (w.heap.size + 1) ≠ V4.heap.size := Nat.ne_of_lt r4.lt
        have nr7_r8 : b7 ≠ V4.heap.size := Nat.ne_of_lt r7.lt
        have wr8 : w.heap.size ≤ V4.heap.size := hc.size
        replace r3 := r3.on hn
        replace r4 := r4.on hn
        replace r7 := r7.on hn
        replace hc := chain hc hn
        clear hn
        generalize V4.alloc (.cells #[.int .i64 0, .int .i64 0, .int .i64 0, .int .i64 0, .int .i64 0, .string ⟨#[]⟩] 27) = V5 at r3 r4 r7 r8 hc ⊢
        generalize V4.heap.size = b8 at *
        refine hK.out _ _ ⟨r3.cell, r4.cell⟩ (fun hHeld => ?_)
        clear hK K
        clear hHeld
        refine wpAnyH_ready (rs := [1]) (by kernel_rfl) (by simp) ?_
        refine' AllReadyH.cons (o := _) ?_ (fun K hK => ?_) AllReadyH.nil
        rotate_left 1
        · (simp only [List.getElem?_toArray, List.getElem?_cons_succ, List.getElem?_cons_zero]; rfl)
        go_simp
        refine Calls.mono (MC.out _) ?_
        rintro e V6 ⟨⟨p, rfl, hp⟩, hn⟩
        replace r3 := r3.on hn
        replace r4 := r4.on hn
        replace r7 := r7.on hn
        replace r8 := r8.on hn
        replace hc := chain hc hn
        clear hn
        go_simp
        refine hK.out _ _ ⟨r3.cell, r4.cell⟩ (fun hHeld => ?_)
        clear hK K
        clear hHeld
        refine wpAnyH_ready (rs := [3]) (by kernel_rfl) (by simp) ?_
        refine' AllReadyH.cons (o := _) ?_ (fun K hK => ?_) AllReadyH.nil
        rotate_left 1
        · (simp only [List.getElem?_toArray, List.getElem?_cons_succ, List.getElem?_cons_zero]; rfl)
        go_simp
        refine Calls.mono (MD.out _) ?_
        rintro e V7 ⟨⟨q, rfl, hq⟩, hn⟩
        replace r3 := r3.on hn
        replace r4 := r4.on hn
        replace r7 := r7.on hn
        replace r8 := r8.on hn
        replace hc := chain hc hn
        clear hn
        go_simp
        refine hK.out _ _ ⟨r3.cell, r4.cell⟩ (fun hHeld => ?_)
        clear hK K
        clear hHeld
        have yr7 := r7.cell
        have zr7 := r7.lt
        have ur7 := r7.free
        refine wpAnyH_ready (rs := [6]) (by kernel_rfl) (by simp) ?_
        refine' AllReadyH.cons (o := _) ?_ (fun K hK => ?_) AllReadyH.nil
        rotate_left 1
        · (simp only [List.getElem?_toArray, List.getElem?_cons_succ, List.getElem?_cons_zero]; rfl)
        go_simp
        clear yr7 zr7 ur7
        replace r3 := ((((((r3.other nr3_r7.symm 0 (.int .i64 p.1)).other nr3_r7.symm 1 (.int .i64 p.2.m)).other nr3_r7.symm 2 (.int .i64 p.2.a)).other nr3_r7.symm 3 (.int .i64 p.2.b)).other nr3_r7.symm 4 (.int .i64 p.2.c)).other nr3_r7.symm 5 (.string p.2.tag))
        replace r4 := ((((((r4.other nr4_r7.symm 0 (.int .i64 p.1)).other nr4_r7.symm 1 (.int .i64 p.2.m)).other nr4_r7.symm 2 (.int .i64 p.2.a)).other nr4_r7.symm 3 (.int .i64 p.2.b)).other nr4_r7.symm 4 (.int .i64 p.2.c)).other nr4_r7.symm 5 (.string p.2.tag))
        replace r8 := ((((((r8.other nr7_r8 0 (.int .i64 p.1)).other nr7_r8 1 (.int .i64 p.2.m)).other nr7_r8 2 (.int .i64 p.2.a)).other nr7_r8 3 (.int .i64 p.2.b)).other nr7_r8 4 (.int .i64 p.2.c)).other nr7_r8 5 (.string p.2.tag))
        replace r7 := ((((((r7.set 0 (.int .i64 p.1)).set 1 (.int .i64 p.2.m)).set 2 (.int .i64 p.2.a)).set 3 (.int .i64 p.2.b)).set 4 (.int .i64 p.2.c)).set 5 (.string p.2.tag))
        simp only [List.setIfInBounds_toArray, List.set_cons_zero, List.set_cons_succ] at r7
        replace hc := ((((((hc.setCell (p := ⟨b7, 0, none⟩) wr7 (.int .i64 p.1)).setCell (p := ⟨b7, 1, none⟩) wr7 (.int .i64 p.2.m)).setCell (p := ⟨b7, 2, none⟩) wr7 (.int .i64 p.2.a)).setCell (p := ⟨b7, 3, none⟩) wr7 (.int .i64 p.2.b)).setCell (p := ⟨b7, 4, none⟩) wr7 (.int .i64 p.2.c)).setCell (p := ⟨b7, 5, none⟩) wr7 (.string p.2.tag))
        generalize hW : World.setCell _ _ _ = V8 at *
        clear hW
        refine hK.out _ _ ⟨r3.cell, r4.cell⟩ (fun hHeld => ?_)
        clear hK K
        clear hHeld
        have yr8 := r8.cell
        have zr8 := r8.lt
        have ur8 := r8.free
        refine wpAnyH_ready (rs := [7]) (by kernel_rfl) (by simp) ?_
        refine' AllReadyH.cons (o := _) ?_ (fun K hK => ?_) AllReadyH.nil
        rotate_left 1
        · (simp only [List.getElem?_toArray, List.getElem?_cons_succ, List.getElem?_cons_zero]; rfl)
        go_simp
        clear yr8 zr8 ur8
        replace r3 := ((((((r3.other nr3_r8.symm 0 (.int .i64 q.1)).other nr3_r8.symm 1 (.int .i64 q.2.m)).other nr3_r8.symm 2 (.int .i64 q.2.a)).other nr3_r8.symm 3 (.int .i64 q.2.b)).other nr3_r8.symm 4 (.int .i64 q.2.c)).other nr3_r8.symm 5 (.string q.2.tag))
        replace r4 := ((((((r4.other nr4_r8.symm 0 (.int .i64 q.1)).other nr4_r8.symm 1 (.int .i64 q.2.m)).other nr4_r8.symm 2 (.int .i64 q.2.a)).other nr4_r8.symm 3 (.int .i64 q.2.b)).other nr4_r8.symm 4 (.int .i64 q.2.c)).other nr4_r8.symm 5 (.string q.2.tag))
        replace r7 := ((((((r7.other nr7_r8.symm 0 (.int .i64 q.1)).other nr7_r8.symm 1 (.int .i64 q.2.m)).other nr7_r8.symm 2 (.int .i64 q.2.a)).other nr7_r8.symm 3 (.int .i64 q.2.b)).other nr7_r8.symm 4 (.int .i64 q.2.c)).other nr7_r8.symm 5 (.string q.2.tag))
        replace r8 := ((((((r8.set 0 (.int .i64 q.1)).set 1 (.int .i64 q.2.m)).set 2 (.int .i64 q.2.a)).set 3 (.int .i64 q.2.b)).set 4 (.int .i64 q.2.c)).set 5 (.string q.2.tag))
        simp only [List.setIfInBounds_toArray, List.set_cons_zero, List.set_cons_succ] at r8
        replace hc := ((((((hc.setCell (p := ⟨b8, 0, none⟩) wr8 (.int .i64 q.1)).setCell (p := ⟨b8, 1, none⟩) wr8 (.int .i64 q.2.m)).setCell (p := ⟨b8, 2, none⟩) wr8 (.int .i64 q.2.a)).setCell (p := ⟨b8, 3, none⟩) wr8 (.int .i64 q.2.b)).setCell (p := ⟨b8, 4, none⟩) wr8 (.int .i64 q.2.c)).setCell (p := ⟨b8, 5, none⟩) wr8 (.string q.2.tag))
        generalize hW : World.setCell _ _ _ = V9 at *
        clear hW
        refine hK.out _ _ ⟨r3.cell, r4.cell⟩ (fun hHeld => ?_)
        clear hK K
        clear hHeld
        refine wpAnyH_done (by kernel_rfl) ?_ _
        go_wp2_with fail
        go_meet
        exact ⟨_, _, p, q, rfl, rfl, hp, hq, r7, r8, hc⟩
    · go_simp
      have r8 := Row.new (W := V3) (cs := #[.int .i64 0, .int .i64 0, .int .i64 0, .int .i64 0, .int .i64 0, .string ⟨#[]⟩]) (t := 27)
      have hn := below_alloc V3 (.cells #[.int .i64 0, .int .i64 0, .int .i64 0, .int .i64 0, .int .i64 0, .string ⟨#[]⟩] 27)
      have nr3_r8 : w.heap.size ≠ V3.heap.size := Nat.ne_of_lt r3.lt
      have nr4_r8 : (w.heap.size + 1) ≠ V3.heap.size := Nat.ne_of_lt r4.lt
      have wr8 : w.heap.size ≤ V3.heap.size := hc.size
      replace r3 := r3.on hn
      replace r4 := r4.on hn
      replace hc := chain hc hn
      clear hn
      generalize V3.alloc (.cells #[.int .i64 0, .int .i64 0, .int .i64 0, .int .i64 0, .int .i64 0, .string ⟨#[]⟩] 27) = V4 at r3 r4 r8 hc ⊢
      generalize V3.heap.size = b8 at *
      refine hK.out _ _ ⟨r3.cell, r4.cell⟩ (fun hHeld => ?_)
      clear hK K
      clear hHeld
      refine wpAnyH_ready (rs := [1, 4]) (by kernel_rfl) (by simp) ?_
      refine' AllReadyH.cons (o := _) (by simp only [List.getElem?_toArray, List.getElem?_cons_succ, List.getElem?_cons_zero]; rfl) (fun K hK => ?_) (AllReadyH.cons (o := _) (by simp only [List.getElem?_toArray, List.getElem?_cons_succ, List.getElem?_cons_zero]; rfl) (fun K hK => ?_) AllReadyH.nil)
      · go_simp
        refine Calls.mono (MC.out _) ?_
        rintro e V5 ⟨⟨p, rfl, hp⟩, hn⟩
        replace r3 := r3.on hn
        replace r4 := r4.on hn
        replace r8 := r8.on hn
        replace hc := chain hc hn
        clear hn
        go_simp
        refine hK.out _ _ ⟨r3.cell, r4.cell⟩ (fun hHeld => ?_)
        clear hK K
        clear hHeld
        refine wpAnyH_ready (rs := [3, 4]) (by kernel_rfl) (by simp) ?_
        refine' AllReadyH.cons (o := _) (by simp only [List.getElem?_toArray, List.getElem?_cons_succ, List.getElem?_cons_zero]; rfl) (fun K hK => ?_) (AllReadyH.cons (o := _) (by simp only [List.getElem?_toArray, List.getElem?_cons_succ, List.getElem?_cons_zero]; rfl) (fun K hK => ?_) AllReadyH.nil)
        · go_simp
          refine Calls.mono (MD.out _) ?_
          rintro e V6 ⟨⟨q, rfl, hq⟩, hn⟩
          replace r3 := r3.on hn
          replace r4 := r4.on hn
          replace r8 := r8.on hn
          replace hc := chain hc hn
          clear hn
          go_simp
          refine hK.out _ _ ⟨r3.cell, r4.cell⟩ (fun hHeld => ?_)
          clear hK K
          clear hHeld
          refine wpAnyH_ready (rs := [4]) (by kernel_rfl) (by simp) ?_
          refine' AllReadyH.cons (o := _) ?_ (fun K hK => ?_) AllReadyH.nil
          rotate_left 1
          · (simp only [List.getElem?_toArray, List.getElem?_cons_succ, List.getElem?_cons_zero]; rfl)
          go_simp
          have r7 := Row.new (W := V6) (cs := #[.int .i64 0, .int .i64 0, .int .i64 0, .int .i64 0, .int .i64 0, .string ⟨#[]⟩]) (t := 27)
          have hn := below_alloc V6 (.cells #[.int .i64 0, .int .i64 0, .int .i64 0, .int .i64 0, .int .i64 0, .string ⟨#[]⟩] 27)
          have nr3_r7 : w.heap.size ≠ V6.heap.size := Nat.ne_of_lt r3.lt
          have nr4_r7 : (w.heap.size + 1) ≠ V6.heap.size := Nat.ne_of_lt r4.lt
          have nr8_r7 : b8 ≠ V6.heap.size := Nat.ne_of_lt r8.lt
          have wr7 : w.heap.size ≤ V6.heap.size := hc.size
          replace r3 := r3.on hn
          replace r4 := r4.on hn
          replace r8 := r8.on hn
          replace hc := chain hc hn
          clear hn
          generalize V6.alloc (.cells #[.int .i64 0, .int .i64 0, .int .i64 0, .int .i64 0, .int .i64 0, .string ⟨#[]⟩] 27) = V7 at r3 r4 r8 r7 hc ⊢
          generalize V6.heap.size = b7 at *
          refine hK.out _ _ ⟨r3.cell, r4.cell⟩ (fun hHeld => ?_)
          clear hK K
          clear hHeld
          have yr7 := r7.cell
          have zr7 := r7.lt
          have ur7 := r7.free
          refine wpAnyH_ready (rs := [6]) (by kernel_rfl) (by simp) ?_
          refine' AllReadyH.cons (o := _) ?_ (fun K hK => ?_) AllReadyH.nil
          rotate_left 1
          · (simp only [List.getElem?_toArray, List.getElem?_cons_succ, List.getElem?_cons_zero]; rfl)
          go_simp
          clear yr7 zr7 ur7
          replace r3 := ((((((r3.other nr3_r7.symm 0 (.int .i64 p.1)).other nr3_r7.symm 1 (.int .i64 p.2.m)).other nr3_r7.symm 2 (.int .i64 p.2.a)).other nr3_r7.symm 3 (.int .i64 p.2.b)).other nr3_r7.symm 4 (.int .i64 p.2.c)).other nr3_r7.symm 5 (.string p.2.tag))
          replace r4 := ((((((r4.other nr4_r7.symm 0 (.int .i64 p.1)).other nr4_r7.symm 1 (.int .i64 p.2.m)).other nr4_r7.symm 2 (.int .i64 p.2.a)).other nr4_r7.symm 3 (.int .i64 p.2.b)).other nr4_r7.symm 4 (.int .i64 p.2.c)).other nr4_r7.symm 5 (.string p.2.tag))
          replace r8 := ((((((r8.other nr8_r7.symm 0 (.int .i64 p.1)).other nr8_r7.symm 1 (.int .i64 p.2.m)).other nr8_r7.symm 2 (.int .i64 p.2.a)).other nr8_r7.symm 3 (.int .i64 p.2.b)).other nr8_r7.symm 4 (.int .i64 p.2.c)).other nr8_r7.symm 5 (.string p.2.tag))
          replace r7 := ((((((r7.set 0 (.int .i64 p.1)).set 1 (.int .i64 p.2.m)).set 2 (.int .i64 p.2.a)).set 3 (.int .i64 p.2.b)).set 4 (.int .i64 p.2.c)).set 5 (.string p.2.tag))
          simp only [List.setIfInBounds_toArray, List.set_cons_zero, List.set_cons_succ] at r7
          replace hc := ((((((hc.setCell (p := ⟨b7, 0, none⟩) wr7 (.int .i64 p.1)).setCell (p := ⟨b7, 1, none⟩) wr7 (.int .i64 p.2.m)).setCell (p := ⟨b7, 2, none⟩) wr7 (.int .i64 p.2.a)).setCell (p := ⟨b7, 3, none⟩) wr7 (.int .i64 p.2.b)).setCell (p := ⟨b7, 4, none⟩) wr7 (.int .i64 p.2.c)).setCell (p := ⟨b7, 5, none⟩) wr7 (.string p.2.tag))
          generalize hW : World.setCell _ _ _ = V8 at *
          clear hW
          refine hK.out _ _ ⟨r3.cell, r4.cell⟩ (fun hHeld => ?_)
          clear hK K
          clear hHeld
          have yr8 := r8.cell
          have zr8 := r8.lt
          have ur8 := r8.free
          refine wpAnyH_ready (rs := [7]) (by kernel_rfl) (by simp) ?_
          refine' AllReadyH.cons (o := _) ?_ (fun K hK => ?_) AllReadyH.nil
          rotate_left 1
          · (simp only [List.getElem?_toArray, List.getElem?_cons_succ, List.getElem?_cons_zero]; rfl)
          go_simp
          clear yr8 zr8 ur8
          replace r3 := ((((((r3.other nr3_r8.symm 0 (.int .i64 q.1)).other nr3_r8.symm 1 (.int .i64 q.2.m)).other nr3_r8.symm 2 (.int .i64 q.2.a)).other nr3_r8.symm 3 (.int .i64 q.2.b)).other nr3_r8.symm 4 (.int .i64 q.2.c)).other nr3_r8.symm 5 (.string q.2.tag))
          replace r4 := ((((((r4.other nr4_r8.symm 0 (.int .i64 q.1)).other nr4_r8.symm 1 (.int .i64 q.2.m)).other nr4_r8.symm 2 (.int .i64 q.2.a)).other nr4_r8.symm 3 (.int .i64 q.2.b)).other nr4_r8.symm 4 (.int .i64 q.2.c)).other nr4_r8.symm 5 (.string q.2.tag))
          replace r7 := ((((((r7.other nr8_r7 0 (.int .i64 q.1)).other nr8_r7 1 (.int .i64 q.2.m)).other nr8_r7 2 (.int .i64 q.2.a)).other nr8_r7 3 (.int .i64 q.2.b)).other nr8_r7 4 (.int .i64 q.2.c)).other nr8_r7 5 (.string q.2.tag))
          replace r8 := ((((((r8.set 0 (.int .i64 q.1)).set 1 (.int .i64 q.2.m)).set 2 (.int .i64 q.2.a)).set 3 (.int .i64 q.2.b)).set 4 (.int .i64 q.2.c)).set 5 (.string q.2.tag))
          simp only [List.setIfInBounds_toArray, List.set_cons_zero, List.set_cons_succ] at r8
          replace hc := ((((((hc.setCell (p := ⟨b8, 0, none⟩) wr8 (.int .i64 q.1)).setCell (p := ⟨b8, 1, none⟩) wr8 (.int .i64 q.2.m)).setCell (p := ⟨b8, 2, none⟩) wr8 (.int .i64 q.2.a)).setCell (p := ⟨b8, 3, none⟩) wr8 (.int .i64 q.2.b)).setCell (p := ⟨b8, 4, none⟩) wr8 (.int .i64 q.2.c)).setCell (p := ⟨b8, 5, none⟩) wr8 (.string q.2.tag))
          generalize hW : World.setCell _ _ _ = V9 at *
          clear hW
          refine hK.out _ _ ⟨r3.cell, r4.cell⟩ (fun hHeld => ?_)
          clear hK K
          clear hHeld
          refine wpAnyH_done (by kernel_rfl) ?_ _
          go_wp2_with fail
          go_meet
          exact ⟨_, _, p, q, rfl, rfl, hp, hq, r7, r8, hc⟩
        · go_simp
          have r7 := Row.new (W := V5) (cs := #[.int .i64 0, .int .i64 0, .int .i64 0, .int .i64 0, .int .i64 0, .string ⟨#[]⟩]) (t := 27)
          have hn := below_alloc V5 (.cells #[.int .i64 0, .int .i64 0, .int .i64 0, .int .i64 0, .int .i64 0, .string ⟨#[]⟩] 27)
          have nr3_r7 : w.heap.size ≠ V5.heap.size := Nat.ne_of_lt r3.lt
          have nr4_r7 : (w.heap.size + 1) ≠ V5.heap.size := Nat.ne_of_lt r4.lt
          have nr8_r7 : b8 ≠ V5.heap.size := Nat.ne_of_lt r8.lt
          have wr7 : w.heap.size ≤ V5.heap.size := hc.size
          replace r3 := r3.on hn
          replace r4 := r4.on hn
          replace r8 := r8.on hn
          replace hc := chain hc hn
          clear hn
          generalize V5.alloc (.cells #[.int .i64 0, .int .i64 0, .int .i64 0, .int .i64 0, .int .i64 0, .string ⟨#[]⟩] 27) = V6 at r3 r4 r8 r7 hc ⊢
          generalize V5.heap.size = b7 at *
          refine hK.out _ _ ⟨r3.cell, r4.cell⟩ (fun hHeld => ?_)
          clear hK K
          clear hHeld
          refine wpAnyH_ready (rs := [3]) (by kernel_rfl) (by simp) ?_
          refine' AllReadyH.cons (o := _) ?_ (fun K hK => ?_) AllReadyH.nil
          rotate_left 1
          · (simp only [List.getElem?_toArray, List.getElem?_cons_succ, List.getElem?_cons_zero]; rfl)
          go_simp
          refine Calls.mono (MD.out _) ?_
          rintro e V7 ⟨⟨q, rfl, hq⟩, hn⟩
          replace r3 := r3.on hn
          replace r4 := r4.on hn
          replace r8 := r8.on hn
          replace r7 := r7.on hn
          replace hc := chain hc hn
          clear hn
          go_simp
          refine hK.out _ _ ⟨r3.cell, r4.cell⟩ (fun hHeld => ?_)
          clear hK K
          clear hHeld
          have yr7 := r7.cell
          have zr7 := r7.lt
          have ur7 := r7.free
          refine wpAnyH_ready (rs := [6]) (by kernel_rfl) (by simp) ?_
          refine' AllReadyH.cons (o := _) ?_ (fun K hK => ?_) AllReadyH.nil
          rotate_left 1
          · (simp only [List.getElem?_toArray, List.getElem?_cons_succ, List.getElem?_cons_zero]; rfl)
          go_simp
          clear yr7 zr7 ur7
          replace r3 := ((((((r3.other nr3_r7.symm 0 (.int .i64 p.1)).other nr3_r7.symm 1 (.int .i64 p.2.m)).other nr3_r7.symm 2 (.int .i64 p.2.a)).other nr3_r7.symm 3 (.int .i64 p.2.b)).other nr3_r7.symm 4 (.int .i64 p.2.c)).other nr3_r7.symm 5 (.string p.2.tag))
          replace r4 := ((((((r4.other nr4_r7.symm 0 (.int .i64 p.1)).other nr4_r7.symm 1 (.int .i64 p.2.m)).other nr4_r7.symm 2 (.int .i64 p.2.a)).other nr4_r7.symm 3 (.int .i64 p.2.b)).other nr4_r7.symm 4 (.int .i64 p.2.c)).other nr4_r7.symm 5 (.string p.2.tag))
          replace r8 := ((((((r8.other nr8_r7.symm 0 (.int .i64 p.1)).other nr8_r7.symm 1 (.int .i64 p.2.m)).other nr8_r7.symm 2 (.int .i64 p.2.a)).other nr8_r7.symm 3 (.int .i64 p.2.b)).other nr8_r7.symm 4 (.int .i64 p.2.c)).other nr8_r7.symm 5 (.string p.2.tag))
          replace r7 := ((((((r7.set 0 (.int .i64 p.1)).set 1 (.int .i64 p.2.m)).set 2 (.int .i64 p.2.a)).set 3 (.int .i64 p.2.b)).set 4 (.int .i64 p.2.c)).set 5 (.string p.2.tag))
          simp only [List.setIfInBounds_toArray, List.set_cons_zero, List.set_cons_succ] at r7
          replace hc := ((((((hc.setCell (p := ⟨b7, 0, none⟩) wr7 (.int .i64 p.1)).setCell (p := ⟨b7, 1, none⟩) wr7 (.int .i64 p.2.m)).setCell (p := ⟨b7, 2, none⟩) wr7 (.int .i64 p.2.a)).setCell (p := ⟨b7, 3, none⟩) wr7 (.int .i64 p.2.b)).setCell (p := ⟨b7, 4, none⟩) wr7 (.int .i64 p.2.c)).setCell (p := ⟨b7, 5, none⟩) wr7 (.string p.2.tag))
          generalize hW : World.setCell _ _ _ = V8 at *
          clear hW
          refine hK.out _ _ ⟨r3.cell, r4.cell⟩ (fun hHeld => ?_)
          clear hK K
          clear hHeld
          have yr8 := r8.cell
          have zr8 := r8.lt
          have ur8 := r8.free
          refine wpAnyH_ready (rs := [7]) (by kernel_rfl) (by simp) ?_
          refine' AllReadyH.cons (o := _) ?_ (fun K hK => ?_) AllReadyH.nil
          rotate_left 1
          · (simp only [List.getElem?_toArray, List.getElem?_cons_succ, List.getElem?_cons_zero]; rfl)
          go_simp
          clear yr8 zr8 ur8
          replace r3 := ((((((r3.other nr3_r8.symm 0 (.int .i64 q.1)).other nr3_r8.symm 1 (.int .i64 q.2.m)).other nr3_r8.symm 2 (.int .i64 q.2.a)).other nr3_r8.symm 3 (.int .i64 q.2.b)).other nr3_r8.symm 4 (.int .i64 q.2.c)).other nr3_r8.symm 5 (.string q.2.tag))
          replace r4 := ((((((r4.other nr4_r8.symm 0 (.int .i64 q.1)).other nr4_r8.symm 1 (.int .i64 q.2.m)).other nr4_r8.symm 2 (.int .i64 q.2.a)).other nr4_r8.symm 3 (.int .i64 q.2.b)).other nr4_r8.symm 4 (.int .i64 q.2.c)).other nr4_r8.symm 5 (.string q.2.tag))
          replace r7 := ((((((r7.other nr8_r7 0 (.int .i64 q.1)).other nr8_r7 1 (.int .i64 q.2.m)).other nr8_r7 2 (.int .i64 q.2.a)).other nr8_r7 3 (.int .i64 q.2.b)).other nr8_r7 4 (.int .i64 q.2.c)).other nr8_r7 5 (.string q.2.tag))
          replace r8 := ((((((r8.set 0 (.int .i64 q.1)).set 1 (.int .i64 q.2.m)).set 2 (.int .i64 q.2.a)).set 3 (.int .i64 q.2.b)).set 4 (.int .i64 q.2.c)).set 5 (.string q.2.tag))
          simp only [List.setIfInBounds_toArray, List.set_cons_zero, List.set_cons_succ] at r8
          replace hc := ((((((hc.setCell (p := ⟨b8, 0, none⟩) wr8 (.int .i64 q.1)).setCell (p := ⟨b8, 1, none⟩) wr8 (.int .i64 q.2.m)).setCell (p := ⟨b8, 2, none⟩) wr8 (.int .i64 q.2.a)).setCell (p := ⟨b8, 3, none⟩) wr8 (.int .i64 q.2.b)).setCell (p := ⟨b8, 4, none⟩) wr8 (.int .i64 q.2.c)).setCell (p := ⟨b8, 5, none⟩) wr8 (.string q.2.tag))
          generalize hW : World.setCell _ _ _ = V9 at *
          clear hW
          refine hK.out _ _ ⟨r3.cell, r4.cell⟩ (fun hHeld => ?_)
          clear hK K
          clear hHeld
          refine wpAnyH_done (by kernel_rfl) ?_ _
          go_wp2_with fail
          go_meet
          exact ⟨_, _, p, q, rfl, rfl, hp, hq, r7, r8, hc⟩
      · go_simp
        have r7 := Row.new (W := V4) (cs := #[.int .i64 0, .int .i64 0, .int .i64 0, .int .i64 0, .int .i64 0, .string ⟨#[]⟩]) (t := 27)
        have hn := below_alloc V4 (.cells #[.int .i64 0, .int .i64 0, .int .i64 0, .int .i64 0, .int .i64 0, .string ⟨#[]⟩] 27)
        have nr3_r7 : w.heap.size ≠ V4.heap.size := Nat.ne_of_lt r3.lt
        have nr4_r7 : (w.heap.size + 1) ≠ V4.heap.size := Nat.ne_of_lt r4.lt
        have nr8_r7 : b8 ≠ V4.heap.size := Nat.ne_of_lt r8.lt
        have wr7 : w.heap.size ≤ V4.heap.size := hc.size
        replace r3 := r3.on hn
        replace r4 := r4.on hn
        replace r8 := r8.on hn
        replace hc := chain hc hn
        clear hn
        generalize V4.alloc (.cells #[.int .i64 0, .int .i64 0, .int .i64 0, .int .i64 0, .int .i64 0, .string ⟨#[]⟩] 27) = V5 at r3 r4 r8 r7 hc ⊢
        generalize V4.heap.size = b7 at *
        refine hK.out _ _ ⟨r3.cell, r4.cell⟩ (fun hHeld => ?_)
        clear hK K
        clear hHeld
        refine wpAnyH_ready (rs := [1]) (by kernel_rfl) (by simp) ?_
        refine' AllReadyH.cons (o := _) ?_ (fun K hK => ?_) AllReadyH.nil
        rotate_left 1
        · (simp only [List.getElem?_toArray, List.getElem?_cons_succ, List.getElem?_cons_zero]; rfl)
        go_simp
        refine Calls.mono (MC.out _) ?_
        rintro e V6 ⟨⟨p, rfl, hp⟩, hn⟩
        replace r3 := r3.on hn
        replace r4 := r4.on hn
        replace r8 := r8.on hn
        replace r7 := r7.on hn
        replace hc := chain hc hn
        clear hn
        go_simp
        refine hK.out _ _ ⟨r3.cell, r4.cell⟩ (fun hHeld => ?_)
        clear hK K
        clear hHeld
        refine wpAnyH_ready (rs := [3]) (by kernel_rfl) (by simp) ?_
        refine' AllReadyH.cons (o := _) ?_ (fun K hK => ?_) AllReadyH.nil
        rotate_left 1
        · (simp only [List.getElem?_toArray, List.getElem?_cons_succ, List.getElem?_cons_zero]; rfl)
        go_simp
        refine Calls.mono (MD.out _) ?_
        rintro e V7 ⟨⟨q, rfl, hq⟩, hn⟩
        replace r3 := r3.on hn
        replace r4 := r4.on hn
        replace r8 := r8.on hn
        replace r7 := r7.on hn
        replace hc := chain hc hn
        clear hn
        go_simp
        refine hK.out _ _ ⟨r3.cell, r4.cell⟩ (fun hHeld => ?_)
        clear hK K
        clear hHeld
        have yr7 := r7.cell
        have zr7 := r7.lt
        have ur7 := r7.free
        refine wpAnyH_ready (rs := [6]) (by kernel_rfl) (by simp) ?_
        refine' AllReadyH.cons (o := _) ?_ (fun K hK => ?_) AllReadyH.nil
        rotate_left 1
        · (simp only [List.getElem?_toArray, List.getElem?_cons_succ, List.getElem?_cons_zero]; rfl)
        go_simp
        clear yr7 zr7 ur7
        replace r3 := ((((((r3.other nr3_r7.symm 0 (.int .i64 p.1)).other nr3_r7.symm 1 (.int .i64 p.2.m)).other nr3_r7.symm 2 (.int .i64 p.2.a)).other nr3_r7.symm 3 (.int .i64 p.2.b)).other nr3_r7.symm 4 (.int .i64 p.2.c)).other nr3_r7.symm 5 (.string p.2.tag))
        replace r4 := ((((((r4.other nr4_r7.symm 0 (.int .i64 p.1)).other nr4_r7.symm 1 (.int .i64 p.2.m)).other nr4_r7.symm 2 (.int .i64 p.2.a)).other nr4_r7.symm 3 (.int .i64 p.2.b)).other nr4_r7.symm 4 (.int .i64 p.2.c)).other nr4_r7.symm 5 (.string p.2.tag))
        replace r8 := ((((((r8.other nr8_r7.symm 0 (.int .i64 p.1)).other nr8_r7.symm 1 (.int .i64 p.2.m)).other nr8_r7.symm 2 (.int .i64 p.2.a)).other nr8_r7.symm 3 (.int .i64 p.2.b)).other nr8_r7.symm 4 (.int .i64 p.2.c)).other nr8_r7.symm 5 (.string p.2.tag))
        replace r7 := ((((((r7.set 0 (.int .i64 p.1)).set 1 (.int .i64 p.2.m)).set 2 (.int .i64 p.2.a)).set 3 (.int .i64 p.2.b)).set 4 (.int .i64 p.2.c)).set 5 (.string p.2.tag))
        simp only [List.setIfInBounds_toArray, List.set_cons_zero, List.set_cons_succ] at r7
        replace hc := ((((((hc.setCell (p := ⟨b7, 0, none⟩) wr7 (.int .i64 p.1)).setCell (p := ⟨b7, 1, none⟩) wr7 (.int .i64 p.2.m)).setCell (p := ⟨b7, 2, none⟩) wr7 (.int .i64 p.2.a)).setCell (p := ⟨b7, 3, none⟩) wr7 (.int .i64 p.2.b)).setCell (p := ⟨b7, 4, none⟩) wr7 (.int .i64 p.2.c)).setCell (p := ⟨b7, 5, none⟩) wr7 (.string p.2.tag))
        generalize hW : World.setCell _ _ _ = V8 at *
        clear hW
        refine hK.out _ _ ⟨r3.cell, r4.cell⟩ (fun hHeld => ?_)
        clear hK K
        clear hHeld
        have yr8 := r8.cell
        have zr8 := r8.lt
        have ur8 := r8.free
        refine wpAnyH_ready (rs := [7]) (by kernel_rfl) (by simp) ?_
        refine' AllReadyH.cons (o := _) ?_ (fun K hK => ?_) AllReadyH.nil
        rotate_left 1
        · (simp only [List.getElem?_toArray, List.getElem?_cons_succ, List.getElem?_cons_zero]; rfl)
        go_simp
        clear yr8 zr8 ur8
        replace r3 := ((((((r3.other nr3_r8.symm 0 (.int .i64 q.1)).other nr3_r8.symm 1 (.int .i64 q.2.m)).other nr3_r8.symm 2 (.int .i64 q.2.a)).other nr3_r8.symm 3 (.int .i64 q.2.b)).other nr3_r8.symm 4 (.int .i64 q.2.c)).other nr3_r8.symm 5 (.string q.2.tag))
        replace r4 := ((((((r4.other nr4_r8.symm 0 (.int .i64 q.1)).other nr4_r8.symm 1 (.int .i64 q.2.m)).other nr4_r8.symm 2 (.int .i64 q.2.a)).other nr4_r8.symm 3 (.int .i64 q.2.b)).other nr4_r8.symm 4 (.int .i64 q.2.c)).other nr4_r8.symm 5 (.string q.2.tag))
        replace r7 := ((((((r7.other nr8_r7 0 (.int .i64 q.1)).other nr8_r7 1 (.int .i64 q.2.m)).other nr8_r7 2 (.int .i64 q.2.a)).other nr8_r7 3 (.int .i64 q.2.b)).other nr8_r7 4 (.int .i64 q.2.c)).other nr8_r7 5 (.string q.2.tag))
        replace r8 := ((((((r8.set 0 (.int .i64 q.1)).set 1 (.int .i64 q.2.m)).set 2 (.int .i64 q.2.a)).set 3 (.int .i64 q.2.b)).set 4 (.int .i64 q.2.c)).set 5 (.string q.2.tag))
        simp only [List.setIfInBounds_toArray, List.set_cons_zero, List.set_cons_succ] at r8
        replace hc := ((((((hc.setCell (p := ⟨b8, 0, none⟩) wr8 (.int .i64 q.1)).setCell (p := ⟨b8, 1, none⟩) wr8 (.int .i64 q.2.m)).setCell (p := ⟨b8, 2, none⟩) wr8 (.int .i64 q.2.a)).setCell (p := ⟨b8, 3, none⟩) wr8 (.int .i64 q.2.b)).setCell (p := ⟨b8, 4, none⟩) wr8 (.int .i64 q.2.c)).setCell (p := ⟨b8, 5, none⟩) wr8 (.string q.2.tag))
        generalize hW : World.setCell _ _ _ = V9 at *
        clear hW
        refine hK.out _ _ ⟨r3.cell, r4.cell⟩ (fun hHeld => ?_)
        clear hK K
        clear hHeld
        refine wpAnyH_done (by kernel_rfl) ?_ _
        go_wp2_with fail
        go_meet
        exact ⟨_, _, p, q, rfl, rfl, hp, hq, r7, r8, hc⟩
  obtain ⟨b7, b8, p, q, rfl, rfl, hp, hq, r7, r8, hc⟩ := hcut
  have hTs := opT_size hp
  have hUs := opT_size hq
  have cp := fun W hW => print_ok p.1 p.2 W hW hp
  have cq := fun W hW => print_ok q.1 q.2 W hW hq
  change ∀ W, EnvL W → Ret _ _ W (.tuple #[.string (opT p), .int .i64 0]) at cp
  change ∀ W, EnvL W → Ret _ _ W (.tuple #[.string (opT q), .int .i64 0]) at cq
  have cb := fun W hW => parse_is (p := p) (s := opT p) (by rw [opT_l]; exact read_opLR hp) (by omega) W hW
  have ck := fun W hW => check_c p.1 p.2.m p.2.a p.2.b p.2.c p.2.tag W hW (by have := tag_sz (show p.2.ok p.1 from hp); omega)
  rw [err_ok hp] at ck
  have ct := fun W (hW : EnvL W) => contains_nl (opT p) W hW.shp (by omega) (by rw [opT_l]; exact opLR_no10 hp)
  have ch := fun W => hp_word p hp W
  have ne0 := neq_ops p p
  rw [decide_eq_true rfl] at ne0
  have eq1 := eq_ops p q
  have eq2 := opT_eq p q hp hq
  generalize opT p = T at *
  generalize opT q = U at *
  generalize decide (p = q) = d at *
  skip
  have CP := Lib.hid cp
  have CQ := Lib.hid cq
  have CB := Lib.hid cb
  have CK := Lib.hid ck
  have CT := Lib.hid ct
  have CH := Lib.hid ch
  clear cp cq cb ck ct ch hp hq hTs hUs MC MD
  have yr7 := r7.cell
  have zr7 := r7.lt
  have yr8 := r8.cell
  have zr8 := r8.lt
  go_wp2_with fail
  refine Calls.mono (CP.out _ (HE.out.on hc)) ?_
  rintro e V3 ⟨rfl, hn⟩
  clear yr7 yr8 zr7 zr8
  replace r7 := r7.on hn
  replace r8 := r8.on hn
  replace hc := chain hc hn
  clear hn
  have yr7 := r7.cell
  have zr7 := r7.lt
  have yr8 := r8.cell
  have zr8 := r8.lt
  go_wp2_with fail
  refine Calls.mono (CQ.out _ (HE.out.on hc)) ?_
  rintro e V4 ⟨rfl, hn⟩
  clear yr7 yr8 zr7 zr8
  replace r7 := r7.on hn
  replace r8 := r8.on hn
  replace hc := chain hc hn
  clear hn
  have yr7 := r7.cell
  have zr7 := r7.lt
  have yr8 := r8.cell
  have zr8 := r8.lt
  go_wp2_with fail
  refine Calls.mono (CB.out _ (HE.out.on hc)) ?_
  rintro e V5 ⟨rfl, hn⟩
  clear yr7 yr8 zr7 zr8
  replace r7 := r7.on hn
  replace r8 := r8.on hn
  replace hc := chain hc hn
  clear hn
  have yr7 := r7.cell
  have zr7 := r7.lt
  have yr8 := r8.cell
  have zr8 := r8.lt
  go_upto_region 5 with fail
  clear yr7 yr8 zr7 zr8
  have r13 := Row.new (W := V5) (cs := #[.int .i64 p.1, .int .i64 p.2.m, .int .i64 p.2.a, .int .i64 p.2.b, .int .i64 p.2.c, .string p.2.tag]) (t := 27)
  have hn := below_alloc V5 (.cells #[.int .i64 p.1, .int .i64 p.2.m, .int .i64 p.2.a, .int .i64 p.2.b, .int .i64 p.2.c, .string p.2.tag] 27)
  have nr7_r13 : b7 ≠ V5.heap.size := Nat.ne_of_lt r7.lt
  have nr8_r13 : b8 ≠ V5.heap.size := Nat.ne_of_lt r8.lt
  have wr13 : w.heap.size ≤ V5.heap.size := hc.size
  replace r7 := r7.on hn
  replace r8 := r8.on hn
  replace hc := chain hc hn
  clear hn
  generalize V5.alloc (.cells #[.int .i64 p.1, .int .i64 p.2.m, .int .i64 p.2.a, .int .i64 p.2.b, .int .i64 p.2.c, .string p.2.tag] 27) = V6 at r7 r8 r13 hc ⊢
  generalize V5.heap.size = b13 at *
  have CW := Lib.hid (fun W => word_c p.1 W)
  cases d
  · have yr7 := r7.cell
    have zr7 := r7.lt
    have yr8 := r8.cell
    have zr8 := r8.lt
    have yr13 := r13.cell
    have zr13 := r13.lt
    go_wp2_with fail
    refine Calls.mono (CK.out _ (HE.out.on hc)) ?_
    rintro e V7 ⟨rfl, hn⟩
    clear yr7 yr8 yr13 zr7 zr8 zr13
    replace r7 := r7.on hn
    replace r8 := r8.on hn
    replace r13 := r13.on hn
    replace hc := chain hc hn
    clear hn
    have yr7 := r7.cell
    have zr7 := r7.lt
    have yr8 := r8.cell
    have zr8 := r8.lt
    have yr13 := r13.cell
    have zr13 := r13.lt
    go_wp2_with fail
    refine Calls.mono (CT.out _ (HE.out.on hc)) ?_
    rintro e V8 ⟨rfl, hn⟩
    clear yr7 yr8 yr13 zr7 zr8 zr13
    replace r7 := r7.on hn
    replace r8 := r8.on hn
    replace r13 := r13.on hn
    replace hc := chain hc hn
    clear hn
    have yr7 := r7.cell
    have zr7 := r7.lt
    have yr8 := r8.cell
    have zr8 := r8.lt
    have yr13 := r13.cell
    have zr13 := r13.lt
    go_wp2_with fail
    refine Calls.mono (CW.out _) ?_
    rintro e V9 ⟨rfl, hn⟩
    clear yr7 yr8 yr13 zr7 zr8 zr13
    replace r7 := r7.on hn
    replace r8 := r8.on hn
    replace r13 := r13.on hn
    replace hc := chain hc hn
    clear hn
    have yr7 := r7.cell
    have zr7 := r7.lt
    have yr8 := r8.cell
    have zr8 := r8.lt
    have yr13 := r13.cell
    have zr13 := r13.lt
    go_wp2_with fail
    refine Calls.mono (CH.out _) ?_
    rintro e V10 ⟨rfl, hn⟩
    clear yr7 yr8 yr13 zr7 zr8 zr13
    replace r7 := r7.on hn
    replace r8 := r8.on hn
    replace r13 := r13.on hn
    replace hc := chain hc hn
    clear hn
    clear CK CT CW CH CP CQ CB
    by_cases hlong : (200 : Int) < s.size
    · have yr7 := r7.cell
      have zr7 := r7.lt
      have yr8 := r8.cell
      have zr8 := r8.lt
      have yr13 := r13.cell
      have zr13 := r13.lt
      go_wp2_with fail
      refine Calls.mono (works _ (HE.out.on hc)) ?_
      rintro e V11 ⟨rfl, hn⟩
      clear yr7 yr8 yr13 zr7 zr8 zr13
      replace r7 := r7.on hn
      replace r8 := r8.on hn
      replace r13 := r13.on hn
      replace hc := chain hc hn
      clear hn
      have yr7 := r7.cell
      have zr7 := r7.lt
      have yr8 := r8.cell
      have zr8 := r8.lt
      have yr13 := r13.cell
      have zr13 := r13.lt
      go_wp2_with fail
      go_returns
      exact ⟨rfl, hc⟩
    · have yr7 := r7.cell
      have zr7 := r7.lt
      have yr8 := r8.cell
      have zr8 := r8.lt
      have yr13 := r13.cell
      have zr13 := r13.lt
      go_wp2_with fail
      refine Calls.mono (parse_c s _ (HE.out.on hc) (by omega)) ?_
      rintro e W1 ⟨hps, hn⟩
      clear yr7 yr8 yr13 zr7 zr8 zr13
      replace r7 := r7.on hn
      replace r8 := r8.on hn
      replace r13 := r13.on hn
      replace hc := chain hc hn
      clear hn
      rcases hps with ⟨kd, x, h1, h2, rfl⟩ | ⟨-, rfl⟩
      · have hts := tag_sz h1
        have xp := fun W hW => print_ok kd x W hW h1
        rw [show opText kd x.m x.a x.b x.c x.tag = s from str_ext (by unfold opText; rw [of_l, h2])] at xp
        have xk := fun W hW => check_c kd x.m x.a x.b x.c x.tag W hW (by omega)
        rw [err_ok (p := (kd, x)) h1] at xk
        have XP := Lib.hid xp
        have XK := Lib.hid xk
        clear xp xk h1 h2 hts
        have yr7 := r7.cell
        have zr7 := r7.lt
        have yr8 := r8.cell
        have zr8 := r8.lt
        have yr13 := r13.cell
        have zr13 := r13.lt
        go_upto_region 10 with fail
        clear yr7 yr8 yr13 zr7 zr8 zr13
        have r15 := Row.new (W := W1) (cs := #[.int .i64 kd, .int .i64 x.m, .int .i64 x.a, .int .i64 x.b, .int .i64 x.c, .string x.tag]) (t := 27)
        have hn := below_alloc W1 (.cells #[.int .i64 kd, .int .i64 x.m, .int .i64 x.a, .int .i64 x.b, .int .i64 x.c, .string x.tag] 27)
        have nr7_r15 : b7 ≠ W1.heap.size := Nat.ne_of_lt r7.lt
        have nr8_r15 : b8 ≠ W1.heap.size := Nat.ne_of_lt r8.lt
        have nr13_r15 : b13 ≠ W1.heap.size := Nat.ne_of_lt r13.lt
        have wr15 : w.heap.size ≤ W1.heap.size := hc.size
        replace r7 := r7.on hn
        replace r8 := r8.on hn
        replace r13 := r13.on hn
        replace hc := chain hc hn
        clear hn
        generalize W1.alloc (.cells #[.int .i64 kd, .int .i64 x.m, .int .i64 x.a, .int .i64 x.b, .int .i64 x.c, .string x.tag] 27) = V11 at r7 r8 r13 r15 hc ⊢
        generalize W1.heap.size = b15 at *
        have yr7 := r7.cell
        have zr7 := r7.lt
        have yr8 := r8.cell
        have zr8 := r8.lt
        have yr13 := r13.cell
        have zr13 := r13.lt
        have yr15 := r15.cell
        have zr15 := r15.lt
        go_wp2_with fail
        refine Calls.mono (XP.out _ (HE.out.on hc)) ?_
        rintro e V12 ⟨rfl, hn⟩
        clear yr7 yr8 yr13 yr15 zr7 zr8 zr13 zr15
        replace r7 := r7.on hn
        replace r8 := r8.on hn
        replace r13 := r13.on hn
        replace r15 := r15.on hn
        replace hc := chain hc hn
        clear hn
        have yr7 := r7.cell
        have zr7 := r7.lt
        have yr8 := r8.cell
        have zr8 := r8.lt
        have yr13 := r13.cell
        have zr13 := r13.lt
        have yr15 := r15.cell
        have zr15 := r15.lt
        go_wp2_with fail
        refine Calls.mono (XK.out _ (HE.out.on hc)) ?_
        rintro e V13 ⟨rfl, hn⟩
        clear yr7 yr8 yr13 yr15 zr7 zr8 zr13 zr15
        replace r7 := r7.on hn
        replace r8 := r8.on hn
        replace r13 := r13.on hn
        replace r15 := r15.on hn
        replace hc := chain hc hn
        clear hn
        have yr7 := r7.cell
        have zr7 := r7.lt
        have yr8 := r8.cell
        have zr8 := r8.lt
        have yr13 := r13.cell
        have zr13 := r13.lt
        have yr15 := r15.cell
        have zr15 := r15.lt
        go_wp2_with fail
        refine Calls.mono (works _ (HE.out.on hc)) ?_
        rintro e V14 ⟨rfl, hn⟩
        clear yr7 yr8 yr13 yr15 zr7 zr8 zr13 zr15
        replace r7 := r7.on hn
        replace r8 := r8.on hn
        replace r13 := r13.on hn
        replace r15 := r15.on hn
        replace hc := chain hc hn
        clear hn
        have yr7 := r7.cell
        have zr7 := r7.lt
        have yr8 := r8.cell
        have zr8 := r8.lt
        have yr13 := r13.cell
        have zr13 := r13.lt
        have yr15 := r15.cell
        have zr15 := r15.lt
        go_wp2_with fail
        go_returns
        exact ⟨rfl, hc⟩
      · have ez := eq_ops ((0, ⟨0, 0, 0, 0, ⟨#[]⟩⟩) : OpR) ((0, ⟨0, 0, 0, 0, ⟨#[]⟩⟩) : OpR)
        rw [decide_eq_true rfl] at ez
        have yr7 := r7.cell
        have zr7 := r7.lt
        have yr8 := r8.cell
        have zr8 := r8.lt
        have yr13 := r13.cell
        have zr13 := r13.lt
        go_upto_region 10 with fail
        clear yr7 yr8 yr13 zr7 zr8 zr13
        have r15 := Row.new (W := W1) (cs := #[.int .i64 0, .int .i64 0, .int .i64 0, .int .i64 0, .int .i64 0, .string ⟨#[]⟩]) (t := 27)
        have hn := below_alloc W1 (.cells #[.int .i64 0, .int .i64 0, .int .i64 0, .int .i64 0, .int .i64 0, .string ⟨#[]⟩] 27)
        have nr7_r15 : b7 ≠ W1.heap.size := Nat.ne_of_lt r7.lt
        have nr8_r15 : b8 ≠ W1.heap.size := Nat.ne_of_lt r8.lt
        have nr13_r15 : b13 ≠ W1.heap.size := Nat.ne_of_lt r13.lt
        have wr15 : w.heap.size ≤ W1.heap.size := hc.size
        replace r7 := r7.on hn
        replace r8 := r8.on hn
        replace r13 := r13.on hn
        replace hc := chain hc hn
        clear hn
        generalize W1.alloc (.cells #[.int .i64 0, .int .i64 0, .int .i64 0, .int .i64 0, .int .i64 0, .string ⟨#[]⟩] 27) = V11 at r7 r8 r13 r15 hc ⊢
        generalize W1.heap.size = b15 at *
        have yr7 := r7.cell
        have zr7 := r7.lt
        have yr8 := r8.cell
        have zr8 := r8.lt
        have yr13 := r13.cell
        have zr13 := r13.lt
        have yr15 := r15.cell
        have zr15 := r15.lt
        go_wp2_with fail
        refine Calls.mono (works _ (HE.out.on hc)) ?_
        rintro e V12 ⟨rfl, hn⟩
        clear yr7 yr8 yr13 yr15 zr7 zr8 zr13 zr15
        replace r7 := r7.on hn
        replace r8 := r8.on hn
        replace r13 := r13.on hn
        replace r15 := r15.on hn
        replace hc := chain hc hn
        clear hn
        have yr7 := r7.cell
        have zr7 := r7.lt
        have yr8 := r8.cell
        have zr8 := r8.lt
        have yr13 := r13.cell
        have zr13 := r13.lt
        have yr15 := r15.cell
        have zr15 := r15.lt
        go_wp2_with fail
        go_returns
        exact ⟨rfl, hc⟩
  · have yr7 := r7.cell
    have zr7 := r7.lt
    have yr8 := r8.cell
    have zr8 := r8.lt
    have yr13 := r13.cell
    have zr13 := r13.lt
    go_wp2_with fail
    refine Calls.mono (CK.out _ (HE.out.on hc)) ?_
    rintro e V7 ⟨rfl, hn⟩
    clear yr7 yr8 yr13 zr7 zr8 zr13
    replace r7 := r7.on hn
    replace r8 := r8.on hn
    replace r13 := r13.on hn
    replace hc := chain hc hn
    clear hn
    have yr7 := r7.cell
    have zr7 := r7.lt
    have yr8 := r8.cell
    have zr8 := r8.lt
    have yr13 := r13.cell
    have zr13 := r13.lt
    go_wp2_with fail
    refine Calls.mono (CT.out _ (HE.out.on hc)) ?_
    rintro e V8 ⟨rfl, hn⟩
    clear yr7 yr8 yr13 zr7 zr8 zr13
    replace r7 := r7.on hn
    replace r8 := r8.on hn
    replace r13 := r13.on hn
    replace hc := chain hc hn
    clear hn
    have yr7 := r7.cell
    have zr7 := r7.lt
    have yr8 := r8.cell
    have zr8 := r8.lt
    have yr13 := r13.cell
    have zr13 := r13.lt
    go_wp2_with fail
    refine Calls.mono (CW.out _) ?_
    rintro e V9 ⟨rfl, hn⟩
    clear yr7 yr8 yr13 zr7 zr8 zr13
    replace r7 := r7.on hn
    replace r8 := r8.on hn
    replace r13 := r13.on hn
    replace hc := chain hc hn
    clear hn
    have yr7 := r7.cell
    have zr7 := r7.lt
    have yr8 := r8.cell
    have zr8 := r8.lt
    have yr13 := r13.cell
    have zr13 := r13.lt
    go_wp2_with fail
    refine Calls.mono (CH.out _) ?_
    rintro e V10 ⟨rfl, hn⟩
    clear yr7 yr8 yr13 zr7 zr8 zr13
    replace r7 := r7.on hn
    replace r8 := r8.on hn
    replace r13 := r13.on hn
    replace hc := chain hc hn
    clear hn
    clear CK CT CW CH CP CQ CB
    by_cases hlong : (200 : Int) < s.size
    · have yr7 := r7.cell
      have zr7 := r7.lt
      have yr8 := r8.cell
      have zr8 := r8.lt
      have yr13 := r13.cell
      have zr13 := r13.lt
      go_wp2_with fail
      refine Calls.mono (works _ (HE.out.on hc)) ?_
      rintro e V11 ⟨rfl, hn⟩
      clear yr7 yr8 yr13 zr7 zr8 zr13
      replace r7 := r7.on hn
      replace r8 := r8.on hn
      replace r13 := r13.on hn
      replace hc := chain hc hn
      clear hn
      have yr7 := r7.cell
      have zr7 := r7.lt
      have yr8 := r8.cell
      have zr8 := r8.lt
      have yr13 := r13.cell
      have zr13 := r13.lt
      go_wp2_with fail
      go_returns
      exact ⟨rfl, hc⟩
    · have yr7 := r7.cell
      have zr7 := r7.lt
      have yr8 := r8.cell
      have zr8 := r8.lt
      have yr13 := r13.cell
      have zr13 := r13.lt
      go_wp2_with fail
      refine Calls.mono (parse_c s _ (HE.out.on hc) (by omega)) ?_
      rintro e W1 ⟨hps, hn⟩
      clear yr7 yr8 yr13 zr7 zr8 zr13
      replace r7 := r7.on hn
      replace r8 := r8.on hn
      replace r13 := r13.on hn
      replace hc := chain hc hn
      clear hn
      rcases hps with ⟨kd, x, h1, h2, rfl⟩ | ⟨-, rfl⟩
      · have hts := tag_sz h1
        have xp := fun W hW => print_ok kd x W hW h1
        rw [show opText kd x.m x.a x.b x.c x.tag = s from str_ext (by unfold opText; rw [of_l, h2])] at xp
        have xk := fun W hW => check_c kd x.m x.a x.b x.c x.tag W hW (by omega)
        rw [err_ok (p := (kd, x)) h1] at xk
        have XP := Lib.hid xp
        have XK := Lib.hid xk
        clear xp xk h1 h2 hts
        have yr7 := r7.cell
        have zr7 := r7.lt
        have yr8 := r8.cell
        have zr8 := r8.lt
        have yr13 := r13.cell
        have zr13 := r13.lt
        go_upto_region 10 with fail
        clear yr7 yr8 yr13 zr7 zr8 zr13
        have r15 := Row.new (W := W1) (cs := #[.int .i64 kd, .int .i64 x.m, .int .i64 x.a, .int .i64 x.b, .int .i64 x.c, .string x.tag]) (t := 27)
        have hn := below_alloc W1 (.cells #[.int .i64 kd, .int .i64 x.m, .int .i64 x.a, .int .i64 x.b, .int .i64 x.c, .string x.tag] 27)
        have nr7_r15 : b7 ≠ W1.heap.size := Nat.ne_of_lt r7.lt
        have nr8_r15 : b8 ≠ W1.heap.size := Nat.ne_of_lt r8.lt
        have nr13_r15 : b13 ≠ W1.heap.size := Nat.ne_of_lt r13.lt
        have wr15 : w.heap.size ≤ W1.heap.size := hc.size
        replace r7 := r7.on hn
        replace r8 := r8.on hn
        replace r13 := r13.on hn
        replace hc := chain hc hn
        clear hn
        generalize W1.alloc (.cells #[.int .i64 kd, .int .i64 x.m, .int .i64 x.a, .int .i64 x.b, .int .i64 x.c, .string x.tag] 27) = V11 at r7 r8 r13 r15 hc ⊢
        generalize W1.heap.size = b15 at *
        have yr7 := r7.cell
        have zr7 := r7.lt
        have yr8 := r8.cell
        have zr8 := r8.lt
        have yr13 := r13.cell
        have zr13 := r13.lt
        have yr15 := r15.cell
        have zr15 := r15.lt
        go_wp2_with fail
        refine Calls.mono (XP.out _ (HE.out.on hc)) ?_
        rintro e V12 ⟨rfl, hn⟩
        clear yr7 yr8 yr13 yr15 zr7 zr8 zr13 zr15
        replace r7 := r7.on hn
        replace r8 := r8.on hn
        replace r13 := r13.on hn
        replace r15 := r15.on hn
        replace hc := chain hc hn
        clear hn
        have yr7 := r7.cell
        have zr7 := r7.lt
        have yr8 := r8.cell
        have zr8 := r8.lt
        have yr13 := r13.cell
        have zr13 := r13.lt
        have yr15 := r15.cell
        have zr15 := r15.lt
        go_wp2_with fail
        refine Calls.mono (XK.out _ (HE.out.on hc)) ?_
        rintro e V13 ⟨rfl, hn⟩
        clear yr7 yr8 yr13 yr15 zr7 zr8 zr13 zr15
        replace r7 := r7.on hn
        replace r8 := r8.on hn
        replace r13 := r13.on hn
        replace r15 := r15.on hn
        replace hc := chain hc hn
        clear hn
        have yr7 := r7.cell
        have zr7 := r7.lt
        have yr8 := r8.cell
        have zr8 := r8.lt
        have yr13 := r13.cell
        have zr13 := r13.lt
        have yr15 := r15.cell
        have zr15 := r15.lt
        go_wp2_with fail
        refine Calls.mono (works _ (HE.out.on hc)) ?_
        rintro e V14 ⟨rfl, hn⟩
        clear yr7 yr8 yr13 yr15 zr7 zr8 zr13 zr15
        replace r7 := r7.on hn
        replace r8 := r8.on hn
        replace r13 := r13.on hn
        replace r15 := r15.on hn
        replace hc := chain hc hn
        clear hn
        have yr7 := r7.cell
        have zr7 := r7.lt
        have yr8 := r8.cell
        have zr8 := r8.lt
        have yr13 := r13.cell
        have zr13 := r13.lt
        have yr15 := r15.cell
        have zr15 := r15.lt
        go_wp2_with fail
        go_returns
        exact ⟨rfl, hc⟩
      · have ez := eq_ops ((0, ⟨0, 0, 0, 0, ⟨#[]⟩⟩) : OpR) ((0, ⟨0, 0, 0, 0, ⟨#[]⟩⟩) : OpR)
        rw [decide_eq_true rfl] at ez
        have yr7 := r7.cell
        have zr7 := r7.lt
        have yr8 := r8.cell
        have zr8 := r8.lt
        have yr13 := r13.cell
        have zr13 := r13.lt
        go_upto_region 10 with fail
        clear yr7 yr8 yr13 zr7 zr8 zr13
        have r15 := Row.new (W := W1) (cs := #[.int .i64 0, .int .i64 0, .int .i64 0, .int .i64 0, .int .i64 0, .string ⟨#[]⟩]) (t := 27)
        have hn := below_alloc W1 (.cells #[.int .i64 0, .int .i64 0, .int .i64 0, .int .i64 0, .int .i64 0, .string ⟨#[]⟩] 27)
        have nr7_r15 : b7 ≠ W1.heap.size := Nat.ne_of_lt r7.lt
        have nr8_r15 : b8 ≠ W1.heap.size := Nat.ne_of_lt r8.lt
        have nr13_r15 : b13 ≠ W1.heap.size := Nat.ne_of_lt r13.lt
        have wr15 : w.heap.size ≤ W1.heap.size := hc.size
        replace r7 := r7.on hn
        replace r8 := r8.on hn
        replace r13 := r13.on hn
        replace hc := chain hc hn
        clear hn
        generalize W1.alloc (.cells #[.int .i64 0, .int .i64 0, .int .i64 0, .int .i64 0, .int .i64 0, .string ⟨#[]⟩] 27) = V11 at r7 r8 r13 r15 hc ⊢
        generalize W1.heap.size = b15 at *
        have yr7 := r7.cell
        have zr7 := r7.lt
        have yr8 := r8.cell
        have zr8 := r8.lt
        have yr13 := r13.cell
        have zr13 := r13.lt
        have yr15 := r15.cell
        have zr15 := r15.lt
        go_wp2_with fail
        refine Calls.mono (works _ (HE.out.on hc)) ?_
        rintro e V12 ⟨rfl, hn⟩
        clear yr7 yr8 yr13 yr15 zr7 zr8 zr13 zr15
        replace r7 := r7.on hn
        replace r8 := r8.on hn
        replace r13 := r13.on hn
        replace r15 := r15.on hn
        replace hc := chain hc hn
        clear hn
        have yr7 := r7.cell
        have zr7 := r7.lt
        have yr8 := r8.cell
        have zr8 := r8.lt
        have yr13 := r13.cell
        have zr13 := r13.lt
        have yr15 := r15.cell
        have zr15 := r15.lt
        go_wp2_with fail
        go_returns
        exact ⟨rfl, hc⟩
end Go.Proofs.YtbbleafcflhmiaaDoor
