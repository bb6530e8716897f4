/- The reference's Print of an operation. -/
import Derived.Test.YthkngleegefgbaaGreatDoorM162a
import Derived.Deep.DeepCutAuto
namespace Go.Proofs.YthkngleegefgbaaGreatDoor
open Go.RowKit
set_option linter.unusedVariables false
set_option linter.unusedSimpArgs false
set_option maxHeartbeats 40000000
set_option maxRecDepth 20000
abbrev CatO (a b c : ByteArray) : Prop := ∀ W, (Op.stringOp .add a b).run Tryz.prog W = .ok (.string c) W
abbrev spO : ByteArray := ⟨#[32]⟩
/-- Which of the texts it is, by the kind. -/
def armR (kd : Int) (S SA SAB C2 SB O5 W2 : ByteArray) : ByteArray := if kd = 2 ∨ kd = 5 ∨ kd = 11 then SAB else if kd = 3 then C2 else if kd = 6 then SB else if kd = 8 then O5 else if kd = 17 then W2 else if kd = 7 ∨ kd = 14 ∨ kd = 16 then S else SA
theorem rprint_core (kd m a b c : Int) (tag W DM DA DB DC Q L S0 S A1 B1 SA SAB C1 C2 SB O1 O2 O3 O4 O5 W2 : ByteArray) (hk : 1 ≤ kd ∧ kd ≤ 17)
    (c0 : ∀ w, Ret 10 #[opV kd m a b c tag] w (.int .i64 0))
    (cw : ∀ w, Ret 12 #[.int .i64 kd] w (.string W))
    (cm : ∀ w, Ret 29 #[.int .i64 m] w (.string DM))
    (ca : ∀ w, Ret 29 #[.int .i64 a] w (.string DA))
    (cb : ∀ w, Ret 29 #[.int .i64 b] w (.string DB))
    (cc : ∀ w, Ret 29 #[.int .i64 c] w (.string DC))
    (cq : kd = 8 → ∀ w, Ret 30 #[.string tag] w (.tuple #[.string Q, .int .i64 0]))
    (hl : kd = 8 → (1 ≤ a ∧ a ≤ 3) ∧ L = ⟨#[letterB a]⟩)
    (t0 : CatO W spO S0) (ts : if inB kd 1 12 then CatO S0 DM S else S = W)
    (ta : CatO spO DA A1) (tb : CatO spO DB B1) (tsa : CatO S A1 SA) (tsab : CatO SA B1 SAB) (tc1 : CatO SAB spO C1) (tc2 : CatO C1 DC C2) (tsb : CatO S B1 SB)
    (o1 : CatO S spO O1) (o2 : CatO O1 L O2) (o3 : CatO O2 B1 O3) (o4 : CatO O3 spO O4) (o5 : CatO O4 Q O5) (w2 : CatO O1 tag W2) (w : World) :
    Ret 8 #[opV kd m a b c tag] w (.tuple #[.string (armR kd S SA SAB C2 SB O5 W2), .int .i64 0]) := by
  have C0H := Lib.hid c0
  clear c0
  have CWH := Lib.hid cw
  clear cw
  have CMH := Lib.hid cm
  clear cm
  have CAH := Lib.hid ca
  clear ca
  have CBH := Lib.hid cb
  clear cb
  have CCH := Lib.hid cc
  clear cc
  have CQH := Lib.hid cq
  clear cq
  have HLH := Lib.hid hl
  clear hl
  have cmu := fun w => rmut_c kd w
  have HK := Lib.hid hk
  clear hk
  cases hmu : inB kd 1 12
  · rw [hmu] at cmu ts
    simp only [if_true, Bool.false_eq_true, if_false] at ts
    have CMU := Lib.hid cmu
    have HMU := Lib.hid hmu
    clear cmu hmu
    subst ts
    go_enter Tryz.func8, Tryz.ntmps8
    go_upto_region 1 with fail
    have r1 := Row.new (W := w) (cs := #[.int .i64 kd, .int .i64 m, .int .i64 a, .int .i64 b, .int .i64 c, .string tag]) (t := 23)
    have hc := below_alloc w (.cells #[.int .i64 kd, .int .i64 m, .int .i64 a, .int .i64 b, .int .i64 c, .string tag] 23)
    generalize w.alloc (.cells #[.int .i64 kd, .int .i64 m, .int .i64 a, .int .i64 b, .int .i64 c, .string tag] 23) = V0 at r1 hc ⊢
    have yr1 := r1.cell
    have zr1 := r1.lt
    go_wp2_with fail
    refine Calls.mono (C0H.out _) ?_
    rintro e V1 ⟨rfl, hn⟩
    clear yr1 zr1
    replace r1 := r1.on hn
    replace hc := chain hc hn
    clear hn
    have yr1 := r1.cell
    have zr1 := r1.lt
    go_wp2_with fail
    refine Calls.mono (CWH.out _) ?_
    rintro e V2 ⟨rfl, hn⟩
    clear yr1 zr1
    replace r1 := r1.on hn
    replace hc := chain hc hn
    clear hn
    have yr1 := r1.cell
    have zr1 := r1.lt
    go_wp2_with fail
    refine Calls.mono (CMU.out _) ?_
    rintro e V3 ⟨rfl, hW⟩
    subst hW
    clear yr1 zr1
    have yr1 := r1.cell
    have zr1 := r1.lt
    go_upto_region 6 with fail
    clear yr1 zr1
    refine wp_region_held_drew (S := (fun W' => ∀ j, W'.cell? ⟨w.heap.size, j, none⟩ = (#[.int .i64 kd, .int .i64 m, .int .i64 a, .int .i64 b, .int .i64 c, .string tag] : Array Value)[j]?)) (by kernel_rfl) r1.cell (fun hHeld => ?_)
    replace r1 := r1.drew
    replace hc := hc.drew
    generalize V3.drew = V5 at *
    refine' wpAnyH_take (i := 0) (oi := _) (v := _) ?_ (by kernel_rfl) (by kernel_rfl) (by kernel_rfl) ?_ (Or.inl ⟨?_, ?_⟩) (by assumption) ?_
    rotate_left 2
    · (simp only [List.getElem?_toArray, List.getElem?_cons_succ, List.getElem?_cons_zero]; rfl)
    · first | exact fun _ _ _ h => h | exact fun _ _ _ h => nomatch h.1
    · rfl
    · (intro W hSW; (try dsimp only at hSW); go_split_ands; first | (go_simp; done) | (go_simp; with_reducible rfl))
    try simp only [Act.put, List.setIfInBounds_toArray, List.set_cons_zero, List.set_cons_succ]
    refine' wpAnyH_take (i := 1) (oi := _) (v := _) ?_ (by kernel_rfl) (by kernel_rfl) (by kernel_rfl) ?_ (Or.inl ⟨?_, ?_⟩) (by assumption) ?_
    rotate_left 2
    · (simp only [List.getElem?_toArray, List.getElem?_cons_succ, List.getElem?_cons_zero]; rfl)
    · first | exact fun _ _ _ h => h | exact fun _ _ _ h => nomatch h.1
    · rfl
    · (intro W hSW; (try dsimp only at hSW); go_split_ands; first | (go_simp; done) | (go_simp; with_reducible rfl))
    try simp only [Act.put, List.setIfInBounds_toArray, List.set_cons_zero, List.set_cons_succ]
    refine' wpAnyH_take (i := 4) (oi := _) (v := _) ?_ (by kernel_rfl) (by kernel_rfl) (by kernel_rfl) ?_ (Or.inl ⟨?_, ?_⟩) (by assumption) ?_
    rotate_left 2
    · (simp only [List.getElem?_toArray, List.getElem?_cons_succ, List.getElem?_cons_zero]; rfl)
    · first | exact fun _ _ _ h => h | exact fun _ _ _ h => nomatch h.1
    · rfl
    · (intro W hSW; (try dsimp only at hSW); go_split_ands; first | (go_simp; done) | (go_simp; with_reducible rfl))
    try simp only [Act.put, List.setIfInBounds_toArray, List.set_cons_zero, List.set_cons_succ]
    refine' wpAnyH_take (i := 5) (oi := _) (v := _) ?_ (by kernel_rfl) (by kernel_rfl) (by kernel_rfl) ?_ (Or.inl ⟨?_, ?_⟩) (by assumption) ?_
    rotate_left 2
    · (simp only [List.getElem?_toArray, List.getElem?_cons_succ, List.getElem?_cons_zero]; rfl)
    · first | exact fun _ _ _ h => h | exact fun _ _ _ h => nomatch h.1
    · rfl
    · (intro W hSW; (try dsimp only at hSW); go_split_ands; first | (go_simp; done) | (go_simp; with_reducible rfl))
    try simp only [Act.put, List.setIfInBounds_toArray, List.set_cons_zero, List.set_cons_succ]
    clear hHeld
    refine wpAnyH_ready (rs := [2]) (by kernel_rfl) (by simp) ?_
    refine' AllReadyH.cons (o := _) ?_ (fun K hK => ?_) AllReadyH.nil
    rotate_left 1
    · (simp only [List.getElem?_toArray, List.getElem?_cons_succ, List.getElem?_cons_zero]; rfl)
    go_simp
    refine Calls.mono (CAH.out _) ?_
    rintro e V6 ⟨rfl, hn⟩
    replace r1 := r1.on hn
    replace hc := chain hc hn
    clear hn
    go_simp
    refine hK.out _ _ r1.cell (fun hHeld => ?_)
    clear hK K
    refine' wpAnyH_take (i := 3) (oi := _) (v := _) ?_ (by kernel_rfl) (by kernel_rfl) (by kernel_rfl) ?_ (Or.inl ⟨?_, ?_⟩) (by assumption) ?_
    rotate_left 2
    · (simp only [List.getElem?_toArray, List.getElem?_cons_succ, List.getElem?_cons_zero]; rfl)
    · first | exact fun _ _ _ h => h | exact fun _ _ _ h => nomatch h.1
    · rfl
    · (intro W hSW; (try dsimp only at hSW); go_split_ands; first | (go_simp; done) | (go_simp; with_reducible rfl))
    try simp only [Act.put, List.setIfInBounds_toArray, List.set_cons_zero, List.set_cons_succ]
    clear hHeld
    refine wpAnyH_ready (rs := [6]) (by kernel_rfl) (by simp) ?_
    refine' AllReadyH.cons (o := _) ?_ (fun K hK => ?_) AllReadyH.nil
    rotate_left 1
    · (simp only [List.getElem?_toArray, List.getElem?_cons_succ, List.getElem?_cons_zero]; rfl)
    go_simp
    refine Calls.mono (CBH.out _) ?_
    rintro e V7 ⟨rfl, hn⟩
    replace r1 := r1.on hn
    replace hc := chain hc hn
    clear hn
    go_simp
    refine hK.out _ _ r1.cell (fun hHeld => ?_)
    clear hK K
    refine' wpAnyH_take (i := 7) (oi := _) (v := _) ?_ (by kernel_rfl) (by kernel_rfl) (by kernel_rfl) ?_ (Or.inl ⟨?_, ?_⟩) (by assumption) ?_
    rotate_left 2
    · (simp only [List.getElem?_toArray, List.getElem?_cons_succ, List.getElem?_cons_zero]; rfl)
    · first | exact fun _ _ _ h => h | exact fun _ _ _ h => nomatch h.1
    · rfl
    · (intro W hSW; (try dsimp only at hSW); go_split_ands; first | (go_simp; done) | (go_simp; with_reducible rfl))
    try simp only [Act.put, List.setIfInBounds_toArray, List.set_cons_zero, List.set_cons_succ]
    refine' wpAnyH_take (i := 8) (oi := _) (v := _) ?_ (by kernel_rfl) (by kernel_rfl) (by kernel_rfl) ?_ (Or.inl ⟨?_, ?_⟩) (by assumption) ?_
    rotate_left 2
    · (simp only [List.getElem?_toArray, List.getElem?_cons_succ, List.getElem?_cons_zero]; rfl)
    · first | exact fun _ _ _ h => h | exact fun _ _ _ h => nomatch h.1
    · rfl
    · (intro W hSW; (try dsimp only at hSW); go_split_ands; first | (go_simp; done) | (go_simp; with_reducible rfl))
    try simp only [Act.put, List.setIfInBounds_toArray, List.set_cons_zero, List.set_cons_succ]
    refine' wpAnyH_take (i := 9) (oi := _) (v := _) ?_ (by kernel_rfl) (by kernel_rfl) (by kernel_rfl) ?_ (Or.inl ⟨?_, ?_⟩) (by assumption) ?_
    rotate_left 2
    · (simp only [List.getElem?_toArray, List.getElem?_cons_succ, List.getElem?_cons_zero]; rfl)
    · first | exact fun _ _ _ h => h | exact fun _ _ _ h => nomatch h.1
    · rfl
    · (intro W hSW; (try dsimp only at hSW); go_split_ands; first | (go_simp; done) | (go_simp; with_reducible rfl))
    try simp only [Act.put, List.setIfInBounds_toArray, List.set_cons_zero, List.set_cons_succ]
    clear hHeld
    refine wpAnyH_done (by kernel_rfl) ?_ _
    have hkk : kd = 13 ∨ kd = 14 ∨ kd = 15 ∨ kd = 16 ∨ kd = 17 := by have h1 := HK.out; have h2 := HMU.out; unfold inB at h2; simp at h2; omega
    clear HK HMU
    rcases hkk with rfl | rfl | rfl | rfl | rfl
    · have yr1 := r1.cell
      have zr1 := r1.lt
      go_wp2_with fail
      go_returns
      exact ⟨by simp [armR], hc⟩
    · have yr1 := r1.cell
      have zr1 := r1.lt
      go_wp2_with fail
      go_returns
      exact ⟨by simp [armR], hc⟩
    · have yr1 := r1.cell
      have zr1 := r1.lt
      go_wp2_with fail
      go_returns
      exact ⟨by simp [armR], hc⟩
    · have yr1 := r1.cell
      have zr1 := r1.lt
      go_wp2_with fail
      go_returns
      exact ⟨by simp [armR], hc⟩
    · have yr1 := r1.cell
      have zr1 := r1.lt
      go_wp2_with fail
      go_returns
      exact ⟨by simp [armR], hc⟩
  · rw [hmu] at cmu ts
    simp only [if_true, Bool.false_eq_true, if_false] at ts
    have CMU := Lib.hid cmu
    have HMU := Lib.hid hmu
    clear cmu hmu
    go_enter Tryz.func8, Tryz.ntmps8
    go_upto_region 1 with fail
    have r1 := Row.new (W := w) (cs := #[.int .i64 kd, .int .i64 m, .int .i64 a, .int .i64 b, .int .i64 c, .string tag]) (t := 23)
    have hc := below_alloc w (.cells #[.int .i64 kd, .int .i64 m, .int .i64 a, .int .i64 b, .int .i64 c, .string tag] 23)
    generalize w.alloc (.cells #[.int .i64 kd, .int .i64 m, .int .i64 a, .int .i64 b, .int .i64 c, .string tag] 23) = V0 at r1 hc ⊢
    have yr1 := r1.cell
    have zr1 := r1.lt
    go_wp2_with fail
    refine Calls.mono (C0H.out _) ?_
    rintro e V1 ⟨rfl, hn⟩
    clear yr1 zr1
    replace r1 := r1.on hn
    replace hc := chain hc hn
    clear hn
    have yr1 := r1.cell
    have zr1 := r1.lt
    go_wp2_with fail
    refine Calls.mono (CWH.out _) ?_
    rintro e V2 ⟨rfl, hn⟩
    clear yr1 zr1
    replace r1 := r1.on hn
    replace hc := chain hc hn
    clear hn
    have yr1 := r1.cell
    have zr1 := r1.lt
    go_wp2_with fail
    refine Calls.mono (CMU.out _) ?_
    rintro e V3 ⟨rfl, hW⟩
    subst hW
    clear yr1 zr1
    have yr1 := r1.cell
    have zr1 := r1.lt
    go_wp2_with fail
    refine Calls.mono (CMH.out _) ?_
    rintro e V4 ⟨rfl, hn⟩
    clear yr1 zr1
    replace r1 := r1.on hn
    replace hc := chain hc hn
    clear hn
    have yr1 := r1.cell
    have zr1 := r1.lt
    go_upto_region 6 with fail
    clear yr1 zr1
    refine wp_region_held_drew (S := (fun W' => ∀ j, W'.cell? ⟨w.heap.size, j, none⟩ = (#[.int .i64 kd, .int .i64 m, .int .i64 a, .int .i64 b, .int .i64 c, .string tag] : Array Value)[j]?)) (by kernel_rfl) r1.cell (fun hHeld => ?_)
    replace r1 := r1.drew
    replace hc := hc.drew
    generalize V4.drew = V5 at *
    refine' wpAnyH_take (i := 0) (oi := _) (v := _) ?_ (by kernel_rfl) (by kernel_rfl) (by kernel_rfl) ?_ (Or.inl ⟨?_, ?_⟩) (by assumption) ?_
    rotate_left 2
    · (simp only [List.getElem?_toArray, List.getElem?_cons_succ, List.getElem?_cons_zero]; rfl)
    · first | exact fun _ _ _ h => h | exact fun _ _ _ h => nomatch h.1
    · rfl
    · (intro W hSW; (try dsimp only at hSW); go_split_ands; first | (go_simp; done) | (go_simp; with_reducible rfl))
    try simp only [Act.put, List.setIfInBounds_toArray, List.set_cons_zero, List.set_cons_succ]
    refine' wpAnyH_take (i := 1) (oi := _) (v := _) ?_ (by kernel_rfl) (by kernel_rfl) (by kernel_rfl) ?_ (Or.inl ⟨?_, ?_⟩) (by assumption) ?_
    rotate_left 2
    · (simp only [List.getElem?_toArray, List.getElem?_cons_succ, List.getElem?_cons_zero]; rfl)
    · first | exact fun _ _ _ h => h | exact fun _ _ _ h => nomatch h.1
    · rfl
    · (intro W hSW; (try dsimp only at hSW); go_split_ands; first | (go_simp; done) | (go_simp; with_reducible rfl))
    try simp only [Act.put, List.setIfInBounds_toArray, List.set_cons_zero, List.set_cons_succ]
    refine' wpAnyH_take (i := 4) (oi := _) (v := _) ?_ (by kernel_rfl) (by kernel_rfl) (by kernel_rfl) ?_ (Or.inl ⟨?_, ?_⟩) (by assumption) ?_
    rotate_left 2
    · (simp only [List.getElem?_toArray, List.getElem?_cons_succ, List.getElem?_cons_zero]; rfl)
    · first | exact fun _ _ _ h => h | exact fun _ _ _ h => nomatch h.1
    · rfl
    · (intro W hSW; (try dsimp only at hSW); go_split_ands; first | (go_simp; done) | (go_simp; with_reducible rfl))
    try simp only [Act.put, List.setIfInBounds_toArray, List.set_cons_zero, List.set_cons_succ]
    refine' wpAnyH_take (i := 5) (oi := _) (v := _) ?_ (by kernel_rfl) (by kernel_rfl) (by kernel_rfl) ?_ (Or.inl ⟨?_, ?_⟩) (by assumption) ?_
    rotate_left 2
    · (simp only [List.getElem?_toArray, List.getElem?_cons_succ, List.getElem?_cons_zero]; rfl)
    · first | exact fun _ _ _ h => h | exact fun _ _ _ h => nomatch h.1
    · rfl
    · (intro W hSW; (try dsimp only at hSW); go_split_ands; first | (go_simp; done) | (go_simp; with_reducible rfl))
    try simp only [Act.put, List.setIfInBounds_toArray, List.set_cons_zero, List.set_cons_succ]
    clear hHeld
    refine wpAnyH_ready (rs := [2]) (by kernel_rfl) (by simp) ?_
    refine' AllReadyH.cons (o := _) ?_ (fun K hK => ?_) AllReadyH.nil
    rotate_left 1
    · (simp only [List.getElem?_toArray, List.getElem?_cons_succ, List.getElem?_cons_zero]; rfl)
    go_simp
    refine Calls.mono (CAH.out _) ?_
    rintro e V6 ⟨rfl, hn⟩
    replace r1 := r1.on hn
    replace hc := chain hc hn
    clear hn
    go_simp
    refine hK.out _ _ r1.cell (fun hHeld => ?_)
    clear hK K
    refine' wpAnyH_take (i := 3) (oi := _) (v := _) ?_ (by kernel_rfl) (by kernel_rfl) (by kernel_rfl) ?_ (Or.inl ⟨?_, ?_⟩) (by assumption) ?_
    rotate_left 2
    · (simp only [List.getElem?_toArray, List.getElem?_cons_succ, List.getElem?_cons_zero]; rfl)
    · first | exact fun _ _ _ h => h | exact fun _ _ _ h => nomatch h.1
    · rfl
    · (intro W hSW; (try dsimp only at hSW); go_split_ands; first | (go_simp; done) | (go_simp; with_reducible rfl))
    try simp only [Act.put, List.setIfInBounds_toArray, List.set_cons_zero, List.set_cons_succ]
    clear hHeld
    refine wpAnyH_ready (rs := [6]) (by kernel_rfl) (by simp) ?_
    refine' AllReadyH.cons (o := _) ?_ (fun K hK => ?_) AllReadyH.nil
    rotate_left 1
    · (simp only [List.getElem?_toArray, List.getElem?_cons_succ, List.getElem?_cons_zero]; rfl)
    go_simp
    refine Calls.mono (CBH.out _) ?_
    rintro e V7 ⟨rfl, hn⟩
    replace r1 := r1.on hn
    replace hc := chain hc hn
    clear hn
    go_simp
    refine hK.out _ _ r1.cell (fun hHeld => ?_)
    clear hK K
    refine' wpAnyH_take (i := 7) (oi := _) (v := _) ?_ (by kernel_rfl) (by kernel_rfl) (by kernel_rfl) ?_ (Or.inl ⟨?_, ?_⟩) (by assumption) ?_
    rotate_left 2
    · (simp only [List.getElem?_toArray, List.getElem?_cons_succ, List.getElem?_cons_zero]; rfl)
    · first | exact fun _ _ _ h => h | exact fun _ _ _ h => nomatch h.1
    · rfl
    · (intro W hSW; (try dsimp only at hSW); go_split_ands; first | (go_simp; done) | (go_simp; with_reducible rfl))
    try simp only [Act.put, List.setIfInBounds_toArray, List.set_cons_zero, List.set_cons_succ]
    refine' wpAnyH_take (i := 8) (oi := _) (v := _) ?_ (by kernel_rfl) (by kernel_rfl) (by kernel_rfl) ?_ (Or.inl ⟨?_, ?_⟩) (by assumption) ?_
    rotate_left 2
    · (simp only [List.getElem?_toArray, List.getElem?_cons_succ, List.getElem?_cons_zero]; rfl)
    · first | exact fun _ _ _ h => h | exact fun _ _ _ h => nomatch h.1
    · rfl
    · (intro W hSW; (try dsimp only at hSW); go_split_ands; first | (go_simp; done) | (go_simp; with_reducible rfl))
    try simp only [Act.put, List.setIfInBounds_toArray, List.set_cons_zero, List.set_cons_succ]
    refine' wpAnyH_take (i := 9) (oi := _) (v := _) ?_ (by kernel_rfl) (by kernel_rfl) (by kernel_rfl) ?_ (Or.inl ⟨?_, ?_⟩) (by assumption) ?_
    rotate_left 2
    · (simp only [List.getElem?_toArray, List.getElem?_cons_succ, List.getElem?_cons_zero]; rfl)
    · first | exact fun _ _ _ h => h | exact fun _ _ _ h => nomatch h.1
    · rfl
    · (intro W hSW; (try dsimp only at hSW); go_split_ands; first | (go_simp; done) | (go_simp; with_reducible rfl))
    try simp only [Act.put, List.setIfInBounds_toArray, List.set_cons_zero, List.set_cons_succ]
    clear hHeld
    refine wpAnyH_done (by kernel_rfl) ?_ _
    have hkk : kd = 1 ∨ kd = 2 ∨ kd = 3 ∨ kd = 4 ∨ kd = 5 ∨ kd = 6 ∨ kd = 7 ∨ kd = 8 ∨ kd = 9 ∨ kd = 10 ∨ kd = 11 ∨ kd = 12 := by have h1 := HK.out; have h2 := HMU.out; unfold inB at h2; simp at h2; omega
    clear HK HMU
    rcases hkk with rfl | rfl | rfl | rfl | rfl | rfl | rfl | rfl | rfl | rfl | rfl | rfl
    · have yr1 := r1.cell
      have zr1 := r1.lt
      go_wp2_with fail
      go_returns
      exact ⟨by simp [armR], hc⟩
    · have yr1 := r1.cell
      have zr1 := r1.lt
      go_wp2_with fail
      go_returns
      exact ⟨by simp [armR], hc⟩
    · have yr1 := r1.cell
      have zr1 := r1.lt
      go_wp2_with fail
      refine Calls.mono (CCH.out _) ?_
      rintro e V8 ⟨rfl, hn⟩
      clear yr1 zr1
      replace r1 := r1.on hn
      replace hc := chain hc hn
      clear hn
      go_wp2_with fail
      go_returns
      exact ⟨by simp [armR], hc⟩
    · have yr1 := r1.cell
      have zr1 := r1.lt
      go_wp2_with fail
      go_returns
      exact ⟨by simp [armR], hc⟩
    · have yr1 := r1.cell
      have zr1 := r1.lt
      go_wp2_with fail
      go_returns
      exact ⟨by simp [armR], hc⟩
    · have yr1 := r1.cell
      have zr1 := r1.lt
      go_wp2_with fail
      go_returns
      exact ⟨by simp [armR], hc⟩
    · have yr1 := r1.cell
      have zr1 := r1.lt
      go_wp2_with fail
      go_returns
      exact ⟨by simp [armR], hc⟩
    · obtain ⟨ha, rfl⟩ := HLH.out rfl
      have CQ := Lib.hid (CQH.out rfl)
      have yr1 := r1.cell
      have zr1 := r1.lt
      go_wp2_with fail
      refine Calls.mono (CQ.out _) ?_
      rintro e V8 ⟨rfl, hn⟩
      clear yr1 zr1
      replace r1 := r1.on hn
      replace hc := chain hc hn
      clear hn
      rcases (by omega : a = 1 ∨ a = 2 ∨ a = 3) with rfl | rfl | rfl
      · have yr1 := r1.cell
        have zr1 := r1.lt
        have wl : IntKind.i64.wrap 0 = 0 := by decide
        have ll : letterB 1 = 102 := by decide
        rw [ll] at o2
        replace hc := hc.alloc hc.size (.cells #[.string ⟨#[102]⟩, .string ⟨#[98]⟩, .string ⟨#[108]⟩] 9)
        go_wp2_with fail
        go_returns
        exact ⟨by simp [armR], hc⟩
      · have yr1 := r1.cell
        have zr1 := r1.lt
        have wl : IntKind.i64.wrap 1 = 1 := by decide
        have ll : letterB 2 = 98 := by decide
        rw [ll] at o2
        replace hc := hc.alloc hc.size (.cells #[.string ⟨#[102]⟩, .string ⟨#[98]⟩, .string ⟨#[108]⟩] 9)
        go_wp2_with fail
        go_returns
        exact ⟨by simp [armR], hc⟩
      · have yr1 := r1.cell
        have zr1 := r1.lt
        have wl : IntKind.i64.wrap 2 = 2 := by decide
        have ll : letterB 3 = 108 := by decide
        rw [ll] at o2
        replace hc := hc.alloc hc.size (.cells #[.string ⟨#[102]⟩, .string ⟨#[98]⟩, .string ⟨#[108]⟩] 9)
        go_wp2_with fail
        go_returns
        exact ⟨by simp [armR], hc⟩
    · have yr1 := r1.cell
      have zr1 := r1.lt
      go_wp2_with fail
      go_returns
      exact ⟨by simp [armR], hc⟩
    · have yr1 := r1.cell
      have zr1 := r1.lt
      go_wp2_with fail
      go_returns
      exact ⟨by simp [armR], hc⟩
    · have yr1 := r1.cell
      have zr1 := r1.lt
      go_wp2_with fail
      go_returns
      exact ⟨by simp [armR], hc⟩
    · have yr1 := r1.cell
      have zr1 := r1.lt
      go_wp2_with fail
      go_returns
      exact ⟨by simp [armR], hc⟩
end Go.Proofs.YthkngleegefgbaaGreatDoor
