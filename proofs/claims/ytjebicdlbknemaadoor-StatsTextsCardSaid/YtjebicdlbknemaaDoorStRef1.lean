/- The reference's Text of counts. -/
import Derived.Test.YtjebicdlbknemaaDoorStParse3
import Derived.Test.YtjebicdlbknemaaDoorStJoint
import Derived.Test.YtjebicdlbknemaaDoorRow
import Derived.Test.YtjebicdlbknemaaDoorDigits
import Derived.Test.YtjebicdlbknemaaDoorRefGens
namespace Go.Proofs.YtjebicdlbknemaaDoor
open Go.RowKit
open Go.Lib (decDigits)
set_option linter.unusedVariables false
set_option linter.unusedSimpArgs false
abbrev litB (l : List UInt8) : ByteArray := ⟨l.toArray⟩
theorem rtext_bad (o l c r q : Int) (w : World) (h : sOk o l c r q = false) : Ret 20 #[stV o l c r q] w (.tuple #[.string ⟨#[]⟩, .int .i64 2]) := by
  have HK := Lib.hid (fun w => rcheck_bad o l c r q w h)
  have hc0 := Below.refl w.heap.size w
  clear h
  go_enter Tryd.func20, Tryd.ntmps20
  go_wp2_with fail
  refine Calls.mono (HK.out _) ?_
  rintro e w1 ⟨rfl, hb1⟩
  obtain ⟨kk, ff⟩ := bcell hb1
  have hc1 : Below w.heap.size w w1 := under hb1
  clear kk ff
  have hs1 := hc1.size
  clear hc0 hb1
  go_wp2_with fail
  go_returns
  exact ⟨rfl, by go_grown⟩
theorem itoa_digits (n : Int) (h : 0 ≤ n) : (⟨(Lib.itoa n).toArray⟩ : ByteArray) = digits n.toNat := by unfold Lib.itoa digits; rw [if_neg (by omega)]
set_option maxHeartbeats 16000000 in
set_option maxRecDepth 20000 in
theorem rtext_any (o l c r q : Int) (w : World) (o0 : 0 ≤ o) (o1 : o ≤ 10000) (l0 : 0 ≤ l) (l1 : l ≤ 10000) (c0 : 0 ≤ c) (c1 : c ≤ 10000) (r0 : 0 ≤ r) (r1 : r ≤ 10000) (q0 : 0 ≤ q) (q1 : q ≤ 10000)
    (hk : ∀ w, Ret 14 #[stV o l c r q] w (.int .i64 0)) (d0 d1 d2 d3 d4 t0 t1 t2 t3 t4 t5 t6 t7 t8 t9 : ByteArray)
    (h0 : ∀ w, Ret 39 #[.int .u64 o] w (.string d0)) (h1 : ∀ w, Ret 39 #[.int .u64 l] w (.string d1)) (h2 : ∀ w, Ret 39 #[.int .u64 c] w (.string d2)) (h3 : ∀ w, Ret 39 #[.int .u64 r] w (.string d3)) (h4 : ∀ w, Ret 39 #[.int .u64 q] w (.string d4))
    (e1 : ∀ W, (Op.stringOp .add ⟨#[111, 112, 101, 110, 101, 100, 32]⟩ d0).run Tryd.prog W = .ok (.string t1) W) (e2 : ∀ W, (Op.stringOp .add t1 ⟨#[32, 108, 105, 118, 101, 32]⟩).run Tryd.prog W = .ok (.string t2) W)
    (e3 : ∀ W, (Op.stringOp .add t2 d1).run Tryd.prog W = .ok (.string t3) W) (e4 : ∀ W, (Op.stringOp .add t3 ⟨#[32, 99, 108, 111, 115, 105, 110, 103, 32]⟩).run Tryd.prog W = .ok (.string t4) W)
    (e5 : ∀ W, (Op.stringOp .add t4 d2).run Tryd.prog W = .ok (.string t5) W) (e6 : ∀ W, (Op.stringOp .add t5 ⟨#[32, 114, 101, 108, 101, 97, 115, 101, 100, 32]⟩).run Tryd.prog W = .ok (.string t6) W)
    (e7 : ∀ W, (Op.stringOp .add t6 d3).run Tryd.prog W = .ok (.string t7) W) (e8 : ∀ W, (Op.stringOp .add t7 ⟨#[32, 113, 117, 97, 114, 97, 110, 116, 105, 110, 101, 100, 32]⟩).run Tryd.prog W = .ok (.string t8) W)
    (e9 : ∀ W, (Op.stringOp .add t8 d4).run Tryd.prog W = .ok (.string t9) W) :
    Ret 20 #[stV o l c r q] w (.tuple #[.string t9, .int .i64 0]) := by
  have HK := Lib.hid hk
  have H0 := Lib.hid h0
  have H1 := Lib.hid h1
  have H2 := Lib.hid h2
  have H3 := Lib.hid h3
  have H4 := Lib.hid h4
  have wo : IntKind.u64.wrap o = o := IntWalk.u64_in _ ⟨by omega, by omega⟩
  have wl : IntKind.u64.wrap l = l := IntWalk.u64_in _ ⟨by omega, by omega⟩
  have wc : IntKind.u64.wrap c = c := IntWalk.u64_in _ ⟨by omega, by omega⟩
  have wr : IntKind.u64.wrap r = r := IntWalk.u64_in _ ⟨by omega, by omega⟩
  have wq : IntKind.u64.wrap q = q := IntWalk.u64_in _ ⟨by omega, by omega⟩
  have hc0 := Below.refl w.heap.size w
  clear hk h0 h1 h2 h3 h4
  go_enter Tryd.func20, Tryd.ntmps20
  go_wp2_with fail
  refine Calls.mono (HK.out _) ?_
  rintro e w1 ⟨rfl, hb1⟩
  obtain ⟨kk, ff⟩ := bcell hb1
  have hc1 : Below w.heap.size w w1 := under hb1
  have k1_0 : ∀ o, w1.cell? ⟨w.heap.size, o, none⟩ = _ := fun o => kk _ o (by first | assumption | omega | (simp; done) | (simp; omega))
  have f1_0 : ∀ o, w1.frozen? ⟨w.heap.size, o, none⟩ = _ := fun o => ff _ o (by first | assumption | omega | (simp; done) | (simp; omega))
  have z1_0 : w.heap.size < w1.heap.size := by have := hb1.size; (try simp at this); omega
  clear kk ff
  have hs1 := hc1.size
  clear hc0 hb1
  go_wp2_with fail
  refine wp_region_held_drew (S := fun W' => (∀ j, W'.cell? ⟨w.heap.size, j, none⟩ = (#[.int .i64 o, .int .i64 l, .int .i64 c, .int .i64 r, .int .i64 q] : Array Value)[j]?) ∧ w.heap.size < W'.heap.size) (by kernel_rfl) ?_ (fun hHeld => ?_)
  · exact ⟨fun j => by go_simp, by simpa using z1_0⟩
  refine' wpAnyH_take (i := 0) (oi := _) (v := _) ?_ (by kernel_rfl) (by kernel_rfl) (by kernel_rfl) ?_ (Or.inl ⟨?_, ?_⟩) (by assumption) ?_
  rotate_left 2
  · (simp only [List.getElem?_toArray, List.getElem?_cons_succ, List.getElem?_cons_zero]; rfl)
  · exact fun _ _ _ h => h
  · rfl
  · (intro W hSW; (try dsimp only at hSW); go_split_ands; first | (go_simp; done) | (go_simp; with_reducible rfl))
  try simp only [Act.put, List.setIfInBounds_toArray, List.set_cons_zero, List.set_cons_succ]
  refine' wpAnyH_take (i := 1) (oi := _) (v := _) ?_ (by kernel_rfl) (by kernel_rfl) (by kernel_rfl) ?_ (Or.inl ⟨?_, ?_⟩) (by assumption) ?_
  rotate_left 2
  · (simp only [List.getElem?_toArray, List.getElem?_cons_succ, List.getElem?_cons_zero]; rfl)
  · exact fun _ _ _ h => h
  · rfl
  · (intro W hSW; (try dsimp only at hSW); go_split_ands; first | (go_simp; done) | (go_simp; with_reducible rfl))
  try simp only [Act.put, List.setIfInBounds_toArray, List.set_cons_zero, List.set_cons_succ]
  refine' wpAnyH_take (i := 2) (oi := _) (v := _) ?_ (by kernel_rfl) (by kernel_rfl) (by kernel_rfl) ?_ (Or.inl ⟨?_, ?_⟩) (by assumption) ?_
  rotate_left 2
  · (simp only [List.getElem?_toArray, List.getElem?_cons_succ, List.getElem?_cons_zero]; rfl)
  · exact fun _ _ _ h => h
  · rfl
  · (intro W hSW; (try dsimp only at hSW); go_split_ands; first | (go_simp; done) | (go_simp; with_reducible rfl))
  try simp only [Act.put, List.setIfInBounds_toArray, List.set_cons_zero, List.set_cons_succ]
  refine' wpAnyH_take (i := 6) (oi := _) (v := _) ?_ (by kernel_rfl) (by kernel_rfl) (by kernel_rfl) ?_ (Or.inl ⟨?_, ?_⟩) (by assumption) ?_
  rotate_left 2
  · (simp only [List.getElem?_toArray, List.getElem?_cons_succ, List.getElem?_cons_zero]; rfl)
  · exact fun _ _ _ h => h
  · rfl
  · (intro W hSW; (try dsimp only at hSW); go_split_ands; first | (go_simp; done) | (go_simp; with_reducible rfl))
  try simp only [Act.put, List.setIfInBounds_toArray, List.set_cons_zero, List.set_cons_succ]
  refine' wpAnyH_take (i := 7) (oi := _) (v := _) ?_ (by kernel_rfl) (by kernel_rfl) (by kernel_rfl) ?_ (Or.inl ⟨?_, ?_⟩) (by assumption) ?_
  rotate_left 2
  · (simp only [List.getElem?_toArray, List.getElem?_cons_succ, List.getElem?_cons_zero]; rfl)
  · exact fun _ _ _ h => h
  · rfl
  · (intro W hSW; (try dsimp only at hSW); go_split_ands; first | (go_simp; done) | (go_simp; with_reducible rfl))
  try simp only [Act.put, List.setIfInBounds_toArray, List.set_cons_zero, List.set_cons_succ]
  refine' wpAnyH_take (i := 8) (oi := _) (v := _) ?_ (by kernel_rfl) (by kernel_rfl) (by kernel_rfl) ?_ (Or.inl ⟨?_, ?_⟩) (by assumption) ?_
  rotate_left 2
  · (simp only [List.getElem?_toArray, List.getElem?_cons_succ, List.getElem?_cons_zero]; rfl)
  · exact fun _ _ _ h => h
  · rfl
  · (intro W hSW; (try dsimp only at hSW); go_split_ands; first | (go_simp; done) | (go_simp; with_reducible rfl))
  try simp only [Act.put, List.setIfInBounds_toArray, List.set_cons_zero, List.set_cons_succ]
  refine' wpAnyH_take (i := 12) (oi := _) (v := _) ?_ (by kernel_rfl) (by kernel_rfl) (by kernel_rfl) ?_ (Or.inl ⟨?_, ?_⟩) (by assumption) ?_
  rotate_left 2
  · (simp only [List.getElem?_toArray, List.getElem?_cons_succ, List.getElem?_cons_zero]; rfl)
  · exact fun _ _ _ h => h
  · rfl
  · (intro W hSW; (try dsimp only at hSW); go_split_ands; first | (go_simp; done) | (go_simp; with_reducible rfl))
  try simp only [Act.put, List.setIfInBounds_toArray, List.set_cons_zero, List.set_cons_succ]
  refine' wpAnyH_take (i := 13) (oi := _) (v := _) ?_ (by kernel_rfl) (by kernel_rfl) (by kernel_rfl) ?_ (Or.inl ⟨?_, ?_⟩) (by assumption) ?_
  rotate_left 2
  · (simp only [List.getElem?_toArray, List.getElem?_cons_succ, List.getElem?_cons_zero]; rfl)
  · exact fun _ _ _ h => h
  · rfl
  · (intro W hSW; (try dsimp only at hSW); go_split_ands; first | (go_simp; done) | (go_simp; with_reducible rfl))
  try simp only [Act.put, List.setIfInBounds_toArray, List.set_cons_zero, List.set_cons_succ]
  refine' wpAnyH_take (i := 14) (oi := _) (v := _) ?_ (by kernel_rfl) (by kernel_rfl) (by kernel_rfl) ?_ (Or.inl ⟨?_, ?_⟩) (by assumption) ?_
  rotate_left 2
  · (simp only [List.getElem?_toArray, List.getElem?_cons_succ, List.getElem?_cons_zero]; rfl)
  · exact fun _ _ _ h => h
  · rfl
  · (intro W hSW; (try dsimp only at hSW); go_split_ands; first | (go_simp; done) | (go_simp; with_reducible rfl))
  try simp only [Act.put, List.setIfInBounds_toArray, List.set_cons_zero, List.set_cons_succ]
  refine' wpAnyH_take (i := 18) (oi := _) (v := _) ?_ (by kernel_rfl) (by kernel_rfl) (by kernel_rfl) ?_ (Or.inl ⟨?_, ?_⟩) (by assumption) ?_
  rotate_left 2
  · (simp only [List.getElem?_toArray, List.getElem?_cons_succ, List.getElem?_cons_zero]; rfl)
  · exact fun _ _ _ h => h
  · rfl
  · (intro W hSW; (try dsimp only at hSW); go_split_ands; first | (go_simp; done) | (go_simp; with_reducible rfl))
  try simp only [Act.put, List.setIfInBounds_toArray, List.set_cons_zero, List.set_cons_succ]
  refine' wpAnyH_take (i := 19) (oi := _) (v := _) ?_ (by kernel_rfl) (by kernel_rfl) (by kernel_rfl) ?_ (Or.inl ⟨?_, ?_⟩) (by assumption) ?_
  rotate_left 2
  · (simp only [List.getElem?_toArray, List.getElem?_cons_succ, List.getElem?_cons_zero]; rfl)
  · exact fun _ _ _ h => h
  · rfl
  · (intro W hSW; (try dsimp only at hSW); go_split_ands; first | (go_simp; done) | (go_simp; with_reducible rfl))
  try simp only [Act.put, List.setIfInBounds_toArray, List.set_cons_zero, List.set_cons_succ]
  refine' wpAnyH_take (i := 20) (oi := _) (v := _) ?_ (by kernel_rfl) (by kernel_rfl) (by kernel_rfl) ?_ (Or.inl ⟨?_, ?_⟩) (by assumption) ?_
  rotate_left 2
  · (simp only [List.getElem?_toArray, List.getElem?_cons_succ, List.getElem?_cons_zero]; rfl)
  · exact fun _ _ _ h => h
  · rfl
  · (intro W hSW; (try dsimp only at hSW); go_split_ands; first | (go_simp; done) | (go_simp; with_reducible rfl))
  try simp only [Act.put, List.setIfInBounds_toArray, List.set_cons_zero, List.set_cons_succ]
  refine' wpAnyH_take (i := 24) (oi := _) (v := _) ?_ (by kernel_rfl) (by kernel_rfl) (by kernel_rfl) ?_ (Or.inl ⟨?_, ?_⟩) (by assumption) ?_
  rotate_left 2
  · (simp only [List.getElem?_toArray, List.getElem?_cons_succ, List.getElem?_cons_zero]; rfl)
  · exact fun _ _ _ h => h
  · rfl
  · (intro W hSW; (try dsimp only at hSW); go_split_ands; first | (go_simp; done) | (go_simp; with_reducible rfl))
  try simp only [Act.put, List.setIfInBounds_toArray, List.set_cons_zero, List.set_cons_succ]
  refine' wpAnyH_take (i := 25) (oi := _) (v := _) ?_ (by kernel_rfl) (by kernel_rfl) (by kernel_rfl) ?_ (Or.inl ⟨?_, ?_⟩) (by assumption) ?_
  rotate_left 2
  · (simp only [List.getElem?_toArray, List.getElem?_cons_succ, List.getElem?_cons_zero]; rfl)
  · exact fun _ _ _ h => h
  · rfl
  · (intro W hSW; (try dsimp only at hSW); go_split_ands; first | (go_simp; done) | (go_simp; with_reducible rfl))
  try simp only [Act.put, List.setIfInBounds_toArray, List.set_cons_zero, List.set_cons_succ]
  refine' wpAnyH_take (i := 26) (oi := _) (v := _) ?_ (by kernel_rfl) (by kernel_rfl) (by kernel_rfl) ?_ (Or.inl ⟨?_, ?_⟩) (by assumption) ?_
  rotate_left 2
  · (simp only [List.getElem?_toArray, List.getElem?_cons_succ, List.getElem?_cons_zero]; rfl)
  · exact fun _ _ _ h => h
  · rfl
  · (intro W hSW; (try dsimp only at hSW); go_split_ands; first | (go_simp; done) | (go_simp; with_reducible rfl))
  try simp only [Act.put, List.setIfInBounds_toArray, List.set_cons_zero, List.set_cons_succ]
  refine wpAnyH_ready (rs := [3]) (by kernel_rfl) (by simp) ?_
  refine' AllReadyH.cons (o := _) ?_ (fun K hK => ?_) AllReadyH.nil
  rotate_left 1
  · (simp only [List.getElem?_toArray, List.getElem?_cons_succ, List.getElem?_cons_zero]; rfl)
  go_simp
  refine (H0.out _).mono ?_
  rintro e w2 ⟨rfl, hb2⟩
  go_simp
  have hc2 : Below w.heap.size w w2 := under hb2
  refine hK.out _ _ ⟨keep_cells hb2 (by simpa using hHeld.2) hHeld.1, keep_lt hb2 (by simpa using hHeld.2)⟩ (fun hHeld => ?_)
  clear hK K hc1 hb2
  refine' wpAnyH_take (i := 4) (oi := _) (v := _) ?_ (by kernel_rfl) (by kernel_rfl) (by kernel_rfl) ?_ (Or.inl ⟨?_, ?_⟩) (by assumption) ?_
  rotate_left 2
  · (simp only [List.getElem?_toArray, List.getElem?_cons_succ, List.getElem?_cons_zero]; rfl)
  · exact fun _ _ _ h => h
  · rfl
  · (intro W hSW; (try dsimp only at hSW); go_split_ands; first | (go_simp; done) | (go_simp; with_reducible rfl))
  try simp only [Act.put, List.setIfInBounds_toArray, List.set_cons_zero, List.set_cons_succ]
  refine' wpAnyH_take (i := 5) (oi := _) (v := _) ?_ (by kernel_rfl) (by kernel_rfl) (by kernel_rfl) ?_ (Or.inl ⟨?_, ?_⟩) (by assumption) ?_
  rotate_left 2
  · (simp only [List.getElem?_toArray, List.getElem?_cons_succ, List.getElem?_cons_zero]; rfl)
  · exact fun _ _ _ h => h
  · rfl
  · (intro W hSW; (try dsimp only at hSW); go_split_ands; first | (go_simp; done) | (go_simp; with_reducible rfl))
  try simp only [Act.put, List.setIfInBounds_toArray, List.set_cons_zero, List.set_cons_succ]
  refine wpAnyH_ready (rs := [9]) (by kernel_rfl) (by simp) ?_
  refine' AllReadyH.cons (o := _) ?_ (fun K hK => ?_) AllReadyH.nil
  rotate_left 1
  · (simp only [List.getElem?_toArray, List.getElem?_cons_succ, List.getElem?_cons_zero]; rfl)
  go_simp
  refine (H1.out _).mono ?_
  rintro e w3 ⟨rfl, hb3⟩
  go_simp
  have hc3 : Below w.heap.size w w3 := under hb3
  refine hK.out _ _ ⟨keep_cells hb3 (by simpa using hHeld.2) hHeld.1, keep_lt hb3 (by simpa using hHeld.2)⟩ (fun hHeld => ?_)
  clear hK K hc2 hb3
  refine' wpAnyH_take (i := 10) (oi := _) (v := _) ?_ (by kernel_rfl) (by kernel_rfl) (by kernel_rfl) ?_ (Or.inl ⟨?_, ?_⟩) (by assumption) ?_
  rotate_left 2
  · (simp only [List.getElem?_toArray, List.getElem?_cons_succ, List.getElem?_cons_zero]; rfl)
  · exact fun _ _ _ h => h
  · rfl
  · (intro W hSW; (try dsimp only at hSW); go_split_ands; first | (go_simp; done) | (go_simp; with_reducible rfl))
  try simp only [Act.put, List.setIfInBounds_toArray, List.set_cons_zero, List.set_cons_succ]
  refine' wpAnyH_take (i := 11) (oi := _) (v := _) ?_ (by kernel_rfl) (by kernel_rfl) (by kernel_rfl) ?_ (Or.inl ⟨?_, ?_⟩) (by assumption) ?_
  rotate_left 2
  · (simp only [List.getElem?_toArray, List.getElem?_cons_succ, List.getElem?_cons_zero]; rfl)
  · exact fun _ _ _ h => h
  · rfl
  · (intro W hSW; (try dsimp only at hSW); go_split_ands; first | (go_simp; done) | (go_simp; with_reducible rfl))
  try simp only [Act.put, List.setIfInBounds_toArray, List.set_cons_zero, List.set_cons_succ]
  refine wpAnyH_ready (rs := [15]) (by kernel_rfl) (by simp) ?_
  refine' AllReadyH.cons (o := _) ?_ (fun K hK => ?_) AllReadyH.nil
  rotate_left 1
  · (simp only [List.getElem?_toArray, List.getElem?_cons_succ, List.getElem?_cons_zero]; rfl)
  go_simp
  refine (H2.out _).mono ?_
  rintro e w4 ⟨rfl, hb4⟩
  go_simp
  have hc4 : Below w.heap.size w w4 := under hb4
  refine hK.out _ _ ⟨keep_cells hb4 (by simpa using hHeld.2) hHeld.1, keep_lt hb4 (by simpa using hHeld.2)⟩ (fun hHeld => ?_)
  clear hK K hc3 hb4
  refine' wpAnyH_take (i := 16) (oi := _) (v := _) ?_ (by kernel_rfl) (by kernel_rfl) (by kernel_rfl) ?_ (Or.inl ⟨?_, ?_⟩) (by assumption) ?_
  rotate_left 2
  · (simp only [List.getElem?_toArray, List.getElem?_cons_succ, List.getElem?_cons_zero]; rfl)
  · exact fun _ _ _ h => h
  · rfl
  · (intro W hSW; (try dsimp only at hSW); go_split_ands; first | (go_simp; done) | (go_simp; with_reducible rfl))
  try simp only [Act.put, List.setIfInBounds_toArray, List.set_cons_zero, List.set_cons_succ]
  refine' wpAnyH_take (i := 17) (oi := _) (v := _) ?_ (by kernel_rfl) (by kernel_rfl) (by kernel_rfl) ?_ (Or.inl ⟨?_, ?_⟩) (by assumption) ?_
  rotate_left 2
  · (simp only [List.getElem?_toArray, List.getElem?_cons_succ, List.getElem?_cons_zero]; rfl)
  · exact fun _ _ _ h => h
  · rfl
  · (intro W hSW; (try dsimp only at hSW); go_split_ands; first | (go_simp; done) | (go_simp; with_reducible rfl))
  try simp only [Act.put, List.setIfInBounds_toArray, List.set_cons_zero, List.set_cons_succ]
  refine wpAnyH_ready (rs := [21]) (by kernel_rfl) (by simp) ?_
  refine' AllReadyH.cons (o := _) ?_ (fun K hK => ?_) AllReadyH.nil
  rotate_left 1
  · (simp only [List.getElem?_toArray, List.getElem?_cons_succ, List.getElem?_cons_zero]; rfl)
  go_simp
  refine (H3.out _).mono ?_
  rintro e w5 ⟨rfl, hb5⟩
  go_simp
  have hc5 : Below w.heap.size w w5 := under hb5
  refine hK.out _ _ ⟨keep_cells hb5 (by simpa using hHeld.2) hHeld.1, keep_lt hb5 (by simpa using hHeld.2)⟩ (fun hHeld => ?_)
  clear hK K hc4 hb5
  refine' wpAnyH_take (i := 22) (oi := _) (v := _) ?_ (by kernel_rfl) (by kernel_rfl) (by kernel_rfl) ?_ (Or.inl ⟨?_, ?_⟩) (by assumption) ?_
  rotate_left 2
  · (simp only [List.getElem?_toArray, List.getElem?_cons_succ, List.getElem?_cons_zero]; rfl)
  · exact fun _ _ _ h => h
  · rfl
  · (intro W hSW; (try dsimp only at hSW); go_split_ands; first | (go_simp; done) | (go_simp; with_reducible rfl))
  try simp only [Act.put, List.setIfInBounds_toArray, List.set_cons_zero, List.set_cons_succ]
  refine' wpAnyH_take (i := 23) (oi := _) (v := _) ?_ (by kernel_rfl) (by kernel_rfl) (by kernel_rfl) ?_ (Or.inl ⟨?_, ?_⟩) (by assumption) ?_
  rotate_left 2
  · (simp only [List.getElem?_toArray, List.getElem?_cons_succ, List.getElem?_cons_zero]; rfl)
  · exact fun _ _ _ h => h
  · rfl
  · (intro W hSW; (try dsimp only at hSW); go_split_ands; first | (go_simp; done) | (go_simp; with_reducible rfl))
  try simp only [Act.put, List.setIfInBounds_toArray, List.set_cons_zero, List.set_cons_succ]
  refine wpAnyH_ready (rs := [27]) (by kernel_rfl) (by simp) ?_
  refine' AllReadyH.cons (o := _) ?_ (fun K hK => ?_) AllReadyH.nil
  rotate_left 1
  · (simp only [List.getElem?_toArray, List.getElem?_cons_succ, List.getElem?_cons_zero]; rfl)
  go_simp
  refine (H4.out _).mono ?_
  rintro e w6 ⟨rfl, hb6⟩
  go_simp
  have hc6 : Below w.heap.size w w6 := under hb6
  refine hK.out _ _ ⟨keep_cells hb6 (by simpa using hHeld.2) hHeld.1, keep_lt hb6 (by simpa using hHeld.2)⟩ (fun hHeld => ?_)
  clear hK K hc5 hb6
  refine' wpAnyH_take (i := 28) (oi := _) (v := _) ?_ (by kernel_rfl) (by kernel_rfl) (by kernel_rfl) ?_ (Or.inl ⟨?_, ?_⟩) (by assumption) ?_
  rotate_left 2
  · (simp only [List.getElem?_toArray, List.getElem?_cons_succ, List.getElem?_cons_zero]; rfl)
  · exact fun _ _ _ h => h
  · rfl
  · (intro W hSW; (try dsimp only at hSW); go_split_ands; first | (go_simp; done) | (go_simp; with_reducible rfl))
  try simp only [Act.put, List.setIfInBounds_toArray, List.set_cons_zero, List.set_cons_succ]
  refine' wpAnyH_take (i := 29) (oi := _) (v := _) ?_ (by kernel_rfl) (by kernel_rfl) (by kernel_rfl) ?_ (Or.inl ⟨?_, ?_⟩) (by assumption) ?_
  rotate_left 2
  · (simp only [List.getElem?_toArray, List.getElem?_cons_succ, List.getElem?_cons_zero]; rfl)
  · exact fun _ _ _ h => h
  · rfl
  · (intro W hSW; (try dsimp only at hSW); go_split_ands; first | (go_simp; done) | (go_simp; with_reducible rfl))
  try simp only [Act.put, List.setIfInBounds_toArray, List.set_cons_zero, List.set_cons_succ]
  refine' wpAnyH_take (i := 30) (oi := _) (v := _) ?_ (by kernel_rfl) (by kernel_rfl) (by kernel_rfl) ?_ (Or.inl ⟨?_, ?_⟩) (by assumption) ?_
  rotate_left 2
  · (simp only [List.getElem?_toArray, List.getElem?_cons_succ, List.getElem?_cons_zero]; rfl)
  · exact fun _ _ _ h => h
  · rfl
  · (intro W hSW; (try dsimp only at hSW); go_split_ands; first | (go_simp; done) | (go_simp; with_reducible rfl))
  try simp only [Act.put, List.setIfInBounds_toArray, List.set_cons_zero, List.set_cons_succ]
  refine wpAnyH_done (by kernel_rfl) ?_ _
  go_wp2_with fail
  go_returns
  exact ⟨rfl, hc6⟩
theorem rtext_ok (o l c r q : Int) (w : World) (h : sOk o l c r q = true) : Ret 20 #[stV o l c r q] w (.tuple #[.string (sText o l c r q), .int .i64 0]) := by
  have hb := sOk_all h
  have hk : ∀ w, Ret 14 #[stV o l c r q] w (.int .i64 0) := fun w => (rcheck_st o l c r q w).to (by unfold sErr; rw [h]; rfl)
  have dz : ∀ n : Int, 0 ≤ n → n ≤ 10000 → (digits n.toNat).size ≤ 20 := fun n h0 h1 => digits_size_le _ (by omega)
  have z0 := dz o (by omega) (by omega)
  have z1 := dz l (by omega) (by omega)
  have z2 := dz c (by omega) (by omega)
  have z3 := dz r (by omega) (by omega)
  have z4 := dz q (by omega) (by omega)
  have run : ∀ a b : ByteArray, a.size + b.size ≤ 1000000 → ∀ W, (Op.stringOp .add a b).run Tryd.prog W = .ok (.string (a ++ b)) W := fun a b hs => add_run rfl hs
  have dg : ∀ n : Int, 0 ≤ n → n ≤ 10000 → ∀ w, Ret 39 #[.int .u64 n] w (.string (digits n.toNat)) := fun n h0 h1 w => ref_Digits n w h0 (by omega)
  have fin : ByteArray.mk #[111, 112, 101, 110, 101, 100, 32] ++ digits o.toNat ++ ⟨#[32, 108, 105, 118, 101, 32]⟩ ++ digits l.toNat ++ ⟨#[32, 99, 108, 111, 115, 105, 110, 103, 32]⟩ ++ digits c.toNat ++ ⟨#[32, 114, 101, 108, 101, 97, 115, 101, 100, 32]⟩ ++ digits r.toNat ++ ⟨#[32, 113, 117, 97, 114, 97, 110, 116, 105, 110, 101, 100, 32]⟩ ++ digits q.toNat = sText o l c r q := by
    apply str_ext
    show _ = Lib.join (wordsL o l c r q) [32]
    rw [wordsL_eq, ← show (⟨(Lib.itoa o).toArray⟩ : ByteArray).data.toList = Lib.itoa o from rfl, ← show (⟨(Lib.itoa l).toArray⟩ : ByteArray).data.toList = Lib.itoa l from rfl, ← show (⟨(Lib.itoa c).toArray⟩ : ByteArray).data.toList = Lib.itoa c from rfl, ← show (⟨(Lib.itoa r).toArray⟩ : ByteArray).data.toList = Lib.itoa r from rfl, ← show (⟨(Lib.itoa q).toArray⟩ : ByteArray).data.toList = Lib.itoa q from rfl,
      itoa_digits o (by omega), itoa_digits l (by omega), itoa_digits c (by omega), itoa_digits r (by omega), itoa_digits q (by omega)]
    simp [Lib.join, List.intercalate, sWord]
  refine (rtext_any o l c r q w (by omega) (by omega) (by omega) (by omega) (by omega) (by omega) (by omega) (by omega) (by omega) (by omega) hk (digits o.toNat) (digits l.toNat) (digits c.toNat) (digits r.toNat) (digits q.toNat) ⟨#[]⟩ _ _ _ _ _ _ _ _ _
    (dg o (by omega) (by omega)) (dg l (by omega) (by omega)) (dg c (by omega) (by omega)) (dg r (by omega) (by omega)) (dg q (by omega) (by omega))
    (run _ _ ?_) (run _ _ ?_) (run _ _ ?_) (run _ _ ?_) (run _ _ ?_) (run _ _ ?_) (run _ _ ?_) (run _ _ ?_) (run _ _ ?_)).to (by rw [fin])
  all_goals
    simp only [ByteArray.size_append, show (ByteArray.mk #[111, 112, 101, 110, 101, 100, 32]).size = 7 from rfl, show (ByteArray.mk #[32, 108, 105, 118, 101, 32]).size = 6 from rfl, show (ByteArray.mk #[32, 99, 108, 111, 115, 105, 110, 103, 32]).size = 9 from rfl, show (ByteArray.mk #[32, 114, 101, 108, 101, 97, 115, 101, 100, 32]).size = 10 from rfl, show (ByteArray.mk #[32, 113, 117, 97, 114, 97, 110, 116, 105, 110, 101, 100, 32]).size = 13 from rfl]
    omega
end Go.Proofs.YtjebicdlbknemaaDoor
