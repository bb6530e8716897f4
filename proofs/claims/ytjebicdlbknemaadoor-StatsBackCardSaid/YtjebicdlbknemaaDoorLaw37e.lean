/- StatsBack. -/
import Derived.Test.YtjebicdlbknemaaDoorStParse3
import Derived.Test.YtjebicdlbknemaaDoorStMade
import Derived.Test.YtjebicdlbknemaaDoorRow
namespace Go.Proofs.YtjebicdlbknemaaDoor
open Go.RowKit
set_option linter.unusedVariables false
set_option linter.unusedSimpArgs false
abbrev row10 (s : Nat → ByteArray) : Array Value := #[.string (s 0), .string (s 1), .string (s 2), .string (s 3), .string (s 4), .string (s 5), .string (s 6), .string (s 7), .string (s 8), .string (s 9)]
set_option maxHeartbeats 64000000 in
set_option maxRecDepth 20000 in
theorem back_any (a b c d h g o l cl r q v : Int) (Q : Nat) (w : World) (hE : EnvP w) (hh : Int.tmod h 5 = (Q : Int)) (hQ : Q = 0 ∨ Q = 1 ∨ Q = 2 ∨ Q = 3 ∨ Q = 4) (g0 : 0 ≤ g) (g1 : g ≤ 255) (v0 : 0 ≤ v) (v1 : v ≤ 10000)
    (s : Nat → ByteArray) (T X N : ByteArray) (h0 : s 0 = ⟨#[111, 112, 101, 110, 101, 100]⟩)
    (c1 : ∀ w, Ret 16 #[.agg #[.int .u16 a, .int .u16 b, .int .u16 c, .int .u16 d]] w (stV o l cl r q))
    (c2 : ∀ w, Env w → Ret 18 #[stV o l cl r q] w (.tuple #[.string T, .int .i64 0]))
    (c3 : ∀ w, EnvP w → Ret 21 #[.string T] w (.tuple #[stV o l cl r q, .int .i64 0]))
    (c4 : ∀ w, Env w → Calls Tryd.prog 23 #[.string T, .string ⟨#[32]⟩] w fun e w' => e = .returned (.slice (some ⟨w.heap.size, 0, none⟩) 10 10) ∧ w' = w.alloc (.cells (row10 s) 9))
    (c5 : ∀ w, Env w → Ret 24 #[.int .i64 q] w (.string (s 9)))
    (c6 : ∀ w, Ret 25 #[.string (s (1 + 2 * Q))] w (.tuple #[.int .i64 v, .nilIface]))
    (c7 : ∀ w, Env w → Ret 24 #[.int .i64 (v + 1 + g)] w (.string N))
    (c8 : ∀ w n, Row w n ((row10 s).setIfInBounds (1 + 2 * Q) (.string N)) 9 → Ret 26 #[.slice (some ⟨n, 0, none⟩) 10 10, .string ⟨#[32]⟩] w (.string X))
    (c9 : ∀ w, EnvP w → Ret 21 #[.string X] w (.tuple #[stV 0 0 0 0 0, .int .i64 9])) :
    Ret 7 #[.agg #[.int .u16 a, .int .u16 b, .int .u16 c, .int .u16 d], .int .u8 h, .int .u8 g] w (.bool true) := by
  have C1 := Lib.hid c1
  have C2 := Lib.hid c2
  have C3 := Lib.hid c3
  have C4 := Lib.hid c4
  have C5 := Lib.hid c5
  have C9 := Lib.hid c9
  have hc0 := Below.refl w.heap.size w
  have hw0 : IntKind.u8.wrap 0 = 0 := rfl
  have hw1 : IntKind.u8.wrap 1 = 1 := rfl
  have hw2 : IntKind.u8.wrap 2 = 2 := rfl
  have hw3 : IntKind.u8.wrap 3 = 3 := rfl
  have hw4 : IntKind.u8.wrap 4 = 4 := rfl
  clear c1 c2 c3 c4 c5 c9
  rcases hQ with rfl | rfl | rfl | rfl | rfl
  all_goals
    simp only [Nat.reduceMul, Nat.reduceAdd] at c6 c8
    replace hh := hh.trans (by first | exact (rfl : ((0 : Nat) : Int) = 0) | exact (rfl : ((1 : Nat) : Int) = 1) | exact (rfl : ((2 : Nat) : Int) = 2) | exact (rfl : ((3 : Nat) : Int) = 3) | exact (rfl : ((4 : Nat) : Int) = 4))
    have C6 := Lib.hid c6
    have C7 := Lib.hid c7
    have C8 := Lib.hid c8
    clear c6 c7 c8
    go_enter Tryd.func7, Tryd.ntmps7
    go_wp2_with fail
    refine Calls.mono (C1.out _) ?_
    rintro e w1 ⟨rfl, hb1⟩
    obtain ⟨kk, ff⟩ := bcell hb1
    have hc1 : Below w.heap.size w w1 := under hb1
    clear kk ff
    have hs1 := hc1.size
    clear hc0 hb1
    go_wp2_with fail
    refine Calls.mono (C2.out _ (hE.toEnv.on (by go_grown))) ?_
    rintro e w2 ⟨rfl, hb2⟩
    obtain ⟨kk, ff⟩ := bcell hb2
    have hc2 : Below w.heap.size w w2 := under hb2
    have k2_0 : ∀ o, w2.cell? ⟨w1.heap.size, o, none⟩ = _ := fun o => kk _ o (by first | assumption | omega | (simp; done) | (simp; omega))
    have f2_0 : ∀ o, w2.frozen? ⟨w1.heap.size, o, none⟩ = _ := fun o => ff _ o (by first | assumption | omega | (simp; done) | (simp; omega))
    have z2_0 : w1.heap.size < w2.heap.size := by have := hb2.size; (try simp at this); omega
    clear kk ff
    have hs2 := hc2.size
    clear hc1 hb2
    go_wp2_with fail
    refine Calls.mono (C3.out _ (hE.on (by go_grown))) ?_
    rintro e w3 ⟨rfl, hb3⟩
    obtain ⟨kk, ff⟩ := bcell hb3
    have hc3 : Below w.heap.size w w3 := under hb3
    have k3_0 : ∀ o, w3.cell? ⟨w1.heap.size, o, none⟩ = _ := fun o => kk _ o (by first | assumption | omega | (simp; done) | (simp; omega))
    have f3_0 : ∀ o, w3.frozen? ⟨w1.heap.size, o, none⟩ = _ := fun o => ff _ o (by first | assumption | omega | (simp; done) | (simp; omega))
    have z3_0 : w1.heap.size < w3.heap.size := by have := hb3.size; (try simp at this); omega
    clear kk ff
    have hs3 := hc3.size
    clear hc2 hb3
    go_wp2_with fail
    refine (C4.out _ (hE.toEnv.on (by go_grown))).mono ?_
    rintro e w4 ⟨rfl, rfl⟩
    have hR4 : Row ((w3.alloc (.cells #[.int .i64 o, .int .i64 l, .int .i64 cl, .int .i64 r, .int .i64 q] 23)).alloc (.cells (row10 s) 9)) (w3.heap.size + 1) (row10 s) 9 := by
      have h := Row.new (W := w3.alloc (.cells #[.int .i64 o, .int .i64 l, .int .i64 cl, .int .i64 r, .int .i64 q] 23)) (cs := row10 s) (t := 9)
      simpa using h
    go_wp2_with fail
    refine wp_region_held_drew (S := fun W' => Row W' (w3.heap.size + 1) (row10 s) 9 ∧ Below w.heap.size w W' ∧ W'.cell? ⟨w3.heap.size + 1, 0, none⟩ = some (.string ⟨#[111, 112, 101, 110, 101, 100]⟩) ∧ W'.cell? ⟨w3.heap.size + 1, 9, none⟩ = some (.string (s 9)) ∧ W'.cell? ⟨w3.heap.size, 0, none⟩ = some (.int .i64 o) ∧ W'.cell? ⟨w3.heap.size, 1, none⟩ = some (.int .i64 l) ∧ W'.cell? ⟨w3.heap.size, 2, none⟩ = some (.int .i64 cl) ∧ W'.cell? ⟨w3.heap.size, 3, none⟩ = some (.int .i64 r) ∧ W'.cell? ⟨w3.heap.size, 4, none⟩ = some (.int .i64 q) ∧ W'.cell? ⟨w1.heap.size, 0, none⟩ = some (.int .i64 o) ∧ W'.cell? ⟨w1.heap.size, 1, none⟩ = some (.int .i64 l) ∧ W'.cell? ⟨w1.heap.size, 2, none⟩ = some (.int .i64 cl) ∧ W'.cell? ⟨w1.heap.size, 3, none⟩ = some (.int .i64 r) ∧ W'.cell? ⟨w1.heap.size, 4, none⟩ = some (.int .i64 q)) (by kernel_rfl) ?_ (fun hHeld => ?_)
    · refine ⟨hR4.on ((Below.refl _ _).drew), by go_grown, ?_, ?_, ?_, ?_, ?_, ?_, ?_, ?_, ?_, ?_, ?_, ?_⟩
      all_goals go_simp
    refine' wpAnyH_take (i := 0) (oi := _) (v := _) ?_ (by kernel_rfl) (by kernel_rfl) (by kernel_rfl) ?_ (Or.inl ⟨?_, ?_⟩) (by assumption) ?_
    rotate_left 2
    · (simp only [List.getElem?_toArray, List.getElem?_cons_succ, List.getElem?_cons_zero]; rfl)
    · exact fun _ _ _ h => h
    · rfl
    · (intro W hSW; (try dsimp only at hSW); go_split_ands; first | (go_simp; done) | (go_simp; with_reducible rfl))
    try simp only [Act.put, List.setIfInBounds_toArray, List.set_cons_zero, List.set_cons_succ]
    refine' wpAnyH_take (i := 1) (oi := _) (v := _) ?_ (by kernel_rfl) (by kernel_rfl) (by kernel_rfl) ?_ (Or.inl ⟨?_, ?_⟩) (by assumption) ?_
    rotate_left 2
    · (simp only [List.getElem?_toArray, List.getElem?_cons_succ, List.getElem?_cons_zero]; rfl)
    · exact fun _ _ _ h => h
    · rfl
    · (intro W hSW; (try dsimp only at hSW); go_split_ands; first | (go_simp; done) | (go_simp; with_reducible rfl))
    try simp only [Act.put, List.setIfInBounds_toArray, List.set_cons_zero, List.set_cons_succ]
    refine' wpAnyH_take (i := 2) (oi := _) (v := _) ?_ (by kernel_rfl) (by kernel_rfl) (by kernel_rfl) ?_ (Or.inl ⟨?_, ?_⟩) (by assumption) ?_
    rotate_left 2
    · (simp only [List.getElem?_toArray, List.getElem?_cons_succ, List.getElem?_cons_zero]; rfl)
    · exact fun _ _ _ h => h
    · rfl
    · (intro W hSW; (try dsimp only at hSW); go_split_ands; first | (go_simp; done) | (go_simp; with_reducible rfl))
    try simp only [Act.put, List.setIfInBounds_toArray, List.set_cons_zero, List.set_cons_succ]
    refine' wpAnyH_take (i := 3) (oi := _) (v := _) ?_ (by kernel_rfl) (by kernel_rfl) (by kernel_rfl) ?_ (Or.inl ⟨?_, ?_⟩) (by assumption) ?_
    rotate_left 2
    · (simp only [List.getElem?_toArray, List.getElem?_cons_succ, List.getElem?_cons_zero]; rfl)
    · exact fun _ _ _ h => h
    · rfl
    · (intro W hSW; (try dsimp only at hSW); go_split_ands; first | (go_simp; done) | (go_simp; with_reducible rfl))
    try simp only [Act.put, List.setIfInBounds_toArray, List.set_cons_zero, List.set_cons_succ]
    refine' wpAnyH_take (i := 4) (oi := _) (v := _) ?_ (by kernel_rfl) (by kernel_rfl) (by kernel_rfl) ?_ (Or.inl ⟨?_, ?_⟩) (by assumption) ?_
    rotate_left 2
    · (simp only [List.getElem?_toArray, List.getElem?_cons_succ, List.getElem?_cons_zero]; rfl)
    · exact fun _ _ _ h => h
    · rfl
    · (intro W hSW; (try dsimp only at hSW); go_split_ands; first | (go_simp; done) | (go_simp; with_reducible rfl))
    try simp only [Act.put, List.setIfInBounds_toArray, List.set_cons_zero, List.set_cons_succ]
    refine' wpAnyH_take (i := 5) (oi := _) (v := _) ?_ (by kernel_rfl) (by kernel_rfl) (by kernel_rfl) ?_ (Or.inl ⟨?_, ?_⟩) (by assumption) ?_
    rotate_left 2
    · (simp only [List.getElem?_toArray, List.getElem?_cons_succ, List.getElem?_cons_zero]; rfl)
    · exact fun _ _ _ h => h
    · rfl
    · (intro W hSW; (try dsimp only at hSW); go_split_ands; first | (go_simp; done) | (go_simp; with_reducible rfl))
    try simp only [Act.put, List.setIfInBounds_toArray, List.set_cons_zero, List.set_cons_succ]
    refine' wpAnyH_take (i := 6) (oi := _) (v := _) ?_ (by kernel_rfl) (by kernel_rfl) (by kernel_rfl) ?_ (Or.inl ⟨?_, ?_⟩) (by assumption) ?_
    rotate_left 2
    · (simp only [List.getElem?_toArray, List.getElem?_cons_succ, List.getElem?_cons_zero]; rfl)
    · exact fun _ _ _ h => h
    · rfl
    · (intro W hSW; (try dsimp only at hSW); go_split_ands; first | (go_simp; done) | (go_simp; with_reducible rfl))
    try simp only [Act.put, List.setIfInBounds_toArray, List.set_cons_zero, List.set_cons_succ]
    refine' wpAnyH_take (i := 7) (oi := _) (v := _) ?_ (by kernel_rfl) (by kernel_rfl) (by kernel_rfl) ?_ (Or.inl ⟨?_, ?_⟩) (by assumption) ?_
    rotate_left 2
    · (simp only [List.getElem?_toArray, List.getElem?_cons_succ, List.getElem?_cons_zero]; rfl)
    · exact fun _ _ _ h => h
    · rfl
    · (intro W hSW; (try dsimp only at hSW); go_split_ands; first | (go_simp; done) | (go_simp; with_reducible rfl))
    try simp only [Act.put, List.setIfInBounds_toArray, List.set_cons_zero, List.set_cons_succ]
    refine' wpAnyH_take (i := 8) (oi := _) (v := _) ?_ (by kernel_rfl) (by kernel_rfl) (by kernel_rfl) ?_ (Or.inl ⟨?_, ?_⟩) (by assumption) ?_
    rotate_left 2
    · (simp only [List.getElem?_toArray, List.getElem?_cons_succ, List.getElem?_cons_zero]; rfl)
    · exact fun _ _ _ h => h
    · rfl
    · (intro W hSW; (try dsimp only at hSW); go_split_ands; first | (go_simp; done) | (go_simp; with_reducible rfl))
    try simp only [Act.put, List.setIfInBounds_toArray, List.set_cons_zero, List.set_cons_succ]
    refine' wpAnyH_take (i := 9) (oi := _) (v := _) ?_ (by kernel_rfl) (by kernel_rfl) (by kernel_rfl) ?_ (Or.inl ⟨?_, ?_⟩) (by assumption) ?_
    rotate_left 2
    · (simp only [List.getElem?_toArray, List.getElem?_cons_succ, List.getElem?_cons_zero]; rfl)
    · exact fun _ _ _ h => h
    · rfl
    · (intro W hSW; (try dsimp only at hSW); go_split_ands; first | (go_simp; done) | (go_simp; with_reducible rfl))
    try simp only [Act.put, List.setIfInBounds_toArray, List.set_cons_zero, List.set_cons_succ]
    refine' wpAnyH_take (i := 10) (oi := _) (v := _) ?_ (by kernel_rfl) (by kernel_rfl) (by kernel_rfl) ?_ (Or.inl ⟨?_, ?_⟩) (by assumption) ?_
    rotate_left 2
    · (simp only [List.getElem?_toArray, List.getElem?_cons_succ, List.getElem?_cons_zero]; rfl)
    · exact fun _ _ _ h => h
    · rfl
    · (intro W hSW; (try dsimp only at hSW); go_split_ands; first | (go_simp; done) | (go_simp; with_reducible rfl))
    try simp only [Act.put, List.setIfInBounds_toArray, List.set_cons_zero, List.set_cons_succ]
    refine' wpAnyH_take (i := 11) (oi := _) (v := _) ?_ (by kernel_rfl) (by kernel_rfl) (by kernel_rfl) ?_ (Or.inl ⟨?_, ?_⟩) (by assumption) ?_
    rotate_left 2
    · (simp only [List.getElem?_toArray, List.getElem?_cons_succ, List.getElem?_cons_zero]; rfl)
    · exact fun _ _ _ h => h
    · rfl
    · (intro W hSW; (try dsimp only at hSW); go_split_ands; first | (go_simp; done) | (go_simp; with_reducible rfl))
    try simp only [Act.put, List.setIfInBounds_toArray, List.set_cons_zero, List.set_cons_succ]
    refine' wpAnyH_take (i := 12) (oi := _) (v := _) ?_ (by kernel_rfl) (by kernel_rfl) (by kernel_rfl) ?_ (Or.inl ⟨?_, ?_⟩) (by assumption) ?_
    rotate_left 2
    · (simp only [List.getElem?_toArray, List.getElem?_cons_succ, List.getElem?_cons_zero]; rfl)
    · exact fun _ _ _ h => h
    · rfl
    · (intro W hSW; (try dsimp only at hSW); go_split_ands; first | (go_simp; done) | (go_simp; with_reducible rfl))
    try simp only [Act.put, List.setIfInBounds_toArray, List.set_cons_zero, List.set_cons_succ]
    refine' wpAnyH_take (i := 13) (oi := _) (v := _) ?_ (by kernel_rfl) (by kernel_rfl) (by kernel_rfl) ?_ (Or.inl ⟨?_, ?_⟩) (by assumption) ?_
    rotate_left 2
    · (simp only [List.getElem?_toArray, List.getElem?_cons_succ, List.getElem?_cons_zero]; rfl)
    · exact fun _ _ _ h => h
    · rfl
    · (intro W hSW; (try dsimp only at hSW); go_split_ands; first | (go_simp; done) | (go_simp; with_reducible rfl))
    try simp only [Act.put, List.setIfInBounds_toArray, List.set_cons_zero, List.set_cons_succ]
    refine' wpAnyH_take (i := 14) (oi := _) (v := _) ?_ (by kernel_rfl) (by kernel_rfl) (by kernel_rfl) ?_ (Or.inl ⟨?_, ?_⟩) (by assumption) ?_
    rotate_left 2
    · (simp only [List.getElem?_toArray, List.getElem?_cons_succ, List.getElem?_cons_zero]; rfl)
    · exact fun _ _ _ h => h
    · rfl
    · (intro W hSW; (try dsimp only at hSW); go_split_ands; first | (go_simp; done) | (go_simp; with_reducible rfl))
    try simp only [Act.put, List.setIfInBounds_toArray, List.set_cons_zero, List.set_cons_succ]
    refine' wpAnyH_take (i := 15) (oi := _) (v := _) ?_ (by kernel_rfl) (by kernel_rfl) (by kernel_rfl) ?_ (Or.inl ⟨?_, ?_⟩) (by assumption) ?_
    rotate_left 2
    · (simp only [List.getElem?_toArray, List.getElem?_cons_succ, List.getElem?_cons_zero]; rfl)
    · exact fun _ _ _ h => h
    · rfl
    · (intro W hSW; (try dsimp only at hSW); go_split_ands; first | (go_simp; done) | (go_simp; with_reducible rfl))
    try simp only [Act.put, List.setIfInBounds_toArray, List.set_cons_zero, List.set_cons_succ]
    refine' wpAnyH_take (i := 16) (oi := _) (v := _) ?_ (by kernel_rfl) (by kernel_rfl) (by kernel_rfl) ?_ (Or.inl ⟨?_, ?_⟩) (by assumption) ?_
    rotate_left 2
    · (simp only [List.getElem?_toArray, List.getElem?_cons_succ, List.getElem?_cons_zero]; rfl)
    · exact fun _ _ _ h => h
    · rfl
    · (intro W hSW; (try dsimp only at hSW); go_split_ands; first | (go_simp; done) | (go_simp; with_reducible rfl))
    try simp only [Act.put, List.setIfInBounds_toArray, List.set_cons_zero, List.set_cons_succ]
    refine' wpAnyH_take (i := 17) (oi := _) (v := _) ?_ (by kernel_rfl) (by kernel_rfl) (by kernel_rfl) ?_ (Or.inl ⟨?_, ?_⟩) (by assumption) ?_
    rotate_left 2
    · (simp only [List.getElem?_toArray, List.getElem?_cons_succ, List.getElem?_cons_zero]; rfl)
    · exact fun _ _ _ h => h
    · rfl
    · (intro W hSW; (try dsimp only at hSW); go_split_ands; first | (go_simp; done) | (go_simp; with_reducible rfl))
    try simp only [Act.put, List.setIfInBounds_toArray, List.set_cons_zero, List.set_cons_succ]
    refine' wpAnyH_take (i := 18) (oi := _) (v := _) ?_ (by kernel_rfl) (by kernel_rfl) (by kernel_rfl) ?_ (Or.inl ⟨?_, ?_⟩) (by assumption) ?_
    rotate_left 2
    · (simp only [List.getElem?_toArray, List.getElem?_cons_succ, List.getElem?_cons_zero]; rfl)
    · exact fun _ _ _ h => h
    · rfl
    · (intro W hSW; (try dsimp only at hSW); go_split_ands; first | (go_simp; done) | (go_simp; with_reducible rfl))
    try simp only [Act.put, List.setIfInBounds_toArray, List.set_cons_zero, List.set_cons_succ]
    refine' wpAnyH_take (i := 19) (oi := _) (v := _) ?_ (by kernel_rfl) (by kernel_rfl) (by kernel_rfl) ?_ (Or.inl ⟨?_, ?_⟩) (by assumption) ?_
    rotate_left 2
    · (simp only [List.getElem?_toArray, List.getElem?_cons_succ, List.getElem?_cons_zero]; rfl)
    · exact fun _ _ _ h => h
    · rfl
    · (intro W hSW; (try dsimp only at hSW); go_split_ands; first | (go_simp; done) | (go_simp; with_reducible rfl))
    try simp only [Act.put, List.setIfInBounds_toArray, List.set_cons_zero, List.set_cons_succ]
    refine' wpAnyH_take (i := 20) (oi := _) (v := _) ?_ (by kernel_rfl) (by kernel_rfl) (by kernel_rfl) ?_ (Or.inl ⟨?_, ?_⟩) (by assumption) ?_
    rotate_left 2
    · (simp only [List.getElem?_toArray, List.getElem?_cons_succ, List.getElem?_cons_zero]; rfl)
    · exact fun _ _ _ h => h
    · rfl
    · (intro W hSW; (try dsimp only at hSW); go_split_ands; first | (go_simp; done) | (go_simp; with_reducible rfl))
    try simp only [Act.put, List.setIfInBounds_toArray, List.set_cons_zero, List.set_cons_succ]
    refine' wpAnyH_take (i := 21) (oi := _) (v := _) ?_ (by kernel_rfl) (by kernel_rfl) (by kernel_rfl) ?_ (Or.inl ⟨?_, ?_⟩) (by assumption) ?_
    rotate_left 2
    · (simp only [List.getElem?_toArray, List.getElem?_cons_succ, List.getElem?_cons_zero]; rfl)
    · exact fun _ _ _ h => h
    · rfl
    · (intro W hSW; (try dsimp only at hSW); go_split_ands; first | (go_simp; done) | (go_simp; with_reducible rfl))
    try simp only [Act.put, List.setIfInBounds_toArray, List.set_cons_zero, List.set_cons_succ]
    refine' wpAnyH_take (i := 22) (oi := _) (v := _) ?_ (by kernel_rfl) (by kernel_rfl) (by kernel_rfl) ?_ (Or.inl ⟨?_, ?_⟩) (by assumption) ?_
    rotate_left 2
    · (simp only [List.getElem?_toArray, List.getElem?_cons_succ, List.getElem?_cons_zero]; rfl)
    · exact fun _ _ _ h => h
    · rfl
    · (intro W hSW; (try dsimp only at hSW); go_split_ands; first | (go_simp; done) | (go_simp; with_reducible rfl))
    try simp only [Act.put, List.setIfInBounds_toArray, List.set_cons_zero, List.set_cons_succ]
    refine' wpAnyH_take (i := 23) (oi := _) (v := _) ?_ (by kernel_rfl) (by kernel_rfl) (by kernel_rfl) ?_ (Or.inl ⟨?_, ?_⟩) (by assumption) ?_
    rotate_left 2
    · (simp only [List.getElem?_toArray, List.getElem?_cons_succ, List.getElem?_cons_zero]; rfl)
    · exact fun _ _ _ h => h
    · rfl
    · (intro W hSW; (try dsimp only at hSW); go_split_ands; first | (go_simp; done) | (go_simp; with_reducible rfl))
    try simp only [Act.put, List.setIfInBounds_toArray, List.set_cons_zero, List.set_cons_succ]
    refine' wpAnyH_take (i := 24) (oi := _) (v := _) ?_ (by kernel_rfl) (by kernel_rfl) (by kernel_rfl) ?_ (Or.inl ⟨?_, ?_⟩) (by assumption) ?_
    rotate_left 2
    · (simp only [List.getElem?_toArray, List.getElem?_cons_succ, List.getElem?_cons_zero]; rfl)
    · exact fun _ _ _ h => h
    · rfl
    · (intro W hSW; (try dsimp only at hSW); go_split_ands; first | (go_simp; done) | (go_simp; with_reducible rfl))
    try simp only [Act.put, List.setIfInBounds_toArray, List.set_cons_zero, List.set_cons_succ]
    refine' wpAnyH_take (i := 25) (oi := _) (v := _) ?_ (by kernel_rfl) (by kernel_rfl) (by kernel_rfl) ?_ (Or.inl ⟨?_, ?_⟩) (by assumption) ?_
    rotate_left 2
    · (simp only [List.getElem?_toArray, List.getElem?_cons_succ, List.getElem?_cons_zero]; rfl)
    · exact fun _ _ _ h => h
    · rfl
    · (intro W hSW; (try dsimp only at hSW); go_split_ands; first | (go_simp; done) | (go_simp; with_reducible rfl))
    try simp only [Act.put, List.setIfInBounds_toArray, List.set_cons_zero, List.set_cons_succ]
    refine' wpAnyH_take (i := 26) (oi := _) (v := _) ?_ (by kernel_rfl) (by kernel_rfl) (by kernel_rfl) ?_ (Or.inl ⟨?_, ?_⟩) (by assumption) ?_
    rotate_left 2
    · (simp only [List.getElem?_toArray, List.getElem?_cons_succ, List.getElem?_cons_zero]; rfl)
    · exact fun _ _ _ h => h
    · rfl
    · (intro W hSW; (try dsimp only at hSW); go_split_ands; first | (go_simp; done) | (go_simp; with_reducible rfl))
    try simp only [Act.put, List.setIfInBounds_toArray, List.set_cons_zero, List.set_cons_succ]
    refine' wpAnyH_take (i := 27) (oi := _) (v := _) ?_ (by kernel_rfl) (by kernel_rfl) (by kernel_rfl) ?_ (Or.inl ⟨?_, ?_⟩) (by assumption) ?_
    rotate_left 2
    · (simp only [List.getElem?_toArray, List.getElem?_cons_succ, List.getElem?_cons_zero]; rfl)
    · exact fun _ _ _ h => h
    · rfl
    · (intro W hSW; (try dsimp only at hSW); go_split_ands; first | (go_simp; done) | (go_simp; with_reducible rfl))
    try simp only [Act.put, List.setIfInBounds_toArray, List.set_cons_zero, List.set_cons_succ]
    refine wpAnyH_ready (rs := [28]) (by kernel_rfl) (by simp) ?_
    refine' AllReadyH.cons (o := _) ?_ (fun K hK => ?_) AllReadyH.nil
    rotate_left 1
    · (simp only [List.getElem?_toArray, List.getElem?_cons_succ, List.getElem?_cons_zero]; rfl)
    go_simp
    refine (C5.out _ (hE.toEnv.on (by go_grown))).mono ?_
    rintro e w5 ⟨rfl, hb5⟩
    go_simp
    obtain ⟨hR, hB, p0, p9, t0, t1, t2, t3, t4, u0, u1, u2, u3, u4⟩ := hHeld
    have lz : w3.heap.size + 1 < w5.heap.size := (hR.on hb5).lt
    refine hK.out _ _ ⟨hR.on hb5, chain hB hb5, keep_cell hb5 hR.lt p0, keep_cell hb5 hR.lt p9, keep_cell hb5 (by simp; omega) t0, keep_cell hb5 (by simp; omega) t1, keep_cell hb5 (by simp; omega) t2, keep_cell hb5 (by simp; omega) t3, keep_cell hb5 (by simp; omega) t4, keep_cell hb5 (by simp; omega) u0, keep_cell hb5 (by simp; omega) u1, keep_cell hb5 (by simp; omega) u2, keep_cell hb5 (by simp; omega) u3, keep_cell hb5 (by simp; omega) u4⟩ (fun hHeld => ?_)
    clear hK K
    refine' wpAnyH_take (i := 29) (oi := _) (v := _) ?_ (by kernel_rfl) (by kernel_rfl) (by kernel_rfl) ?_ (Or.inl ⟨?_, ?_⟩) (by assumption) ?_
    rotate_left 2
    · (simp only [List.getElem?_toArray, List.getElem?_cons_succ, List.getElem?_cons_zero]; rfl)
    · exact fun _ _ _ h => h
    · rfl
    · (intro W hSW; (try dsimp only at hSW); go_split_ands; first | (go_simp; done) | (go_simp; with_reducible rfl))
    try simp only [Act.put, List.setIfInBounds_toArray, List.set_cons_zero, List.set_cons_succ]
    refine' wpAnyH_take (i := 30) (oi := _) (v := _) ?_ (by kernel_rfl) (by kernel_rfl) (by kernel_rfl) ?_ (Or.inl ⟨?_, ?_⟩) (by assumption) ?_
    rotate_left 2
    · (simp only [List.getElem?_toArray, List.getElem?_cons_succ, List.getElem?_cons_zero]; rfl)
    · exact fun _ _ _ h => h
    · rfl
    · (intro W hSW; (try dsimp only at hSW); go_split_ands; first | (go_simp; done) | (go_simp; with_reducible rfl))
    try simp only [Act.put, List.setIfInBounds_toArray, List.set_cons_zero, List.set_cons_succ]
    refine wpAnyH_done (by kernel_rfl) ?_ _
    have hR5 := hHeld.1
    have hc5 := hHeld.2.1
    clear hHeld hR hB p0 p9 t0 t1 t2 t3 t4 u0 u1 u2 u3 u4 hR4 hb5
    have q5 := hR5.cell
    have hs5 := hc5.size
    go_wp2_with fail
    refine Calls.mono (C6.out _) ?_
    rintro e w6 ⟨rfl, hb6⟩
    have hR6 := hR5.on hb6
    have hc6 : Below w.heap.size w w6 := under hb6
    clear hR5 q5 hc5 hb6
    go_wp2_with fail
    refine Calls.mono (C7.out _ (hE.toEnv.on (by go_grown))) ?_
    rintro e w7 ⟨rfl, hb7⟩
    have hR7 := hR6.on hb7
    have hc7 : Below w.heap.size w w7 := under hb7
    have q7 := hR7.cell
    have f7 := hR7.free
    clear hR6 hc6 hb7
    go_wp2_with fail
    refine Calls.mono (C8.out _ _ (hR7.set _ _)) ?_
    rintro e w8 ⟨rfl, hb8⟩
    have hc8 : Below w.heap.size w w8 := under hb8
    clear hR7 q7 f7 hc7 hb8
    go_wp2_with fail
    refine Calls.mono (C9.out _ (hE.on (by go_grown))) ?_
    rintro e w9 ⟨rfl, hb9⟩
    obtain ⟨kk, ff⟩ := bcell hb9
    have hc9 : Below w.heap.size w w9 := under hb9
    clear kk ff
    have hs9 := hc9.size
    clear hc8 hb9
    go_wp2_with fail
    refine Calls.mono (works _ (hE.toEnv.on (by go_grown))) ?_
    rintro e w10 ⟨rfl, hb10⟩
    obtain ⟨kk, ff⟩ := bcell hb10
    have hc10 : Below w.heap.size w w10 := under hb10
    clear kk ff
    have hs10 := hc10.size
    clear hc9 hb10
    go_wp2_with fail
    go_returns
    exact ⟨rfl, by go_grown⟩
/-- The words of counts. -/
def wd (o l c r q : Int) (j : Nat) : ByteArray := ⟨((wordsL o l c r q).getD j []).toArray⟩
theorem itoa_inj {a b : Int} (h0 : 0 ≤ a) (h1 : 0 ≤ b) (h : Lib.itoa a = Lib.itoa b) : a = b := by
  unfold Lib.itoa at h
  rw [if_neg (by omega), if_neg (by omega)] at h
  have := decDigits_inj h
  omega
theorem row_wd (o l c r q : Int) : ((wordsL o l c r q).map fun x => Value.string ⟨x.toArray⟩).toArray = row10 (wd o l c r q) := by
  unfold row10 wd
  rw [wordsL_eq]
  rfl
theorem wd_cnt (o l c r q : Int) (Q : Nat) (h : Q < 5) : (wordsL o l c r q).getD (1 + 2 * Q) [] = Lib.itoa (sCnt o l c r q Q) := by
  rw [wordsL_eq]
  rcases (by omega : Q = 0 ∨ Q = 1 ∨ Q = 2 ∨ Q = 3 ∨ Q = 4) with rfl | rfl | rfl | rfl | rfl <;> rfl
theorem text_size (o l c r q : Int) (h : sOk o l c r q = true) : (sText o l c r q).size ≤ 1000 := by
  have hb := sOk_all h
  have a0 := Lib.itoa_length_le o (by omega) (by omega)
  have a1 := Lib.itoa_length_le l (by omega) (by omega)
  have a2 := Lib.itoa_length_le c (by omega) (by omega)
  have a3 := Lib.itoa_length_le r (by omega) (by omega)
  have a4 := Lib.itoa_length_le q (by omega) (by omega)
  rw [← len_bytes]
  show (Lib.join (wordsL o l c r q) [32]).length ≤ 1000
  rw [wordsL_eq]
  simp [sWord, Lib.join, List.intercalate]
  omega
/-- The words with one that is turned. -/
def wl2 (o l c r q g : Int) (Q : Nat) : List (List UInt8) := (wordsL o l c r q).set (1 + 2 * Q) (Lib.itoa (sCnt o l c r q Q + 1 + g))
def txt2 (o l c r q g : Int) (Q : Nat) : ByteArray := ⟨(Lib.join (wl2 o l c r q g Q) [32]).toArray⟩
theorem no_space_words (o l c r q : Int) (h : sOk o l c r q = true) : ∀ y ∈ wordsL o l c r q, (32 : UInt8) ∉ y := by
  have hb := sOk_all h
  rw [wordsL_eq]
  intro y hy
  simp only [List.mem_cons, List.not_mem_nil, or_false] at hy
  rcases hy with rfl | rfl | rfl | rfl | rfl | rfl | rfl | rfl | rfl | rfl
  · decide
  · exact itoa_no_space _ (by omega)
  · decide
  · exact itoa_no_space _ (by omega)
  · decide
  · exact itoa_no_space _ (by omega)
  · decide
  · exact itoa_no_space _ (by omega)
  · decide
  · exact itoa_no_space _ (by omega)
theorem txt2_words (o l c r q g : Int) (Q : Nat) (hQ : Q < 5) (h : sOk o l c r q = true) (g0 : 0 ≤ g) : cutAll 32 (txt2 o l c r q g Q).data.toList = wl2 o l c r q g Q := by
  have hb := sOk_all h
  have hv : 0 ≤ sCnt o l c r q Q := by
    rcases (by omega : Q = 0 ∨ Q = 1 ∨ Q = 2 ∨ Q = 3 ∨ Q = 4) with rfl | rfl | rfl | rfl | rfl <;> simp only [sCnt] <;> omega
  refine cutAll_join 32 _ (by unfold wl2; rw [wordsL_eq]; simp) ?_
  intro y hy
  rcases List.mem_or_eq_of_mem_set hy with h1 | rfl
  · exact no_space_words o l c r q h y h1
  · exact itoa_no_space _ (by omega)
theorem txt2_not (o l c r q g : Int) (Q : Nat) (hQ : Q < 5) (h : sOk o l c r q = true) (g0 : 0 ≤ g) (o' l' c' r' q' : Int) : ¬ IsSt (txt2 o l c r q g Q) o' l' c' r' q' := by
  intro hi
  have hw := hi.words
  rw [txt2_words o l c r q g Q hQ h g0] at hw
  have hb := sOk_all h
  have hb' := sOk_all hi.1
  unfold wl2 at hw
  rw [wordsL_eq, wordsL_eq] at hw
  rcases (by omega : Q = 0 ∨ Q = 1 ∨ Q = 2 ∨ Q = 3 ∨ Q = 4) with rfl | rfl | rfl | rfl | rfl
  all_goals
    simp only [Nat.reduceMul, Nat.reduceAdd, Nat.add_zero, Nat.mul_zero, List.set_cons_succ, List.set_cons_zero, List.cons.injEq, true_and, and_true, sCnt] at hw
    obtain ⟨e0, e1, e2, e3, e4⟩ := hw
    have f0 := itoa_inj (by omega) (by omega) e0
    have f1 := itoa_inj (by omega) (by omega) e1
    have f2 := itoa_inj (by omega) (by omega) e2
    have f3 := itoa_inj (by omega) (by omega) e3
    have f4 := itoa_inj (by omega) (by omega) e4
    omega
theorem txt2_len (o l c r q g : Int) (Q : Nat) (hQ : Q < 5) (h : sOk o l c r q = true) (g0 : 0 ≤ g) (g1 : g ≤ 255) : (Lib.join (wl2 o l c r q g Q) [32]).length ≤ 1000 := by
  have hb := sOk_all h
  have a0 := Lib.itoa_length_le o (by omega) (by omega)
  have a1 := Lib.itoa_length_le l (by omega) (by omega)
  have a2 := Lib.itoa_length_le c (by omega) (by omega)
  have a3 := Lib.itoa_length_le r (by omega) (by omega)
  have a4 := Lib.itoa_length_le q (by omega) (by omega)
  have hv : 0 ≤ sCnt o l c r q Q ∧ sCnt o l c r q Q ≤ 10000 := by
    rcases (by omega : Q = 0 ∨ Q = 1 ∨ Q = 2 ∨ Q = 3 ∨ Q = 4) with rfl | rfl | rfl | rfl | rfl <;> simp only [sCnt] <;> omega
  have a5 := Lib.itoa_length_le (sCnt o l c r q Q + 1 + g) (by omega) (by omega)
  unfold wl2
  rw [wordsL_eq]
  rcases (by omega : Q = 0 ∨ Q = 1 ∨ Q = 2 ∨ Q = 3 ∨ Q = 4) with rfl | rfl | rfl | rfl | rfl
  all_goals
    simp [sWord, Lib.join, List.intercalate]
    omega
theorem join_row (w : World) (n : Nat) (ws : List (List UInt8)) (row : Array Value) (T : TypeId) (hr : Row w n row T) (he : row = (ws.map fun x => Value.string ⟨x.toArray⟩).toArray) (h10 : ws.length = 10) (hl : (Lib.join ws [32]).length ≤ 1000) :
    Ret 26 #[.slice (some ⟨n, 0, none⟩) 10 10, .string ⟨#[32]⟩] w (.string ⟨(Lib.join ws [32]).toArray⟩) := by
  have h := Tryd.strings_Join n 0 10 (ws.map fun x => (⟨x.toArray⟩ : ByteArray)) ⟨#[32]⟩ w (fun j x hx => by
    rw [Nat.zero_add, hr.cell, he]
    rw [List.getElem?_map] at hx
    rw [List.getElem?_toArray, List.getElem?_map]
    cases hw : ws[j]? with
    | none => rw [hw] at hx; cases hx
    | some y => rw [hw] at hx; simp only [Option.map_some, Option.some.injEq] at hx ⊢; rw [hx]) hr.lt (by simp [h10]) (by simp [h10]) (by
      have e : (ws.map fun x => (⟨x.toArray⟩ : ByteArray)).map (·.data.toList) = ws := by simp [Function.comp_def]
      rw [e]
      exact Nat.le_trans hl (by decide))
  have e : (ws.map fun x => (⟨x.toArray⟩ : ByteArray)).map (·.data.toList) = ws := by simp [Function.comp_def]
  rw [e, List.length_map, h10] at h
  exact h
theorem wl2_row (o l c r q g : Int) (Q : Nat) (hQ : Q < 5) : (row10 (wd o l c r q)).setIfInBounds (1 + 2 * Q) (.string ⟨(Lib.itoa (sCnt o l c r q Q + 1 + g)).toArray⟩) = ((wl2 o l c r q g Q).map fun x => Value.string ⟨x.toArray⟩).toArray := by
  rw [← row_wd]
  unfold wl2
  rw [List.setIfInBounds_toArray, List.map_set]
theorem back_walk (a b c d h g : Int) (w : World) (hE : EnvP w) (a0 : 0 ≤ a) (a1 : a ≤ 65535) (b0 : 0 ≤ b) (b1 : b ≤ 65535) (c0 : 0 ≤ c) (c1 : c ≤ 65535) (d0 : 0 ≤ d) (d1 : d ≤ 65535) (h0 : 0 ≤ h) (h1 : h ≤ 255) (g0 : 0 ≤ g) (g1 : g ≤ 255) :
    Ret 7 #[.agg #[.int .u16 a, .int .u16 b, .int .u16 c, .int .u16 d], .int .u8 h, .int .u8 g] w (.bool true) := by
  have hm := fun w => made_ret a b c d w a0 a1 b0 b1 c0 c1 d0 d1
  have hk : sOk (a % 2501 + b % 2501 + c % 2501 + d % 2501) (a % 2501) (b % 2501) (c % 2501) (d % 2501) = true := by unfold sOk; rw [decide_eq_true_iff]; omega
  generalize a % 2501 + b % 2501 + c % 2501 + d % 2501 = o at hm hk
  generalize a % 2501 = l at hm hk
  generalize b % 2501 = cl at hm hk
  generalize c % 2501 = r at hm hk
  generalize d % 2501 = q at hm hk
  obtain ⟨Q, hQ⟩ : ∃ Q : Nat, h % 5 = (Q : Int) := ⟨(h % 5).toNat, by omega⟩
  have hQ5 : Q < 5 := by omega
  have hb := sOk_all hk
  have hv : 0 ≤ sCnt o l cl r q Q ∧ sCnt o l cl r q Q ≤ 10000 := by
    rcases (by omega : Q = 0 ∨ Q = 1 ∨ Q = 2 ∨ Q = 3 ∨ Q = 4) with rfl | rfl | rfl | rfl | rfl <;> simp only [sCnt] <;> omega
  have hT := text_size o l cl r q hk
  have hI : IsSt (sText o l cl r q) o l cl r q := ⟨hk, rfl⟩
  refine back_any a b c d h g o l cl r q (sCnt o l cl r q Q) Q w hE (by rw [Int.tmod_eq_emod_of_nonneg h0]; exact hQ) (by omega) g0 g1 hv.1 hv.2 (wd o l cl r q) (sText o l cl r q) (txt2 o l cl r q g Q) ⟨(Lib.itoa (sCnt o l cl r q Q + 1 + g)).toArray⟩
    (by unfold wd; rw [wordsL_eq]; rfl) hm (fun w hE => text_ok o l cl r q w hE hk) ?_ (fun w hE => ?_) (fun w hE => ?_) (fun w => ?_) (fun w hE => strconv_Itoa _ w hE (by omega) (by omega)) (fun w n hr => ?_) ?_
  · rcases st_parse (sText o l cl r q) (by omega) with ⟨o', l', c', r', q', hx, hp⟩ | ⟨hx, _⟩
    · have e : ∀ j, j < 5 → sCnt o l cl r q j = sCnt o' l' c' r' q' j := fun j hj => by
        have h1 := hI.av j hj
        rw [hx.av j hj] at h1
        injection h1 with h2
        exact h2.symm
      obtain rfl := e 0 (by omega)
      obtain rfl := e 1 (by omega)
      obtain rfl := e 2 (by omega)
      obtain rfl := e 3 (by omega)
      obtain rfl := e 4 (by omega)
      exact hp
    · exact absurd hI (hx _ _ _ _ _)
  · have h := split_c (sText o l cl r q) (by omega) w hE
    rw [hI.words, row_wd] at h
    rw [show (wordsL o l cl r q).length = 10 by rw [wordsL_eq]; rfl] at h
    exact h
  · have h := strconv_Itoa q w hE (by omega) (by omega)
    have e : wd o l cl r q 9 = ⟨(Lib.itoa q).toArray⟩ := by unfold wd; rw [wordsL_eq]; rfl
    rw [e]
    exact h
  · refine atoi_ok _ ?_ _ ?_ w
    · have e := wd_cnt o l cl r q Q hQ5
      have := Lib.itoa_length_le (sCnt o l cl r q Q) (by omega) (by omega)
      rw [← len_bytes]
      show ((wordsL o l cl r q).getD (1 + 2 * Q) []).length ≤ _
      rw [e]
      omega
    · show Lib.atoiAll ((wordsL o l cl r q).getD (1 + 2 * Q) []) = _
      rw [wd_cnt o l cl r q Q hQ5]
      exact atoi_itoa _ (by omega) (by omega)
  · exact join_row w n (wl2 o l cl r q g Q) _ _ hr (wl2_row o l cl r q g Q hQ5) (by unfold wl2; rw [wordsL_eq]; simp) (txt2_len o l cl r q g Q hQ5 hk g0 g1)
  · rcases st_parse (txt2 o l cl r q g Q) (by have := txt2_len o l cl r q g Q hQ5 hk g0 g1; rw [← len_bytes]; show (Lib.join (wl2 o l cl r q g Q) [32]).length ≤ 100000; omega) with ⟨o', l', c', r', q', hx, hp⟩ | ⟨hx, hp⟩
    · exact absurd hx (txt2_not o l cl r q g Q hQ5 hk g0 _ _ _ _ _)
    · exact hp
end Go.Proofs.YtjebicdlbknemaaDoor
