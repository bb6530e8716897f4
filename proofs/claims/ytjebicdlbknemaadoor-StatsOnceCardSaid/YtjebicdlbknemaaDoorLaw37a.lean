/- StatsOnce: its first region. -/
import Derived.Test.YtjebicdlbknemaaDoorStMade
import Derived.Test.YtjebicdlbknemaaDoorRow
namespace Go.Proofs.YtjebicdlbknemaaDoor
open Go.RowKit
set_option linter.unusedVariables false
set_option linter.unusedSimpArgs false
theorem changes_at (w : World) (Q : Nat) (F T : Int) (h : (Q = 0 ∧ F = 0 ∧ T = 1) ∨ (Q = 1 ∧ F = 1 ∧ T = 2) ∨ (Q = 2 ∧ F = 2 ∧ T = 2) ∨ (Q = 3 ∧ F = 2 ∧ T = 3) ∨ (Q = 4 ∧ F = 2 ∧ T = 4)) :
    Calls Tryd.prog 17 #[] w (fun e w' => ∃ r, e = .returned (.slice (some ⟨r, 0, none⟩) 5 5) ∧ w.heap.size ≤ r ∧ r < w'.heap.size ∧ w'.cell? ⟨r, Q * 2, none⟩ = some (.int .i64 F) ∧ w'.cell? ⟨r, Q * 2 + 1, none⟩ = some (.int .i64 T) ∧ Below w.heap.size w w') := by
  refine (changes_ret w).mono ?_
  rintro e w' ⟨rfl, rfl⟩
  refine ⟨_, rfl, Nat.le_refl _, by simp, ?_, ?_, by go_grown⟩
  all_goals rcases h with ⟨rfl, rfl, rfl⟩ | ⟨rfl, rfl, rfl⟩ | ⟨rfl, rfl, rfl⟩ | ⟨rfl, rfl, rfl⟩ | ⟨rfl, rfl, rfl⟩ <;> (rw [World.cell?_alloc_new]; rfl)
/-- The state in the region: what has been made is as it was made. -/
structure Reg (w W : World) (a b c d : Int) : Prop where
  hb : Below w.heap.size w W
  c0 : W.cell? ⟨w.heap.size, 0, none⟩ = some (.int .u16 a)
  c1 : W.cell? ⟨w.heap.size, 1, none⟩ = some (.int .u16 b)
  c2 : W.cell? ⟨w.heap.size, 2, none⟩ = some (.int .u16 c)
  c3 : W.cell? ⟨w.heap.size, 3, none⟩ = some (.int .u16 d)
  lt : w.heap.size < W.heap.size
theorem Reg.on {w W W' : World} {a b c d : Int} (h : Reg w W a b c d) (k : Below W.heap.size W W') : Reg w W' a b c d :=
  ⟨chain h.hb k, keep_cell k h.lt h.c0, keep_cell k h.lt h.c1, keep_cell k h.lt h.c2, keep_cell k h.lt h.c3, keep_lt k h.lt⟩
theorem Reg.set {w W : World} {a b c d : Int} (h : Reg w W a b c d) {x : Nat} (hx : w.heap.size < x) (j : Nat) (v : Value) : Reg w (W.setCell ⟨x, j, none⟩ v) a b c d :=
  ⟨Below.setCell h.hb (Nat.le_of_lt hx) v, cell_other h.c0 (by omega) v, cell_other h.c1 (by omega) v, cell_other h.c2 (by omega) v, cell_other h.c3 (by omega) v, by simpa using h.lt⟩
structure At (W : World) (r Q : Nat) (F T : Int) : Prop where
  lt : r < W.heap.size
  f : W.cell? ⟨r, Q * 2, none⟩ = some (.int .i64 F)
  t : W.cell? ⟨r, Q * 2 + 1, none⟩ = some (.int .i64 T)
theorem At.on {W W' : World} {r Q : Nat} {F T : Int} (h : At W r Q F T) (k : Below W.heap.size W W') : At W' r Q F T := ⟨keep_lt k h.lt, keep_cell k h.lt h.f, keep_cell k h.lt h.t⟩
theorem At.set {W : World} {r Q x : Nat} {F T : Int} (h : At W r Q F T) (hn : x ≠ r) (j : Nat) (v : Value) : At (W.setCell ⟨x, j, none⟩ v) r Q F T := ⟨by simpa using h.lt, cell_other h.f hn v, cell_other h.t hn v⟩
def AddIs (o l c r q f t : Int) (v : Value) (e : Int) : Prop := ∀ w, Ret 11 #[stV o l c r q, .int .i64 f, .int .i64 t] w (.tuple #[v, .int .i64 e])
/-- What the other functions say of the counts before and behind the change. -/
structure Good (o l c r q o' l' c' r' q' want ua ub : Int) : Prop where
  chk : ∀ w, Ret 13 #[stV o' l' c' r' q'] w (.int .i64 0)
  u : ∀ w, Ret 9 #[stV o l c r q] w (.tuple #[.int .i64 ua, .int .i64 0])
  v : ∀ w, Ret 9 #[stV o' l' c' r' q'] w (.tuple #[.int .i64 ub, .int .i64 0])
  a0 : 0 ≤ ua
  a1 : ua ≤ 10000
  b0 : 0 ≤ ub
  b1 : ub ≤ 10000
  d : (ub - ua == want) = true
  l0 : 0 ≤ l ∧ l ≤ 10000 ∧ 0 ≤ c ∧ c ≤ 10000 ∧ 0 ≤ r ∧ r ≤ 10000 ∧ 0 ≤ q ∧ q ≤ 10000
inductive Outs (o l c r q : Int) : Int → Int → Prop where
  | over (e : o = 10000) (a : AddIs o l c r q 0 1 (stV 0 0 0 0 0) 17) : Outs o l c r q 0 1
  | open_ (ua ub : Int) (e : (o == 10000) = false) (a : AddIs o l c r q 0 1 (stV (o + 1) (l + 1) c r q) 0) (g : Good o l c r q (o + 1) (l + 1) c r q 1 ua ub) : Outs o l c r q 0 1
  | no1 (e : l = 0) (a : AddIs o l c r q 1 2 (stV 0 0 0 0 0) 8) : Outs o l c r q 1 2
  | c12 (ua ub : Int) (e : (l == 0) = false) (a : AddIs o l c r q 1 2 (stV o (l - 1) (c + 1) r q) 0) (g : Good o l c r q o (l - 1) (c + 1) r q 0 ua ub) : Outs o l c r q 1 2
  | no22 (e : c = 0) (a : AddIs o l c r q 2 2 (stV 0 0 0 0 0) 8) : Outs o l c r q 2 2
  | no23 (e : c = 0) (a : AddIs o l c r q 2 3 (stV 0 0 0 0 0) 8) : Outs o l c r q 2 3
  | no24 (e : c = 0) (a : AddIs o l c r q 2 4 (stV 0 0 0 0 0) 8) : Outs o l c r q 2 4
  | c22 (ua ub : Int) (e : (c == 0) = false) (a : AddIs o l c r q 2 2 (stV o l c r q) 0) (g : Good o l c r q o l c r q 0 ua ub) : Outs o l c r q 2 2
  | c23 (ua ub : Int) (e : (c == 0) = false) (a : AddIs o l c r q 2 3 (stV o l (c - 1) (r + 1) q) 0) (g : Good o l c r q o l (c - 1) (r + 1) q (-1) ua ub) : Outs o l c r q 2 3
  | c24 (ua ub : Int) (e : (c == 0) = false) (a : AddIs o l c r q 2 4 (stV o l (c - 1) r (q + 1)) 0) (g : Good o l c r q o l (c - 1) r (q + 1) 0 ua ub) : Outs o l c r q 2 4
set_option maxHeartbeats 64000000 in
set_option maxRecDepth 20000 in
theorem once_any (a b c d h o l cl r q F T : Int) (Q : Nat) (w : World) (hE : Env w) (hh : Int.tmod h 5 = (Q : Int)) (hQ : Q < 5)
    (c1 : ∀ w, Ret 16 #[.agg #[.int .u16 a, .int .u16 b, .int .u16 c, .int .u16 d]] w (stV o l cl r q))
    (c2 : ∀ w, Calls Tryd.prog 17 #[] w (fun e w' => ∃ r, e = .returned (.slice (some ⟨r, 0, none⟩) 5 5) ∧ w.heap.size ≤ r ∧ r < w'.heap.size ∧ w'.cell? ⟨r, Q * 2, none⟩ = some (.int .i64 F) ∧ w'.cell? ⟨r, Q * 2 + 1, none⟩ = some (.int .i64 T) ∧ Below w.heap.size w w'))
    (hout : Outs o l cl r q F T) :
    Ret 4 #[.agg #[.int .u16 a, .int .u16 b, .int .u16 c, .int .u16 d], .int .u8 h] w (.bool true) := by
  have C1 := Lib.hid c1
  have C2 := Lib.hid c2
  clear c1 c2
  have hw0 : IntKind.u8.wrap (Q : Int) = Q := IntWalk.u8_in _ ⟨by omega, by omega⟩
  have hw1 : IntKind.i64.wrap (Q : Int) = Q := IntWalk.i64_in _ ⟨by omega, by omega⟩
  have hq5 : (Q : Int) < 5 := by omega
  go_enter Tryd.func4, Tryd.ntmps4
  go_wp2_with fail
  go_cut [5, 6] (fun s5 s6 wx => ∃ x y, s5 = .pointer (some ⟨x, 0, none⟩) ∧ s6 = .pointer (some ⟨y, 0, none⟩) ∧ w.heap.size < x ∧ w.heap.size < y ∧ x ≠ y ∧
      Row wx x #[.int .i64 o, .int .i64 l, .int .i64 cl, .int .i64 r, .int .i64 q] 23 ∧ Row wx y #[.int .i64 F, .int .i64 T] 40 ∧ Below w.heap.size w wx)
  case first =>
    refine wp_region_held_drew (S := fun W' => Reg w W' a b c d ∧ W'.cell? ⟨w.heap.size, 0, none⟩ = some (.int .u16 a) ∧ W'.cell? ⟨w.heap.size, 1, none⟩ = some (.int .u16 b) ∧ W'.cell? ⟨w.heap.size, 2, none⟩ = some (.int .u16 c) ∧ W'.cell? ⟨w.heap.size, 3, none⟩ = some (.int .u16 d)) (by kernel_rfl) ?_ (fun hHeld => ?_)
    · exact ⟨⟨by go_grown, by go_simp, by go_simp, by go_simp, by go_simp, by simp⟩, by go_simp, by go_simp, by go_simp, by go_simp⟩
    refine' wpAnyH_take (i := 0) (oi := _) (v := _) ?_ (by kernel_rfl) (by kernel_rfl) (by kernel_rfl) ?_ (Or.inl ⟨?_, ?_⟩) (by assumption) ?_
    rotate_left 2
    · (simp only [List.getElem?_toArray, List.getElem?_cons_succ, List.getElem?_cons_zero]; rfl)
    · exact fun _ _ _ h => h
    · rfl
    · (intro W hSW; (try dsimp only at hSW); go_split_ands; first | (go_simp; done) | (go_simp; with_reducible rfl))
    try simp only [Act.put, List.setIfInBounds_toArray, List.set_cons_zero, List.set_cons_succ]
    refine' wpAnyH_take (i := 3) (oi := _) (v := _) ?_ (by kernel_rfl) (by kernel_rfl) (by kernel_rfl) ?_ (Or.inl ⟨?_, ?_⟩) (by assumption) ?_
    rotate_left 2
    · (simp only [List.getElem?_toArray, List.getElem?_cons_succ, List.getElem?_cons_zero]; rfl)
    · exact fun _ _ _ h => h
    · rfl
    · (intro W hSW; (try dsimp only at hSW); go_split_ands; first | (go_simp; done) | (go_simp; with_reducible rfl))
    try simp only [Act.put, List.setIfInBounds_toArray, List.set_cons_zero, List.set_cons_succ]
    refine' wpAnyH_take (i := 4) (oi := _) (v := _) ?_ (by kernel_rfl) (by kernel_rfl) (by kernel_rfl) ?_ (Or.inl ⟨?_, ?_⟩) (by assumption) ?_
    rotate_left 2
    · (simp only [List.getElem?_toArray, List.getElem?_cons_succ, List.getElem?_cons_zero]; rfl)
    · exact fun _ _ _ h => h
    · rfl
    · (intro W hSW; (try dsimp only at hSW); go_split_ands; first | (go_simp; done) | (go_simp; with_reducible rfl))
    try simp only [Act.put, List.setIfInBounds_toArray, List.set_cons_zero, List.set_cons_succ]
    replace hHeld := hHeld.1
    generalize hW : (World.drew _) = W_0 at *
    clear hW
    refine wpAnyH_ready (rs := [1, 7, 8]) (by kernel_rfl) (by simp) ?_
    refine' AllReadyH.cons (o := _) (by simp only [List.getElem?_toArray, List.getElem?_cons_succ, List.getElem?_cons_zero]; rfl) (fun K hK => ?_) (AllReadyH.cons (o := _) (by simp only [List.getElem?_toArray, List.getElem?_cons_succ, List.getElem?_cons_zero]; rfl) (fun K hK => ?_) (AllReadyH.cons (o := _) (by simp only [List.getElem?_toArray, List.getElem?_cons_succ, List.getElem?_cons_zero]; rfl) (fun K hK => ?_) AllReadyH.nil))
    · go_simp
      refine (C1.out _).mono ?_
      rintro e W_1 ⟨rfl, hb⟩
      replace hHeld := hHeld.on hb
      clear hb
      try go_simp
      refine hK.out _ _ ⟨hHeld, (hHeld).c0, (hHeld).c1, (hHeld).c2, (hHeld).c3⟩ (fun _ => ?_)
      clear hK K
      refine wpAnyH_ready (rs := [2, 7, 8]) (by kernel_rfl) (by simp) ?_
      refine' AllReadyH.cons (o := _) (by simp only [List.getElem?_toArray, List.getElem?_cons_succ, List.getElem?_cons_zero]; rfl) (fun K hK => ?_) (AllReadyH.cons (o := _) (by simp only [List.getElem?_toArray, List.getElem?_cons_succ, List.getElem?_cons_zero]; rfl) (fun K hK => ?_) (AllReadyH.cons (o := _) (by simp only [List.getElem?_toArray, List.getElem?_cons_succ, List.getElem?_cons_zero]; rfl) (fun K hK => ?_) AllReadyH.nil))
      · go_simp
        refine (C2.out _).mono ?_
        rintro e W_12 ⟨rr, rfl, hr0, hr1, hr2, hr3, hb⟩
        have hR : At W_12 rr Q F T := ⟨hr1, hr2, hr3⟩
        replace hHeld := hHeld.on hb
        clear hb
        try go_simp
        refine hK.out _ _ ⟨hHeld, (hHeld).c0, (hHeld).c1, (hHeld).c2, (hHeld).c3⟩ (fun _ => ?_)
        clear hK K
        refine wpAnyH_more (S' := fun W' => (Reg w W' a b c d ∧ W'.cell? ⟨w.heap.size, 0, none⟩ = some (.int .u16 a) ∧ W'.cell? ⟨w.heap.size, 1, none⟩ = some (.int .u16 b) ∧ W'.cell? ⟨w.heap.size, 2, none⟩ = some (.int .u16 c) ∧ W'.cell? ⟨w.heap.size, 3, none⟩ = some (.int .u16 d)) ∧ W'.cell? ⟨rr, Q * 2, none⟩ = some (.int .i64 F) ∧ W'.cell? ⟨rr, Q * 2 + 1, none⟩ = some (.int .i64 T)) (fun _ h => h.1) ⟨⟨hHeld, (hHeld).c0, (hHeld).c1, (hHeld).c2, (hHeld).c3⟩, hR.f, hR.t⟩ (fun hHeld2 => ?_)
        refine' wpAnyH_take (i := 5) (oi := _) (v := _) ?_ (by kernel_rfl) (by kernel_rfl) (by kernel_rfl) ?_ (Or.inl ⟨?_, ?_⟩) (by assumption) ?_
        rotate_left 2
        · (simp only [List.getElem?_toArray, List.getElem?_cons_succ, List.getElem?_cons_zero]; rfl)
        · exact fun _ _ _ h => h
        · rfl
        · (intro W hSW; (try dsimp only at hSW); go_split_ands; first | (go_simp; done) | (go_simp; with_reducible rfl))
        try simp only [Act.put, List.setIfInBounds_toArray, List.set_cons_zero, List.set_cons_succ]
        refine' wpAnyH_take (i := 6) (oi := _) (v := _) ?_ (by kernel_rfl) (by kernel_rfl) (by kernel_rfl) ?_ (Or.inl ⟨?_, ?_⟩) (by assumption) ?_
        rotate_left 2
        · (simp only [List.getElem?_toArray, List.getElem?_cons_succ, List.getElem?_cons_zero]; rfl)
        · exact fun _ _ _ h => h
        · rfl
        · (intro W hSW; (try dsimp only at hSW); go_split_ands; first | (go_simp; done) | (go_simp; with_reducible rfl))
        try simp only [Act.put, List.setIfInBounds_toArray, List.set_cons_zero, List.set_cons_succ]
        clear hr0 hr1 hr2 hr3
        refine wpAnyH_ready (rs := [7, 8]) (by kernel_rfl) (by simp) ?_
        refine' AllReadyH.cons (o := _) (by simp only [List.getElem?_toArray, List.getElem?_cons_succ, List.getElem?_cons_zero]; rfl) (fun K hK => ?_) (AllReadyH.cons (o := _) (by simp only [List.getElem?_toArray, List.getElem?_cons_succ, List.getElem?_cons_zero]; rfl) (fun K hK => ?_) AllReadyH.nil)
        · go_simp
          have hb := below_alloc W_12 (.cells #[.int .i64 0, .int .i64 0, .int .i64 0, .int .i64 0, .int .i64 0] 23)
          have hX : Row (W_12.alloc (.cells #[.int .i64 0, .int .i64 0, .int .i64 0, .int .i64 0, .int .i64 0] 23)) W_12.heap.size #[.int .i64 0, .int .i64 0, .int .i64 0, .int .i64 0, .int .i64 0] 23 := Row.new
          have hx := hHeld.lt
          have hrx := hR.lt
          replace hHeld := hHeld.on hb
          replace hR := hR.on hb
          clear hb
          generalize hW : W_12.alloc _ = W_127 at *
          clear hW
          generalize W_12.heap.size = xx at hX hx hrx ⊢
          refine hK.out _ _ ⟨⟨hHeld, (hHeld).c0, (hHeld).c1, (hHeld).c2, (hHeld).c3⟩, hR.f, hR.t⟩ (fun _ => ?_)
          clear hK K
          refine wpAnyH_ready (rs := [8]) (by kernel_rfl) (by simp) ?_
          refine' AllReadyH.cons (o := _) (by simp only [List.getElem?_toArray, List.getElem?_cons_succ, List.getElem?_cons_zero]; rfl) (fun K hK => ?_) AllReadyH.nil
          · go_simp
            have hb := below_alloc W_127 (.cells #[.int .i64 0, .int .i64 0] 40)
            have hY : Row (W_127.alloc (.cells #[.int .i64 0, .int .i64 0] 40)) W_127.heap.size #[.int .i64 0, .int .i64 0] 40 := Row.new
            have hy := hHeld.lt
            have hxy := Row.lt hX
            have hry := hR.lt
            replace hHeld := hHeld.on hb
            replace hX := hX.on hb
            replace hR := hR.on hb
            clear hb
            generalize hW : W_127.alloc _ = W_1278 at *
            clear hW
            generalize W_127.heap.size = yy at hY hy hxy hry ⊢
            refine hK.out _ _ ⟨⟨hHeld, (hHeld).c0, (hHeld).c1, (hHeld).c2, (hHeld).c3⟩, hR.f, hR.t⟩ (fun _ => ?_)
            clear hK K
            have lx := hX.lt
            have ly := hY.lt
            have nx : xx ≠ w.heap.size := by omega
            have ny : yy ≠ w.heap.size := by omega
            have nr : xx ≠ rr := by omega
            have nr2 : yy ≠ rr := by omega
            have nxy : xx ≠ yy := by omega
            have q0 : W_1278.cell? ⟨xx, 0, none⟩ = some (.int .i64 0) := hX.cell 0
            have q1 : W_1278.cell? ⟨xx, 1, none⟩ = some (.int .i64 0) := hX.cell 1
            have q2 : W_1278.cell? ⟨xx, 2, none⟩ = some (.int .i64 0) := hX.cell 2
            have q3 : W_1278.cell? ⟨xx, 3, none⟩ = some (.int .i64 0) := hX.cell 3
            have q4 : W_1278.cell? ⟨xx, 4, none⟩ = some (.int .i64 0) := hX.cell 4
            have p0 : W_1278.cell? ⟨yy, 0, none⟩ = some (.int .i64 0) := hY.cell 0
            have p1 : W_1278.cell? ⟨yy, 1, none⟩ = some (.int .i64 0) := hY.cell 1
            have gq : ∀ j, W_1278.frozen? ⟨xx, j, none⟩ = false := hX.free
            have gp : ∀ j, W_1278.frozen? ⟨yy, j, none⟩ = false := hY.free
            clear hxy hrx hry
            refine wpAnyH_ready (rs := [9]) (by kernel_rfl) (by simp) ?_
            refine' AllReadyH.cons (o := _) ?_ (fun K hK => ?_) AllReadyH.nil
            rotate_left 1
            · (simp only [List.getElem?_toArray, List.getElem?_cons_succ, List.getElem?_cons_zero]; rfl)
            go_simp
            replace hHeld := ((((hHeld.set hx 0 (.int .i64 o)).set hx 1 (.int .i64 l)).set hx 2 (.int .i64 cl)).set hx 3 (.int .i64 r)).set hx 4 (.int .i64 q)
            replace hR := ((((hR.set nr 0 (.int .i64 o)).set nr 1 (.int .i64 l)).set nr 2 (.int .i64 cl)).set nr 3 (.int .i64 r)).set nr 4 (.int .i64 q)
            replace hX := ((((hX.set 0 (.int .i64 o)).set 1 (.int .i64 l)).set 2 (.int .i64 cl)).set 3 (.int .i64 r)).set 4 (.int .i64 q)
            replace hY := ((((hY.other nxy 0 (.int .i64 o)).other nxy 1 (.int .i64 l)).other nxy 2 (.int .i64 cl)).other nxy 3 (.int .i64 r)).other nxy 4 (.int .i64 q)
            generalize hW : World.setCell _ _ _ = V at *
            clear hW
            refine hK.out _ _ ⟨⟨hHeld, (hHeld).c0, (hHeld).c1, (hHeld).c2, (hHeld).c3⟩, hR.f, hR.t⟩ (fun _ => ?_)
            clear hK K q0 q1 q2 q3 q4 gq p0 p1 gp
            have p0 : V.cell? ⟨yy, 0, none⟩ = some (.int .i64 0) := hY.cell 0
            have p1 : V.cell? ⟨yy, 1, none⟩ = some (.int .i64 0) := hY.cell 1
            have gp : ∀ j, V.frozen? ⟨yy, j, none⟩ = false := hY.free
            refine wpAnyH_ready (rs := [10]) (by kernel_rfl) (by simp) ?_
            refine' AllReadyH.cons (o := _) ?_ (fun K hK => ?_) AllReadyH.nil
            rotate_left 1
            · (simp only [List.getElem?_toArray, List.getElem?_cons_succ, List.getElem?_cons_zero]; rfl)
            go_simp
            replace hHeld := (hHeld.set hy 0 (.int .i64 F)).set hy 1 (.int .i64 T)
            replace hR := (hR.set nr2 0 (.int .i64 F)).set nr2 1 (.int .i64 T)
            replace hX := (hX.other nxy.symm 0 (.int .i64 F)).other nxy.symm 1 (.int .i64 T)
            replace hY := (hY.set 0 (.int .i64 F)).set 1 (.int .i64 T)
            refine hK.out _ _ ⟨⟨hHeld, (hHeld).c0, (hHeld).c1, (hHeld).c2, (hHeld).c3⟩, hR.f, hR.t⟩ (fun _ => ?_)
            clear hK K p0 p1 gp
            refine wpAnyH_done (by kernel_rfl) ?_ _
            go_wp2_with fail
            go_meet
            exact ⟨_, _, rfl, rfl, hx, hy, nxy, hX, hY, hHeld.hb⟩
        · go_simp
          have hb := below_alloc W_12 (.cells #[.int .i64 0, .int .i64 0] 40)
          have hY : Row (W_12.alloc (.cells #[.int .i64 0, .int .i64 0] 40)) W_12.heap.size #[.int .i64 0, .int .i64 0] 40 := Row.new
          have hy := hHeld.lt
          have hry := hR.lt
          replace hHeld := hHeld.on hb
          replace hR := hR.on hb
          clear hb
          generalize hW : W_12.alloc _ = W_128 at *
          clear hW
          generalize W_12.heap.size = yy at hY hy hry ⊢
          refine hK.out _ _ ⟨⟨hHeld, (hHeld).c0, (hHeld).c1, (hHeld).c2, (hHeld).c3⟩, hR.f, hR.t⟩ (fun _ => ?_)
          clear hK K
          refine wpAnyH_ready (rs := [7]) (by kernel_rfl) (by simp) ?_
          refine' AllReadyH.cons (o := _) (by simp only [List.getElem?_toArray, List.getElem?_cons_succ, List.getElem?_cons_zero]; rfl) (fun K hK => ?_) AllReadyH.nil
          · go_simp
            have hb := below_alloc W_128 (.cells #[.int .i64 0, .int .i64 0, .int .i64 0, .int .i64 0, .int .i64 0] 23)
            have hX : Row (W_128.alloc (.cells #[.int .i64 0, .int .i64 0, .int .i64 0, .int .i64 0, .int .i64 0] 23)) W_128.heap.size #[.int .i64 0, .int .i64 0, .int .i64 0, .int .i64 0, .int .i64 0] 23 := Row.new
            have hx := hHeld.lt
            have hxy := Row.lt hY
            have hrx := hR.lt
            replace hHeld := hHeld.on hb
            replace hY := hY.on hb
            replace hR := hR.on hb
            clear hb
            generalize hW : W_128.alloc _ = W_1287 at *
            clear hW
            generalize W_128.heap.size = xx at hX hx hxy hrx ⊢
            refine hK.out _ _ ⟨⟨hHeld, (hHeld).c0, (hHeld).c1, (hHeld).c2, (hHeld).c3⟩, hR.f, hR.t⟩ (fun _ => ?_)
            clear hK K
            have lx := hX.lt
            have ly := hY.lt
            have nx : xx ≠ w.heap.size := by omega
            have ny : yy ≠ w.heap.size := by omega
            have nr : xx ≠ rr := by omega
            have nr2 : yy ≠ rr := by omega
            have nxy : xx ≠ yy := by omega
            have q0 : W_1287.cell? ⟨xx, 0, none⟩ = some (.int .i64 0) := hX.cell 0
            have q1 : W_1287.cell? ⟨xx, 1, none⟩ = some (.int .i64 0) := hX.cell 1
            have q2 : W_1287.cell? ⟨xx, 2, none⟩ = some (.int .i64 0) := hX.cell 2
            have q3 : W_1287.cell? ⟨xx, 3, none⟩ = some (.int .i64 0) := hX.cell 3
            have q4 : W_1287.cell? ⟨xx, 4, none⟩ = some (.int .i64 0) := hX.cell 4
            have p0 : W_1287.cell? ⟨yy, 0, none⟩ = some (.int .i64 0) := hY.cell 0
            have p1 : W_1287.cell? ⟨yy, 1, none⟩ = some (.int .i64 0) := hY.cell 1
            have gq : ∀ j, W_1287.frozen? ⟨xx, j, none⟩ = false := hX.free
            have gp : ∀ j, W_1287.frozen? ⟨yy, j, none⟩ = false := hY.free
            clear hxy hrx hry
            refine wpAnyH_ready (rs := [9]) (by kernel_rfl) (by simp) ?_
            refine' AllReadyH.cons (o := _) ?_ (fun K hK => ?_) AllReadyH.nil
            rotate_left 1
            · (simp only [List.getElem?_toArray, List.getElem?_cons_succ, List.getElem?_cons_zero]; rfl)
            go_simp
            replace hHeld := ((((hHeld.set hx 0 (.int .i64 o)).set hx 1 (.int .i64 l)).set hx 2 (.int .i64 cl)).set hx 3 (.int .i64 r)).set hx 4 (.int .i64 q)
            replace hR := ((((hR.set nr 0 (.int .i64 o)).set nr 1 (.int .i64 l)).set nr 2 (.int .i64 cl)).set nr 3 (.int .i64 r)).set nr 4 (.int .i64 q)
            replace hX := ((((hX.set 0 (.int .i64 o)).set 1 (.int .i64 l)).set 2 (.int .i64 cl)).set 3 (.int .i64 r)).set 4 (.int .i64 q)
            replace hY := ((((hY.other nxy 0 (.int .i64 o)).other nxy 1 (.int .i64 l)).other nxy 2 (.int .i64 cl)).other nxy 3 (.int .i64 r)).other nxy 4 (.int .i64 q)
            generalize hW : World.setCell _ _ _ = V at *
            clear hW
            refine hK.out _ _ ⟨⟨hHeld, (hHeld).c0, (hHeld).c1, (hHeld).c2, (hHeld).c3⟩, hR.f, hR.t⟩ (fun _ => ?_)
            clear hK K q0 q1 q2 q3 q4 gq p0 p1 gp
            have p0 : V.cell? ⟨yy, 0, none⟩ = some (.int .i64 0) := hY.cell 0
            have p1 : V.cell? ⟨yy, 1, none⟩ = some (.int .i64 0) := hY.cell 1
            have gp : ∀ j, V.frozen? ⟨yy, j, none⟩ = false := hY.free
            refine wpAnyH_ready (rs := [10]) (by kernel_rfl) (by simp) ?_
            refine' AllReadyH.cons (o := _) ?_ (fun K hK => ?_) AllReadyH.nil
            rotate_left 1
            · (simp only [List.getElem?_toArray, List.getElem?_cons_succ, List.getElem?_cons_zero]; rfl)
            go_simp
            replace hHeld := (hHeld.set hy 0 (.int .i64 F)).set hy 1 (.int .i64 T)
            replace hR := (hR.set nr2 0 (.int .i64 F)).set nr2 1 (.int .i64 T)
            replace hX := (hX.other nxy.symm 0 (.int .i64 F)).other nxy.symm 1 (.int .i64 T)
            replace hY := (hY.set 0 (.int .i64 F)).set 1 (.int .i64 T)
            refine hK.out _ _ ⟨⟨hHeld, (hHeld).c0, (hHeld).c1, (hHeld).c2, (hHeld).c3⟩, hR.f, hR.t⟩ (fun _ => ?_)
            clear hK K p0 p1 gp
            refine wpAnyH_done (by kernel_rfl) ?_ _
            go_wp2_with fail
            go_meet
            exact ⟨_, _, rfl, rfl, hx, hy, nxy, hX, hY, hHeld.hb⟩
      · go_simp
        have hb := below_alloc W_1 (.cells #[.int .i64 0, .int .i64 0, .int .i64 0, .int .i64 0, .int .i64 0] 23)
        have hX : Row (W_1.alloc (.cells #[.int .i64 0, .int .i64 0, .int .i64 0, .int .i64 0, .int .i64 0] 23)) W_1.heap.size #[.int .i64 0, .int .i64 0, .int .i64 0, .int .i64 0, .int .i64 0] 23 := Row.new
        have hx := hHeld.lt
        replace hHeld := hHeld.on hb
        clear hb
        generalize hW : W_1.alloc _ = W_17 at *
        clear hW
        generalize W_1.heap.size = xx at hX hx ⊢
        refine hK.out _ _ ⟨hHeld, (hHeld).c0, (hHeld).c1, (hHeld).c2, (hHeld).c3⟩ (fun _ => ?_)
        clear hK K
        refine wpAnyH_ready (rs := [2, 8]) (by kernel_rfl) (by simp) ?_
        refine' AllReadyH.cons (o := _) (by simp only [List.getElem?_toArray, List.getElem?_cons_succ, List.getElem?_cons_zero]; rfl) (fun K hK => ?_) (AllReadyH.cons (o := _) (by simp only [List.getElem?_toArray, List.getElem?_cons_succ, List.getElem?_cons_zero]; rfl) (fun K hK => ?_) AllReadyH.nil)
        · go_simp
          refine (C2.out _).mono ?_
          rintro e W_172 ⟨rr, rfl, hr0, hr1, hr2, hr3, hb⟩
          have hR : At W_172 rr Q F T := ⟨hr1, hr2, hr3⟩
          have hrx : xx < rr := Nat.lt_of_lt_of_le hX.lt hr0
          replace hHeld := hHeld.on hb
          replace hX := hX.on hb
          clear hb
          try go_simp
          refine hK.out _ _ ⟨hHeld, (hHeld).c0, (hHeld).c1, (hHeld).c2, (hHeld).c3⟩ (fun _ => ?_)
          clear hK K
          refine wpAnyH_more (S' := fun W' => (Reg w W' a b c d ∧ W'.cell? ⟨w.heap.size, 0, none⟩ = some (.int .u16 a) ∧ W'.cell? ⟨w.heap.size, 1, none⟩ = some (.int .u16 b) ∧ W'.cell? ⟨w.heap.size, 2, none⟩ = some (.int .u16 c) ∧ W'.cell? ⟨w.heap.size, 3, none⟩ = some (.int .u16 d)) ∧ W'.cell? ⟨rr, Q * 2, none⟩ = some (.int .i64 F) ∧ W'.cell? ⟨rr, Q * 2 + 1, none⟩ = some (.int .i64 T)) (fun _ h => h.1) ⟨⟨hHeld, (hHeld).c0, (hHeld).c1, (hHeld).c2, (hHeld).c3⟩, hR.f, hR.t⟩ (fun hHeld2 => ?_)
          refine' wpAnyH_take (i := 5) (oi := _) (v := _) ?_ (by kernel_rfl) (by kernel_rfl) (by kernel_rfl) ?_ (Or.inl ⟨?_, ?_⟩) (by assumption) ?_
          rotate_left 2
          · (simp only [List.getElem?_toArray, List.getElem?_cons_succ, List.getElem?_cons_zero]; rfl)
          · exact fun _ _ _ h => h
          · rfl
          · (intro W hSW; (try dsimp only at hSW); go_split_ands; first | (go_simp; done) | (go_simp; with_reducible rfl))
          try simp only [Act.put, List.setIfInBounds_toArray, List.set_cons_zero, List.set_cons_succ]
          refine' wpAnyH_take (i := 6) (oi := _) (v := _) ?_ (by kernel_rfl) (by kernel_rfl) (by kernel_rfl) ?_ (Or.inl ⟨?_, ?_⟩) (by assumption) ?_
          rotate_left 2
          · (simp only [List.getElem?_toArray, List.getElem?_cons_succ, List.getElem?_cons_zero]; rfl)
          · exact fun _ _ _ h => h
          · rfl
          · (intro W hSW; (try dsimp only at hSW); go_split_ands; first | (go_simp; done) | (go_simp; with_reducible rfl))
          try simp only [Act.put, List.setIfInBounds_toArray, List.set_cons_zero, List.set_cons_succ]
          clear hr0 hr1 hr2 hr3
          refine wpAnyH_ready (rs := [8]) (by kernel_rfl) (by simp) ?_
          refine' AllReadyH.cons (o := _) (by simp only [List.getElem?_toArray, List.getElem?_cons_succ, List.getElem?_cons_zero]; rfl) (fun K hK => ?_) AllReadyH.nil
          · go_simp
            have hb := below_alloc W_172 (.cells #[.int .i64 0, .int .i64 0] 40)
            have hY : Row (W_172.alloc (.cells #[.int .i64 0, .int .i64 0] 40)) W_172.heap.size #[.int .i64 0, .int .i64 0] 40 := Row.new
            have hy := hHeld.lt
            have hxy := Row.lt hX
            have hry := hR.lt
            replace hHeld := hHeld.on hb
            replace hX := hX.on hb
            replace hR := hR.on hb
            clear hb
            generalize hW : W_172.alloc _ = W_1728 at *
            clear hW
            generalize W_172.heap.size = yy at hY hy hxy hry ⊢
            refine hK.out _ _ ⟨⟨hHeld, (hHeld).c0, (hHeld).c1, (hHeld).c2, (hHeld).c3⟩, hR.f, hR.t⟩ (fun _ => ?_)
            clear hK K
            have lx := hX.lt
            have ly := hY.lt
            have nx : xx ≠ w.heap.size := by omega
            have ny : yy ≠ w.heap.size := by omega
            have nr : xx ≠ rr := by omega
            have nr2 : yy ≠ rr := by omega
            have nxy : xx ≠ yy := by omega
            have q0 : W_1728.cell? ⟨xx, 0, none⟩ = some (.int .i64 0) := hX.cell 0
            have q1 : W_1728.cell? ⟨xx, 1, none⟩ = some (.int .i64 0) := hX.cell 1
            have q2 : W_1728.cell? ⟨xx, 2, none⟩ = some (.int .i64 0) := hX.cell 2
            have q3 : W_1728.cell? ⟨xx, 3, none⟩ = some (.int .i64 0) := hX.cell 3
            have q4 : W_1728.cell? ⟨xx, 4, none⟩ = some (.int .i64 0) := hX.cell 4
            have p0 : W_1728.cell? ⟨yy, 0, none⟩ = some (.int .i64 0) := hY.cell 0
            have p1 : W_1728.cell? ⟨yy, 1, none⟩ = some (.int .i64 0) := hY.cell 1
            have gq : ∀ j, W_1728.frozen? ⟨xx, j, none⟩ = false := hX.free
            have gp : ∀ j, W_1728.frozen? ⟨yy, j, none⟩ = false := hY.free
            clear hxy hrx hry
            refine wpAnyH_ready (rs := [9]) (by kernel_rfl) (by simp) ?_
            refine' AllReadyH.cons (o := _) ?_ (fun K hK => ?_) AllReadyH.nil
            rotate_left 1
            · (simp only [List.getElem?_toArray, List.getElem?_cons_succ, List.getElem?_cons_zero]; rfl)
            go_simp
            replace hHeld := ((((hHeld.set hx 0 (.int .i64 o)).set hx 1 (.int .i64 l)).set hx 2 (.int .i64 cl)).set hx 3 (.int .i64 r)).set hx 4 (.int .i64 q)
            replace hR := ((((hR.set nr 0 (.int .i64 o)).set nr 1 (.int .i64 l)).set nr 2 (.int .i64 cl)).set nr 3 (.int .i64 r)).set nr 4 (.int .i64 q)
            replace hX := ((((hX.set 0 (.int .i64 o)).set 1 (.int .i64 l)).set 2 (.int .i64 cl)).set 3 (.int .i64 r)).set 4 (.int .i64 q)
            replace hY := ((((hY.other nxy 0 (.int .i64 o)).other nxy 1 (.int .i64 l)).other nxy 2 (.int .i64 cl)).other nxy 3 (.int .i64 r)).other nxy 4 (.int .i64 q)
            generalize hW : World.setCell _ _ _ = V at *
            clear hW
            refine hK.out _ _ ⟨⟨hHeld, (hHeld).c0, (hHeld).c1, (hHeld).c2, (hHeld).c3⟩, hR.f, hR.t⟩ (fun _ => ?_)
            clear hK K q0 q1 q2 q3 q4 gq p0 p1 gp
            have p0 : V.cell? ⟨yy, 0, none⟩ = some (.int .i64 0) := hY.cell 0
            have p1 : V.cell? ⟨yy, 1, none⟩ = some (.int .i64 0) := hY.cell 1
            have gp : ∀ j, V.frozen? ⟨yy, j, none⟩ = false := hY.free
            refine wpAnyH_ready (rs := [10]) (by kernel_rfl) (by simp) ?_
            refine' AllReadyH.cons (o := _) ?_ (fun K hK => ?_) AllReadyH.nil
            rotate_left 1
            · (simp only [List.getElem?_toArray, List.getElem?_cons_succ, List.getElem?_cons_zero]; rfl)
            go_simp
            replace hHeld := (hHeld.set hy 0 (.int .i64 F)).set hy 1 (.int .i64 T)
            replace hR := (hR.set nr2 0 (.int .i64 F)).set nr2 1 (.int .i64 T)
            replace hX := (hX.other nxy.symm 0 (.int .i64 F)).other nxy.symm 1 (.int .i64 T)
            replace hY := (hY.set 0 (.int .i64 F)).set 1 (.int .i64 T)
            refine hK.out _ _ ⟨⟨hHeld, (hHeld).c0, (hHeld).c1, (hHeld).c2, (hHeld).c3⟩, hR.f, hR.t⟩ (fun _ => ?_)
            clear hK K p0 p1 gp
            refine wpAnyH_done (by kernel_rfl) ?_ _
            go_wp2_with fail
            go_meet
            exact ⟨_, _, rfl, rfl, hx, hy, nxy, hX, hY, hHeld.hb⟩
        · go_simp
          have hb := below_alloc W_17 (.cells #[.int .i64 0, .int .i64 0] 40)
          have hY : Row (W_17.alloc (.cells #[.int .i64 0, .int .i64 0] 40)) W_17.heap.size #[.int .i64 0, .int .i64 0] 40 := Row.new
          have hy := hHeld.lt
          have hxy := Row.lt hX
          replace hHeld := hHeld.on hb
          replace hX := hX.on hb
          clear hb
          generalize hW : W_17.alloc _ = W_178 at *
          clear hW
          generalize W_17.heap.size = yy at hY hy hxy ⊢
          refine hK.out _ _ ⟨hHeld, (hHeld).c0, (hHeld).c1, (hHeld).c2, (hHeld).c3⟩ (fun _ => ?_)
          clear hK K
          refine wpAnyH_ready (rs := [2]) (by kernel_rfl) (by simp) ?_
          refine' AllReadyH.cons (o := _) (by simp only [List.getElem?_toArray, List.getElem?_cons_succ, List.getElem?_cons_zero]; rfl) (fun K hK => ?_) AllReadyH.nil
          · go_simp
            refine (C2.out _).mono ?_
            rintro e W_1782 ⟨rr, rfl, hr0, hr1, hr2, hr3, hb⟩
            have hR : At W_1782 rr Q F T := ⟨hr1, hr2, hr3⟩
            have hrx : xx < rr := Nat.lt_of_lt_of_le hX.lt hr0
            have hry : yy < rr := Nat.lt_of_lt_of_le hY.lt hr0
            replace hHeld := hHeld.on hb
            replace hX := hX.on hb
            replace hY := hY.on hb
            clear hb
            try go_simp
            refine hK.out _ _ ⟨hHeld, (hHeld).c0, (hHeld).c1, (hHeld).c2, (hHeld).c3⟩ (fun _ => ?_)
            clear hK K
            refine wpAnyH_more (S' := fun W' => (Reg w W' a b c d ∧ W'.cell? ⟨w.heap.size, 0, none⟩ = some (.int .u16 a) ∧ W'.cell? ⟨w.heap.size, 1, none⟩ = some (.int .u16 b) ∧ W'.cell? ⟨w.heap.size, 2, none⟩ = some (.int .u16 c) ∧ W'.cell? ⟨w.heap.size, 3, none⟩ = some (.int .u16 d)) ∧ W'.cell? ⟨rr, Q * 2, none⟩ = some (.int .i64 F) ∧ W'.cell? ⟨rr, Q * 2 + 1, none⟩ = some (.int .i64 T)) (fun _ h => h.1) ⟨⟨hHeld, (hHeld).c0, (hHeld).c1, (hHeld).c2, (hHeld).c3⟩, hR.f, hR.t⟩ (fun hHeld2 => ?_)
            refine' wpAnyH_take (i := 5) (oi := _) (v := _) ?_ (by kernel_rfl) (by kernel_rfl) (by kernel_rfl) ?_ (Or.inl ⟨?_, ?_⟩) (by assumption) ?_
            rotate_left 2
            · (simp only [List.getElem?_toArray, List.getElem?_cons_succ, List.getElem?_cons_zero]; rfl)
            · exact fun _ _ _ h => h
            · rfl
            · (intro W hSW; (try dsimp only at hSW); go_split_ands; first | (go_simp; done) | (go_simp; with_reducible rfl))
            try simp only [Act.put, List.setIfInBounds_toArray, List.set_cons_zero, List.set_cons_succ]
            refine' wpAnyH_take (i := 6) (oi := _) (v := _) ?_ (by kernel_rfl) (by kernel_rfl) (by kernel_rfl) ?_ (Or.inl ⟨?_, ?_⟩) (by assumption) ?_
            rotate_left 2
            · (simp only [List.getElem?_toArray, List.getElem?_cons_succ, List.getElem?_cons_zero]; rfl)
            · exact fun _ _ _ h => h
            · rfl
            · (intro W hSW; (try dsimp only at hSW); go_split_ands; first | (go_simp; done) | (go_simp; with_reducible rfl))
            try simp only [Act.put, List.setIfInBounds_toArray, List.set_cons_zero, List.set_cons_succ]
            clear hr0 hr1 hr2 hr3
            have lx := hX.lt
            have ly := hY.lt
            have nx : xx ≠ w.heap.size := by omega
            have ny : yy ≠ w.heap.size := by omega
            have nr : xx ≠ rr := by omega
            have nr2 : yy ≠ rr := by omega
            have nxy : xx ≠ yy := by omega
            have q0 : W_1782.cell? ⟨xx, 0, none⟩ = some (.int .i64 0) := hX.cell 0
            have q1 : W_1782.cell? ⟨xx, 1, none⟩ = some (.int .i64 0) := hX.cell 1
            have q2 : W_1782.cell? ⟨xx, 2, none⟩ = some (.int .i64 0) := hX.cell 2
            have q3 : W_1782.cell? ⟨xx, 3, none⟩ = some (.int .i64 0) := hX.cell 3
            have q4 : W_1782.cell? ⟨xx, 4, none⟩ = some (.int .i64 0) := hX.cell 4
            have p0 : W_1782.cell? ⟨yy, 0, none⟩ = some (.int .i64 0) := hY.cell 0
            have p1 : W_1782.cell? ⟨yy, 1, none⟩ = some (.int .i64 0) := hY.cell 1
            have gq : ∀ j, W_1782.frozen? ⟨xx, j, none⟩ = false := hX.free
            have gp : ∀ j, W_1782.frozen? ⟨yy, j, none⟩ = false := hY.free
            clear hxy hrx hry
            refine wpAnyH_ready (rs := [9]) (by kernel_rfl) (by simp) ?_
            refine' AllReadyH.cons (o := _) ?_ (fun K hK => ?_) AllReadyH.nil
            rotate_left 1
            · (simp only [List.getElem?_toArray, List.getElem?_cons_succ, List.getElem?_cons_zero]; rfl)
            go_simp
            replace hHeld := ((((hHeld.set hx 0 (.int .i64 o)).set hx 1 (.int .i64 l)).set hx 2 (.int .i64 cl)).set hx 3 (.int .i64 r)).set hx 4 (.int .i64 q)
            replace hR := ((((hR.set nr 0 (.int .i64 o)).set nr 1 (.int .i64 l)).set nr 2 (.int .i64 cl)).set nr 3 (.int .i64 r)).set nr 4 (.int .i64 q)
            replace hX := ((((hX.set 0 (.int .i64 o)).set 1 (.int .i64 l)).set 2 (.int .i64 cl)).set 3 (.int .i64 r)).set 4 (.int .i64 q)
            replace hY := ((((hY.other nxy 0 (.int .i64 o)).other nxy 1 (.int .i64 l)).other nxy 2 (.int .i64 cl)).other nxy 3 (.int .i64 r)).other nxy 4 (.int .i64 q)
            generalize hW : World.setCell _ _ _ = V at *
            clear hW
            refine hK.out _ _ ⟨⟨hHeld, (hHeld).c0, (hHeld).c1, (hHeld).c2, (hHeld).c3⟩, hR.f, hR.t⟩ (fun _ => ?_)
            clear hK K q0 q1 q2 q3 q4 gq p0 p1 gp
            have p0 : V.cell? ⟨yy, 0, none⟩ = some (.int .i64 0) := hY.cell 0
            have p1 : V.cell? ⟨yy, 1, none⟩ = some (.int .i64 0) := hY.cell 1
            have gp : ∀ j, V.frozen? ⟨yy, j, none⟩ = false := hY.free
            refine wpAnyH_ready (rs := [10]) (by kernel_rfl) (by simp) ?_
            refine' AllReadyH.cons (o := _) ?_ (fun K hK => ?_) AllReadyH.nil
            rotate_left 1
            · (simp only [List.getElem?_toArray, List.getElem?_cons_succ, List.getElem?_cons_zero]; rfl)
            go_simp
            replace hHeld := (hHeld.set hy 0 (.int .i64 F)).set hy 1 (.int .i64 T)
            replace hR := (hR.set nr2 0 (.int .i64 F)).set nr2 1 (.int .i64 T)
            replace hX := (hX.other nxy.symm 0 (.int .i64 F)).other nxy.symm 1 (.int .i64 T)
            replace hY := (hY.set 0 (.int .i64 F)).set 1 (.int .i64 T)
            refine hK.out _ _ ⟨⟨hHeld, (hHeld).c0, (hHeld).c1, (hHeld).c2, (hHeld).c3⟩, hR.f, hR.t⟩ (fun _ => ?_)
            clear hK K p0 p1 gp
            refine wpAnyH_done (by kernel_rfl) ?_ _
            go_wp2_with fail
            go_meet
            exact ⟨_, _, rfl, rfl, hx, hy, nxy, hX, hY, hHeld.hb⟩
      · go_simp
        have hb := below_alloc W_1 (.cells #[.int .i64 0, .int .i64 0] 40)
        have hY : Row (W_1.alloc (.cells #[.int .i64 0, .int .i64 0] 40)) W_1.heap.size #[.int .i64 0, .int .i64 0] 40 := Row.new
        have hy := hHeld.lt
        replace hHeld := hHeld.on hb
        clear hb
        generalize hW : W_1.alloc _ = W_18 at *
        clear hW
        generalize W_1.heap.size = yy at hY hy ⊢
        refine hK.out _ _ ⟨hHeld, (hHeld).c0, (hHeld).c1, (hHeld).c2, (hHeld).c3⟩ (fun _ => ?_)
        clear hK K
        refine wpAnyH_ready (rs := [2, 7]) (by kernel_rfl) (by simp) ?_
        refine' AllReadyH.cons (o := _) (by simp only [List.getElem?_toArray, List.getElem?_cons_succ, List.getElem?_cons_zero]; rfl) (fun K hK => ?_) (AllReadyH.cons (o := _) (by simp only [List.getElem?_toArray, List.getElem?_cons_succ, List.getElem?_cons_zero]; rfl) (fun K hK => ?_) AllReadyH.nil)
        · go_simp
          refine (C2.out _).mono ?_
          rintro e W_182 ⟨rr, rfl, hr0, hr1, hr2, hr3, hb⟩
          have hR : At W_182 rr Q F T := ⟨hr1, hr2, hr3⟩
          have hry : yy < rr := Nat.lt_of_lt_of_le hY.lt hr0
          replace hHeld := hHeld.on hb
          replace hY := hY.on hb
          clear hb
          try go_simp
          refine hK.out _ _ ⟨hHeld, (hHeld).c0, (hHeld).c1, (hHeld).c2, (hHeld).c3⟩ (fun _ => ?_)
          clear hK K
          refine wpAnyH_more (S' := fun W' => (Reg w W' a b c d ∧ W'.cell? ⟨w.heap.size, 0, none⟩ = some (.int .u16 a) ∧ W'.cell? ⟨w.heap.size, 1, none⟩ = some (.int .u16 b) ∧ W'.cell? ⟨w.heap.size, 2, none⟩ = some (.int .u16 c) ∧ W'.cell? ⟨w.heap.size, 3, none⟩ = some (.int .u16 d)) ∧ W'.cell? ⟨rr, Q * 2, none⟩ = some (.int .i64 F) ∧ W'.cell? ⟨rr, Q * 2 + 1, none⟩ = some (.int .i64 T)) (fun _ h => h.1) ⟨⟨hHeld, (hHeld).c0, (hHeld).c1, (hHeld).c2, (hHeld).c3⟩, hR.f, hR.t⟩ (fun hHeld2 => ?_)
          refine' wpAnyH_take (i := 5) (oi := _) (v := _) ?_ (by kernel_rfl) (by kernel_rfl) (by kernel_rfl) ?_ (Or.inl ⟨?_, ?_⟩) (by assumption) ?_
          rotate_left 2
          · (simp only [List.getElem?_toArray, List.getElem?_cons_succ, List.getElem?_cons_zero]; rfl)
          · exact fun _ _ _ h => h
          · rfl
          · (intro W hSW; (try dsimp only at hSW); go_split_ands; first | (go_simp; done) | (go_simp; with_reducible rfl))
          try simp only [Act.put, List.setIfInBounds_toArray, List.set_cons_zero, List.set_cons_succ]
          refine' wpAnyH_take (i := 6) (oi := _) (v := _) ?_ (by kernel_rfl) (by kernel_rfl) (by kernel_rfl) ?_ (Or.inl ⟨?_, ?_⟩) (by assumption) ?_
          rotate_left 2
          · (simp only [List.getElem?_toArray, List.getElem?_cons_succ, List.getElem?_cons_zero]; rfl)
          · exact fun _ _ _ h => h
          · rfl
          · (intro W hSW; (try dsimp only at hSW); go_split_ands; first | (go_simp; done) | (go_simp; with_reducible rfl))
          try simp only [Act.put, List.setIfInBounds_toArray, List.set_cons_zero, List.set_cons_succ]
          clear hr0 hr1 hr2 hr3
          refine wpAnyH_ready (rs := [7]) (by kernel_rfl) (by simp) ?_
          refine' AllReadyH.cons (o := _) (by simp only [List.getElem?_toArray, List.getElem?_cons_succ, List.getElem?_cons_zero]; rfl) (fun K hK => ?_) AllReadyH.nil
          · go_simp
            have hb := below_alloc W_182 (.cells #[.int .i64 0, .int .i64 0, .int .i64 0, .int .i64 0, .int .i64 0] 23)
            have hX : Row (W_182.alloc (.cells #[.int .i64 0, .int .i64 0, .int .i64 0, .int .i64 0, .int .i64 0] 23)) W_182.heap.size #[.int .i64 0, .int .i64 0, .int .i64 0, .int .i64 0, .int .i64 0] 23 := Row.new
            have hx := hHeld.lt
            have hxy := Row.lt hY
            have hrx := hR.lt
            replace hHeld := hHeld.on hb
            replace hY := hY.on hb
            replace hR := hR.on hb
            clear hb
            generalize hW : W_182.alloc _ = W_1827 at *
            clear hW
            generalize W_182.heap.size = xx at hX hx hxy hrx ⊢
            refine hK.out _ _ ⟨⟨hHeld, (hHeld).c0, (hHeld).c1, (hHeld).c2, (hHeld).c3⟩, hR.f, hR.t⟩ (fun _ => ?_)
            clear hK K
            have lx := hX.lt
            have ly := hY.lt
            have nx : xx ≠ w.heap.size := by omega
            have ny : yy ≠ w.heap.size := by omega
            have nr : xx ≠ rr := by omega
            have nr2 : yy ≠ rr := by omega
            have nxy : xx ≠ yy := by omega
            have q0 : W_1827.cell? ⟨xx, 0, none⟩ = some (.int .i64 0) := hX.cell 0
            have q1 : W_1827.cell? ⟨xx, 1, none⟩ = some (.int .i64 0) := hX.cell 1
            have q2 : W_1827.cell? ⟨xx, 2, none⟩ = some (.int .i64 0) := hX.cell 2
            have q3 : W_1827.cell? ⟨xx, 3, none⟩ = some (.int .i64 0) := hX.cell 3
            have q4 : W_1827.cell? ⟨xx, 4, none⟩ = some (.int .i64 0) := hX.cell 4
            have p0 : W_1827.cell? ⟨yy, 0, none⟩ = some (.int .i64 0) := hY.cell 0
            have p1 : W_1827.cell? ⟨yy, 1, none⟩ = some (.int .i64 0) := hY.cell 1
            have gq : ∀ j, W_1827.frozen? ⟨xx, j, none⟩ = false := hX.free
            have gp : ∀ j, W_1827.frozen? ⟨yy, j, none⟩ = false := hY.free
            clear hxy hrx hry
            refine wpAnyH_ready (rs := [9]) (by kernel_rfl) (by simp) ?_
            refine' AllReadyH.cons (o := _) ?_ (fun K hK => ?_) AllReadyH.nil
            rotate_left 1
            · (simp only [List.getElem?_toArray, List.getElem?_cons_succ, List.getElem?_cons_zero]; rfl)
            go_simp
            replace hHeld := ((((hHeld.set hx 0 (.int .i64 o)).set hx 1 (.int .i64 l)).set hx 2 (.int .i64 cl)).set hx 3 (.int .i64 r)).set hx 4 (.int .i64 q)
            replace hR := ((((hR.set nr 0 (.int .i64 o)).set nr 1 (.int .i64 l)).set nr 2 (.int .i64 cl)).set nr 3 (.int .i64 r)).set nr 4 (.int .i64 q)
            replace hX := ((((hX.set 0 (.int .i64 o)).set 1 (.int .i64 l)).set 2 (.int .i64 cl)).set 3 (.int .i64 r)).set 4 (.int .i64 q)
            replace hY := ((((hY.other nxy 0 (.int .i64 o)).other nxy 1 (.int .i64 l)).other nxy 2 (.int .i64 cl)).other nxy 3 (.int .i64 r)).other nxy 4 (.int .i64 q)
            generalize hW : World.setCell _ _ _ = V at *
            clear hW
            refine hK.out _ _ ⟨⟨hHeld, (hHeld).c0, (hHeld).c1, (hHeld).c2, (hHeld).c3⟩, hR.f, hR.t⟩ (fun _ => ?_)
            clear hK K q0 q1 q2 q3 q4 gq p0 p1 gp
            have p0 : V.cell? ⟨yy, 0, none⟩ = some (.int .i64 0) := hY.cell 0
            have p1 : V.cell? ⟨yy, 1, none⟩ = some (.int .i64 0) := hY.cell 1
            have gp : ∀ j, V.frozen? ⟨yy, j, none⟩ = false := hY.free
            refine wpAnyH_ready (rs := [10]) (by kernel_rfl) (by simp) ?_
            refine' AllReadyH.cons (o := _) ?_ (fun K hK => ?_) AllReadyH.nil
            rotate_left 1
            · (simp only [List.getElem?_toArray, List.getElem?_cons_succ, List.getElem?_cons_zero]; rfl)
            go_simp
            replace hHeld := (hHeld.set hy 0 (.int .i64 F)).set hy 1 (.int .i64 T)
            replace hR := (hR.set nr2 0 (.int .i64 F)).set nr2 1 (.int .i64 T)
            replace hX := (hX.other nxy.symm 0 (.int .i64 F)).other nxy.symm 1 (.int .i64 T)
            replace hY := (hY.set 0 (.int .i64 F)).set 1 (.int .i64 T)
            refine hK.out _ _ ⟨⟨hHeld, (hHeld).c0, (hHeld).c1, (hHeld).c2, (hHeld).c3⟩, hR.f, hR.t⟩ (fun _ => ?_)
            clear hK K p0 p1 gp
            refine wpAnyH_done (by kernel_rfl) ?_ _
            go_wp2_with fail
            go_meet
            exact ⟨_, _, rfl, rfl, hx, hy, nxy, hX, hY, hHeld.hb⟩
        · go_simp
          have hb := below_alloc W_18 (.cells #[.int .i64 0, .int .i64 0, .int .i64 0, .int .i64 0, .int .i64 0] 23)
          have hX : Row (W_18.alloc (.cells #[.int .i64 0, .int .i64 0, .int .i64 0, .int .i64 0, .int .i64 0] 23)) W_18.heap.size #[.int .i64 0, .int .i64 0, .int .i64 0, .int .i64 0, .int .i64 0] 23 := Row.new
          have hx := hHeld.lt
          have hxy := Row.lt hY
          replace hHeld := hHeld.on hb
          replace hY := hY.on hb
          clear hb
          generalize hW : W_18.alloc _ = W_187 at *
          clear hW
          generalize W_18.heap.size = xx at hX hx hxy ⊢
          refine hK.out _ _ ⟨hHeld, (hHeld).c0, (hHeld).c1, (hHeld).c2, (hHeld).c3⟩ (fun _ => ?_)
          clear hK K
          refine wpAnyH_ready (rs := [2]) (by kernel_rfl) (by simp) ?_
          refine' AllReadyH.cons (o := _) (by simp only [List.getElem?_toArray, List.getElem?_cons_succ, List.getElem?_cons_zero]; rfl) (fun K hK => ?_) AllReadyH.nil
          · go_simp
            refine (C2.out _).mono ?_
            rintro e W_1872 ⟨rr, rfl, hr0, hr1, hr2, hr3, hb⟩
            have hR : At W_1872 rr Q F T := ⟨hr1, hr2, hr3⟩
            have hrx : xx < rr := Nat.lt_of_lt_of_le hX.lt hr0
            have hry : yy < rr := Nat.lt_of_lt_of_le hY.lt hr0
            replace hHeld := hHeld.on hb
            replace hX := hX.on hb
            replace hY := hY.on hb
            clear hb
            try go_simp
            refine hK.out _ _ ⟨hHeld, (hHeld).c0, (hHeld).c1, (hHeld).c2, (hHeld).c3⟩ (fun _ => ?_)
            clear hK K
            refine wpAnyH_more (S' := fun W' => (Reg w W' a b c d ∧ W'.cell? ⟨w.heap.size, 0, none⟩ = some (.int .u16 a) ∧ W'.cell? ⟨w.heap.size, 1, none⟩ = some (.int .u16 b) ∧ W'.cell? ⟨w.heap.size, 2, none⟩ = some (.int .u16 c) ∧ W'.cell? ⟨w.heap.size, 3, none⟩ = some (.int .u16 d)) ∧ W'.cell? ⟨rr, Q * 2, none⟩ = some (.int .i64 F) ∧ W'.cell? ⟨rr, Q * 2 + 1, none⟩ = some (.int .i64 T)) (fun _ h => h.1) ⟨⟨hHeld, (hHeld).c0, (hHeld).c1, (hHeld).c2, (hHeld).c3⟩, hR.f, hR.t⟩ (fun hHeld2 => ?_)
            refine' wpAnyH_take (i := 5) (oi := _) (v := _) ?_ (by kernel_rfl) (by kernel_rfl) (by kernel_rfl) ?_ (Or.inl ⟨?_, ?_⟩) (by assumption) ?_
            rotate_left 2
            · (simp only [List.getElem?_toArray, List.getElem?_cons_succ, List.getElem?_cons_zero]; rfl)
            · exact fun _ _ _ h => h
            · rfl
            · (intro W hSW; (try dsimp only at hSW); go_split_ands; first | (go_simp; done) | (go_simp; with_reducible rfl))
            try simp only [Act.put, List.setIfInBounds_toArray, List.set_cons_zero, List.set_cons_succ]
            refine' wpAnyH_take (i := 6) (oi := _) (v := _) ?_ (by kernel_rfl) (by kernel_rfl) (by kernel_rfl) ?_ (Or.inl ⟨?_, ?_⟩) (by assumption) ?_
            rotate_left 2
            · (simp only [List.getElem?_toArray, List.getElem?_cons_succ, List.getElem?_cons_zero]; rfl)
            · exact fun _ _ _ h => h
            · rfl
            · (intro W hSW; (try dsimp only at hSW); go_split_ands; first | (go_simp; done) | (go_simp; with_reducible rfl))
            try simp only [Act.put, List.setIfInBounds_toArray, List.set_cons_zero, List.set_cons_succ]
            clear hr0 hr1 hr2 hr3
            have lx := hX.lt
            have ly := hY.lt
            have nx : xx ≠ w.heap.size := by omega
            have ny : yy ≠ w.heap.size := by omega
            have nr : xx ≠ rr := by omega
            have nr2 : yy ≠ rr := by omega
            have nxy : xx ≠ yy := by omega
            have q0 : W_1872.cell? ⟨xx, 0, none⟩ = some (.int .i64 0) := hX.cell 0
            have q1 : W_1872.cell? ⟨xx, 1, none⟩ = some (.int .i64 0) := hX.cell 1
            have q2 : W_1872.cell? ⟨xx, 2, none⟩ = some (.int .i64 0) := hX.cell 2
            have q3 : W_1872.cell? ⟨xx, 3, none⟩ = some (.int .i64 0) := hX.cell 3
            have q4 : W_1872.cell? ⟨xx, 4, none⟩ = some (.int .i64 0) := hX.cell 4
            have p0 : W_1872.cell? ⟨yy, 0, none⟩ = some (.int .i64 0) := hY.cell 0
            have p1 : W_1872.cell? ⟨yy, 1, none⟩ = some (.int .i64 0) := hY.cell 1
            have gq : ∀ j, W_1872.frozen? ⟨xx, j, none⟩ = false := hX.free
            have gp : ∀ j, W_1872.frozen? ⟨yy, j, none⟩ = false := hY.free
            clear hxy hrx hry
            refine wpAnyH_ready (rs := [9]) (by kernel_rfl) (by simp) ?_
            refine' AllReadyH.cons (o := _) ?_ (fun K hK => ?_) AllReadyH.nil
            rotate_left 1
            · (simp only [List.getElem?_toArray, List.getElem?_cons_succ, List.getElem?_cons_zero]; rfl)
            go_simp
            replace hHeld := ((((hHeld.set hx 0 (.int .i64 o)).set hx 1 (.int .i64 l)).set hx 2 (.int .i64 cl)).set hx 3 (.int .i64 r)).set hx 4 (.int .i64 q)
            replace hR := ((((hR.set nr 0 (.int .i64 o)).set nr 1 (.int .i64 l)).set nr 2 (.int .i64 cl)).set nr 3 (.int .i64 r)).set nr 4 (.int .i64 q)
            replace hX := ((((hX.set 0 (.int .i64 o)).set 1 (.int .i64 l)).set 2 (.int .i64 cl)).set 3 (.int .i64 r)).set 4 (.int .i64 q)
            replace hY := ((((hY.other nxy 0 (.int .i64 o)).other nxy 1 (.int .i64 l)).other nxy 2 (.int .i64 cl)).other nxy 3 (.int .i64 r)).other nxy 4 (.int .i64 q)
            generalize hW : World.setCell _ _ _ = V at *
            clear hW
            refine hK.out _ _ ⟨⟨hHeld, (hHeld).c0, (hHeld).c1, (hHeld).c2, (hHeld).c3⟩, hR.f, hR.t⟩ (fun _ => ?_)
            clear hK K q0 q1 q2 q3 q4 gq p0 p1 gp
            have p0 : V.cell? ⟨yy, 0, none⟩ = some (.int .i64 0) := hY.cell 0
            have p1 : V.cell? ⟨yy, 1, none⟩ = some (.int .i64 0) := hY.cell 1
            have gp : ∀ j, V.frozen? ⟨yy, j, none⟩ = false := hY.free
            refine wpAnyH_ready (rs := [10]) (by kernel_rfl) (by simp) ?_
            refine' AllReadyH.cons (o := _) ?_ (fun K hK => ?_) AllReadyH.nil
            rotate_left 1
            · (simp only [List.getElem?_toArray, List.getElem?_cons_succ, List.getElem?_cons_zero]; rfl)
            go_simp
            replace hHeld := (hHeld.set hy 0 (.int .i64 F)).set hy 1 (.int .i64 T)
            replace hR := (hR.set nr2 0 (.int .i64 F)).set nr2 1 (.int .i64 T)
            replace hX := (hX.other nxy.symm 0 (.int .i64 F)).other nxy.symm 1 (.int .i64 T)
            replace hY := (hY.set 0 (.int .i64 F)).set 1 (.int .i64 T)
            refine hK.out _ _ ⟨⟨hHeld, (hHeld).c0, (hHeld).c1, (hHeld).c2, (hHeld).c3⟩, hR.f, hR.t⟩ (fun _ => ?_)
            clear hK K p0 p1 gp
            refine wpAnyH_done (by kernel_rfl) ?_ _
            go_wp2_with fail
            go_meet
            exact ⟨_, _, rfl, rfl, hx, hy, nxy, hX, hY, hHeld.hb⟩
    · go_simp
      have hb := below_alloc W_0 (.cells #[.int .i64 0, .int .i64 0, .int .i64 0, .int .i64 0, .int .i64 0] 23)
      have hX : Row (W_0.alloc (.cells #[.int .i64 0, .int .i64 0, .int .i64 0, .int .i64 0, .int .i64 0] 23)) W_0.heap.size #[.int .i64 0, .int .i64 0, .int .i64 0, .int .i64 0, .int .i64 0] 23 := Row.new
      have hx := hHeld.lt
      replace hHeld := hHeld.on hb
      clear hb
      generalize hW : W_0.alloc _ = W_7 at *
      clear hW
      generalize W_0.heap.size = xx at hX hx ⊢
      refine hK.out _ _ ⟨hHeld, (hHeld).c0, (hHeld).c1, (hHeld).c2, (hHeld).c3⟩ (fun _ => ?_)
      clear hK K
      refine wpAnyH_ready (rs := [1, 8]) (by kernel_rfl) (by simp) ?_
      refine' AllReadyH.cons (o := _) (by simp only [List.getElem?_toArray, List.getElem?_cons_succ, List.getElem?_cons_zero]; rfl) (fun K hK => ?_) (AllReadyH.cons (o := _) (by simp only [List.getElem?_toArray, List.getElem?_cons_succ, List.getElem?_cons_zero]; rfl) (fun K hK => ?_) AllReadyH.nil)
      · go_simp
        refine (C1.out _).mono ?_
        rintro e W_71 ⟨rfl, hb⟩
        replace hHeld := hHeld.on hb
        replace hX := hX.on hb
        clear hb
        try go_simp
        refine hK.out _ _ ⟨hHeld, (hHeld).c0, (hHeld).c1, (hHeld).c2, (hHeld).c3⟩ (fun _ => ?_)
        clear hK K
        refine wpAnyH_ready (rs := [2, 8]) (by kernel_rfl) (by simp) ?_
        refine' AllReadyH.cons (o := _) (by simp only [List.getElem?_toArray, List.getElem?_cons_succ, List.getElem?_cons_zero]; rfl) (fun K hK => ?_) (AllReadyH.cons (o := _) (by simp only [List.getElem?_toArray, List.getElem?_cons_succ, List.getElem?_cons_zero]; rfl) (fun K hK => ?_) AllReadyH.nil)
        · go_simp
          refine (C2.out _).mono ?_
          rintro e W_712 ⟨rr, rfl, hr0, hr1, hr2, hr3, hb⟩
          have hR : At W_712 rr Q F T := ⟨hr1, hr2, hr3⟩
          have hrx : xx < rr := Nat.lt_of_lt_of_le hX.lt hr0
          replace hHeld := hHeld.on hb
          replace hX := hX.on hb
          clear hb
          try go_simp
          refine hK.out _ _ ⟨hHeld, (hHeld).c0, (hHeld).c1, (hHeld).c2, (hHeld).c3⟩ (fun _ => ?_)
          clear hK K
          refine wpAnyH_more (S' := fun W' => (Reg w W' a b c d ∧ W'.cell? ⟨w.heap.size, 0, none⟩ = some (.int .u16 a) ∧ W'.cell? ⟨w.heap.size, 1, none⟩ = some (.int .u16 b) ∧ W'.cell? ⟨w.heap.size, 2, none⟩ = some (.int .u16 c) ∧ W'.cell? ⟨w.heap.size, 3, none⟩ = some (.int .u16 d)) ∧ W'.cell? ⟨rr, Q * 2, none⟩ = some (.int .i64 F) ∧ W'.cell? ⟨rr, Q * 2 + 1, none⟩ = some (.int .i64 T)) (fun _ h => h.1) ⟨⟨hHeld, (hHeld).c0, (hHeld).c1, (hHeld).c2, (hHeld).c3⟩, hR.f, hR.t⟩ (fun hHeld2 => ?_)
          refine' wpAnyH_take (i := 5) (oi := _) (v := _) ?_ (by kernel_rfl) (by kernel_rfl) (by kernel_rfl) ?_ (Or.inl ⟨?_, ?_⟩) (by assumption) ?_
          rotate_left 2
          · (simp only [List.getElem?_toArray, List.getElem?_cons_succ, List.getElem?_cons_zero]; rfl)
          · exact fun _ _ _ h => h
          · rfl
          · (intro W hSW; (try dsimp only at hSW); go_split_ands; first | (go_simp; done) | (go_simp; with_reducible rfl))
          try simp only [Act.put, List.setIfInBounds_toArray, List.set_cons_zero, List.set_cons_succ]
          refine' wpAnyH_take (i := 6) (oi := _) (v := _) ?_ (by kernel_rfl) (by kernel_rfl) (by kernel_rfl) ?_ (Or.inl ⟨?_, ?_⟩) (by assumption) ?_
          rotate_left 2
          · (simp only [List.getElem?_toArray, List.getElem?_cons_succ, List.getElem?_cons_zero]; rfl)
          · exact fun _ _ _ h => h
          · rfl
          · (intro W hSW; (try dsimp only at hSW); go_split_ands; first | (go_simp; done) | (go_simp; with_reducible rfl))
          try simp only [Act.put, List.setIfInBounds_toArray, List.set_cons_zero, List.set_cons_succ]
          clear hr0 hr1 hr2 hr3
          refine wpAnyH_ready (rs := [8]) (by kernel_rfl) (by simp) ?_
          refine' AllReadyH.cons (o := _) (by simp only [List.getElem?_toArray, List.getElem?_cons_succ, List.getElem?_cons_zero]; rfl) (fun K hK => ?_) AllReadyH.nil
          · go_simp
            have hb := below_alloc W_712 (.cells #[.int .i64 0, .int .i64 0] 40)
            have hY : Row (W_712.alloc (.cells #[.int .i64 0, .int .i64 0] 40)) W_712.heap.size #[.int .i64 0, .int .i64 0] 40 := Row.new
            have hy := hHeld.lt
            have hxy := Row.lt hX
            have hry := hR.lt
            replace hHeld := hHeld.on hb
            replace hX := hX.on hb
            replace hR := hR.on hb
            clear hb
            generalize hW : W_712.alloc _ = W_7128 at *
            clear hW
            generalize W_712.heap.size = yy at hY hy hxy hry ⊢
            refine hK.out _ _ ⟨⟨hHeld, (hHeld).c0, (hHeld).c1, (hHeld).c2, (hHeld).c3⟩, hR.f, hR.t⟩ (fun _ => ?_)
            clear hK K
            have lx := hX.lt
            have ly := hY.lt
            have nx : xx ≠ w.heap.size := by omega
            have ny : yy ≠ w.heap.size := by omega
            have nr : xx ≠ rr := by omega
            have nr2 : yy ≠ rr := by omega
            have nxy : xx ≠ yy := by omega
            have q0 : W_7128.cell? ⟨xx, 0, none⟩ = some (.int .i64 0) := hX.cell 0
            have q1 : W_7128.cell? ⟨xx, 1, none⟩ = some (.int .i64 0) := hX.cell 1
            have q2 : W_7128.cell? ⟨xx, 2, none⟩ = some (.int .i64 0) := hX.cell 2
            have q3 : W_7128.cell? ⟨xx, 3, none⟩ = some (.int .i64 0) := hX.cell 3
            have q4 : W_7128.cell? ⟨xx, 4, none⟩ = some (.int .i64 0) := hX.cell 4
            have p0 : W_7128.cell? ⟨yy, 0, none⟩ = some (.int .i64 0) := hY.cell 0
            have p1 : W_7128.cell? ⟨yy, 1, none⟩ = some (.int .i64 0) := hY.cell 1
            have gq : ∀ j, W_7128.frozen? ⟨xx, j, none⟩ = false := hX.free
            have gp : ∀ j, W_7128.frozen? ⟨yy, j, none⟩ = false := hY.free
            clear hxy hrx hry
            refine wpAnyH_ready (rs := [9]) (by kernel_rfl) (by simp) ?_
            refine' AllReadyH.cons (o := _) ?_ (fun K hK => ?_) AllReadyH.nil
            rotate_left 1
            · (simp only [List.getElem?_toArray, List.getElem?_cons_succ, List.getElem?_cons_zero]; rfl)
            go_simp
            replace hHeld := ((((hHeld.set hx 0 (.int .i64 o)).set hx 1 (.int .i64 l)).set hx 2 (.int .i64 cl)).set hx 3 (.int .i64 r)).set hx 4 (.int .i64 q)
            replace hR := ((((hR.set nr 0 (.int .i64 o)).set nr 1 (.int .i64 l)).set nr 2 (.int .i64 cl)).set nr 3 (.int .i64 r)).set nr 4 (.int .i64 q)
            replace hX := ((((hX.set 0 (.int .i64 o)).set 1 (.int .i64 l)).set 2 (.int .i64 cl)).set 3 (.int .i64 r)).set 4 (.int .i64 q)
            replace hY := ((((hY.other nxy 0 (.int .i64 o)).other nxy 1 (.int .i64 l)).other nxy 2 (.int .i64 cl)).other nxy 3 (.int .i64 r)).other nxy 4 (.int .i64 q)
            generalize hW : World.setCell _ _ _ = V at *
            clear hW
            refine hK.out _ _ ⟨⟨hHeld, (hHeld).c0, (hHeld).c1, (hHeld).c2, (hHeld).c3⟩, hR.f, hR.t⟩ (fun _ => ?_)
            clear hK K q0 q1 q2 q3 q4 gq p0 p1 gp
            have p0 : V.cell? ⟨yy, 0, none⟩ = some (.int .i64 0) := hY.cell 0
            have p1 : V.cell? ⟨yy, 1, none⟩ = some (.int .i64 0) := hY.cell 1
            have gp : ∀ j, V.frozen? ⟨yy, j, none⟩ = false := hY.free
            refine wpAnyH_ready (rs := [10]) (by kernel_rfl) (by simp) ?_
            refine' AllReadyH.cons (o := _) ?_ (fun K hK => ?_) AllReadyH.nil
            rotate_left 1
            · (simp only [List.getElem?_toArray, List.getElem?_cons_succ, List.getElem?_cons_zero]; rfl)
            go_simp
            replace hHeld := (hHeld.set hy 0 (.int .i64 F)).set hy 1 (.int .i64 T)
            replace hR := (hR.set nr2 0 (.int .i64 F)).set nr2 1 (.int .i64 T)
            replace hX := (hX.other nxy.symm 0 (.int .i64 F)).other nxy.symm 1 (.int .i64 T)
            replace hY := (hY.set 0 (.int .i64 F)).set 1 (.int .i64 T)
            refine hK.out _ _ ⟨⟨hHeld, (hHeld).c0, (hHeld).c1, (hHeld).c2, (hHeld).c3⟩, hR.f, hR.t⟩ (fun _ => ?_)
            clear hK K p0 p1 gp
            refine wpAnyH_done (by kernel_rfl) ?_ _
            go_wp2_with fail
            go_meet
            exact ⟨_, _, rfl, rfl, hx, hy, nxy, hX, hY, hHeld.hb⟩
        · go_simp
          have hb := below_alloc W_71 (.cells #[.int .i64 0, .int .i64 0] 40)
          have hY : Row (W_71.alloc (.cells #[.int .i64 0, .int .i64 0] 40)) W_71.heap.size #[.int .i64 0, .int .i64 0] 40 := Row.new
          have hy := hHeld.lt
          have hxy := Row.lt hX
          replace hHeld := hHeld.on hb
          replace hX := hX.on hb
          clear hb
          generalize hW : W_71.alloc _ = W_718 at *
          clear hW
          generalize W_71.heap.size = yy at hY hy hxy ⊢
          refine hK.out _ _ ⟨hHeld, (hHeld).c0, (hHeld).c1, (hHeld).c2, (hHeld).c3⟩ (fun _ => ?_)
          clear hK K
          refine wpAnyH_ready (rs := [2]) (by kernel_rfl) (by simp) ?_
          refine' AllReadyH.cons (o := _) (by simp only [List.getElem?_toArray, List.getElem?_cons_succ, List.getElem?_cons_zero]; rfl) (fun K hK => ?_) AllReadyH.nil
          · go_simp
            refine (C2.out _).mono ?_
            rintro e W_7182 ⟨rr, rfl, hr0, hr1, hr2, hr3, hb⟩
            have hR : At W_7182 rr Q F T := ⟨hr1, hr2, hr3⟩
            have hrx : xx < rr := Nat.lt_of_lt_of_le hX.lt hr0
            have hry : yy < rr := Nat.lt_of_lt_of_le hY.lt hr0
            replace hHeld := hHeld.on hb
            replace hX := hX.on hb
            replace hY := hY.on hb
            clear hb
            try go_simp
            refine hK.out _ _ ⟨hHeld, (hHeld).c0, (hHeld).c1, (hHeld).c2, (hHeld).c3⟩ (fun _ => ?_)
            clear hK K
            refine wpAnyH_more (S' := fun W' => (Reg w W' a b c d ∧ W'.cell? ⟨w.heap.size, 0, none⟩ = some (.int .u16 a) ∧ W'.cell? ⟨w.heap.size, 1, none⟩ = some (.int .u16 b) ∧ W'.cell? ⟨w.heap.size, 2, none⟩ = some (.int .u16 c) ∧ W'.cell? ⟨w.heap.size, 3, none⟩ = some (.int .u16 d)) ∧ W'.cell? ⟨rr, Q * 2, none⟩ = some (.int .i64 F) ∧ W'.cell? ⟨rr, Q * 2 + 1, none⟩ = some (.int .i64 T)) (fun _ h => h.1) ⟨⟨hHeld, (hHeld).c0, (hHeld).c1, (hHeld).c2, (hHeld).c3⟩, hR.f, hR.t⟩ (fun hHeld2 => ?_)
            refine' wpAnyH_take (i := 5) (oi := _) (v := _) ?_ (by kernel_rfl) (by kernel_rfl) (by kernel_rfl) ?_ (Or.inl ⟨?_, ?_⟩) (by assumption) ?_
            rotate_left 2
            · (simp only [List.getElem?_toArray, List.getElem?_cons_succ, List.getElem?_cons_zero]; rfl)
            · exact fun _ _ _ h => h
            · rfl
            · (intro W hSW; (try dsimp only at hSW); go_split_ands; first | (go_simp; done) | (go_simp; with_reducible rfl))
            try simp only [Act.put, List.setIfInBounds_toArray, List.set_cons_zero, List.set_cons_succ]
            refine' wpAnyH_take (i := 6) (oi := _) (v := _) ?_ (by kernel_rfl) (by kernel_rfl) (by kernel_rfl) ?_ (Or.inl ⟨?_, ?_⟩) (by assumption) ?_
            rotate_left 2
            · (simp only [List.getElem?_toArray, List.getElem?_cons_succ, List.getElem?_cons_zero]; rfl)
            · exact fun _ _ _ h => h
            · rfl
            · (intro W hSW; (try dsimp only at hSW); go_split_ands; first | (go_simp; done) | (go_simp; with_reducible rfl))
            try simp only [Act.put, List.setIfInBounds_toArray, List.set_cons_zero, List.set_cons_succ]
            clear hr0 hr1 hr2 hr3
            have lx := hX.lt
            have ly := hY.lt
            have nx : xx ≠ w.heap.size := by omega
            have ny : yy ≠ w.heap.size := by omega
            have nr : xx ≠ rr := by omega
            have nr2 : yy ≠ rr := by omega
            have nxy : xx ≠ yy := by omega
            have q0 : W_7182.cell? ⟨xx, 0, none⟩ = some (.int .i64 0) := hX.cell 0
            have q1 : W_7182.cell? ⟨xx, 1, none⟩ = some (.int .i64 0) := hX.cell 1
            have q2 : W_7182.cell? ⟨xx, 2, none⟩ = some (.int .i64 0) := hX.cell 2
            have q3 : W_7182.cell? ⟨xx, 3, none⟩ = some (.int .i64 0) := hX.cell 3
            have q4 : W_7182.cell? ⟨xx, 4, none⟩ = some (.int .i64 0) := hX.cell 4
            have p0 : W_7182.cell? ⟨yy, 0, none⟩ = some (.int .i64 0) := hY.cell 0
            have p1 : W_7182.cell? ⟨yy, 1, none⟩ = some (.int .i64 0) := hY.cell 1
            have gq : ∀ j, W_7182.frozen? ⟨xx, j, none⟩ = false := hX.free
            have gp : ∀ j, W_7182.frozen? ⟨yy, j, none⟩ = false := hY.free
            clear hxy hrx hry
            refine wpAnyH_ready (rs := [9]) (by kernel_rfl) (by simp) ?_
            refine' AllReadyH.cons (o := _) ?_ (fun K hK => ?_) AllReadyH.nil
            rotate_left 1
            · (simp only [List.getElem?_toArray, List.getElem?_cons_succ, List.getElem?_cons_zero]; rfl)
            go_simp
            replace hHeld := ((((hHeld.set hx 0 (.int .i64 o)).set hx 1 (.int .i64 l)).set hx 2 (.int .i64 cl)).set hx 3 (.int .i64 r)).set hx 4 (.int .i64 q)
            replace hR := ((((hR.set nr 0 (.int .i64 o)).set nr 1 (.int .i64 l)).set nr 2 (.int .i64 cl)).set nr 3 (.int .i64 r)).set nr 4 (.int .i64 q)
            replace hX := ((((hX.set 0 (.int .i64 o)).set 1 (.int .i64 l)).set 2 (.int .i64 cl)).set 3 (.int .i64 r)).set 4 (.int .i64 q)
            replace hY := ((((hY.other nxy 0 (.int .i64 o)).other nxy 1 (.int .i64 l)).other nxy 2 (.int .i64 cl)).other nxy 3 (.int .i64 r)).other nxy 4 (.int .i64 q)
            generalize hW : World.setCell _ _ _ = V at *
            clear hW
            refine hK.out _ _ ⟨⟨hHeld, (hHeld).c0, (hHeld).c1, (hHeld).c2, (hHeld).c3⟩, hR.f, hR.t⟩ (fun _ => ?_)
            clear hK K q0 q1 q2 q3 q4 gq p0 p1 gp
            have p0 : V.cell? ⟨yy, 0, none⟩ = some (.int .i64 0) := hY.cell 0
            have p1 : V.cell? ⟨yy, 1, none⟩ = some (.int .i64 0) := hY.cell 1
            have gp : ∀ j, V.frozen? ⟨yy, j, none⟩ = false := hY.free
            refine wpAnyH_ready (rs := [10]) (by kernel_rfl) (by simp) ?_
            refine' AllReadyH.cons (o := _) ?_ (fun K hK => ?_) AllReadyH.nil
            rotate_left 1
            · (simp only [List.getElem?_toArray, List.getElem?_cons_succ, List.getElem?_cons_zero]; rfl)
            go_simp
            replace hHeld := (hHeld.set hy 0 (.int .i64 F)).set hy 1 (.int .i64 T)
            replace hR := (hR.set nr2 0 (.int .i64 F)).set nr2 1 (.int .i64 T)
            replace hX := (hX.other nxy.symm 0 (.int .i64 F)).other nxy.symm 1 (.int .i64 T)
            replace hY := (hY.set 0 (.int .i64 F)).set 1 (.int .i64 T)
            refine hK.out _ _ ⟨⟨hHeld, (hHeld).c0, (hHeld).c1, (hHeld).c2, (hHeld).c3⟩, hR.f, hR.t⟩ (fun _ => ?_)
            clear hK K p0 p1 gp
            refine wpAnyH_done (by kernel_rfl) ?_ _
            go_wp2_with fail
            go_meet
            exact ⟨_, _, rfl, rfl, hx, hy, nxy, hX, hY, hHeld.hb⟩
      · go_simp
        have hb := below_alloc W_7 (.cells #[.int .i64 0, .int .i64 0] 40)
        have hY : Row (W_7.alloc (.cells #[.int .i64 0, .int .i64 0] 40)) W_7.heap.size #[.int .i64 0, .int .i64 0] 40 := Row.new
        have hy := hHeld.lt
        have hxy := Row.lt hX
        replace hHeld := hHeld.on hb
        replace hX := hX.on hb
        clear hb
        generalize hW : W_7.alloc _ = W_78 at *
        clear hW
        generalize W_7.heap.size = yy at hY hy hxy ⊢
        refine hK.out _ _ ⟨hHeld, (hHeld).c0, (hHeld).c1, (hHeld).c2, (hHeld).c3⟩ (fun _ => ?_)
        clear hK K
        refine wpAnyH_ready (rs := [1]) (by kernel_rfl) (by simp) ?_
        refine' AllReadyH.cons (o := _) (by simp only [List.getElem?_toArray, List.getElem?_cons_succ, List.getElem?_cons_zero]; rfl) (fun K hK => ?_) AllReadyH.nil
        · go_simp
          refine (C1.out _).mono ?_
          rintro e W_781 ⟨rfl, hb⟩
          replace hHeld := hHeld.on hb
          replace hX := hX.on hb
          replace hY := hY.on hb
          clear hb
          try go_simp
          refine hK.out _ _ ⟨hHeld, (hHeld).c0, (hHeld).c1, (hHeld).c2, (hHeld).c3⟩ (fun _ => ?_)
          clear hK K
          refine wpAnyH_ready (rs := [2]) (by kernel_rfl) (by simp) ?_
          refine' AllReadyH.cons (o := _) (by simp only [List.getElem?_toArray, List.getElem?_cons_succ, List.getElem?_cons_zero]; rfl) (fun K hK => ?_) AllReadyH.nil
          · go_simp
            refine (C2.out _).mono ?_
            rintro e W_7812 ⟨rr, rfl, hr0, hr1, hr2, hr3, hb⟩
            have hR : At W_7812 rr Q F T := ⟨hr1, hr2, hr3⟩
            have hrx : xx < rr := Nat.lt_of_lt_of_le hX.lt hr0
            have hry : yy < rr := Nat.lt_of_lt_of_le hY.lt hr0
            replace hHeld := hHeld.on hb
            replace hX := hX.on hb
            replace hY := hY.on hb
            clear hb
            try go_simp
            refine hK.out _ _ ⟨hHeld, (hHeld).c0, (hHeld).c1, (hHeld).c2, (hHeld).c3⟩ (fun _ => ?_)
            clear hK K
            refine wpAnyH_more (S' := fun W' => (Reg w W' a b c d ∧ W'.cell? ⟨w.heap.size, 0, none⟩ = some (.int .u16 a) ∧ W'.cell? ⟨w.heap.size, 1, none⟩ = some (.int .u16 b) ∧ W'.cell? ⟨w.heap.size, 2, none⟩ = some (.int .u16 c) ∧ W'.cell? ⟨w.heap.size, 3, none⟩ = some (.int .u16 d)) ∧ W'.cell? ⟨rr, Q * 2, none⟩ = some (.int .i64 F) ∧ W'.cell? ⟨rr, Q * 2 + 1, none⟩ = some (.int .i64 T)) (fun _ h => h.1) ⟨⟨hHeld, (hHeld).c0, (hHeld).c1, (hHeld).c2, (hHeld).c3⟩, hR.f, hR.t⟩ (fun hHeld2 => ?_)
            refine' wpAnyH_take (i := 5) (oi := _) (v := _) ?_ (by kernel_rfl) (by kernel_rfl) (by kernel_rfl) ?_ (Or.inl ⟨?_, ?_⟩) (by assumption) ?_
            rotate_left 2
            · (simp only [List.getElem?_toArray, List.getElem?_cons_succ, List.getElem?_cons_zero]; rfl)
            · exact fun _ _ _ h => h
            · rfl
            · (intro W hSW; (try dsimp only at hSW); go_split_ands; first | (go_simp; done) | (go_simp; with_reducible rfl))
            try simp only [Act.put, List.setIfInBounds_toArray, List.set_cons_zero, List.set_cons_succ]
            refine' wpAnyH_take (i := 6) (oi := _) (v := _) ?_ (by kernel_rfl) (by kernel_rfl) (by kernel_rfl) ?_ (Or.inl ⟨?_, ?_⟩) (by assumption) ?_
            rotate_left 2
            · (simp only [List.getElem?_toArray, List.getElem?_cons_succ, List.getElem?_cons_zero]; rfl)
            · exact fun _ _ _ h => h
            · rfl
            · (intro W hSW; (try dsimp only at hSW); go_split_ands; first | (go_simp; done) | (go_simp; with_reducible rfl))
            try simp only [Act.put, List.setIfInBounds_toArray, List.set_cons_zero, List.set_cons_succ]
            clear hr0 hr1 hr2 hr3
            have lx := hX.lt
            have ly := hY.lt
            have nx : xx ≠ w.heap.size := by omega
            have ny : yy ≠ w.heap.size := by omega
            have nr : xx ≠ rr := by omega
            have nr2 : yy ≠ rr := by omega
            have nxy : xx ≠ yy := by omega
            have q0 : W_7812.cell? ⟨xx, 0, none⟩ = some (.int .i64 0) := hX.cell 0
            have q1 : W_7812.cell? ⟨xx, 1, none⟩ = some (.int .i64 0) := hX.cell 1
            have q2 : W_7812.cell? ⟨xx, 2, none⟩ = some (.int .i64 0) := hX.cell 2
            have q3 : W_7812.cell? ⟨xx, 3, none⟩ = some (.int .i64 0) := hX.cell 3
            have q4 : W_7812.cell? ⟨xx, 4, none⟩ = some (.int .i64 0) := hX.cell 4
            have p0 : W_7812.cell? ⟨yy, 0, none⟩ = some (.int .i64 0) := hY.cell 0
            have p1 : W_7812.cell? ⟨yy, 1, none⟩ = some (.int .i64 0) := hY.cell 1
            have gq : ∀ j, W_7812.frozen? ⟨xx, j, none⟩ = false := hX.free
            have gp : ∀ j, W_7812.frozen? ⟨yy, j, none⟩ = false := hY.free
            clear hxy hrx hry
            refine wpAnyH_ready (rs := [9]) (by kernel_rfl) (by simp) ?_
            refine' AllReadyH.cons (o := _) ?_ (fun K hK => ?_) AllReadyH.nil
            rotate_left 1
            · (simp only [List.getElem?_toArray, List.getElem?_cons_succ, List.getElem?_cons_zero]; rfl)
            go_simp
            replace hHeld := ((((hHeld.set hx 0 (.int .i64 o)).set hx 1 (.int .i64 l)).set hx 2 (.int .i64 cl)).set hx 3 (.int .i64 r)).set hx 4 (.int .i64 q)
            replace hR := ((((hR.set nr 0 (.int .i64 o)).set nr 1 (.int .i64 l)).set nr 2 (.int .i64 cl)).set nr 3 (.int .i64 r)).set nr 4 (.int .i64 q)
            replace hX := ((((hX.set 0 (.int .i64 o)).set 1 (.int .i64 l)).set 2 (.int .i64 cl)).set 3 (.int .i64 r)).set 4 (.int .i64 q)
            replace hY := ((((hY.other nxy 0 (.int .i64 o)).other nxy 1 (.int .i64 l)).other nxy 2 (.int .i64 cl)).other nxy 3 (.int .i64 r)).other nxy 4 (.int .i64 q)
            generalize hW : World.setCell _ _ _ = V at *
            clear hW
            refine hK.out _ _ ⟨⟨hHeld, (hHeld).c0, (hHeld).c1, (hHeld).c2, (hHeld).c3⟩, hR.f, hR.t⟩ (fun _ => ?_)
            clear hK K q0 q1 q2 q3 q4 gq p0 p1 gp
            have p0 : V.cell? ⟨yy, 0, none⟩ = some (.int .i64 0) := hY.cell 0
            have p1 : V.cell? ⟨yy, 1, none⟩ = some (.int .i64 0) := hY.cell 1
            have gp : ∀ j, V.frozen? ⟨yy, j, none⟩ = false := hY.free
            refine wpAnyH_ready (rs := [10]) (by kernel_rfl) (by simp) ?_
            refine' AllReadyH.cons (o := _) ?_ (fun K hK => ?_) AllReadyH.nil
            rotate_left 1
            · (simp only [List.getElem?_toArray, List.getElem?_cons_succ, List.getElem?_cons_zero]; rfl)
            go_simp
            replace hHeld := (hHeld.set hy 0 (.int .i64 F)).set hy 1 (.int .i64 T)
            replace hR := (hR.set nr2 0 (.int .i64 F)).set nr2 1 (.int .i64 T)
            replace hX := (hX.other nxy.symm 0 (.int .i64 F)).other nxy.symm 1 (.int .i64 T)
            replace hY := (hY.set 0 (.int .i64 F)).set 1 (.int .i64 T)
            refine hK.out _ _ ⟨⟨hHeld, (hHeld).c0, (hHeld).c1, (hHeld).c2, (hHeld).c3⟩, hR.f, hR.t⟩ (fun _ => ?_)
            clear hK K p0 p1 gp
            refine wpAnyH_done (by kernel_rfl) ?_ _
            go_wp2_with fail
            go_meet
            exact ⟨_, _, rfl, rfl, hx, hy, nxy, hX, hY, hHeld.hb⟩
    · go_simp
      have hb := below_alloc W_0 (.cells #[.int .i64 0, .int .i64 0] 40)
      have hY : Row (W_0.alloc (.cells #[.int .i64 0, .int .i64 0] 40)) W_0.heap.size #[.int .i64 0, .int .i64 0] 40 := Row.new
      have hy := hHeld.lt
      replace hHeld := hHeld.on hb
      clear hb
      generalize hW : W_0.alloc _ = W_8 at *
      clear hW
      generalize W_0.heap.size = yy at hY hy ⊢
      refine hK.out _ _ ⟨hHeld, (hHeld).c0, (hHeld).c1, (hHeld).c2, (hHeld).c3⟩ (fun _ => ?_)
      clear hK K
      refine wpAnyH_ready (rs := [1, 7]) (by kernel_rfl) (by simp) ?_
      refine' AllReadyH.cons (o := _) (by simp only [List.getElem?_toArray, List.getElem?_cons_succ, List.getElem?_cons_zero]; rfl) (fun K hK => ?_) (AllReadyH.cons (o := _) (by simp only [List.getElem?_toArray, List.getElem?_cons_succ, List.getElem?_cons_zero]; rfl) (fun K hK => ?_) AllReadyH.nil)
      · go_simp
        refine (C1.out _).mono ?_
        rintro e W_81 ⟨rfl, hb⟩
        replace hHeld := hHeld.on hb
        replace hY := hY.on hb
        clear hb
        try go_simp
        refine hK.out _ _ ⟨hHeld, (hHeld).c0, (hHeld).c1, (hHeld).c2, (hHeld).c3⟩ (fun _ => ?_)
        clear hK K
        refine wpAnyH_ready (rs := [2, 7]) (by kernel_rfl) (by simp) ?_
        refine' AllReadyH.cons (o := _) (by simp only [List.getElem?_toArray, List.getElem?_cons_succ, List.getElem?_cons_zero]; rfl) (fun K hK => ?_) (AllReadyH.cons (o := _) (by simp only [List.getElem?_toArray, List.getElem?_cons_succ, List.getElem?_cons_zero]; rfl) (fun K hK => ?_) AllReadyH.nil)
        · go_simp
          refine (C2.out _).mono ?_
          rintro e W_812 ⟨rr, rfl, hr0, hr1, hr2, hr3, hb⟩
          have hR : At W_812 rr Q F T := ⟨hr1, hr2, hr3⟩
          have hry : yy < rr := Nat.lt_of_lt_of_le hY.lt hr0
          replace hHeld := hHeld.on hb
          replace hY := hY.on hb
          clear hb
          try go_simp
          refine hK.out _ _ ⟨hHeld, (hHeld).c0, (hHeld).c1, (hHeld).c2, (hHeld).c3⟩ (fun _ => ?_)
          clear hK K
          refine wpAnyH_more (S' := fun W' => (Reg w W' a b c d ∧ W'.cell? ⟨w.heap.size, 0, none⟩ = some (.int .u16 a) ∧ W'.cell? ⟨w.heap.size, 1, none⟩ = some (.int .u16 b) ∧ W'.cell? ⟨w.heap.size, 2, none⟩ = some (.int .u16 c) ∧ W'.cell? ⟨w.heap.size, 3, none⟩ = some (.int .u16 d)) ∧ W'.cell? ⟨rr, Q * 2, none⟩ = some (.int .i64 F) ∧ W'.cell? ⟨rr, Q * 2 + 1, none⟩ = some (.int .i64 T)) (fun _ h => h.1) ⟨⟨hHeld, (hHeld).c0, (hHeld).c1, (hHeld).c2, (hHeld).c3⟩, hR.f, hR.t⟩ (fun hHeld2 => ?_)
          refine' wpAnyH_take (i := 5) (oi := _) (v := _) ?_ (by kernel_rfl) (by kernel_rfl) (by kernel_rfl) ?_ (Or.inl ⟨?_, ?_⟩) (by assumption) ?_
          rotate_left 2
          · (simp only [List.getElem?_toArray, List.getElem?_cons_succ, List.getElem?_cons_zero]; rfl)
          · exact fun _ _ _ h => h
          · rfl
          · (intro W hSW; (try dsimp only at hSW); go_split_ands; first | (go_simp; done) | (go_simp; with_reducible rfl))
          try simp only [Act.put, List.setIfInBounds_toArray, List.set_cons_zero, List.set_cons_succ]
          refine' wpAnyH_take (i := 6) (oi := _) (v := _) ?_ (by kernel_rfl) (by kernel_rfl) (by kernel_rfl) ?_ (Or.inl ⟨?_, ?_⟩) (by assumption) ?_
          rotate_left 2
          · (simp only [List.getElem?_toArray, List.getElem?_cons_succ, List.getElem?_cons_zero]; rfl)
          · exact fun _ _ _ h => h
          · rfl
          · (intro W hSW; (try dsimp only at hSW); go_split_ands; first | (go_simp; done) | (go_simp; with_reducible rfl))
          try simp only [Act.put, List.setIfInBounds_toArray, List.set_cons_zero, List.set_cons_succ]
          clear hr0 hr1 hr2 hr3
          refine wpAnyH_ready (rs := [7]) (by kernel_rfl) (by simp) ?_
          refine' AllReadyH.cons (o := _) (by simp only [List.getElem?_toArray, List.getElem?_cons_succ, List.getElem?_cons_zero]; rfl) (fun K hK => ?_) AllReadyH.nil
          · go_simp
            have hb := below_alloc W_812 (.cells #[.int .i64 0, .int .i64 0, .int .i64 0, .int .i64 0, .int .i64 0] 23)
            have hX : Row (W_812.alloc (.cells #[.int .i64 0, .int .i64 0, .int .i64 0, .int .i64 0, .int .i64 0] 23)) W_812.heap.size #[.int .i64 0, .int .i64 0, .int .i64 0, .int .i64 0, .int .i64 0] 23 := Row.new
            have hx := hHeld.lt
            have hxy := Row.lt hY
            have hrx := hR.lt
            replace hHeld := hHeld.on hb
            replace hY := hY.on hb
            replace hR := hR.on hb
            clear hb
            generalize hW : W_812.alloc _ = W_8127 at *
            clear hW
            generalize W_812.heap.size = xx at hX hx hxy hrx ⊢
            refine hK.out _ _ ⟨⟨hHeld, (hHeld).c0, (hHeld).c1, (hHeld).c2, (hHeld).c3⟩, hR.f, hR.t⟩ (fun _ => ?_)
            clear hK K
            have lx := hX.lt
            have ly := hY.lt
            have nx : xx ≠ w.heap.size := by omega
            have ny : yy ≠ w.heap.size := by omega
            have nr : xx ≠ rr := by omega
            have nr2 : yy ≠ rr := by omega
            have nxy : xx ≠ yy := by omega
            have q0 : W_8127.cell? ⟨xx, 0, none⟩ = some (.int .i64 0) := hX.cell 0
            have q1 : W_8127.cell? ⟨xx, 1, none⟩ = some (.int .i64 0) := hX.cell 1
            have q2 : W_8127.cell? ⟨xx, 2, none⟩ = some (.int .i64 0) := hX.cell 2
            have q3 : W_8127.cell? ⟨xx, 3, none⟩ = some (.int .i64 0) := hX.cell 3
            have q4 : W_8127.cell? ⟨xx, 4, none⟩ = some (.int .i64 0) := hX.cell 4
            have p0 : W_8127.cell? ⟨yy, 0, none⟩ = some (.int .i64 0) := hY.cell 0
            have p1 : W_8127.cell? ⟨yy, 1, none⟩ = some (.int .i64 0) := hY.cell 1
            have gq : ∀ j, W_8127.frozen? ⟨xx, j, none⟩ = false := hX.free
            have gp : ∀ j, W_8127.frozen? ⟨yy, j, none⟩ = false := hY.free
            clear hxy hrx hry
            refine wpAnyH_ready (rs := [9]) (by kernel_rfl) (by simp) ?_
            refine' AllReadyH.cons (o := _) ?_ (fun K hK => ?_) AllReadyH.nil
            rotate_left 1
            · (simp only [List.getElem?_toArray, List.getElem?_cons_succ, List.getElem?_cons_zero]; rfl)
            go_simp
            replace hHeld := ((((hHeld.set hx 0 (.int .i64 o)).set hx 1 (.int .i64 l)).set hx 2 (.int .i64 cl)).set hx 3 (.int .i64 r)).set hx 4 (.int .i64 q)
            replace hR := ((((hR.set nr 0 (.int .i64 o)).set nr 1 (.int .i64 l)).set nr 2 (.int .i64 cl)).set nr 3 (.int .i64 r)).set nr 4 (.int .i64 q)
            replace hX := ((((hX.set 0 (.int .i64 o)).set 1 (.int .i64 l)).set 2 (.int .i64 cl)).set 3 (.int .i64 r)).set 4 (.int .i64 q)
            replace hY := ((((hY.other nxy 0 (.int .i64 o)).other nxy 1 (.int .i64 l)).other nxy 2 (.int .i64 cl)).other nxy 3 (.int .i64 r)).other nxy 4 (.int .i64 q)
            generalize hW : World.setCell _ _ _ = V at *
            clear hW
            refine hK.out _ _ ⟨⟨hHeld, (hHeld).c0, (hHeld).c1, (hHeld).c2, (hHeld).c3⟩, hR.f, hR.t⟩ (fun _ => ?_)
            clear hK K q0 q1 q2 q3 q4 gq p0 p1 gp
            have p0 : V.cell? ⟨yy, 0, none⟩ = some (.int .i64 0) := hY.cell 0
            have p1 : V.cell? ⟨yy, 1, none⟩ = some (.int .i64 0) := hY.cell 1
            have gp : ∀ j, V.frozen? ⟨yy, j, none⟩ = false := hY.free
            refine wpAnyH_ready (rs := [10]) (by kernel_rfl) (by simp) ?_
            refine' AllReadyH.cons (o := _) ?_ (fun K hK => ?_) AllReadyH.nil
            rotate_left 1
            · (simp only [List.getElem?_toArray, List.getElem?_cons_succ, List.getElem?_cons_zero]; rfl)
            go_simp
            replace hHeld := (hHeld.set hy 0 (.int .i64 F)).set hy 1 (.int .i64 T)
            replace hR := (hR.set nr2 0 (.int .i64 F)).set nr2 1 (.int .i64 T)
            replace hX := (hX.other nxy.symm 0 (.int .i64 F)).other nxy.symm 1 (.int .i64 T)
            replace hY := (hY.set 0 (.int .i64 F)).set 1 (.int .i64 T)
            refine hK.out _ _ ⟨⟨hHeld, (hHeld).c0, (hHeld).c1, (hHeld).c2, (hHeld).c3⟩, hR.f, hR.t⟩ (fun _ => ?_)
            clear hK K p0 p1 gp
            refine wpAnyH_done (by kernel_rfl) ?_ _
            go_wp2_with fail
            go_meet
            exact ⟨_, _, rfl, rfl, hx, hy, nxy, hX, hY, hHeld.hb⟩
        · go_simp
          have hb := below_alloc W_81 (.cells #[.int .i64 0, .int .i64 0, .int .i64 0, .int .i64 0, .int .i64 0] 23)
          have hX : Row (W_81.alloc (.cells #[.int .i64 0, .int .i64 0, .int .i64 0, .int .i64 0, .int .i64 0] 23)) W_81.heap.size #[.int .i64 0, .int .i64 0, .int .i64 0, .int .i64 0, .int .i64 0] 23 := Row.new
          have hx := hHeld.lt
          have hxy := Row.lt hY
          replace hHeld := hHeld.on hb
          replace hY := hY.on hb
          clear hb
          generalize hW : W_81.alloc _ = W_817 at *
          clear hW
          generalize W_81.heap.size = xx at hX hx hxy ⊢
          refine hK.out _ _ ⟨hHeld, (hHeld).c0, (hHeld).c1, (hHeld).c2, (hHeld).c3⟩ (fun _ => ?_)
          clear hK K
          refine wpAnyH_ready (rs := [2]) (by kernel_rfl) (by simp) ?_
          refine' AllReadyH.cons (o := _) (by simp only [List.getElem?_toArray, List.getElem?_cons_succ, List.getElem?_cons_zero]; rfl) (fun K hK => ?_) AllReadyH.nil
          · go_simp
            refine (C2.out _).mono ?_
            rintro e W_8172 ⟨rr, rfl, hr0, hr1, hr2, hr3, hb⟩
            have hR : At W_8172 rr Q F T := ⟨hr1, hr2, hr3⟩
            have hrx : xx < rr := Nat.lt_of_lt_of_le hX.lt hr0
            have hry : yy < rr := Nat.lt_of_lt_of_le hY.lt hr0
            replace hHeld := hHeld.on hb
            replace hX := hX.on hb
            replace hY := hY.on hb
            clear hb
            try go_simp
            refine hK.out _ _ ⟨hHeld, (hHeld).c0, (hHeld).c1, (hHeld).c2, (hHeld).c3⟩ (fun _ => ?_)
            clear hK K
            refine wpAnyH_more (S' := fun W' => (Reg w W' a b c d ∧ W'.cell? ⟨w.heap.size, 0, none⟩ = some (.int .u16 a) ∧ W'.cell? ⟨w.heap.size, 1, none⟩ = some (.int .u16 b) ∧ W'.cell? ⟨w.heap.size, 2, none⟩ = some (.int .u16 c) ∧ W'.cell? ⟨w.heap.size, 3, none⟩ = some (.int .u16 d)) ∧ W'.cell? ⟨rr, Q * 2, none⟩ = some (.int .i64 F) ∧ W'.cell? ⟨rr, Q * 2 + 1, none⟩ = some (.int .i64 T)) (fun _ h => h.1) ⟨⟨hHeld, (hHeld).c0, (hHeld).c1, (hHeld).c2, (hHeld).c3⟩, hR.f, hR.t⟩ (fun hHeld2 => ?_)
            refine' wpAnyH_take (i := 5) (oi := _) (v := _) ?_ (by kernel_rfl) (by kernel_rfl) (by kernel_rfl) ?_ (Or.inl ⟨?_, ?_⟩) (by assumption) ?_
            rotate_left 2
            · (simp only [List.getElem?_toArray, List.getElem?_cons_succ, List.getElem?_cons_zero]; rfl)
            · exact fun _ _ _ h => h
            · rfl
            · (intro W hSW; (try dsimp only at hSW); go_split_ands; first | (go_simp; done) | (go_simp; with_reducible rfl))
            try simp only [Act.put, List.setIfInBounds_toArray, List.set_cons_zero, List.set_cons_succ]
            refine' wpAnyH_take (i := 6) (oi := _) (v := _) ?_ (by kernel_rfl) (by kernel_rfl) (by kernel_rfl) ?_ (Or.inl ⟨?_, ?_⟩) (by assumption) ?_
            rotate_left 2
            · (simp only [List.getElem?_toArray, List.getElem?_cons_succ, List.getElem?_cons_zero]; rfl)
            · exact fun _ _ _ h => h
            · rfl
            · (intro W hSW; (try dsimp only at hSW); go_split_ands; first | (go_simp; done) | (go_simp; with_reducible rfl))
            try simp only [Act.put, List.setIfInBounds_toArray, List.set_cons_zero, List.set_cons_succ]
            clear hr0 hr1 hr2 hr3
            have lx := hX.lt
            have ly := hY.lt
            have nx : xx ≠ w.heap.size := by omega
            have ny : yy ≠ w.heap.size := by omega
            have nr : xx ≠ rr := by omega
            have nr2 : yy ≠ rr := by omega
            have nxy : xx ≠ yy := by omega
            have q0 : W_8172.cell? ⟨xx, 0, none⟩ = some (.int .i64 0) := hX.cell 0
            have q1 : W_8172.cell? ⟨xx, 1, none⟩ = some (.int .i64 0) := hX.cell 1
            have q2 : W_8172.cell? ⟨xx, 2, none⟩ = some (.int .i64 0) := hX.cell 2
            have q3 : W_8172.cell? ⟨xx, 3, none⟩ = some (.int .i64 0) := hX.cell 3
            have q4 : W_8172.cell? ⟨xx, 4, none⟩ = some (.int .i64 0) := hX.cell 4
            have p0 : W_8172.cell? ⟨yy, 0, none⟩ = some (.int .i64 0) := hY.cell 0
            have p1 : W_8172.cell? ⟨yy, 1, none⟩ = some (.int .i64 0) := hY.cell 1
            have gq : ∀ j, W_8172.frozen? ⟨xx, j, none⟩ = false := hX.free
            have gp : ∀ j, W_8172.frozen? ⟨yy, j, none⟩ = false := hY.free
            clear hxy hrx hry
            refine wpAnyH_ready (rs := [9]) (by kernel_rfl) (by simp) ?_
            refine' AllReadyH.cons (o := _) ?_ (fun K hK => ?_) AllReadyH.nil
            rotate_left 1
            · (simp only [List.getElem?_toArray, List.getElem?_cons_succ, List.getElem?_cons_zero]; rfl)
            go_simp
            replace hHeld := ((((hHeld.set hx 0 (.int .i64 o)).set hx 1 (.int .i64 l)).set hx 2 (.int .i64 cl)).set hx 3 (.int .i64 r)).set hx 4 (.int .i64 q)
            replace hR := ((((hR.set nr 0 (.int .i64 o)).set nr 1 (.int .i64 l)).set nr 2 (.int .i64 cl)).set nr 3 (.int .i64 r)).set nr 4 (.int .i64 q)
            replace hX := ((((hX.set 0 (.int .i64 o)).set 1 (.int .i64 l)).set 2 (.int .i64 cl)).set 3 (.int .i64 r)).set 4 (.int .i64 q)
            replace hY := ((((hY.other nxy 0 (.int .i64 o)).other nxy 1 (.int .i64 l)).other nxy 2 (.int .i64 cl)).other nxy 3 (.int .i64 r)).other nxy 4 (.int .i64 q)
            generalize hW : World.setCell _ _ _ = V at *
            clear hW
            refine hK.out _ _ ⟨⟨hHeld, (hHeld).c0, (hHeld).c1, (hHeld).c2, (hHeld).c3⟩, hR.f, hR.t⟩ (fun _ => ?_)
            clear hK K q0 q1 q2 q3 q4 gq p0 p1 gp
            have p0 : V.cell? ⟨yy, 0, none⟩ = some (.int .i64 0) := hY.cell 0
            have p1 : V.cell? ⟨yy, 1, none⟩ = some (.int .i64 0) := hY.cell 1
            have gp : ∀ j, V.frozen? ⟨yy, j, none⟩ = false := hY.free
            refine wpAnyH_ready (rs := [10]) (by kernel_rfl) (by simp) ?_
            refine' AllReadyH.cons (o := _) ?_ (fun K hK => ?_) AllReadyH.nil
            rotate_left 1
            · (simp only [List.getElem?_toArray, List.getElem?_cons_succ, List.getElem?_cons_zero]; rfl)
            go_simp
            replace hHeld := (hHeld.set hy 0 (.int .i64 F)).set hy 1 (.int .i64 T)
            replace hR := (hR.set nr2 0 (.int .i64 F)).set nr2 1 (.int .i64 T)
            replace hX := (hX.other nxy.symm 0 (.int .i64 F)).other nxy.symm 1 (.int .i64 T)
            replace hY := (hY.set 0 (.int .i64 F)).set 1 (.int .i64 T)
            refine hK.out _ _ ⟨⟨hHeld, (hHeld).c0, (hHeld).c1, (hHeld).c2, (hHeld).c3⟩, hR.f, hR.t⟩ (fun _ => ?_)
            clear hK K p0 p1 gp
            refine wpAnyH_done (by kernel_rfl) ?_ _
            go_wp2_with fail
            go_meet
            exact ⟨_, _, rfl, rfl, hx, hy, nxy, hX, hY, hHeld.hb⟩
      · go_simp
        have hb := below_alloc W_8 (.cells #[.int .i64 0, .int .i64 0, .int .i64 0, .int .i64 0, .int .i64 0] 23)
        have hX : Row (W_8.alloc (.cells #[.int .i64 0, .int .i64 0, .int .i64 0, .int .i64 0, .int .i64 0] 23)) W_8.heap.size #[.int .i64 0, .int .i64 0, .int .i64 0, .int .i64 0, .int .i64 0] 23 := Row.new
        have hx := hHeld.lt
        have hxy := Row.lt hY
        replace hHeld := hHeld.on hb
        replace hY := hY.on hb
        clear hb
        generalize hW : W_8.alloc _ = W_87 at *
        clear hW
        generalize W_8.heap.size = xx at hX hx hxy ⊢
        refine hK.out _ _ ⟨hHeld, (hHeld).c0, (hHeld).c1, (hHeld).c2, (hHeld).c3⟩ (fun _ => ?_)
        clear hK K
        refine wpAnyH_ready (rs := [1]) (by kernel_rfl) (by simp) ?_
        refine' AllReadyH.cons (o := _) (by simp only [List.getElem?_toArray, List.getElem?_cons_succ, List.getElem?_cons_zero]; rfl) (fun K hK => ?_) AllReadyH.nil
        · go_simp
          refine (C1.out _).mono ?_
          rintro e W_871 ⟨rfl, hb⟩
          replace hHeld := hHeld.on hb
          replace hX := hX.on hb
          replace hY := hY.on hb
          clear hb
          try go_simp
          refine hK.out _ _ ⟨hHeld, (hHeld).c0, (hHeld).c1, (hHeld).c2, (hHeld).c3⟩ (fun _ => ?_)
          clear hK K
          refine wpAnyH_ready (rs := [2]) (by kernel_rfl) (by simp) ?_
          refine' AllReadyH.cons (o := _) (by simp only [List.getElem?_toArray, List.getElem?_cons_succ, List.getElem?_cons_zero]; rfl) (fun K hK => ?_) AllReadyH.nil
          · go_simp
            refine (C2.out _).mono ?_
            rintro e W_8712 ⟨rr, rfl, hr0, hr1, hr2, hr3, hb⟩
            have hR : At W_8712 rr Q F T := ⟨hr1, hr2, hr3⟩
            have hrx : xx < rr := Nat.lt_of_lt_of_le hX.lt hr0
            have hry : yy < rr := Nat.lt_of_lt_of_le hY.lt hr0
            replace hHeld := hHeld.on hb
            replace hX := hX.on hb
            replace hY := hY.on hb
            clear hb
            try go_simp
            refine hK.out _ _ ⟨hHeld, (hHeld).c0, (hHeld).c1, (hHeld).c2, (hHeld).c3⟩ (fun _ => ?_)
            clear hK K
            refine wpAnyH_more (S' := fun W' => (Reg w W' a b c d ∧ W'.cell? ⟨w.heap.size, 0, none⟩ = some (.int .u16 a) ∧ W'.cell? ⟨w.heap.size, 1, none⟩ = some (.int .u16 b) ∧ W'.cell? ⟨w.heap.size, 2, none⟩ = some (.int .u16 c) ∧ W'.cell? ⟨w.heap.size, 3, none⟩ = some (.int .u16 d)) ∧ W'.cell? ⟨rr, Q * 2, none⟩ = some (.int .i64 F) ∧ W'.cell? ⟨rr, Q * 2 + 1, none⟩ = some (.int .i64 T)) (fun _ h => h.1) ⟨⟨hHeld, (hHeld).c0, (hHeld).c1, (hHeld).c2, (hHeld).c3⟩, hR.f, hR.t⟩ (fun hHeld2 => ?_)
            refine' wpAnyH_take (i := 5) (oi := _) (v := _) ?_ (by kernel_rfl) (by kernel_rfl) (by kernel_rfl) ?_ (Or.inl ⟨?_, ?_⟩) (by assumption) ?_
            rotate_left 2
            · (simp only [List.getElem?_toArray, List.getElem?_cons_succ, List.getElem?_cons_zero]; rfl)
            · exact fun _ _ _ h => h
            · rfl
            · (intro W hSW; (try dsimp only at hSW); go_split_ands; first | (go_simp; done) | (go_simp; with_reducible rfl))
            try simp only [Act.put, List.setIfInBounds_toArray, List.set_cons_zero, List.set_cons_succ]
            refine' wpAnyH_take (i := 6) (oi := _) (v := _) ?_ (by kernel_rfl) (by kernel_rfl) (by kernel_rfl) ?_ (Or.inl ⟨?_, ?_⟩) (by assumption) ?_
            rotate_left 2
            · (simp only [List.getElem?_toArray, List.getElem?_cons_succ, List.getElem?_cons_zero]; rfl)
            · exact fun _ _ _ h => h
            · rfl
            · (intro W hSW; (try dsimp only at hSW); go_split_ands; first | (go_simp; done) | (go_simp; with_reducible rfl))
            try simp only [Act.put, List.setIfInBounds_toArray, List.set_cons_zero, List.set_cons_succ]
            clear hr0 hr1 hr2 hr3
            have lx := hX.lt
            have ly := hY.lt
            have nx : xx ≠ w.heap.size := by omega
            have ny : yy ≠ w.heap.size := by omega
            have nr : xx ≠ rr := by omega
            have nr2 : yy ≠ rr := by omega
            have nxy : xx ≠ yy := by omega
            have q0 : W_8712.cell? ⟨xx, 0, none⟩ = some (.int .i64 0) := hX.cell 0
            have q1 : W_8712.cell? ⟨xx, 1, none⟩ = some (.int .i64 0) := hX.cell 1
            have q2 : W_8712.cell? ⟨xx, 2, none⟩ = some (.int .i64 0) := hX.cell 2
            have q3 : W_8712.cell? ⟨xx, 3, none⟩ = some (.int .i64 0) := hX.cell 3
            have q4 : W_8712.cell? ⟨xx, 4, none⟩ = some (.int .i64 0) := hX.cell 4
            have p0 : W_8712.cell? ⟨yy, 0, none⟩ = some (.int .i64 0) := hY.cell 0
            have p1 : W_8712.cell? ⟨yy, 1, none⟩ = some (.int .i64 0) := hY.cell 1
            have gq : ∀ j, W_8712.frozen? ⟨xx, j, none⟩ = false := hX.free
            have gp : ∀ j, W_8712.frozen? ⟨yy, j, none⟩ = false := hY.free
            clear hxy hrx hry
            refine wpAnyH_ready (rs := [9]) (by kernel_rfl) (by simp) ?_
            refine' AllReadyH.cons (o := _) ?_ (fun K hK => ?_) AllReadyH.nil
            rotate_left 1
            · (simp only [List.getElem?_toArray, List.getElem?_cons_succ, List.getElem?_cons_zero]; rfl)
            go_simp
            replace hHeld := ((((hHeld.set hx 0 (.int .i64 o)).set hx 1 (.int .i64 l)).set hx 2 (.int .i64 cl)).set hx 3 (.int .i64 r)).set hx 4 (.int .i64 q)
            replace hR := ((((hR.set nr 0 (.int .i64 o)).set nr 1 (.int .i64 l)).set nr 2 (.int .i64 cl)).set nr 3 (.int .i64 r)).set nr 4 (.int .i64 q)
            replace hX := ((((hX.set 0 (.int .i64 o)).set 1 (.int .i64 l)).set 2 (.int .i64 cl)).set 3 (.int .i64 r)).set 4 (.int .i64 q)
            replace hY := ((((hY.other nxy 0 (.int .i64 o)).other nxy 1 (.int .i64 l)).other nxy 2 (.int .i64 cl)).other nxy 3 (.int .i64 r)).other nxy 4 (.int .i64 q)
            generalize hW : World.setCell _ _ _ = V at *
            clear hW
            refine hK.out _ _ ⟨⟨hHeld, (hHeld).c0, (hHeld).c1, (hHeld).c2, (hHeld).c3⟩, hR.f, hR.t⟩ (fun _ => ?_)
            clear hK K q0 q1 q2 q3 q4 gq p0 p1 gp
            have p0 : V.cell? ⟨yy, 0, none⟩ = some (.int .i64 0) := hY.cell 0
            have p1 : V.cell? ⟨yy, 1, none⟩ = some (.int .i64 0) := hY.cell 1
            have gp : ∀ j, V.frozen? ⟨yy, j, none⟩ = false := hY.free
            refine wpAnyH_ready (rs := [10]) (by kernel_rfl) (by simp) ?_
            refine' AllReadyH.cons (o := _) ?_ (fun K hK => ?_) AllReadyH.nil
            rotate_left 1
            · (simp only [List.getElem?_toArray, List.getElem?_cons_succ, List.getElem?_cons_zero]; rfl)
            go_simp
            replace hHeld := (hHeld.set hy 0 (.int .i64 F)).set hy 1 (.int .i64 T)
            replace hR := (hR.set nr2 0 (.int .i64 F)).set nr2 1 (.int .i64 T)
            replace hX := (hX.other nxy.symm 0 (.int .i64 F)).other nxy.symm 1 (.int .i64 T)
            replace hY := (hY.set 0 (.int .i64 F)).set 1 (.int .i64 T)
            refine hK.out _ _ ⟨⟨hHeld, (hHeld).c0, (hHeld).c1, (hHeld).c2, (hHeld).c3⟩, hR.f, hR.t⟩ (fun _ => ?_)
            clear hK K p0 p1 gp
            refine wpAnyH_done (by kernel_rfl) ?_ _
            go_wp2_with fail
            go_meet
            exact ⟨_, _, rfl, rfl, hx, hy, nxy, hX, hY, hHeld.hb⟩
  case rest =>
    obtain ⟨x, y, rfl, rfl, hx, hy, hxy, hX, hY, hc0⟩ := hcut
    have x0 := hX.cell 0
    have x1 := hX.cell 1
    have x2 := hX.cell 2
    have x3 := hX.cell 3
    have x4 := hX.cell 4
    have y0 := hY.cell 0
    have y1 := hY.cell 1
    simp only [List.getElem?_toArray, List.getElem?_cons_succ, List.getElem?_cons_zero] at x0 x1 x2 x3 x4 y0 y1
    have lx := hX.lt
    have ly := hY.lt
    clear hX hY hxy hx hy hh hw0 hw1 hq5 hQ C1 C2
    cases hout
    case over e a_ =>
      have A := Lib.hid a_
      clear a_
      have e0 : (o == 10000) = true := by rw [e]; rfl
      clear e
      go_wp2_with fail
      refine Calls.mono (A.out _) ?_
      rintro e w1 ⟨rfl, hb1⟩
      obtain ⟨kk, ff⟩ := bcell hb1
      have hc1 : Below w.heap.size w w1 := under hb1
      have k1_0 : ∀ o, w1.cell? ⟨x, o, none⟩ = _ := fun o => kk _ o (by first | assumption | omega | (simp; done) | (simp; omega))
      have f1_0 : ∀ o, w1.frozen? ⟨x, o, none⟩ = _ := fun o => ff _ o (by first | assumption | omega | (simp; done) | (simp; omega))
      have z1_0 : x < w1.heap.size := by have := hb1.size; (try simp at this); omega
      have k1_1 : ∀ o, w1.cell? ⟨y, o, none⟩ = _ := fun o => kk _ o (by first | assumption | omega | (simp; done) | (simp; omega))
      have f1_1 : ∀ o, w1.frozen? ⟨y, o, none⟩ = _ := fun o => ff _ o (by first | assumption | omega | (simp; done) | (simp; omega))
      have z1_1 : y < w1.heap.size := by have := hb1.size; (try simp at this); omega
      clear kk ff
      have hs1 := hc1.size
      clear hc0 hb1
      go_wp2_with fail
      refine Calls.mono (works _ (hE.on (by go_grown))) ?_
      rintro e w2 ⟨rfl, hb2⟩
      obtain ⟨kk, ff⟩ := bcell hb2
      have hc2 : Below w.heap.size w w2 := under hb2
      clear kk ff
      have hs2 := hc2.size
      clear hc1 hb2
      go_wp2_with fail
      go_returns
      exact ⟨rfl, by go_grown⟩
    case no1 e a_ =>
      have A := Lib.hid a_
      clear a_
      subst e
      go_wp2_with fail
      refine Calls.mono (A.out _) ?_
      rintro e w1 ⟨rfl, hb1⟩
      obtain ⟨kk, ff⟩ := bcell hb1
      have hc1 : Below w.heap.size w w1 := under hb1
      have k1_0 : ∀ o, w1.cell? ⟨x, o, none⟩ = _ := fun o => kk _ o (by first | assumption | omega | (simp; done) | (simp; omega))
      have f1_0 : ∀ o, w1.frozen? ⟨x, o, none⟩ = _ := fun o => ff _ o (by first | assumption | omega | (simp; done) | (simp; omega))
      have z1_0 : x < w1.heap.size := by have := hb1.size; (try simp at this); omega
      have k1_1 : ∀ o, w1.cell? ⟨y, o, none⟩ = _ := fun o => kk _ o (by first | assumption | omega | (simp; done) | (simp; omega))
      have f1_1 : ∀ o, w1.frozen? ⟨y, o, none⟩ = _ := fun o => ff _ o (by first | assumption | omega | (simp; done) | (simp; omega))
      have z1_1 : y < w1.heap.size := by have := hb1.size; (try simp at this); omega
      clear kk ff
      have hs1 := hc1.size
      clear hc0 hb1
      go_wp2_with fail
      refine Calls.mono (works _ (hE.on (by go_grown))) ?_
      rintro e w2 ⟨rfl, hb2⟩
      obtain ⟨kk, ff⟩ := bcell hb2
      have hc2 : Below w.heap.size w w2 := under hb2
      clear kk ff
      have hs2 := hc2.size
      clear hc1 hb2
      go_wp2_with fail
      go_returns
      exact ⟨rfl, by go_grown⟩
    case no22 e a_ =>
      have A := Lib.hid a_
      clear a_
      subst e
      go_wp2_with fail
      refine Calls.mono (A.out _) ?_
      rintro e w1 ⟨rfl, hb1⟩
      obtain ⟨kk, ff⟩ := bcell hb1
      have hc1 : Below w.heap.size w w1 := under hb1
      have k1_0 : ∀ o, w1.cell? ⟨x, o, none⟩ = _ := fun o => kk _ o (by first | assumption | omega | (simp; done) | (simp; omega))
      have f1_0 : ∀ o, w1.frozen? ⟨x, o, none⟩ = _ := fun o => ff _ o (by first | assumption | omega | (simp; done) | (simp; omega))
      have z1_0 : x < w1.heap.size := by have := hb1.size; (try simp at this); omega
      have k1_1 : ∀ o, w1.cell? ⟨y, o, none⟩ = _ := fun o => kk _ o (by first | assumption | omega | (simp; done) | (simp; omega))
      have f1_1 : ∀ o, w1.frozen? ⟨y, o, none⟩ = _ := fun o => ff _ o (by first | assumption | omega | (simp; done) | (simp; omega))
      have z1_1 : y < w1.heap.size := by have := hb1.size; (try simp at this); omega
      clear kk ff
      have hs1 := hc1.size
      clear hc0 hb1
      go_wp2_with fail
      refine Calls.mono (works _ (hE.on (by go_grown))) ?_
      rintro e w2 ⟨rfl, hb2⟩
      obtain ⟨kk, ff⟩ := bcell hb2
      have hc2 : Below w.heap.size w w2 := under hb2
      clear kk ff
      have hs2 := hc2.size
      clear hc1 hb2
      go_wp2_with fail
      go_returns
      exact ⟨rfl, by go_grown⟩
    case no23 e a_ =>
      have A := Lib.hid a_
      clear a_
      subst e
      go_wp2_with fail
      refine Calls.mono (A.out _) ?_
      rintro e w1 ⟨rfl, hb1⟩
      obtain ⟨kk, ff⟩ := bcell hb1
      have hc1 : Below w.heap.size w w1 := under hb1
      have k1_0 : ∀ o, w1.cell? ⟨x, o, none⟩ = _ := fun o => kk _ o (by first | assumption | omega | (simp; done) | (simp; omega))
      have f1_0 : ∀ o, w1.frozen? ⟨x, o, none⟩ = _ := fun o => ff _ o (by first | assumption | omega | (simp; done) | (simp; omega))
      have z1_0 : x < w1.heap.size := by have := hb1.size; (try simp at this); omega
      have k1_1 : ∀ o, w1.cell? ⟨y, o, none⟩ = _ := fun o => kk _ o (by first | assumption | omega | (simp; done) | (simp; omega))
      have f1_1 : ∀ o, w1.frozen? ⟨y, o, none⟩ = _ := fun o => ff _ o (by first | assumption | omega | (simp; done) | (simp; omega))
      have z1_1 : y < w1.heap.size := by have := hb1.size; (try simp at this); omega
      clear kk ff
      have hs1 := hc1.size
      clear hc0 hb1
      go_wp2_with fail
      refine Calls.mono (works _ (hE.on (by go_grown))) ?_
      rintro e w2 ⟨rfl, hb2⟩
      obtain ⟨kk, ff⟩ := bcell hb2
      have hc2 : Below w.heap.size w w2 := under hb2
      clear kk ff
      have hs2 := hc2.size
      clear hc1 hb2
      go_wp2_with fail
      go_returns
      exact ⟨rfl, by go_grown⟩
    case no24 e a_ =>
      have A := Lib.hid a_
      clear a_
      subst e
      go_wp2_with fail
      refine Calls.mono (A.out _) ?_
      rintro e w1 ⟨rfl, hb1⟩
      obtain ⟨kk, ff⟩ := bcell hb1
      have hc1 : Below w.heap.size w w1 := under hb1
      have k1_0 : ∀ o, w1.cell? ⟨x, o, none⟩ = _ := fun o => kk _ o (by first | assumption | omega | (simp; done) | (simp; omega))
      have f1_0 : ∀ o, w1.frozen? ⟨x, o, none⟩ = _ := fun o => ff _ o (by first | assumption | omega | (simp; done) | (simp; omega))
      have z1_0 : x < w1.heap.size := by have := hb1.size; (try simp at this); omega
      have k1_1 : ∀ o, w1.cell? ⟨y, o, none⟩ = _ := fun o => kk _ o (by first | assumption | omega | (simp; done) | (simp; omega))
      have f1_1 : ∀ o, w1.frozen? ⟨y, o, none⟩ = _ := fun o => ff _ o (by first | assumption | omega | (simp; done) | (simp; omega))
      have z1_1 : y < w1.heap.size := by have := hb1.size; (try simp at this); omega
      clear kk ff
      have hs1 := hc1.size
      clear hc0 hb1
      go_wp2_with fail
      refine Calls.mono (works _ (hE.on (by go_grown))) ?_
      rintro e w2 ⟨rfl, hb2⟩
      obtain ⟨kk, ff⟩ := bcell hb2
      have hc2 : Below w.heap.size w w2 := under hb2
      clear kk ff
      have hs2 := hc2.size
      clear hc1 hb2
      go_wp2_with fail
      go_returns
      exact ⟨rfl, by go_grown⟩
    case open_ ua ub e a_ g =>
      have A := Lib.hid a_
      have K := Lib.hid g.chk
      have U := Lib.hid g.u
      have V := Lib.hid g.v
      obtain ⟨-, -, -, a0, a1, b0, b1, d0, l0, l1, c0, c1, r0, r1, q0, q1⟩ := g
      clear a_
      go_wp2_with fail
      refine Calls.mono (A.out _) ?_
      rintro e w1 ⟨rfl, hb1⟩
      obtain ⟨kk, ff⟩ := bcell hb1
      have hc1 : Below w.heap.size w w1 := under hb1
      have k1_0 : ∀ o, w1.cell? ⟨x, o, none⟩ = _ := fun o => kk _ o (by first | assumption | omega | (simp; done) | (simp; omega))
      have f1_0 : ∀ o, w1.frozen? ⟨x, o, none⟩ = _ := fun o => ff _ o (by first | assumption | omega | (simp; done) | (simp; omega))
      have z1_0 : x < w1.heap.size := by have := hb1.size; (try simp at this); omega
      have k1_1 : ∀ o, w1.cell? ⟨y, o, none⟩ = _ := fun o => kk _ o (by first | assumption | omega | (simp; done) | (simp; omega))
      have f1_1 : ∀ o, w1.frozen? ⟨y, o, none⟩ = _ := fun o => ff _ o (by first | assumption | omega | (simp; done) | (simp; omega))
      have z1_1 : y < w1.heap.size := by have := hb1.size; (try simp at this); omega
      clear kk ff
      have hs1 := hc1.size
      clear hc0 hb1
      go_wp2_with fail
      refine Calls.mono (K.out _) ?_
      rintro e w2 ⟨rfl, hb2⟩
      obtain ⟨kk, ff⟩ := bcell hb2
      have hc2 : Below w.heap.size w w2 := under hb2
      have k2_0 : ∀ o, w2.cell? ⟨x, o, none⟩ = _ := fun o => kk _ o (by first | assumption | omega | (simp; done) | (simp; omega))
      have f2_0 : ∀ o, w2.frozen? ⟨x, o, none⟩ = _ := fun o => ff _ o (by first | assumption | omega | (simp; done) | (simp; omega))
      have z2_0 : x < w2.heap.size := by have := hb2.size; (try simp at this); omega
      have k2_1 : ∀ o, w2.cell? ⟨y, o, none⟩ = _ := fun o => kk _ o (by first | assumption | omega | (simp; done) | (simp; omega))
      have f2_1 : ∀ o, w2.frozen? ⟨y, o, none⟩ = _ := fun o => ff _ o (by first | assumption | omega | (simp; done) | (simp; omega))
      have z2_1 : y < w2.heap.size := by have := hb2.size; (try simp at this); omega
      have k2_2 : ∀ o, w2.cell? ⟨w1.heap.size, o, none⟩ = _ := fun o => kk _ o (by first | assumption | omega | (simp; done) | (simp; omega))
      have f2_2 : ∀ o, w2.frozen? ⟨w1.heap.size, o, none⟩ = _ := fun o => ff _ o (by first | assumption | omega | (simp; done) | (simp; omega))
      have z2_2 : w1.heap.size < w2.heap.size := by have := hb2.size; (try simp at this); omega
      have k2_3 : ∀ o, w2.cell? ⟨w1.heap.size+1, o, none⟩ = _ := fun o => kk _ o (by first | assumption | omega | (simp; done) | (simp; omega))
      have f2_3 : ∀ o, w2.frozen? ⟨w1.heap.size+1, o, none⟩ = _ := fun o => ff _ o (by first | assumption | omega | (simp; done) | (simp; omega))
      have z2_3 : w1.heap.size+1 < w2.heap.size := by have := hb2.size; (try simp at this); omega
      clear kk ff
      have hs2 := hc2.size
      clear hc1 hb2
      go_wp2_with fail
      refine wp_loop_rounds 5 ?_
      rw [rounds_succ]
      go_wp2_with fail
      refine wp_region_held_drew (S := fun W' => W'.cell? ⟨w2.heap.size, 1, none⟩ = some (.int .i64 (l + 1)) ∧ W'.cell? ⟨w1.heap.size + 1, 1, none⟩ = some (.int .i64 (l + 1))) (by kernel_rfl) ?_ (fun hHeld => ?_)
      · constructor <;> go_simp
      refine' wpAnyH_take (i := 0) (oi := _) (v := _) ?_ (by kernel_rfl) (by kernel_rfl) (by kernel_rfl) ?_ (Or.inl ⟨?_, ?_⟩) (by assumption) ?_
      rotate_left 2
      · (simp only [List.getElem?_toArray, List.getElem?_cons_succ, List.getElem?_cons_zero]; rfl)
      · exact fun _ _ _ h => h
      · rfl
      · (intro W hSW; (try dsimp only at hSW); go_split_ands; first | (go_simp; done) | (go_simp; with_reducible rfl))
      try simp only [Act.put, List.setIfInBounds_toArray, List.set_cons_zero, List.set_cons_succ]
      refine' wpAnyH_take (i := 1) (oi := _) (v := _) ?_ (by kernel_rfl) (by kernel_rfl) (by kernel_rfl) ?_ (Or.inl ⟨?_, ?_⟩) (by assumption) ?_
      rotate_left 2
      · (simp only [List.getElem?_toArray, List.getElem?_cons_succ, List.getElem?_cons_zero]; rfl)
      · exact fun _ _ _ h => h
      · rfl
      · (intro W hSW; (try dsimp only at hSW); go_split_ands; first | (go_simp; done) | (go_simp; with_reducible rfl))
      try simp only [Act.put, List.setIfInBounds_toArray, List.set_cons_zero, List.set_cons_succ]
      refine' wpAnyH_take (i := 2) (oi := _) (v := _) ?_ (by kernel_rfl) (by kernel_rfl) (by kernel_rfl) ?_ (Or.inl ⟨?_, ?_⟩) (by assumption) ?_
      rotate_left 2
      · (simp only [List.getElem?_toArray, List.getElem?_cons_succ, List.getElem?_cons_zero]; rfl)
      · exact fun _ _ _ h => h
      · rfl
      · (intro W hSW; (try dsimp only at hSW); go_split_ands; first | (go_simp; done) | (go_simp; with_reducible rfl))
      try simp only [Act.put, List.setIfInBounds_toArray, List.set_cons_zero, List.set_cons_succ]
      refine' wpAnyH_take (i := 3) (oi := _) (v := _) ?_ (by kernel_rfl) (by kernel_rfl) (by kernel_rfl) ?_ (Or.inl ⟨?_, ?_⟩) (by assumption) ?_
      rotate_left 2
      · (simp only [List.getElem?_toArray, List.getElem?_cons_succ, List.getElem?_cons_zero]; rfl)
      · exact fun _ _ _ h => h
      · rfl
      · (intro W hSW; (try dsimp only at hSW); go_split_ands; first | (go_simp; done) | (go_simp; with_reducible rfl))
      try simp only [Act.put, List.setIfInBounds_toArray, List.set_cons_zero, List.set_cons_succ]
      refine' wpAnyH_take (i := 4) (oi := _) (v := _) ?_ (by kernel_rfl) (by kernel_rfl) (by kernel_rfl) ?_ (Or.inl ⟨?_, ?_⟩) (by assumption) ?_
      rotate_left 2
      · (simp only [List.getElem?_toArray, List.getElem?_cons_succ, List.getElem?_cons_zero]; rfl)
      · exact fun _ _ _ h => h
      · rfl
      · (intro W hSW; (try dsimp only at hSW); go_split_ands; first | (go_simp; done) | (go_simp; with_reducible rfl))
      try simp only [Act.put, List.setIfInBounds_toArray, List.set_cons_zero, List.set_cons_succ]
      refine' wpAnyH_take (i := 5) (oi := _) (v := _) ?_ (by kernel_rfl) (by kernel_rfl) (by kernel_rfl) ?_ (Or.inl ⟨?_, ?_⟩) (by assumption) ?_
      rotate_left 2
      · (simp only [List.getElem?_toArray, List.getElem?_cons_succ, List.getElem?_cons_zero]; rfl)
      · exact fun _ _ _ h => h
      · rfl
      · (intro W hSW; (try dsimp only at hSW); go_split_ands; first | (go_simp; done) | (go_simp; with_reducible rfl))
      try simp only [Act.put, List.setIfInBounds_toArray, List.set_cons_zero, List.set_cons_succ]
      refine' wpAnyH_take (i := 6) (oi := _) (v := _) ?_ (by kernel_rfl) (by kernel_rfl) (by kernel_rfl) ?_ (Or.inl ⟨?_, ?_⟩) (by assumption) ?_
      rotate_left 2
      · (simp only [List.getElem?_toArray, List.getElem?_cons_succ, List.getElem?_cons_zero]; rfl)
      · exact fun _ _ _ h => h
      · rfl
      · (intro W hSW; (try dsimp only at hSW); go_split_ands; first | (go_simp; done) | (go_simp; with_reducible rfl))
      try simp only [Act.put, List.setIfInBounds_toArray, List.set_cons_zero, List.set_cons_succ]
      refine' wpAnyH_take (i := 7) (oi := _) (v := _) ?_ (by kernel_rfl) (by kernel_rfl) (by kernel_rfl) ?_ (Or.inl ⟨?_, ?_⟩) (by assumption) ?_
      rotate_left 2
      · (simp only [List.getElem?_toArray, List.getElem?_cons_succ, List.getElem?_cons_zero]; rfl)
      · exact fun _ _ _ h => h
      · rfl
      · (intro W hSW; (try dsimp only at hSW); go_split_ands; first | (go_simp; done) | (go_simp; with_reducible rfl))
      try simp only [Act.put, List.setIfInBounds_toArray, List.set_cons_zero, List.set_cons_succ]
      refine' wpAnyH_take (i := 8) (oi := _) (v := _) ?_ (by kernel_rfl) (by kernel_rfl) (by kernel_rfl) ?_ (Or.inl ⟨?_, ?_⟩) (by assumption) ?_
      rotate_left 2
      · (simp only [List.getElem?_toArray, List.getElem?_cons_succ, List.getElem?_cons_zero]; rfl)
      · exact fun _ _ _ h => h
      · rfl
      · (intro W hSW; (try dsimp only at hSW); go_split_ands; first | (go_simp; done) | (go_simp; with_reducible rfl))
      try simp only [Act.put, List.setIfInBounds_toArray, List.set_cons_zero, List.set_cons_succ]
      clear hHeld
      refine wpAnyH_done (by kernel_rfl) ?_ _
      go_wp2_with fail
      rw [rounds_succ]
      go_wp2_with fail
      refine wp_region_held_drew (S := fun W' => W'.cell? ⟨w2.heap.size, 2, none⟩ = some (.int .i64 (cl)) ∧ W'.cell? ⟨w1.heap.size + 1, 2, none⟩ = some (.int .i64 (cl))) (by kernel_rfl) ?_ (fun hHeld => ?_)
      · constructor <;> go_simp
      refine' wpAnyH_take (i := 0) (oi := _) (v := _) ?_ (by kernel_rfl) (by kernel_rfl) (by kernel_rfl) ?_ (Or.inl ⟨?_, ?_⟩) (by assumption) ?_
      rotate_left 2
      · (simp only [List.getElem?_toArray, List.getElem?_cons_succ, List.getElem?_cons_zero]; rfl)
      · exact fun _ _ _ h => h
      · rfl
      · (intro W hSW; (try dsimp only at hSW); go_split_ands; first | (go_simp; done) | (go_simp; with_reducible rfl))
      try simp only [Act.put, List.setIfInBounds_toArray, List.set_cons_zero, List.set_cons_succ]
      refine' wpAnyH_take (i := 1) (oi := _) (v := _) ?_ (by kernel_rfl) (by kernel_rfl) (by kernel_rfl) ?_ (Or.inl ⟨?_, ?_⟩) (by assumption) ?_
      rotate_left 2
      · (simp only [List.getElem?_toArray, List.getElem?_cons_succ, List.getElem?_cons_zero]; rfl)
      · exact fun _ _ _ h => h
      · rfl
      · (intro W hSW; (try dsimp only at hSW); go_split_ands; first | (go_simp; done) | (go_simp; with_reducible rfl))
      try simp only [Act.put, List.setIfInBounds_toArray, List.set_cons_zero, List.set_cons_succ]
      refine' wpAnyH_take (i := 2) (oi := _) (v := _) ?_ (by kernel_rfl) (by kernel_rfl) (by kernel_rfl) ?_ (Or.inl ⟨?_, ?_⟩) (by assumption) ?_
      rotate_left 2
      · (simp only [List.getElem?_toArray, List.getElem?_cons_succ, List.getElem?_cons_zero]; rfl)
      · exact fun _ _ _ h => h
      · rfl
      · (intro W hSW; (try dsimp only at hSW); go_split_ands; first | (go_simp; done) | (go_simp; with_reducible rfl))
      try simp only [Act.put, List.setIfInBounds_toArray, List.set_cons_zero, List.set_cons_succ]
      refine' wpAnyH_take (i := 3) (oi := _) (v := _) ?_ (by kernel_rfl) (by kernel_rfl) (by kernel_rfl) ?_ (Or.inl ⟨?_, ?_⟩) (by assumption) ?_
      rotate_left 2
      · (simp only [List.getElem?_toArray, List.getElem?_cons_succ, List.getElem?_cons_zero]; rfl)
      · exact fun _ _ _ h => h
      · rfl
      · (intro W hSW; (try dsimp only at hSW); go_split_ands; first | (go_simp; done) | (go_simp; with_reducible rfl))
      try simp only [Act.put, List.setIfInBounds_toArray, List.set_cons_zero, List.set_cons_succ]
      refine' wpAnyH_take (i := 4) (oi := _) (v := _) ?_ (by kernel_rfl) (by kernel_rfl) (by kernel_rfl) ?_ (Or.inl ⟨?_, ?_⟩) (by assumption) ?_
      rotate_left 2
      · (simp only [List.getElem?_toArray, List.getElem?_cons_succ, List.getElem?_cons_zero]; rfl)
      · exact fun _ _ _ h => h
      · rfl
      · (intro W hSW; (try dsimp only at hSW); go_split_ands; first | (go_simp; done) | (go_simp; with_reducible rfl))
      try simp only [Act.put, List.setIfInBounds_toArray, List.set_cons_zero, List.set_cons_succ]
      refine' wpAnyH_take (i := 5) (oi := _) (v := _) ?_ (by kernel_rfl) (by kernel_rfl) (by kernel_rfl) ?_ (Or.inl ⟨?_, ?_⟩) (by assumption) ?_
      rotate_left 2
      · (simp only [List.getElem?_toArray, List.getElem?_cons_succ, List.getElem?_cons_zero]; rfl)
      · exact fun _ _ _ h => h
      · rfl
      · (intro W hSW; (try dsimp only at hSW); go_split_ands; first | (go_simp; done) | (go_simp; with_reducible rfl))
      try simp only [Act.put, List.setIfInBounds_toArray, List.set_cons_zero, List.set_cons_succ]
      refine' wpAnyH_take (i := 6) (oi := _) (v := _) ?_ (by kernel_rfl) (by kernel_rfl) (by kernel_rfl) ?_ (Or.inl ⟨?_, ?_⟩) (by assumption) ?_
      rotate_left 2
      · (simp only [List.getElem?_toArray, List.getElem?_cons_succ, List.getElem?_cons_zero]; rfl)
      · exact fun _ _ _ h => h
      · rfl
      · (intro W hSW; (try dsimp only at hSW); go_split_ands; first | (go_simp; done) | (go_simp; with_reducible rfl))
      try simp only [Act.put, List.setIfInBounds_toArray, List.set_cons_zero, List.set_cons_succ]
      refine' wpAnyH_take (i := 7) (oi := _) (v := _) ?_ (by kernel_rfl) (by kernel_rfl) (by kernel_rfl) ?_ (Or.inl ⟨?_, ?_⟩) (by assumption) ?_
      rotate_left 2
      · (simp only [List.getElem?_toArray, List.getElem?_cons_succ, List.getElem?_cons_zero]; rfl)
      · exact fun _ _ _ h => h
      · rfl
      · (intro W hSW; (try dsimp only at hSW); go_split_ands; first | (go_simp; done) | (go_simp; with_reducible rfl))
      try simp only [Act.put, List.setIfInBounds_toArray, List.set_cons_zero, List.set_cons_succ]
      refine' wpAnyH_take (i := 8) (oi := _) (v := _) ?_ (by kernel_rfl) (by kernel_rfl) (by kernel_rfl) ?_ (Or.inl ⟨?_, ?_⟩) (by assumption) ?_
      rotate_left 2
      · (simp only [List.getElem?_toArray, List.getElem?_cons_succ, List.getElem?_cons_zero]; rfl)
      · exact fun _ _ _ h => h
      · rfl
      · (intro W hSW; (try dsimp only at hSW); go_split_ands; first | (go_simp; done) | (go_simp; with_reducible rfl))
      try simp only [Act.put, List.setIfInBounds_toArray, List.set_cons_zero, List.set_cons_succ]
      clear hHeld
      refine wpAnyH_done (by kernel_rfl) ?_ _
      go_wp2_with fail
      rw [rounds_succ]
      go_wp2_with fail
      refine wp_region_held_drew (S := fun W' => W'.cell? ⟨w2.heap.size, 3, none⟩ = some (.int .i64 (r)) ∧ W'.cell? ⟨w1.heap.size + 1, 3, none⟩ = some (.int .i64 (r))) (by kernel_rfl) ?_ (fun hHeld => ?_)
      · constructor <;> go_simp
      refine' wpAnyH_take (i := 0) (oi := _) (v := _) ?_ (by kernel_rfl) (by kernel_rfl) (by kernel_rfl) ?_ (Or.inl ⟨?_, ?_⟩) (by assumption) ?_
      rotate_left 2
      · (simp only [List.getElem?_toArray, List.getElem?_cons_succ, List.getElem?_cons_zero]; rfl)
      · exact fun _ _ _ h => h
      · rfl
      · (intro W hSW; (try dsimp only at hSW); go_split_ands; first | (go_simp; done) | (go_simp; with_reducible rfl))
      try simp only [Act.put, List.setIfInBounds_toArray, List.set_cons_zero, List.set_cons_succ]
      refine' wpAnyH_take (i := 1) (oi := _) (v := _) ?_ (by kernel_rfl) (by kernel_rfl) (by kernel_rfl) ?_ (Or.inl ⟨?_, ?_⟩) (by assumption) ?_
      rotate_left 2
      · (simp only [List.getElem?_toArray, List.getElem?_cons_succ, List.getElem?_cons_zero]; rfl)
      · exact fun _ _ _ h => h
      · rfl
      · (intro W hSW; (try dsimp only at hSW); go_split_ands; first | (go_simp; done) | (go_simp; with_reducible rfl))
      try simp only [Act.put, List.setIfInBounds_toArray, List.set_cons_zero, List.set_cons_succ]
      refine' wpAnyH_take (i := 2) (oi := _) (v := _) ?_ (by kernel_rfl) (by kernel_rfl) (by kernel_rfl) ?_ (Or.inl ⟨?_, ?_⟩) (by assumption) ?_
      rotate_left 2
      · (simp only [List.getElem?_toArray, List.getElem?_cons_succ, List.getElem?_cons_zero]; rfl)
      · exact fun _ _ _ h => h
      · rfl
      · (intro W hSW; (try dsimp only at hSW); go_split_ands; first | (go_simp; done) | (go_simp; with_reducible rfl))
      try simp only [Act.put, List.setIfInBounds_toArray, List.set_cons_zero, List.set_cons_succ]
      refine' wpAnyH_take (i := 3) (oi := _) (v := _) ?_ (by kernel_rfl) (by kernel_rfl) (by kernel_rfl) ?_ (Or.inl ⟨?_, ?_⟩) (by assumption) ?_
      rotate_left 2
      · (simp only [List.getElem?_toArray, List.getElem?_cons_succ, List.getElem?_cons_zero]; rfl)
      · exact fun _ _ _ h => h
      · rfl
      · (intro W hSW; (try dsimp only at hSW); go_split_ands; first | (go_simp; done) | (go_simp; with_reducible rfl))
      try simp only [Act.put, List.setIfInBounds_toArray, List.set_cons_zero, List.set_cons_succ]
      refine' wpAnyH_take (i := 4) (oi := _) (v := _) ?_ (by kernel_rfl) (by kernel_rfl) (by kernel_rfl) ?_ (Or.inl ⟨?_, ?_⟩) (by assumption) ?_
      rotate_left 2
      · (simp only [List.getElem?_toArray, List.getElem?_cons_succ, List.getElem?_cons_zero]; rfl)
      · exact fun _ _ _ h => h
      · rfl
      · (intro W hSW; (try dsimp only at hSW); go_split_ands; first | (go_simp; done) | (go_simp; with_reducible rfl))
      try simp only [Act.put, List.setIfInBounds_toArray, List.set_cons_zero, List.set_cons_succ]
      refine' wpAnyH_take (i := 5) (oi := _) (v := _) ?_ (by kernel_rfl) (by kernel_rfl) (by kernel_rfl) ?_ (Or.inl ⟨?_, ?_⟩) (by assumption) ?_
      rotate_left 2
      · (simp only [List.getElem?_toArray, List.getElem?_cons_succ, List.getElem?_cons_zero]; rfl)
      · exact fun _ _ _ h => h
      · rfl
      · (intro W hSW; (try dsimp only at hSW); go_split_ands; first | (go_simp; done) | (go_simp; with_reducible rfl))
      try simp only [Act.put, List.setIfInBounds_toArray, List.set_cons_zero, List.set_cons_succ]
      refine' wpAnyH_take (i := 6) (oi := _) (v := _) ?_ (by kernel_rfl) (by kernel_rfl) (by kernel_rfl) ?_ (Or.inl ⟨?_, ?_⟩) (by assumption) ?_
      rotate_left 2
      · (simp only [List.getElem?_toArray, List.getElem?_cons_succ, List.getElem?_cons_zero]; rfl)
      · exact fun _ _ _ h => h
      · rfl
      · (intro W hSW; (try dsimp only at hSW); go_split_ands; first | (go_simp; done) | (go_simp; with_reducible rfl))
      try simp only [Act.put, List.setIfInBounds_toArray, List.set_cons_zero, List.set_cons_succ]
      refine' wpAnyH_take (i := 7) (oi := _) (v := _) ?_ (by kernel_rfl) (by kernel_rfl) (by kernel_rfl) ?_ (Or.inl ⟨?_, ?_⟩) (by assumption) ?_
      rotate_left 2
      · (simp only [List.getElem?_toArray, List.getElem?_cons_succ, List.getElem?_cons_zero]; rfl)
      · exact fun _ _ _ h => h
      · rfl
      · (intro W hSW; (try dsimp only at hSW); go_split_ands; first | (go_simp; done) | (go_simp; with_reducible rfl))
      try simp only [Act.put, List.setIfInBounds_toArray, List.set_cons_zero, List.set_cons_succ]
      refine' wpAnyH_take (i := 8) (oi := _) (v := _) ?_ (by kernel_rfl) (by kernel_rfl) (by kernel_rfl) ?_ (Or.inl ⟨?_, ?_⟩) (by assumption) ?_
      rotate_left 2
      · (simp only [List.getElem?_toArray, List.getElem?_cons_succ, List.getElem?_cons_zero]; rfl)
      · exact fun _ _ _ h => h
      · rfl
      · (intro W hSW; (try dsimp only at hSW); go_split_ands; first | (go_simp; done) | (go_simp; with_reducible rfl))
      try simp only [Act.put, List.setIfInBounds_toArray, List.set_cons_zero, List.set_cons_succ]
      clear hHeld
      refine wpAnyH_done (by kernel_rfl) ?_ _
      go_wp2_with fail
      rw [rounds_succ]
      go_wp2_with fail
      refine wp_region_held_drew (S := fun W' => W'.cell? ⟨w2.heap.size, 4, none⟩ = some (.int .i64 (q)) ∧ W'.cell? ⟨w1.heap.size + 1, 4, none⟩ = some (.int .i64 (q))) (by kernel_rfl) ?_ (fun hHeld => ?_)
      · constructor <;> go_simp
      refine' wpAnyH_take (i := 0) (oi := _) (v := _) ?_ (by kernel_rfl) (by kernel_rfl) (by kernel_rfl) ?_ (Or.inl ⟨?_, ?_⟩) (by assumption) ?_
      rotate_left 2
      · (simp only [List.getElem?_toArray, List.getElem?_cons_succ, List.getElem?_cons_zero]; rfl)
      · exact fun _ _ _ h => h
      · rfl
      · (intro W hSW; (try dsimp only at hSW); go_split_ands; first | (go_simp; done) | (go_simp; with_reducible rfl))
      try simp only [Act.put, List.setIfInBounds_toArray, List.set_cons_zero, List.set_cons_succ]
      refine' wpAnyH_take (i := 1) (oi := _) (v := _) ?_ (by kernel_rfl) (by kernel_rfl) (by kernel_rfl) ?_ (Or.inl ⟨?_, ?_⟩) (by assumption) ?_
      rotate_left 2
      · (simp only [List.getElem?_toArray, List.getElem?_cons_succ, List.getElem?_cons_zero]; rfl)
      · exact fun _ _ _ h => h
      · rfl
      · (intro W hSW; (try dsimp only at hSW); go_split_ands; first | (go_simp; done) | (go_simp; with_reducible rfl))
      try simp only [Act.put, List.setIfInBounds_toArray, List.set_cons_zero, List.set_cons_succ]
      refine' wpAnyH_take (i := 2) (oi := _) (v := _) ?_ (by kernel_rfl) (by kernel_rfl) (by kernel_rfl) ?_ (Or.inl ⟨?_, ?_⟩) (by assumption) ?_
      rotate_left 2
      · (simp only [List.getElem?_toArray, List.getElem?_cons_succ, List.getElem?_cons_zero]; rfl)
      · exact fun _ _ _ h => h
      · rfl
      · (intro W hSW; (try dsimp only at hSW); go_split_ands; first | (go_simp; done) | (go_simp; with_reducible rfl))
      try simp only [Act.put, List.setIfInBounds_toArray, List.set_cons_zero, List.set_cons_succ]
      refine' wpAnyH_take (i := 3) (oi := _) (v := _) ?_ (by kernel_rfl) (by kernel_rfl) (by kernel_rfl) ?_ (Or.inl ⟨?_, ?_⟩) (by assumption) ?_
      rotate_left 2
      · (simp only [List.getElem?_toArray, List.getElem?_cons_succ, List.getElem?_cons_zero]; rfl)
      · exact fun _ _ _ h => h
      · rfl
      · (intro W hSW; (try dsimp only at hSW); go_split_ands; first | (go_simp; done) | (go_simp; with_reducible rfl))
      try simp only [Act.put, List.setIfInBounds_toArray, List.set_cons_zero, List.set_cons_succ]
      refine' wpAnyH_take (i := 4) (oi := _) (v := _) ?_ (by kernel_rfl) (by kernel_rfl) (by kernel_rfl) ?_ (Or.inl ⟨?_, ?_⟩) (by assumption) ?_
      rotate_left 2
      · (simp only [List.getElem?_toArray, List.getElem?_cons_succ, List.getElem?_cons_zero]; rfl)
      · exact fun _ _ _ h => h
      · rfl
      · (intro W hSW; (try dsimp only at hSW); go_split_ands; first | (go_simp; done) | (go_simp; with_reducible rfl))
      try simp only [Act.put, List.setIfInBounds_toArray, List.set_cons_zero, List.set_cons_succ]
      refine' wpAnyH_take (i := 5) (oi := _) (v := _) ?_ (by kernel_rfl) (by kernel_rfl) (by kernel_rfl) ?_ (Or.inl ⟨?_, ?_⟩) (by assumption) ?_
      rotate_left 2
      · (simp only [List.getElem?_toArray, List.getElem?_cons_succ, List.getElem?_cons_zero]; rfl)
      · exact fun _ _ _ h => h
      · rfl
      · (intro W hSW; (try dsimp only at hSW); go_split_ands; first | (go_simp; done) | (go_simp; with_reducible rfl))
      try simp only [Act.put, List.setIfInBounds_toArray, List.set_cons_zero, List.set_cons_succ]
      refine' wpAnyH_take (i := 6) (oi := _) (v := _) ?_ (by kernel_rfl) (by kernel_rfl) (by kernel_rfl) ?_ (Or.inl ⟨?_, ?_⟩) (by assumption) ?_
      rotate_left 2
      · (simp only [List.getElem?_toArray, List.getElem?_cons_succ, List.getElem?_cons_zero]; rfl)
      · exact fun _ _ _ h => h
      · rfl
      · (intro W hSW; (try dsimp only at hSW); go_split_ands; first | (go_simp; done) | (go_simp; with_reducible rfl))
      try simp only [Act.put, List.setIfInBounds_toArray, List.set_cons_zero, List.set_cons_succ]
      refine' wpAnyH_take (i := 7) (oi := _) (v := _) ?_ (by kernel_rfl) (by kernel_rfl) (by kernel_rfl) ?_ (Or.inl ⟨?_, ?_⟩) (by assumption) ?_
      rotate_left 2
      · (simp only [List.getElem?_toArray, List.getElem?_cons_succ, List.getElem?_cons_zero]; rfl)
      · exact fun _ _ _ h => h
      · rfl
      · (intro W hSW; (try dsimp only at hSW); go_split_ands; first | (go_simp; done) | (go_simp; with_reducible rfl))
      try simp only [Act.put, List.setIfInBounds_toArray, List.set_cons_zero, List.set_cons_succ]
      refine' wpAnyH_take (i := 8) (oi := _) (v := _) ?_ (by kernel_rfl) (by kernel_rfl) (by kernel_rfl) ?_ (Or.inl ⟨?_, ?_⟩) (by assumption) ?_
      rotate_left 2
      · (simp only [List.getElem?_toArray, List.getElem?_cons_succ, List.getElem?_cons_zero]; rfl)
      · exact fun _ _ _ h => h
      · rfl
      · (intro W hSW; (try dsimp only at hSW); go_split_ands; first | (go_simp; done) | (go_simp; with_reducible rfl))
      try simp only [Act.put, List.setIfInBounds_toArray, List.set_cons_zero, List.set_cons_succ]
      clear hHeld
      refine wpAnyH_done (by kernel_rfl) ?_ _
      go_wp2_with fail
      rw [rounds_succ]
      go_wp2_with fail
      refine Calls.mono (U.out _) ?_
      rintro e w3 ⟨rfl, hb3⟩
      obtain ⟨kk, ff⟩ := bcell hb3
      have hc3 : Below w.heap.size w w3 := under hb3
      have k3_0 : ∀ o, w3.cell? ⟨x, o, none⟩ = _ := fun o => kk _ o (by first | assumption | omega | (simp; done) | (simp; omega))
      have f3_0 : ∀ o, w3.frozen? ⟨x, o, none⟩ = _ := fun o => ff _ o (by first | assumption | omega | (simp; done) | (simp; omega))
      have z3_0 : x < w3.heap.size := by have := hb3.size; (try simp at this); omega
      have k3_1 : ∀ o, w3.cell? ⟨y, o, none⟩ = _ := fun o => kk _ o (by first | assumption | omega | (simp; done) | (simp; omega))
      have f3_1 : ∀ o, w3.frozen? ⟨y, o, none⟩ = _ := fun o => ff _ o (by first | assumption | omega | (simp; done) | (simp; omega))
      have z3_1 : y < w3.heap.size := by have := hb3.size; (try simp at this); omega
      have k3_2 : ∀ o, w3.cell? ⟨w1.heap.size, o, none⟩ = _ := fun o => kk _ o (by first | assumption | omega | (simp; done) | (simp; omega))
      have f3_2 : ∀ o, w3.frozen? ⟨w1.heap.size, o, none⟩ = _ := fun o => ff _ o (by first | assumption | omega | (simp; done) | (simp; omega))
      have z3_2 : w1.heap.size < w3.heap.size := by have := hb3.size; (try simp at this); omega
      clear kk ff
      have hs3 := hc3.size
      clear hc2 hb3
      go_wp2_with fail
      refine Calls.mono (V.out _) ?_
      rintro e w4 ⟨rfl, hb4⟩
      obtain ⟨kk, ff⟩ := bcell hb4
      have hc4 : Below w.heap.size w w4 := under hb4
      have k4_0 : ∀ o, w4.cell? ⟨y, o, none⟩ = _ := fun o => kk _ o (by first | assumption | omega | (simp; done) | (simp; omega))
      have f4_0 : ∀ o, w4.frozen? ⟨y, o, none⟩ = _ := fun o => ff _ o (by first | assumption | omega | (simp; done) | (simp; omega))
      have z4_0 : y < w4.heap.size := by have := hb4.size; (try simp at this); omega
      clear kk ff
      have hs4 := hc4.size
      clear hc3 hb4
      go_wp2_with fail
      refine Calls.mono (works _ (hE.on (by go_grown))) ?_
      rintro e w5 ⟨rfl, hb5⟩
      obtain ⟨kk, ff⟩ := bcell hb5
      have hc5 : Below w.heap.size w w5 := under hb5
      clear kk ff
      have hs5 := hc5.size
      clear hc4 hb5
      go_wp2_with fail
      go_returns
      exact ⟨rfl, by go_grown⟩
    case c12 ua ub e a_ g =>
      have A := Lib.hid a_
      have K := Lib.hid g.chk
      have U := Lib.hid g.u
      have V := Lib.hid g.v
      obtain ⟨-, -, -, a0, a1, b0, b1, d0, l0, l1, c0, c1, r0, r1, q0, q1⟩ := g
      clear a_
      go_wp2_with fail
      refine Calls.mono (A.out _) ?_
      rintro e w1 ⟨rfl, hb1⟩
      obtain ⟨kk, ff⟩ := bcell hb1
      have hc1 : Below w.heap.size w w1 := under hb1
      have k1_0 : ∀ o, w1.cell? ⟨x, o, none⟩ = _ := fun o => kk _ o (by first | assumption | omega | (simp; done) | (simp; omega))
      have f1_0 : ∀ o, w1.frozen? ⟨x, o, none⟩ = _ := fun o => ff _ o (by first | assumption | omega | (simp; done) | (simp; omega))
      have z1_0 : x < w1.heap.size := by have := hb1.size; (try simp at this); omega
      have k1_1 : ∀ o, w1.cell? ⟨y, o, none⟩ = _ := fun o => kk _ o (by first | assumption | omega | (simp; done) | (simp; omega))
      have f1_1 : ∀ o, w1.frozen? ⟨y, o, none⟩ = _ := fun o => ff _ o (by first | assumption | omega | (simp; done) | (simp; omega))
      have z1_1 : y < w1.heap.size := by have := hb1.size; (try simp at this); omega
      clear kk ff
      have hs1 := hc1.size
      clear hc0 hb1
      go_wp2_with fail
      refine Calls.mono (K.out _) ?_
      rintro e w2 ⟨rfl, hb2⟩
      obtain ⟨kk, ff⟩ := bcell hb2
      have hc2 : Below w.heap.size w w2 := under hb2
      have k2_0 : ∀ o, w2.cell? ⟨x, o, none⟩ = _ := fun o => kk _ o (by first | assumption | omega | (simp; done) | (simp; omega))
      have f2_0 : ∀ o, w2.frozen? ⟨x, o, none⟩ = _ := fun o => ff _ o (by first | assumption | omega | (simp; done) | (simp; omega))
      have z2_0 : x < w2.heap.size := by have := hb2.size; (try simp at this); omega
      have k2_1 : ∀ o, w2.cell? ⟨y, o, none⟩ = _ := fun o => kk _ o (by first | assumption | omega | (simp; done) | (simp; omega))
      have f2_1 : ∀ o, w2.frozen? ⟨y, o, none⟩ = _ := fun o => ff _ o (by first | assumption | omega | (simp; done) | (simp; omega))
      have z2_1 : y < w2.heap.size := by have := hb2.size; (try simp at this); omega
      have k2_2 : ∀ o, w2.cell? ⟨w1.heap.size, o, none⟩ = _ := fun o => kk _ o (by first | assumption | omega | (simp; done) | (simp; omega))
      have f2_2 : ∀ o, w2.frozen? ⟨w1.heap.size, o, none⟩ = _ := fun o => ff _ o (by first | assumption | omega | (simp; done) | (simp; omega))
      have z2_2 : w1.heap.size < w2.heap.size := by have := hb2.size; (try simp at this); omega
      have k2_3 : ∀ o, w2.cell? ⟨w1.heap.size+1, o, none⟩ = _ := fun o => kk _ o (by first | assumption | omega | (simp; done) | (simp; omega))
      have f2_3 : ∀ o, w2.frozen? ⟨w1.heap.size+1, o, none⟩ = _ := fun o => ff _ o (by first | assumption | omega | (simp; done) | (simp; omega))
      have z2_3 : w1.heap.size+1 < w2.heap.size := by have := hb2.size; (try simp at this); omega
      clear kk ff
      have hs2 := hc2.size
      clear hc1 hb2
      go_wp2_with fail
      refine wp_loop_rounds 5 ?_
      rw [rounds_succ]
      go_wp2_with fail
      refine wp_region_held_drew (S := fun W' => W'.cell? ⟨w2.heap.size, 1, none⟩ = some (.int .i64 (l - 1)) ∧ W'.cell? ⟨w1.heap.size + 1, 1, none⟩ = some (.int .i64 (l - 1))) (by kernel_rfl) ?_ (fun hHeld => ?_)
      · constructor <;> go_simp
      refine' wpAnyH_take (i := 0) (oi := _) (v := _) ?_ (by kernel_rfl) (by kernel_rfl) (by kernel_rfl) ?_ (Or.inl ⟨?_, ?_⟩) (by assumption) ?_
      rotate_left 2
      · (simp only [List.getElem?_toArray, List.getElem?_cons_succ, List.getElem?_cons_zero]; rfl)
      · exact fun _ _ _ h => h
      · rfl
      · (intro W hSW; (try dsimp only at hSW); go_split_ands; first | (go_simp; done) | (go_simp; with_reducible rfl))
      try simp only [Act.put, List.setIfInBounds_toArray, List.set_cons_zero, List.set_cons_succ]
      refine' wpAnyH_take (i := 1) (oi := _) (v := _) ?_ (by kernel_rfl) (by kernel_rfl) (by kernel_rfl) ?_ (Or.inl ⟨?_, ?_⟩) (by assumption) ?_
      rotate_left 2
      · (simp only [List.getElem?_toArray, List.getElem?_cons_succ, List.getElem?_cons_zero]; rfl)
      · exact fun _ _ _ h => h
      · rfl
      · (intro W hSW; (try dsimp only at hSW); go_split_ands; first | (go_simp; done) | (go_simp; with_reducible rfl))
      try simp only [Act.put, List.setIfInBounds_toArray, List.set_cons_zero, List.set_cons_succ]
      refine' wpAnyH_take (i := 2) (oi := _) (v := _) ?_ (by kernel_rfl) (by kernel_rfl) (by kernel_rfl) ?_ (Or.inl ⟨?_, ?_⟩) (by assumption) ?_
      rotate_left 2
      · (simp only [List.getElem?_toArray, List.getElem?_cons_succ, List.getElem?_cons_zero]; rfl)
      · exact fun _ _ _ h => h
      · rfl
      · (intro W hSW; (try dsimp only at hSW); go_split_ands; first | (go_simp; done) | (go_simp; with_reducible rfl))
      try simp only [Act.put, List.setIfInBounds_toArray, List.set_cons_zero, List.set_cons_succ]
      refine' wpAnyH_take (i := 3) (oi := _) (v := _) ?_ (by kernel_rfl) (by kernel_rfl) (by kernel_rfl) ?_ (Or.inl ⟨?_, ?_⟩) (by assumption) ?_
      rotate_left 2
      · (simp only [List.getElem?_toArray, List.getElem?_cons_succ, List.getElem?_cons_zero]; rfl)
      · exact fun _ _ _ h => h
      · rfl
      · (intro W hSW; (try dsimp only at hSW); go_split_ands; first | (go_simp; done) | (go_simp; with_reducible rfl))
      try simp only [Act.put, List.setIfInBounds_toArray, List.set_cons_zero, List.set_cons_succ]
      refine' wpAnyH_take (i := 4) (oi := _) (v := _) ?_ (by kernel_rfl) (by kernel_rfl) (by kernel_rfl) ?_ (Or.inl ⟨?_, ?_⟩) (by assumption) ?_
      rotate_left 2
      · (simp only [List.getElem?_toArray, List.getElem?_cons_succ, List.getElem?_cons_zero]; rfl)
      · exact fun _ _ _ h => h
      · rfl
      · (intro W hSW; (try dsimp only at hSW); go_split_ands; first | (go_simp; done) | (go_simp; with_reducible rfl))
      try simp only [Act.put, List.setIfInBounds_toArray, List.set_cons_zero, List.set_cons_succ]
      refine' wpAnyH_take (i := 5) (oi := _) (v := _) ?_ (by kernel_rfl) (by kernel_rfl) (by kernel_rfl) ?_ (Or.inl ⟨?_, ?_⟩) (by assumption) ?_
      rotate_left 2
      · (simp only [List.getElem?_toArray, List.getElem?_cons_succ, List.getElem?_cons_zero]; rfl)
      · exact fun _ _ _ h => h
      · rfl
      · (intro W hSW; (try dsimp only at hSW); go_split_ands; first | (go_simp; done) | (go_simp; with_reducible rfl))
      try simp only [Act.put, List.setIfInBounds_toArray, List.set_cons_zero, List.set_cons_succ]
      refine' wpAnyH_take (i := 6) (oi := _) (v := _) ?_ (by kernel_rfl) (by kernel_rfl) (by kernel_rfl) ?_ (Or.inl ⟨?_, ?_⟩) (by assumption) ?_
      rotate_left 2
      · (simp only [List.getElem?_toArray, List.getElem?_cons_succ, List.getElem?_cons_zero]; rfl)
      · exact fun _ _ _ h => h
      · rfl
      · (intro W hSW; (try dsimp only at hSW); go_split_ands; first | (go_simp; done) | (go_simp; with_reducible rfl))
      try simp only [Act.put, List.setIfInBounds_toArray, List.set_cons_zero, List.set_cons_succ]
      refine' wpAnyH_take (i := 7) (oi := _) (v := _) ?_ (by kernel_rfl) (by kernel_rfl) (by kernel_rfl) ?_ (Or.inl ⟨?_, ?_⟩) (by assumption) ?_
      rotate_left 2
      · (simp only [List.getElem?_toArray, List.getElem?_cons_succ, List.getElem?_cons_zero]; rfl)
      · exact fun _ _ _ h => h
      · rfl
      · (intro W hSW; (try dsimp only at hSW); go_split_ands; first | (go_simp; done) | (go_simp; with_reducible rfl))
      try simp only [Act.put, List.setIfInBounds_toArray, List.set_cons_zero, List.set_cons_succ]
      refine' wpAnyH_take (i := 8) (oi := _) (v := _) ?_ (by kernel_rfl) (by kernel_rfl) (by kernel_rfl) ?_ (Or.inl ⟨?_, ?_⟩) (by assumption) ?_
      rotate_left 2
      · (simp only [List.getElem?_toArray, List.getElem?_cons_succ, List.getElem?_cons_zero]; rfl)
      · exact fun _ _ _ h => h
      · rfl
      · (intro W hSW; (try dsimp only at hSW); go_split_ands; first | (go_simp; done) | (go_simp; with_reducible rfl))
      try simp only [Act.put, List.setIfInBounds_toArray, List.set_cons_zero, List.set_cons_succ]
      clear hHeld
      refine wpAnyH_done (by kernel_rfl) ?_ _
      go_wp2_with fail
      rw [rounds_succ]
      go_wp2_with fail
      refine wp_region_held_drew (S := fun W' => W'.cell? ⟨w2.heap.size, 2, none⟩ = some (.int .i64 (cl + 1)) ∧ W'.cell? ⟨w1.heap.size + 1, 2, none⟩ = some (.int .i64 (cl + 1))) (by kernel_rfl) ?_ (fun hHeld => ?_)
      · constructor <;> go_simp
      refine' wpAnyH_take (i := 0) (oi := _) (v := _) ?_ (by kernel_rfl) (by kernel_rfl) (by kernel_rfl) ?_ (Or.inl ⟨?_, ?_⟩) (by assumption) ?_
      rotate_left 2
      · (simp only [List.getElem?_toArray, List.getElem?_cons_succ, List.getElem?_cons_zero]; rfl)
      · exact fun _ _ _ h => h
      · rfl
      · (intro W hSW; (try dsimp only at hSW); go_split_ands; first | (go_simp; done) | (go_simp; with_reducible rfl))
      try simp only [Act.put, List.setIfInBounds_toArray, List.set_cons_zero, List.set_cons_succ]
      refine' wpAnyH_take (i := 1) (oi := _) (v := _) ?_ (by kernel_rfl) (by kernel_rfl) (by kernel_rfl) ?_ (Or.inl ⟨?_, ?_⟩) (by assumption) ?_
      rotate_left 2
      · (simp only [List.getElem?_toArray, List.getElem?_cons_succ, List.getElem?_cons_zero]; rfl)
      · exact fun _ _ _ h => h
      · rfl
      · (intro W hSW; (try dsimp only at hSW); go_split_ands; first | (go_simp; done) | (go_simp; with_reducible rfl))
      try simp only [Act.put, List.setIfInBounds_toArray, List.set_cons_zero, List.set_cons_succ]
      refine' wpAnyH_take (i := 2) (oi := _) (v := _) ?_ (by kernel_rfl) (by kernel_rfl) (by kernel_rfl) ?_ (Or.inl ⟨?_, ?_⟩) (by assumption) ?_
      rotate_left 2
      · (simp only [List.getElem?_toArray, List.getElem?_cons_succ, List.getElem?_cons_zero]; rfl)
      · exact fun _ _ _ h => h
      · rfl
      · (intro W hSW; (try dsimp only at hSW); go_split_ands; first | (go_simp; done) | (go_simp; with_reducible rfl))
      try simp only [Act.put, List.setIfInBounds_toArray, List.set_cons_zero, List.set_cons_succ]
      refine' wpAnyH_take (i := 3) (oi := _) (v := _) ?_ (by kernel_rfl) (by kernel_rfl) (by kernel_rfl) ?_ (Or.inl ⟨?_, ?_⟩) (by assumption) ?_
      rotate_left 2
      · (simp only [List.getElem?_toArray, List.getElem?_cons_succ, List.getElem?_cons_zero]; rfl)
      · exact fun _ _ _ h => h
      · rfl
      · (intro W hSW; (try dsimp only at hSW); go_split_ands; first | (go_simp; done) | (go_simp; with_reducible rfl))
      try simp only [Act.put, List.setIfInBounds_toArray, List.set_cons_zero, List.set_cons_succ]
      refine' wpAnyH_take (i := 4) (oi := _) (v := _) ?_ (by kernel_rfl) (by kernel_rfl) (by kernel_rfl) ?_ (Or.inl ⟨?_, ?_⟩) (by assumption) ?_
      rotate_left 2
      · (simp only [List.getElem?_toArray, List.getElem?_cons_succ, List.getElem?_cons_zero]; rfl)
      · exact fun _ _ _ h => h
      · rfl
      · (intro W hSW; (try dsimp only at hSW); go_split_ands; first | (go_simp; done) | (go_simp; with_reducible rfl))
      try simp only [Act.put, List.setIfInBounds_toArray, List.set_cons_zero, List.set_cons_succ]
      refine' wpAnyH_take (i := 5) (oi := _) (v := _) ?_ (by kernel_rfl) (by kernel_rfl) (by kernel_rfl) ?_ (Or.inl ⟨?_, ?_⟩) (by assumption) ?_
      rotate_left 2
      · (simp only [List.getElem?_toArray, List.getElem?_cons_succ, List.getElem?_cons_zero]; rfl)
      · exact fun _ _ _ h => h
      · rfl
      · (intro W hSW; (try dsimp only at hSW); go_split_ands; first | (go_simp; done) | (go_simp; with_reducible rfl))
      try simp only [Act.put, List.setIfInBounds_toArray, List.set_cons_zero, List.set_cons_succ]
      refine' wpAnyH_take (i := 6) (oi := _) (v := _) ?_ (by kernel_rfl) (by kernel_rfl) (by kernel_rfl) ?_ (Or.inl ⟨?_, ?_⟩) (by assumption) ?_
      rotate_left 2
      · (simp only [List.getElem?_toArray, List.getElem?_cons_succ, List.getElem?_cons_zero]; rfl)
      · exact fun _ _ _ h => h
      · rfl
      · (intro W hSW; (try dsimp only at hSW); go_split_ands; first | (go_simp; done) | (go_simp; with_reducible rfl))
      try simp only [Act.put, List.setIfInBounds_toArray, List.set_cons_zero, List.set_cons_succ]
      refine' wpAnyH_take (i := 7) (oi := _) (v := _) ?_ (by kernel_rfl) (by kernel_rfl) (by kernel_rfl) ?_ (Or.inl ⟨?_, ?_⟩) (by assumption) ?_
      rotate_left 2
      · (simp only [List.getElem?_toArray, List.getElem?_cons_succ, List.getElem?_cons_zero]; rfl)
      · exact fun _ _ _ h => h
      · rfl
      · (intro W hSW; (try dsimp only at hSW); go_split_ands; first | (go_simp; done) | (go_simp; with_reducible rfl))
      try simp only [Act.put, List.setIfInBounds_toArray, List.set_cons_zero, List.set_cons_succ]
      refine' wpAnyH_take (i := 8) (oi := _) (v := _) ?_ (by kernel_rfl) (by kernel_rfl) (by kernel_rfl) ?_ (Or.inl ⟨?_, ?_⟩) (by assumption) ?_
      rotate_left 2
      · (simp only [List.getElem?_toArray, List.getElem?_cons_succ, List.getElem?_cons_zero]; rfl)
      · exact fun _ _ _ h => h
      · rfl
      · (intro W hSW; (try dsimp only at hSW); go_split_ands; first | (go_simp; done) | (go_simp; with_reducible rfl))
      try simp only [Act.put, List.setIfInBounds_toArray, List.set_cons_zero, List.set_cons_succ]
      clear hHeld
      refine wpAnyH_done (by kernel_rfl) ?_ _
      go_wp2_with fail
      rw [rounds_succ]
      go_wp2_with fail
      refine wp_region_held_drew (S := fun W' => W'.cell? ⟨w2.heap.size, 3, none⟩ = some (.int .i64 (r)) ∧ W'.cell? ⟨w1.heap.size + 1, 3, none⟩ = some (.int .i64 (r))) (by kernel_rfl) ?_ (fun hHeld => ?_)
      · constructor <;> go_simp
      refine' wpAnyH_take (i := 0) (oi := _) (v := _) ?_ (by kernel_rfl) (by kernel_rfl) (by kernel_rfl) ?_ (Or.inl ⟨?_, ?_⟩) (by assumption) ?_
      rotate_left 2
      · (simp only [List.getElem?_toArray, List.getElem?_cons_succ, List.getElem?_cons_zero]; rfl)
      · exact fun _ _ _ h => h
      · rfl
      · (intro W hSW; (try dsimp only at hSW); go_split_ands; first | (go_simp; done) | (go_simp; with_reducible rfl))
      try simp only [Act.put, List.setIfInBounds_toArray, List.set_cons_zero, List.set_cons_succ]
      refine' wpAnyH_take (i := 1) (oi := _) (v := _) ?_ (by kernel_rfl) (by kernel_rfl) (by kernel_rfl) ?_ (Or.inl ⟨?_, ?_⟩) (by assumption) ?_
      rotate_left 2
      · (simp only [List.getElem?_toArray, List.getElem?_cons_succ, List.getElem?_cons_zero]; rfl)
      · exact fun _ _ _ h => h
      · rfl
      · (intro W hSW; (try dsimp only at hSW); go_split_ands; first | (go_simp; done) | (go_simp; with_reducible rfl))
      try simp only [Act.put, List.setIfInBounds_toArray, List.set_cons_zero, List.set_cons_succ]
      refine' wpAnyH_take (i := 2) (oi := _) (v := _) ?_ (by kernel_rfl) (by kernel_rfl) (by kernel_rfl) ?_ (Or.inl ⟨?_, ?_⟩) (by assumption) ?_
      rotate_left 2
      · (simp only [List.getElem?_toArray, List.getElem?_cons_succ, List.getElem?_cons_zero]; rfl)
      · exact fun _ _ _ h => h
      · rfl
      · (intro W hSW; (try dsimp only at hSW); go_split_ands; first | (go_simp; done) | (go_simp; with_reducible rfl))
      try simp only [Act.put, List.setIfInBounds_toArray, List.set_cons_zero, List.set_cons_succ]
      refine' wpAnyH_take (i := 3) (oi := _) (v := _) ?_ (by kernel_rfl) (by kernel_rfl) (by kernel_rfl) ?_ (Or.inl ⟨?_, ?_⟩) (by assumption) ?_
      rotate_left 2
      · (simp only [List.getElem?_toArray, List.getElem?_cons_succ, List.getElem?_cons_zero]; rfl)
      · exact fun _ _ _ h => h
      · rfl
      · (intro W hSW; (try dsimp only at hSW); go_split_ands; first | (go_simp; done) | (go_simp; with_reducible rfl))
      try simp only [Act.put, List.setIfInBounds_toArray, List.set_cons_zero, List.set_cons_succ]
      refine' wpAnyH_take (i := 4) (oi := _) (v := _) ?_ (by kernel_rfl) (by kernel_rfl) (by kernel_rfl) ?_ (Or.inl ⟨?_, ?_⟩) (by assumption) ?_
      rotate_left 2
      · (simp only [List.getElem?_toArray, List.getElem?_cons_succ, List.getElem?_cons_zero]; rfl)
      · exact fun _ _ _ h => h
      · rfl
      · (intro W hSW; (try dsimp only at hSW); go_split_ands; first | (go_simp; done) | (go_simp; with_reducible rfl))
      try simp only [Act.put, List.setIfInBounds_toArray, List.set_cons_zero, List.set_cons_succ]
      refine' wpAnyH_take (i := 5) (oi := _) (v := _) ?_ (by kernel_rfl) (by kernel_rfl) (by kernel_rfl) ?_ (Or.inl ⟨?_, ?_⟩) (by assumption) ?_
      rotate_left 2
      · (simp only [List.getElem?_toArray, List.getElem?_cons_succ, List.getElem?_cons_zero]; rfl)
      · exact fun _ _ _ h => h
      · rfl
      · (intro W hSW; (try dsimp only at hSW); go_split_ands; first | (go_simp; done) | (go_simp; with_reducible rfl))
      try simp only [Act.put, List.setIfInBounds_toArray, List.set_cons_zero, List.set_cons_succ]
      refine' wpAnyH_take (i := 6) (oi := _) (v := _) ?_ (by kernel_rfl) (by kernel_rfl) (by kernel_rfl) ?_ (Or.inl ⟨?_, ?_⟩) (by assumption) ?_
      rotate_left 2
      · (simp only [List.getElem?_toArray, List.getElem?_cons_succ, List.getElem?_cons_zero]; rfl)
      · exact fun _ _ _ h => h
      · rfl
      · (intro W hSW; (try dsimp only at hSW); go_split_ands; first | (go_simp; done) | (go_simp; with_reducible rfl))
      try simp only [Act.put, List.setIfInBounds_toArray, List.set_cons_zero, List.set_cons_succ]
      refine' wpAnyH_take (i := 7) (oi := _) (v := _) ?_ (by kernel_rfl) (by kernel_rfl) (by kernel_rfl) ?_ (Or.inl ⟨?_, ?_⟩) (by assumption) ?_
      rotate_left 2
      · (simp only [List.getElem?_toArray, List.getElem?_cons_succ, List.getElem?_cons_zero]; rfl)
      · exact fun _ _ _ h => h
      · rfl
      · (intro W hSW; (try dsimp only at hSW); go_split_ands; first | (go_simp; done) | (go_simp; with_reducible rfl))
      try simp only [Act.put, List.setIfInBounds_toArray, List.set_cons_zero, List.set_cons_succ]
      refine' wpAnyH_take (i := 8) (oi := _) (v := _) ?_ (by kernel_rfl) (by kernel_rfl) (by kernel_rfl) ?_ (Or.inl ⟨?_, ?_⟩) (by assumption) ?_
      rotate_left 2
      · (simp only [List.getElem?_toArray, List.getElem?_cons_succ, List.getElem?_cons_zero]; rfl)
      · exact fun _ _ _ h => h
      · rfl
      · (intro W hSW; (try dsimp only at hSW); go_split_ands; first | (go_simp; done) | (go_simp; with_reducible rfl))
      try simp only [Act.put, List.setIfInBounds_toArray, List.set_cons_zero, List.set_cons_succ]
      clear hHeld
      refine wpAnyH_done (by kernel_rfl) ?_ _
      go_wp2_with fail
      rw [rounds_succ]
      go_wp2_with fail
      refine wp_region_held_drew (S := fun W' => W'.cell? ⟨w2.heap.size, 4, none⟩ = some (.int .i64 (q)) ∧ W'.cell? ⟨w1.heap.size + 1, 4, none⟩ = some (.int .i64 (q))) (by kernel_rfl) ?_ (fun hHeld => ?_)
      · constructor <;> go_simp
      refine' wpAnyH_take (i := 0) (oi := _) (v := _) ?_ (by kernel_rfl) (by kernel_rfl) (by kernel_rfl) ?_ (Or.inl ⟨?_, ?_⟩) (by assumption) ?_
      rotate_left 2
      · (simp only [List.getElem?_toArray, List.getElem?_cons_succ, List.getElem?_cons_zero]; rfl)
      · exact fun _ _ _ h => h
      · rfl
      · (intro W hSW; (try dsimp only at hSW); go_split_ands; first | (go_simp; done) | (go_simp; with_reducible rfl))
      try simp only [Act.put, List.setIfInBounds_toArray, List.set_cons_zero, List.set_cons_succ]
      refine' wpAnyH_take (i := 1) (oi := _) (v := _) ?_ (by kernel_rfl) (by kernel_rfl) (by kernel_rfl) ?_ (Or.inl ⟨?_, ?_⟩) (by assumption) ?_
      rotate_left 2
      · (simp only [List.getElem?_toArray, List.getElem?_cons_succ, List.getElem?_cons_zero]; rfl)
      · exact fun _ _ _ h => h
      · rfl
      · (intro W hSW; (try dsimp only at hSW); go_split_ands; first | (go_simp; done) | (go_simp; with_reducible rfl))
      try simp only [Act.put, List.setIfInBounds_toArray, List.set_cons_zero, List.set_cons_succ]
      refine' wpAnyH_take (i := 2) (oi := _) (v := _) ?_ (by kernel_rfl) (by kernel_rfl) (by kernel_rfl) ?_ (Or.inl ⟨?_, ?_⟩) (by assumption) ?_
      rotate_left 2
      · (simp only [List.getElem?_toArray, List.getElem?_cons_succ, List.getElem?_cons_zero]; rfl)
      · exact fun _ _ _ h => h
      · rfl
      · (intro W hSW; (try dsimp only at hSW); go_split_ands; first | (go_simp; done) | (go_simp; with_reducible rfl))
      try simp only [Act.put, List.setIfInBounds_toArray, List.set_cons_zero, List.set_cons_succ]
      refine' wpAnyH_take (i := 3) (oi := _) (v := _) ?_ (by kernel_rfl) (by kernel_rfl) (by kernel_rfl) ?_ (Or.inl ⟨?_, ?_⟩) (by assumption) ?_
      rotate_left 2
      · (simp only [List.getElem?_toArray, List.getElem?_cons_succ, List.getElem?_cons_zero]; rfl)
      · exact fun _ _ _ h => h
      · rfl
      · (intro W hSW; (try dsimp only at hSW); go_split_ands; first | (go_simp; done) | (go_simp; with_reducible rfl))
      try simp only [Act.put, List.setIfInBounds_toArray, List.set_cons_zero, List.set_cons_succ]
      refine' wpAnyH_take (i := 4) (oi := _) (v := _) ?_ (by kernel_rfl) (by kernel_rfl) (by kernel_rfl) ?_ (Or.inl ⟨?_, ?_⟩) (by assumption) ?_
      rotate_left 2
      · (simp only [List.getElem?_toArray, List.getElem?_cons_succ, List.getElem?_cons_zero]; rfl)
      · exact fun _ _ _ h => h
      · rfl
      · (intro W hSW; (try dsimp only at hSW); go_split_ands; first | (go_simp; done) | (go_simp; with_reducible rfl))
      try simp only [Act.put, List.setIfInBounds_toArray, List.set_cons_zero, List.set_cons_succ]
      refine' wpAnyH_take (i := 5) (oi := _) (v := _) ?_ (by kernel_rfl) (by kernel_rfl) (by kernel_rfl) ?_ (Or.inl ⟨?_, ?_⟩) (by assumption) ?_
      rotate_left 2
      · (simp only [List.getElem?_toArray, List.getElem?_cons_succ, List.getElem?_cons_zero]; rfl)
      · exact fun _ _ _ h => h
      · rfl
      · (intro W hSW; (try dsimp only at hSW); go_split_ands; first | (go_simp; done) | (go_simp; with_reducible rfl))
      try simp only [Act.put, List.setIfInBounds_toArray, List.set_cons_zero, List.set_cons_succ]
      refine' wpAnyH_take (i := 6) (oi := _) (v := _) ?_ (by kernel_rfl) (by kernel_rfl) (by kernel_rfl) ?_ (Or.inl ⟨?_, ?_⟩) (by assumption) ?_
      rotate_left 2
      · (simp only [List.getElem?_toArray, List.getElem?_cons_succ, List.getElem?_cons_zero]; rfl)
      · exact fun _ _ _ h => h
      · rfl
      · (intro W hSW; (try dsimp only at hSW); go_split_ands; first | (go_simp; done) | (go_simp; with_reducible rfl))
      try simp only [Act.put, List.setIfInBounds_toArray, List.set_cons_zero, List.set_cons_succ]
      refine' wpAnyH_take (i := 7) (oi := _) (v := _) ?_ (by kernel_rfl) (by kernel_rfl) (by kernel_rfl) ?_ (Or.inl ⟨?_, ?_⟩) (by assumption) ?_
      rotate_left 2
      · (simp only [List.getElem?_toArray, List.getElem?_cons_succ, List.getElem?_cons_zero]; rfl)
      · exact fun _ _ _ h => h
      · rfl
      · (intro W hSW; (try dsimp only at hSW); go_split_ands; first | (go_simp; done) | (go_simp; with_reducible rfl))
      try simp only [Act.put, List.setIfInBounds_toArray, List.set_cons_zero, List.set_cons_succ]
      refine' wpAnyH_take (i := 8) (oi := _) (v := _) ?_ (by kernel_rfl) (by kernel_rfl) (by kernel_rfl) ?_ (Or.inl ⟨?_, ?_⟩) (by assumption) ?_
      rotate_left 2
      · (simp only [List.getElem?_toArray, List.getElem?_cons_succ, List.getElem?_cons_zero]; rfl)
      · exact fun _ _ _ h => h
      · rfl
      · (intro W hSW; (try dsimp only at hSW); go_split_ands; first | (go_simp; done) | (go_simp; with_reducible rfl))
      try simp only [Act.put, List.setIfInBounds_toArray, List.set_cons_zero, List.set_cons_succ]
      clear hHeld
      refine wpAnyH_done (by kernel_rfl) ?_ _
      go_wp2_with fail
      rw [rounds_succ]
      go_wp2_with fail
      refine Calls.mono (U.out _) ?_
      rintro e w3 ⟨rfl, hb3⟩
      obtain ⟨kk, ff⟩ := bcell hb3
      have hc3 : Below w.heap.size w w3 := under hb3
      have k3_0 : ∀ o, w3.cell? ⟨x, o, none⟩ = _ := fun o => kk _ o (by first | assumption | omega | (simp; done) | (simp; omega))
      have f3_0 : ∀ o, w3.frozen? ⟨x, o, none⟩ = _ := fun o => ff _ o (by first | assumption | omega | (simp; done) | (simp; omega))
      have z3_0 : x < w3.heap.size := by have := hb3.size; (try simp at this); omega
      have k3_1 : ∀ o, w3.cell? ⟨y, o, none⟩ = _ := fun o => kk _ o (by first | assumption | omega | (simp; done) | (simp; omega))
      have f3_1 : ∀ o, w3.frozen? ⟨y, o, none⟩ = _ := fun o => ff _ o (by first | assumption | omega | (simp; done) | (simp; omega))
      have z3_1 : y < w3.heap.size := by have := hb3.size; (try simp at this); omega
      have k3_2 : ∀ o, w3.cell? ⟨w1.heap.size, o, none⟩ = _ := fun o => kk _ o (by first | assumption | omega | (simp; done) | (simp; omega))
      have f3_2 : ∀ o, w3.frozen? ⟨w1.heap.size, o, none⟩ = _ := fun o => ff _ o (by first | assumption | omega | (simp; done) | (simp; omega))
      have z3_2 : w1.heap.size < w3.heap.size := by have := hb3.size; (try simp at this); omega
      clear kk ff
      have hs3 := hc3.size
      clear hc2 hb3
      go_wp2_with fail
      refine Calls.mono (V.out _) ?_
      rintro e w4 ⟨rfl, hb4⟩
      obtain ⟨kk, ff⟩ := bcell hb4
      have hc4 : Below w.heap.size w w4 := under hb4
      have k4_0 : ∀ o, w4.cell? ⟨y, o, none⟩ = _ := fun o => kk _ o (by first | assumption | omega | (simp; done) | (simp; omega))
      have f4_0 : ∀ o, w4.frozen? ⟨y, o, none⟩ = _ := fun o => ff _ o (by first | assumption | omega | (simp; done) | (simp; omega))
      have z4_0 : y < w4.heap.size := by have := hb4.size; (try simp at this); omega
      clear kk ff
      have hs4 := hc4.size
      clear hc3 hb4
      go_wp2_with fail
      refine Calls.mono (works _ (hE.on (by go_grown))) ?_
      rintro e w5 ⟨rfl, hb5⟩
      obtain ⟨kk, ff⟩ := bcell hb5
      have hc5 : Below w.heap.size w w5 := under hb5
      clear kk ff
      have hs5 := hc5.size
      clear hc4 hb5
      go_wp2_with fail
      go_returns
      exact ⟨rfl, by go_grown⟩
    case c22 ua ub e a_ g =>
      have A := Lib.hid a_
      have K := Lib.hid g.chk
      have U := Lib.hid g.u
      have V := Lib.hid g.v
      obtain ⟨-, -, -, a0, a1, b0, b1, d0, l0, l1, c0, c1, r0, r1, q0, q1⟩ := g
      clear a_
      go_wp2_with fail
      refine Calls.mono (A.out _) ?_
      rintro e w1 ⟨rfl, hb1⟩
      obtain ⟨kk, ff⟩ := bcell hb1
      have hc1 : Below w.heap.size w w1 := under hb1
      have k1_0 : ∀ o, w1.cell? ⟨x, o, none⟩ = _ := fun o => kk _ o (by first | assumption | omega | (simp; done) | (simp; omega))
      have f1_0 : ∀ o, w1.frozen? ⟨x, o, none⟩ = _ := fun o => ff _ o (by first | assumption | omega | (simp; done) | (simp; omega))
      have z1_0 : x < w1.heap.size := by have := hb1.size; (try simp at this); omega
      have k1_1 : ∀ o, w1.cell? ⟨y, o, none⟩ = _ := fun o => kk _ o (by first | assumption | omega | (simp; done) | (simp; omega))
      have f1_1 : ∀ o, w1.frozen? ⟨y, o, none⟩ = _ := fun o => ff _ o (by first | assumption | omega | (simp; done) | (simp; omega))
      have z1_1 : y < w1.heap.size := by have := hb1.size; (try simp at this); omega
      clear kk ff
      have hs1 := hc1.size
      clear hc0 hb1
      go_wp2_with fail
      refine Calls.mono (K.out _) ?_
      rintro e w2 ⟨rfl, hb2⟩
      obtain ⟨kk, ff⟩ := bcell hb2
      have hc2 : Below w.heap.size w w2 := under hb2
      have k2_0 : ∀ o, w2.cell? ⟨x, o, none⟩ = _ := fun o => kk _ o (by first | assumption | omega | (simp; done) | (simp; omega))
      have f2_0 : ∀ o, w2.frozen? ⟨x, o, none⟩ = _ := fun o => ff _ o (by first | assumption | omega | (simp; done) | (simp; omega))
      have z2_0 : x < w2.heap.size := by have := hb2.size; (try simp at this); omega
      have k2_1 : ∀ o, w2.cell? ⟨y, o, none⟩ = _ := fun o => kk _ o (by first | assumption | omega | (simp; done) | (simp; omega))
      have f2_1 : ∀ o, w2.frozen? ⟨y, o, none⟩ = _ := fun o => ff _ o (by first | assumption | omega | (simp; done) | (simp; omega))
      have z2_1 : y < w2.heap.size := by have := hb2.size; (try simp at this); omega
      have k2_2 : ∀ o, w2.cell? ⟨w1.heap.size, o, none⟩ = _ := fun o => kk _ o (by first | assumption | omega | (simp; done) | (simp; omega))
      have f2_2 : ∀ o, w2.frozen? ⟨w1.heap.size, o, none⟩ = _ := fun o => ff _ o (by first | assumption | omega | (simp; done) | (simp; omega))
      have z2_2 : w1.heap.size < w2.heap.size := by have := hb2.size; (try simp at this); omega
      have k2_3 : ∀ o, w2.cell? ⟨w1.heap.size+1, o, none⟩ = _ := fun o => kk _ o (by first | assumption | omega | (simp; done) | (simp; omega))
      have f2_3 : ∀ o, w2.frozen? ⟨w1.heap.size+1, o, none⟩ = _ := fun o => ff _ o (by first | assumption | omega | (simp; done) | (simp; omega))
      have z2_3 : w1.heap.size+1 < w2.heap.size := by have := hb2.size; (try simp at this); omega
      clear kk ff
      have hs2 := hc2.size
      clear hc1 hb2
      go_wp2_with fail
      refine wp_loop_rounds 5 ?_
      rw [rounds_succ]
      go_wp2_with fail
      refine wp_region_held_drew (S := fun W' => W'.cell? ⟨w2.heap.size, 1, none⟩ = some (.int .i64 (l)) ∧ W'.cell? ⟨w1.heap.size + 1, 1, none⟩ = some (.int .i64 (l))) (by kernel_rfl) ?_ (fun hHeld => ?_)
      · constructor <;> go_simp
      refine' wpAnyH_take (i := 0) (oi := _) (v := _) ?_ (by kernel_rfl) (by kernel_rfl) (by kernel_rfl) ?_ (Or.inl ⟨?_, ?_⟩) (by assumption) ?_
      rotate_left 2
      · (simp only [List.getElem?_toArray, List.getElem?_cons_succ, List.getElem?_cons_zero]; rfl)
      · exact fun _ _ _ h => h
      · rfl
      · (intro W hSW; (try dsimp only at hSW); go_split_ands; first | (go_simp; done) | (go_simp; with_reducible rfl))
      try simp only [Act.put, List.setIfInBounds_toArray, List.set_cons_zero, List.set_cons_succ]
      refine' wpAnyH_take (i := 1) (oi := _) (v := _) ?_ (by kernel_rfl) (by kernel_rfl) (by kernel_rfl) ?_ (Or.inl ⟨?_, ?_⟩) (by assumption) ?_
      rotate_left 2
      · (simp only [List.getElem?_toArray, List.getElem?_cons_succ, List.getElem?_cons_zero]; rfl)
      · exact fun _ _ _ h => h
      · rfl
      · (intro W hSW; (try dsimp only at hSW); go_split_ands; first | (go_simp; done) | (go_simp; with_reducible rfl))
      try simp only [Act.put, List.setIfInBounds_toArray, List.set_cons_zero, List.set_cons_succ]
      refine' wpAnyH_take (i := 2) (oi := _) (v := _) ?_ (by kernel_rfl) (by kernel_rfl) (by kernel_rfl) ?_ (Or.inl ⟨?_, ?_⟩) (by assumption) ?_
      rotate_left 2
      · (simp only [List.getElem?_toArray, List.getElem?_cons_succ, List.getElem?_cons_zero]; rfl)
      · exact fun _ _ _ h => h
      · rfl
      · (intro W hSW; (try dsimp only at hSW); go_split_ands; first | (go_simp; done) | (go_simp; with_reducible rfl))
      try simp only [Act.put, List.setIfInBounds_toArray, List.set_cons_zero, List.set_cons_succ]
      refine' wpAnyH_take (i := 3) (oi := _) (v := _) ?_ (by kernel_rfl) (by kernel_rfl) (by kernel_rfl) ?_ (Or.inl ⟨?_, ?_⟩) (by assumption) ?_
      rotate_left 2
      · (simp only [List.getElem?_toArray, List.getElem?_cons_succ, List.getElem?_cons_zero]; rfl)
      · exact fun _ _ _ h => h
      · rfl
      · (intro W hSW; (try dsimp only at hSW); go_split_ands; first | (go_simp; done) | (go_simp; with_reducible rfl))
      try simp only [Act.put, List.setIfInBounds_toArray, List.set_cons_zero, List.set_cons_succ]
      refine' wpAnyH_take (i := 4) (oi := _) (v := _) ?_ (by kernel_rfl) (by kernel_rfl) (by kernel_rfl) ?_ (Or.inl ⟨?_, ?_⟩) (by assumption) ?_
      rotate_left 2
      · (simp only [List.getElem?_toArray, List.getElem?_cons_succ, List.getElem?_cons_zero]; rfl)
      · exact fun _ _ _ h => h
      · rfl
      · (intro W hSW; (try dsimp only at hSW); go_split_ands; first | (go_simp; done) | (go_simp; with_reducible rfl))
      try simp only [Act.put, List.setIfInBounds_toArray, List.set_cons_zero, List.set_cons_succ]
      refine' wpAnyH_take (i := 5) (oi := _) (v := _) ?_ (by kernel_rfl) (by kernel_rfl) (by kernel_rfl) ?_ (Or.inl ⟨?_, ?_⟩) (by assumption) ?_
      rotate_left 2
      · (simp only [List.getElem?_toArray, List.getElem?_cons_succ, List.getElem?_cons_zero]; rfl)
      · exact fun _ _ _ h => h
      · rfl
      · (intro W hSW; (try dsimp only at hSW); go_split_ands; first | (go_simp; done) | (go_simp; with_reducible rfl))
      try simp only [Act.put, List.setIfInBounds_toArray, List.set_cons_zero, List.set_cons_succ]
      refine' wpAnyH_take (i := 6) (oi := _) (v := _) ?_ (by kernel_rfl) (by kernel_rfl) (by kernel_rfl) ?_ (Or.inl ⟨?_, ?_⟩) (by assumption) ?_
      rotate_left 2
      · (simp only [List.getElem?_toArray, List.getElem?_cons_succ, List.getElem?_cons_zero]; rfl)
      · exact fun _ _ _ h => h
      · rfl
      · (intro W hSW; (try dsimp only at hSW); go_split_ands; first | (go_simp; done) | (go_simp; with_reducible rfl))
      try simp only [Act.put, List.setIfInBounds_toArray, List.set_cons_zero, List.set_cons_succ]
      refine' wpAnyH_take (i := 7) (oi := _) (v := _) ?_ (by kernel_rfl) (by kernel_rfl) (by kernel_rfl) ?_ (Or.inl ⟨?_, ?_⟩) (by assumption) ?_
      rotate_left 2
      · (simp only [List.getElem?_toArray, List.getElem?_cons_succ, List.getElem?_cons_zero]; rfl)
      · exact fun _ _ _ h => h
      · rfl
      · (intro W hSW; (try dsimp only at hSW); go_split_ands; first | (go_simp; done) | (go_simp; with_reducible rfl))
      try simp only [Act.put, List.setIfInBounds_toArray, List.set_cons_zero, List.set_cons_succ]
      refine' wpAnyH_take (i := 8) (oi := _) (v := _) ?_ (by kernel_rfl) (by kernel_rfl) (by kernel_rfl) ?_ (Or.inl ⟨?_, ?_⟩) (by assumption) ?_
      rotate_left 2
      · (simp only [List.getElem?_toArray, List.getElem?_cons_succ, List.getElem?_cons_zero]; rfl)
      · exact fun _ _ _ h => h
      · rfl
      · (intro W hSW; (try dsimp only at hSW); go_split_ands; first | (go_simp; done) | (go_simp; with_reducible rfl))
      try simp only [Act.put, List.setIfInBounds_toArray, List.set_cons_zero, List.set_cons_succ]
      clear hHeld
      refine wpAnyH_done (by kernel_rfl) ?_ _
      go_wp2_with fail
      rw [rounds_succ]
      go_wp2_with fail
      refine wp_region_held_drew (S := fun W' => W'.cell? ⟨w2.heap.size, 2, none⟩ = some (.int .i64 (cl)) ∧ W'.cell? ⟨w1.heap.size + 1, 2, none⟩ = some (.int .i64 (cl))) (by kernel_rfl) ?_ (fun hHeld => ?_)
      · constructor <;> go_simp
      refine' wpAnyH_take (i := 0) (oi := _) (v := _) ?_ (by kernel_rfl) (by kernel_rfl) (by kernel_rfl) ?_ (Or.inl ⟨?_, ?_⟩) (by assumption) ?_
      rotate_left 2
      · (simp only [List.getElem?_toArray, List.getElem?_cons_succ, List.getElem?_cons_zero]; rfl)
      · exact fun _ _ _ h => h
      · rfl
      · (intro W hSW; (try dsimp only at hSW); go_split_ands; first | (go_simp; done) | (go_simp; with_reducible rfl))
      try simp only [Act.put, List.setIfInBounds_toArray, List.set_cons_zero, List.set_cons_succ]
      refine' wpAnyH_take (i := 1) (oi := _) (v := _) ?_ (by kernel_rfl) (by kernel_rfl) (by kernel_rfl) ?_ (Or.inl ⟨?_, ?_⟩) (by assumption) ?_
      rotate_left 2
      · (simp only [List.getElem?_toArray, List.getElem?_cons_succ, List.getElem?_cons_zero]; rfl)
      · exact fun _ _ _ h => h
      · rfl
      · (intro W hSW; (try dsimp only at hSW); go_split_ands; first | (go_simp; done) | (go_simp; with_reducible rfl))
      try simp only [Act.put, List.setIfInBounds_toArray, List.set_cons_zero, List.set_cons_succ]
      refine' wpAnyH_take (i := 2) (oi := _) (v := _) ?_ (by kernel_rfl) (by kernel_rfl) (by kernel_rfl) ?_ (Or.inl ⟨?_, ?_⟩) (by assumption) ?_
      rotate_left 2
      · (simp only [List.getElem?_toArray, List.getElem?_cons_succ, List.getElem?_cons_zero]; rfl)
      · exact fun _ _ _ h => h
      · rfl
      · (intro W hSW; (try dsimp only at hSW); go_split_ands; first | (go_simp; done) | (go_simp; with_reducible rfl))
      try simp only [Act.put, List.setIfInBounds_toArray, List.set_cons_zero, List.set_cons_succ]
      refine' wpAnyH_take (i := 3) (oi := _) (v := _) ?_ (by kernel_rfl) (by kernel_rfl) (by kernel_rfl) ?_ (Or.inl ⟨?_, ?_⟩) (by assumption) ?_
      rotate_left 2
      · (simp only [List.getElem?_toArray, List.getElem?_cons_succ, List.getElem?_cons_zero]; rfl)
      · exact fun _ _ _ h => h
      · rfl
      · (intro W hSW; (try dsimp only at hSW); go_split_ands; first | (go_simp; done) | (go_simp; with_reducible rfl))
      try simp only [Act.put, List.setIfInBounds_toArray, List.set_cons_zero, List.set_cons_succ]
      refine' wpAnyH_take (i := 4) (oi := _) (v := _) ?_ (by kernel_rfl) (by kernel_rfl) (by kernel_rfl) ?_ (Or.inl ⟨?_, ?_⟩) (by assumption) ?_
      rotate_left 2
      · (simp only [List.getElem?_toArray, List.getElem?_cons_succ, List.getElem?_cons_zero]; rfl)
      · exact fun _ _ _ h => h
      · rfl
      · (intro W hSW; (try dsimp only at hSW); go_split_ands; first | (go_simp; done) | (go_simp; with_reducible rfl))
      try simp only [Act.put, List.setIfInBounds_toArray, List.set_cons_zero, List.set_cons_succ]
      refine' wpAnyH_take (i := 5) (oi := _) (v := _) ?_ (by kernel_rfl) (by kernel_rfl) (by kernel_rfl) ?_ (Or.inl ⟨?_, ?_⟩) (by assumption) ?_
      rotate_left 2
      · (simp only [List.getElem?_toArray, List.getElem?_cons_succ, List.getElem?_cons_zero]; rfl)
      · exact fun _ _ _ h => h
      · rfl
      · (intro W hSW; (try dsimp only at hSW); go_split_ands; first | (go_simp; done) | (go_simp; with_reducible rfl))
      try simp only [Act.put, List.setIfInBounds_toArray, List.set_cons_zero, List.set_cons_succ]
      refine' wpAnyH_take (i := 6) (oi := _) (v := _) ?_ (by kernel_rfl) (by kernel_rfl) (by kernel_rfl) ?_ (Or.inl ⟨?_, ?_⟩) (by assumption) ?_
      rotate_left 2
      · (simp only [List.getElem?_toArray, List.getElem?_cons_succ, List.getElem?_cons_zero]; rfl)
      · exact fun _ _ _ h => h
      · rfl
      · (intro W hSW; (try dsimp only at hSW); go_split_ands; first | (go_simp; done) | (go_simp; with_reducible rfl))
      try simp only [Act.put, List.setIfInBounds_toArray, List.set_cons_zero, List.set_cons_succ]
      refine' wpAnyH_take (i := 7) (oi := _) (v := _) ?_ (by kernel_rfl) (by kernel_rfl) (by kernel_rfl) ?_ (Or.inl ⟨?_, ?_⟩) (by assumption) ?_
      rotate_left 2
      · (simp only [List.getElem?_toArray, List.getElem?_cons_succ, List.getElem?_cons_zero]; rfl)
      · exact fun _ _ _ h => h
      · rfl
      · (intro W hSW; (try dsimp only at hSW); go_split_ands; first | (go_simp; done) | (go_simp; with_reducible rfl))
      try simp only [Act.put, List.setIfInBounds_toArray, List.set_cons_zero, List.set_cons_succ]
      refine' wpAnyH_take (i := 8) (oi := _) (v := _) ?_ (by kernel_rfl) (by kernel_rfl) (by kernel_rfl) ?_ (Or.inl ⟨?_, ?_⟩) (by assumption) ?_
      rotate_left 2
      · (simp only [List.getElem?_toArray, List.getElem?_cons_succ, List.getElem?_cons_zero]; rfl)
      · exact fun _ _ _ h => h
      · rfl
      · (intro W hSW; (try dsimp only at hSW); go_split_ands; first | (go_simp; done) | (go_simp; with_reducible rfl))
      try simp only [Act.put, List.setIfInBounds_toArray, List.set_cons_zero, List.set_cons_succ]
      clear hHeld
      refine wpAnyH_done (by kernel_rfl) ?_ _
      go_wp2_with fail
      rw [rounds_succ]
      go_wp2_with fail
      refine wp_region_held_drew (S := fun W' => W'.cell? ⟨w2.heap.size, 3, none⟩ = some (.int .i64 (r)) ∧ W'.cell? ⟨w1.heap.size + 1, 3, none⟩ = some (.int .i64 (r))) (by kernel_rfl) ?_ (fun hHeld => ?_)
      · constructor <;> go_simp
      refine' wpAnyH_take (i := 0) (oi := _) (v := _) ?_ (by kernel_rfl) (by kernel_rfl) (by kernel_rfl) ?_ (Or.inl ⟨?_, ?_⟩) (by assumption) ?_
      rotate_left 2
      · (simp only [List.getElem?_toArray, List.getElem?_cons_succ, List.getElem?_cons_zero]; rfl)
      · exact fun _ _ _ h => h
      · rfl
      · (intro W hSW; (try dsimp only at hSW); go_split_ands; first | (go_simp; done) | (go_simp; with_reducible rfl))
      try simp only [Act.put, List.setIfInBounds_toArray, List.set_cons_zero, List.set_cons_succ]
      refine' wpAnyH_take (i := 1) (oi := _) (v := _) ?_ (by kernel_rfl) (by kernel_rfl) (by kernel_rfl) ?_ (Or.inl ⟨?_, ?_⟩) (by assumption) ?_
      rotate_left 2
      · (simp only [List.getElem?_toArray, List.getElem?_cons_succ, List.getElem?_cons_zero]; rfl)
      · exact fun _ _ _ h => h
      · rfl
      · (intro W hSW; (try dsimp only at hSW); go_split_ands; first | (go_simp; done) | (go_simp; with_reducible rfl))
      try simp only [Act.put, List.setIfInBounds_toArray, List.set_cons_zero, List.set_cons_succ]
      refine' wpAnyH_take (i := 2) (oi := _) (v := _) ?_ (by kernel_rfl) (by kernel_rfl) (by kernel_rfl) ?_ (Or.inl ⟨?_, ?_⟩) (by assumption) ?_
      rotate_left 2
      · (simp only [List.getElem?_toArray, List.getElem?_cons_succ, List.getElem?_cons_zero]; rfl)
      · exact fun _ _ _ h => h
      · rfl
      · (intro W hSW; (try dsimp only at hSW); go_split_ands; first | (go_simp; done) | (go_simp; with_reducible rfl))
      try simp only [Act.put, List.setIfInBounds_toArray, List.set_cons_zero, List.set_cons_succ]
      refine' wpAnyH_take (i := 3) (oi := _) (v := _) ?_ (by kernel_rfl) (by kernel_rfl) (by kernel_rfl) ?_ (Or.inl ⟨?_, ?_⟩) (by assumption) ?_
      rotate_left 2
      · (simp only [List.getElem?_toArray, List.getElem?_cons_succ, List.getElem?_cons_zero]; rfl)
      · exact fun _ _ _ h => h
      · rfl
      · (intro W hSW; (try dsimp only at hSW); go_split_ands; first | (go_simp; done) | (go_simp; with_reducible rfl))
      try simp only [Act.put, List.setIfInBounds_toArray, List.set_cons_zero, List.set_cons_succ]
      refine' wpAnyH_take (i := 4) (oi := _) (v := _) ?_ (by kernel_rfl) (by kernel_rfl) (by kernel_rfl) ?_ (Or.inl ⟨?_, ?_⟩) (by assumption) ?_
      rotate_left 2
      · (simp only [List.getElem?_toArray, List.getElem?_cons_succ, List.getElem?_cons_zero]; rfl)
      · exact fun _ _ _ h => h
      · rfl
      · (intro W hSW; (try dsimp only at hSW); go_split_ands; first | (go_simp; done) | (go_simp; with_reducible rfl))
      try simp only [Act.put, List.setIfInBounds_toArray, List.set_cons_zero, List.set_cons_succ]
      refine' wpAnyH_take (i := 5) (oi := _) (v := _) ?_ (by kernel_rfl) (by kernel_rfl) (by kernel_rfl) ?_ (Or.inl ⟨?_, ?_⟩) (by assumption) ?_
      rotate_left 2
      · (simp only [List.getElem?_toArray, List.getElem?_cons_succ, List.getElem?_cons_zero]; rfl)
      · exact fun _ _ _ h => h
      · rfl
      · (intro W hSW; (try dsimp only at hSW); go_split_ands; first | (go_simp; done) | (go_simp; with_reducible rfl))
      try simp only [Act.put, List.setIfInBounds_toArray, List.set_cons_zero, List.set_cons_succ]
      refine' wpAnyH_take (i := 6) (oi := _) (v := _) ?_ (by kernel_rfl) (by kernel_rfl) (by kernel_rfl) ?_ (Or.inl ⟨?_, ?_⟩) (by assumption) ?_
      rotate_left 2
      · (simp only [List.getElem?_toArray, List.getElem?_cons_succ, List.getElem?_cons_zero]; rfl)
      · exact fun _ _ _ h => h
      · rfl
      · (intro W hSW; (try dsimp only at hSW); go_split_ands; first | (go_simp; done) | (go_simp; with_reducible rfl))
      try simp only [Act.put, List.setIfInBounds_toArray, List.set_cons_zero, List.set_cons_succ]
      refine' wpAnyH_take (i := 7) (oi := _) (v := _) ?_ (by kernel_rfl) (by kernel_rfl) (by kernel_rfl) ?_ (Or.inl ⟨?_, ?_⟩) (by assumption) ?_
      rotate_left 2
      · (simp only [List.getElem?_toArray, List.getElem?_cons_succ, List.getElem?_cons_zero]; rfl)
      · exact fun _ _ _ h => h
      · rfl
      · (intro W hSW; (try dsimp only at hSW); go_split_ands; first | (go_simp; done) | (go_simp; with_reducible rfl))
      try simp only [Act.put, List.setIfInBounds_toArray, List.set_cons_zero, List.set_cons_succ]
      refine' wpAnyH_take (i := 8) (oi := _) (v := _) ?_ (by kernel_rfl) (by kernel_rfl) (by kernel_rfl) ?_ (Or.inl ⟨?_, ?_⟩) (by assumption) ?_
      rotate_left 2
      · (simp only [List.getElem?_toArray, List.getElem?_cons_succ, List.getElem?_cons_zero]; rfl)
      · exact fun _ _ _ h => h
      · rfl
      · (intro W hSW; (try dsimp only at hSW); go_split_ands; first | (go_simp; done) | (go_simp; with_reducible rfl))
      try simp only [Act.put, List.setIfInBounds_toArray, List.set_cons_zero, List.set_cons_succ]
      clear hHeld
      refine wpAnyH_done (by kernel_rfl) ?_ _
      go_wp2_with fail
      rw [rounds_succ]
      go_wp2_with fail
      refine wp_region_held_drew (S := fun W' => W'.cell? ⟨w2.heap.size, 4, none⟩ = some (.int .i64 (q)) ∧ W'.cell? ⟨w1.heap.size + 1, 4, none⟩ = some (.int .i64 (q))) (by kernel_rfl) ?_ (fun hHeld => ?_)
      · constructor <;> go_simp
      refine' wpAnyH_take (i := 0) (oi := _) (v := _) ?_ (by kernel_rfl) (by kernel_rfl) (by kernel_rfl) ?_ (Or.inl ⟨?_, ?_⟩) (by assumption) ?_
      rotate_left 2
      · (simp only [List.getElem?_toArray, List.getElem?_cons_succ, List.getElem?_cons_zero]; rfl)
      · exact fun _ _ _ h => h
      · rfl
      · (intro W hSW; (try dsimp only at hSW); go_split_ands; first | (go_simp; done) | (go_simp; with_reducible rfl))
      try simp only [Act.put, List.setIfInBounds_toArray, List.set_cons_zero, List.set_cons_succ]
      refine' wpAnyH_take (i := 1) (oi := _) (v := _) ?_ (by kernel_rfl) (by kernel_rfl) (by kernel_rfl) ?_ (Or.inl ⟨?_, ?_⟩) (by assumption) ?_
      rotate_left 2
      · (simp only [List.getElem?_toArray, List.getElem?_cons_succ, List.getElem?_cons_zero]; rfl)
      · exact fun _ _ _ h => h
      · rfl
      · (intro W hSW; (try dsimp only at hSW); go_split_ands; first | (go_simp; done) | (go_simp; with_reducible rfl))
      try simp only [Act.put, List.setIfInBounds_toArray, List.set_cons_zero, List.set_cons_succ]
      refine' wpAnyH_take (i := 2) (oi := _) (v := _) ?_ (by kernel_rfl) (by kernel_rfl) (by kernel_rfl) ?_ (Or.inl ⟨?_, ?_⟩) (by assumption) ?_
      rotate_left 2
      · (simp only [List.getElem?_toArray, List.getElem?_cons_succ, List.getElem?_cons_zero]; rfl)
      · exact fun _ _ _ h => h
      · rfl
      · (intro W hSW; (try dsimp only at hSW); go_split_ands; first | (go_simp; done) | (go_simp; with_reducible rfl))
      try simp only [Act.put, List.setIfInBounds_toArray, List.set_cons_zero, List.set_cons_succ]
      refine' wpAnyH_take (i := 3) (oi := _) (v := _) ?_ (by kernel_rfl) (by kernel_rfl) (by kernel_rfl) ?_ (Or.inl ⟨?_, ?_⟩) (by assumption) ?_
      rotate_left 2
      · (simp only [List.getElem?_toArray, List.getElem?_cons_succ, List.getElem?_cons_zero]; rfl)
      · exact fun _ _ _ h => h
      · rfl
      · (intro W hSW; (try dsimp only at hSW); go_split_ands; first | (go_simp; done) | (go_simp; with_reducible rfl))
      try simp only [Act.put, List.setIfInBounds_toArray, List.set_cons_zero, List.set_cons_succ]
      refine' wpAnyH_take (i := 4) (oi := _) (v := _) ?_ (by kernel_rfl) (by kernel_rfl) (by kernel_rfl) ?_ (Or.inl ⟨?_, ?_⟩) (by assumption) ?_
      rotate_left 2
      · (simp only [List.getElem?_toArray, List.getElem?_cons_succ, List.getElem?_cons_zero]; rfl)
      · exact fun _ _ _ h => h
      · rfl
      · (intro W hSW; (try dsimp only at hSW); go_split_ands; first | (go_simp; done) | (go_simp; with_reducible rfl))
      try simp only [Act.put, List.setIfInBounds_toArray, List.set_cons_zero, List.set_cons_succ]
      refine' wpAnyH_take (i := 5) (oi := _) (v := _) ?_ (by kernel_rfl) (by kernel_rfl) (by kernel_rfl) ?_ (Or.inl ⟨?_, ?_⟩) (by assumption) ?_
      rotate_left 2
      · (simp only [List.getElem?_toArray, List.getElem?_cons_succ, List.getElem?_cons_zero]; rfl)
      · exact fun _ _ _ h => h
      · rfl
      · (intro W hSW; (try dsimp only at hSW); go_split_ands; first | (go_simp; done) | (go_simp; with_reducible rfl))
      try simp only [Act.put, List.setIfInBounds_toArray, List.set_cons_zero, List.set_cons_succ]
      refine' wpAnyH_take (i := 6) (oi := _) (v := _) ?_ (by kernel_rfl) (by kernel_rfl) (by kernel_rfl) ?_ (Or.inl ⟨?_, ?_⟩) (by assumption) ?_
      rotate_left 2
      · (simp only [List.getElem?_toArray, List.getElem?_cons_succ, List.getElem?_cons_zero]; rfl)
      · exact fun _ _ _ h => h
      · rfl
      · (intro W hSW; (try dsimp only at hSW); go_split_ands; first | (go_simp; done) | (go_simp; with_reducible rfl))
      try simp only [Act.put, List.setIfInBounds_toArray, List.set_cons_zero, List.set_cons_succ]
      refine' wpAnyH_take (i := 7) (oi := _) (v := _) ?_ (by kernel_rfl) (by kernel_rfl) (by kernel_rfl) ?_ (Or.inl ⟨?_, ?_⟩) (by assumption) ?_
      rotate_left 2
      · (simp only [List.getElem?_toArray, List.getElem?_cons_succ, List.getElem?_cons_zero]; rfl)
      · exact fun _ _ _ h => h
      · rfl
      · (intro W hSW; (try dsimp only at hSW); go_split_ands; first | (go_simp; done) | (go_simp; with_reducible rfl))
      try simp only [Act.put, List.setIfInBounds_toArray, List.set_cons_zero, List.set_cons_succ]
      refine' wpAnyH_take (i := 8) (oi := _) (v := _) ?_ (by kernel_rfl) (by kernel_rfl) (by kernel_rfl) ?_ (Or.inl ⟨?_, ?_⟩) (by assumption) ?_
      rotate_left 2
      · (simp only [List.getElem?_toArray, List.getElem?_cons_succ, List.getElem?_cons_zero]; rfl)
      · exact fun _ _ _ h => h
      · rfl
      · (intro W hSW; (try dsimp only at hSW); go_split_ands; first | (go_simp; done) | (go_simp; with_reducible rfl))
      try simp only [Act.put, List.setIfInBounds_toArray, List.set_cons_zero, List.set_cons_succ]
      clear hHeld
      refine wpAnyH_done (by kernel_rfl) ?_ _
      go_wp2_with fail
      rw [rounds_succ]
      go_wp2_with fail
      refine Calls.mono (U.out _) ?_
      rintro e w3 ⟨rfl, hb3⟩
      obtain ⟨kk, ff⟩ := bcell hb3
      have hc3 : Below w.heap.size w w3 := under hb3
      have k3_0 : ∀ o, w3.cell? ⟨x, o, none⟩ = _ := fun o => kk _ o (by first | assumption | omega | (simp; done) | (simp; omega))
      have f3_0 : ∀ o, w3.frozen? ⟨x, o, none⟩ = _ := fun o => ff _ o (by first | assumption | omega | (simp; done) | (simp; omega))
      have z3_0 : x < w3.heap.size := by have := hb3.size; (try simp at this); omega
      have k3_1 : ∀ o, w3.cell? ⟨y, o, none⟩ = _ := fun o => kk _ o (by first | assumption | omega | (simp; done) | (simp; omega))
      have f3_1 : ∀ o, w3.frozen? ⟨y, o, none⟩ = _ := fun o => ff _ o (by first | assumption | omega | (simp; done) | (simp; omega))
      have z3_1 : y < w3.heap.size := by have := hb3.size; (try simp at this); omega
      have k3_2 : ∀ o, w3.cell? ⟨w1.heap.size, o, none⟩ = _ := fun o => kk _ o (by first | assumption | omega | (simp; done) | (simp; omega))
      have f3_2 : ∀ o, w3.frozen? ⟨w1.heap.size, o, none⟩ = _ := fun o => ff _ o (by first | assumption | omega | (simp; done) | (simp; omega))
      have z3_2 : w1.heap.size < w3.heap.size := by have := hb3.size; (try simp at this); omega
      clear kk ff
      have hs3 := hc3.size
      clear hc2 hb3
      go_wp2_with fail
      refine Calls.mono (V.out _) ?_
      rintro e w4 ⟨rfl, hb4⟩
      obtain ⟨kk, ff⟩ := bcell hb4
      have hc4 : Below w.heap.size w w4 := under hb4
      have k4_0 : ∀ o, w4.cell? ⟨y, o, none⟩ = _ := fun o => kk _ o (by first | assumption | omega | (simp; done) | (simp; omega))
      have f4_0 : ∀ o, w4.frozen? ⟨y, o, none⟩ = _ := fun o => ff _ o (by first | assumption | omega | (simp; done) | (simp; omega))
      have z4_0 : y < w4.heap.size := by have := hb4.size; (try simp at this); omega
      clear kk ff
      have hs4 := hc4.size
      clear hc3 hb4
      go_wp2_with fail
      refine Calls.mono (works _ (hE.on (by go_grown))) ?_
      rintro e w5 ⟨rfl, hb5⟩
      obtain ⟨kk, ff⟩ := bcell hb5
      have hc5 : Below w.heap.size w w5 := under hb5
      clear kk ff
      have hs5 := hc5.size
      clear hc4 hb5
      go_wp2_with fail
      go_returns
      exact ⟨rfl, by go_grown⟩
    case c23 ua ub e a_ g =>
      have A := Lib.hid a_
      have K := Lib.hid g.chk
      have U := Lib.hid g.u
      have V := Lib.hid g.v
      obtain ⟨-, -, -, a0, a1, b0, b1, d0, l0, l1, c0, c1, r0, r1, q0, q1⟩ := g
      clear a_
      go_wp2_with fail
      refine Calls.mono (A.out _) ?_
      rintro e w1 ⟨rfl, hb1⟩
      obtain ⟨kk, ff⟩ := bcell hb1
      have hc1 : Below w.heap.size w w1 := under hb1
      have k1_0 : ∀ o, w1.cell? ⟨x, o, none⟩ = _ := fun o => kk _ o (by first | assumption | omega | (simp; done) | (simp; omega))
      have f1_0 : ∀ o, w1.frozen? ⟨x, o, none⟩ = _ := fun o => ff _ o (by first | assumption | omega | (simp; done) | (simp; omega))
      have z1_0 : x < w1.heap.size := by have := hb1.size; (try simp at this); omega
      have k1_1 : ∀ o, w1.cell? ⟨y, o, none⟩ = _ := fun o => kk _ o (by first | assumption | omega | (simp; done) | (simp; omega))
      have f1_1 : ∀ o, w1.frozen? ⟨y, o, none⟩ = _ := fun o => ff _ o (by first | assumption | omega | (simp; done) | (simp; omega))
      have z1_1 : y < w1.heap.size := by have := hb1.size; (try simp at this); omega
      clear kk ff
      have hs1 := hc1.size
      clear hc0 hb1
      go_wp2_with fail
      refine Calls.mono (K.out _) ?_
      rintro e w2 ⟨rfl, hb2⟩
      obtain ⟨kk, ff⟩ := bcell hb2
      have hc2 : Below w.heap.size w w2 := under hb2
      have k2_0 : ∀ o, w2.cell? ⟨x, o, none⟩ = _ := fun o => kk _ o (by first | assumption | omega | (simp; done) | (simp; omega))
      have f2_0 : ∀ o, w2.frozen? ⟨x, o, none⟩ = _ := fun o => ff _ o (by first | assumption | omega | (simp; done) | (simp; omega))
      have z2_0 : x < w2.heap.size := by have := hb2.size; (try simp at this); omega
      have k2_1 : ∀ o, w2.cell? ⟨y, o, none⟩ = _ := fun o => kk _ o (by first | assumption | omega | (simp; done) | (simp; omega))
      have f2_1 : ∀ o, w2.frozen? ⟨y, o, none⟩ = _ := fun o => ff _ o (by first | assumption | omega | (simp; done) | (simp; omega))
      have z2_1 : y < w2.heap.size := by have := hb2.size; (try simp at this); omega
      have k2_2 : ∀ o, w2.cell? ⟨w1.heap.size, o, none⟩ = _ := fun o => kk _ o (by first | assumption | omega | (simp; done) | (simp; omega))
      have f2_2 : ∀ o, w2.frozen? ⟨w1.heap.size, o, none⟩ = _ := fun o => ff _ o (by first | assumption | omega | (simp; done) | (simp; omega))
      have z2_2 : w1.heap.size < w2.heap.size := by have := hb2.size; (try simp at this); omega
      have k2_3 : ∀ o, w2.cell? ⟨w1.heap.size+1, o, none⟩ = _ := fun o => kk _ o (by first | assumption | omega | (simp; done) | (simp; omega))
      have f2_3 : ∀ o, w2.frozen? ⟨w1.heap.size+1, o, none⟩ = _ := fun o => ff _ o (by first | assumption | omega | (simp; done) | (simp; omega))
      have z2_3 : w1.heap.size+1 < w2.heap.size := by have := hb2.size; (try simp at this); omega
      clear kk ff
      have hs2 := hc2.size
      clear hc1 hb2
      go_wp2_with fail
      refine wp_loop_rounds 5 ?_
      rw [rounds_succ]
      go_wp2_with fail
      refine wp_region_held_drew (S := fun W' => W'.cell? ⟨w2.heap.size, 1, none⟩ = some (.int .i64 (l)) ∧ W'.cell? ⟨w1.heap.size + 1, 1, none⟩ = some (.int .i64 (l))) (by kernel_rfl) ?_ (fun hHeld => ?_)
      · constructor <;> go_simp
      refine' wpAnyH_take (i := 0) (oi := _) (v := _) ?_ (by kernel_rfl) (by kernel_rfl) (by kernel_rfl) ?_ (Or.inl ⟨?_, ?_⟩) (by assumption) ?_
      rotate_left 2
      · (simp only [List.getElem?_toArray, List.getElem?_cons_succ, List.getElem?_cons_zero]; rfl)
      · exact fun _ _ _ h => h
      · rfl
      · (intro W hSW; (try dsimp only at hSW); go_split_ands; first | (go_simp; done) | (go_simp; with_reducible rfl))
      try simp only [Act.put, List.setIfInBounds_toArray, List.set_cons_zero, List.set_cons_succ]
      refine' wpAnyH_take (i := 1) (oi := _) (v := _) ?_ (by kernel_rfl) (by kernel_rfl) (by kernel_rfl) ?_ (Or.inl ⟨?_, ?_⟩) (by assumption) ?_
      rotate_left 2
      · (simp only [List.getElem?_toArray, List.getElem?_cons_succ, List.getElem?_cons_zero]; rfl)
      · exact fun _ _ _ h => h
      · rfl
      · (intro W hSW; (try dsimp only at hSW); go_split_ands; first | (go_simp; done) | (go_simp; with_reducible rfl))
      try simp only [Act.put, List.setIfInBounds_toArray, List.set_cons_zero, List.set_cons_succ]
      refine' wpAnyH_take (i := 2) (oi := _) (v := _) ?_ (by kernel_rfl) (by kernel_rfl) (by kernel_rfl) ?_ (Or.inl ⟨?_, ?_⟩) (by assumption) ?_
      rotate_left 2
      · (simp only [List.getElem?_toArray, List.getElem?_cons_succ, List.getElem?_cons_zero]; rfl)
      · exact fun _ _ _ h => h
      · rfl
      · (intro W hSW; (try dsimp only at hSW); go_split_ands; first | (go_simp; done) | (go_simp; with_reducible rfl))
      try simp only [Act.put, List.setIfInBounds_toArray, List.set_cons_zero, List.set_cons_succ]
      refine' wpAnyH_take (i := 3) (oi := _) (v := _) ?_ (by kernel_rfl) (by kernel_rfl) (by kernel_rfl) ?_ (Or.inl ⟨?_, ?_⟩) (by assumption) ?_
      rotate_left 2
      · (simp only [List.getElem?_toArray, List.getElem?_cons_succ, List.getElem?_cons_zero]; rfl)
      · exact fun _ _ _ h => h
      · rfl
      · (intro W hSW; (try dsimp only at hSW); go_split_ands; first | (go_simp; done) | (go_simp; with_reducible rfl))
      try simp only [Act.put, List.setIfInBounds_toArray, List.set_cons_zero, List.set_cons_succ]
      refine' wpAnyH_take (i := 4) (oi := _) (v := _) ?_ (by kernel_rfl) (by kernel_rfl) (by kernel_rfl) ?_ (Or.inl ⟨?_, ?_⟩) (by assumption) ?_
      rotate_left 2
      · (simp only [List.getElem?_toArray, List.getElem?_cons_succ, List.getElem?_cons_zero]; rfl)
      · exact fun _ _ _ h => h
      · rfl
      · (intro W hSW; (try dsimp only at hSW); go_split_ands; first | (go_simp; done) | (go_simp; with_reducible rfl))
      try simp only [Act.put, List.setIfInBounds_toArray, List.set_cons_zero, List.set_cons_succ]
      refine' wpAnyH_take (i := 5) (oi := _) (v := _) ?_ (by kernel_rfl) (by kernel_rfl) (by kernel_rfl) ?_ (Or.inl ⟨?_, ?_⟩) (by assumption) ?_
      rotate_left 2
      · (simp only [List.getElem?_toArray, List.getElem?_cons_succ, List.getElem?_cons_zero]; rfl)
      · exact fun _ _ _ h => h
      · rfl
      · (intro W hSW; (try dsimp only at hSW); go_split_ands; first | (go_simp; done) | (go_simp; with_reducible rfl))
      try simp only [Act.put, List.setIfInBounds_toArray, List.set_cons_zero, List.set_cons_succ]
      refine' wpAnyH_take (i := 6) (oi := _) (v := _) ?_ (by kernel_rfl) (by kernel_rfl) (by kernel_rfl) ?_ (Or.inl ⟨?_, ?_⟩) (by assumption) ?_
      rotate_left 2
      · (simp only [List.getElem?_toArray, List.getElem?_cons_succ, List.getElem?_cons_zero]; rfl)
      · exact fun _ _ _ h => h
      · rfl
      · (intro W hSW; (try dsimp only at hSW); go_split_ands; first | (go_simp; done) | (go_simp; with_reducible rfl))
      try simp only [Act.put, List.setIfInBounds_toArray, List.set_cons_zero, List.set_cons_succ]
      refine' wpAnyH_take (i := 7) (oi := _) (v := _) ?_ (by kernel_rfl) (by kernel_rfl) (by kernel_rfl) ?_ (Or.inl ⟨?_, ?_⟩) (by assumption) ?_
      rotate_left 2
      · (simp only [List.getElem?_toArray, List.getElem?_cons_succ, List.getElem?_cons_zero]; rfl)
      · exact fun _ _ _ h => h
      · rfl
      · (intro W hSW; (try dsimp only at hSW); go_split_ands; first | (go_simp; done) | (go_simp; with_reducible rfl))
      try simp only [Act.put, List.setIfInBounds_toArray, List.set_cons_zero, List.set_cons_succ]
      refine' wpAnyH_take (i := 8) (oi := _) (v := _) ?_ (by kernel_rfl) (by kernel_rfl) (by kernel_rfl) ?_ (Or.inl ⟨?_, ?_⟩) (by assumption) ?_
      rotate_left 2
      · (simp only [List.getElem?_toArray, List.getElem?_cons_succ, List.getElem?_cons_zero]; rfl)
      · exact fun _ _ _ h => h
      · rfl
      · (intro W hSW; (try dsimp only at hSW); go_split_ands; first | (go_simp; done) | (go_simp; with_reducible rfl))
      try simp only [Act.put, List.setIfInBounds_toArray, List.set_cons_zero, List.set_cons_succ]
      clear hHeld
      refine wpAnyH_done (by kernel_rfl) ?_ _
      go_wp2_with fail
      rw [rounds_succ]
      go_wp2_with fail
      refine wp_region_held_drew (S := fun W' => W'.cell? ⟨w2.heap.size, 2, none⟩ = some (.int .i64 (cl - 1)) ∧ W'.cell? ⟨w1.heap.size + 1, 2, none⟩ = some (.int .i64 (cl - 1))) (by kernel_rfl) ?_ (fun hHeld => ?_)
      · constructor <;> go_simp
      refine' wpAnyH_take (i := 0) (oi := _) (v := _) ?_ (by kernel_rfl) (by kernel_rfl) (by kernel_rfl) ?_ (Or.inl ⟨?_, ?_⟩) (by assumption) ?_
      rotate_left 2
      · (simp only [List.getElem?_toArray, List.getElem?_cons_succ, List.getElem?_cons_zero]; rfl)
      · exact fun _ _ _ h => h
      · rfl
      · (intro W hSW; (try dsimp only at hSW); go_split_ands; first | (go_simp; done) | (go_simp; with_reducible rfl))
      try simp only [Act.put, List.setIfInBounds_toArray, List.set_cons_zero, List.set_cons_succ]
      refine' wpAnyH_take (i := 1) (oi := _) (v := _) ?_ (by kernel_rfl) (by kernel_rfl) (by kernel_rfl) ?_ (Or.inl ⟨?_, ?_⟩) (by assumption) ?_
      rotate_left 2
      · (simp only [List.getElem?_toArray, List.getElem?_cons_succ, List.getElem?_cons_zero]; rfl)
      · exact fun _ _ _ h => h
      · rfl
      · (intro W hSW; (try dsimp only at hSW); go_split_ands; first | (go_simp; done) | (go_simp; with_reducible rfl))
      try simp only [Act.put, List.setIfInBounds_toArray, List.set_cons_zero, List.set_cons_succ]
      refine' wpAnyH_take (i := 2) (oi := _) (v := _) ?_ (by kernel_rfl) (by kernel_rfl) (by kernel_rfl) ?_ (Or.inl ⟨?_, ?_⟩) (by assumption) ?_
      rotate_left 2
      · (simp only [List.getElem?_toArray, List.getElem?_cons_succ, List.getElem?_cons_zero]; rfl)
      · exact fun _ _ _ h => h
      · rfl
      · (intro W hSW; (try dsimp only at hSW); go_split_ands; first | (go_simp; done) | (go_simp; with_reducible rfl))
      try simp only [Act.put, List.setIfInBounds_toArray, List.set_cons_zero, List.set_cons_succ]
      refine' wpAnyH_take (i := 3) (oi := _) (v := _) ?_ (by kernel_rfl) (by kernel_rfl) (by kernel_rfl) ?_ (Or.inl ⟨?_, ?_⟩) (by assumption) ?_
      rotate_left 2
      · (simp only [List.getElem?_toArray, List.getElem?_cons_succ, List.getElem?_cons_zero]; rfl)
      · exact fun _ _ _ h => h
      · rfl
      · (intro W hSW; (try dsimp only at hSW); go_split_ands; first | (go_simp; done) | (go_simp; with_reducible rfl))
      try simp only [Act.put, List.setIfInBounds_toArray, List.set_cons_zero, List.set_cons_succ]
      refine' wpAnyH_take (i := 4) (oi := _) (v := _) ?_ (by kernel_rfl) (by kernel_rfl) (by kernel_rfl) ?_ (Or.inl ⟨?_, ?_⟩) (by assumption) ?_
      rotate_left 2
      · (simp only [List.getElem?_toArray, List.getElem?_cons_succ, List.getElem?_cons_zero]; rfl)
      · exact fun _ _ _ h => h
      · rfl
      · (intro W hSW; (try dsimp only at hSW); go_split_ands; first | (go_simp; done) | (go_simp; with_reducible rfl))
      try simp only [Act.put, List.setIfInBounds_toArray, List.set_cons_zero, List.set_cons_succ]
      refine' wpAnyH_take (i := 5) (oi := _) (v := _) ?_ (by kernel_rfl) (by kernel_rfl) (by kernel_rfl) ?_ (Or.inl ⟨?_, ?_⟩) (by assumption) ?_
      rotate_left 2
      · (simp only [List.getElem?_toArray, List.getElem?_cons_succ, List.getElem?_cons_zero]; rfl)
      · exact fun _ _ _ h => h
      · rfl
      · (intro W hSW; (try dsimp only at hSW); go_split_ands; first | (go_simp; done) | (go_simp; with_reducible rfl))
      try simp only [Act.put, List.setIfInBounds_toArray, List.set_cons_zero, List.set_cons_succ]
      refine' wpAnyH_take (i := 6) (oi := _) (v := _) ?_ (by kernel_rfl) (by kernel_rfl) (by kernel_rfl) ?_ (Or.inl ⟨?_, ?_⟩) (by assumption) ?_
      rotate_left 2
      · (simp only [List.getElem?_toArray, List.getElem?_cons_succ, List.getElem?_cons_zero]; rfl)
      · exact fun _ _ _ h => h
      · rfl
      · (intro W hSW; (try dsimp only at hSW); go_split_ands; first | (go_simp; done) | (go_simp; with_reducible rfl))
      try simp only [Act.put, List.setIfInBounds_toArray, List.set_cons_zero, List.set_cons_succ]
      refine' wpAnyH_take (i := 7) (oi := _) (v := _) ?_ (by kernel_rfl) (by kernel_rfl) (by kernel_rfl) ?_ (Or.inl ⟨?_, ?_⟩) (by assumption) ?_
      rotate_left 2
      · (simp only [List.getElem?_toArray, List.getElem?_cons_succ, List.getElem?_cons_zero]; rfl)
      · exact fun _ _ _ h => h
      · rfl
      · (intro W hSW; (try dsimp only at hSW); go_split_ands; first | (go_simp; done) | (go_simp; with_reducible rfl))
      try simp only [Act.put, List.setIfInBounds_toArray, List.set_cons_zero, List.set_cons_succ]
      refine' wpAnyH_take (i := 8) (oi := _) (v := _) ?_ (by kernel_rfl) (by kernel_rfl) (by kernel_rfl) ?_ (Or.inl ⟨?_, ?_⟩) (by assumption) ?_
      rotate_left 2
      · (simp only [List.getElem?_toArray, List.getElem?_cons_succ, List.getElem?_cons_zero]; rfl)
      · exact fun _ _ _ h => h
      · rfl
      · (intro W hSW; (try dsimp only at hSW); go_split_ands; first | (go_simp; done) | (go_simp; with_reducible rfl))
      try simp only [Act.put, List.setIfInBounds_toArray, List.set_cons_zero, List.set_cons_succ]
      clear hHeld
      refine wpAnyH_done (by kernel_rfl) ?_ _
      go_wp2_with fail
      rw [rounds_succ]
      go_wp2_with fail
      refine wp_region_held_drew (S := fun W' => W'.cell? ⟨w2.heap.size, 3, none⟩ = some (.int .i64 (r + 1)) ∧ W'.cell? ⟨w1.heap.size + 1, 3, none⟩ = some (.int .i64 (r + 1))) (by kernel_rfl) ?_ (fun hHeld => ?_)
      · constructor <;> go_simp
      refine' wpAnyH_take (i := 0) (oi := _) (v := _) ?_ (by kernel_rfl) (by kernel_rfl) (by kernel_rfl) ?_ (Or.inl ⟨?_, ?_⟩) (by assumption) ?_
      rotate_left 2
      · (simp only [List.getElem?_toArray, List.getElem?_cons_succ, List.getElem?_cons_zero]; rfl)
      · exact fun _ _ _ h => h
      · rfl
      · (intro W hSW; (try dsimp only at hSW); go_split_ands; first | (go_simp; done) | (go_simp; with_reducible rfl))
      try simp only [Act.put, List.setIfInBounds_toArray, List.set_cons_zero, List.set_cons_succ]
      refine' wpAnyH_take (i := 1) (oi := _) (v := _) ?_ (by kernel_rfl) (by kernel_rfl) (by kernel_rfl) ?_ (Or.inl ⟨?_, ?_⟩) (by assumption) ?_
      rotate_left 2
      · (simp only [List.getElem?_toArray, List.getElem?_cons_succ, List.getElem?_cons_zero]; rfl)
      · exact fun _ _ _ h => h
      · rfl
      · (intro W hSW; (try dsimp only at hSW); go_split_ands; first | (go_simp; done) | (go_simp; with_reducible rfl))
      try simp only [Act.put, List.setIfInBounds_toArray, List.set_cons_zero, List.set_cons_succ]
      refine' wpAnyH_take (i := 2) (oi := _) (v := _) ?_ (by kernel_rfl) (by kernel_rfl) (by kernel_rfl) ?_ (Or.inl ⟨?_, ?_⟩) (by assumption) ?_
      rotate_left 2
      · (simp only [List.getElem?_toArray, List.getElem?_cons_succ, List.getElem?_cons_zero]; rfl)
      · exact fun _ _ _ h => h
      · rfl
      · (intro W hSW; (try dsimp only at hSW); go_split_ands; first | (go_simp; done) | (go_simp; with_reducible rfl))
      try simp only [Act.put, List.setIfInBounds_toArray, List.set_cons_zero, List.set_cons_succ]
      refine' wpAnyH_take (i := 3) (oi := _) (v := _) ?_ (by kernel_rfl) (by kernel_rfl) (by kernel_rfl) ?_ (Or.inl ⟨?_, ?_⟩) (by assumption) ?_
      rotate_left 2
      · (simp only [List.getElem?_toArray, List.getElem?_cons_succ, List.getElem?_cons_zero]; rfl)
      · exact fun _ _ _ h => h
      · rfl
      · (intro W hSW; (try dsimp only at hSW); go_split_ands; first | (go_simp; done) | (go_simp; with_reducible rfl))
      try simp only [Act.put, List.setIfInBounds_toArray, List.set_cons_zero, List.set_cons_succ]
      refine' wpAnyH_take (i := 4) (oi := _) (v := _) ?_ (by kernel_rfl) (by kernel_rfl) (by kernel_rfl) ?_ (Or.inl ⟨?_, ?_⟩) (by assumption) ?_
      rotate_left 2
      · (simp only [List.getElem?_toArray, List.getElem?_cons_succ, List.getElem?_cons_zero]; rfl)
      · exact fun _ _ _ h => h
      · rfl
      · (intro W hSW; (try dsimp only at hSW); go_split_ands; first | (go_simp; done) | (go_simp; with_reducible rfl))
      try simp only [Act.put, List.setIfInBounds_toArray, List.set_cons_zero, List.set_cons_succ]
      refine' wpAnyH_take (i := 5) (oi := _) (v := _) ?_ (by kernel_rfl) (by kernel_rfl) (by kernel_rfl) ?_ (Or.inl ⟨?_, ?_⟩) (by assumption) ?_
      rotate_left 2
      · (simp only [List.getElem?_toArray, List.getElem?_cons_succ, List.getElem?_cons_zero]; rfl)
      · exact fun _ _ _ h => h
      · rfl
      · (intro W hSW; (try dsimp only at hSW); go_split_ands; first | (go_simp; done) | (go_simp; with_reducible rfl))
      try simp only [Act.put, List.setIfInBounds_toArray, List.set_cons_zero, List.set_cons_succ]
      refine' wpAnyH_take (i := 6) (oi := _) (v := _) ?_ (by kernel_rfl) (by kernel_rfl) (by kernel_rfl) ?_ (Or.inl ⟨?_, ?_⟩) (by assumption) ?_
      rotate_left 2
      · (simp only [List.getElem?_toArray, List.getElem?_cons_succ, List.getElem?_cons_zero]; rfl)
      · exact fun _ _ _ h => h
      · rfl
      · (intro W hSW; (try dsimp only at hSW); go_split_ands; first | (go_simp; done) | (go_simp; with_reducible rfl))
      try simp only [Act.put, List.setIfInBounds_toArray, List.set_cons_zero, List.set_cons_succ]
      refine' wpAnyH_take (i := 7) (oi := _) (v := _) ?_ (by kernel_rfl) (by kernel_rfl) (by kernel_rfl) ?_ (Or.inl ⟨?_, ?_⟩) (by assumption) ?_
      rotate_left 2
      · (simp only [List.getElem?_toArray, List.getElem?_cons_succ, List.getElem?_cons_zero]; rfl)
      · exact fun _ _ _ h => h
      · rfl
      · (intro W hSW; (try dsimp only at hSW); go_split_ands; first | (go_simp; done) | (go_simp; with_reducible rfl))
      try simp only [Act.put, List.setIfInBounds_toArray, List.set_cons_zero, List.set_cons_succ]
      refine' wpAnyH_take (i := 8) (oi := _) (v := _) ?_ (by kernel_rfl) (by kernel_rfl) (by kernel_rfl) ?_ (Or.inl ⟨?_, ?_⟩) (by assumption) ?_
      rotate_left 2
      · (simp only [List.getElem?_toArray, List.getElem?_cons_succ, List.getElem?_cons_zero]; rfl)
      · exact fun _ _ _ h => h
      · rfl
      · (intro W hSW; (try dsimp only at hSW); go_split_ands; first | (go_simp; done) | (go_simp; with_reducible rfl))
      try simp only [Act.put, List.setIfInBounds_toArray, List.set_cons_zero, List.set_cons_succ]
      clear hHeld
      refine wpAnyH_done (by kernel_rfl) ?_ _
      go_wp2_with fail
      rw [rounds_succ]
      go_wp2_with fail
      refine wp_region_held_drew (S := fun W' => W'.cell? ⟨w2.heap.size, 4, none⟩ = some (.int .i64 (q)) ∧ W'.cell? ⟨w1.heap.size + 1, 4, none⟩ = some (.int .i64 (q))) (by kernel_rfl) ?_ (fun hHeld => ?_)
      · constructor <;> go_simp
      refine' wpAnyH_take (i := 0) (oi := _) (v := _) ?_ (by kernel_rfl) (by kernel_rfl) (by kernel_rfl) ?_ (Or.inl ⟨?_, ?_⟩) (by assumption) ?_
      rotate_left 2
      · (simp only [List.getElem?_toArray, List.getElem?_cons_succ, List.getElem?_cons_zero]; rfl)
      · exact fun _ _ _ h => h
      · rfl
      · (intro W hSW; (try dsimp only at hSW); go_split_ands; first | (go_simp; done) | (go_simp; with_reducible rfl))
      try simp only [Act.put, List.setIfInBounds_toArray, List.set_cons_zero, List.set_cons_succ]
      refine' wpAnyH_take (i := 1) (oi := _) (v := _) ?_ (by kernel_rfl) (by kernel_rfl) (by kernel_rfl) ?_ (Or.inl ⟨?_, ?_⟩) (by assumption) ?_
      rotate_left 2
      · (simp only [List.getElem?_toArray, List.getElem?_cons_succ, List.getElem?_cons_zero]; rfl)
      · exact fun _ _ _ h => h
      · rfl
      · (intro W hSW; (try dsimp only at hSW); go_split_ands; first | (go_simp; done) | (go_simp; with_reducible rfl))
      try simp only [Act.put, List.setIfInBounds_toArray, List.set_cons_zero, List.set_cons_succ]
      refine' wpAnyH_take (i := 2) (oi := _) (v := _) ?_ (by kernel_rfl) (by kernel_rfl) (by kernel_rfl) ?_ (Or.inl ⟨?_, ?_⟩) (by assumption) ?_
      rotate_left 2
      · (simp only [List.getElem?_toArray, List.getElem?_cons_succ, List.getElem?_cons_zero]; rfl)
      · exact fun _ _ _ h => h
      · rfl
      · (intro W hSW; (try dsimp only at hSW); go_split_ands; first | (go_simp; done) | (go_simp; with_reducible rfl))
      try simp only [Act.put, List.setIfInBounds_toArray, List.set_cons_zero, List.set_cons_succ]
      refine' wpAnyH_take (i := 3) (oi := _) (v := _) ?_ (by kernel_rfl) (by kernel_rfl) (by kernel_rfl) ?_ (Or.inl ⟨?_, ?_⟩) (by assumption) ?_
      rotate_left 2
      · (simp only [List.getElem?_toArray, List.getElem?_cons_succ, List.getElem?_cons_zero]; rfl)
      · exact fun _ _ _ h => h
      · rfl
      · (intro W hSW; (try dsimp only at hSW); go_split_ands; first | (go_simp; done) | (go_simp; with_reducible rfl))
      try simp only [Act.put, List.setIfInBounds_toArray, List.set_cons_zero, List.set_cons_succ]
      refine' wpAnyH_take (i := 4) (oi := _) (v := _) ?_ (by kernel_rfl) (by kernel_rfl) (by kernel_rfl) ?_ (Or.inl ⟨?_, ?_⟩) (by assumption) ?_
      rotate_left 2
      · (simp only [List.getElem?_toArray, List.getElem?_cons_succ, List.getElem?_cons_zero]; rfl)
      · exact fun _ _ _ h => h
      · rfl
      · (intro W hSW; (try dsimp only at hSW); go_split_ands; first | (go_simp; done) | (go_simp; with_reducible rfl))
      try simp only [Act.put, List.setIfInBounds_toArray, List.set_cons_zero, List.set_cons_succ]
      refine' wpAnyH_take (i := 5) (oi := _) (v := _) ?_ (by kernel_rfl) (by kernel_rfl) (by kernel_rfl) ?_ (Or.inl ⟨?_, ?_⟩) (by assumption) ?_
      rotate_left 2
      · (simp only [List.getElem?_toArray, List.getElem?_cons_succ, List.getElem?_cons_zero]; rfl)
      · exact fun _ _ _ h => h
      · rfl
      · (intro W hSW; (try dsimp only at hSW); go_split_ands; first | (go_simp; done) | (go_simp; with_reducible rfl))
      try simp only [Act.put, List.setIfInBounds_toArray, List.set_cons_zero, List.set_cons_succ]
      refine' wpAnyH_take (i := 6) (oi := _) (v := _) ?_ (by kernel_rfl) (by kernel_rfl) (by kernel_rfl) ?_ (Or.inl ⟨?_, ?_⟩) (by assumption) ?_
      rotate_left 2
      · (simp only [List.getElem?_toArray, List.getElem?_cons_succ, List.getElem?_cons_zero]; rfl)
      · exact fun _ _ _ h => h
      · rfl
      · (intro W hSW; (try dsimp only at hSW); go_split_ands; first | (go_simp; done) | (go_simp; with_reducible rfl))
      try simp only [Act.put, List.setIfInBounds_toArray, List.set_cons_zero, List.set_cons_succ]
      refine' wpAnyH_take (i := 7) (oi := _) (v := _) ?_ (by kernel_rfl) (by kernel_rfl) (by kernel_rfl) ?_ (Or.inl ⟨?_, ?_⟩) (by assumption) ?_
      rotate_left 2
      · (simp only [List.getElem?_toArray, List.getElem?_cons_succ, List.getElem?_cons_zero]; rfl)
      · exact fun _ _ _ h => h
      · rfl
      · (intro W hSW; (try dsimp only at hSW); go_split_ands; first | (go_simp; done) | (go_simp; with_reducible rfl))
      try simp only [Act.put, List.setIfInBounds_toArray, List.set_cons_zero, List.set_cons_succ]
      refine' wpAnyH_take (i := 8) (oi := _) (v := _) ?_ (by kernel_rfl) (by kernel_rfl) (by kernel_rfl) ?_ (Or.inl ⟨?_, ?_⟩) (by assumption) ?_
      rotate_left 2
      · (simp only [List.getElem?_toArray, List.getElem?_cons_succ, List.getElem?_cons_zero]; rfl)
      · exact fun _ _ _ h => h
      · rfl
      · (intro W hSW; (try dsimp only at hSW); go_split_ands; first | (go_simp; done) | (go_simp; with_reducible rfl))
      try simp only [Act.put, List.setIfInBounds_toArray, List.set_cons_zero, List.set_cons_succ]
      clear hHeld
      refine wpAnyH_done (by kernel_rfl) ?_ _
      go_wp2_with fail
      rw [rounds_succ]
      go_wp2_with fail
      refine Calls.mono (U.out _) ?_
      rintro e w3 ⟨rfl, hb3⟩
      obtain ⟨kk, ff⟩ := bcell hb3
      have hc3 : Below w.heap.size w w3 := under hb3
      have k3_0 : ∀ o, w3.cell? ⟨x, o, none⟩ = _ := fun o => kk _ o (by first | assumption | omega | (simp; done) | (simp; omega))
      have f3_0 : ∀ o, w3.frozen? ⟨x, o, none⟩ = _ := fun o => ff _ o (by first | assumption | omega | (simp; done) | (simp; omega))
      have z3_0 : x < w3.heap.size := by have := hb3.size; (try simp at this); omega
      have k3_1 : ∀ o, w3.cell? ⟨y, o, none⟩ = _ := fun o => kk _ o (by first | assumption | omega | (simp; done) | (simp; omega))
      have f3_1 : ∀ o, w3.frozen? ⟨y, o, none⟩ = _ := fun o => ff _ o (by first | assumption | omega | (simp; done) | (simp; omega))
      have z3_1 : y < w3.heap.size := by have := hb3.size; (try simp at this); omega
      have k3_2 : ∀ o, w3.cell? ⟨w1.heap.size, o, none⟩ = _ := fun o => kk _ o (by first | assumption | omega | (simp; done) | (simp; omega))
      have f3_2 : ∀ o, w3.frozen? ⟨w1.heap.size, o, none⟩ = _ := fun o => ff _ o (by first | assumption | omega | (simp; done) | (simp; omega))
      have z3_2 : w1.heap.size < w3.heap.size := by have := hb3.size; (try simp at this); omega
      clear kk ff
      have hs3 := hc3.size
      clear hc2 hb3
      go_wp2_with fail
      refine Calls.mono (V.out _) ?_
      rintro e w4 ⟨rfl, hb4⟩
      obtain ⟨kk, ff⟩ := bcell hb4
      have hc4 : Below w.heap.size w w4 := under hb4
      have k4_0 : ∀ o, w4.cell? ⟨y, o, none⟩ = _ := fun o => kk _ o (by first | assumption | omega | (simp; done) | (simp; omega))
      have f4_0 : ∀ o, w4.frozen? ⟨y, o, none⟩ = _ := fun o => ff _ o (by first | assumption | omega | (simp; done) | (simp; omega))
      have z4_0 : y < w4.heap.size := by have := hb4.size; (try simp at this); omega
      clear kk ff
      have hs4 := hc4.size
      clear hc3 hb4
      go_wp2_with fail
      refine Calls.mono (works _ (hE.on (by go_grown))) ?_
      rintro e w5 ⟨rfl, hb5⟩
      obtain ⟨kk, ff⟩ := bcell hb5
      have hc5 : Below w.heap.size w w5 := under hb5
      clear kk ff
      have hs5 := hc5.size
      clear hc4 hb5
      go_wp2_with fail
      go_returns
      exact ⟨rfl, by go_grown⟩
    case c24 ua ub e a_ g =>
      have A := Lib.hid a_
      have K := Lib.hid g.chk
      have U := Lib.hid g.u
      have V := Lib.hid g.v
      obtain ⟨-, -, -, a0, a1, b0, b1, d0, l0, l1, c0, c1, r0, r1, q0, q1⟩ := g
      clear a_
      go_wp2_with fail
      refine Calls.mono (A.out _) ?_
      rintro e w1 ⟨rfl, hb1⟩
      obtain ⟨kk, ff⟩ := bcell hb1
      have hc1 : Below w.heap.size w w1 := under hb1
      have k1_0 : ∀ o, w1.cell? ⟨x, o, none⟩ = _ := fun o => kk _ o (by first | assumption | omega | (simp; done) | (simp; omega))
      have f1_0 : ∀ o, w1.frozen? ⟨x, o, none⟩ = _ := fun o => ff _ o (by first | assumption | omega | (simp; done) | (simp; omega))
      have z1_0 : x < w1.heap.size := by have := hb1.size; (try simp at this); omega
      have k1_1 : ∀ o, w1.cell? ⟨y, o, none⟩ = _ := fun o => kk _ o (by first | assumption | omega | (simp; done) | (simp; omega))
      have f1_1 : ∀ o, w1.frozen? ⟨y, o, none⟩ = _ := fun o => ff _ o (by first | assumption | omega | (simp; done) | (simp; omega))
      have z1_1 : y < w1.heap.size := by have := hb1.size; (try simp at this); omega
      clear kk ff
      have hs1 := hc1.size
      clear hc0 hb1
      go_wp2_with fail
      refine Calls.mono (K.out _) ?_
      rintro e w2 ⟨rfl, hb2⟩
      obtain ⟨kk, ff⟩ := bcell hb2
      have hc2 : Below w.heap.size w w2 := under hb2
      have k2_0 : ∀ o, w2.cell? ⟨x, o, none⟩ = _ := fun o => kk _ o (by first | assumption | omega | (simp; done) | (simp; omega))
      have f2_0 : ∀ o, w2.frozen? ⟨x, o, none⟩ = _ := fun o => ff _ o (by first | assumption | omega | (simp; done) | (simp; omega))
      have z2_0 : x < w2.heap.size := by have := hb2.size; (try simp at this); omega
      have k2_1 : ∀ o, w2.cell? ⟨y, o, none⟩ = _ := fun o => kk _ o (by first | assumption | omega | (simp; done) | (simp; omega))
      have f2_1 : ∀ o, w2.frozen? ⟨y, o, none⟩ = _ := fun o => ff _ o (by first | assumption | omega | (simp; done) | (simp; omega))
      have z2_1 : y < w2.heap.size := by have := hb2.size; (try simp at this); omega
      have k2_2 : ∀ o, w2.cell? ⟨w1.heap.size, o, none⟩ = _ := fun o => kk _ o (by first | assumption | omega | (simp; done) | (simp; omega))
      have f2_2 : ∀ o, w2.frozen? ⟨w1.heap.size, o, none⟩ = _ := fun o => ff _ o (by first | assumption | omega | (simp; done) | (simp; omega))
      have z2_2 : w1.heap.size < w2.heap.size := by have := hb2.size; (try simp at this); omega
      have k2_3 : ∀ o, w2.cell? ⟨w1.heap.size+1, o, none⟩ = _ := fun o => kk _ o (by first | assumption | omega | (simp; done) | (simp; omega))
      have f2_3 : ∀ o, w2.frozen? ⟨w1.heap.size+1, o, none⟩ = _ := fun o => ff _ o (by first | assumption | omega | (simp; done) | (simp; omega))
      have z2_3 : w1.heap.size+1 < w2.heap.size := by have := hb2.size; (try simp at this); omega
      clear kk ff
      have hs2 := hc2.size
      clear hc1 hb2
      go_wp2_with fail
      refine wp_loop_rounds 5 ?_
      rw [rounds_succ]
      go_wp2_with fail
      refine wp_region_held_drew (S := fun W' => W'.cell? ⟨w2.heap.size, 1, none⟩ = some (.int .i64 (l)) ∧ W'.cell? ⟨w1.heap.size + 1, 1, none⟩ = some (.int .i64 (l))) (by kernel_rfl) ?_ (fun hHeld => ?_)
      · constructor <;> go_simp
      refine' wpAnyH_take (i := 0) (oi := _) (v := _) ?_ (by kernel_rfl) (by kernel_rfl) (by kernel_rfl) ?_ (Or.inl ⟨?_, ?_⟩) (by assumption) ?_
      rotate_left 2
      · (simp only [List.getElem?_toArray, List.getElem?_cons_succ, List.getElem?_cons_zero]; rfl)
      · exact fun _ _ _ h => h
      · rfl
      · (intro W hSW; (try dsimp only at hSW); go_split_ands; first | (go_simp; done) | (go_simp; with_reducible rfl))
      try simp only [Act.put, List.setIfInBounds_toArray, List.set_cons_zero, List.set_cons_succ]
      refine' wpAnyH_take (i := 1) (oi := _) (v := _) ?_ (by kernel_rfl) (by kernel_rfl) (by kernel_rfl) ?_ (Or.inl ⟨?_, ?_⟩) (by assumption) ?_
      rotate_left 2
      · (simp only [List.getElem?_toArray, List.getElem?_cons_succ, List.getElem?_cons_zero]; rfl)
      · exact fun _ _ _ h => h
      · rfl
      · (intro W hSW; (try dsimp only at hSW); go_split_ands; first | (go_simp; done) | (go_simp; with_reducible rfl))
      try simp only [Act.put, List.setIfInBounds_toArray, List.set_cons_zero, List.set_cons_succ]
      refine' wpAnyH_take (i := 2) (oi := _) (v := _) ?_ (by kernel_rfl) (by kernel_rfl) (by kernel_rfl) ?_ (Or.inl ⟨?_, ?_⟩) (by assumption) ?_
      rotate_left 2
      · (simp only [List.getElem?_toArray, List.getElem?_cons_succ, List.getElem?_cons_zero]; rfl)
      · exact fun _ _ _ h => h
      · rfl
      · (intro W hSW; (try dsimp only at hSW); go_split_ands; first | (go_simp; done) | (go_simp; with_reducible rfl))
      try simp only [Act.put, List.setIfInBounds_toArray, List.set_cons_zero, List.set_cons_succ]
      refine' wpAnyH_take (i := 3) (oi := _) (v := _) ?_ (by kernel_rfl) (by kernel_rfl) (by kernel_rfl) ?_ (Or.inl ⟨?_, ?_⟩) (by assumption) ?_
      rotate_left 2
      · (simp only [List.getElem?_toArray, List.getElem?_cons_succ, List.getElem?_cons_zero]; rfl)
      · exact fun _ _ _ h => h
      · rfl
      · (intro W hSW; (try dsimp only at hSW); go_split_ands; first | (go_simp; done) | (go_simp; with_reducible rfl))
      try simp only [Act.put, List.setIfInBounds_toArray, List.set_cons_zero, List.set_cons_succ]
      refine' wpAnyH_take (i := 4) (oi := _) (v := _) ?_ (by kernel_rfl) (by kernel_rfl) (by kernel_rfl) ?_ (Or.inl ⟨?_, ?_⟩) (by assumption) ?_
      rotate_left 2
      · (simp only [List.getElem?_toArray, List.getElem?_cons_succ, List.getElem?_cons_zero]; rfl)
      · exact fun _ _ _ h => h
      · rfl
      · (intro W hSW; (try dsimp only at hSW); go_split_ands; first | (go_simp; done) | (go_simp; with_reducible rfl))
      try simp only [Act.put, List.setIfInBounds_toArray, List.set_cons_zero, List.set_cons_succ]
      refine' wpAnyH_take (i := 5) (oi := _) (v := _) ?_ (by kernel_rfl) (by kernel_rfl) (by kernel_rfl) ?_ (Or.inl ⟨?_, ?_⟩) (by assumption) ?_
      rotate_left 2
      · (simp only [List.getElem?_toArray, List.getElem?_cons_succ, List.getElem?_cons_zero]; rfl)
      · exact fun _ _ _ h => h
      · rfl
      · (intro W hSW; (try dsimp only at hSW); go_split_ands; first | (go_simp; done) | (go_simp; with_reducible rfl))
      try simp only [Act.put, List.setIfInBounds_toArray, List.set_cons_zero, List.set_cons_succ]
      refine' wpAnyH_take (i := 6) (oi := _) (v := _) ?_ (by kernel_rfl) (by kernel_rfl) (by kernel_rfl) ?_ (Or.inl ⟨?_, ?_⟩) (by assumption) ?_
      rotate_left 2
      · (simp only [List.getElem?_toArray, List.getElem?_cons_succ, List.getElem?_cons_zero]; rfl)
      · exact fun _ _ _ h => h
      · rfl
      · (intro W hSW; (try dsimp only at hSW); go_split_ands; first | (go_simp; done) | (go_simp; with_reducible rfl))
      try simp only [Act.put, List.setIfInBounds_toArray, List.set_cons_zero, List.set_cons_succ]
      refine' wpAnyH_take (i := 7) (oi := _) (v := _) ?_ (by kernel_rfl) (by kernel_rfl) (by kernel_rfl) ?_ (Or.inl ⟨?_, ?_⟩) (by assumption) ?_
      rotate_left 2
      · (simp only [List.getElem?_toArray, List.getElem?_cons_succ, List.getElem?_cons_zero]; rfl)
      · exact fun _ _ _ h => h
      · rfl
      · (intro W hSW; (try dsimp only at hSW); go_split_ands; first | (go_simp; done) | (go_simp; with_reducible rfl))
      try simp only [Act.put, List.setIfInBounds_toArray, List.set_cons_zero, List.set_cons_succ]
      refine' wpAnyH_take (i := 8) (oi := _) (v := _) ?_ (by kernel_rfl) (by kernel_rfl) (by kernel_rfl) ?_ (Or.inl ⟨?_, ?_⟩) (by assumption) ?_
      rotate_left 2
      · (simp only [List.getElem?_toArray, List.getElem?_cons_succ, List.getElem?_cons_zero]; rfl)
      · exact fun _ _ _ h => h
      · rfl
      · (intro W hSW; (try dsimp only at hSW); go_split_ands; first | (go_simp; done) | (go_simp; with_reducible rfl))
      try simp only [Act.put, List.setIfInBounds_toArray, List.set_cons_zero, List.set_cons_succ]
      clear hHeld
      refine wpAnyH_done (by kernel_rfl) ?_ _
      go_wp2_with fail
      rw [rounds_succ]
      go_wp2_with fail
      refine wp_region_held_drew (S := fun W' => W'.cell? ⟨w2.heap.size, 2, none⟩ = some (.int .i64 (cl - 1)) ∧ W'.cell? ⟨w1.heap.size + 1, 2, none⟩ = some (.int .i64 (cl - 1))) (by kernel_rfl) ?_ (fun hHeld => ?_)
      · constructor <;> go_simp
      refine' wpAnyH_take (i := 0) (oi := _) (v := _) ?_ (by kernel_rfl) (by kernel_rfl) (by kernel_rfl) ?_ (Or.inl ⟨?_, ?_⟩) (by assumption) ?_
      rotate_left 2
      · (simp only [List.getElem?_toArray, List.getElem?_cons_succ, List.getElem?_cons_zero]; rfl)
      · exact fun _ _ _ h => h
      · rfl
      · (intro W hSW; (try dsimp only at hSW); go_split_ands; first | (go_simp; done) | (go_simp; with_reducible rfl))
      try simp only [Act.put, List.setIfInBounds_toArray, List.set_cons_zero, List.set_cons_succ]
      refine' wpAnyH_take (i := 1) (oi := _) (v := _) ?_ (by kernel_rfl) (by kernel_rfl) (by kernel_rfl) ?_ (Or.inl ⟨?_, ?_⟩) (by assumption) ?_
      rotate_left 2
      · (simp only [List.getElem?_toArray, List.getElem?_cons_succ, List.getElem?_cons_zero]; rfl)
      · exact fun _ _ _ h => h
      · rfl
      · (intro W hSW; (try dsimp only at hSW); go_split_ands; first | (go_simp; done) | (go_simp; with_reducible rfl))
      try simp only [Act.put, List.setIfInBounds_toArray, List.set_cons_zero, List.set_cons_succ]
      refine' wpAnyH_take (i := 2) (oi := _) (v := _) ?_ (by kernel_rfl) (by kernel_rfl) (by kernel_rfl) ?_ (Or.inl ⟨?_, ?_⟩) (by assumption) ?_
      rotate_left 2
      · (simp only [List.getElem?_toArray, List.getElem?_cons_succ, List.getElem?_cons_zero]; rfl)
      · exact fun _ _ _ h => h
      · rfl
      · (intro W hSW; (try dsimp only at hSW); go_split_ands; first | (go_simp; done) | (go_simp; with_reducible rfl))
      try simp only [Act.put, List.setIfInBounds_toArray, List.set_cons_zero, List.set_cons_succ]
      refine' wpAnyH_take (i := 3) (oi := _) (v := _) ?_ (by kernel_rfl) (by kernel_rfl) (by kernel_rfl) ?_ (Or.inl ⟨?_, ?_⟩) (by assumption) ?_
      rotate_left 2
      · (simp only [List.getElem?_toArray, List.getElem?_cons_succ, List.getElem?_cons_zero]; rfl)
      · exact fun _ _ _ h => h
      · rfl
      · (intro W hSW; (try dsimp only at hSW); go_split_ands; first | (go_simp; done) | (go_simp; with_reducible rfl))
      try simp only [Act.put, List.setIfInBounds_toArray, List.set_cons_zero, List.set_cons_succ]
      refine' wpAnyH_take (i := 4) (oi := _) (v := _) ?_ (by kernel_rfl) (by kernel_rfl) (by kernel_rfl) ?_ (Or.inl ⟨?_, ?_⟩) (by assumption) ?_
      rotate_left 2
      · (simp only [List.getElem?_toArray, List.getElem?_cons_succ, List.getElem?_cons_zero]; rfl)
      · exact fun _ _ _ h => h
      · rfl
      · (intro W hSW; (try dsimp only at hSW); go_split_ands; first | (go_simp; done) | (go_simp; with_reducible rfl))
      try simp only [Act.put, List.setIfInBounds_toArray, List.set_cons_zero, List.set_cons_succ]
      refine' wpAnyH_take (i := 5) (oi := _) (v := _) ?_ (by kernel_rfl) (by kernel_rfl) (by kernel_rfl) ?_ (Or.inl ⟨?_, ?_⟩) (by assumption) ?_
      rotate_left 2
      · (simp only [List.getElem?_toArray, List.getElem?_cons_succ, List.getElem?_cons_zero]; rfl)
      · exact fun _ _ _ h => h
      · rfl
      · (intro W hSW; (try dsimp only at hSW); go_split_ands; first | (go_simp; done) | (go_simp; with_reducible rfl))
      try simp only [Act.put, List.setIfInBounds_toArray, List.set_cons_zero, List.set_cons_succ]
      refine' wpAnyH_take (i := 6) (oi := _) (v := _) ?_ (by kernel_rfl) (by kernel_rfl) (by kernel_rfl) ?_ (Or.inl ⟨?_, ?_⟩) (by assumption) ?_
      rotate_left 2
      · (simp only [List.getElem?_toArray, List.getElem?_cons_succ, List.getElem?_cons_zero]; rfl)
      · exact fun _ _ _ h => h
      · rfl
      · (intro W hSW; (try dsimp only at hSW); go_split_ands; first | (go_simp; done) | (go_simp; with_reducible rfl))
      try simp only [Act.put, List.setIfInBounds_toArray, List.set_cons_zero, List.set_cons_succ]
      refine' wpAnyH_take (i := 7) (oi := _) (v := _) ?_ (by kernel_rfl) (by kernel_rfl) (by kernel_rfl) ?_ (Or.inl ⟨?_, ?_⟩) (by assumption) ?_
      rotate_left 2
      · (simp only [List.getElem?_toArray, List.getElem?_cons_succ, List.getElem?_cons_zero]; rfl)
      · exact fun _ _ _ h => h
      · rfl
      · (intro W hSW; (try dsimp only at hSW); go_split_ands; first | (go_simp; done) | (go_simp; with_reducible rfl))
      try simp only [Act.put, List.setIfInBounds_toArray, List.set_cons_zero, List.set_cons_succ]
      refine' wpAnyH_take (i := 8) (oi := _) (v := _) ?_ (by kernel_rfl) (by kernel_rfl) (by kernel_rfl) ?_ (Or.inl ⟨?_, ?_⟩) (by assumption) ?_
      rotate_left 2
      · (simp only [List.getElem?_toArray, List.getElem?_cons_succ, List.getElem?_cons_zero]; rfl)
      · exact fun _ _ _ h => h
      · rfl
      · (intro W hSW; (try dsimp only at hSW); go_split_ands; first | (go_simp; done) | (go_simp; with_reducible rfl))
      try simp only [Act.put, List.setIfInBounds_toArray, List.set_cons_zero, List.set_cons_succ]
      clear hHeld
      refine wpAnyH_done (by kernel_rfl) ?_ _
      go_wp2_with fail
      rw [rounds_succ]
      go_wp2_with fail
      refine wp_region_held_drew (S := fun W' => W'.cell? ⟨w2.heap.size, 3, none⟩ = some (.int .i64 (r)) ∧ W'.cell? ⟨w1.heap.size + 1, 3, none⟩ = some (.int .i64 (r))) (by kernel_rfl) ?_ (fun hHeld => ?_)
      · constructor <;> go_simp
      refine' wpAnyH_take (i := 0) (oi := _) (v := _) ?_ (by kernel_rfl) (by kernel_rfl) (by kernel_rfl) ?_ (Or.inl ⟨?_, ?_⟩) (by assumption) ?_
      rotate_left 2
      · (simp only [List.getElem?_toArray, List.getElem?_cons_succ, List.getElem?_cons_zero]; rfl)
      · exact fun _ _ _ h => h
      · rfl
      · (intro W hSW; (try dsimp only at hSW); go_split_ands; first | (go_simp; done) | (go_simp; with_reducible rfl))
      try simp only [Act.put, List.setIfInBounds_toArray, List.set_cons_zero, List.set_cons_succ]
      refine' wpAnyH_take (i := 1) (oi := _) (v := _) ?_ (by kernel_rfl) (by kernel_rfl) (by kernel_rfl) ?_ (Or.inl ⟨?_, ?_⟩) (by assumption) ?_
      rotate_left 2
      · (simp only [List.getElem?_toArray, List.getElem?_cons_succ, List.getElem?_cons_zero]; rfl)
      · exact fun _ _ _ h => h
      · rfl
      · (intro W hSW; (try dsimp only at hSW); go_split_ands; first | (go_simp; done) | (go_simp; with_reducible rfl))
      try simp only [Act.put, List.setIfInBounds_toArray, List.set_cons_zero, List.set_cons_succ]
      refine' wpAnyH_take (i := 2) (oi := _) (v := _) ?_ (by kernel_rfl) (by kernel_rfl) (by kernel_rfl) ?_ (Or.inl ⟨?_, ?_⟩) (by assumption) ?_
      rotate_left 2
      · (simp only [List.getElem?_toArray, List.getElem?_cons_succ, List.getElem?_cons_zero]; rfl)
      · exact fun _ _ _ h => h
      · rfl
      · (intro W hSW; (try dsimp only at hSW); go_split_ands; first | (go_simp; done) | (go_simp; with_reducible rfl))
      try simp only [Act.put, List.setIfInBounds_toArray, List.set_cons_zero, List.set_cons_succ]
      refine' wpAnyH_take (i := 3) (oi := _) (v := _) ?_ (by kernel_rfl) (by kernel_rfl) (by kernel_rfl) ?_ (Or.inl ⟨?_, ?_⟩) (by assumption) ?_
      rotate_left 2
      · (simp only [List.getElem?_toArray, List.getElem?_cons_succ, List.getElem?_cons_zero]; rfl)
      · exact fun _ _ _ h => h
      · rfl
      · (intro W hSW; (try dsimp only at hSW); go_split_ands; first | (go_simp; done) | (go_simp; with_reducible rfl))
      try simp only [Act.put, List.setIfInBounds_toArray, List.set_cons_zero, List.set_cons_succ]
      refine' wpAnyH_take (i := 4) (oi := _) (v := _) ?_ (by kernel_rfl) (by kernel_rfl) (by kernel_rfl) ?_ (Or.inl ⟨?_, ?_⟩) (by assumption) ?_
      rotate_left 2
      · (simp only [List.getElem?_toArray, List.getElem?_cons_succ, List.getElem?_cons_zero]; rfl)
      · exact fun _ _ _ h => h
      · rfl
      · (intro W hSW; (try dsimp only at hSW); go_split_ands; first | (go_simp; done) | (go_simp; with_reducible rfl))
      try simp only [Act.put, List.setIfInBounds_toArray, List.set_cons_zero, List.set_cons_succ]
      refine' wpAnyH_take (i := 5) (oi := _) (v := _) ?_ (by kernel_rfl) (by kernel_rfl) (by kernel_rfl) ?_ (Or.inl ⟨?_, ?_⟩) (by assumption) ?_
      rotate_left 2
      · (simp only [List.getElem?_toArray, List.getElem?_cons_succ, List.getElem?_cons_zero]; rfl)
      · exact fun _ _ _ h => h
      · rfl
      · (intro W hSW; (try dsimp only at hSW); go_split_ands; first | (go_simp; done) | (go_simp; with_reducible rfl))
      try simp only [Act.put, List.setIfInBounds_toArray, List.set_cons_zero, List.set_cons_succ]
      refine' wpAnyH_take (i := 6) (oi := _) (v := _) ?_ (by kernel_rfl) (by kernel_rfl) (by kernel_rfl) ?_ (Or.inl ⟨?_, ?_⟩) (by assumption) ?_
      rotate_left 2
      · (simp only [List.getElem?_toArray, List.getElem?_cons_succ, List.getElem?_cons_zero]; rfl)
      · exact fun _ _ _ h => h
      · rfl
      · (intro W hSW; (try dsimp only at hSW); go_split_ands; first | (go_simp; done) | (go_simp; with_reducible rfl))
      try simp only [Act.put, List.setIfInBounds_toArray, List.set_cons_zero, List.set_cons_succ]
      refine' wpAnyH_take (i := 7) (oi := _) (v := _) ?_ (by kernel_rfl) (by kernel_rfl) (by kernel_rfl) ?_ (Or.inl ⟨?_, ?_⟩) (by assumption) ?_
      rotate_left 2
      · (simp only [List.getElem?_toArray, List.getElem?_cons_succ, List.getElem?_cons_zero]; rfl)
      · exact fun _ _ _ h => h
      · rfl
      · (intro W hSW; (try dsimp only at hSW); go_split_ands; first | (go_simp; done) | (go_simp; with_reducible rfl))
      try simp only [Act.put, List.setIfInBounds_toArray, List.set_cons_zero, List.set_cons_succ]
      refine' wpAnyH_take (i := 8) (oi := _) (v := _) ?_ (by kernel_rfl) (by kernel_rfl) (by kernel_rfl) ?_ (Or.inl ⟨?_, ?_⟩) (by assumption) ?_
      rotate_left 2
      · (simp only [List.getElem?_toArray, List.getElem?_cons_succ, List.getElem?_cons_zero]; rfl)
      · exact fun _ _ _ h => h
      · rfl
      · (intro W hSW; (try dsimp only at hSW); go_split_ands; first | (go_simp; done) | (go_simp; with_reducible rfl))
      try simp only [Act.put, List.setIfInBounds_toArray, List.set_cons_zero, List.set_cons_succ]
      clear hHeld
      refine wpAnyH_done (by kernel_rfl) ?_ _
      go_wp2_with fail
      rw [rounds_succ]
      go_wp2_with fail
      refine wp_region_held_drew (S := fun W' => W'.cell? ⟨w2.heap.size, 4, none⟩ = some (.int .i64 (q + 1)) ∧ W'.cell? ⟨w1.heap.size + 1, 4, none⟩ = some (.int .i64 (q + 1))) (by kernel_rfl) ?_ (fun hHeld => ?_)
      · constructor <;> go_simp
      refine' wpAnyH_take (i := 0) (oi := _) (v := _) ?_ (by kernel_rfl) (by kernel_rfl) (by kernel_rfl) ?_ (Or.inl ⟨?_, ?_⟩) (by assumption) ?_
      rotate_left 2
      · (simp only [List.getElem?_toArray, List.getElem?_cons_succ, List.getElem?_cons_zero]; rfl)
      · exact fun _ _ _ h => h
      · rfl
      · (intro W hSW; (try dsimp only at hSW); go_split_ands; first | (go_simp; done) | (go_simp; with_reducible rfl))
      try simp only [Act.put, List.setIfInBounds_toArray, List.set_cons_zero, List.set_cons_succ]
      refine' wpAnyH_take (i := 1) (oi := _) (v := _) ?_ (by kernel_rfl) (by kernel_rfl) (by kernel_rfl) ?_ (Or.inl ⟨?_, ?_⟩) (by assumption) ?_
      rotate_left 2
      · (simp only [List.getElem?_toArray, List.getElem?_cons_succ, List.getElem?_cons_zero]; rfl)
      · exact fun _ _ _ h => h
      · rfl
      · (intro W hSW; (try dsimp only at hSW); go_split_ands; first | (go_simp; done) | (go_simp; with_reducible rfl))
      try simp only [Act.put, List.setIfInBounds_toArray, List.set_cons_zero, List.set_cons_succ]
      refine' wpAnyH_take (i := 2) (oi := _) (v := _) ?_ (by kernel_rfl) (by kernel_rfl) (by kernel_rfl) ?_ (Or.inl ⟨?_, ?_⟩) (by assumption) ?_
      rotate_left 2
      · (simp only [List.getElem?_toArray, List.getElem?_cons_succ, List.getElem?_cons_zero]; rfl)
      · exact fun _ _ _ h => h
      · rfl
      · (intro W hSW; (try dsimp only at hSW); go_split_ands; first | (go_simp; done) | (go_simp; with_reducible rfl))
      try simp only [Act.put, List.setIfInBounds_toArray, List.set_cons_zero, List.set_cons_succ]
      refine' wpAnyH_take (i := 3) (oi := _) (v := _) ?_ (by kernel_rfl) (by kernel_rfl) (by kernel_rfl) ?_ (Or.inl ⟨?_, ?_⟩) (by assumption) ?_
      rotate_left 2
      · (simp only [List.getElem?_toArray, List.getElem?_cons_succ, List.getElem?_cons_zero]; rfl)
      · exact fun _ _ _ h => h
      · rfl
      · (intro W hSW; (try dsimp only at hSW); go_split_ands; first | (go_simp; done) | (go_simp; with_reducible rfl))
      try simp only [Act.put, List.setIfInBounds_toArray, List.set_cons_zero, List.set_cons_succ]
      refine' wpAnyH_take (i := 4) (oi := _) (v := _) ?_ (by kernel_rfl) (by kernel_rfl) (by kernel_rfl) ?_ (Or.inl ⟨?_, ?_⟩) (by assumption) ?_
      rotate_left 2
      · (simp only [List.getElem?_toArray, List.getElem?_cons_succ, List.getElem?_cons_zero]; rfl)
      · exact fun _ _ _ h => h
      · rfl
      · (intro W hSW; (try dsimp only at hSW); go_split_ands; first | (go_simp; done) | (go_simp; with_reducible rfl))
      try simp only [Act.put, List.setIfInBounds_toArray, List.set_cons_zero, List.set_cons_succ]
      refine' wpAnyH_take (i := 5) (oi := _) (v := _) ?_ (by kernel_rfl) (by kernel_rfl) (by kernel_rfl) ?_ (Or.inl ⟨?_, ?_⟩) (by assumption) ?_
      rotate_left 2
      · (simp only [List.getElem?_toArray, List.getElem?_cons_succ, List.getElem?_cons_zero]; rfl)
      · exact fun _ _ _ h => h
      · rfl
      · (intro W hSW; (try dsimp only at hSW); go_split_ands; first | (go_simp; done) | (go_simp; with_reducible rfl))
      try simp only [Act.put, List.setIfInBounds_toArray, List.set_cons_zero, List.set_cons_succ]
      refine' wpAnyH_take (i := 6) (oi := _) (v := _) ?_ (by kernel_rfl) (by kernel_rfl) (by kernel_rfl) ?_ (Or.inl ⟨?_, ?_⟩) (by assumption) ?_
      rotate_left 2
      · (simp only [List.getElem?_toArray, List.getElem?_cons_succ, List.getElem?_cons_zero]; rfl)
      · exact fun _ _ _ h => h
      · rfl
      · (intro W hSW; (try dsimp only at hSW); go_split_ands; first | (go_simp; done) | (go_simp; with_reducible rfl))
      try simp only [Act.put, List.setIfInBounds_toArray, List.set_cons_zero, List.set_cons_succ]
      refine' wpAnyH_take (i := 7) (oi := _) (v := _) ?_ (by kernel_rfl) (by kernel_rfl) (by kernel_rfl) ?_ (Or.inl ⟨?_, ?_⟩) (by assumption) ?_
      rotate_left 2
      · (simp only [List.getElem?_toArray, List.getElem?_cons_succ, List.getElem?_cons_zero]; rfl)
      · exact fun _ _ _ h => h
      · rfl
      · (intro W hSW; (try dsimp only at hSW); go_split_ands; first | (go_simp; done) | (go_simp; with_reducible rfl))
      try simp only [Act.put, List.setIfInBounds_toArray, List.set_cons_zero, List.set_cons_succ]
      refine' wpAnyH_take (i := 8) (oi := _) (v := _) ?_ (by kernel_rfl) (by kernel_rfl) (by kernel_rfl) ?_ (Or.inl ⟨?_, ?_⟩) (by assumption) ?_
      rotate_left 2
      · (simp only [List.getElem?_toArray, List.getElem?_cons_succ, List.getElem?_cons_zero]; rfl)
      · exact fun _ _ _ h => h
      · rfl
      · (intro W hSW; (try dsimp only at hSW); go_split_ands; first | (go_simp; done) | (go_simp; with_reducible rfl))
      try simp only [Act.put, List.setIfInBounds_toArray, List.set_cons_zero, List.set_cons_succ]
      clear hHeld
      refine wpAnyH_done (by kernel_rfl) ?_ _
      go_wp2_with fail
      rw [rounds_succ]
      go_wp2_with fail
      refine Calls.mono (U.out _) ?_
      rintro e w3 ⟨rfl, hb3⟩
      obtain ⟨kk, ff⟩ := bcell hb3
      have hc3 : Below w.heap.size w w3 := under hb3
      have k3_0 : ∀ o, w3.cell? ⟨x, o, none⟩ = _ := fun o => kk _ o (by first | assumption | omega | (simp; done) | (simp; omega))
      have f3_0 : ∀ o, w3.frozen? ⟨x, o, none⟩ = _ := fun o => ff _ o (by first | assumption | omega | (simp; done) | (simp; omega))
      have z3_0 : x < w3.heap.size := by have := hb3.size; (try simp at this); omega
      have k3_1 : ∀ o, w3.cell? ⟨y, o, none⟩ = _ := fun o => kk _ o (by first | assumption | omega | (simp; done) | (simp; omega))
      have f3_1 : ∀ o, w3.frozen? ⟨y, o, none⟩ = _ := fun o => ff _ o (by first | assumption | omega | (simp; done) | (simp; omega))
      have z3_1 : y < w3.heap.size := by have := hb3.size; (try simp at this); omega
      have k3_2 : ∀ o, w3.cell? ⟨w1.heap.size, o, none⟩ = _ := fun o => kk _ o (by first | assumption | omega | (simp; done) | (simp; omega))
      have f3_2 : ∀ o, w3.frozen? ⟨w1.heap.size, o, none⟩ = _ := fun o => ff _ o (by first | assumption | omega | (simp; done) | (simp; omega))
      have z3_2 : w1.heap.size < w3.heap.size := by have := hb3.size; (try simp at this); omega
      clear kk ff
      have hs3 := hc3.size
      clear hc2 hb3
      go_wp2_with fail
      refine Calls.mono (V.out _) ?_
      rintro e w4 ⟨rfl, hb4⟩
      obtain ⟨kk, ff⟩ := bcell hb4
      have hc4 : Below w.heap.size w w4 := under hb4
      have k4_0 : ∀ o, w4.cell? ⟨y, o, none⟩ = _ := fun o => kk _ o (by first | assumption | omega | (simp; done) | (simp; omega))
      have f4_0 : ∀ o, w4.frozen? ⟨y, o, none⟩ = _ := fun o => ff _ o (by first | assumption | omega | (simp; done) | (simp; omega))
      have z4_0 : y < w4.heap.size := by have := hb4.size; (try simp at this); omega
      clear kk ff
      have hs4 := hc4.size
      clear hc3 hb4
      go_wp2_with fail
      refine Calls.mono (works _ (hE.on (by go_grown))) ?_
      rintro e w5 ⟨rfl, hb5⟩
      obtain ⟨kk, ff⟩ := bcell hb5
      have hc5 : Below w.heap.size w w5 := under hb5
      clear kk ff
      have hs5 := hc5.size
      clear hc4 hb5
      go_wp2_with fail
      go_returns
      exact ⟨rfl, by go_grown⟩
end Go.Proofs.YtjebicdlbknemaaDoor
