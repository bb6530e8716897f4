/- Parse of resources: the deferred recover, Parse. -/
import Derived.Test.YtgckfiadnmjonabGreatDoorHRes10
import Derived.Defers
import Derived.Recover
namespace Go.Proofs.YtgckfiadnmjonabGreatDoor
open Go.RowKit Lib
set_option linter.unusedVariables false
set_option linter.unusedSimpArgs false
set_option maxHeartbeats 4000000
set_option maxRecDepth 20000
abbrev zR : Array Value := #[.int .i64 0, .int .i64 0, .int .u32 0, .int .i64 0, .int .i64 0, .int .i64 0, .int .i64 0, .string ⟨#[]⟩]
theorem malf_is : ∀ w, (Instr.typeAssert (.iface 72 (.agg #[])) 20 72 true).run Tryz.prog w = .ok (.tuple #[.agg #[], .bool true]) w := fun _ => by kernel_rfl
theorem catch_malf (r e : Nat) (ev : Value) (w : World) (hr : Row w r zR 27) (he : Row w e #[ev] 30) (hre : r ≠ e) :
    CallsD Tryz.prog 32 #[.pointer (some ⟨r, 0, none⟩), .pointer (some ⟨e, 0, none⟩)] (.panicking ({ v := .iface 72 (.agg #[]), recovered := false } :: [])) w fun en u' w' =>
      en = .returned (.tuple #[]) ∧ u' = .panicking ({ v := .iface 72 (.agg #[]), recovered := true } :: []) ∧ Row w' r zR 27 ∧ Row w' e #[.int .i64 9] 30 ∧ ∀ (B : Nat) (w0 : World), B ≤ r → B ≤ e → Below B w0 w → Below B w0 w' := by
  have y0 := hr.cell
  have y1 := hr.lt
  have y2 := hr.free
  have y3 := he.cell
  have y4 := he.lt
  have y5 := he.free
  refine callsD_of_wpS Tryz.func32 rfl fun c₀ cs hu => ?_
  apply wpS_seq
  apply wpS_region
  simp [wpOpsS, go_sem, recoverD, hu, Tryz.ntmps32, Exit.thenS]
  refine wpS_of_wp ?_
  have hta := malf_is
  go_wp2_with fail
  clear y0 y1 y2 y3 y4 y5
  replace hr := hr.set 0 (.int .i64 0)
  replace he := he.other hre 0 (.int .i64 0)
  replace hr := hr.set 1 (.int .i64 0)
  replace he := he.other hre 1 (.int .i64 0)
  replace hr := hr.set 2 (.int .u32 0)
  replace he := he.other hre 2 (.int .u32 0)
  replace hr := hr.set 3 (.int .i64 0)
  replace he := he.other hre 3 (.int .i64 0)
  replace hr := hr.set 4 (.int .i64 0)
  replace he := he.other hre 4 (.int .i64 0)
  replace hr := hr.set 5 (.int .i64 0)
  replace he := he.other hre 5 (.int .i64 0)
  replace hr := hr.set 6 (.int .i64 0)
  replace he := he.other hre 6 (.int .i64 0)
  replace hr := hr.set 7 (.string ⟨#[]⟩)
  replace he := he.other hre 7 (.string ⟨#[]⟩)
  replace hr := hr.other hre.symm 0 (.int .i64 9)
  replace he := he.set 0 (.int .i64 9)
  simp only [zR, List.setIfInBounds_toArray, List.set_cons_zero, List.set_cons_succ] at hr he
  have hk : ∀ (B : Nat) (w0 : World), B ≤ r → B ≤ e → Below B w0 w → Below B w0 _ := fun B w0 h1 h2 h => (((((((((h.setCell (p := ⟨r, 0, none⟩) h1 (.int .i64 0)).setCell (p := ⟨r, 1, none⟩) h1 (.int .i64 0)).setCell (p := ⟨r, 2, none⟩) h1 (.int .u32 0)).setCell (p := ⟨r, 3, none⟩) h1 (.int .i64 0)).setCell (p := ⟨r, 4, none⟩) h1 (.int .i64 0)).setCell (p := ⟨r, 5, none⟩) h1 (.int .i64 0)).setCell (p := ⟨r, 6, none⟩) h1 (.int .i64 0)).setCell (p := ⟨r, 7, none⟩) h1 (.string ⟨#[]⟩)).setCell (p := ⟨e, 0, none⟩) h2 (.int .i64 9))
  generalize hW : World.setCell _ _ _ = V at *
  clear hW
  have hv := hr.lt
  replace hr := hr.on (below_alloc V (.cells #[] 72))
  replace he := he.on (below_alloc V (.cells #[] 72))
  simp [bodyPostS, results, Tryz.results32]
  exact ⟨hr, he, fun B w0 h1 h2 h => (hk B w0 h1 h2 h).trans ((below_alloc V _).mono (Nat.le_trans h1 (Nat.le_of_lt hv)))⟩
theorem catch_idle (p q : Addr) (w : World) :
    CallsD Tryz.prog 32 #[.pointer (some p), .pointer (some q)] .returning w fun e u' w' => e = .returned (.tuple #[]) ∧ u' = .returning ∧ w' = w := by
  refine callsD_of_wpS Tryz.func32 rfl fun c₀ cs hu => ?_
  apply wpS_seq
  apply wpS_region
  simp [wpOpsS, go_sem, recoverD, hu, Tryz.ntmps32, Exit.thenS]
  refine wpS_of_wp ?_
  go_wp2_with fail
  cases c₀
  simp_all [bodyPostS, results, Tryz.results32]
theorem three_new (s : ByteArray) (w : World) :
    ∀ (W : World), W = ((w.alloc (.cells zR 27)).alloc (.cells #[.int .i64 0] 30)).alloc (.cells #[.string s] 76) →
      Row W w.heap.size zR 27 ∧ Row W (w.heap.size + 1) #[.int .i64 0] 30 ∧ Row W (w.heap.size + 2) #[.string s] 76 ∧ Below w.heap.size w W := by
  rintro W rfl
  have b1 := below_alloc w (.cells zR 27)
  have r1 := Row.new (W := w) (cs := zR) (t := 27)
  have z1 : (w.alloc (.cells zR 27)).heap.size = w.heap.size + 1 := by simp
  generalize w.alloc (.cells zR 27) = W1 at *
  have b2 := below_alloc W1 (.cells #[.int .i64 0] 30)
  have r2 := Row.new (W := W1) (cs := #[.int .i64 0]) (t := 30)
  have z2 : (W1.alloc (.cells #[.int .i64 0] 30)).heap.size = W1.heap.size + 1 := by simp
  generalize W1.alloc (.cells #[.int .i64 0] 30) = W2 at *
  have b3 := below_alloc W2 (.cells #[.string s] 76)
  have r3 := Row.new (W := W2) (cs := #[.string s]) (t := 76)
  have c2 := chain b1 b2
  rw [z1] at r2
  rw [z2, z1] at r3
  exact ⟨(r1.on b2).on b3, r2.on b3, r3, chain c2 b3⟩
theorem parse_both (s : ByteArray) (hs : s.size ≤ 100000) (w : World) (hE : EnvP w) :
    Calls Tryz.prog 14 #[.string s] w fun e w' => Below w.heap.size w w' ∧ ((∃ k i g st wy tr nx tag, IsR k i g st wy tr nx tag s.data.toList ∧ e = .returned (.tuple #[rV k i g st wy tr nx tag, .int .i64 0])) ∨ ((∀ k i g st wy tr nx tag, ¬ IsR k i g st wy tr nx tag s.data.toList) ∧ e = .returned (.tuple #[r0V, .int .i64 9]))) := by
  have hmf : ∀ (fn : Fn) (first cap : Array Value) (w : World), (Instr.makeFunc fn first cap).run Tryz.prog w = .ok (.func fn first cap) w := fun _ _ _ _ => rfl
  go_enter_defers Tryz.func14, Tryz.ntmps14
  go_wp2_with fail
  obtain ⟨r1, r2, rp, hb⟩ := three_new s w _ rfl
  generalize ((w.alloc (.cells zR 27)).alloc (.cells #[.int .i64 0] 30)).alloc (.cells #[.string s] 76) = W at *
  refine Calls.mono (res_1 (w.heap.size + 2) s w W hE hb (by omega) hs rp) ?_
  rintro e W2 ⟨hk, ⟨k, i, g, st, wy, tr, nx, tag, hR, rfl⟩ | ⟨hno, rfl⟩⟩
  · replace r1 := hk.keep _ _ _ (by omega) r1
    replace r2 := hk.keep _ _ _ (by omega) r2
    replace hb := hk.below _ _ (by omega) hb
    clear hk rp
    have y0 := r1.cell
    have y1 := r1.lt
    have y2 := r1.free
    have y3 := r2.cell
    have y4 := r2.lt
    have y5 := r2.free
    go_wp2_with fail
    clear y0 y1 y2 y3 y4 y5
    replace r1 := r1.set 0 (.int .i64 k)
    replace r2 := r2.other (show w.heap.size ≠ w.heap.size + 1 by omega) 0 (.int .i64 k)
    replace hb := hb.setCell (p := ⟨w.heap.size, 0, none⟩) (Nat.le_refl _) (.int .i64 k)
    replace r1 := r1.set 1 (.int .i64 i)
    replace r2 := r2.other (show w.heap.size ≠ w.heap.size + 1 by omega) 1 (.int .i64 i)
    replace hb := hb.setCell (p := ⟨w.heap.size, 1, none⟩) (Nat.le_refl _) (.int .i64 i)
    replace r1 := r1.set 2 (.int .u32 g)
    replace r2 := r2.other (show w.heap.size ≠ w.heap.size + 1 by omega) 2 (.int .u32 g)
    replace hb := hb.setCell (p := ⟨w.heap.size, 2, none⟩) (Nat.le_refl _) (.int .u32 g)
    replace r1 := r1.set 3 (.int .i64 st)
    replace r2 := r2.other (show w.heap.size ≠ w.heap.size + 1 by omega) 3 (.int .i64 st)
    replace hb := hb.setCell (p := ⟨w.heap.size, 3, none⟩) (Nat.le_refl _) (.int .i64 st)
    replace r1 := r1.set 4 (.int .i64 wy)
    replace r2 := r2.other (show w.heap.size ≠ w.heap.size + 1 by omega) 4 (.int .i64 wy)
    replace hb := hb.setCell (p := ⟨w.heap.size, 4, none⟩) (Nat.le_refl _) (.int .i64 wy)
    replace r1 := r1.set 5 (.int .i64 tr)
    replace r2 := r2.other (show w.heap.size ≠ w.heap.size + 1 by omega) 5 (.int .i64 tr)
    replace hb := hb.setCell (p := ⟨w.heap.size, 5, none⟩) (Nat.le_refl _) (.int .i64 tr)
    replace r1 := r1.set 6 (.int .i64 nx)
    replace r2 := r2.other (show w.heap.size ≠ w.heap.size + 1 by omega) 6 (.int .i64 nx)
    replace hb := hb.setCell (p := ⟨w.heap.size, 6, none⟩) (Nat.le_refl _) (.int .i64 nx)
    replace r1 := r1.set 7 (.string tag)
    replace r2 := r2.other (show w.heap.size ≠ w.heap.size + 1 by omega) 7 (.string tag)
    replace hb := hb.setCell (p := ⟨w.heap.size, 7, none⟩) (Nat.le_refl _) (.string tag)
    replace r1 := r1.other (show w.heap.size + 1 ≠ w.heap.size by omega) 0 (.int .i64 0)
    replace r2 := r2.set 0 (.int .i64 0)
    replace hb := hb.setCell (p := ⟨w.heap.size + 1, 0, none⟩) (Nat.le_succ _) (.int .i64 0)
    simp only [zR, List.setIfInBounds_toArray, List.set_cons_zero, List.set_cons_succ] at r1 r2
    generalize hW : World.setCell _ _ _ = V at *
    clear hW
    refine leaves_cons (f := 32) (args := #[.pointer (some ⟨w.heap.size, 0, none⟩), .pointer (some ⟨w.heap.size + 1, 0, none⟩)]) (by simp) (by simp [go_sem]) ?_
    refine (catch_idle _ _ _).mono ?_
    rintro e u' w'' ⟨rfl, rfl, hw⟩
    subst hw
    have z1 := r1.cell
    have z2 := r2.cell
    simp [Leaves, settle, results, Tryz.results14, go_sem, z1, z2]
    exact ⟨hb, k, i, g, st, wy, tr, nx, tag, hR, by simp⟩
  · replace r1 := hk.keep _ _ _ (by omega) r1
    replace r2 := hk.keep _ _ _ (by omega) r2
    replace hb := hk.below _ _ (by omega) hb
    clear hk rp
    go_wp2_with fail
    refine leaves_cons (f := 32) (args := #[.pointer (some ⟨w.heap.size, 0, none⟩), .pointer (some ⟨w.heap.size + 1, 0, none⟩)]) (by simp) (by simp [go_sem]) ?_
    refine (catch_malf _ _ _ _ r1 r2 (by omega)).mono ?_
    rintro e u' w'' ⟨rfl, rfl, q1, q2, hk⟩
    have hb2 := hk _ _ (Nat.le_refl _) (Nat.le_succ _) hb
    have z1 := q1.cell
    have z2 := q2.cell
    simp [Leaves, settle, results, Tryz.results14, go_sem, z1, z2]
    exact ⟨hb2, hno⟩
end Go.Proofs.YtgckfiadnmjonabGreatDoor
