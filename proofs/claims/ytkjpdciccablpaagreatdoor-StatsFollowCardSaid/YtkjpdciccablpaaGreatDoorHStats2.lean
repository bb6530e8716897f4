/- Contracts of stats.changes, Used, Add. -/
import Derived.Test.YtkjpdciccablpaaGreatDoorHStats1
namespace Go.Proofs.YtkjpdciccablpaaGreatDoor
open Go.RowKit

theorem pair_eqIn (d : Nat) (a b f t : Int) (w : World) : (Op.equalIn (d + 2) 114 (.agg #[.int .i64 a, .int .i64 b]) (.agg #[.int .i64 f, .int .i64 t])).run Tryz.prog w = .ok (a == f && b == t) w := by
  have hs : ∀ w, (sizeOf 3).run Tryz.prog w = .ok 1 w := fun w => by kernel_rfl
  have p0 : ∀ (x y : Value) w, (part 3 #[x, y] 0).run Tryz.prog w = .ok x w := fun x y w => by kernel_rfl
  have p1 : ∀ (x y : Value) w, (part 3 #[x, y] 1).run Tryz.prog w = .ok y w := fun x y w => by kernel_rfl
  have q := fun x y w => run_equalIn_int (P := Tryz.prog) w d 3 .i64 .i64 x y Tryz.underlying3
  rw [show d + 2 = (d + 1) + 1 from rfl, Op.equalIn]
  simp only [Sem.run_bind, run_underlying Tryz.underlying114, Result.andThen_ok, hs]
  simp [Std.Legacy.Range.forIn_eq_forIn_range', List.range'_succ, Std.Legacy.Range.size, p0, p1, q]
  by_cases h : a = f <;> by_cases k : b = t <;> simp [h, k]
theorem pair_eq (a b f t : Int) (w : World) : (binOp .eql 114 (.agg #[.int .i64 a, .int .i64 b]) (.agg #[.int .i64 f, .int .i64 t])).run Tryz.prog w = .ok (.bool (a == f && b == t)) w := by
  simp only [binOp]
  rw [Sem.run_bind]
  rw [show (Op.equal 114 (.agg #[.int .i64 a, .int .i64 b]) (.agg #[.int .i64 f, .int .i64 t])).run Tryz.prog w = .ok (a == f && b == t) w from pair_eqIn 9998 a b f t w]
  simp
theorem cIdx0 : ∀ w, (Instr.index 115 (.agg #[.int .i64 0, .int .i64 1, .int .i64 1, .int .i64 2, .int .i64 2, .int .i64 2, .int .i64 2, .int .i64 3, .int .i64 2, .int .i64 4]) (.int .i64 0)).run Tryz.prog w = .ok (.agg #[.int .i64 0, .int .i64 1]) w := fun _ => by kernel_rfl
theorem cIdx1 : ∀ w, (Instr.index 115 (.agg #[.int .i64 0, .int .i64 1, .int .i64 1, .int .i64 2, .int .i64 2, .int .i64 2, .int .i64 2, .int .i64 3, .int .i64 2, .int .i64 4]) (.int .i64 1)).run Tryz.prog w = .ok (.agg #[.int .i64 1, .int .i64 2]) w := fun _ => by kernel_rfl
theorem cIdx2 : ∀ w, (Instr.index 115 (.agg #[.int .i64 0, .int .i64 1, .int .i64 1, .int .i64 2, .int .i64 2, .int .i64 2, .int .i64 2, .int .i64 3, .int .i64 2, .int .i64 4]) (.int .i64 2)).run Tryz.prog w = .ok (.agg #[.int .i64 2, .int .i64 2]) w := fun _ => by kernel_rfl
theorem cIdx3 : ∀ w, (Instr.index 115 (.agg #[.int .i64 0, .int .i64 1, .int .i64 1, .int .i64 2, .int .i64 2, .int .i64 2, .int .i64 2, .int .i64 3, .int .i64 2, .int .i64 4]) (.int .i64 3)).run Tryz.prog w = .ok (.agg #[.int .i64 2, .int .i64 3]) w := fun _ => by kernel_rfl
theorem cIdx4 : ∀ w, (Instr.index 115 (.agg #[.int .i64 0, .int .i64 1, .int .i64 1, .int .i64 2, .int .i64 2, .int .i64 2, .int .i64 2, .int .i64 3, .int .i64 2, .int .i64 4]) (.int .i64 4)).run Tryz.prog w = .ok (.agg #[.int .i64 2, .int .i64 4]) w := fun _ => by kernel_rfl

def chg (f t : Int) : Bool := decide ((f = 0 ∧ t = 1) ∨ (f = 1 ∧ t = 2) ∨ (f = 2 ∧ 2 ≤ t ∧ t ≤ 4))
theorem pair_no {a b f t : Int} (h : chg f t = false) (hab : chg a b = true) (w : World) : (binOp .eql 114 (.agg #[.int .i64 a, .int .i64 b]) (.agg #[.int .i64 f, .int .i64 t])).run Tryz.prog w = .ok (.bool false) w := by
  rw [pair_eq]
  have : (a == f && b == t) = false := by
    rw [Bool.eq_false_iff]
    intro e
    rw [Bool.and_eq_true, beq_iff_eq, beq_iff_eq] at e
    obtain ⟨rfl, rfl⟩ := e
    rw [h] at hab; cases hab
  rw [this]
set_option maxHeartbeats 2000000 in
set_option maxRecDepth 20000 in
theorem changes_no (f t : Int) (w : World) (h : chg f t = false) : Ret 26 #[.int .i64 f, .int .i64 t] w (.bool false) := by
  have i0 := cIdx0
  have i1 := cIdx1
  have i2 := cIdx2
  have i3 := cIdx3
  have i4 := cIdx4
  have e0 := pair_no (a := 0) (b := 1) h (by decide)
  have e1 := pair_no (a := 1) (b := 2) h (by decide)
  have e2 := pair_no (a := 2) (b := 2) h (by decide)
  have e3 := pair_no (a := 2) (b := 3) h (by decide)
  have e4 := pair_no (a := 2) (b := 4) h (by decide)
  clear h
  go_enter Tryz.func26, Tryz.ntmps26
  go_wp2
  go_rounds 6
  go_returns
  exact ⟨rfl, by go_grown⟩
set_option maxHeartbeats 4000000 in
set_option maxRecDepth 20000 in
theorem changes_yes (f t : Int) (w : World) (h : chg f t = true) : Ret 26 #[.int .i64 f, .int .i64 t] w (.bool true) := by
  have i0 := cIdx0
  have i1 := cIdx1
  have i2 := cIdx2
  have i3 := cIdx3
  have i4 := cIdx4
  have hq := pair_eq
  have h5 : (f = 0 ∧ t = 1) ∨ (f = 1 ∧ t = 2) ∨ (f = 2 ∧ t = 2) ∨ (f = 2 ∧ t = 3) ∨ (f = 2 ∧ t = 4) := by unfold chg at h; rw [decide_eq_true_iff] at h; omega
  clear h
  rcases h5 with ⟨rfl, rfl⟩ | ⟨rfl, rfl⟩ | ⟨rfl, rfl⟩ | ⟨rfl, rfl⟩ | ⟨rfl, rfl⟩
  all_goals
    go_enter Tryz.func26, Tryz.ntmps26
    go_wp2
    go_rounds 6
    go_returns
    exact ⟨rfl, by go_grown⟩
theorem changes_st (f t : Int) (w : World) : Ret 26 #[.int .i64 f, .int .i64 t] w (.bool (chg f t)) := by
  cases h : chg f t with
  | true => exact changes_yes f t w h
  | false => exact changes_no f t w h
end Go.Proofs.YtkjpdciccablpaaGreatDoor
