/- Counts in plain Lean, and the contracts of stats.Check, changes, Used, Add and of the references'. -/
import Derived.Test.YtkjpdciccablpaaGreatDoorL0a
namespace Go.Proofs.YtkjpdciccablpaaGreatDoor
open Go.RowKit

def sOk (o l c r q : Int) : Bool := decide (0 ≤ o ∧ o ≤ 10000 ∧ 0 ≤ l ∧ l ≤ 10000 ∧ 0 ≤ c ∧ c ≤ 10000 ∧ 0 ≤ r ∧ r ≤ 10000 ∧ 0 ≤ q ∧ q ≤ 10000 ∧ l + c + r + q = o)
def sErr (o l c r q : Int) : Int := if sOk o l c r q then 0 else 2
abbrev stV (o l c r q : Int) : Value := .agg #[.int .i64 o, .int .i64 l, .int .i64 c, .int .i64 r, .int .i64 q]


theorem sIdx0 (o l c r q : Int) : ∀ w, (Instr.index 62 (.agg #[.int .i64 o, .int .i64 l, .int .i64 c, .int .i64 r, .int .i64 q]) (.int .i64 0)).run Tryz.prog w = .ok (.int .i64 o) w := fun _ => by kernel_rfl
theorem sIdx1 (o l c r q : Int) : ∀ w, (Instr.index 62 (.agg #[.int .i64 o, .int .i64 l, .int .i64 c, .int .i64 r, .int .i64 q]) (.int .i64 1)).run Tryz.prog w = .ok (.int .i64 l) w := fun _ => by kernel_rfl
theorem sIdx2 (o l c r q : Int) : ∀ w, (Instr.index 62 (.agg #[.int .i64 o, .int .i64 l, .int .i64 c, .int .i64 r, .int .i64 q]) (.int .i64 2)).run Tryz.prog w = .ok (.int .i64 c) w := fun _ => by kernel_rfl
theorem sIdx3 (o l c r q : Int) : ∀ w, (Instr.index 62 (.agg #[.int .i64 o, .int .i64 l, .int .i64 c, .int .i64 r, .int .i64 q]) (.int .i64 3)).run Tryz.prog w = .ok (.int .i64 r) w := fun _ => by kernel_rfl
theorem sIdx4 (o l c r q : Int) : ∀ w, (Instr.index 62 (.agg #[.int .i64 o, .int .i64 l, .int .i64 c, .int .i64 r, .int .i64 q]) (.int .i64 4)).run Tryz.prog w = .ok (.int .i64 q) w := fun _ => by kernel_rfl

set_option maxHeartbeats 2000000 in
theorem check_ok (o l c r q : Int) (w : World) (h : sOk o l c r q = true) :
    Ret 12 #[stV o l c r q] w (.int .i64 0) := by
  unfold sOk at h
  rw [decide_eq_true_iff] at h
  obtain ⟨o0, o1, l0, l1, c0, c1, r0, r1, q0, q1, hs⟩ := h
  subst hs
  have i0 := sIdx0 (l + c + r + q) l c r q
  have i1 := sIdx1 (l + c + r + q) l c r q
  have i2 := sIdx2 (l + c + r + q) l c r q
  have i3 := sIdx3 (l + c + r + q) l c r q
  have i4 := sIdx4 (l + c + r + q) l c r q
  go_enter Tryz.func12, Tryz.ntmps12
  go_wp2
  go_rounds 6
  go_returns
  exact ⟨rfl, by go_grown⟩

set_option maxHeartbeats 4000000 in
theorem check_range (o l c r q : Int) (w : World)
    (h : (o < 0 ∨ 10000 < o) ∨ ((0 ≤ o ∧ o ≤ 10000) ∧ ((l < 0 ∨ 10000 < l) ∨ ((0 ≤ l ∧ l ≤ 10000) ∧ ((c < 0 ∨ 10000 < c) ∨ ((0 ≤ c ∧ c ≤ 10000) ∧ ((r < 0 ∨ 10000 < r) ∨ ((0 ≤ r ∧ r ≤ 10000) ∧ (q < 0 ∨ 10000 < q))))))))) :
    Ret 12 #[stV o l c r q] w (.int .i64 2) := by
  have i0 := sIdx0 o l c r q
  have i1 := sIdx1 o l c r q
  have i2 := sIdx2 o l c r q
  have i3 := sIdx3 o l c r q
  have i4 := sIdx4 o l c r q
  rcases h with (h | h) | ⟨⟨o0, o1⟩, (h | h) | ⟨⟨l0, l1⟩, (h | h) | ⟨⟨c0, c1⟩, (h | h) | ⟨⟨r0, r1⟩, (h | h)⟩⟩⟩⟩
  all_goals
    go_enter Tryz.func12, Tryz.ntmps12
    go_wp2
    go_rounds 6
    go_returns
    exact ⟨rfl, by go_grown⟩
set_option maxHeartbeats 2000000 in
theorem check_sum (o l c r q : Int) (w : World) (h : 0 ≤ o ∧ o ≤ 10000 ∧ 0 ≤ l ∧ l ≤ 10000 ∧ 0 ≤ c ∧ c ≤ 10000 ∧ 0 ≤ r ∧ r ≤ 10000 ∧ 0 ≤ q ∧ q ≤ 10000) (hs : l + c + r + q ≠ o) :
    Ret 12 #[stV o l c r q] w (.int .i64 2) := by
  have i0 := sIdx0 o l c r q
  have i1 := sIdx1 o l c r q
  have i2 := sIdx2 o l c r q
  have i3 := sIdx3 o l c r q
  have i4 := sIdx4 o l c r q
  obtain ⟨o0, o1, l0, l1, c0, c1, r0, r1, q0, q1⟩ := h
  have e1 : (l + c + r + q == o) = false := beq_eq_false_iff_ne.2 hs
  have e2 : (l + c + r + q != o) = true := by rw [bne, e1]; rfl
  clear hs
  go_enter Tryz.func12, Tryz.ntmps12
  go_wp2
  go_rounds 6
  go_returns
  exact ⟨rfl, by go_grown⟩
theorem check_bad (o l c r q : Int) (w : World) (h : sOk o l c r q = false) : Ret 12 #[stV o l c r q] w (.int .i64 2) := by
  unfold sOk at h
  rw [decide_eq_false_iff_not] at h
  by_cases hr : 0 ≤ o ∧ o ≤ 10000 ∧ 0 ≤ l ∧ l ≤ 10000 ∧ 0 ≤ c ∧ c ≤ 10000 ∧ 0 ≤ r ∧ r ≤ 10000 ∧ 0 ≤ q ∧ q ≤ 10000
  · exact check_sum o l c r q w hr (by omega)
  · exact check_range o l c r q w (by omega)
theorem check_st (o l c r q : Int) (w : World) : Ret 12 #[stV o l c r q] w (.int .i64 (sErr o l c r q)) := by
  unfold sErr
  cases h : sOk o l c r q with
  | true => exact check_ok o l c r q w h
  | false => exact check_bad o l c r q w h

end Go.Proofs.YtkjpdciccablpaaGreatDoor
