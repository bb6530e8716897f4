/- The model's '==' at objects: field by field. -/
import Derived.Test.YtpegkcmomkdoeaaDoorFieldP2
import Derived.Laws.StructEq
namespace Go.Proofs.YtpegkcmomkdoeaaDoor
open Go.RowKit
set_option linter.unusedVariables false
set_option linter.unusedSimpArgs false

theorem size_ref : ∀ w, (Go.sizeOf 24).run Tryd.prog w = .ok 2 w := Tryd.sizeOf24
theorem eq_ref (r q : Rf) : ∀ W d, (Op.equalIn (d + 1 + 1) 24 (.agg #[.int .i64 r.1, .int .u32 r.2]) (.agg #[.int .i64 q.1, .int .u32 q.2])).run Tryd.prog W = .ok (decide (r = q)) W := by
  intro W d
  obtain ⟨a, b⟩ := r
  obtain ⟨c, e⟩ := q
  go_simp
  by_cases hs : a = c <;> by_cases hg : b = e <;> simp_all
theorem part_ref (xs : Array Value) (k : Nat) (W : World) : (part 24 xs k).run Tryd.prog W = .ok (.agg (xs.extract k (k + 2))) W := by
  go_simp
theorem eq_arr (a b c d a' b' c' d' : Rf) (W : World) : (Op.equalIn 9999 25 (.agg #[.int .i64 a.1, .int .u32 a.2, .int .i64 b.1, .int .u32 b.2, .int .i64 c.1, .int .u32 c.2, .int .i64 d.1, .int .u32 d.2]) (.agg #[.int .i64 a'.1, .int .u32 a'.2, .int .i64 b'.1, .int .u32 b'.2, .int .i64 c'.1, .int .u32 c'.2, .int .i64 d'.1, .int .u32 d'.2])).run Tryd.prog W = .ok (decide (a = a') && (decide (b = b') && (decide (c = c') && decide (d = d')))) W := by
  have e0 : ∀ W, (Op.equalIn 9998 24 (.agg #[.int .i64 a.1, .int .u32 a.2]) (.agg #[.int .i64 a'.1, .int .u32 a'.2])).run Tryd.prog W = .ok (decide (a = a')) W := fun W => eq_ref a a' W 9996
  have e1 : ∀ W, (Op.equalIn 9998 24 (.agg #[.int .i64 b.1, .int .u32 b.2]) (.agg #[.int .i64 b'.1, .int .u32 b'.2])).run Tryd.prog W = .ok (decide (b = b')) W := fun W => eq_ref b b' W 9996
  have e2 : ∀ W, (Op.equalIn 9998 24 (.agg #[.int .i64 c.1, .int .u32 c.2]) (.agg #[.int .i64 c'.1, .int .u32 c'.2])).run Tryd.prog W = .ok (decide (c = c')) W := fun W => eq_ref c c' W 9996
  have e3 : ∀ W, (Op.equalIn 9998 24 (.agg #[.int .i64 d.1, .int .u32 d.2]) (.agg #[.int .i64 d'.1, .int .u32 d'.2])).run Tryd.prog W = .ok (decide (d = d')) W := fun W => eq_ref d d' W 9996
  rw [show (9999 : Nat) = 9998 + 1 from rfl]
  unfold Op.equalIn
  simp [run_underlying Tryd.underlying25, Sem.run_bind, size_ref, List.range', part_ref]
  rw [e0]
  generalize decide (a = a') = p0
  generalize decide (b = b') = p1 at *
  generalize decide (c = c') = p2 at *
  generalize decide (d = d') = p3 at *
  cases p0 <;> cases p1 <;> cases p2 <;> cases p3 <;> simp [Result.andThen, e1, e2, e3]
def eqO (n : Int) (a b c d : Rf) (h : Bool) (n' : Int) (a' b' c' d' : Rf) (h' : Bool) : Bool := decide (n = n') && ((decide (a = a') && (decide (b = b') && (decide (c = c') && decide (d = d')))) && (h == h'))
theorem eq_objF (n : Int) (a b c d : Rf) (h : Bool) (n' : Int) (a' b' c' d' : Rf) (h' : Bool) : ∀ W, (binOp .eql 27 (obR n a b c d h) (obR n' a' b' c' d' h')).run Tryd.prog W = .ok (.bool (eqO n a b c d h n' a' b' c' d' h')) W := by
  intro W
  have e := eq_arr a b c d a' b' c' d'
  unfold eqO
  generalize (decide (a = a') && (decide (b = b') && (decide (c = c') && decide (d = d')))) = q at *
  go_simp
  by_cases hn : n = n' <;> cases q <;> cases h <;> cases h' <;> simp_all [Result.andThen]
theorem eq_objR (n : Int) (a b c d : Rf) (h : Bool) (n' : Int) (a' b' c' d' : Rf) (h' : Bool) : ∀ W, (binOp .eql 31 (obR n a b c d h) (obR n' a' b' c' d' h')).run Tryd.prog W = .ok (.bool (eqO n a b c d h n' a' b' c' d' h')) W := by
  intro W
  have e := eq_arr a b c d a' b' c' d'
  unfold eqO
  generalize (decide (a = a') && (decide (b = b') && (decide (c = c') && decide (d = d')))) = q at *
  go_simp
  by_cases hn : n = n' <;> cases q <;> cases h <;> cases h' <;> simp_all [Result.andThen]
theorem eqO_same (n : Int) (a b c d : Rf) (h : Bool) : eqO n a b c d h n a b c d h = true := by unfold eqO; simp
end Go.Proofs.YtpegkcmomkdoeaaDoor
