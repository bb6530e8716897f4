/- References and objects in plain Lean. No program in sight. -/
import Derived.Test.YtpegkcmomkdoeaaDoorGenSpec
namespace Go.Proofs.YtpegkcmomkdoeaaDoor
open Go.Lib (decDigits)
set_option linter.unusedVariables false
set_option linter.unusedSimpArgs false

/-- A reference: its slot and its generation. -/
abbrev Rf := Int × Int
def rNone (r : Rf) : Bool := decide (r.1 = 0 ∧ r.2 = 0)
def rOk (r : Rf) : Bool := decide (0 ≤ r.1 ∧ r.1 < 256 ∧ 1 ≤ r.2 ∧ r.2 ≤ 4294967295)
def rWrong (r : Rf) : Bool := !rNone r && !rOk r
/-- A field with the number i of an object with n fields is possible. -/
def fOk (n i : Int) (r : Rf) : Bool := rNone r || (decide (i < n) && rOk r)
def oOk (n : Int) (a b c d : Rf) (h : Bool) : Bool := decide (0 ≤ n ∧ n ≤ 4) && !(h && decide (0 < n)) && fOk n 0 a && fOk n 1 b && fOk n 2 c && fOk n 3 d
def oErr (n : Int) (a b c d : Rf) (h : Bool) : Int := if oOk n a b c d h then 0 else 2
/-- The fields that are not empty, with their indexes. -/
def full (a b c d : Rf) : List (Int × Rf) := [((0 : Int), a), (1, b), (2, c), (3, d)].filter fun x => !rNone x.2
theorem full_eq (a b c d : Rf) : full a b c d = (if rNone a then [] else [(0, a)]) ++ (if rNone b then [] else [(1, b)]) ++ (if rNone c then [] else [(2, c)]) ++ (if rNone d then [] else [(3, d)]) := by
  unfold full
  simp only [List.filter_cons, List.filter_nil]
  generalize rNone a = x
  generalize rNone b = y
  generalize rNone c = z
  generalize rNone d = u
  cases x <;> cases y <;> cases z <;> cases u <;> rfl
/-- What Check asks of a field that is not empty: true: it is not possible. -/
def badF (n : Int) (x : Int × Rf) : Bool := decide (n ≤ x.1) || rWrong x.2
theorem fOk_bad (n i : Int) (r : Rf) : fOk n i r = (rNone r || !badF n (i, r)) := by
  unfold fOk badF rWrong
  cases hr : rNone r
  · by_cases h : i < n
    · have h' : ¬ n ≤ i := by omega
      simp [h, h']
    · have h' : n ≤ i := by omega
      simp [h, h']
  · simp
theorem full_all (n : Int) (a b c d : Rf) : ((full a b c d).any (badF n)) = !(fOk n 0 a && fOk n 1 b && fOk n 2 c && fOk n 3 d) := by
  rw [full_eq, fOk_bad, fOk_bad, fOk_bad, fOk_bad]
  generalize rNone a = x
  generalize rNone b = y
  generalize rNone c = z
  generalize rNone d = u
  cases x <;> cases y <;> cases z <;> cases u <;> simp only [List.any_append, List.any_cons, List.any_nil, if_true, if_false, Bool.false_eq_true, Bool.or_false, Bool.true_or, Bool.false_or, Bool.true_and, Bool.and_true, Bool.not_and, Bool.not_not, Bool.not_true, Bool.or_assoc] <;> (generalize badF n (0, a) = p0; generalize badF n (1, b) = p1; generalize badF n (2, c) = p2; generalize badF n (3, d) = p3; cases p0 <;> cases p1 <;> cases p2 <;> cases p3 <;> rfl)
/-- The text of a reference. -/
def rText (r : Rf) : ByteArray := if rNone r then ⟨#[45]⟩ else digits r.1.toNat ++ ⟨#[46]⟩ ++ digits r.2.toNat
end Go.Proofs.YtpegkcmomkdoeaaDoor
