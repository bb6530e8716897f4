/- How the text of an operation is read, letter by letter (plain). -/
import Derived.Test.YthkngleegefgbaaDoorL0a
import Derived.Test.YthkngleegefgbaaDoorHOp1
namespace Go.Proofs.YthkngleegefgbaaDoor
open Go.Lib (decDigits)
set_option linter.unusedVariables false
set_option linter.unusedSimpArgs false
/-- The fields of an operation, beside its kind. -/
structure Fl where
  m : Int
  a : Int
  b : Int
  c : Int
  tag : ByteArray
theorem Fl.eq_of {x y : Fl} (h1 : x.m = y.m) (h2 : x.a = y.a) (h3 : x.b = y.b) (h4 : x.c = y.c) (h5 : x.tag = y.tag) : x = y := by
  obtain ⟨a, b, c, d, e⟩ := x
  obtain ⟨a', b', c', d', e'⟩ := y
  simp only at h1 h2 h3 h4 h5
  rw [h1, h2, h3, h4, h5]
def fl0 : Fl := ⟨0, 0, 0, 0, ⟨#[]⟩⟩
/-- Which field a part stands in. -/
def fOf (ch : UInt8) : Nat := if ch = 109 then 1 else if ch = 110 ∨ ch = 114 ∨ ch = 82 ∨ ch = 100 ∨ ch = 115 ∨ ch = 84 ∨ ch = 107 then 2 else if ch = 105 ∨ ch = 103 ∨ ch = 116 ∨ ch = 98 then 3 else if ch = 118 then 4 else 5
def put (ch : UInt8) (x y : Fl) : Fl := if fOf ch = 1 then { y with m := x.m } else if fOf ch = 2 then { y with a := x.a } else if fOf ch = 3 then { y with b := x.b } else if fOf ch = 4 then { y with c := x.c } else { y with tag := x.tag }
/-- The text of a part. -/
def txt (ch : UInt8) (x : Fl) : List UInt8 := if ch = 107 then [letterB x.a] else if ch = 113 then quoteL x.tag.data.toList else if fOf ch = 1 then numL x.m else if fOf ch = 2 then numL x.a else if fOf ch = 3 then numL x.b else if fOf ch = 4 then numL x.c else x.tag.data.toList
def lettersL : List UInt8 := [109, 110, 114, 82, 100, 115, 84, 107, 105, 103, 116, 98, 118, 113, 97]
abbrev Fl.ok (x : Fl) (kd : Int) : Prop := opOk kd x.m x.a x.b x.c x.tag.data.toList = true
theorem kinds_fin (p : Nat → Prop) (h : ∀ i : Fin 17, p i) {kd : Int} (hk : 1 ≤ kd ∧ kd ≤ 17) : p (kd - 1).toNat := h ⟨(kd - 1).toNat, by omega⟩
theorem partsK_eq {kd : Int} (hk : 1 ≤ kd ∧ kd ≤ 17) : partsK kd = partsLs.getD (kd - 1).toNat [] := by unfold partsK; rw [if_pos hk]
theorem parts_letters (kd : Int) : ∀ ch ∈ partsK kd, ch ∈ lettersL := by
  by_cases hk : 1 ≤ kd ∧ kd ≤ 17
  · rw [partsK_eq hk]
    exact kinds_fin (fun i => ∀ ch ∈ partsLs.getD i [], ch ∈ lettersL) (by decide) hk
  · unfold partsK; rw [if_neg hk]; simp
/-- No two parts of a kind stand in one field. -/
theorem parts_apart {kd : Int} (hk : 1 ≤ kd ∧ kd ≤ 17) : ((partsK kd).map fOf).Pairwise (· ≠ ·) := by
  rw [partsK_eq hk]
  exact kinds_fin (fun i => ((partsLs.getD i []).map fOf).Pairwise (· ≠ ·)) (by decide) hk
/-- A quoted tag stands last. -/
theorem parts_quote {kd : Int} (hk : 1 ≤ kd ∧ kd ≤ 17) : ∀ j < (partsK kd).length, (partsK kd)[j]? = some 113 → j + 1 = (partsK kd).length := by
  rw [partsK_eq hk]
  refine kinds_fin (fun i => ∀ j < (partsLs.getD i []).length, (partsLs.getD i [])[j]? = some 113 → j + 1 = (partsLs.getD i []).length) (by decide) hk
theorem parts_txt {kd : Int} (hk : 1 ≤ kd ∧ kd ≤ 17) (x : Fl) : partsL kd x.m x.a x.b x.c x.tag.data.toList = (partsK kd).map (txt · x) := by
  rcases kinds hk with rfl | rfl | rfl | rfl | rfl | rfl | rfl | rfl | rfl | rfl | rfl | rfl | rfl | rfl | rfl | rfl | rfl <;> rfl
/-- What is put together of the parts of a valid operation is that operation. -/
theorem parts_all {kd : Int} (x : Fl) (h : x.ok kd) : (partsK kd).foldl (fun y ch => put ch x y) fl0 = x := by
  obtain ⟨hk, hm, ha, hb, hc, ht⟩ := opOk_iff.1 h
  obtain ⟨m, a, b, c, tag⟩ := x
  have tz : kd ≠ 8 → kd ≠ 17 → tag = ⟨#[]⟩ := fun h8 h17 => by
    unfold tgOk at ht
    rw [if_neg h8, if_neg h17] at ht
    exact str_ext (by rw [List.isEmpty_iff.1 ht])
  rcases kinds hk with rfl | rfl | rfl | rfl | rfl | rfl | rfl | rfl | rfl | rfl | rfl | rfl | rfl | rfl | rfl | rfl | rfl <;>
    simp only [mHi, aLo, aHi, bLo, bHi, cLo, cHi, Int.reduceLE, Int.reduceEq, if_true, if_false, or_false, or_true, or_self, false_or, true_or, reduceIte] at hm ha hb hc <;>
    (refine Fl.eq_of ?_ ?_ ?_ ?_ ?_) <;>
    (first
      | rfl
      | (show (0 : Int) = _; dsimp only; omega)
      | (show (⟨#[]⟩ : ByteArray) = _; exact (tz (by decide) (by decide)).symm))
theorem put_txt {ch d : UInt8} (x y : Fl) (hd : d ∈ lettersL) (hc : ch ∈ lettersL) (hne : fOf d ≠ fOf ch) : txt d (put ch x y) = txt d y := by
  have key : ∀ d ∈ lettersL, ∀ ch ∈ lettersL, fOf d ≠ fOf ch → (d = 107 → fOf ch ≠ 2) ∧ (d = 113 → fOf ch ≤ 4) := by decide
  have := key d hd ch hc hne
  have rng : ∀ ch ∈ lettersL, 1 ≤ fOf ch ∧ fOf ch ≤ 5 := by decide
  have r1 := rng ch hc
  have r2 := rng d hd
  unfold txt put
  rcases (by omega : fOf ch = 1 ∨ fOf ch = 2 ∨ fOf ch = 3 ∨ fOf ch = 4 ∨ fOf ch = 5) with e | e | e | e | e <;> rw [e] at hne this <;> simp only [e, Nat.reduceEqDiff, if_true, if_false, reduceIte] <;>
    (by_cases h1 : d = 107
     · subst h1; revert this; simp
     · by_cases h2 : d = 113
       · subst h2; revert this; simp
       · rw [if_neg h1, if_neg h2]
         rcases (by omega : fOf d = 1 ∨ fOf d = 2 ∨ fOf d = 3 ∨ fOf d = 4 ∨ fOf d = 5) with q | q | q | q | q <;> rw [q] at hne ⊢ <;> first | exact absurd rfl hne | simp [h1, h2])
end Go.Proofs.YthkngleegefgbaaDoor
