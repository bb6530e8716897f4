/- FieldsWrong: the walk for all numbers. -/
import Derived.Test.YtpegkcmomkdoeaaDoorWrong13a
import Derived.Test.YtpegkcmomkdoeaaDoorWrong13b
import Derived.Test.YtpegkcmomkdoeaaDoorWrong13c
import Derived.Test.YtpegkcmomkdoeaaDoorWrong13d
import Derived.Test.YtpegkcmomkdoeaaDoorWrong13e
import Derived.Test.YtpegkcmomkdoeaaDoorWrong13f
import Derived.Test.YtpegkcmomkdoeaaDoorWrong13g
namespace Go.Proofs.YtpegkcmomkdoeaaDoor
open Go.RowKit
set_option linter.unusedVariables false
set_option linter.unusedSimpArgs false
theorem bad_get {n : Int} {a b c d : Rf} {h : Bool} (hb : oOk n a b c d h = false) (i : Int) : getO n a b c d h i = ((0, 0), 2) := by unfold getO; rw [hb]; rfl
theorem bad_set {n : Int} {a b c d : Rf} {h : Bool} (hb : oOk n a b c d h = false) (i : Int) (r : Rf) : setO n a b c d h i r = ⟨0, (0, 0), (0, 0), (0, 0), (0, 0), false, (0, 0), 2⟩ := by unfold setO; rw [hb]; rfl
theorem set_wrong {n : Int} {a b c d : Rf} {h : Bool} (i : Int) {r : Rf} (hr : rWrong r = true) : setO n a b c d h i r = ⟨0, (0, 0), (0, 0), (0, 0), (0, 0), false, (0, 0), 2⟩ := by
  unfold setO
  rw [hr]
  cases oOk n a b c d h <;> rfl
theorem rWrong_of {s g : Int} (h1 : ¬ (s = 0 ∧ g = 0)) (h2 : ¬ (0 ≤ s ∧ s < 256 ∧ 1 ≤ g ∧ g ≤ 4294967295)) : rWrong (s, g) = true := by
  unfold rWrong rNone rOk
  rw [decide_eq_false h1, decide_eq_false h2]
  rfl
theorem not_ok {n : Int} {a b c d : Rf} {h : Bool} (hh : ¬ oOk n a b c d h = true) : oOk n a b c d h = false := by
  cases hx : oOk n a b c d h
  · rfl
  · exact absurd hx hh
theorem fnot {n i s g : Int} (h : fOk n i (s, g) = true) (h1 : ¬ (s = 0 ∧ g = 0)) (h2 : ¬ (0 ≤ s ∧ s < 256 ∧ 1 ≤ g ∧ g ≤ 4294967295)) : False := by
  rcases rFit_cases (fOk_fit h) with e | ⟨_, e⟩
  · injection e with e1 e2
    exact h1 ⟨e1, e2⟩
  · exact h2 (rOk_iff.1 e)
theorem new_bad {n : Int} {h : Bool} (hb : oOk n (0, 0) (0, 0) (0, 0) (0, 0) h = false) (w : World) : Ret 11 #[.int .i64 n, .bool h] w (.tuple #[ob0, .int .i64 2]) := by
  have c := fnew_c n h w
  unfold newN newH oErr at c
  rw [hb] at c
  exact c

theorem wrong_in0 (n a1 a2 a3 a4 b1 b2 b3 b4 what m N : Int) (A B C D : Rf) (h : Bool) (w : World) (hE : EnvP w) (m0 : 0 ≤ m) (m1 : m ≤ 65535) (hw : Int.tmod what 7 = 0) (ho : oOk N A B C D h = true)
    (c1 : ∀ w, Ret 27 #[.int .u8 n, .agg #[.int .u8 a1, .int .u8 a2, .int .u8 a3, .int .u8 a4], .agg #[.int .u32 b1, .int .u32 b2, .int .u32 b3, .int .u32 b4]] w (obR N A B C D h)) :
    Ret 10 #[.int .u8 n, .agg #[.int .u8 a1, .int .u8 a2, .int .u8 a3, .int .u8 a4], .agg #[.int .u32 b1, .int .u32 b2, .int .u32 b3, .int .u32 b4], .int .u8 what, .int .u16 m] w (.bool true) := by
  have hb : oOk (5 + m) A B C D h = false := not_ok (fun hx => by
    obtain ⟨⟨n0, n1⟩, hh, f0, f1, f2, f3⟩ := oOk_iff.1 hx
    omega)
  have t1 : Int.tmod m 255 = m % 255 := Int.tmod_eq_emod_of_nonneg m0
  have t2 : Int.tmod m 4 = m % 4 := Int.tmod_eq_emod_of_nonneg m0
  have c2 := fun w => fget_c (5 + m) A B C D h 0 w
  rw [bad_get hb] at c2
  have c3 := fun w => fset_c (5 + m) A B C D h 0 (1, 1) w
  rw [bad_set hb] at c3
  have c4 := fun w hE => ftext_c (5 + m) A B C D h w hE
  rw [hb] at c4
  have c5 := fun w => fcheck_c (5 + m) A.1 A.2 B.1 B.2 C.1 C.2 D.1 D.2 h w
  rw [show oErr (5 + m) A B C D h = 2 by unfold oErr; rw [hb]; rfl] at c5
  have c6 := fun w => frefs_c (5 + m) A.1 A.2 B.1 B.2 C.1 C.2 D.1 D.2 h w
  exact wrong_0 n a1 a2 a3 a4 b1 b2 b3 b4 what m (m % 255) (m % 4) (max N 1) N A.1 A.2 B.1 B.2 C.1 C.2 D.1 D.2 h w hE m0 m1 hw t1 (Int.emod_nonneg _ (by decide)) (Int.emod_lt_of_pos _ (by decide)) t2 (Int.emod_nonneg _ (by decide)) (Int.emod_lt_of_pos _ (by decide)) c1 c2 c3 c4 c5 c6
    (fun s g w hx => by
      have c := fset_c N A B C D h (-1) (s, g) w
      rw [set_wrong (-1) (rWrong_of (by omega) (by omega))] at c
      exact c)
    (fun w => new_bad (not_ok (fun hx => by have := (oOk_iff.1 hx).1; omega)) w)
    (fun w => new_bad (not_ok (fun hx => by have := (oOk_iff.1 hx).1; omega)) w)
    (fun w => new_bad (not_ok (fun hx => by have := (oOk_iff.1 hx).2.1 rfl; omega)) w)
theorem wrong_in1 (n a1 a2 a3 a4 b1 b2 b3 b4 what m N : Int) (A B C D : Rf) (h : Bool) (w : World) (hE : EnvP w) (m0 : 0 ≤ m) (m1 : m ≤ 65535) (hw : Int.tmod what 7 = 1) (ho : oOk N A B C D h = true)
    (c1 : ∀ w, Ret 27 #[.int .u8 n, .agg #[.int .u8 a1, .int .u8 a2, .int .u8 a3, .int .u8 a4], .agg #[.int .u32 b1, .int .u32 b2, .int .u32 b3, .int .u32 b4]] w (obR N A B C D h)) :
    Ret 10 #[.int .u8 n, .agg #[.int .u8 a1, .int .u8 a2, .int .u8 a3, .int .u8 a4], .agg #[.int .u32 b1, .int .u32 b2, .int .u32 b3, .int .u32 b4], .int .u8 what, .int .u16 m] w (.bool true) := by
  have hb : oOk (-1 - m) A B C D h = false := not_ok (fun hx => by
    obtain ⟨⟨n0, n1⟩, hh, f0, f1, f2, f3⟩ := oOk_iff.1 hx
    omega)
  have t1 : Int.tmod m 255 = m % 255 := Int.tmod_eq_emod_of_nonneg m0
  have t2 : Int.tmod m 4 = m % 4 := Int.tmod_eq_emod_of_nonneg m0
  have c2 := fun w => fget_c (-1 - m) A B C D h 0 w
  rw [bad_get hb] at c2
  have c3 := fun w => fset_c (-1 - m) A B C D h 0 (1, 1) w
  rw [bad_set hb] at c3
  have c4 := fun w hE => ftext_c (-1 - m) A B C D h w hE
  rw [hb] at c4
  have c5 := fun w => fcheck_c (-1 - m) A.1 A.2 B.1 B.2 C.1 C.2 D.1 D.2 h w
  rw [show oErr (-1 - m) A B C D h = 2 by unfold oErr; rw [hb]; rfl] at c5
  have c6 := fun w => frefs_c (-1 - m) A.1 A.2 B.1 B.2 C.1 C.2 D.1 D.2 h w
  exact wrong_1 n a1 a2 a3 a4 b1 b2 b3 b4 what m (m % 255) (m % 4) (max N 1) N A.1 A.2 B.1 B.2 C.1 C.2 D.1 D.2 h w hE m0 m1 hw t1 (Int.emod_nonneg _ (by decide)) (Int.emod_lt_of_pos _ (by decide)) t2 (Int.emod_nonneg _ (by decide)) (Int.emod_lt_of_pos _ (by decide)) c1 c2 c3 c4 c5 c6
    (fun s g w hx => by
      have c := fset_c N A B C D h (-1) (s, g) w
      rw [set_wrong (-1) (rWrong_of (by omega) (by omega))] at c
      exact c)
    (fun w => new_bad (not_ok (fun hx => by have := (oOk_iff.1 hx).1; omega)) w)
    (fun w => new_bad (not_ok (fun hx => by have := (oOk_iff.1 hx).1; omega)) w)
    (fun w => new_bad (not_ok (fun hx => by have := (oOk_iff.1 hx).2.1 rfl; omega)) w)
theorem wrong_in2 (n a1 a2 a3 a4 b1 b2 b3 b4 what m N : Int) (A B C D : Rf) (h : Bool) (w : World) (hE : EnvP w) (m0 : 0 ≤ m) (m1 : m ≤ 65535) (hw : Int.tmod what 7 = 2) (ho : oOk N A B C D h = true)
    (c1 : ∀ w, Ret 27 #[.int .u8 n, .agg #[.int .u8 a1, .int .u8 a2, .int .u8 a3, .int .u8 a4], .agg #[.int .u32 b1, .int .u32 b2, .int .u32 b3, .int .u32 b4]] w (obR N A B C D h)) :
    Ret 10 #[.int .u8 n, .agg #[.int .u8 a1, .int .u8 a2, .int .u8 a3, .int .u8 a4], .agg #[.int .u32 b1, .int .u32 b2, .int .u32 b3, .int .u32 b4], .int .u8 what, .int .u16 m] w (.bool true) := by
  have hb : oOk 3 (0, 0) (0, 0) (0, 0) (1, 1) false = false := not_ok (fun hx => by
    obtain ⟨⟨n0, n1⟩, hh, f0, f1, f2, f3⟩ := oOk_iff.1 hx
    have := fOk_over f3 (by omega); exact absurd this (by decide))
  have t1 : Int.tmod m 255 = m % 255 := Int.tmod_eq_emod_of_nonneg m0
  have t2 : Int.tmod m 4 = m % 4 := Int.tmod_eq_emod_of_nonneg m0
  have c2 := fun w => fget_c 3 (0, 0) (0, 0) (0, 0) (1, 1) false 0 w
  rw [bad_get hb] at c2
  have c3 := fun w => fset_c 3 (0, 0) (0, 0) (0, 0) (1, 1) false 0 (1, 1) w
  rw [bad_set hb] at c3
  have c4 := fun w hE => ftext_c 3 (0, 0) (0, 0) (0, 0) (1, 1) false w hE
  rw [hb] at c4
  have c5 := fun w => fcheck_c 3 0 0 0 0 0 0 1 1 false w
  rw [show oErr 3 (0, 0) (0, 0) (0, 0) (1, 1) false = 2 by unfold oErr; rw [hb]; rfl] at c5
  have c6 := fun w => frefs_c 3 0 0 0 0 0 0 1 1 false w
  exact wrong_2 n a1 a2 a3 a4 b1 b2 b3 b4 what m (m % 255) (m % 4) (max N 1) N A.1 A.2 B.1 B.2 C.1 C.2 D.1 D.2 h w hE m0 m1 hw t1 (Int.emod_nonneg _ (by decide)) (Int.emod_lt_of_pos _ (by decide)) t2 (Int.emod_nonneg _ (by decide)) (Int.emod_lt_of_pos _ (by decide)) c1 c2 c3 c4 c5 c6
    (fun s g w hx => by
      have c := fset_c N A B C D h (-1) (s, g) w
      rw [set_wrong (-1) (rWrong_of (by omega) (by omega))] at c
      exact c)
    (fun w => new_bad (not_ok (fun hx => by have := (oOk_iff.1 hx).1; omega)) w)
    (fun w => new_bad (not_ok (fun hx => by have := (oOk_iff.1 hx).1; omega)) w)
    (fun w => new_bad (not_ok (fun hx => by have := (oOk_iff.1 hx).2.1 rfl; omega)) w)
theorem wrong_in3 (n a1 a2 a3 a4 b1 b2 b3 b4 what m N : Int) (A B C D : Rf) (h : Bool) (w : World) (hE : EnvP w) (m0 : 0 ≤ m) (m1 : m ≤ 65535) (hw : Int.tmod what 7 = 3) (ho : oOk N A B C D h = true)
    (c1 : ∀ w, Ret 27 #[.int .u8 n, .agg #[.int .u8 a1, .int .u8 a2, .int .u8 a3, .int .u8 a4], .agg #[.int .u32 b1, .int .u32 b2, .int .u32 b3, .int .u32 b4]] w (obR N A B C D h)) :
    Ret 10 #[.int .u8 n, .agg #[.int .u8 a1, .int .u8 a2, .int .u8 a3, .int .u8 a4], .agg #[.int .u32 b1, .int .u32 b2, .int .u32 b3, .int .u32 b4], .int .u8 what, .int .u16 m] w (.bool true) := by
  have hb : oOk (max N 1) A B C D true = false := not_ok (fun hx => by
    obtain ⟨⟨n0, n1⟩, hh, f0, f1, f2, f3⟩ := oOk_iff.1 hx
    have := hh rfl; omega)
  have t1 : Int.tmod m 255 = m % 255 := Int.tmod_eq_emod_of_nonneg m0
  have t2 : Int.tmod m 4 = m % 4 := Int.tmod_eq_emod_of_nonneg m0
  have c2 := fun w => fget_c (max N 1) A B C D true 0 w
  rw [bad_get hb] at c2
  have c3 := fun w => fset_c (max N 1) A B C D true 0 (1, 1) w
  rw [bad_set hb] at c3
  have c4 := fun w hE => ftext_c (max N 1) A B C D true w hE
  rw [hb] at c4
  have c5 := fun w => fcheck_c (max N 1) A.1 A.2 B.1 B.2 C.1 C.2 D.1 D.2 true w
  rw [show oErr (max N 1) A B C D true = 2 by unfold oErr; rw [hb]; rfl] at c5
  have c6 := fun w => frefs_c (max N 1) A.1 A.2 B.1 B.2 C.1 C.2 D.1 D.2 true w
  exact wrong_3 n a1 a2 a3 a4 b1 b2 b3 b4 what m (m % 255) (m % 4) (max N 1) N A.1 A.2 B.1 B.2 C.1 C.2 D.1 D.2 h w hE m0 m1 hw t1 (Int.emod_nonneg _ (by decide)) (Int.emod_lt_of_pos _ (by decide)) t2 (Int.emod_nonneg _ (by decide)) (Int.emod_lt_of_pos _ (by decide)) rfl c1 c2 c3 c4 c5 c6
    (fun s g w hx => by
      have c := fset_c N A B C D h (-1) (s, g) w
      rw [set_wrong (-1) (rWrong_of (by omega) (by omega))] at c
      exact c)
    (fun w => new_bad (not_ok (fun hx => by have := (oOk_iff.1 hx).1; omega)) w)
    (fun w => new_bad (not_ok (fun hx => by have := (oOk_iff.1 hx).1; omega)) w)
    (fun w => new_bad (not_ok (fun hx => by have := (oOk_iff.1 hx).2.1 rfl; omega)) w)
theorem wrong_in4 (n a1 a2 a3 a4 b1 b2 b3 b4 what m N : Int) (A B C D : Rf) (h : Bool) (w : World) (hE : EnvP w) (m0 : 0 ≤ m) (m1 : m ≤ 65535) (hw : Int.tmod what 7 = 4) (ho : oOk N A B C D h = true)
    (c1 : ∀ w, Ret 27 #[.int .u8 n, .agg #[.int .u8 a1, .int .u8 a2, .int .u8 a3, .int .u8 a4], .agg #[.int .u32 b1, .int .u32 b2, .int .u32 b3, .int .u32 b4]] w (obR N A B C D h)) :
    Ret 10 #[.int .u8 n, .agg #[.int .u8 a1, .int .u8 a2, .int .u8 a3, .int .u8 a4], .agg #[.int .u32 b1, .int .u32 b2, .int .u32 b3, .int .u32 b4], .int .u8 what, .int .u16 m] w (.bool true) := by
  have hb : oOk 1 (256 + m, 1) (0, 0) (0, 0) (0, 0) false = false := not_ok (fun hx => by
    obtain ⟨⟨n0, n1⟩, hh, f0, f1, f2, f3⟩ := oOk_iff.1 hx
    exact fnot f0 (by omega) (by omega))
  have t1 : Int.tmod m 255 = m % 255 := Int.tmod_eq_emod_of_nonneg m0
  have t2 : Int.tmod m 4 = m % 4 := Int.tmod_eq_emod_of_nonneg m0
  have c2 := fun w => fget_c 1 (256 + m, 1) (0, 0) (0, 0) (0, 0) false 0 w
  rw [bad_get hb] at c2
  have c3 := fun w => fset_c 1 (256 + m, 1) (0, 0) (0, 0) (0, 0) false 0 (1, 1) w
  rw [bad_set hb] at c3
  have c4 := fun w hE => ftext_c 1 (256 + m, 1) (0, 0) (0, 0) (0, 0) false w hE
  rw [hb] at c4
  have c5 := fun w => fcheck_c 1 (256 + m) 1 0 0 0 0 0 0 false w
  rw [show oErr 1 (256 + m, 1) (0, 0) (0, 0) (0, 0) false = 2 by unfold oErr; rw [hb]; rfl] at c5
  have c6 := fun w => frefs_c 1 (256 + m) 1 0 0 0 0 0 0 false w
  exact wrong_4 n a1 a2 a3 a4 b1 b2 b3 b4 what m (m % 255) (m % 4) (max N 1) N A.1 A.2 B.1 B.2 C.1 C.2 D.1 D.2 h w hE m0 m1 hw t1 (Int.emod_nonneg _ (by decide)) (Int.emod_lt_of_pos _ (by decide)) t2 (Int.emod_nonneg _ (by decide)) (Int.emod_lt_of_pos _ (by decide)) c1 c2 c3 c4 c5 c6
    (fun s g w hx => by
      have c := fset_c N A B C D h (-1) (s, g) w
      rw [set_wrong (-1) (rWrong_of (by omega) (by omega))] at c
      exact c)
    (fun w => new_bad (not_ok (fun hx => by have := (oOk_iff.1 hx).1; omega)) w)
    (fun w => new_bad (not_ok (fun hx => by have := (oOk_iff.1 hx).1; omega)) w)
    (fun w => new_bad (not_ok (fun hx => by have := (oOk_iff.1 hx).2.1 rfl; omega)) w)
theorem wrong_in5 (n a1 a2 a3 a4 b1 b2 b3 b4 what m N : Int) (A B C D : Rf) (h : Bool) (w : World) (hE : EnvP w) (m0 : 0 ≤ m) (m1 : m ≤ 65535) (hw : Int.tmod what 7 = 5) (ho : oOk N A B C D h = true)
    (c1 : ∀ w, Ret 27 #[.int .u8 n, .agg #[.int .u8 a1, .int .u8 a2, .int .u8 a3, .int .u8 a4], .agg #[.int .u32 b1, .int .u32 b2, .int .u32 b3, .int .u32 b4]] w (obR N A B C D h)) :
    Ret 10 #[.int .u8 n, .agg #[.int .u8 a1, .int .u8 a2, .int .u8 a3, .int .u8 a4], .agg #[.int .u32 b1, .int .u32 b2, .int .u32 b3, .int .u32 b4], .int .u8 what, .int .u16 m] w (.bool true) := by
  have hb : oOk 1 (-1 - m, 1) (0, 0) (0, 0) (0, 0) false = false := not_ok (fun hx => by
    obtain ⟨⟨n0, n1⟩, hh, f0, f1, f2, f3⟩ := oOk_iff.1 hx
    exact fnot f0 (by omega) (by omega))
  have t1 : Int.tmod m 255 = m % 255 := Int.tmod_eq_emod_of_nonneg m0
  have t2 : Int.tmod m 4 = m % 4 := Int.tmod_eq_emod_of_nonneg m0
  have c2 := fun w => fget_c 1 (-1 - m, 1) (0, 0) (0, 0) (0, 0) false 0 w
  rw [bad_get hb] at c2
  have c3 := fun w => fset_c 1 (-1 - m, 1) (0, 0) (0, 0) (0, 0) false 0 (1, 1) w
  rw [bad_set hb] at c3
  have c4 := fun w hE => ftext_c 1 (-1 - m, 1) (0, 0) (0, 0) (0, 0) false w hE
  rw [hb] at c4
  have c5 := fun w => fcheck_c 1 (-1 - m) 1 0 0 0 0 0 0 false w
  rw [show oErr 1 (-1 - m, 1) (0, 0) (0, 0) (0, 0) false = 2 by unfold oErr; rw [hb]; rfl] at c5
  have c6 := fun w => frefs_c 1 (-1 - m) 1 0 0 0 0 0 0 false w
  exact wrong_5 n a1 a2 a3 a4 b1 b2 b3 b4 what m (m % 255) (m % 4) (max N 1) N A.1 A.2 B.1 B.2 C.1 C.2 D.1 D.2 h w hE m0 m1 hw t1 (Int.emod_nonneg _ (by decide)) (Int.emod_lt_of_pos _ (by decide)) t2 (Int.emod_nonneg _ (by decide)) (Int.emod_lt_of_pos _ (by decide)) c1 c2 c3 c4 c5 c6
    (fun s g w hx => by
      have c := fset_c N A B C D h (-1) (s, g) w
      rw [set_wrong (-1) (rWrong_of (by omega) (by omega))] at c
      exact c)
    (fun w => new_bad (not_ok (fun hx => by have := (oOk_iff.1 hx).1; omega)) w)
    (fun w => new_bad (not_ok (fun hx => by have := (oOk_iff.1 hx).1; omega)) w)
    (fun w => new_bad (not_ok (fun hx => by have := (oOk_iff.1 hx).2.1 rfl; omega)) w)
theorem wrong_in6 (n a1 a2 a3 a4 b1 b2 b3 b4 what m N : Int) (A B C D : Rf) (h : Bool) (w : World) (hE : EnvP w) (m0 : 0 ≤ m) (m1 : m ≤ 65535) (hw : Int.tmod what 7 = 6) (ho : oOk N A B C D h = true)
    (c1 : ∀ w, Ret 27 #[.int .u8 n, .agg #[.int .u8 a1, .int .u8 a2, .int .u8 a3, .int .u8 a4], .agg #[.int .u32 b1, .int .u32 b2, .int .u32 b3, .int .u32 b4]] w (obR N A B C D h)) :
    Ret 10 #[.int .u8 n, .agg #[.int .u8 a1, .int .u8 a2, .int .u8 a3, .int .u8 a4], .agg #[.int .u32 b1, .int .u32 b2, .int .u32 b3, .int .u32 b4], .int .u8 what, .int .u16 m] w (.bool true) := by
  have hb : oOk 1 (1 + m % 255, 0) (0, 0) (0, 0) (0, 0) false = false := not_ok (fun hx => by
    obtain ⟨⟨n0, n1⟩, hh, f0, f1, f2, f3⟩ := oOk_iff.1 hx
    exact fnot f0 (by omega) (by omega))
  have t1 : Int.tmod m 255 = m % 255 := Int.tmod_eq_emod_of_nonneg m0
  have t2 : Int.tmod m 4 = m % 4 := Int.tmod_eq_emod_of_nonneg m0
  have c2 := fun w => fget_c 1 (1 + m % 255, 0) (0, 0) (0, 0) (0, 0) false 0 w
  rw [bad_get hb] at c2
  have c3 := fun w => fset_c 1 (1 + m % 255, 0) (0, 0) (0, 0) (0, 0) false 0 (1, 1) w
  rw [bad_set hb] at c3
  have c4 := fun w hE => ftext_c 1 (1 + m % 255, 0) (0, 0) (0, 0) (0, 0) false w hE
  rw [hb] at c4
  have c5 := fun w => fcheck_c 1 (1 + m % 255) 0 0 0 0 0 0 0 false w
  rw [show oErr 1 (1 + m % 255, 0) (0, 0) (0, 0) (0, 0) false = 2 by unfold oErr; rw [hb]; rfl] at c5
  have c6 := fun w => frefs_c 1 (1 + m % 255) 0 0 0 0 0 0 0 false w
  exact wrong_6 n a1 a2 a3 a4 b1 b2 b3 b4 what m (m % 255) (m % 4) (max N 1) N A.1 A.2 B.1 B.2 C.1 C.2 D.1 D.2 h w hE m0 m1 hw t1 (Int.emod_nonneg _ (by decide)) (Int.emod_lt_of_pos _ (by decide)) t2 (Int.emod_nonneg _ (by decide)) (Int.emod_lt_of_pos _ (by decide)) c1 c2 c3 c4 c5 c6
    (fun s g w hx => by
      have c := fset_c N A B C D h (-1) (s, g) w
      rw [set_wrong (-1) (rWrong_of (by omega) (by omega))] at c
      exact c)
    (fun w => new_bad (not_ok (fun hx => by have := (oOk_iff.1 hx).1; omega)) w)
    (fun w => new_bad (not_ok (fun hx => by have := (oOk_iff.1 hx).1; omega)) w)
    (fun w => new_bad (not_ok (fun hx => by have := (oOk_iff.1 hx).2.1 rfl; omega)) w)
theorem wrong_walk (n a1 a2 a3 a4 b1 b2 b3 b4 what m : Int) (w : World) (hE : EnvP w) (n0 : 0 ≤ n) (n1 : n ≤ 255) (u0 : 0 ≤ a1) (v0 : a1 ≤ 255) (u1 : 0 ≤ a2) (v1 : a2 ≤ 255) (u2 : 0 ≤ a3) (v2 : a3 ≤ 255) (u3 : 0 ≤ a4) (v3 : a4 ≤ 255)
    (p0 : 0 ≤ b1) (q0 : b1 ≤ 4294967295) (p1 : 0 ≤ b2) (q1 : b2 ≤ 4294967295) (p2 : 0 ≤ b3) (q2 : b3 ≤ 4294967295) (p3 : 0 ≤ b4) (q3 : b4 ≤ 4294967295) (w0 : 0 ≤ what) (w1 : what ≤ 255) (m0 : 0 ≤ m) (m1 : m ≤ 65535) :
    Ret 10 #[.int .u8 n, .agg #[.int .u8 a1, .int .u8 a2, .int .u8 a3, .int .u8 a4], .agg #[.int .u32 b1, .int .u32 b2, .int .u32 b3, .int .u32 b4], .int .u8 what, .int .u16 m] w (.bool true) := by
  obtain ⟨N, A, B, C, D, h, ho, c1⟩ := made_c n a1 a2 a3 a4 b1 b2 b3 b4 n0 n1 u0 v0 u1 v1 u2 v2 u3 v3 p0 q0 p1 q1 p2 q2 p3 q3
  have ht : Int.tmod what 7 = what % 7 := Int.tmod_eq_emod_of_nonneg w0
  rcases (by omega : what % 7 = 0 ∨ what % 7 = 1 ∨ what % 7 = 2 ∨ what % 7 = 3 ∨ what % 7 = 4 ∨ what % 7 = 5 ∨ what % 7 = 6) with hw | hw | hw | hw | hw | hw | hw
  · exact wrong_in0 n a1 a2 a3 a4 b1 b2 b3 b4 what m N A B C D h w hE m0 m1 (ht.trans hw) ho c1
  · exact wrong_in1 n a1 a2 a3 a4 b1 b2 b3 b4 what m N A B C D h w hE m0 m1 (ht.trans hw) ho c1
  · exact wrong_in2 n a1 a2 a3 a4 b1 b2 b3 b4 what m N A B C D h w hE m0 m1 (ht.trans hw) ho c1
  · exact wrong_in3 n a1 a2 a3 a4 b1 b2 b3 b4 what m N A B C D h w hE m0 m1 (ht.trans hw) ho c1
  · exact wrong_in4 n a1 a2 a3 a4 b1 b2 b3 b4 what m N A B C D h w hE m0 m1 (ht.trans hw) ho c1
  · exact wrong_in5 n a1 a2 a3 a4 b1 b2 b3 b4 what m N A B C D h w hE m0 m1 (ht.trans hw) ho c1
  · exact wrong_in6 n a1 a2 a3 a4 b1 b2 b3 b4 what m N A B C D h w hE m0 m1 (ht.trans hw) ho c1
end Go.Proofs.YtpegkcmomkdoeaaDoor
