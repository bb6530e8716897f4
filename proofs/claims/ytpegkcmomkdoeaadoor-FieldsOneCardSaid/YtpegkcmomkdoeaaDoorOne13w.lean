/- FieldsOne: its walk (NOT BUILT YET). -/
import Derived.Test.YtpegkcmomkdoeaaDoorOne13
import Derived.Test.YtpegkcmomkdoeaaDoorOne13n1a
import Derived.Test.YtpegkcmomkdoeaaDoorOne13n2a
import Derived.Test.YtpegkcmomkdoeaaDoorOne13n2b
import Derived.Test.YtpegkcmomkdoeaaDoorOne13n3a
import Derived.Test.YtpegkcmomkdoeaaDoorOne13n3b
import Derived.Test.YtpegkcmomkdoeaaDoorOne13n3c
import Derived.Test.YtpegkcmomkdoeaaDoorOne13n4a
import Derived.Test.YtpegkcmomkdoeaaDoorOne13n4b
import Derived.Test.YtpegkcmomkdoeaaDoorOne13n4c
import Derived.Test.YtpegkcmomkdoeaaDoorOne13n4d
import Derived.Test.YtpegkcmomkdoeaaDoorMade13
namespace Go.Proofs.YtpegkcmomkdoeaaDoor
open Go.RowKit
set_option linter.unusedVariables false
set_option linter.unusedSimpArgs false

/-- What is laid ahead: the object is possible, the reference fits. -/
theorem set_in (n : Int) (a b c d : Rf) (h : Bool) (i : Int) (r : Rf) (ho : oOk n a b c d h = true) (hr : rWrong r = false) (hi : 0 ≤ i ∧ i < n) : setO n a b c d h i r = ⟨n, putF i 0 a r, putF i 1 b r, putF i 2 c r, putF i 3 d r, h, oldF i a b c d, 0⟩ := by
  unfold setO inR
  rw [ho, hr, decide_eq_true hi]
  rfl
theorem set_out (n : Int) (a b c d : Rf) (h : Bool) (i : Int) (r : Rf) (ho : oOk n a b c d h = true) (hr : rWrong r = false) (hi : ¬ (0 ≤ i ∧ i < n)) : setO n a b c d h i r = ⟨0, (0, 0), (0, 0), (0, 0), (0, 0), false, (0, 0), 3⟩ := by
  unfold setO inR
  rw [ho, hr, decide_eq_false hi]
  rfl
theorem get_in (n : Int) (a b c d : Rf) (h : Bool) (i : Int) (ho : oOk n a b c d h = true) (hi : 0 ≤ i ∧ i < n) : getO n a b c d h i = (oldF i a b c d, 0) := by
  unfold getO inR
  rw [if_pos ho, decide_eq_true hi]
  rfl
theorem fit_wrong {r : Rf} (h : rFit r = true) : rWrong r = false := by
  rcases rFit_cases h with rfl | ⟨_, h⟩
  · decide
  · unfold rWrong; rw [h]; simp
-- printed from here (py/one13w.py)
theorem one_in1_0 (n s g a1 a2 a3 a4 b1 b2 b3 b4 : Int) (A B C D R : Rf) (w : World) (hE : EnvP w) (ho : oOk 1 A B C D false = true) (hf : rFit R = true)
    (c1 : ∀ w, Ret 27 #[.int .u8 n, .agg #[.int .u8 a1, .int .u8 a2, .int .u8 a3, .int .u8 a4], .agg #[.int .u32 b1, .int .u32 b2, .int .u32 b3, .int .u32 b4]] w (obR 1 A B C D false)) (c2 : ∀ w, Ret 28 #[.int .u8 s, .int .u32 g] w (rfV R)) :
    Ret 6 #[.int .u8 n, .agg #[.int .u8 a1, .int .u8 a2, .int .u8 a3, .int .u8 a4], .agg #[.int .u32 b1, .int .u32 b2, .int .u32 b3, .int .u32 b4], .int .i64 0, .int .u8 s, .int .u32 g] w (.bool true) := by
  obtain ⟨-, -, f0, f1, f2, f3⟩ := oOk_iff.1 ho
  have hx : oOk 1 R B C D false = true := oOk_iff.2 ⟨by omega, by simp, fOk_of hf (by omega), f1, f2, f3⟩
  have ho2 : rFit A = true := fOk_fit f0
  have c3 : ∀ w, _ := fun w => fset_c 1 A B C D false 0 R w
  rw [set_in 1 A B C D false 0 R ho (fit_wrong hf) (by omega)] at c3
  have c5 : ∀ w, _ := fun w => fset_c 1 R B C D false 0 A w
  rw [set_in 1 R B C D false 0 A hx (fit_wrong ho2) (by omega)] at c5
  have c6 : ∀ w, _ := fun w => fcheck_c 1 R.1 R.2 B.1 B.2 C.1 C.2 D.1 D.2 false w
  rw [show oErr 1 (R.1, R.2) (B.1, B.2) (C.1, C.2) (D.1, D.2) false = 0 by unfold oErr; rw [if_pos hx]] at c6
  have d0 : ∀ w, _ := fun w => fget_c 1 R B C D false 0 w
  rw [get_in 1 R B C D false 0 hx (by omega)] at d0
  exact one_1_0 n s g a1 a2 a3 a4 b1 b2 b3 b4 A.1 A.2 B.1 B.2 C.1 C.2 D.1 D.2 R.1 R.2 w hE c1 c2 c3 d0 c5 c6
theorem one_in2_0 (n s g a1 a2 a3 a4 b1 b2 b3 b4 : Int) (A B C D R : Rf) (w : World) (hE : EnvP w) (ho : oOk 2 A B C D false = true) (hf : rFit R = true)
    (c1 : ∀ w, Ret 27 #[.int .u8 n, .agg #[.int .u8 a1, .int .u8 a2, .int .u8 a3, .int .u8 a4], .agg #[.int .u32 b1, .int .u32 b2, .int .u32 b3, .int .u32 b4]] w (obR 2 A B C D false)) (c2 : ∀ w, Ret 28 #[.int .u8 s, .int .u32 g] w (rfV R)) :
    Ret 6 #[.int .u8 n, .agg #[.int .u8 a1, .int .u8 a2, .int .u8 a3, .int .u8 a4], .agg #[.int .u32 b1, .int .u32 b2, .int .u32 b3, .int .u32 b4], .int .i64 0, .int .u8 s, .int .u32 g] w (.bool true) := by
  obtain ⟨-, -, f0, f1, f2, f3⟩ := oOk_iff.1 ho
  have hx : oOk 2 R B C D false = true := oOk_iff.2 ⟨by omega, by simp, fOk_of hf (by omega), f1, f2, f3⟩
  have ho2 : rFit A = true := fOk_fit f0
  have c3 : ∀ w, _ := fun w => fset_c 2 A B C D false 0 R w
  rw [set_in 2 A B C D false 0 R ho (fit_wrong hf) (by omega)] at c3
  have c5 : ∀ w, _ := fun w => fset_c 2 R B C D false 0 A w
  rw [set_in 2 R B C D false 0 A hx (fit_wrong ho2) (by omega)] at c5
  have c6 : ∀ w, _ := fun w => fcheck_c 2 R.1 R.2 B.1 B.2 C.1 C.2 D.1 D.2 false w
  rw [show oErr 2 (R.1, R.2) (B.1, B.2) (C.1, C.2) (D.1, D.2) false = 0 by unfold oErr; rw [if_pos hx]] at c6
  have d0 : ∀ w, _ := fun w => fget_c 2 R B C D false 0 w
  rw [get_in 2 R B C D false 0 hx (by omega)] at d0
  have d1 : ∀ w, _ := fun w => fget_c 2 R B C D false 1 w
  rw [get_in 2 R B C D false 1 hx (by omega)] at d1
  exact one_2_0 n s g a1 a2 a3 a4 b1 b2 b3 b4 A.1 A.2 B.1 B.2 C.1 C.2 D.1 D.2 R.1 R.2 w hE c1 c2 c3 d0 d1 c5 c6
theorem one_in2_1 (n s g a1 a2 a3 a4 b1 b2 b3 b4 : Int) (A B C D R : Rf) (w : World) (hE : EnvP w) (ho : oOk 2 A B C D false = true) (hf : rFit R = true)
    (c1 : ∀ w, Ret 27 #[.int .u8 n, .agg #[.int .u8 a1, .int .u8 a2, .int .u8 a3, .int .u8 a4], .agg #[.int .u32 b1, .int .u32 b2, .int .u32 b3, .int .u32 b4]] w (obR 2 A B C D false)) (c2 : ∀ w, Ret 28 #[.int .u8 s, .int .u32 g] w (rfV R)) :
    Ret 6 #[.int .u8 n, .agg #[.int .u8 a1, .int .u8 a2, .int .u8 a3, .int .u8 a4], .agg #[.int .u32 b1, .int .u32 b2, .int .u32 b3, .int .u32 b4], .int .i64 1, .int .u8 s, .int .u32 g] w (.bool true) := by
  obtain ⟨-, -, f0, f1, f2, f3⟩ := oOk_iff.1 ho
  have hx : oOk 2 A R C D false = true := oOk_iff.2 ⟨by omega, by simp, f0, fOk_of hf (by omega), f2, f3⟩
  have ho2 : rFit B = true := fOk_fit f1
  have c3 : ∀ w, _ := fun w => fset_c 2 A B C D false 1 R w
  rw [set_in 2 A B C D false 1 R ho (fit_wrong hf) (by omega)] at c3
  have c5 : ∀ w, _ := fun w => fset_c 2 A R C D false 1 B w
  rw [set_in 2 A R C D false 1 B hx (fit_wrong ho2) (by omega)] at c5
  have c6 : ∀ w, _ := fun w => fcheck_c 2 A.1 A.2 R.1 R.2 C.1 C.2 D.1 D.2 false w
  rw [show oErr 2 (A.1, A.2) (R.1, R.2) (C.1, C.2) (D.1, D.2) false = 0 by unfold oErr; rw [if_pos hx]] at c6
  have d0 : ∀ w, _ := fun w => fget_c 2 A R C D false 0 w
  rw [get_in 2 A R C D false 0 hx (by omega)] at d0
  have d1 : ∀ w, _ := fun w => fget_c 2 A R C D false 1 w
  rw [get_in 2 A R C D false 1 hx (by omega)] at d1
  exact one_2_1 n s g a1 a2 a3 a4 b1 b2 b3 b4 A.1 A.2 B.1 B.2 C.1 C.2 D.1 D.2 R.1 R.2 w hE c1 c2 c3 d0 d1 c5 c6
theorem one_in3_0 (n s g a1 a2 a3 a4 b1 b2 b3 b4 : Int) (A B C D R : Rf) (w : World) (hE : EnvP w) (ho : oOk 3 A B C D false = true) (hf : rFit R = true)
    (c1 : ∀ w, Ret 27 #[.int .u8 n, .agg #[.int .u8 a1, .int .u8 a2, .int .u8 a3, .int .u8 a4], .agg #[.int .u32 b1, .int .u32 b2, .int .u32 b3, .int .u32 b4]] w (obR 3 A B C D false)) (c2 : ∀ w, Ret 28 #[.int .u8 s, .int .u32 g] w (rfV R)) :
    Ret 6 #[.int .u8 n, .agg #[.int .u8 a1, .int .u8 a2, .int .u8 a3, .int .u8 a4], .agg #[.int .u32 b1, .int .u32 b2, .int .u32 b3, .int .u32 b4], .int .i64 0, .int .u8 s, .int .u32 g] w (.bool true) := by
  obtain ⟨-, -, f0, f1, f2, f3⟩ := oOk_iff.1 ho
  have hx : oOk 3 R B C D false = true := oOk_iff.2 ⟨by omega, by simp, fOk_of hf (by omega), f1, f2, f3⟩
  have ho2 : rFit A = true := fOk_fit f0
  have c3 : ∀ w, _ := fun w => fset_c 3 A B C D false 0 R w
  rw [set_in 3 A B C D false 0 R ho (fit_wrong hf) (by omega)] at c3
  have c5 : ∀ w, _ := fun w => fset_c 3 R B C D false 0 A w
  rw [set_in 3 R B C D false 0 A hx (fit_wrong ho2) (by omega)] at c5
  have c6 : ∀ w, _ := fun w => fcheck_c 3 R.1 R.2 B.1 B.2 C.1 C.2 D.1 D.2 false w
  rw [show oErr 3 (R.1, R.2) (B.1, B.2) (C.1, C.2) (D.1, D.2) false = 0 by unfold oErr; rw [if_pos hx]] at c6
  have d0 : ∀ w, _ := fun w => fget_c 3 R B C D false 0 w
  rw [get_in 3 R B C D false 0 hx (by omega)] at d0
  have d1 : ∀ w, _ := fun w => fget_c 3 R B C D false 1 w
  rw [get_in 3 R B C D false 1 hx (by omega)] at d1
  have d2 : ∀ w, _ := fun w => fget_c 3 R B C D false 2 w
  rw [get_in 3 R B C D false 2 hx (by omega)] at d2
  exact one_3_0 n s g a1 a2 a3 a4 b1 b2 b3 b4 A.1 A.2 B.1 B.2 C.1 C.2 D.1 D.2 R.1 R.2 w hE c1 c2 c3 d0 d1 d2 c5 c6
theorem one_in3_1 (n s g a1 a2 a3 a4 b1 b2 b3 b4 : Int) (A B C D R : Rf) (w : World) (hE : EnvP w) (ho : oOk 3 A B C D false = true) (hf : rFit R = true)
    (c1 : ∀ w, Ret 27 #[.int .u8 n, .agg #[.int .u8 a1, .int .u8 a2, .int .u8 a3, .int .u8 a4], .agg #[.int .u32 b1, .int .u32 b2, .int .u32 b3, .int .u32 b4]] w (obR 3 A B C D false)) (c2 : ∀ w, Ret 28 #[.int .u8 s, .int .u32 g] w (rfV R)) :
    Ret 6 #[.int .u8 n, .agg #[.int .u8 a1, .int .u8 a2, .int .u8 a3, .int .u8 a4], .agg #[.int .u32 b1, .int .u32 b2, .int .u32 b3, .int .u32 b4], .int .i64 1, .int .u8 s, .int .u32 g] w (.bool true) := by
  obtain ⟨-, -, f0, f1, f2, f3⟩ := oOk_iff.1 ho
  have hx : oOk 3 A R C D false = true := oOk_iff.2 ⟨by omega, by simp, f0, fOk_of hf (by omega), f2, f3⟩
  have ho2 : rFit B = true := fOk_fit f1
  have c3 : ∀ w, _ := fun w => fset_c 3 A B C D false 1 R w
  rw [set_in 3 A B C D false 1 R ho (fit_wrong hf) (by omega)] at c3
  have c5 : ∀ w, _ := fun w => fset_c 3 A R C D false 1 B w
  rw [set_in 3 A R C D false 1 B hx (fit_wrong ho2) (by omega)] at c5
  have c6 : ∀ w, _ := fun w => fcheck_c 3 A.1 A.2 R.1 R.2 C.1 C.2 D.1 D.2 false w
  rw [show oErr 3 (A.1, A.2) (R.1, R.2) (C.1, C.2) (D.1, D.2) false = 0 by unfold oErr; rw [if_pos hx]] at c6
  have d0 : ∀ w, _ := fun w => fget_c 3 A R C D false 0 w
  rw [get_in 3 A R C D false 0 hx (by omega)] at d0
  have d1 : ∀ w, _ := fun w => fget_c 3 A R C D false 1 w
  rw [get_in 3 A R C D false 1 hx (by omega)] at d1
  have d2 : ∀ w, _ := fun w => fget_c 3 A R C D false 2 w
  rw [get_in 3 A R C D false 2 hx (by omega)] at d2
  exact one_3_1 n s g a1 a2 a3 a4 b1 b2 b3 b4 A.1 A.2 B.1 B.2 C.1 C.2 D.1 D.2 R.1 R.2 w hE c1 c2 c3 d0 d1 d2 c5 c6
theorem one_in3_2 (n s g a1 a2 a3 a4 b1 b2 b3 b4 : Int) (A B C D R : Rf) (w : World) (hE : EnvP w) (ho : oOk 3 A B C D false = true) (hf : rFit R = true)
    (c1 : ∀ w, Ret 27 #[.int .u8 n, .agg #[.int .u8 a1, .int .u8 a2, .int .u8 a3, .int .u8 a4], .agg #[.int .u32 b1, .int .u32 b2, .int .u32 b3, .int .u32 b4]] w (obR 3 A B C D false)) (c2 : ∀ w, Ret 28 #[.int .u8 s, .int .u32 g] w (rfV R)) :
    Ret 6 #[.int .u8 n, .agg #[.int .u8 a1, .int .u8 a2, .int .u8 a3, .int .u8 a4], .agg #[.int .u32 b1, .int .u32 b2, .int .u32 b3, .int .u32 b4], .int .i64 2, .int .u8 s, .int .u32 g] w (.bool true) := by
  obtain ⟨-, -, f0, f1, f2, f3⟩ := oOk_iff.1 ho
  have hx : oOk 3 A B R D false = true := oOk_iff.2 ⟨by omega, by simp, f0, f1, fOk_of hf (by omega), f3⟩
  have ho2 : rFit C = true := fOk_fit f2
  have c3 : ∀ w, _ := fun w => fset_c 3 A B C D false 2 R w
  rw [set_in 3 A B C D false 2 R ho (fit_wrong hf) (by omega)] at c3
  have c5 : ∀ w, _ := fun w => fset_c 3 A B R D false 2 C w
  rw [set_in 3 A B R D false 2 C hx (fit_wrong ho2) (by omega)] at c5
  have c6 : ∀ w, _ := fun w => fcheck_c 3 A.1 A.2 B.1 B.2 R.1 R.2 D.1 D.2 false w
  rw [show oErr 3 (A.1, A.2) (B.1, B.2) (R.1, R.2) (D.1, D.2) false = 0 by unfold oErr; rw [if_pos hx]] at c6
  have d0 : ∀ w, _ := fun w => fget_c 3 A B R D false 0 w
  rw [get_in 3 A B R D false 0 hx (by omega)] at d0
  have d1 : ∀ w, _ := fun w => fget_c 3 A B R D false 1 w
  rw [get_in 3 A B R D false 1 hx (by omega)] at d1
  have d2 : ∀ w, _ := fun w => fget_c 3 A B R D false 2 w
  rw [get_in 3 A B R D false 2 hx (by omega)] at d2
  exact one_3_2 n s g a1 a2 a3 a4 b1 b2 b3 b4 A.1 A.2 B.1 B.2 C.1 C.2 D.1 D.2 R.1 R.2 w hE c1 c2 c3 d0 d1 d2 c5 c6
theorem one_in4_0 (n s g a1 a2 a3 a4 b1 b2 b3 b4 : Int) (A B C D R : Rf) (w : World) (hE : EnvP w) (ho : oOk 4 A B C D false = true) (hf : rFit R = true)
    (c1 : ∀ w, Ret 27 #[.int .u8 n, .agg #[.int .u8 a1, .int .u8 a2, .int .u8 a3, .int .u8 a4], .agg #[.int .u32 b1, .int .u32 b2, .int .u32 b3, .int .u32 b4]] w (obR 4 A B C D false)) (c2 : ∀ w, Ret 28 #[.int .u8 s, .int .u32 g] w (rfV R)) :
    Ret 6 #[.int .u8 n, .agg #[.int .u8 a1, .int .u8 a2, .int .u8 a3, .int .u8 a4], .agg #[.int .u32 b1, .int .u32 b2, .int .u32 b3, .int .u32 b4], .int .i64 0, .int .u8 s, .int .u32 g] w (.bool true) := by
  obtain ⟨-, -, f0, f1, f2, f3⟩ := oOk_iff.1 ho
  have hx : oOk 4 R B C D false = true := oOk_iff.2 ⟨by omega, by simp, fOk_of hf (by omega), f1, f2, f3⟩
  have ho2 : rFit A = true := fOk_fit f0
  have c3 : ∀ w, _ := fun w => fset_c 4 A B C D false 0 R w
  rw [set_in 4 A B C D false 0 R ho (fit_wrong hf) (by omega)] at c3
  have c5 : ∀ w, _ := fun w => fset_c 4 R B C D false 0 A w
  rw [set_in 4 R B C D false 0 A hx (fit_wrong ho2) (by omega)] at c5
  have c6 : ∀ w, _ := fun w => fcheck_c 4 R.1 R.2 B.1 B.2 C.1 C.2 D.1 D.2 false w
  rw [show oErr 4 (R.1, R.2) (B.1, B.2) (C.1, C.2) (D.1, D.2) false = 0 by unfold oErr; rw [if_pos hx]] at c6
  have d0 : ∀ w, _ := fun w => fget_c 4 R B C D false 0 w
  rw [get_in 4 R B C D false 0 hx (by omega)] at d0
  have d1 : ∀ w, _ := fun w => fget_c 4 R B C D false 1 w
  rw [get_in 4 R B C D false 1 hx (by omega)] at d1
  have d2 : ∀ w, _ := fun w => fget_c 4 R B C D false 2 w
  rw [get_in 4 R B C D false 2 hx (by omega)] at d2
  have d3 : ∀ w, _ := fun w => fget_c 4 R B C D false 3 w
  rw [get_in 4 R B C D false 3 hx (by omega)] at d3
  exact one_4_0 n s g a1 a2 a3 a4 b1 b2 b3 b4 A.1 A.2 B.1 B.2 C.1 C.2 D.1 D.2 R.1 R.2 w hE c1 c2 c3 d0 d1 d2 d3 c5 c6
theorem one_in4_1 (n s g a1 a2 a3 a4 b1 b2 b3 b4 : Int) (A B C D R : Rf) (w : World) (hE : EnvP w) (ho : oOk 4 A B C D false = true) (hf : rFit R = true)
    (c1 : ∀ w, Ret 27 #[.int .u8 n, .agg #[.int .u8 a1, .int .u8 a2, .int .u8 a3, .int .u8 a4], .agg #[.int .u32 b1, .int .u32 b2, .int .u32 b3, .int .u32 b4]] w (obR 4 A B C D false)) (c2 : ∀ w, Ret 28 #[.int .u8 s, .int .u32 g] w (rfV R)) :
    Ret 6 #[.int .u8 n, .agg #[.int .u8 a1, .int .u8 a2, .int .u8 a3, .int .u8 a4], .agg #[.int .u32 b1, .int .u32 b2, .int .u32 b3, .int .u32 b4], .int .i64 1, .int .u8 s, .int .u32 g] w (.bool true) := by
  obtain ⟨-, -, f0, f1, f2, f3⟩ := oOk_iff.1 ho
  have hx : oOk 4 A R C D false = true := oOk_iff.2 ⟨by omega, by simp, f0, fOk_of hf (by omega), f2, f3⟩
  have ho2 : rFit B = true := fOk_fit f1
  have c3 : ∀ w, _ := fun w => fset_c 4 A B C D false 1 R w
  rw [set_in 4 A B C D false 1 R ho (fit_wrong hf) (by omega)] at c3
  have c5 : ∀ w, _ := fun w => fset_c 4 A R C D false 1 B w
  rw [set_in 4 A R C D false 1 B hx (fit_wrong ho2) (by omega)] at c5
  have c6 : ∀ w, _ := fun w => fcheck_c 4 A.1 A.2 R.1 R.2 C.1 C.2 D.1 D.2 false w
  rw [show oErr 4 (A.1, A.2) (R.1, R.2) (C.1, C.2) (D.1, D.2) false = 0 by unfold oErr; rw [if_pos hx]] at c6
  have d0 : ∀ w, _ := fun w => fget_c 4 A R C D false 0 w
  rw [get_in 4 A R C D false 0 hx (by omega)] at d0
  have d1 : ∀ w, _ := fun w => fget_c 4 A R C D false 1 w
  rw [get_in 4 A R C D false 1 hx (by omega)] at d1
  have d2 : ∀ w, _ := fun w => fget_c 4 A R C D false 2 w
  rw [get_in 4 A R C D false 2 hx (by omega)] at d2
  have d3 : ∀ w, _ := fun w => fget_c 4 A R C D false 3 w
  rw [get_in 4 A R C D false 3 hx (by omega)] at d3
  exact one_4_1 n s g a1 a2 a3 a4 b1 b2 b3 b4 A.1 A.2 B.1 B.2 C.1 C.2 D.1 D.2 R.1 R.2 w hE c1 c2 c3 d0 d1 d2 d3 c5 c6
theorem one_in4_2 (n s g a1 a2 a3 a4 b1 b2 b3 b4 : Int) (A B C D R : Rf) (w : World) (hE : EnvP w) (ho : oOk 4 A B C D false = true) (hf : rFit R = true)
    (c1 : ∀ w, Ret 27 #[.int .u8 n, .agg #[.int .u8 a1, .int .u8 a2, .int .u8 a3, .int .u8 a4], .agg #[.int .u32 b1, .int .u32 b2, .int .u32 b3, .int .u32 b4]] w (obR 4 A B C D false)) (c2 : ∀ w, Ret 28 #[.int .u8 s, .int .u32 g] w (rfV R)) :
    Ret 6 #[.int .u8 n, .agg #[.int .u8 a1, .int .u8 a2, .int .u8 a3, .int .u8 a4], .agg #[.int .u32 b1, .int .u32 b2, .int .u32 b3, .int .u32 b4], .int .i64 2, .int .u8 s, .int .u32 g] w (.bool true) := by
  obtain ⟨-, -, f0, f1, f2, f3⟩ := oOk_iff.1 ho
  have hx : oOk 4 A B R D false = true := oOk_iff.2 ⟨by omega, by simp, f0, f1, fOk_of hf (by omega), f3⟩
  have ho2 : rFit C = true := fOk_fit f2
  have c3 : ∀ w, _ := fun w => fset_c 4 A B C D false 2 R w
  rw [set_in 4 A B C D false 2 R ho (fit_wrong hf) (by omega)] at c3
  have c5 : ∀ w, _ := fun w => fset_c 4 A B R D false 2 C w
  rw [set_in 4 A B R D false 2 C hx (fit_wrong ho2) (by omega)] at c5
  have c6 : ∀ w, _ := fun w => fcheck_c 4 A.1 A.2 B.1 B.2 R.1 R.2 D.1 D.2 false w
  rw [show oErr 4 (A.1, A.2) (B.1, B.2) (R.1, R.2) (D.1, D.2) false = 0 by unfold oErr; rw [if_pos hx]] at c6
  have d0 : ∀ w, _ := fun w => fget_c 4 A B R D false 0 w
  rw [get_in 4 A B R D false 0 hx (by omega)] at d0
  have d1 : ∀ w, _ := fun w => fget_c 4 A B R D false 1 w
  rw [get_in 4 A B R D false 1 hx (by omega)] at d1
  have d2 : ∀ w, _ := fun w => fget_c 4 A B R D false 2 w
  rw [get_in 4 A B R D false 2 hx (by omega)] at d2
  have d3 : ∀ w, _ := fun w => fget_c 4 A B R D false 3 w
  rw [get_in 4 A B R D false 3 hx (by omega)] at d3
  exact one_4_2 n s g a1 a2 a3 a4 b1 b2 b3 b4 A.1 A.2 B.1 B.2 C.1 C.2 D.1 D.2 R.1 R.2 w hE c1 c2 c3 d0 d1 d2 d3 c5 c6
theorem one_in4_3 (n s g a1 a2 a3 a4 b1 b2 b3 b4 : Int) (A B C D R : Rf) (w : World) (hE : EnvP w) (ho : oOk 4 A B C D false = true) (hf : rFit R = true)
    (c1 : ∀ w, Ret 27 #[.int .u8 n, .agg #[.int .u8 a1, .int .u8 a2, .int .u8 a3, .int .u8 a4], .agg #[.int .u32 b1, .int .u32 b2, .int .u32 b3, .int .u32 b4]] w (obR 4 A B C D false)) (c2 : ∀ w, Ret 28 #[.int .u8 s, .int .u32 g] w (rfV R)) :
    Ret 6 #[.int .u8 n, .agg #[.int .u8 a1, .int .u8 a2, .int .u8 a3, .int .u8 a4], .agg #[.int .u32 b1, .int .u32 b2, .int .u32 b3, .int .u32 b4], .int .i64 3, .int .u8 s, .int .u32 g] w (.bool true) := by
  obtain ⟨-, -, f0, f1, f2, f3⟩ := oOk_iff.1 ho
  have hx : oOk 4 A B C R false = true := oOk_iff.2 ⟨by omega, by simp, f0, f1, f2, fOk_of hf (by omega)⟩
  have ho2 : rFit D = true := fOk_fit f3
  have c3 : ∀ w, _ := fun w => fset_c 4 A B C D false 3 R w
  rw [set_in 4 A B C D false 3 R ho (fit_wrong hf) (by omega)] at c3
  have c5 : ∀ w, _ := fun w => fset_c 4 A B C R false 3 D w
  rw [set_in 4 A B C R false 3 D hx (fit_wrong ho2) (by omega)] at c5
  have c6 : ∀ w, _ := fun w => fcheck_c 4 A.1 A.2 B.1 B.2 C.1 C.2 R.1 R.2 false w
  rw [show oErr 4 (A.1, A.2) (B.1, B.2) (C.1, C.2) (R.1, R.2) false = 0 by unfold oErr; rw [if_pos hx]] at c6
  have d0 : ∀ w, _ := fun w => fget_c 4 A B C R false 0 w
  rw [get_in 4 A B C R false 0 hx (by omega)] at d0
  have d1 : ∀ w, _ := fun w => fget_c 4 A B C R false 1 w
  rw [get_in 4 A B C R false 1 hx (by omega)] at d1
  have d2 : ∀ w, _ := fun w => fget_c 4 A B C R false 2 w
  rw [get_in 4 A B C R false 2 hx (by omega)] at d2
  have d3 : ∀ w, _ := fun w => fget_c 4 A B C R false 3 w
  rw [get_in 4 A B C R false 3 hx (by omega)] at d3
  exact one_4_3 n s g a1 a2 a3 a4 b1 b2 b3 b4 A.1 A.2 B.1 B.2 C.1 C.2 D.1 D.2 R.1 R.2 w hE c1 c2 c3 d0 d1 d2 d3 c5 c6
theorem one_walk (n a1 a2 a3 a4 b1 b2 b3 b4 i s g : Int) (w : World) (hE : EnvP w) (n0 : 0 ≤ n) (n1 : n ≤ 255) (u0 : 0 ≤ a1) (v0 : a1 ≤ 255) (u1 : 0 ≤ a2) (v1 : a2 ≤ 255) (u2 : 0 ≤ a3) (v2 : a3 ≤ 255) (u3 : 0 ≤ a4) (v3 : a4 ≤ 255)
    (p0 : 0 ≤ b1) (q0 : b1 ≤ 4294967295) (p1 : 0 ≤ b2) (q1 : b2 ≤ 4294967295) (p2 : 0 ≤ b3) (q2 : b3 ≤ 4294967295) (p3 : 0 ≤ b4) (q3 : b4 ≤ 4294967295) (s0 : 0 ≤ s) (s1 : s ≤ 255) (g0 : 0 ≤ g) (g1 : g ≤ 4294967295) :
    Ret 6 #[.int .u8 n, .agg #[.int .u8 a1, .int .u8 a2, .int .u8 a3, .int .u8 a4], .agg #[.int .u32 b1, .int .u32 b2, .int .u32 b3, .int .u32 b4], .int .i64 i, .int .u8 s, .int .u32 g] w (.bool true) := by
  obtain ⟨N, A, B, C, D, h, ho, c1⟩ := made_c n a1 a2 a3 a4 b1 b2 b3 b4 n0 n1 u0 v0 u1 v1 u2 v2 u3 v3 p0 q0 p1 q1 p2 q2 p3 q3
  have c2 := fun w => lref_c s g w s0 s1
  have hf := lrf_fit s g s0 s1 g0 g1
  generalize lrf s g = R at c2 hf
  by_cases hi : 0 ≤ i ∧ i < N
  · obtain ⟨⟨m0, m1⟩, mh, -⟩ := oOk_iff.1 ho
    have hh : h = false := by
      cases h with
      | false => rfl
      | true => have := mh rfl; omega
    subst hh
    rcases (by omega : N = 1 ∨ N = 2 ∨ N = 3 ∨ N = 4) with rfl | rfl | rfl | rfl
    · rcases (by omega : i = 0) with rfl
      · exact one_in1_0 n s g a1 a2 a3 a4 b1 b2 b3 b4 A B C D R w hE ho hf c1 c2
    · rcases (by omega : i = 0 ∨ i = 1) with rfl | rfl
      · exact one_in2_0 n s g a1 a2 a3 a4 b1 b2 b3 b4 A B C D R w hE ho hf c1 c2
      · exact one_in2_1 n s g a1 a2 a3 a4 b1 b2 b3 b4 A B C D R w hE ho hf c1 c2
    · rcases (by omega : i = 0 ∨ i = 1 ∨ i = 2) with rfl | rfl | rfl
      · exact one_in3_0 n s g a1 a2 a3 a4 b1 b2 b3 b4 A B C D R w hE ho hf c1 c2
      · exact one_in3_1 n s g a1 a2 a3 a4 b1 b2 b3 b4 A B C D R w hE ho hf c1 c2
      · exact one_in3_2 n s g a1 a2 a3 a4 b1 b2 b3 b4 A B C D R w hE ho hf c1 c2
    · rcases (by omega : i = 0 ∨ i = 1 ∨ i = 2 ∨ i = 3) with rfl | rfl | rfl | rfl
      · exact one_in4_0 n s g a1 a2 a3 a4 b1 b2 b3 b4 A B C D R w hE ho hf c1 c2
      · exact one_in4_1 n s g a1 a2 a3 a4 b1 b2 b3 b4 A B C D R w hE ho hf c1 c2
      · exact one_in4_2 n s g a1 a2 a3 a4 b1 b2 b3 b4 A B C D R w hE ho hf c1 c2
      · exact one_in4_3 n s g a1 a2 a3 a4 b1 b2 b3 b4 A B C D R w hE ho hf c1 c2
  · have c3 : ∀ w, _ := fun w => fset_c N A B C D h i R w
    rw [set_out N A B C D h i R ho (fit_wrong hf) hi] at c3
    exact one_no n i s g (.bool true) (.bool true) a1 a2 a3 a4 b1 b2 b3 b4 N A.1 A.2 B.1 B.2 C.1 C.2 D.1 D.2 R.1 R.2 h w hE (by omega) c1 c2 c3
end Go.Proofs.YtpegkcmomkdoeaaDoor
