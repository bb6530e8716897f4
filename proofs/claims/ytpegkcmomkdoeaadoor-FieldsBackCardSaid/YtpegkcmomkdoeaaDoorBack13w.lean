/- FieldsBack: the walk for all numbers. -/
import Derived.Test.YtpegkcmomkdoeaaDoorBack13
namespace Go.Proofs.YtpegkcmomkdoeaaDoor
open Go.RowKit
set_option linter.unusedVariables false
set_option linter.unusedSimpArgs false
theorem rL_dash {r : Rf} (h : rFit r = true) : (((⟨(rL r).toArray⟩ : ByteArray).toList) == [45]) = rNone r := by
  rw [ByteArray.toList_eq]
  show ((rL r).toArray.toList == [45]) = _
  rw [List.toList_toArray]
  rcases rFit_cases h with rfl | ⟨h1, h2⟩
  · rw [rL_none, rNone_0]; rfl
  · rw [h1, beq_eq_false_iff_ne]
    intro e
    rw [rL_ok h2] at e
    have hm : (46 : UInt8) ∈ ([45] : List UInt8) := by rw [← e]; simp
    exact absurd hm (by decide)

theorem back_in0 (n a1 a2 a3 a4 b1 b2 b3 b4 : Int) (A B C D : Rf) (w : World) (hE : EnvP w) (ho : oOk 0 A B C D false = true)
    (c1 : ∀ w, Ret 27 #[.int .u8 n, .agg #[.int .u8 a1, .int .u8 a2, .int .u8 a3, .int .u8 a4], .agg #[.int .u32 b1, .int .u32 b2, .int .u32 b3, .int .u32 b4]] w (obR 0 A B C D false)) :
    Ret 7 #[.int .u8 n, .agg #[.int .u8 a1, .int .u8 a2, .int .u8 a3, .int .u8 a4], .agg #[.int .u32 b1, .int .u32 b2, .int .u32 b3, .int .u32 b4]] w (.bool true) := by
  obtain ⟨-, -, f0, f1, f2, f3⟩ := oOk_iff.1 ho
  have hl := oL_len ho
  have hi : IsO (oText 0 A B C D false).data.toList 0 A B C D false := ⟨ho, oText_list _ _ _ _ _ _⟩
  have c2 := fun w hE => ftext_c 0 A B C D false w hE
  rw [if_pos ho] at c2
  have hsz : (oText 0 A B C D false).size ≤ 100000 := by rw [← len_bytes, oText_list]; omega
  have c3 := fun w hE => fparse_c (oText 0 A B C D false) hsz w hE
  rw [parV_is hi] at c3
  have c4 := fun w hE => splitF_c (oText 0 A B C D false) hsz w hE
  rw [oText_list, oL_cut] at c4
  have c5 := fun w => fcheck_c 0 A.1 A.2 B.1 B.2 C.1 C.2 D.1 D.2 false w
  rw [show oErr 0 (A.1, A.2) (B.1, B.2) (C.1, C.2) (D.1, D.2) false = 0 by unfold oErr; rw [if_pos ho]] at c5
  have hq := neq_objF 0 A B C D false 0 A B C D false
  rw [eqO_same] at hq
  exact back_0 n a1 a2 a3 a4 b1 b2 b3 b4 _ _ _ _ _ _ _ _ _ ⟨#[111, 98, 106, 101, 99, 116]⟩  w hE c1 c2 c3 c4 c5 hq (by rw [ByteArray.toList_eq]; decide) (by rw [ByteArray.toList_eq]; decide)

theorem back_in0h (n a1 a2 a3 a4 b1 b2 b3 b4 : Int) (A B C D : Rf) (w : World) (hE : EnvP w) (ho : oOk 0 A B C D true = true)
    (c1 : ∀ w, Ret 27 #[.int .u8 n, .agg #[.int .u8 a1, .int .u8 a2, .int .u8 a3, .int .u8 a4], .agg #[.int .u32 b1, .int .u32 b2, .int .u32 b3, .int .u32 b4]] w (obR 0 A B C D true)) :
    Ret 7 #[.int .u8 n, .agg #[.int .u8 a1, .int .u8 a2, .int .u8 a3, .int .u8 a4], .agg #[.int .u32 b1, .int .u32 b2, .int .u32 b3, .int .u32 b4]] w (.bool true) := by
  obtain ⟨-, -, f0, f1, f2, f3⟩ := oOk_iff.1 ho
  have hl := oL_len ho
  have hi : IsO (oText 0 A B C D true).data.toList 0 A B C D true := ⟨ho, oText_list _ _ _ _ _ _⟩
  have c2 := fun w hE => ftext_c 0 A B C D true w hE
  rw [if_pos ho] at c2
  have hsz : (oText 0 A B C D true).size ≤ 100000 := by rw [← len_bytes, oText_list]; omega
  have c3 := fun w hE => fparse_c (oText 0 A B C D true) hsz w hE
  rw [parV_is hi] at c3
  have c4 := fun w hE => splitF_c (oText 0 A B C D true) hsz w hE
  rw [oText_list, oL_cut] at c4
  have c5 := fun w => fcheck_c 0 A.1 A.2 B.1 B.2 C.1 C.2 D.1 D.2 true w
  rw [show oErr 0 (A.1, A.2) (B.1, B.2) (C.1, C.2) (D.1, D.2) true = 0 by unfold oErr; rw [if_pos ho]] at c5
  have hq := neq_objF 0 A B C D true 0 A B C D true
  rw [eqO_same] at hq
  exact back_0h n a1 a2 a3 a4 b1 b2 b3 b4 _ _ _ _ _ _ _ _ _ ⟨#[104, 97, 110, 100, 108, 101]⟩  w hE c1 c2 c3 c4 c5 hq (by rw [ByteArray.toList_eq]; decide)

theorem back_in1 (n a1 a2 a3 a4 b1 b2 b3 b4 : Int) (A B C D : Rf) (w : World) (hE : EnvP w) (ho : oOk 1 A B C D false = true)
    (c1 : ∀ w, Ret 27 #[.int .u8 n, .agg #[.int .u8 a1, .int .u8 a2, .int .u8 a3, .int .u8 a4], .agg #[.int .u32 b1, .int .u32 b2, .int .u32 b3, .int .u32 b4]] w (obR 1 A B C D false)) :
    Ret 7 #[.int .u8 n, .agg #[.int .u8 a1, .int .u8 a2, .int .u8 a3, .int .u8 a4], .agg #[.int .u32 b1, .int .u32 b2, .int .u32 b3, .int .u32 b4]] w (.bool true) := by
  obtain ⟨-, -, f0, f1, f2, f3⟩ := oOk_iff.1 ho
  have hl := oL_len ho
  have hi : IsO (oText 1 A B C D false).data.toList 1 A B C D false := ⟨ho, oText_list _ _ _ _ _ _⟩
  have c2 := fun w hE => ftext_c 1 A B C D false w hE
  rw [if_pos ho] at c2
  have hsz : (oText 1 A B C D false).size ≤ 100000 := by rw [← len_bytes, oText_list]; omega
  have c3 := fun w hE => fparse_c (oText 1 A B C D false) hsz w hE
  rw [parV_is hi] at c3
  have c4 := fun w hE => splitF_c (oText 1 A B C D false) hsz w hE
  rw [oText_list, oL_cut] at c4
  have c5 := fun w => fcheck_c 1 A.1 A.2 B.1 B.2 C.1 C.2 D.1 D.2 false w
  rw [show oErr 1 (A.1, A.2) (B.1, B.2) (C.1, C.2) (D.1, D.2) false = 0 by unfold oErr; rw [if_pos ho]] at c5
  have hq := neq_objF 1 A B C D false 1 A B C D false
  rw [eqO_same] at hq
  exact back_1 n a1 a2 a3 a4 b1 b2 b3 b4 _ _ _ _ _ _ _ _ _ ⟨#[111, 98, 106, 101, 99, 116]⟩ ⟨(rL A).toArray⟩ (rNone A) w hE c1 c2 c3 c4 c5 hq (by rw [ByteArray.toList_eq]; decide) (by rw [ByteArray.toList_eq]; decide) (rL_dash (fOk_fit f0)) (ref_eql0 A.1 A.2)

theorem back_in2 (n a1 a2 a3 a4 b1 b2 b3 b4 : Int) (A B C D : Rf) (w : World) (hE : EnvP w) (ho : oOk 2 A B C D false = true)
    (c1 : ∀ w, Ret 27 #[.int .u8 n, .agg #[.int .u8 a1, .int .u8 a2, .int .u8 a3, .int .u8 a4], .agg #[.int .u32 b1, .int .u32 b2, .int .u32 b3, .int .u32 b4]] w (obR 2 A B C D false)) :
    Ret 7 #[.int .u8 n, .agg #[.int .u8 a1, .int .u8 a2, .int .u8 a3, .int .u8 a4], .agg #[.int .u32 b1, .int .u32 b2, .int .u32 b3, .int .u32 b4]] w (.bool true) := by
  obtain ⟨-, -, f0, f1, f2, f3⟩ := oOk_iff.1 ho
  have hl := oL_len ho
  have hi : IsO (oText 2 A B C D false).data.toList 2 A B C D false := ⟨ho, oText_list _ _ _ _ _ _⟩
  have c2 := fun w hE => ftext_c 2 A B C D false w hE
  rw [if_pos ho] at c2
  have hsz : (oText 2 A B C D false).size ≤ 100000 := by rw [← len_bytes, oText_list]; omega
  have c3 := fun w hE => fparse_c (oText 2 A B C D false) hsz w hE
  rw [parV_is hi] at c3
  have c4 := fun w hE => splitF_c (oText 2 A B C D false) hsz w hE
  rw [oText_list, oL_cut] at c4
  have c5 := fun w => fcheck_c 2 A.1 A.2 B.1 B.2 C.1 C.2 D.1 D.2 false w
  rw [show oErr 2 (A.1, A.2) (B.1, B.2) (C.1, C.2) (D.1, D.2) false = 0 by unfold oErr; rw [if_pos ho]] at c5
  have hq := neq_objF 2 A B C D false 2 A B C D false
  rw [eqO_same] at hq
  exact back_2 n a1 a2 a3 a4 b1 b2 b3 b4 _ _ _ _ _ _ _ _ _ ⟨#[111, 98, 106, 101, 99, 116]⟩ ⟨(rL A).toArray⟩ ⟨(rL B).toArray⟩ (rNone A) (rNone B) w hE c1 c2 c3 c4 c5 hq (by rw [ByteArray.toList_eq]; decide) (by rw [ByteArray.toList_eq]; decide) (rL_dash (fOk_fit f0)) (ref_eql0 A.1 A.2) (rL_dash (fOk_fit f1)) (ref_eql0 B.1 B.2)

theorem back_in3 (n a1 a2 a3 a4 b1 b2 b3 b4 : Int) (A B C D : Rf) (w : World) (hE : EnvP w) (ho : oOk 3 A B C D false = true)
    (c1 : ∀ w, Ret 27 #[.int .u8 n, .agg #[.int .u8 a1, .int .u8 a2, .int .u8 a3, .int .u8 a4], .agg #[.int .u32 b1, .int .u32 b2, .int .u32 b3, .int .u32 b4]] w (obR 3 A B C D false)) :
    Ret 7 #[.int .u8 n, .agg #[.int .u8 a1, .int .u8 a2, .int .u8 a3, .int .u8 a4], .agg #[.int .u32 b1, .int .u32 b2, .int .u32 b3, .int .u32 b4]] w (.bool true) := by
  obtain ⟨-, -, f0, f1, f2, f3⟩ := oOk_iff.1 ho
  have hl := oL_len ho
  have hi : IsO (oText 3 A B C D false).data.toList 3 A B C D false := ⟨ho, oText_list _ _ _ _ _ _⟩
  have c2 := fun w hE => ftext_c 3 A B C D false w hE
  rw [if_pos ho] at c2
  have hsz : (oText 3 A B C D false).size ≤ 100000 := by rw [← len_bytes, oText_list]; omega
  have c3 := fun w hE => fparse_c (oText 3 A B C D false) hsz w hE
  rw [parV_is hi] at c3
  have c4 := fun w hE => splitF_c (oText 3 A B C D false) hsz w hE
  rw [oText_list, oL_cut] at c4
  have c5 := fun w => fcheck_c 3 A.1 A.2 B.1 B.2 C.1 C.2 D.1 D.2 false w
  rw [show oErr 3 (A.1, A.2) (B.1, B.2) (C.1, C.2) (D.1, D.2) false = 0 by unfold oErr; rw [if_pos ho]] at c5
  have hq := neq_objF 3 A B C D false 3 A B C D false
  rw [eqO_same] at hq
  exact back_3 n a1 a2 a3 a4 b1 b2 b3 b4 _ _ _ _ _ _ _ _ _ ⟨#[111, 98, 106, 101, 99, 116]⟩ ⟨(rL A).toArray⟩ ⟨(rL B).toArray⟩ ⟨(rL C).toArray⟩ (rNone A) (rNone B) (rNone C) w hE c1 c2 c3 c4 c5 hq (by rw [ByteArray.toList_eq]; decide) (by rw [ByteArray.toList_eq]; decide) (rL_dash (fOk_fit f0)) (ref_eql0 A.1 A.2) (rL_dash (fOk_fit f1)) (ref_eql0 B.1 B.2) (rL_dash (fOk_fit f2)) (ref_eql0 C.1 C.2)

theorem back_in4 (n a1 a2 a3 a4 b1 b2 b3 b4 : Int) (A B C D : Rf) (w : World) (hE : EnvP w) (ho : oOk 4 A B C D false = true)
    (c1 : ∀ w, Ret 27 #[.int .u8 n, .agg #[.int .u8 a1, .int .u8 a2, .int .u8 a3, .int .u8 a4], .agg #[.int .u32 b1, .int .u32 b2, .int .u32 b3, .int .u32 b4]] w (obR 4 A B C D false)) :
    Ret 7 #[.int .u8 n, .agg #[.int .u8 a1, .int .u8 a2, .int .u8 a3, .int .u8 a4], .agg #[.int .u32 b1, .int .u32 b2, .int .u32 b3, .int .u32 b4]] w (.bool true) := by
  obtain ⟨-, -, f0, f1, f2, f3⟩ := oOk_iff.1 ho
  have hl := oL_len ho
  have hi : IsO (oText 4 A B C D false).data.toList 4 A B C D false := ⟨ho, oText_list _ _ _ _ _ _⟩
  have c2 := fun w hE => ftext_c 4 A B C D false w hE
  rw [if_pos ho] at c2
  have hsz : (oText 4 A B C D false).size ≤ 100000 := by rw [← len_bytes, oText_list]; omega
  have c3 := fun w hE => fparse_c (oText 4 A B C D false) hsz w hE
  rw [parV_is hi] at c3
  have c4 := fun w hE => splitF_c (oText 4 A B C D false) hsz w hE
  rw [oText_list, oL_cut] at c4
  have c5 := fun w => fcheck_c 4 A.1 A.2 B.1 B.2 C.1 C.2 D.1 D.2 false w
  rw [show oErr 4 (A.1, A.2) (B.1, B.2) (C.1, C.2) (D.1, D.2) false = 0 by unfold oErr; rw [if_pos ho]] at c5
  have hq := neq_objF 4 A B C D false 4 A B C D false
  rw [eqO_same] at hq
  exact back_4 n a1 a2 a3 a4 b1 b2 b3 b4 _ _ _ _ _ _ _ _ _ ⟨#[111, 98, 106, 101, 99, 116]⟩ ⟨(rL A).toArray⟩ ⟨(rL B).toArray⟩ ⟨(rL C).toArray⟩ ⟨(rL D).toArray⟩ (rNone A) (rNone B) (rNone C) (rNone D) w hE c1 c2 c3 c4 c5 hq (by rw [ByteArray.toList_eq]; decide) (by rw [ByteArray.toList_eq]; decide) (rL_dash (fOk_fit f0)) (ref_eql0 A.1 A.2) (rL_dash (fOk_fit f1)) (ref_eql0 B.1 B.2) (rL_dash (fOk_fit f2)) (ref_eql0 C.1 C.2) (rL_dash (fOk_fit f3)) (ref_eql0 D.1 D.2)

theorem back_walk (n a1 a2 a3 a4 b1 b2 b3 b4 : Int) (w : World) (hE : EnvP w) (n0 : 0 ≤ n) (n1 : n ≤ 255) (u0 : 0 ≤ a1) (v0 : a1 ≤ 255) (u1 : 0 ≤ a2) (v1 : a2 ≤ 255) (u2 : 0 ≤ a3) (v2 : a3 ≤ 255) (u3 : 0 ≤ a4) (v3 : a4 ≤ 255)
    (p0 : 0 ≤ b1) (q0 : b1 ≤ 4294967295) (p1 : 0 ≤ b2) (q1 : b2 ≤ 4294967295) (p2 : 0 ≤ b3) (q2 : b3 ≤ 4294967295) (p3 : 0 ≤ b4) (q3 : b4 ≤ 4294967295) :
    Ret 7 #[.int .u8 n, .agg #[.int .u8 a1, .int .u8 a2, .int .u8 a3, .int .u8 a4], .agg #[.int .u32 b1, .int .u32 b2, .int .u32 b3, .int .u32 b4]] w (.bool true) := by
  obtain ⟨N, A, B, C, D, h, ho, c1⟩ := made_c n a1 a2 a3 a4 b1 b2 b3 b4 n0 n1 u0 v0 u1 v1 u2 v2 u3 v3 p0 q0 p1 q1 p2 q2 p3 q3
  obtain ⟨⟨m0, m1⟩, mh, -⟩ := oOk_iff.1 ho
  cases h with
  | true =>
    obtain rfl := mh rfl
    exact back_in0h n a1 a2 a3 a4 b1 b2 b3 b4 A B C D w hE ho c1
  | false =>
    rcases (by omega : N = 0 ∨ N = 1 ∨ N = 2 ∨ N = 3 ∨ N = 4) with rfl | rfl | rfl | rfl | rfl
    · exact back_in0 n a1 a2 a3 a4 b1 b2 b3 b4 A B C D w hE ho c1
    · exact back_in1 n a1 a2 a3 a4 b1 b2 b3 b4 A B C D w hE ho c1
    · exact back_in2 n a1 a2 a3 a4 b1 b2 b3 b4 A B C D w hE ho c1
    · exact back_in3 n a1 a2 a3 a4 b1 b2 b3 b4 A B C D w hE ho c1
    · exact back_in4 n a1 a2 a3 a4 b1 b2 b3 b4 A B C D w hE ho c1
end Go.Proofs.YtpegkcmomkdoeaaDoor
