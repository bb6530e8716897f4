/- The reference's Print: its contract. -/
import Derived.Test.YthkngleegefgbaaGreatDoorHROp5
import Derived.Test.YthkngleegefgbaaGreatDoorL2a
import Derived.Test.YthkngleegefgbaaGreatDoorL1a
namespace Go.Proofs.YthkngleegefgbaaGreatDoor
open Go.RowKit
open Go.Lib (decDigits)
set_option linter.unusedVariables false
set_option linter.unusedSimpArgs false
set_option maxHeartbeats 16000000
set_option maxRecDepth 20000
theorem boundsO (kd : Int) : 0 ≤ mHi kd ∧ mHi kd ≤ 3 ∧ -1 ≤ aLo kd ∧ aHi kd ≤ 1048576 ∧ 0 ≤ bLo kd ∧ bHi kd ≤ 1048576 ∧ -1 ≤ cLo kd ∧ cHi kd ≤ 31 := by
  unfold mHi aLo aHi bLo bHi cLo cHi
  repeat' apply And.intro
  all_goals (repeat' split) <;> omega
theorem numB2_size (n : Int) (h0 : -1 ≤ n) (h1 : n ≤ 1048576) : (numB2 n).size ≤ 20 := by
  show (numL n).toArray.size ≤ 20
  rw [List.size_toArray]
  have h := dec_len 7 n.natAbs (by have : (10 : Nat) ^ (7 + 1) = 100000000 := by decide
                                   omega)
  unfold numL
  split
  · rw [List.length_cons]; omega
  · omega
theorem wordB_size (kd : Int) : (wordB kd).size ≤ 100 := by
  show (wordL kd).toArray.size ≤ 100
  rw [List.size_toArray]
  by_cases hk : 1 ≤ kd ∧ kd ≤ 17
  · unfold wordL
    rw [if_pos hk]
    exact kinds_fin (fun i => (wordsL.getD i []).length ≤ 100) (by decide) hk
  · unfold wordL
    rw [if_neg hk]
    simp
theorem rprintO_ok (p : OpR) (h : okR p = true) (w : World) : Ret 8 #[opRV p] w (.tuple #[.string ⟨(opLR p).toArray⟩, .int .i64 0]) := by
  have hz := opLR_len h
  obtain ⟨kd, ⟨m, a, b, c, tag⟩⟩ := p
  obtain ⟨hk, hm, ha, hb, hcc, ht⟩ := opOk_iff.1 (show opOk kd m a b c tag.data.toList = true from h)
  obtain ⟨b1, b2, b3, b4, b5, b6, b7, b8⟩ := boundsO kd
  have hzt : tag.size ≤ 1000 := by
    rw [← len_bytes]
    unfold tgOk at ht
    split at ht
    · have := (tagOk_len ht).2; omega
    · split at ht
      · unfold ansOk at ht
        simp only [Bool.and_eq_true, decide_eq_true_iff] at ht
        omega
      · rw [List.isEmpty_iff.1 ht]; simp
  have hq8 : kd = 8 → quoteV tag.data.toList = .tuple #[.string ⟨(quoteL tag.data.toList).toArray⟩, .int .i64 0] := fun e => by
    subst e
    have ht2 : tagOk tag.data.toList = true := ht
    unfold quoteV
    rw [if_pos ht2]
  obtain ⟨Q, hQ⟩ : ∃ Q : ByteArray, Q = if kd = 8 then ⟨(quoteL tag.data.toList).toArray⟩ else ⟨#[]⟩ := ⟨_, rfl⟩
  obtain ⟨L, hL⟩ : ∃ L : ByteArray, L = if kd = 8 then ⟨#[letterB a]⟩ else ⟨#[]⟩ := ⟨_, rfl⟩
  have hQz : Q.size ≤ 3000 := by
    rw [hQ]
    split
    · rename_i e
      subst e
      show (quoteL tag.data.toList).toArray.size ≤ _
      rw [List.size_toArray]
      have h2 : (opLR (8, ⟨m, a, b, c, tag⟩)).length ≤ 2000 := hz
      simp [opLR, opL, partsL, aUse, bUse, aText, tText, Lib.join, List.intercalate] at h2
      omega
    · show 0 ≤ 3000; omega
  have hLz : L.size ≤ 1 := by
    rw [hL]
    split
    · exact Nat.le_refl _
    · exact Nat.zero_le _
  have zW := wordB_size kd
  have zM := numB2_size m (by omega) (by omega)
  have zA := numB2_size a (by omega) (by omega)
  have zB := numB2_size b (by omega) (by omega)
  have zC := numB2_size c (by omega) (by omega)
  have zs : spO.size = 1 := rfl
  obtain ⟨S, hS⟩ : ∃ S : ByteArray, S = if inB kd 1 12 then wordB kd ++ spO ++ numB2 m else wordB kd := ⟨_, rfl⟩
  have zS : S.size ≤ 200 := by
    rw [hS]
    split
    · simp only [ByteArray.size_append]; omega
    · omega
  have e : (⟨(opLR (kd, ⟨m, a, b, c, tag⟩)).toArray⟩ : ByteArray) = armR kd S (S ++ (spO ++ numB2 a)) (S ++ (spO ++ numB2 a) ++ (spO ++ numB2 b)) (S ++ (spO ++ numB2 a) ++ (spO ++ numB2 b) ++ spO ++ numB2 c) (S ++ (spO ++ numB2 b)) (S ++ spO ++ L ++ (spO ++ numB2 b) ++ spO ++ Q) (S ++ spO ++ tag) := by
    apply str_ext
    rw [hS, hQ, hL]
    rcases kinds hk with rfl | rfl | rfl | rfl | rfl | rfl | rfl | rfl | rfl | rfl | rfl | rfl | rfl | rfl | rfl | rfl | rfl
    all_goals simp [armR, inB, opLR, opL, partsL, aUse, bUse, aText, tText, Lib.join, List.intercalate, ByteArray.data_append, numB2, wordB]
  rw [e]
  refine rprint_core kd m a b c tag (wordB kd) (numB2 m) (numB2 a) (numB2 b) (numB2 c) Q L (wordB kd ++ spO) S (spO ++ numB2 a) (spO ++ numB2 b) _ _ (S ++ (spO ++ numB2 a) ++ (spO ++ numB2 b) ++ spO) _ _ (S ++ spO) (S ++ spO ++ L) (S ++ spO ++ L ++ (spO ++ numB2 b)) (S ++ spO ++ L ++ (spO ++ numB2 b) ++ spO) _ _ hk ?_ (fun w => rword_c kd w) (fun w => odig_c m w (by omega) (by omega)) (fun w => odig_c a w (by omega) (by omega)) (fun w => odig_c b w (by omega) (by omega)) (fun w => odig_c c w (by omega) (by omega)) ?_ ?_ ?_ ?_ ?_ ?_ ?_ ?_ ?_ ?_ ?_ ?_ ?_ ?_ ?_ ?_ ?_ w
  · intro w
    have := rcheckO_c (kd, ⟨m, a, b, c, tag⟩) (by show tag.size ≤ _; omega) w
    rw [h] at this
    exact this
  · intro e8 w
    have q := rtquote_c tag w (by omega)
    rw [hq8 e8] at q
    rw [hQ, if_pos e8]
    exact q
  · intro e8
    subst e8
    refine ⟨?_, by rw [hL, if_pos rfl]⟩
    have h1 : aLo 8 = 1 := rfl
    have h2 : aHi 8 = 3 := rfl
    omega
  · exact fun W => add_run rfl (by omega) W
  · rw [hS]
    split
    · exact fun W => add_run rfl (by simp only [ByteArray.size_append]; omega) W
    · rfl
  all_goals exact fun W => add_run rfl (by first | (simp only [ByteArray.size_append]; omega) | omega) W
theorem rprintO_bad (p : OpR) (h : okR p = false) (hs : p.2.tag.size ≤ 1000000) (w : World) : Ret 8 #[opRV p] w (.tuple #[.string ⟨#[]⟩, .int .i64 2]) := by
  have cc := fun w => rcheckO_c p hs w
  rw [h] at cc
  obtain ⟨kd, ⟨m, a, b, c, tag⟩⟩ := p
  have CC := Lib.hid cc
  clear cc h hs
  go_enter Tryz.func8, Tryz.ntmps8
  go_upto_region 1 with fail
  have r1 := Row.new (W := w) (cs := #[.int .i64 kd, .int .i64 m, .int .i64 a, .int .i64 b, .int .i64 c, .string tag]) (t := 23)
  have hc := below_alloc w (.cells #[.int .i64 kd, .int .i64 m, .int .i64 a, .int .i64 b, .int .i64 c, .string tag] 23)
  generalize w.alloc (.cells #[.int .i64 kd, .int .i64 m, .int .i64 a, .int .i64 b, .int .i64 c, .string tag] 23) = V1 at r1 hc ⊢
  have y1 := r1.cell
  have z1 := r1.lt
  go_wp2_with fail
  refine Calls.mono (CC.out _) ?_
  rintro e V2 ⟨rfl, hn⟩
  replace hc := chain hc hn
  go_wp2_with fail
  go_returns
  exact ⟨rfl, hc⟩
def bA (l : List UInt8) : ByteArray := ⟨l.toArray⟩
theorem bA_data (l : List UInt8) : (bA l).data.toList = l := by simp [bA]
theorem bA_size (l : List UInt8) : (bA l).size = l.length := by show l.toArray.size = _; rw [List.size_toArray]
/-- What Print gives. -/
def prT (p : OpR) : ByteArray := if okR p then bA (opLR p) else ⟨#[]⟩
def prE (p : OpR) : Int := if okR p then 0 else 2
theorem rprintO_c (p : OpR) (hs : p.2.tag.size ≤ 1000000) (w : World) : Ret 8 #[opRV p] w (.tuple #[.string (prT p), .int .i64 (prE p)]) := by
  unfold prT prE
  cases h : okR p
  · exact rprintO_bad p h hs w
  · exact rprintO_ok p h w
end Go.Proofs.YthkngleegefgbaaGreatDoor
