/- The reference's Parse of an operation: its contract. -/
import Derived.Test.YthkngleegefgbaaGreatDoorHROp7
import Derived.Test.YthkngleegefgbaaGreatDoorM193a
import Derived.Test.YthkngleegefgbaaGreatDoorL2a
namespace Go.Proofs.YthkngleegefgbaaGreatDoor
open Go.RowKit
open Go.Lib (decDigits)
set_option linter.unusedVariables false
set_option linter.unusedSimpArgs false
set_option maxHeartbeats 16000000
set_option maxRecDepth 20000
theorem scanL_lenO {l x : List UInt8} {n : Nat} (h : scanL l = some (x, n)) : x.length ≤ l.length := by
  obtain ⟨_, t, ht⟩ := scanL_some l.length l x n (Nat.le_refl _) h
  rw [ht, List.length_append, List.length_cons]
  have := escL_len x
  omega
theorem unqL_lenO (l : List UInt8) : (unqL l).1.length ≤ l.length := by
  unfold unqL
  split
  · rename_i t
    cases hx : scanL t with
    | none => simp
    | some p =>
      obtain ⟨x, n⟩ := p
      have := scanL_lenO hx
      simp only
      split
      · simp; omega
      · simp
  · simp
abbrev cwO (l : List UInt8) : List UInt8 := (Lib.cut l [32]).1
abbrev crO (l : List UInt8) : List UInt8 := (Lib.cut l [32]).2.1
theorem cwJ {x : List UInt8} (ps : List (List UInt8)) (h : (32 : UInt8) ∉ x) : cwO (Lib.join (x :: ps) [32]) = x := cut_join x ps h
theorem crJ {x : List UInt8} (ps : List (List UInt8)) (h : (32 : UInt8) ∉ x) : crO (Lib.join (x :: ps) [32]) = Lib.join ps [32] := by
  unfold crO
  cases ps with
  | nil => rw [show Lib.join [x] [32] = x by simp [Lib.join, List.intercalate], cut_no _ _ h]; rfl
  | cons p ps => rw [show Lib.join (x :: p :: ps) [32] = x ++ 32 :: Lib.join (p :: ps) [32] by simp [Lib.join, List.intercalate], cut_at _ _ _ h]
theorem one_join (x : List UInt8) : Lib.join [x] [32] = x := by simp [Lib.join, List.intercalate]
theorem cwO_len (l : List UInt8) : (cwO l).length + (crO l).length ≤ l.length := by
  rcases mem_split l 32 with h | ⟨pre, post, h1, h2⟩
  · unfold cwO crO; rw [cut_no _ _ h]; simp
  · unfold cwO crO; rw [h2, cut_at _ _ _ h1]; simp
/-- The candidate that the reference makes of a text, for a kind. -/
def candO (v : Int) (l : List UInt8) : Fl := candF v (numS (cwO (crO l))) (numS (cwO (crO (crO l)))) (numS (cwO (crO (crO (crO l))))) (numS (crO (crO (crO (crO l))))) (aK (bA (cwO (crO (crO l)))) 4) (bA (unqL (crO (crO (crO (crO l))))).1) (bA (crO l))
theorem aK_let {a : Int} (h1 : 1 ≤ a) (h3 : a ≤ 3) : aK (bA [letterB a]) 4 = a := by
  rcases (by omega : a = 1 ∨ a = 2 ∨ a = 3) with rfl | rfl | rfl <;> decide
theorem cand_of {p : OpR} {l : List UInt8} (h : isOp p l) : cwO l = wordL p.1 ∧ candO p.1 l = p.2 := by
  obtain ⟨kd, ⟨m, a, b, c, tag⟩⟩ := p
  obtain ⟨h1, h2⟩ := h
  have hx : opOk kd m a b c tag.data.toList = true := h1
  have hl : Lib.join (wordL kd :: partsL kd m a b c tag.data.toList) [32] = l := h2
  obtain ⟨hk, hm, ha, hb, hcc, ht⟩ := opOk_iff.1 hx
  have hw := word_no32 kd
  obtain ⟨b1, b2, b3, b4, b5, b6, b7, b8⟩ := boundsO kd
  have nm := numS_numL m (by omega) (by omega)
  have na := numS_numL a (by omega) (by omega)
  have nb := numS_numL b (by omega) (by omega)
  have nc := numS_numL c (by omega) (by omega)
  have n1 := numL_no32 m
  have n2 := numL_no32 a
  have n3 := numL_no32 b
  have n4 := numL_no32 c
  refine ⟨by rw [← hl]; exact cwJ _ hw, ?_⟩
  have hr : crO l = Lib.join (partsL kd m a b c tag.data.toList) [32] := by rw [← hl]; exact crJ _ hw
  unfold candO
  rw [hr]
  clear hr hl h1 h2 hx b1 b2 b3 b4 b5 b6 b7 b8 hw
  have he : tag.data.toList.isEmpty = true → (⟨#[]⟩ : ByteArray) = tag := (empty_tag tag).2
  rcases kinds hk with rfl | rfl | rfl | rfl | rfl | rfl | rfl | rfl | rfl | rfl | rfl | rfl | rfl | rfl | rfl | rfl | rfl
  · have hp : partsL 1 m a b c tag.data.toList = [numL m, numL a] := by simp [partsL, aUse, bUse, aText, tText]
    rw [hp]
    clear hp
    simp only [cwJ _ n1, crJ _ n1, cwJ _ n2, crJ _ n2]
    have hm2 : 0 ≤ m ∧ m ≤ mHi 1 := hm
    simp only [nm, na]
    have z3 : b = 0 := by have h1 : bLo 1 = 0 := rfl; have h2 : bHi 1 = 0 := rfl; omega
    have z4 : c = 0 := by have h1 : cLo 1 = 0 := rfl; have h2 : cHi 1 = 0 := rfl; omega
    have z5 := he ht
    unfold candF
    apply Fl.eq_of <;> simp [*]
  · have hp : partsL 2 m a b c tag.data.toList = [numL m, numL a, numL b] := by simp [partsL, aUse, bUse, aText, tText]
    rw [hp]
    clear hp
    simp only [cwJ _ n1, crJ _ n1, cwJ _ n2, crJ _ n2, cwJ _ n3, crJ _ n3]
    have hm2 : 0 ≤ m ∧ m ≤ mHi 2 := hm
    simp only [nm, na, nb]
    have z4 : c = 0 := by have h1 : cLo 2 = 0 := rfl; have h2 : cHi 2 = 0 := rfl; omega
    have z5 := he ht
    unfold candF
    apply Fl.eq_of <;> simp [*]
  · have hp : partsL 3 m a b c tag.data.toList = [numL m, numL a, numL b, numL c] := by simp [partsL, aUse, bUse, aText, tText]
    rw [hp]
    clear hp
    simp only [cwJ _ n1, crJ _ n1, cwJ _ n2, crJ _ n2, cwJ _ n3, crJ _ n3, cwJ _ n4, crJ _ n4, one_join]
    have hm2 : 0 ≤ m ∧ m ≤ mHi 3 := hm
    simp only [nm, na, nb, nc]
    have z5 := he ht
    unfold candF
    apply Fl.eq_of <;> simp [*]
  · have hp : partsL 4 m a b c tag.data.toList = [numL m, numL a] := by simp [partsL, aUse, bUse, aText, tText]
    rw [hp]
    clear hp
    simp only [cwJ _ n1, crJ _ n1, cwJ _ n2, crJ _ n2]
    have hm2 : 0 ≤ m ∧ m ≤ mHi 4 := hm
    simp only [nm, na]
    have z3 : b = 0 := by have h1 : bLo 4 = 0 := rfl; have h2 : bHi 4 = 0 := rfl; omega
    have z4 : c = 0 := by have h1 : cLo 4 = 0 := rfl; have h2 : cHi 4 = 0 := rfl; omega
    have z5 := he ht
    unfold candF
    apply Fl.eq_of <;> simp [*]
  · have hp : partsL 5 m a b c tag.data.toList = [numL m, numL a, numL b] := by simp [partsL, aUse, bUse, aText, tText]
    rw [hp]
    clear hp
    simp only [cwJ _ n1, crJ _ n1, cwJ _ n2, crJ _ n2, cwJ _ n3, crJ _ n3]
    have hm2 : 0 ≤ m ∧ m ≤ mHi 5 := hm
    simp only [nm, na, nb]
    have z4 : c = 0 := by have h1 : cLo 5 = 0 := rfl; have h2 : cHi 5 = 0 := rfl; omega
    have z5 := he ht
    unfold candF
    apply Fl.eq_of <;> simp [*]
  · have hp : partsL 6 m a b c tag.data.toList = [numL m, numL b] := by simp [partsL, aUse, bUse, aText, tText]
    rw [hp]
    clear hp
    simp only [cwJ _ n1, crJ _ n1, cwJ _ n3, crJ _ n3]
    have hm2 : 0 ≤ m ∧ m ≤ mHi 6 := hm
    simp only [nm, nb]
    have z2 : a = 0 := by have h1 : aLo 6 = 0 := rfl; have h2 : aHi 6 = 0 := rfl; omega
    have z4 : c = 0 := by have h1 : cLo 6 = 0 := rfl; have h2 : cHi 6 = 0 := rfl; omega
    have z5 := he ht
    unfold candF
    apply Fl.eq_of <;> simp [*]
  · have hp : partsL 7 m a b c tag.data.toList = [numL m] := by simp [partsL, aUse, bUse, aText, tText]
    rw [hp]
    clear hp
    simp only [cwJ _ n1, crJ _ n1]
    have hm2 : 0 ≤ m ∧ m ≤ mHi 7 := hm
    simp only [nm]
    have z2 : a = 0 := by have h1 : aLo 7 = 0 := rfl; have h2 : aHi 7 = 0 := rfl; omega
    have z3 : b = 0 := by have h1 : bLo 7 = 0 := rfl; have h2 : bHi 7 = 0 := rfl; omega
    have z4 : c = 0 := by have h1 : cLo 7 = 0 := rfl; have h2 : cHi 7 = 0 := rfl; omega
    have z5 := he ht
    unfold candF
    apply Fl.eq_of <;> simp [*]
  · have hp : partsL 8 m a b c tag.data.toList = [numL m, [letterB a], numL b, quoteL tag.data.toList] := by simp [partsL, aUse, bUse, aText, tText]
    rw [hp]
    clear hp
    have hg : (unqL (quoteL tag.data.toList)).1 = tag.data.toList := by have q := unqL_quote (show tagOk tag.data.toList = true from ht) []; rw [List.append_nil] at q; rw [q]
    have hA := aK_let (show (1 : Int) ≤ a from ha.1) (show a ≤ 3 from ha.2)
    simp only [cwJ _ n1, crJ _ n1, cwJ _ (show (32 : UInt8) ∉ [letterB a] by rw [List.mem_singleton]; exact letterB_no32 a), crJ _ (show (32 : UInt8) ∉ [letterB a] by rw [List.mem_singleton]; exact letterB_no32 a), cwJ _ n3, crJ _ n3, one_join]
    have hm2 : 0 ≤ m ∧ m ≤ mHi 8 := hm
    simp only [nm, nb, hg, hA]
    have z4 : c = 0 := by have h1 : cLo 8 = 0 := rfl; have h2 : cHi 8 = 0 := rfl; omega
    have z5 : bA tag.data.toList = tag := str_ext (by rw [bA_data])
    unfold candF
    apply Fl.eq_of <;> simp [*]
  · have hp : partsL 9 m a b c tag.data.toList = [numL m, numL a] := by simp [partsL, aUse, bUse, aText, tText]
    rw [hp]
    clear hp
    simp only [cwJ _ n1, crJ _ n1, cwJ _ n2, crJ _ n2]
    have hm2 : 0 ≤ m ∧ m ≤ mHi 9 := hm
    simp only [nm, na]
    have z3 : b = 0 := by have h1 : bLo 9 = 0 := rfl; have h2 : bHi 9 = 0 := rfl; omega
    have z4 : c = 0 := by have h1 : cLo 9 = 0 := rfl; have h2 : cHi 9 = 0 := rfl; omega
    have z5 := he ht
    unfold candF
    apply Fl.eq_of <;> simp [*]
  · have hp : partsL 10 m a b c tag.data.toList = [numL m, numL a] := by simp [partsL, aUse, bUse, aText, tText]
    rw [hp]
    clear hp
    simp only [cwJ _ n1, crJ _ n1, cwJ _ n2, crJ _ n2]
    have hm2 : 0 ≤ m ∧ m ≤ mHi 10 := hm
    simp only [nm, na]
    have z3 : b = 0 := by have h1 : bLo 10 = 0 := rfl; have h2 : bHi 10 = 0 := rfl; omega
    have z4 : c = 0 := by have h1 : cLo 10 = 0 := rfl; have h2 : cHi 10 = 0 := rfl; omega
    have z5 := he ht
    unfold candF
    apply Fl.eq_of <;> simp [*]
  · have hp : partsL 11 m a b c tag.data.toList = [numL m, numL a, numL b] := by simp [partsL, aUse, bUse, aText, tText]
    rw [hp]
    clear hp
    simp only [cwJ _ n1, crJ _ n1, cwJ _ n2, crJ _ n2, cwJ _ n3, crJ _ n3]
    have hm2 : 0 ≤ m ∧ m ≤ mHi 11 := hm
    simp only [nm, na, nb]
    have z4 : c = 0 := by have h1 : cLo 11 = 0 := rfl; have h2 : cHi 11 = 0 := rfl; omega
    have z5 := he ht
    unfold candF
    apply Fl.eq_of <;> simp [*]
  · have hp : partsL 12 m a b c tag.data.toList = [numL m, numL a] := by simp [partsL, aUse, bUse, aText, tText]
    rw [hp]
    clear hp
    simp only [cwJ _ n1, crJ _ n1, cwJ _ n2, crJ _ n2]
    have hm2 : 0 ≤ m ∧ m ≤ mHi 12 := hm
    simp only [nm, na]
    have z3 : b = 0 := by have h1 : bLo 12 = 0 := rfl; have h2 : bHi 12 = 0 := rfl; omega
    have z4 : c = 0 := by have h1 : cLo 12 = 0 := rfl; have h2 : cHi 12 = 0 := rfl; omega
    have z5 := he ht
    unfold candF
    apply Fl.eq_of <;> simp [*]
  · have hp : partsL 13 m a b c tag.data.toList = [numL a] := by simp [partsL, aUse, bUse, aText, tText]
    rw [hp]
    clear hp
    simp only [cwJ _ n2, crJ _ n2]
    have hm2 : 0 ≤ m ∧ m ≤ mHi 13 := hm
    simp only [na]
    have z1 : m = 0 := by have h1 : mHi 13 = 0 := rfl; omega
    have z3 : b = 0 := by have h1 : bLo 13 = 0 := rfl; have h2 : bHi 13 = 0 := rfl; omega
    have z4 : c = 0 := by have h1 : cLo 13 = 0 := rfl; have h2 : cHi 13 = 0 := rfl; omega
    have z5 := he ht
    unfold candF
    apply Fl.eq_of <;> simp [*]
  · have hp : partsL 14 m a b c tag.data.toList = [] := by simp [partsL, aUse, bUse, aText, tText]
    rw [hp]
    clear hp
    have hm2 : 0 ≤ m ∧ m ≤ mHi 14 := hm
    have z1 : m = 0 := by have h1 : mHi 14 = 0 := rfl; omega
    have z2 : a = 0 := by have h1 : aLo 14 = 0 := rfl; have h2 : aHi 14 = 0 := rfl; omega
    have z3 : b = 0 := by have h1 : bLo 14 = 0 := rfl; have h2 : bHi 14 = 0 := rfl; omega
    have z4 : c = 0 := by have h1 : cLo 14 = 0 := rfl; have h2 : cHi 14 = 0 := rfl; omega
    have z5 := he ht
    unfold candF
    apply Fl.eq_of <;> simp [*]
  · have hp : partsL 15 m a b c tag.data.toList = [numL a] := by simp [partsL, aUse, bUse, aText, tText]
    rw [hp]
    clear hp
    simp only [cwJ _ n2, crJ _ n2]
    have hm2 : 0 ≤ m ∧ m ≤ mHi 15 := hm
    simp only [na]
    have z1 : m = 0 := by have h1 : mHi 15 = 0 := rfl; omega
    have z3 : b = 0 := by have h1 : bLo 15 = 0 := rfl; have h2 : bHi 15 = 0 := rfl; omega
    have z4 : c = 0 := by have h1 : cLo 15 = 0 := rfl; have h2 : cHi 15 = 0 := rfl; omega
    have z5 := he ht
    unfold candF
    apply Fl.eq_of <;> simp [*]
  · have hp : partsL 16 m a b c tag.data.toList = [] := by simp [partsL, aUse, bUse, aText, tText]
    rw [hp]
    clear hp
    have hm2 : 0 ≤ m ∧ m ≤ mHi 16 := hm
    have z1 : m = 0 := by have h1 : mHi 16 = 0 := rfl; omega
    have z2 : a = 0 := by have h1 : aLo 16 = 0 := rfl; have h2 : aHi 16 = 0 := rfl; omega
    have z3 : b = 0 := by have h1 : bLo 16 = 0 := rfl; have h2 : bHi 16 = 0 := rfl; omega
    have z4 : c = 0 := by have h1 : cLo 16 = 0 := rfl; have h2 : cHi 16 = 0 := rfl; omega
    have z5 := he ht
    unfold candF
    apply Fl.eq_of <;> simp [*]
  · have hp : partsL 17 m a b c tag.data.toList = [tag.data.toList] := by simp [partsL, aUse, bUse, aText, tText]
    rw [hp]
    clear hp
    simp only [one_join]
    have hm2 : 0 ≤ m ∧ m ≤ mHi 17 := hm
    have z1 : m = 0 := by have h1 : mHi 17 = 0 := rfl; omega
    have z2 : a = 0 := by have h1 : aLo 17 = 0 := rfl; have h2 : aHi 17 = 0 := rfl; omega
    have z3 : b = 0 := by have h1 : bLo 17 = 0 := rfl; have h2 : bHi 17 = 0 := rfl; omega
    have z4 : c = 0 := by have h1 : cLo 17 = 0 := rfl; have h2 : cHi 17 = 0 := rfl; omega
    have z5 : bA tag.data.toList = tag := str_ext (by rw [bA_data])
    unfold candF
    apply Fl.eq_of <;> simp [*]
theorem cut_lO (l : List UInt8) (h : l.length ≤ 100000) (w : World) : Ret 40 #[.string (bA l)] w (.tuple #[.string (bA (cwO l)), .string (bA (crO l))]) := by
  have := rcut_cO (bA l) (by rw [bA_size]; exact h) w
  rw [bA_data] at this
  exact this
theorem num_lO (l : List UInt8) (h : l.length ≤ 100000) (w : World) : Ret 41 #[.string (bA l)] w (.int .i64 (numS l)) := by
  have := rnumS_c (bA l) (by rw [bA_size]; exact h) w
  rw [bA_data] at this
  exact this
theorem unq_lO (l : List UInt8) (h : l.length ≤ 100000) (w : World) : Ret 42 #[.string (bA l)] w (.tuple #[.string (bA (unqL l).1), .int .i64 ((unqL l).2.1 : Nat), .int .i64 (unqL l).2.2]) := by
  have := rtunq_c (bA l) w (by rw [bA_size]; omega)
  rw [bA_data] at this
  exact this
theorem rparseO_c (s : ByteArray) (hs : s.size ≤ 70000) (w : World) : Ret 16 #[.string s] w (.tuple #[opRV ((readOp s.data.toList).getD (0, fl0)), .int .i64 (if (readOp s.data.toList).isSome then 0 else 9)]) := by
  haveI DI : ∀ q : OpR, Decidable (isOp q s.data.toList) := fun q => Classical.propDecidable _
  have hsl := len_bytes s
  have hsb : bA s.data.toList = s := str_ext (by rw [bA_data])
  have l1 := cwO_len s.data.toList
  have l2 := cwO_len (crO s.data.toList)
  have l3 := cwO_len (crO (crO s.data.toList))
  have l4 := cwO_len (crO (crO (crO s.data.toList)))
  have hG := unqL_lenO (crO (crO (crO (crO s.data.toList))))
  have W := rparseO_core s (bA (cwO s.data.toList)) (bA (crO s.data.toList)) _ _ _ _ _ _ (bA (unqL (crO (crO (crO (crO s.data.toList))))).1) _ _ _ _ _ _ prT prE (fun p => decide (isOp p s.data.toList))
    (fun w => by have q := cut_lO s.data.toList (by omega) w; rw [hsb] at q; exact q)
    (fun w => cut_lO _ (by omega) w) (fun w => cut_lO _ (by omega) w) (fun w => cut_lO _ (by omega) w)
    (fun w => num_lO _ (by omega) w) (fun w => num_lO _ (by omega) w) (fun w => num_lO _ (by omega) w) (fun w => num_lO _ (by omega) w) (fun w => unq_lO _ (by omega) w)
    (fun p hp w => rprintO_c p (by
      rcases hp with h | h | h
      · rw [h]; show 0 ≤ 1000000; omega
      · rw [h, bA_size]; omega
      · rw [h, bA_size]; omega) w)
    (fun p => by
      unfold prT prE
      cases hk : okR p
      · refine .inr (.inl ⟨decide_eq_false (fun h => ?_), rfl⟩)
        have h1 : okR p = true := h.1
        rw [hk] at h1
        cases h1
      · by_cases he : opLR p = s.data.toList
        · exact .inl ⟨decide_eq_true ⟨hk, he⟩, rfl, str_ext (by show (bA (opLR p)).data.toList = _; rw [bA_data]; exact he)⟩
        · refine .inr (.inr ⟨decide_eq_false (fun h => he h.2), rfl, fun h => he ?_⟩)
          have h3 : (bA (opLR p)).toList = s.toList := h
          rw [ByteArray.toList_eq, ByteArray.toList_eq, bA_data] at h3
          exact h3)
    w
  refine W.mono ?_
  rintro e w' ⟨hb, v, hv, h⟩
  by_cases hx : ∃ p, isOp p s.data.toList
  · obtain ⟨p, hp⟩ := hx
    obtain ⟨hc1, hc2⟩ := cand_of hp
    have hk := (opOk_iff.1 (show opOk p.1 p.2.m p.2.a p.2.b p.2.c p.2.tag.data.toList = true from hp.1)).1
    have hvp : v = p.1 := by
      rcases hv with ⟨_, h2⟩ | ⟨h1, h2, h3⟩
      · exact absurd (by rw [hc1]; rfl) (h2 p.1 hk.1 hk.2)
      · refine word_inj ⟨h1, h2⟩ hk ?_
        have h4 := congrArg (fun z : ByteArray => z.data.toList) h3
        simp only [bA_data, hc1] at h4
        rw [← h4]
        simp [wordB]
    subst hvp
    have e : ((p.1, candO p.1 s.data.toList) : OpR) = p := by rw [hc2]
    have hacc : decide (isOp (p.1, candO p.1 s.data.toList) s.data.toList) = true := by rw [e]; exact decide_eq_true hp
    rw [readOp_some hp]
    rcases h with ⟨_, h2⟩ | ⟨h1, _⟩
    · refine ⟨?_, hb⟩
      rw [h2]
      show _ = Ending.returned (.tuple #[opRV p, .int .i64 0])
      rw [← e]
      rfl
    · have h3 : decide (isOp (p.1, candO p.1 s.data.toList) s.data.toList) = false := h1
      rw [hacc] at h3
      cases h3
  · rw [readOp_none (fun p hp => hx ⟨p, hp⟩)]
    rcases h with ⟨h1, _⟩ | ⟨_, h2⟩
    · exact absurd ⟨_, of_decide_eq_true h1⟩ hx
    · exact ⟨by rw [h2]; rfl, hb⟩
end Go.Proofs.YthkngleegefgbaaGreatDoor

/- The reference's PrintAll (chapter 39). -/
namespace Go.Proofs.YthkngleegefgbaaGreatDoor
open Go.RowKit
set_option linter.unusedVariables false
set_option linter.unusedSimpArgs false
set_option maxHeartbeats 16000000
set_option maxRecDepth 20000
abbrev nlO : ByteArray := ⟨#[10]⟩
theorem printO_many {l : List OpR} (h : 2000 < l.length) : printAllR l = ([], 11) := by unfold printAllR; rw [if_pos h]
theorem printO_bad {l : List OpR} (hl : ¬ 2000 < l.length) {k : Nat} (h : k < l.length) (hb : okR l[k] = false) : printAllR l = ([], 2) := by
  unfold printAllR
  rw [if_neg hl, if_pos]
  cases hall : l.all okR with
  | false => rfl
  | true => rw [List.all_eq_true] at hall; rw [hall l[k] (List.getElem_mem h)] at hb; cases hb
theorem printO_long {l : List OpR} (hl : ¬ 2000 < l.length) (hall : l.all okR = true) {k : Nat} (hk : 65536 < (opsL (l.take k)).length) : printAllR l = ([], 10) := by
  unfold printAllR
  have e : opsL l = opsL (l.take k) ++ opsL (l.drop k) := by rw [← opsL_app, List.take_append_drop]
  rw [if_neg hl, if_neg (by rw [hall]; decide), if_pos (by rw [e, List.length_append]; omega)]
theorem printO_ok {l : List OpR} (hl : ¬ 2000 < l.length) (hall : l.all okR = true) (h : (opsL l).length ≤ 65536) : printAllR l = (opsL l, 0) := by
  unfold printAllR
  rw [if_neg hl, if_neg (by rw [hall]; decide), if_neg (by omega)]
theorem takeO_all {l : List OpR} {k : Nat} (h : k < l.length) (h1 : (l.take k).all okR = true) (h2 : okR l[k] = true) : (l.take (k + 1)).all okR = true := by
  rw [List.take_succ_eq_append_getElem h, List.all_append, h1]
  simp [h2]
theorem rprintAll_c (v : Value) (l : List OpR) (w : World) (hv : HoldsO w v l) (hl : l.length ≤ 100000) (ht : ∀ p ∈ l, p.2.tag.size ≤ 1000000) :
    Ret 23 #[v] w (.tuple #[.string ⟨(printAllR l).1.toArray⟩, .int .i64 (printAllR l).2]) := by
  obtain ⟨p0, c0, hve⟩ := hv.len
  have HV := Lib.hid hv
  have HG := Lib.hid ht
  subst hve
  obtain ⟨N, hN⟩ : ∃ N, l.length = N := ⟨_, rfl⟩
  have HN := Lib.hid hN
  rw [hN] at HV hl ⊢
  by_cases hbig : (2000 : Int) < N
  · have H11 := Lib.hid (printO_many (l := l) (by omega))
    have hc := Below.refl w.heap.size w
    clear hv ht hN
    go_enter Tryz.func23, Tryz.ntmps23
    go_wp2_with fail
    go_returns
    exact ⟨by rw [H11.out]; rfl, hc⟩
  have HLN := Lib.hid (show ¬ 2000 < l.length by omega)
  have hc := Below.refl w.heap.size w
  clear hv ht hN
  go_enter Tryz.func23, Tryz.ntmps23
  go_wp2_with fail
  go_loopw [4] (fun iv wr => ∃ k : Nat, k ≤ N ∧ iv = .int .i64 k ∧ RowKit.Hid ((l.take k).all okR = true) ∧ Below w.heap.size w wr) (fun iv _ => N - (intOf iv).toNat)
  case atStart => exact ⟨0, by omega, rfl, Lib.hid rfl, hc⟩
  case round =>
    clear hc
    obtain ⟨k, hk, rfl, HA, hc⟩ := hrel
    by_cases hlt : k < N
    · have hkl : k < l.length := by rw [HN.out]; exact hlt
      obtain ⟨gg, o, cc0, hvv, x0, x1, x2, x3, x4, x5⟩ := holds_at HV.out hc hkl
      rw [HN.out] at hvv
      injection hvv with hp1 hp2 hp3
      subst hp1
      have cc := fun W => rcheckO_c l[k] (HG.out l[k] (List.getElem_mem hkl)) W
      cases hok : okR l[k]
      · have H0 := Lib.hid (printO_bad HLN.out hkl hok)
        rw [hok] at cc
        replace cc : ∀ W, Ret 10 #[opRV l[k]] W (.int .i64 2) := cc
        have CC := Lib.hid cc
        clear cc hok hp2 hp3
        generalize l[k] = q at *
        obtain ⟨kd, ⟨m, a, b, c, tag⟩⟩ := q
        go_wp2_with fail
        refine Calls.mono (CC.out _) ?_
        rintro e W1 ⟨rfl, hn⟩
        replace hc := chain hc hn
        go_wp2_with fail
        go_returns
        exact ⟨by rw [H0.out]; rfl, hc⟩
      · have H1 := Lib.hid (takeO_all hkl HA.out hok)
        rw [hok] at cc
        replace cc : ∀ W, Ret 10 #[opRV l[k]] W (.int .i64 0) := cc
        have CC := Lib.hid cc
        clear cc hok hp2 hp3
        generalize l[k] = q at *
        obtain ⟨kd, ⟨m, a, b, c, tag⟩⟩ := q
        go_wp2_with fail
        refine Calls.mono (CC.out _) ?_
        rintro e W1 ⟨rfl, hn⟩
        replace hc := chain hc hn
        go_wp2_with fail
        go_roundw
        case rel => exact ⟨k + 1, by omega, by go_num, H1, hc⟩
        case measure => simp [intOf]; omega
    · obtain rfl : k = N := by omega
      have HALL := Lib.hid (show l.all okR = true by have h := HA.out; rwa [List.take_of_length_le (by rw [HN.out]; exact Nat.le_refl _)] at h)
      clear HA hlt hk
      go_wp2_with fail
      go_loopw [5, 6] (fun sv iv wr => ∃ (i : Nat) (S : ByteArray), i ≤ k ∧ iv = .int .i64 i ∧ sv = .string S ∧ RowKit.Hid (S.data.toList = opsL (l.take i)) ∧ S.size ≤ 65536 ∧ Below w.heap.size w wr) (fun _ iv _ => k - (intOf iv).toNat)
      case atStart => exact ⟨0, ⟨#[]⟩, by omega, rfl, rfl, Lib.hid rfl, by decide, hc⟩
      case round =>
        clear hc
        obtain ⟨i, S, hi, rfl, rfl, HS, hsz, hc⟩ := hrel
        by_cases hlt : i < k
        · have hkl : i < l.length := by rw [HN.out]; exact hlt
          obtain ⟨gg, o, cc0, hvv, x0, x1, x2, x3, x4, x5⟩ := holds_at HV.out hc hkl
          rw [HN.out] at hvv
          injection hvv with hp1 hp2 hp3
          subst hp1
          have hok := List.all_eq_true.1 HALL.out l[i] (List.getElem_mem hkl)
          have hgi := HG.out l[i] (List.getElem_mem hkl)
          have CC := Lib.hid (fun W => rprintO_ok l[i] hok W)
          have hls := opLR_len hok
          have htk : opsL (l.take (i + 1)) = opsL (l.take i) ++ opLR l[i] ++ [10] := by rw [List.take_succ_eq_append_getElem hkl, opsL_snoc]
          have hz : (⟨(opLR l[i]).toArray⟩ : ByteArray).size = (opLR l[i]).length := by show (opLR l[i]).toArray.size = _; rw [List.size_toArray]
          have hzl : (⟨(opLR l[i]).toArray⟩ : ByteArray).data.toList = opLR l[i] := by simp
          obtain ⟨LB, hLB⟩ : ∃ LB : ByteArray, LB = ⟨(opLR l[i]).toArray⟩ := ⟨_, rfl⟩
          rw [← hLB] at hz hzl CC
          have q1 : CatO S LB (S ++ LB) := fun W => add_run rfl (by omega) W
          have q2 : CatO (S ++ LB) nlO (S ++ LB ++ nlO) := fun W => add_run rfl (by rw [ByteArray.size_append]; show _ + 1 ≤ _; omega) W
          have hS2 : (S ++ LB ++ nlO).data.toList = opsL (l.take (i + 1)) := by
            rw [htk, ← HS.out, ← hzl]
            simp [ByteArray.data_append]
          have hs2z : (S ++ LB ++ nlO).size = (opsL (l.take (i + 1))).length := by rw [← hS2, len_bytes]
          have HS2 := Lib.hid hS2
          have HLG := Lib.hid (fun h => printO_long (l := l) HLN.out HALL.out (k := i + 1) h)
          rw [← hs2z] at HLG
          clear hS2 hs2z htk hok hgi hp2 hp3 hz hzl hLB hls HS
          generalize S ++ LB ++ nlO = S3 at *
          generalize S ++ LB = S2 at *
          generalize l[i] = q at *
          obtain ⟨kd, ⟨m, a, b, c, tag⟩⟩ := q
          go_wp2_with fail
          refine Calls.mono (CC.out _) ?_
          rintro e W1 ⟨rfl, hn⟩
          replace hc := chain hc hn
          clear x0 x1 x2 x3 x4 x5 hn
          by_cases hlong : (65536 : Int) < S3.size
          · have H10 := Lib.hid (HLG.out (by omega))
            go_wp2_with fail
            go_returns
            exact ⟨by rw [H10.out]; rfl, hc⟩
          · have hs5 : S3.size ≤ 65536 := by omega
            go_wp2_with fail
            go_roundw
            case rel => exact ⟨i + 1, S3, by omega, by go_num, rfl, HS2, hs5, hc⟩
            case measure => simp [intOf]; omega
        · obtain rfl : i = k := by omega
          have hS := HS.out
          rw [List.take_of_length_le (by rw [HN.out]; exact Nat.le_refl _)] at hS
          have h0 := printO_ok HLN.out HALL.out (by rw [← hS, len_bytes]; exact hsz)
          have hb : (⟨(opsL l).toArray⟩ : ByteArray) = S := str_ext (by rw [hS])
          have H0 := Lib.hid (show (printAllR l).1 = opsL l ∧ (printAllR l).2 = 0 by rw [h0]; exact ⟨rfl, rfl⟩)
          have HB := Lib.hid hb
          clear h0 hb hS
          go_wp2_with fail
          go_returns
          exact ⟨by rw [H0.out.1, H0.out.2, HB.out]; rfl, hc⟩
end Go.Proofs.YthkngleegefgbaaGreatDoor
