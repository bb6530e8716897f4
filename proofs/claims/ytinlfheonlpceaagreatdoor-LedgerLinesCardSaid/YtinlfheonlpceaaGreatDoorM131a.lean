/- Lines that are no attempt's (plain), for LedgerLines. -/
import Derived.Test.YtinlfheonlpceaaGreatDoorM81a
import Derived.Lib.Case
import Derived.Lib.Replace
import Derived.Lib.SplitLaws
import Derived.Test.YtinlfheonlpceaaGreatDoorM61a
import Derived.Test.YtinlfheonlpceaaGreatDoorL0a
import Derived.Deep.CutBlock
namespace Go.Proofs.YtinlfheonlpceaaGreatDoor
open Go.RowKit Go.Lib
set_option linter.unusedVariables false
set_option linter.unusedSimpArgs false
set_option maxHeartbeats 4000000
/-- The bytes of a line. -/
def okB (c : UInt8) : Bool := c == 32 || (decide (48 ≤ c) && decide (c ≤ 58)) || (decide (97 ≤ c) && decide (c ≤ 122))
theorem okB_dig {c : UInt8} (h : isDig c = true) : okB c = true := by
  unfold isDig at h
  simp only [Bool.and_eq_true, decide_eq_true_eq] at h
  unfold okB
  have h1 : (48 : UInt8) ≤ c := h.1
  have h2 : c ≤ 58 := by have := h.2; rw [UInt8.le_iff_toNat_le] at *; simp at *; omega
  simp [h1, h2]
theorem okB_dec (n : Nat) : (decDigits n).all okB = true := by
  rw [List.all_eq_true]
  intro c hc
  exact okB_dig (List.all_eq_true.1 (decDigits_all n) c hc)
theorem okB_dText (k s g : Int) : (dTextL 58 k s g).all okB = true := by
  unfold dTextL
  rw [List.all_cons, List.all_append, List.all_cons, okB_dec, okB_dec]
  have : okB (letterB k) = true := by
    unfold letterB
    split
    · decide
    · split <;> decide
  rw [this]
  decide
theorem okB_why (n : Int) : (whyW n).all okB = true := by
  unfold whyW
  split
  · decide
  · split <;> decide
theorem okB_ans (n : Int) : (ansW n).all okB = true := by
  unfold ansW
  split
  · decide
  · split <;> decide
theorem okB_line (a : AtR) : (lineL a).all okB = true := by
  unfold lineL
  rw [List.all_append, List.all_cons, List.all_append, List.all_cons, List.all_append, List.all_cons, okB_dec, okB_dText, okB_why, okB_ans]
  decide
theorem count32 (a : AtR) : (lineL a).count 32 = 3 := by
  have h1 : (decDigits a.at_.toNat).count 32 = 0 := List.count_eq_zero.2 (dec_no _ _ (.inl rfl))
  have h2 : (dTextL 58 a.k a.i a.g).count 32 = 0 := List.count_eq_zero.2 (dTextL_no _ _ _ _ (.inl rfl))
  have h3 : (whyW a.why).count 32 = 0 := List.count_eq_zero.2 (whyW_no _ _ (.inl rfl))
  have h4 : (ansW a.ans).count 32 = 0 := List.count_eq_zero.2 (ansW_no _ _ (.inl rfl))
  unfold lineL
  rw [List.count_append, List.count_cons_self, List.count_append, List.count_cons_self, List.count_append, List.count_cons_self, h1, h2, h3, h4]
/-- A text that is no line's. -/
def NoA (b : List UInt8) : Prop := (10 : UInt8) ∉ b ∧ ∀ p, ¬ isA p b
theorem no_count {b : List UInt8} (h : (10 : UInt8) ∉ b) (hc : b.count 32 ≠ 3) : NoA b := ⟨h, fun p hp => hc (by rw [← hp.2.2, count32])⟩
theorem no_byte {b : List UInt8} (h : (10 : UInt8) ∉ b) {c : UInt8} (hm : c ∈ b) (hc : okB c = false) : NoA b := ⟨h, fun p hp => by
  rw [← hp.2.2] at hm
  have := List.all_eq_true.1 (okB_line p) c hm
  rw [hc] at this
  cases this⟩
theorem no10_cons {c : UInt8} {l : List UInt8} (hc : c ≠ 10) (h : (10 : UInt8) ∉ l) : (10 : UInt8) ∉ c :: l := by
  simp only [List.mem_cons, not_or]
  exact ⟨fun e => hc e.symm, h⟩
theorem no10_snoc {c : UInt8} {l : List UInt8} (hc : c ≠ 10) (h : (10 : UInt8) ∉ l) : (10 : UInt8) ∉ l ++ [c] := by
  simp only [List.mem_append, List.mem_singleton, not_or]
  exact ⟨h, fun e => hc e.symm⟩
theorem bad_0 (a : AtR) : NoA (48 :: lineL a) := by
  refine ⟨no10_cons (by decide) (lineL_no10 a), fun p hp => ?_⟩
  have h := hp.2.2
  unfold lineL at h
  have h1 := cutAll_at 32 _ (dTextL 58 p.k p.i p.g ++ 32 :: (whyW p.why ++ 32 :: ansW p.ans)) (dec_no p.at_.toNat 32 (.inl rfl))
  have h2 := cutAll_at 32 (48 :: decDigits a.at_.toNat) (dTextL 58 a.k a.i a.g ++ 32 :: (whyW a.why ++ 32 :: ansW a.ans)) (by
    simp only [List.mem_cons, not_or]
    exact ⟨by decide, dec_no _ _ (.inl rfl)⟩)
  rw [h, ← List.cons_append, h2] at h1
  injection h1 with h3 _
  have h4 : valFrom 0 (48 :: decDigits a.at_.toNat) = a.at_.toNat := by
    rw [show valFrom 0 (48 :: decDigits a.at_.toNat) = valFrom 0 (decDigits a.at_.toNat) from rfl, val_decDigits]
  rw [h3, val_decDigits] at h4
  rw [h4] at h3
  have h5 := congrArg List.length h3
  simp at h5
theorem bad_1 (a : AtR) : NoA (lineL a ++ [32]) := no_count (no10_snoc (by decide) (lineL_no10 a)) (by rw [List.count_append, count32]; decide)
theorem bad_2 (a : AtR) : NoA (32 :: lineL a) := no_count (no10_cons (by decide) (lineL_no10 a)) (by rw [List.count_cons_self, count32]; decide)
theorem index_hit (c : UInt8) : ∀ (p q : List UInt8), c ∉ p → indexByte (p ++ c :: q) c = (p.length : Nat)
  | [], q, _ => by simp [indexByte]
  | b :: p, q, h => by
    simp only [List.mem_cons, not_or] at h
    have h2 := index_hit c p q h.2
    have hb : (b == c) = false := by rw [beq_eq_false_iff_ne]; exact fun e => h.1 e.symm
    have hn : (((p.length : Int)) == -1) = false := by rw [beq_eq_false_iff_ne]; omega
    simp only [List.cons_append, indexByte, h2, hb, hn]
    simp
theorem rep_line (a : AtR) : Lib.replace (lineL a) [32] [32, 32] 1 = decDigits a.at_.toNat ++ 32 :: 32 :: (dTextL 58 a.k a.i a.g ++ 32 :: (whyW a.why ++ 32 :: ansW a.ans)) := by
  have hi : index (lineL a) [32] = ((decDigits a.at_.toNat).length : Nat) := by
    rw [index_one]
    exact index_hit 32 _ _ (dec_no _ _ (.inl rfl))
  have hn : replaceNum (lineL a) [32] 1 = 1 := by
    unfold replaceNum
    rw [count_one, count32]
    rfl
  unfold Lib.replace
  rw [if_neg (by decide), hn, replaceK_hit _ _ 0 _ _ hi]
  unfold replaceK lineL
  rw [List.take_left' rfl, show (decDigits a.at_.toNat).length + [(32 : UInt8)].length = (decDigits a.at_.toNat ++ [32]).length by simp]
  rw [show decDigits a.at_.toNat ++ 32 :: (dTextL 58 a.k a.i a.g ++ 32 :: (whyW a.why ++ 32 :: ansW a.ans)) = (decDigits a.at_.toNat ++ [32]) ++ (dTextL 58 a.k a.i a.g ++ 32 :: (whyW a.why ++ 32 :: ansW a.ans)) by simp, List.drop_left' rfl]
  simp
theorem bad_3 (a : AtR) : NoA (Lib.replace (lineL a) [32] [32, 32] 1) := by
  rw [rep_line]
  have h10 := lineL_no10 a
  have h32 := count32 a
  unfold lineL at h10 h32
  simp only [List.mem_append, List.mem_cons, not_or] at h10
  rw [List.count_append, List.count_cons_self] at h32
  refine no_count ?_ ?_
  · simp only [List.mem_append, List.mem_cons, not_or]
    exact ⟨h10.1, by decide, by decide, h10.2.2⟩
  · rw [List.count_append, List.count_cons_self, List.count_cons_self]
    omega
set_option maxRecDepth 100000 in
theorem up_ok {c : UInt8} (h : okB c = true) : upperB c ≠ 10 ∧ c.toNat < 128 := by
  have : ∀ n : Fin 256, okB (UInt8.ofNat n.val) = true → upperB (UInt8.ofNat n.val) ≠ 10 ∧ (UInt8.ofNat n.val).toNat < 128 := by decide
  have h2 := this ⟨c.toNat, c.toNat_lt⟩
  rw [show UInt8.ofNat c.toNat = c from UInt8.ofNat_toNat] at h2
  exact h2 h
theorem ans_up (n : Int) : ∃ c ∈ ansW n, okB (upperB c) = false := by
  unfold ansW
  split
  · exact ⟨111, by decide, by decide⟩
  · split
    · exact ⟨108, by decide, by decide⟩
    · exact ⟨102, by decide, by decide⟩
theorem bad_4 (a : AtR) : NoA (toUpperA (lineL a)) := by
  obtain ⟨c, hc, hu⟩ := ans_up a.ans
  have hm : c ∈ lineL a := by
    unfold lineL
    simp only [List.mem_append, List.mem_cons]
    exact .inr (.inr (.inr (.inr (.inr (.inr hc)))))
  refine no_byte (fun h => ?_) (List.mem_map.2 ⟨c, hm, rfl⟩) hu
  obtain ⟨b, hb, he⟩ := List.mem_map.1 h
  exact (up_ok (List.all_eq_true.1 (okB_line a) b hb)).1 he
theorem bad_5 : NoA [] := no_count (by simp) (by simp)
theorem bad_6 (a : AtR) : NoA (lineL a ++ [13]) := no_byte (no10_snoc (by decide) (lineL_no10 a)) (c := 13) (by simp) (by decide)
theorem bad_7 (a : AtR) : NoA (120 :: lineL a) := by
  refine ⟨no10_cons (by decide) (lineL_no10 a), fun p hp => ?_⟩
  have h := hp.2.2
  unfold lineL at h
  obtain ⟨c, r, h1, h2⟩ := dec_cons p.at_.toNat
  rw [h1, List.cons_append] at h
  injection h with h3 _
  rw [h3] at h2
  exact absurd h2 (by decide)
theorem trim_line (l : List UInt8) : trimSuffix (l ++ [10]) [10] = l := by
  unfold trimSuffix hasSuffix
  rw [if_pos (by rw [List.isSuffixOf_iff_suffix]; exact List.suffix_append _ _)]
  simp
/-- A text whose line k is no attempt's. -/
theorem parse_badA {A : List AtR} (hA : ∀ a ∈ A, aOk a = true ∧ gIn a) {b r : List UInt8} (hb : NoA b) (hs : (linesA A ++ (b ++ 10 :: r)).length ≤ 65536) : parseA (linesA A ++ (b ++ 10 :: r)) = ([], A.length + 1, 9) := by
  unfold parseA
  rw [if_neg (by omega)]
  have h := leftR_lines A [] (b ++ 10 :: r) hA
  rw [leftR_bad hb.1 hb.2, List.nil_append] at h
  exact h
/-- A text without its last line feed. -/
theorem parse_cut {A : List AtR} (hA : ∀ a ∈ A, aOk a = true ∧ gIn a) (x : AtR) (hs : (linesA A ++ lineL x).length ≤ 65536) : parseA (linesA A ++ lineL x) = ([], A.length + 1, 9) := by
  unfold parseA
  rw [if_neg (by omega)]
  have h := leftR_lines A [] (lineL x) hA
  rw [leftR_no (lineL_no10 x) (by unfold lineL; simp), List.nil_append] at h
  exact h
/-- The lines of a text, each with its line feed. -/
theorem cut_lines : ∀ A : List AtR, cutAll 10 (linesA A) = A.map lineL ++ [[]]
  | [] => rfl
  | a :: A => by rw [linesA_cons, cutAll_at 10 _ _ (lineL_no10 a), cut_lines A]; rfl
theorem join_lines : ∀ A : List AtR, Lib.join (A.map fun a => lineL a ++ [10]) [] = linesA A
  | [] => rfl
  | [a] => by simp [Lib.join, linesA]
  | a :: b :: A => by
    have ih := join_lines (b :: A)
    simp only [Lib.join] at ih ⊢
    simp only [List.map_cons, List.intercalate, List.intersperse] at ih ⊢
    simp [linesA] at ih ⊢
    rw [ih]
end Go.Proofs.YtinlfheonlpceaaGreatDoor

/- strings.SplitAfter. Printed by aft07.py. -/
namespace Go.Proofs.YtinlfheonlpceaaGreatDoor
open Go.RowKit
set_option linter.unusedVariables false
set_option linter.unusedSimpArgs false
set_option maxHeartbeats 4000000
set_option maxRecDepth 20000
def aftL (c : UInt8) : List (List UInt8) → List (List UInt8)
  | [] => []
  | [x] => [x]
  | x :: y :: r => (x ++ [c]) :: aftL c (y :: r)
theorem aft_cons (c : UInt8) (x : List UInt8) (r : List (List UInt8)) (h : r ≠ []) : aftL c (x :: r) = (x ++ [c]) :: aftL c r := by
  cases r with
  | nil => exact absurd rfl h
  | cons y r => rfl
theorem aft_end (c : UInt8) : ∀ ys : List (List UInt8), aftL c (ys ++ [[]]) = ys.map (· ++ [c]) ++ [[]]
  | [] => rfl
  | y :: ys => by
    rw [List.cons_append, aft_cons _ _ _ (by simp), aft_end c ys]
    rfl
theorem cutAll_lenA (c : UInt8) : ∀ l : List UInt8, (cutAll c l).length ≤ l.length + 1
  | [] => by simp [cutAll]
  | b :: l => by
    have ih := cutAll_lenA c l
    rw [cutAll_cons]
    split
    · simp; omega
    · cases hc : cutAll c l with
      | nil => exact absurd hc (cutAll_ne c l)
      | cons h t => rw [hc] at ih; simp at ih ⊢; omega
theorem splitB_aft (c : UInt8) (k : Nat) : ∀ (s : ByteArray), s.size ≤ k →
    (Lib.splitB ⟨#[c]⟩ 1 (Lib.countB s ⟨#[c]⟩) s).map (·.data.toList) = aftL c (cutAll c s.data.toList) := by
  induction k with
  | zero =>
    intro s hs
    have hl : s.data.toList = [] := List.eq_nil_of_length_eq_zero (by rw [len_bytes]; omega)
    have hi : Lib.indexB s ⟨#[c]⟩ = -1 := by unfold Lib.indexB; rw [hl]; rfl
    rw [Lib.countB_miss _ _ hi, Lib.splitB_zero, hl]
    simp [cutAll, hl, aftL]
  | succ k ih =>
    intro s hs
    by_cases hm : c ∈ s.data.toList
    · obtain ⟨pre, post, hp, he⟩ : ∃ pre post, c ∉ pre ∧ s.data.toList = pre ++ c :: post := by
        clear ih hs
        generalize s.data.toList = l at hm
        induction l with
        | nil => simp at hm
        | cons b l ih2 =>
          by_cases hb : b = c
          · exact ⟨[], l, by simp, by rw [hb]; rfl⟩
          · obtain ⟨pre, post, h1, h2⟩ := ih2 (by
              rcases List.mem_cons.1 hm with h | h
              · exact absurd h.symm hb
              · exact h)
            exact ⟨b :: pre, post, by simp only [List.mem_cons, not_or]; exact ⟨fun e => hb e.symm, h1⟩, by rw [h2]; rfl⟩
      have hi : Lib.indexB s ⟨#[c]⟩ = (pre.length : Nat) := by
        unfold Lib.indexB
        rw [he, show (ByteArray.mk #[c]).data.toList = [c] from rfl, Lib.index_one]
        clear ih hs hm he
        induction pre with
        | nil => simp [Lib.indexByte]
        | cons b pre ih2 =>
          simp only [List.mem_cons, not_or] at hp
          have h2 := ih2 hp.2
          have hb : (b == c) = false := by rw [beq_eq_false_iff_ne]; exact fun e => hp.1 e.symm
          have hn : (((pre.length : Int)) == -1) = false := by rw [beq_eq_false_iff_ne]; omega
          simp only [List.cons_append, Lib.indexByte, h2, hb, hn]
          simp
      have hsz : s.size = pre.length + 1 + post.length := by rw [← len_bytes, he]; simp; omega
      have hx : (s.extract (pre.length + (ByteArray.mk #[c]).size) s.size).data.toList = post := by
        rw [Lib.extract_to_end, he, show (ByteArray.mk #[c]).size = 1 from rfl]
        simp
      have hx0 : (s.extract 0 (pre.length + 1)).data.toList = pre ++ [c] := by
        rw [Lib.extract_data, he]
        simp
        rw [show pre ++ c :: post = (pre ++ [c]) ++ post by simp, List.take_left' (by simp)]
      have i1 := ih (s.extract (pre.length + (ByteArray.mk #[c]).size) s.size) (by rw [← len_bytes, hx]; omega)
      rw [hx] at i1
      rw [Lib.countB_hit s ⟨#[c]⟩ pre.length (Nat.le_refl 1) hi, Nat.add_comm 1, Lib.splitB_hit _ _ _ _ _ hi, he, cutAll_at c pre post hp, List.map_cons, i1, hx0, aft_cons _ _ _ (cutAll_ne c post)]
    · have hi : Lib.indexB s ⟨#[c]⟩ = -1 := by
        unfold Lib.indexB
        rw [show (ByteArray.mk #[c]).data.toList = [c] from rfl, Lib.index_one]
        clear ih hs
        generalize s.data.toList = l at hm
        induction l with
        | nil => rfl
        | cons b l ih2 =>
          simp only [List.mem_cons, not_or] at hm
          have hb : (b == c) = false := by rw [beq_eq_false_iff_ne]; exact fun e => hm.1 e.symm
          simp only [Lib.indexByte, ih2 hm.2, hb]
          rfl
      rw [Lib.countB_miss _ _ hi, Lib.splitB_zero, cutAll_no c _ hm]
      simp [aftL]
theorem splitAfter_c (s : ByteArray) (w : World) (hw : w.ShapedOpen Tryz.prog) (hs : s.size ≤ 1000000) (hn : (cutAll 10 s.data.toList).length ≤ 1000) :
    Calls Tryz.prog 16 #[.string s, .string ⟨#[10]⟩] w fun e w' => ∃ xs : List ByteArray, e = .returned (.slice (some ⟨w.heap.size, 0, none⟩) xs.length xs.length) ∧ Row w' w.heap.size (xs.map Value.string).toArray 9 ∧ xs.map (·.data.toList) = aftL 10 (cutAll 10 s.data.toList) ∧ Below w.heap.size w w' := by
  have ha := splitB_aft 10 s.size s (Nat.le_refl _)
  have hc := (splitB_cutAll 10 s.size s (Nat.le_refl _)).2
  obtain ⟨m, hm⟩ := Tryz.laysM146.s1_3 w hw
  have hl := cutAll_lenA 10 s.data.toList
  rw [len_bytes] at hl
  have c := Tryz.strings_genSplit s ⟨#[10]⟩ 1 (-1) (Lib.countB s ⟨#[10]⟩ + 1) m w (by omega) hm (Nat.le_refl 1) (Nat.le_refl 1) (by decide) (by decide) (by rw [if_pos (by decide)]; omega)
  rw [Nat.add_sub_cancel] at c
  generalize Lib.splitB ⟨#[10]⟩ 1 (Lib.countB s ⟨#[10]⟩) s = xs at *
  have hal : (aftL 10 (cutAll 10 s.data.toList)).length = (cutAll 10 s.data.toList).length := by
    generalize cutAll 10 s.data.toList = ys
    clear ha hc hl hn
    induction ys with
    | nil => rfl
    | cons y r ih => cases r with
      | nil => rfl
      | cons z r => simp only [aftL, List.length_cons] at ih ⊢; omega
  have hxl : xs.length = Lib.countB s ⟨#[10]⟩ + 1 := by rw [hc, ← hal, ← ha, List.length_map]
  rw [← hxl] at c
  have hco : Lib.cellsOf xs xs.length = (xs.map Value.string).toArray := by simp [Lib.cellsOf]
  rw [hco] at c
  have C := Lib.hid c
  have HA := Lib.hid ha
  have HX : xs.length ≤ 1000 := by omega
  clear c hco hxl hal hl hm hc ha hs hn
  go_enter Tryz.func16, Tryz.ntmps16
  go_wp2_with fail
  refine Calls.mono C.out ?_
  rintro e W1 ⟨rfl, rfl⟩
  go_wp2_with fail
  go_returns
  exact ⟨xs, by simp, Row.new, HA.out, below_alloc _ _⟩
end Go.Proofs.YtinlfheonlpceaaGreatDoor

/- LedgerLines walked. -/
namespace Go.Proofs.YtinlfheonlpceaaGreatDoor
open Go.RowKit
set_option linter.unusedVariables false
set_option linter.unusedSimpArgs false
set_option maxHeartbeats 40000000
set_option maxRecDepth 20000
theorem app_l (a b : ByteArray) : (a ++ b).data.toList = a.data.toList ++ b.data.toList := by rw [ByteArray.data_append, Array.toList_append]
theorem arr_l (l : List UInt8) : (⟨l.toArray⟩ : ByteArray).data.toList = l := by simp
theorem arr_s (l : List UInt8) : (⟨l.toArray⟩ : ByteArray).size = l.length := by show l.toArray.size = _; rw [List.size_toArray]
/-- strings.Join over lines, at a piece of a block. -/
theorem joinA (X o c n : Nat) (xs l : List ByteArray) (t : TypeId) (B : List AtR) (w : World) (hr : Row w X (xs.map Value.string).toArray t) (hl : l.length = n) (hx : ∀ j, j < n → l[j]? = xs[o + j]?) (hB : l.map (·.data.toList) = B.map fun a => lineL a ++ [10]) (hn : n ≤ 1000) (hc : n ≤ c) (hs : (linesA B).length ≤ 65536) :
    Calls Tryz.prog 20 #[.slice (some ⟨X, o, none⟩) n c, .string ⟨#[]⟩] w fun e w' => e = .returned (.string ⟨(linesA B).toArray⟩) ∧ Below w.heap.size w w' := by
  have hj : Lib.join (l.map (·.data.toList)) (⟨#[]⟩ : ByteArray).data.toList = linesA B := by rw [hB]; exact join_lines B
  have h := Tryz.strings_Join X o c l ⟨#[]⟩ w (fun j x hjx => by
    have hlt : j < n := by
      rcases Nat.lt_or_ge j l.length with h | h
      · omega
      · rw [List.getElem?_eq_none h] at hjx; cases hjx
    rw [hr.cell, List.getElem?_toArray, List.getElem?_map, ← hx j hlt, hjx]; rfl) hr.lt (by omega) (by omega) (by rw [hj]; omega)
  rw [hl, hj] at h
  exact h
theorem lines_at {A : List AtR} {K : Nat} (h : K < A.length) : linesA A = linesA (A.take K) ++ (lineL A[K] ++ 10 :: linesA (A.drop (K + 1))) := by
  have e : A = A.take K ++ A[K] :: A.drop (K + 1) := by rw [List.getElem_cons_drop, List.take_append_drop]
  have h2 := congrArg linesA e
  rw [linesA_app, linesA_cons] at h2
  exact h2
theorem pieces {xs : List ByteArray} {A : List AtR} (h : xs.map (·.data.toList) = (A.map lineL).map (· ++ [10]) ++ [[]]) {k : Nat} (hk : k < A.length) :
    (xs.take k).map (·.data.toList) = (A.take k).map (fun a => lineL a ++ [10]) ∧ ((xs.drop (k + 1)).take (A.length - (k + 1))).map (·.data.toList) = (A.drop (k + 1)).map (fun a => lineL a ++ [10]) := by
  have h2 : xs.map (·.data.toList) = A.map (fun a => lineL a ++ [10]) ++ [[]] := by rw [h, List.map_map]; rfl
  refine ⟨?_, ?_⟩
  · rw [List.map_take, h2, List.take_append_of_le_length (by rw [List.length_map]; omega), List.map_take]
  · rw [List.map_take, List.map_drop, h2, List.drop_append_of_le_length (by rw [List.length_map]; omega), List.take_append_of_le_length (by rw [List.length_drop, List.length_map]; omega), List.take_of_length_le (by rw [List.length_drop, List.length_map]; omega), List.map_drop]
theorem lines_sum {A : List AtR} {k : Nat} (h : k < A.length) : (linesA (A.take k)).length + (linesA (A.drop (k + 1))).length ≤ (linesA A).length := by
  have h2 := congrArg List.length (lines_at h)
  rw [List.length_append, List.length_append, List.length_cons] at h2
  omega
theorem lines_walk (v : Value) (n : Nat) (E : Nat → List Value) (which what : Int) (w : World) (hE : EnvP w) (hsl : Sl w v leavesE n E) (h0 : 0 ≤ which) (h1 : which ≤ 255) (g0 : 0 ≤ what) (g1 : what ≤ 255) :
    Ret 3 #[v, .int .u8 which, .int .u8 what] w (.bool true) := by
  obtain ⟨L, hl⟩ := sl_en hsl
  have hA := attsL_ok L
  have hAL := attsL_len L
  have HE := Lib.hid hE
  have hts := lines_size _ hA
  have cp := fun W hW v hv => lprint_c v (attsL L) W hW hv (by omega) (fun q hq => (hA q hq).2)
  rw [print_lines hA (by omega)] at cp
  have CP := Lib.hid (show ∀ W, Env W → ∀ v, HoldsA W v (attsL L) → Ret 13 #[v] W (.tuple #[.string ⟨(linesA (attsL L)).toArray⟩, .int .i64 0]) from cp)
  have hc := Below.refl w.heap.size w
  clear cp hE hsl
  go_enter Tryz.func3, Tryz.ntmps3
  have HA := Lib.hid hA
  have HTS := Lib.hid hts
  clear hA hts
  go_wp2_with fail
  refine Calls.mono (attempts_c v L _ hl) ?_
  rintro e VA ⟨⟨u, rfl, ho⟩, hn⟩
  clear hl
  replace hc := chain hc hn
  clear hn
  generalize attsL L = A at *
  go_wp2_with fail
  refine Calls.mono (CP.out _ (HE.out.on hc).toEnv _ (OwnsA.holds ho)) ?_
  rintro e V1 ⟨rfl, hn⟩
  replace ho := ho.on hn
  replace hc := chain hc hn
  clear hn
  clear ho CP
  rcases List.eq_nil_or_concat A with hA0 | ⟨B, z, hA0⟩
  · rw [show (⟨(linesA A).toArray⟩ : ByteArray) = ⟨#[]⟩ by rw [hA0]; rfl]
    clear HA HTS hA0
    go_wp2_with fail
    refine Calls.mono (works _ (HE.out.on hc)) ?_
    rintro e V2 ⟨rfl, hn⟩
    replace hc := chain hc hn
    clear hn
    go_wp2_with fail
    go_returns
    exact ⟨rfl, hc⟩
  rw [List.concat_eq_append] at hA0
  obtain ⟨T, hT⟩ : ∃ T : ByteArray, T = ⟨(linesA A).toArray⟩ := ⟨_, rfl⟩
  have hTl : T.data.toList = linesA A := by rw [hT, arr_l]
  have hTs : T.size = (linesA A).length := by rw [hT, arr_s]
  rw [← hT]
  clear hT
  have hts := HTS.out
  have hN : A.length = B.length + 1 := by rw [hA0, List.length_append]; rfl
  have hne : T.toList.isEmpty = false := by rw [ByteArray.toList_eq, hTl, hA0, linesA_snoc]; simp
  have hlB : linesA A = (linesA B ++ lineL z) ++ [10] := by rw [hA0, linesA_snoc]
  have ct := fun W => Tryz.strings_TrimSuffix T ⟨#[10]⟩ W (by omega)
  rw [hTl, show (⟨#[10]⟩ : ByteArray).data.toList = [10] from rfl, hlB, trim_line] at ct
  have CT := Lib.hid ct
  have hBok : ∀ a ∈ B, aOk a = true ∧ gIn a := fun a ha => HA.out a (by rw [hA0]; exact List.mem_append_left _ ha)
  have hlen2 : (linesA B ++ lineL z).length ≤ 65536 := by have := congrArg List.length hlB; rw [List.length_append] at this; omega
  have cq := fun W hW => lparse_c ⟨(linesA B ++ lineL z).toArray⟩ W hW (by rw [arr_s]; omega)
  unfold ParseP at cq
  rw [arr_l, parse_cut hBok z hlen2] at cq
  have CQ := Lib.hid cq
  clear ct cq hBok hlen2
  have ca := fun W (hW : Env W) => splitAfter_c T W hW.shp (by omega) (by rw [hTl, cut_lines, List.length_append, List.length_map]; simp; omega)
  rw [hTl, cut_lines, aft_end] at ca
  have CA := Lib.hid ca
  clear ca
  obtain ⟨M, hM⟩ : ∃ M : Nat, M = B.length + 1 := ⟨_, rfl⟩
  obtain ⟨kx, hK⟩ : ∃ kx : Nat, kx = which.toNat % M := ⟨_, rfl⟩
  have hKlt : kx < M := by rw [hK]; exact Nat.mod_lt _ (by omega)
  have hmod : which % (M : Int) = (kx : Int) := by rw [hK, Int.natCast_emod, Int.toNat_of_nonneg h0]
  have hM1 : 1 ≤ M := by omega
  have hM2 : M ≤ 100 := by omega
  have HMOD := Lib.hid hmod
  have HM := Lib.hid hM
  clear hmod hM
  skip
  skip
  clear hTl hTs hts hlB
  go_wp2_with fail
  refine Calls.mono (CA.out _ (HE.out.on hc).toEnv) ?_
  rintro e VS ⟨xs, rfl, rx, hxs, hn⟩
  replace hc := chain hc hn
  clear hn
  generalize V1.heap.size = X at *
  clear CA
  have hxl : xs.length = M + 1 := by have h9 := congrArg List.length hxs; have h8 := HM.out; simp at h9; omega
  rw [hxl]
  have HXL := Lib.hid hxl
  have HNN := Lib.hid hN
  have HKK := Lib.hid hK
  have HA0 := Lib.hid hA0
  have HXS := Lib.hid hxs
  clear hxl hN hK hA0 hxs
  have hmod := HMOD.out
  go_upto_region 9 with fail
  rw [hmod]
  clear hmod
  have hKA : kx < A.length := by rw [HNN.out, ← HM.out]; exact hKlt
  obtain ⟨a, ha⟩ : ∃ a, a = A[kx] := ⟨_, rfl⟩
  have hakk : A[kx]? = some a := by rw [List.getElem?_eq_getElem hKA, ha]
  have haok := HA.out a (by rw [ha]; exact List.getElem_mem hKA)
  have hal := lineL_len haok.1 haok.2
  have hxk : xs[kx]? = some (xs[kx]'(by rw [HXL.out]; omega)) := List.getElem?_eq_getElem _
  generalize xs[kx]'_ = x at hxk
  have hxd : x.data.toList = lineL a ++ [10] := by
    have h9 := congrArg (fun l => l[kx]?) HXS.out
    simp only [List.getElem?_map, hxk] at h9
    rw [List.getElem?_append_left (by simp; exact hKA), List.getElem?_map, List.getElem?_map, hakk] at h9
    simpa using h9
  have ct2 := fun W => Tryz.strings_TrimSuffix x ⟨#[10]⟩ W (by have h9 := len_bytes x; rw [hxd] at h9; simp at h9; omega)
  rw [hxd, show (⟨#[10]⟩ : ByteArray).data.toList = [10] from rfl, trim_line] at ct2
  have CT2 := Lib.hid ct2
  have d0 : VS.cell? ⟨X, kx, none⟩ = some (.string x) := by rw [rx.cell, List.getElem?_toArray, List.getElem?_map, hxk]; rfl
  have HAK := Lib.hid ha
  have HAO := Lib.hid haok
  clear ct2 hxd hxk ha hakk haok
  obtain ⟨Y, hY⟩ : ∃ Y : ByteArray, Y = ⟨(lineL a).toArray⟩ := ⟨_, rfl⟩
  rw [← hY] at CT2
  have hYl : Y.data.toList = lineL a := by rw [hY, arr_l]
  have hYs : Y.size = (lineL a).length := by rw [hY, arr_s]
  clear hY
  have HYL := Lib.hid hYl
  have HYS := Lib.hid hYs
  have HLL := Lib.hid hal
  clear hYl hYs hal
  skip
  go_wp2_with fail
  refine Calls.mono (CT2.out _) ?_
  rintro e W2 ⟨rfl, hw⟩
  subst hw
  clear d0 CT2
  go_upto_block 0 with fail
  go_cut [11] (fun bv wx => ∃ bd : ByteArray, bv = .string bd ∧ NoA bd.data.toList ∧ bd.size ≤ 200 ∧ Below W2.heap.size W2 wx)
  case first =>
    have hs : what % 8 = 0 ∨ what % 8 = 1 ∨ what % 8 = 2 ∨ what % 8 = 3 ∨ what % 8 = 4 ∨ what % 8 = 5 ∨ what % 8 = 6 ∨ what % 8 = 7 := by omega
    rcases hs with hs | hs | hs | hs | hs | hs | hs | hs
    · have e0 : (what % 8 == 0) = true := by rw [hs]; decide
      have d0 : decide (what % 8 = 0) = true := by rw [hs]; decide
      clear hs
      have h1 := HYS.out
      have h2 := HLL.out
      go_wp2_with fail
      go_meet
      exact ⟨⟨#[48]⟩ ++ Y, rfl, by rw [app_l, HYL.out]; exact bad_0 a, by rw [ByteArray.size_append, h1]; show _ + _ ≤ _; have : (⟨#[0]⟩ : ByteArray).size = 1 := rfl; first | (change _ + 1 ≤ _; omega) | (change 1 + _ ≤ _; omega), Below.refl _ _⟩
    · have e0 : (what % 8 == 0) = false := by rw [hs]; decide
      have d0 : decide (what % 8 = 0) = false := by rw [hs]; decide
      have e1 : (what % 8 == 1) = true := by rw [hs]; decide
      have d1 : decide (what % 8 = 1) = true := by rw [hs]; decide
      clear hs
      have h1 := HYS.out
      have h2 := HLL.out
      go_wp2_with fail
      go_meet
      exact ⟨Y ++ ⟨#[32]⟩, rfl, by rw [app_l, HYL.out]; exact bad_1 a, by rw [ByteArray.size_append, h1]; show _ + _ ≤ _; have : (⟨#[0]⟩ : ByteArray).size = 1 := rfl; first | (change _ + 1 ≤ _; omega) | (change 1 + _ ≤ _; omega), Below.refl _ _⟩
    · have e0 : (what % 8 == 0) = false := by rw [hs]; decide
      have d0 : decide (what % 8 = 0) = false := by rw [hs]; decide
      have e1 : (what % 8 == 1) = false := by rw [hs]; decide
      have d1 : decide (what % 8 = 1) = false := by rw [hs]; decide
      have e2 : (what % 8 == 2) = true := by rw [hs]; decide
      have d2 : decide (what % 8 = 2) = true := by rw [hs]; decide
      clear hs
      have h1 := HYS.out
      have h2 := HLL.out
      go_wp2_with fail
      go_meet
      exact ⟨⟨#[32]⟩ ++ Y, rfl, by rw [app_l, HYL.out]; exact bad_2 a, by rw [ByteArray.size_append, h1]; show _ + _ ≤ _; have : (⟨#[0]⟩ : ByteArray).size = 1 := rfl; first | (change _ + 1 ≤ _; omega) | (change 1 + _ ≤ _; omega), Below.refl _ _⟩
    · have e0 : (what % 8 == 0) = false := by rw [hs]; decide
      have d0 : decide (what % 8 = 0) = false := by rw [hs]; decide
      have e1 : (what % 8 == 1) = false := by rw [hs]; decide
      have d1 : decide (what % 8 = 1) = false := by rw [hs]; decide
      have e2 : (what % 8 == 2) = false := by rw [hs]; decide
      have d2 : decide (what % 8 = 2) = false := by rw [hs]; decide
      have e3 : (what % 8 == 3) = true := by rw [hs]; decide
      have d3 : decide (what % 8 = 3) = true := by rw [hs]; decide
      clear hs
      have h1 := HYS.out
      have h2 := HLL.out
      have cr := fun W (hW : Env W) => Tryz.strings_Replace_shaped Y ⟨#[32]⟩ ⟨#[32, 32]⟩ 1 W hW.shp (by omega) (Nat.le_refl 1) (by have h9 := Lib.countB_le ⟨#[32]⟩ (by decide) Y.size Y (Nat.le_refl _); rw [show (⟨#[32, 32]⟩ : ByteArray).size = 2 from rfl]; omega)
      rw [HYL.out, show (⟨#[32]⟩ : ByteArray).data.toList = [32] from rfl, show (⟨#[32, 32]⟩ : ByteArray).data.toList = [32, 32] from rfl] at cr
      have CR := Lib.hid cr
      clear cr
      go_wp2_with fail
      refine Calls.mono (CR.out _ (HE.out.on hc).toEnv) ?_
      rintro e W3 ⟨rfl, hn⟩
      go_wp2_with fail
      go_meet
      exact ⟨_, rfl, by rw [arr_l]; exact bad_3 a, by rw [arr_s, rep_line]; unfold lineL at h2; simp only [List.length_append, List.length_cons] at h2 ⊢; omega, hn⟩
    · have e0 : (what % 8 == 0) = false := by rw [hs]; decide
      have d0 : decide (what % 8 = 0) = false := by rw [hs]; decide
      have e1 : (what % 8 == 1) = false := by rw [hs]; decide
      have d1 : decide (what % 8 = 1) = false := by rw [hs]; decide
      have e2 : (what % 8 == 2) = false := by rw [hs]; decide
      have d2 : decide (what % 8 = 2) = false := by rw [hs]; decide
      have e3 : (what % 8 == 3) = false := by rw [hs]; decide
      have d3 : decide (what % 8 = 3) = false := by rw [hs]; decide
      have e4 : (what % 8 == 4) = true := by rw [hs]; decide
      have d4 : decide (what % 8 = 4) = true := by rw [hs]; decide
      clear hs
      have h1 := HYS.out
      have h2 := HLL.out
      have cu := fun W => Tryz.strings_ToUpper_ascii Y W (by omega) (by rw [HYL.out]; intro j b hb; exact (up_ok (List.all_eq_true.1 (okB_line a) b (List.mem_of_getElem? hb))).2)
      rw [HYL.out] at cu
      have CU := Lib.hid cu
      clear cu
      go_wp2_with fail
      refine Calls.mono (CU.out _) ?_
      rintro e W3 ⟨rfl, hn⟩
      go_wp2_with fail
      go_meet
      exact ⟨_, rfl, by rw [arr_l]; exact bad_4 a, by rw [arr_s]; unfold Lib.toUpperA; rw [List.length_map]; omega, hn⟩
    · have e0 : (what % 8 == 0) = false := by rw [hs]; decide
      have d0 : decide (what % 8 = 0) = false := by rw [hs]; decide
      have e1 : (what % 8 == 1) = false := by rw [hs]; decide
      have d1 : decide (what % 8 = 1) = false := by rw [hs]; decide
      have e2 : (what % 8 == 2) = false := by rw [hs]; decide
      have d2 : decide (what % 8 = 2) = false := by rw [hs]; decide
      have e3 : (what % 8 == 3) = false := by rw [hs]; decide
      have d3 : decide (what % 8 = 3) = false := by rw [hs]; decide
      have e4 : (what % 8 == 4) = false := by rw [hs]; decide
      have d4 : decide (what % 8 = 4) = false := by rw [hs]; decide
      have e5 : (what % 8 == 5) = true := by rw [hs]; decide
      have d5 : decide (what % 8 = 5) = true := by rw [hs]; decide
      clear hs
      have h1 := HYS.out
      have h2 := HLL.out
      go_wp2_with fail
      go_meet
      exact ⟨⟨#[]⟩, rfl, bad_5, by decide, Below.refl _ _⟩
    · have e0 : (what % 8 == 0) = false := by rw [hs]; decide
      have d0 : decide (what % 8 = 0) = false := by rw [hs]; decide
      have e1 : (what % 8 == 1) = false := by rw [hs]; decide
      have d1 : decide (what % 8 = 1) = false := by rw [hs]; decide
      have e2 : (what % 8 == 2) = false := by rw [hs]; decide
      have d2 : decide (what % 8 = 2) = false := by rw [hs]; decide
      have e3 : (what % 8 == 3) = false := by rw [hs]; decide
      have d3 : decide (what % 8 = 3) = false := by rw [hs]; decide
      have e4 : (what % 8 == 4) = false := by rw [hs]; decide
      have d4 : decide (what % 8 = 4) = false := by rw [hs]; decide
      have e5 : (what % 8 == 5) = false := by rw [hs]; decide
      have d5 : decide (what % 8 = 5) = false := by rw [hs]; decide
      have e6 : (what % 8 == 6) = true := by rw [hs]; decide
      have d6 : decide (what % 8 = 6) = true := by rw [hs]; decide
      clear hs
      have h1 := HYS.out
      have h2 := HLL.out
      go_wp2_with fail
      go_meet
      exact ⟨Y ++ ⟨#[13]⟩, rfl, by rw [app_l, HYL.out]; exact bad_6 a, by rw [ByteArray.size_append, h1]; show _ + _ ≤ _; have : (⟨#[0]⟩ : ByteArray).size = 1 := rfl; first | (change _ + 1 ≤ _; omega) | (change 1 + _ ≤ _; omega), Below.refl _ _⟩
    · have e0 : (what % 8 == 0) = false := by rw [hs]; decide
      have d0 : decide (what % 8 = 0) = false := by rw [hs]; decide
      have e1 : (what % 8 == 1) = false := by rw [hs]; decide
      have d1 : decide (what % 8 = 1) = false := by rw [hs]; decide
      have e2 : (what % 8 == 2) = false := by rw [hs]; decide
      have d2 : decide (what % 8 = 2) = false := by rw [hs]; decide
      have e3 : (what % 8 == 3) = false := by rw [hs]; decide
      have d3 : decide (what % 8 = 3) = false := by rw [hs]; decide
      have e4 : (what % 8 == 4) = false := by rw [hs]; decide
      have d4 : decide (what % 8 = 4) = false := by rw [hs]; decide
      have e5 : (what % 8 == 5) = false := by rw [hs]; decide
      have d5 : decide (what % 8 = 5) = false := by rw [hs]; decide
      have e6 : (what % 8 == 6) = false := by rw [hs]; decide
      have d6 : decide (what % 8 = 6) = false := by rw [hs]; decide
      clear hs
      have h1 := HYS.out
      have h2 := HLL.out
      go_wp2_with fail
      go_meet
      exact ⟨⟨#[120]⟩ ++ Y, rfl, by rw [app_l, HYL.out]; exact bad_7 a, by rw [ByteArray.size_append, h1]; show _ + _ ≤ _; have : (⟨#[0]⟩ : ByteArray).size = 1 := rfl; first | (change _ + 1 ≤ _; omega) | (change 1 + _ ≤ _; omega), Below.refl _ _⟩
  case rest =>
    obtain ⟨bd, rfl, hno, hbs, hn⟩ := hcut
    replace hc := chain hc hn
    replace rx := rx.on hn
    clear hn
    have hxd2 : ∀ j, j < M → xs[j]? = some (xs[j]?.getD ⟨#[]⟩) := fun j hj => by rw [List.getElem?_eq_getElem (by rw [HXL.out]; omega)]; rfl
    go_upto_region 26 with fail
    refine wp_region_held_drew (S := fun W' => True) (by kernel_rfl) trivial (fun hHeld => ?_)
    replace hc := hc.drew
    replace rx := rx.drew
    generalize wc.drew = X0 at *
    have hk1 : (kx : Int) ≤ (M : Int) + 1 := by omega
    have hk2 : IntKind.i64.wrap ((kx : Int) + 1) = (kx : Int) + 1 := IntWalk.i64_in _ ⟨by omega, by omega⟩
    have hk3 : (0 : Int) ≤ (kx : Int) + 1 := by omega
    have hk4 : (kx : Int) + 1 ≤ (M : Int) := by omega
    have hk5 : ((kx : Int) + 1).toNat = kx + 1 := by omega
    have hk6 : ¬ (M + 1 = kx + 1) := by omega
    have hk7 : ¬ (M = kx) := by omega
    refine' wpAnyH_take (i := 0) (oi := _) (v := _) ?_ (by kernel_rfl) (by kernel_rfl) (by kernel_rfl) ?_ (Or.inl ⟨?_, ?_⟩) (by assumption) ?_
    rotate_left 2
    · (simp only [List.getElem?_toArray, List.getElem?_cons_succ, List.getElem?_cons_zero]; rfl)
    · first | exact fun _ _ _ h => h | exact fun _ _ _ h => nomatch h.1
    · rfl
    · (intro W hSW; (try dsimp only at hSW); go_split_ands; first | (go_simp; done) | (go_simp; with_reducible rfl))
    try simp only [Act.put, List.setIfInBounds_toArray, List.set_cons_zero, List.set_cons_succ]
    refine' wpAnyH_take (i := 1) (oi := _) (v := _) ?_ (by kernel_rfl) (by kernel_rfl) (by kernel_rfl) ?_ (Or.inl ⟨?_, ?_⟩) (by assumption) ?_
    rotate_left 2
    · (simp only [List.getElem?_toArray, List.getElem?_cons_succ, List.getElem?_cons_zero]; rfl)
    · first | exact fun _ _ _ h => h | exact fun _ _ _ h => nomatch h.1
    · rfl
    · (intro W hSW; (try dsimp only at hSW); go_split_ands; first | (go_simp; done) | (go_simp; with_reducible rfl))
    try simp only [Act.put, List.setIfInBounds_toArray, List.set_cons_zero, List.set_cons_succ]
    refine' wpAnyH_take (i := 2) (oi := _) (v := _) ?_ (by kernel_rfl) (by kernel_rfl) (by kernel_rfl) ?_ (Or.inl ⟨?_, ?_⟩) (by assumption) ?_
    rotate_left 2
    · (simp only [List.getElem?_toArray, List.getElem?_cons_succ, List.getElem?_cons_zero]; rfl)
    · first | exact fun _ _ _ h => h | exact fun _ _ _ h => nomatch h.1
    · rfl
    · (intro W hSW; (try dsimp only at hSW); go_split_ands; first | (go_simp; done) | (go_simp; with_reducible rfl))
    try simp only [Act.put, List.setIfInBounds_toArray, List.set_cons_zero, List.set_cons_succ]
    refine' wpAnyH_take (i := 4) (oi := _) (v := _) ?_ (by kernel_rfl) (by kernel_rfl) (by kernel_rfl) ?_ (Or.inl ⟨?_, ?_⟩) (by assumption) ?_
    rotate_left 2
    · (simp only [List.getElem?_toArray, List.getElem?_cons_succ, List.getElem?_cons_zero]; rfl)
    · first | exact fun _ _ _ h => h | exact fun _ _ _ h => nomatch h.1
    · rfl
    · (intro W hSW; (try dsimp only at hSW); go_split_ands; first | (go_simp; done) | (go_simp; with_reducible rfl))
    try simp only [Act.put, List.setIfInBounds_toArray, List.set_cons_zero, List.set_cons_succ]
    refine' wpAnyH_take (i := 7) (oi := _) (v := _) ?_ (by kernel_rfl) (by kernel_rfl) (by kernel_rfl) ?_ (Or.inl ⟨?_, ?_⟩) (by assumption) ?_
    rotate_left 2
    · (simp only [List.getElem?_toArray, List.getElem?_cons_succ, List.getElem?_cons_zero]; rfl)
    · first | exact fun _ _ _ h => h | exact fun _ _ _ h => nomatch h.1
    · rfl
    · (intro W hSW; (try dsimp only at hSW); go_split_ands; first | (go_simp; done) | (go_simp; with_reducible rfl))
    try simp only [Act.put, List.setIfInBounds_toArray, List.set_cons_zero, List.set_cons_succ]
    refine' wpAnyH_take (i := 8) (oi := _) (v := _) ?_ (by kernel_rfl) (by kernel_rfl) (by kernel_rfl) ?_ (Or.inl ⟨?_, ?_⟩) (by assumption) ?_
    rotate_left 2
    · (simp only [List.getElem?_toArray, List.getElem?_cons_succ, List.getElem?_cons_zero]; rfl)
    · first | exact fun _ _ _ h => h | exact fun _ _ _ h => nomatch h.1
    · rfl
    · (intro W hSW; (try dsimp only at hSW); go_split_ands; first | (go_simp; done) | (go_simp; with_reducible rfl))
    try simp only [Act.put, List.setIfInBounds_toArray, List.set_cons_zero, List.set_cons_succ]
    refine' wpAnyH_take (i := 9) (oi := _) (v := _) ?_ (by kernel_rfl) (by kernel_rfl) (by kernel_rfl) ?_ (Or.inl ⟨?_, ?_⟩) (by assumption) ?_
    rotate_left 2
    · (simp only [List.getElem?_toArray, List.getElem?_cons_succ, List.getElem?_cons_zero]; rfl)
    · first | exact fun _ _ _ h => h | exact fun _ _ _ h => nomatch h.1
    · rfl
    · (intro W hSW; (try dsimp only at hSW); go_split_ands; first | (go_simp; done) | (go_simp; with_reducible rfl))
    try simp only [Act.put, List.setIfInBounds_toArray, List.set_cons_zero, List.set_cons_succ]
    refine' wpAnyH_take (i := 10) (oi := _) (v := _) ?_ (by kernel_rfl) (by kernel_rfl) (by kernel_rfl) ?_ (Or.inl ⟨?_, ?_⟩) (by assumption) ?_
    rotate_left 2
    · (simp only [List.getElem?_toArray, List.getElem?_cons_succ, List.getElem?_cons_zero]; rfl)
    · first | exact fun _ _ _ h => h | exact fun _ _ _ h => nomatch h.1
    · rfl
    · (intro W hSW; (try dsimp only at hSW); go_split_ands; first | (go_simp; done) | (go_simp; with_reducible rfl))
    try simp only [Act.put, List.setIfInBounds_toArray, List.set_cons_zero, List.set_cons_succ]
    clear hk1 hk2 hk3 hk4 hk5 hk6 hk7
    clear hHeld
    refine wpAnyH_ready (rs := [3]) (by kernel_rfl) (by simp) ?_
    refine' AllReadyH.cons (o := _) ?_ (fun K hK => ?_) AllReadyH.nil
    rotate_left 1
    · (simp only [List.getElem?_toArray, List.getElem?_cons_succ, List.getElem?_cons_zero]; rfl)
    go_simp
    have hpc := pieces HXS.out hKA
    have hsum := lines_sum hKA
    have hts := HTS.out
    have hMA : M = A.length := by rw [HM.out, HNN.out]
    obtain ⟨J1, hJ1⟩ : ∃ J : ByteArray, J = ⟨(linesA (A.take kx)).toArray⟩ := ⟨_, rfl⟩
    obtain ⟨J2, hJ2⟩ : ∃ J : ByteArray, J = ⟨(linesA (A.drop (kx + 1))).toArray⟩ := ⟨_, rfl⟩
    have j1 := fun W (hr : Row W X (xs.map Value.string).toArray 9) => joinA X 0 (M + 1) kx xs (xs.take kx) _ (A.take kx) W hr (by rw [List.length_take, HXL.out]; omega) (fun j hj => by rw [List.getElem?_take, if_pos hj, Nat.zero_add]) hpc.1 (by omega) (by omega) (by omega)
    have j2 := fun W (hr : Row W X (xs.map Value.string).toArray 9) => joinA X (kx + 1) (M - kx) (M - (kx + 1)) xs ((xs.drop (kx + 1)).take (A.length - (kx + 1))) _ (A.drop (kx + 1)) W hr (by rw [List.length_take, List.length_drop, HXL.out]; omega) (fun j hj => by rw [List.getElem?_take, if_pos (by omega), List.getElem?_drop]) hpc.2 (by omega) (by omega) (by omega)
    rw [← hJ1] at j1
    rw [← hJ2] at j2
    have hwl : (((J1 ++ bd) ++ ⟨#[10]⟩) ++ J2).data.toList = linesA (A.take kx) ++ (bd.data.toList ++ 10 :: linesA (A.drop (kx + 1))) := by rw [app_l, app_l, app_l, hJ1, hJ2, arr_l, arr_l]; simp
    have hs1 : J1.size ≤ 6100 := by rw [hJ1, arr_s]; omega
    have hs2 : J2.size ≤ 6100 := by rw [hJ2, arr_s]; omega
    have hs3 : (J1 ++ bd).size = J1.size + bd.size := ByteArray.size_append
    have hs4 : ((J1 ++ bd) ++ ⟨#[10]⟩).size = J1.size + bd.size + 1 := by rw [ByteArray.size_append, hs3]; rfl
    have hs5 : (((J1 ++ bd) ++ ⟨#[10]⟩) ++ J2).size = J1.size + bd.size + 1 + J2.size := by rw [ByteArray.size_append, hs4]
    have hws : (((J1 ++ bd) ++ ⟨#[10]⟩) ++ J2).size ≤ 20000 := by omega
    have hv1 : ¬ (9223372036854775807 < J1.size + bd.size) := by omega
    have hv2 : ¬ (9223372036854775807 < J1.size + bd.size + 1) := by omega
    have hv3 : ¬ (9223372036854775807 < J1.size + bd.size + 1 + J2.size) := by omega
    clear hs1 hs2
    have cw := fun W hW => lparse_c (((J1 ++ bd) ++ ⟨#[10]⟩) ++ J2) W hW (by omega)
    unfold ParseP at cw
    have hwl2 := len_bytes (((J1 ++ bd) ++ ⟨#[10]⟩) ++ J2)
    rw [hwl] at cw hwl2
    rw [parse_badA (fun a ha => HA.out a (List.mem_of_mem_take ha)) hno (by omega), List.length_take] at cw
    rw [show min kx A.length = kx by omega, show ((kx + 1 : Nat) : Int) = (kx : Int) + 1 from rfl] at cw
    have CJ1 := Lib.hid j1
    have CJ2 := Lib.hid j2
    have CWH := Lib.hid cw
    clear j1 j2 cw hwl hwl2 hws hs5 hs3 hs4 hMA hJ1 hJ2 hpc hsum hts hno hbs
    refine Calls.mono (CJ1.out _ rx) ?_
    rintro e V8 ⟨rfl, hn⟩
    replace hc := chain hc hn
    replace rx := rx.on hn
    clear hn
    go_simp
    refine hK.out _ _ trivial (fun hHeld => ?_)
    clear hK K
    refine' wpAnyH_take (i := 5) (oi := _) (v := _) ?_ (by kernel_rfl) (by kernel_rfl) (by kernel_rfl) ?_ (Or.inl ⟨?_, ?_⟩) (by assumption) ?_
    rotate_left 2
    · (simp only [List.getElem?_toArray, List.getElem?_cons_succ, List.getElem?_cons_zero]; rfl)
    · first | exact fun _ _ _ h => h | exact fun _ _ _ h => nomatch h.1
    · rfl
    · (intro W hSW; (try dsimp only at hSW); go_split_ands; first | (go_simp; done) | (go_simp; with_reducible rfl))
    try simp only [Act.put, List.setIfInBounds_toArray, List.set_cons_zero, List.set_cons_succ]
    refine' wpAnyH_take (i := 6) (oi := _) (v := _) ?_ (by kernel_rfl) (by kernel_rfl) (by kernel_rfl) ?_ (Or.inl ⟨?_, ?_⟩) (by assumption) ?_
    rotate_left 2
    · (simp only [List.getElem?_toArray, List.getElem?_cons_succ, List.getElem?_cons_zero]; rfl)
    · first | exact fun _ _ _ h => h | exact fun _ _ _ h => nomatch h.1
    · rfl
    · (intro W hSW; (try dsimp only at hSW); go_split_ands; first | (go_simp; done) | (go_simp; with_reducible rfl))
    try simp only [Act.put, List.setIfInBounds_toArray, List.set_cons_zero, List.set_cons_succ]
    clear hHeld
    refine wpAnyH_ready (rs := [11]) (by kernel_rfl) (by simp) ?_
    refine' AllReadyH.cons (o := _) ?_ (fun K hK => ?_) AllReadyH.nil
    rotate_left 1
    · (simp only [List.getElem?_toArray, List.getElem?_cons_succ, List.getElem?_cons_zero]; rfl)
    go_simp
    refine Calls.mono (CJ2.out _ rx) ?_
    rintro e V9 ⟨rfl, hn⟩
    replace hc := chain hc hn
    clear hn rx
    go_simp
    refine hK.out _ _ trivial (fun hHeld => ?_)
    clear hK K
    refine' wpAnyH_take (i := 12) (oi := _) (v := _) ?_ (by kernel_rfl) (by kernel_rfl) (by kernel_rfl) ?_ (Or.inl ⟨?_, ?_⟩) (by assumption) ?_
    rotate_left 2
    · (simp only [List.getElem?_toArray, List.getElem?_cons_succ, List.getElem?_cons_zero]; rfl)
    · first | exact fun _ _ _ h => h | exact fun _ _ _ h => nomatch h.1
    · rfl
    · (intro W hSW; (try dsimp only at hSW); go_split_ands; first | (go_simp; done) | (go_simp; with_reducible rfl))
    try simp only [Act.put, List.setIfInBounds_toArray, List.set_cons_zero, List.set_cons_succ]
    refine' wpAnyH_take (i := 13) (oi := _) (v := _) ?_ (by kernel_rfl) (by kernel_rfl) (by kernel_rfl) ?_ (Or.inl ⟨?_, ?_⟩) (by assumption) ?_
    rotate_left 2
    · (simp only [List.getElem?_toArray, List.getElem?_cons_succ, List.getElem?_cons_zero]; rfl)
    · first | exact fun _ _ _ h => h | exact fun _ _ _ h => nomatch h.1
    · rfl
    · (intro W hSW; (try dsimp only at hSW); go_split_ands; first | (go_simp; done) | (go_simp; with_reducible rfl))
    try simp only [Act.put, List.setIfInBounds_toArray, List.set_cons_zero, List.set_cons_succ]
    refine wpAnyH_done (by kernel_rfl) ?_ _
    clear hv1 hv2 hv3
    generalize ((J1 ++ bd) ++ ⟨#[10]⟩) ++ J2 = WH at *
    go_wp2_with fail
    refine Calls.mono (CWH.out _ (HE.out.on hc)) ?_
    rintro e V10 ⟨⟨u5, rfl, h5⟩, hn⟩
    obtain ⟨p5, c5, rfl⟩ := (OwnsA.holds h5).len
    clear h5
    replace hc := chain hc hn
    clear hn
    go_wp2_with fail
    refine Calls.mono (CT.out _) ?_
    rintro e V11 ⟨rfl, hw⟩
    subst hw
    generalize (⟨(linesA B ++ lineL z).toArray⟩ : ByteArray) = T2 at *
    skip
    go_wp2_with fail
    refine Calls.mono (CQ.out _ (HE.out.on hc)) ?_
    rintro e V12 ⟨⟨u6, rfl, h6⟩, hn⟩
    obtain ⟨p6, c6, rfl⟩ := (OwnsA.holds h6).len
    clear h6
    replace hc := chain hc hn
    clear hn
    rw [← HM.out]
    go_wp2_with fail
    refine Calls.mono (works _ (HE.out.on hc)) ?_
    rintro e V21 ⟨rfl, hn⟩
    replace hc := chain hc hn
    clear hn
    go_wp2_with fail
    go_returns
    exact ⟨rfl, hc⟩
end Go.Proofs.YtinlfheonlpceaaGreatDoor
