/- The texts of references and objects in plain Lean. No program in sight. -/
import Derived.Test.YtpegkcmomkdoeaaDoorFieldSpec
import Derived.Test.YtpegkcmomkdoeaaDoorDescrSpec
import Derived.Test.YtpegkcmomkdoeaaDoorSplit
namespace Go.Proofs.YtpegkcmomkdoeaaDoor
open Go.Lib (decDigits)
set_option linter.unusedVariables false
set_option linter.unusedSimpArgs false

def rL (r : Rf) : List UInt8 := if rNone r then [45] else decDigits r.1.toNat ++ 46 :: decDigits r.2.toNat
def kindL (h : Bool) : List UInt8 := if h then [104, 97, 110, 100, 108, 101] else [111, 98, 106, 101, 99, 116]
def oWords (n : Int) (a b c d : Rf) (h : Bool) : List (List UInt8) := kindL h :: ([a, b, c, d].take n.toNat).map rL
def oL (n : Int) (a b c d : Rf) (h : Bool) : List UInt8 := Lib.join (oWords n a b c d h) [32]
def oText (n : Int) (a b c d : Rf) (h : Bool) : ByteArray := ⟨(oL n a b c d h).toArray⟩
theorem oText_list (n : Int) (a b c d : Rf) (h : Bool) : (oText n a b c d h).data.toList = oL n a b c d h := by simp [oText]
/-- The text l is that of this possible object. -/
structure IsO (l : List UInt8) (n : Int) (a b c d : Rf) (h : Bool) : Prop where
  ok : oOk n a b c d h = true
  eq : l = oL n a b c d h

theorem rNone_eq {r : Rf} (h : rNone r = true) : r = (0, 0) := by
  unfold rNone at h
  rw [decide_eq_true_iff] at h
  exact Prod.ext h.1 h.2
theorem rNone_0 : rNone (0, 0) = true := by decide
theorem rOk_iff {r : Rf} : rOk r = true ↔ 0 ≤ r.1 ∧ r.1 < 256 ∧ 1 ≤ r.2 ∧ r.2 ≤ 4294967295 := by unfold rOk; rw [decide_eq_true_iff]
theorem rOk_none {r : Rf} (h : rOk r = true) : rNone r = false := by
  rw [rOk_iff] at h
  unfold rNone
  rw [decide_eq_false_iff_not]
  omega
/-- A reference that is none, or possible. -/
def rFit (r : Rf) : Bool := rNone r || rOk r
theorem rFit_cases {r : Rf} (h : rFit r = true) : r = (0, 0) ∨ (rNone r = false ∧ rOk r = true) := by
  unfold rFit at h
  cases hn : rNone r
  · rw [hn] at h; exact .inr ⟨rfl, by simpa using h⟩
  · exact .inl (rNone_eq hn)
theorem fOk_fit {n i : Int} {r : Rf} (h : fOk n i r = true) : rFit r = true := by
  unfold fOk at h
  unfold rFit
  cases hn : rNone r
  · rw [hn] at h
    simp at h
    simp [h.2]
  · rfl
theorem fOk_over {n i : Int} {r : Rf} (h : fOk n i r = true) (hi : n ≤ i) : r = (0, 0) := by
  unfold fOk at h
  cases hn : rNone r
  · rw [hn] at h
    simp at h
    omega
  · exact rNone_eq hn
theorem fOk_of {n i : Int} {r : Rf} (h : rFit r = true) (hi : i < n) : fOk n i r = true := by
  unfold fOk
  unfold rFit at h
  cases hn : rNone r
  · rw [hn] at h
    simp at h
    simp [h, hi]
  · rfl
theorem fOk_zero (n i : Int) : fOk n i (0, 0) = true := by unfold fOk; rw [rNone_0]; rfl
theorem oOk_iff {n : Int} {a b c d : Rf} {h : Bool} : oOk n a b c d h = true ↔ (0 ≤ n ∧ n ≤ 4) ∧ (h = true → n = 0) ∧ fOk n 0 a = true ∧ fOk n 1 b = true ∧ fOk n 2 c = true ∧ fOk n 3 d = true := by
  unfold oOk
  simp only [Bool.and_eq_true, decide_eq_true_iff, Bool.not_eq_true', Bool.and_eq_false_iff, decide_eq_false_iff_not]
  constructor
  · rintro ⟨⟨⟨⟨⟨h1, h2⟩, h3⟩, h4⟩, h5⟩, h6⟩
    refine ⟨h1, fun hh => ?_, h3, h4, h5, h6⟩
    rcases h2 with h2 | h2
    · rw [hh] at h2; cases h2
    · omega
  · rintro ⟨h1, h2, h3, h4, h5, h6⟩
    refine ⟨⟨⟨⟨⟨h1, ?_⟩, h3⟩, h4⟩, h5⟩, h6⟩
    cases h
    · exact .inl rfl
    · exact .inr (by have := h2 rfl; omega)
theorem rL_none : rL (0, 0) = [45] := by simp [rL, rNone_0]
theorem rL_ok {r : Rf} (h : rOk r = true) : rL r = decDigits r.1.toNat ++ 46 :: decDigits r.2.toNat := by simp [rL, rOk_none h]
theorem rL_space {r : Rf} : (32 : UInt8) ∉ rL r := by
  unfold rL
  split
  · decide
  · simp only [List.mem_append, List.mem_cons, not_or]
    exact ⟨not_mem_dec rfl, by decide, not_mem_dec rfl⟩
theorem rL_len {r : Rf} (h : rFit r = true) : (rL r).length ≤ 21 ∧ 1 ≤ (rL r).length := by
  rcases rFit_cases h with rfl | ⟨_, h⟩
  · rw [rL_none]; simp
  · rw [rL_ok h]
    rw [rOk_iff] at h
    have h1 := nDigits_le_10 r.1.toNat (by omega)
    have h2 := nDigits_le_10 r.2.toNat (by omega)
    simp
    omega
theorem rL_inj {r q : Rf} (h : rFit r = true) (h' : rFit q = true) (e : rL r = rL q) : r = q := by
  rcases rFit_cases h with rfl | ⟨_, h⟩ <;> rcases rFit_cases h' with rfl | ⟨_, h'⟩
  · rfl
  · rw [rL_none, rL_ok h'] at e
    have : (46 : UInt8) ∈ [(45 : UInt8)] := by rw [e]; simp
    simp at this
  · rw [rL_none, rL_ok h] at e
    have : (46 : UInt8) ∈ [(45 : UInt8)] := by rw [← e]; simp
    simp at this
  · rw [rL_ok h, rL_ok h'] at e
    obtain ⟨e1, e2⟩ := split_unique (not_mem_dec rfl) (not_mem_dec rfl) e
    have e3 := decDigits_inj e1
    have e4 := decDigits_inj e2
    rw [rOk_iff] at h h'
    exact Prod.ext (by omega) (by omega)
theorem kindL_space (h : Bool) : (32 : UInt8) ∉ kindL h := by cases h <;> decide
theorem kindL_inj {h h' : Bool} (e : kindL h = kindL h') : h = h' := by cases h <;> cases h' <;> first | rfl | (exact absurd e (by decide))
theorem oWords_space (n : Int) (a b c d : Rf) (h : Bool) : ∀ x ∈ oWords n a b c d h, (32 : UInt8) ∉ x := by
  intro x hx
  unfold oWords at hx
  rcases List.mem_cons.1 hx with rfl | hx
  · exact kindL_space h
  · obtain ⟨r, _, rfl⟩ := List.mem_map.1 hx
    exact rL_space
theorem oL_cut (n : Int) (a b c d : Rf) (h : Bool) : cutAll 32 (oL n a b c d h) = oWords n a b c d h := cutAll_join 32 _ (by simp [oWords]) (oWords_space n a b c d h)
theorem oWords_len {n : Int} {a b c d : Rf} {h : Bool} (n0 : 0 ≤ n) (n1 : n ≤ 4) : (oWords n a b c d h).length = n.toNat + 1 := by simp [oWords]; omega
theorem IsO.unique {l : List UInt8} {n m : Int} {a b c d a' b' c' d' : Rf} {h h' : Bool} (x : IsO l n a b c d h) (y : IsO l m a' b' c' d' h') : n = m ∧ a = a' ∧ b = b' ∧ c = c' ∧ d = d' ∧ h = h' := by
  have e : oWords n a b c d h = oWords m a' b' c' d' h' := by rw [← oL_cut, ← oL_cut, ← x.eq, ← y.eq]
  obtain ⟨⟨n0, n1⟩, -, f0, f1, f2, f3⟩ := oOk_iff.1 x.ok
  obtain ⟨⟨m0, m1⟩, -, g0, g1, g2, g3⟩ := oOk_iff.1 y.ok
  have hl := congrArg List.length e
  rw [oWords_len n0 n1, oWords_len m0 m1] at hl
  obtain rfl : n = m := by omega
  unfold oWords at e
  injection e with e1 e2
  have hh := kindL_inj e1
  have fa : ∀ {i : Int} {r q : Rf}, fOk n i r = true → fOk n i q = true → (i < n → rL r = rL q) → r = q := by
    intro i r q h1 h2 h3
    by_cases hi : i < n
    · exact rL_inj (fOk_fit h1) (fOk_fit h2) (h3 hi)
    · rw [fOk_over h1 (by omega), fOk_over h2 (by omega)]
  rcases (by omega : n = 0 ∨ n = 1 ∨ n = 2 ∨ n = 3 ∨ n = 4) with rfl | rfl | rfl | rfl | rfl <;> simp at e2
  · exact ⟨rfl, fa f0 g0 (by omega), fa f1 g1 (by omega), fa f2 g2 (by omega), fa f3 g3 (by omega), hh⟩
  · exact ⟨rfl, fa f0 g0 (fun _ => e2), fa f1 g1 (by omega), fa f2 g2 (by omega), fa f3 g3 (by omega), hh⟩
  · exact ⟨rfl, fa f0 g0 (fun _ => e2.1), fa f1 g1 (fun _ => e2.2), fa f2 g2 (by omega), fa f3 g3 (by omega), hh⟩
  · exact ⟨rfl, fa f0 g0 (fun _ => e2.1), fa f1 g1 (fun _ => e2.2.1), fa f2 g2 (fun _ => e2.2.2), fa f3 g3 (by omega), hh⟩
  · exact ⟨rfl, fa f0 g0 (fun _ => e2.1), fa f1 g1 (fun _ => e2.2.1), fa f2 g2 (fun _ => e2.2.2.1), fa f3 g3 (fun _ => e2.2.2.2), hh⟩

theorem fOk_in' {n i : Int} {r : Rf} (h : fOk n i r = true) (hn : rNone r = false) : i < n ∧ rOk r = true := by
  unfold fOk at h
  rw [hn] at h
  simpa using h
theorem full_ok {n : Int} {a b c d : Rf} {h : Bool} (ho : oOk n a b c d h = true) : ∀ x ∈ full a b c d, 0 ≤ x.1 ∧ x.1 < n ∧ rOk x.2 = true := by
  obtain ⟨-, -, f0, f1, f2, f3⟩ := oOk_iff.1 ho
  intro x hx
  rw [full, List.mem_filter] at hx
  obtain ⟨hm, hn⟩ := hx
  simp only [Bool.not_eq_true'] at hn
  simp only [List.mem_cons, List.not_mem_nil, or_false] at hm
  rcases hm with rfl | rfl | rfl | rfl
  · exact ⟨by simp, fOk_in' f0 hn⟩
  · exact ⟨by simp, fOk_in' f1 hn⟩
  · exact ⟨by simp, fOk_in' f2 hn⟩
  · exact ⟨by simp, fOk_in' f3 hn⟩
theorem rText_list (r : Rf) : (rText r).data.toList = rL r := by
  unfold rText rL
  split
  · rfl
  · simp [digits]
theorem rText_none {r : Rf} (h : rNone r = true) : rText r = ⟨#[45]⟩ := by unfold rText; rw [h]; rfl
theorem oL_len {n : Int} {a b c d : Rf} {h : Bool} (ho : oOk n a b c d h = true) : (oL n a b c d h).length ≤ 94 ∧ 6 ≤ (oL n a b c d h).length := by
  obtain ⟨⟨n0, n1⟩, -, f0, f1, f2, f3⟩ := oOk_iff.1 ho
  have l0 := (rL_len (fOk_fit f0)).1
  have l1 := (rL_len (fOk_fit f1)).1
  have l2 := (rL_len (fOk_fit f2)).1
  have l3 := (rL_len (fOk_fit f3)).1
  have lk : (kindL h).length = 6 := by cases h <;> rfl
  unfold oL oWords
  rcases (by omega : n = 0 ∨ n = 1 ∨ n = 2 ∨ n = 3 ∨ n = 4) with rfl | rfl | rfl | rfl | rfl <;> simp [Lib.join, List.intercalate, List.intersperse] <;> omega
/-- What the program's field reads a word as. -/
def fieldV (w : List UInt8) : Rf := match Lib.atoiAll (Lib.cut w [46]).1 with
  | .ok v => if isGen (Lib.cut w [46]).2.1 then (v, gParse (Lib.cut w [46]).2.1) else (0, 0)
  | _ => (0, 0)
theorem fieldV_rL {r : Rf} (h : rFit r = true) : fieldV (rL r) = r := by
  rcases rFit_cases h with rfl | ⟨_, h⟩
  · rw [rL_none]
    rfl
  · rw [rL_ok h]
    rw [rOk_iff] at h
    unfold fieldV
    rw [cut_at _ _ 46 (not_mem_dec rfl)]
    simp only
    rw [atoi_dec _ (by omega)]
    simp only
    have hg : isGen (decDigits r.2.toNat) = true := (isGen_iff _).2 ⟨_, by omega, by omega, rfl⟩
    rw [hg, if_pos rfl, (gParse_digits (by omega) (by omega)).1]
    exact Prod.ext (by omega) (by omega)
end Go.Proofs.YtpegkcmomkdoeaaDoor
