/- How the reference reads objects, in plain Lean. No program in sight. -/
import Derived.Test.YtpegkcmomkdoeaaDoorFieldText
namespace Go.Proofs.YtpegkcmomkdoeaaDoor
open Go.Lib (decDigits)
set_option linter.unusedVariables false
set_option linter.unusedSimpArgs false

/-- A word as a reference; whether it is one. -/
def refR (w : List UInt8) : Rf × Bool := if w = [45] then ((0, 0), true) else
  if (46 : UInt8) ∈ w then ((numV (Lib.cut w [46]).1, gParse (Lib.cut w [46]).2.1), numB (Lib.cut w [46]).1 && isGen (Lib.cut w [46]).2.1 && decide (numV (Lib.cut w [46]).1 < 256)) else ((0, 0), false)
theorem numB_of_dec (n : Nat) (h : n < 10000000000) : numB (decDigits n) = true ∧ numV (decDigits n) = n := by
  have hb : numB (decDigits n) = true := by
    unfold numB
    rw [decide_eq_true_iff, val_decDigits]
    exact ⟨nDigits_le_10 n h, rfl⟩
  refine ⟨hb, ?_⟩
  rw [(numB_val hb).1, val_decDigits]
theorem refR_rL {r : Rf} (h : rFit r = true) : refR (rL r) = (r, true) := by
  rcases rFit_cases h with rfl | ⟨_, h⟩
  · rw [rL_none]; rfl
  · have hl := rL_ok h
    rw [rOk_iff] at h
    have h1 : rL r ≠ [45] := by
      rw [hl]
      intro e
      have : (46 : UInt8) ∈ [(45 : UInt8)] := by rw [← e]; simp
      simp at this
    obtain ⟨n1, n2⟩ := numB_of_dec r.1.toNat (by omega)
    have hg : isGen (decDigits r.2.toNat) = true := (isGen_iff _).2 ⟨_, by omega, by omega, rfl⟩
    unfold refR
    rw [if_neg h1, if_pos (by rw [hl]; simp), hl, cut_at _ _ 46 (not_mem_dec rfl)]
    simp only
    rw [n1, n2, hg, (gParse_digits (by omega) (by omega)).1]
    simp only [Bool.true_and, Prod.mk.injEq, decide_eq_true_iff]
    exact ⟨Prod.ext (by simp; omega) (by simp; omega), by omega⟩
theorem refR_ok {w : List UInt8} (h : (refR w).2 = true) : rFit (refR w).1 = true ∧ rL (refR w).1 = w := by
  unfold refR at h ⊢
  split
  · rename_i e
    subst e
    exact ⟨by decide, by decide⟩
  · rename_i e
    rw [if_neg e] at h
    split
    · rename_i hm
      rw [if_pos hm] at h
      rcases mem_split w 46 with hn | ⟨pre, post, hp, rfl⟩
      · exact absurd hm hn
      rw [cut_at pre post 46 hp] at h ⊢
      simp only [Bool.and_eq_true, decide_eq_true_iff] at h ⊢
      obtain ⟨⟨h1, h2⟩, h3⟩ := h
      obtain ⟨v1, v2⟩ := numB_val h1
      obtain ⟨n, n1, n2, n3⟩ := (isGen_iff _).1 h2
      have hg := (gParse_digits n1 n2).1
      rw [n3] at hg
      have hb := numV_bound pre
      have ho : rOk (numV pre, gParse post) = true := by rw [rOk_iff]; simp only; omega
      refine ⟨by unfold rFit; rw [ho]; simp, ?_⟩
      rw [rL_ok ho]
      simp only
      rw [hg, v1, Int.toNat_natCast, Int.toNat_natCast, v2, n3]
    · rename_i hm
      rw [if_neg hm] at h
      cases h
/-- What is behind the word 'object', as fields; none: it is no text of an object. -/
def rp : Nat → List UInt8 → Option (List Rf)
  | _, [] => some []
  | 0, _ :: _ => none
  | f + 1, c :: tl => if c = 32 then (if (refR (tl.takeWhile (· ≠ 32))).2 then (rp f (tl.dropWhile (· ≠ 32))).map ((refR (tl.takeWhile (· ≠ 32))).1 :: ·) else none) else none
def fL (l : List Rf) : List UInt8 := l.flatMap fun r => 32 :: rL r
theorem fL_cons (r : Rf) (l : List Rf) : fL (r :: l) = 32 :: (rL r ++ fL l) := by simp [fL]
theorem fL_head (l : List Rf) : ∀ c t, fL l = c :: t → c = 32 := by
  cases l with
  | nil => intro c t h; simp [fL] at h
  | cons r l => intro c t h; rw [fL_cons] at h; injection h with h _; exact h.symm
theorem takeWhile_space (p q : List UInt8) (hp : (32 : UInt8) ∉ p) (hq : ∀ c t, q = c :: t → c = 32) : (p ++ q).takeWhile (· ≠ 32) = p ∧ (p ++ q).dropWhile (· ≠ 32) = q := by
  induction p with
  | nil =>
    cases q with
    | nil => simp
    | cons c t => obtain rfl := hq c t rfl; simp
  | cons b p ih =>
    simp only [List.mem_cons, not_or] at hp
    have hb : b ≠ 32 := fun e => hp.1 e.symm
    obtain ⟨i1, i2⟩ := ih hp.2
    simp only [List.cons_append, List.takeWhile_cons, List.dropWhile_cons]
    simp only [hb, ne_eq, not_false_eq_true, decide_true, if_true]
    exact ⟨by rw [i1], i2⟩
theorem rp_of (f : Nat) : ∀ l : List Rf, l.length ≤ f → (∀ r ∈ l, rFit r = true) → rp f (fL l) = some l := by
  induction f with
  | zero =>
    intro l hl _
    obtain rfl : l = [] := List.eq_nil_of_length_eq_zero (by omega)
    rfl
  | succ f ih =>
    intro l hl hf
    cases l with
    | nil => rfl
    | cons r l =>
      simp at hl
      obtain ⟨t1, t2⟩ := takeWhile_space (rL r) (fL l) rL_space (fL_head l)
      rw [fL_cons, rp, t1, t2, refR_rL (hf r (by simp)), ih l hl (fun x hx => hf x (by simp [hx]))]
      rfl
theorem rp_some (f : Nat) : ∀ (s : List UInt8) (l : List Rf), rp f s = some l → l.length ≤ f ∧ (∀ r ∈ l, rFit r = true) ∧ s = fL l := by
  induction f with
  | zero =>
    intro s l h
    cases s with
    | nil => simp only [rp, Option.some.injEq] at h; subst h; simp [fL]
    | cons c t => simp [rp] at h
  | succ f ih =>
    intro s l h
    cases s with
    | nil => simp only [rp, Option.some.injEq] at h; subst h; simp [fL]
    | cons c t =>
      rw [rp] at h
      split at h
      · rename_i hc
        split at h
        · rename_i hr
          cases hx : rp f (t.dropWhile (· ≠ 32)) with
          | none => rw [hx] at h; simp at h
          | some l' =>
            rw [hx] at h
            simp only [Option.map_some, Option.some.injEq] at h
            subst h
            obtain ⟨i1, i2, i3⟩ := ih _ _ hx
            obtain ⟨j1, j2⟩ := refR_ok hr
            refine ⟨by simp; omega, ?_, ?_⟩
            · intro r hrm
              rcases List.mem_cons.1 hrm with rfl | hrm
              · exact j1
              · exact i2 r hrm
            · rw [fL_cons, j2, ← i3, List.takeWhile_append_dropWhile, hc]
        · cases h
      · cases h
def fldAt (l : List Rf) (k : Nat) : Rf := l.getD k (0, 0)
theorem oL_fL (n : Int) (a b c d : Rf) (h : Bool) : oL n a b c d h = kindL h ++ fL (([a, b, c, d] : List Rf).take n.toNat) := by
  have key : ∀ (x : List UInt8) (l : List Rf), Lib.join (x :: l.map rL) [32] = x ++ fL l := by
    intro x l
    induction l generalizing x with
    | nil => simp [Lib.join, List.intercalate, fL]
    | cons r l ih =>
      have := ih (rL r)
      rw [List.map_cons, show Lib.join (x :: rL r :: l.map rL) [32] = x ++ 32 :: Lib.join (rL r :: l.map rL) [32] by simp [Lib.join, List.intercalate, List.intersperse], this, fL_cons]
  unfold oL oWords
  exact key _ _
/-- What was read is the text of that object. -/
theorem rp_isO {s : List UInt8} {l : List Rf} (h : rp 4 s = some l) : IsO (kindL false ++ s) (l.length : Nat) (fldAt l 0) (fldAt l 1) (fldAt l 2) (fldAt l 3) false := by
  obtain ⟨h1, h2, h3⟩ := rp_some 4 s l h
  have key : ∀ k : Nat, fOk (l.length : Nat) (k : Nat) (fldAt l k) = true := by
    intro k
    unfold fldAt
    rcases Nat.lt_or_ge k l.length with hk | hk
    · rw [List.getD_eq_getElem?_getD, List.getElem?_eq_getElem hk, Option.getD_some]
      exact fOk_of (h2 _ (List.getElem_mem hk)) (by omega)
    · rw [List.getD_eq_getElem?_getD, List.getElem?_eq_none hk, Option.getD_none]
      exact fOk_zero _ _
  refine ⟨oOk_iff.2 ⟨⟨by omega, by omega⟩, (fun h => (by cases h)), key 0, key 1, key 2, key 3⟩, ?_⟩
  rw [oL_fL, h3]
  congr 2
  rw [Int.toNat_natCast]
  clear h h2 h3 key
  match l, h1 with
  | [], _ => rfl
  | [_], _ => rfl
  | [_, _], _ => rfl
  | [_, _, _], _ => rfl
  | [_, _, _, _], _ => rfl
theorem isO_rp {s : List UInt8} {n : Int} {a b c d : Rf} (h : IsO (kindL false ++ s) n a b c d false) : rp 4 s = some (([a, b, c, d] : List Rf).take n.toNat) := by
  obtain ⟨⟨n0, n1⟩, -, f0, f1, f2, f3⟩ := oOk_iff.1 h.ok
  have he := h.eq
  rw [oL_fL] at he
  have hs := List.append_cancel_left he
  rw [hs]
  refine rp_of 4 _ (by simp; omega) (fun r hr => ?_)
  have hm := List.mem_of_mem_take hr
  simp at hm
  rcases hm with rfl | rfl | rfl | rfl
  · exact fOk_fit f0
  · exact fOk_fit f1
  · exact fOk_fit f2
  · exact fOk_fit f3
end Go.Proofs.YtpegkcmomkdoeaaDoor
