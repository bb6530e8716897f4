/- A text cut at every place of one byte, in plain Lean; strings.Split gives just that. No program in sight. -/
import Derived.Test.YtpegkcmomkdoeaaDoorGenSpec
import Derived.Lib.SplitLaws
import Derived.Lib.CountLaws
import Derived.Lib.IndexBytes
import Derived.Lib.IndexMore
import Derived.Lib.Join
namespace Go.Proofs.YtpegkcmomkdoeaaDoor
open Go.Lib (decDigits)
set_option linter.unusedVariables false

def cutAll (c : UInt8) : List UInt8 → List (List UInt8)
  | [] => [[]]
  | b :: l => if b = c then [] :: cutAll c l else match cutAll c l with
    | h :: t => (b :: h) :: t
    | [] => [[b]]
theorem cutAll_cons (c b : UInt8) (l : List UInt8) : cutAll c (b :: l) = if b = c then [] :: cutAll c l else match cutAll c l with
    | h :: t => (b :: h) :: t
    | [] => [[b]] := rfl
theorem cutAll_ne (c : UInt8) (l : List UInt8) : cutAll c l ≠ [] := by
  cases l with
  | nil => simp [cutAll]
  | cons b l =>
    rw [cutAll_cons]
    split
    · simp
    · split <;> simp
theorem cutAll_no (c : UInt8) (l : List UInt8) (h : c ∉ l) : cutAll c l = [l] := by
  induction l with
  | nil => rfl
  | cons b l ih =>
    simp only [List.mem_cons, not_or] at h
    rw [cutAll_cons]
    rw [if_neg (fun e => h.1 e.symm), ih h.2]
theorem cutAll_at (c : UInt8) (pre post : List UInt8) (h : c ∉ pre) : cutAll c (pre ++ c :: post) = pre :: cutAll c post := by
  induction pre with
  | nil => simp [cutAll]
  | cons b pre ih =>
    simp only [List.mem_cons, not_or] at h
    rw [List.cons_append]
    rw [cutAll_cons]
    rw [if_neg (fun e => h.1 e.symm), ih h.2]
theorem cutAll_join (c : UInt8) : ∀ (l : List (List UInt8)), l ≠ [] → (∀ x ∈ l, c ∉ x) → cutAll c (Lib.join l [c]) = l
  | [], h, _ => absurd rfl h
  | [x], _, h => by
    rw [show Lib.join [x] [c] = x by simp [Lib.join, List.intercalate]]
    exact cutAll_no c x (h x (by simp))
  | x :: y :: l, _, h => by
    rw [show Lib.join (x :: y :: l) [c] = x ++ c :: Lib.join (y :: l) [c] by simp [Lib.join, List.intercalate, List.intersperse], cutAll_at c x _ (h x (by simp)), cutAll_join c (y :: l) (by simp) (fun z hz => h z (by simp [hz]))]
theorem join_cutAll (c : UInt8) : ∀ (l : List UInt8), Lib.join (cutAll c l) [c] = l := by
  intro l
  induction l with
  | nil => simp [cutAll, Lib.join, List.intercalate]
  | cons b l ih =>
    rw [cutAll_cons]
    have hne := cutAll_ne c l
    split
    · rename_i e
      subst e
      cases hc : cutAll b l with
      | nil => exact absurd hc hne
      | cons h t =>
        rw [hc] at ih
        rw [show Lib.join ([] :: h :: t) [b] = b :: Lib.join (h :: t) [b] by simp [Lib.join, List.intercalate, List.intersperse], ih]
    · cases hc : cutAll c l with
      | nil => exact absurd hc hne
      | cons h t =>
        rw [hc] at ih
        simp only
        cases t with
        | nil => simp [Lib.join, List.intercalate] at ih ⊢; exact ih
        | cons y t => simp [Lib.join, List.intercalate, List.intersperse] at ih ⊢; exact ih
theorem cutAll_mem (c : UInt8) (l : List UInt8) : ∀ x ∈ cutAll c l, c ∉ x := by
  induction l with
  | nil => simp [cutAll]
  | cons b l ih =>
    rw [cutAll_cons]
    split
    · intro x hx
      rcases List.mem_cons.1 hx with rfl | hx
      · simp
      · exact ih x hx
    · rename_i hb
      cases hc : cutAll c l with
      | nil => exact absurd hc (cutAll_ne c l)
      | cons h t =>
        intro x hx
        rw [hc] at ih
        rcases List.mem_cons.1 hx with rfl | hx
        · simp only [List.mem_cons, not_or]
          exact ⟨fun e => hb e.symm, ih h (by simp)⟩
        · exact ih x (by simp [hx])
theorem splitB_cutAll (c : UInt8) (k : Nat) : ∀ (s : ByteArray), s.size ≤ k →
    (Lib.splitB ⟨#[c]⟩ 0 (Lib.countB s ⟨#[c]⟩) s).map (·.data.toList) = cutAll c s.data.toList ∧ Lib.countB s ⟨#[c]⟩ + 1 = (cutAll c s.data.toList).length := by
  induction k with
  | zero =>
    intro s hs
    have hl : s.data.toList = [] := List.eq_nil_of_length_eq_zero (by rw [len_bytes]; omega)
    have hi : Lib.indexB s ⟨#[c]⟩ = -1 := by unfold Lib.indexB; rw [hl]; rfl
    rw [Lib.countB_miss _ _ hi, Lib.splitB_zero, hl]
    simp [cutAll, hl]
  | succ k ih =>
    intro s hs
    by_cases hm : c ∈ s.data.toList
    · obtain ⟨pre, post, hp, he⟩ : ∃ pre post, c ∉ pre ∧ s.data.toList = pre ++ c :: post := by
        clear ih hs
        generalize s.data.toList = l at hm
        induction l with
        | nil => simp at hm
        | cons b l ih2 =>
          by_cases hb : b = c
          · exact ⟨[], l, by simp, by rw [hb]; rfl⟩
          · obtain ⟨pre, post, h1, h2⟩ := ih2 (by
              rcases List.mem_cons.1 hm with h | h
              · exact absurd h.symm hb
              · exact h)
            exact ⟨b :: pre, post, by simp only [List.mem_cons, not_or]; exact ⟨fun e => hb e.symm, h1⟩, by rw [h2]; rfl⟩
      have hi : Lib.indexB s ⟨#[c]⟩ = (pre.length : Nat) := by
        unfold Lib.indexB
        rw [he, show (ByteArray.mk #[c]).data.toList = [c] from rfl, Lib.index_one]
        clear ih hs hm he
        induction pre with
        | nil => simp [Lib.indexByte]
        | cons b pre ih2 =>
          simp only [List.mem_cons, not_or] at hp
          have h2 := ih2 hp.2
          have hb : (b == c) = false := by rw [beq_eq_false_iff_ne]; exact fun e => hp.1 e.symm
          have hn : (((pre.length : Int)) == -1) = false := by rw [beq_eq_false_iff_ne]; omega
          simp only [List.cons_append, Lib.indexByte, h2, hb, hn]
          simp
      have hsz : s.size = pre.length + 1 + post.length := by rw [← len_bytes, he]; simp; omega
      have hx : (s.extract (pre.length + (ByteArray.mk #[c]).size) s.size).data.toList = post := by
        rw [Lib.extract_to_end, he, show (ByteArray.mk #[c]).size = 1 from rfl]
        simp
      have hx0 : (s.extract 0 (pre.length + 0)).data.toList = pre := by
        rw [Lib.extract_data, he]
        simp
      obtain ⟨i1, i2⟩ := ih (s.extract (pre.length + (ByteArray.mk #[c]).size) s.size) (by rw [← len_bytes, hx]; omega)
      rw [hx] at i1 i2
      rw [Lib.countB_hit s ⟨#[c]⟩ pre.length (Nat.le_refl 1) hi, Nat.add_comm 1, Lib.splitB_hit _ _ _ _ _ hi, he, cutAll_at c pre post hp, List.map_cons, i1, hx0]
      exact ⟨rfl, by rw [List.length_cons, ← i2]⟩
    · have hi : Lib.indexB s ⟨#[c]⟩ = -1 := by
        unfold Lib.indexB
        rw [show (ByteArray.mk #[c]).data.toList = [c] from rfl, Lib.index_one]
        clear ih hs
        generalize s.data.toList = l at hm
        induction l with
        | nil => rfl
        | cons b l ih2 =>
          simp only [List.mem_cons, not_or] at hm
          have hb : (b == c) = false := by rw [beq_eq_false_iff_ne]; exact fun e => hm.1 e.symm
          simp only [Lib.indexByte, ih2 hm.2, hb]
          rfl
      rw [Lib.countB_miss _ _ hi, Lib.splitB_zero, cutAll_no c _ hm]
      simp
end Go.Proofs.YtpegkcmomkdoeaaDoor
