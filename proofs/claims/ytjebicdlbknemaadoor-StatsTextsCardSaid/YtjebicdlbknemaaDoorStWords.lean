/- The words of a text, and where they begin. No program in sight. -/
import Derived.Test.YtjebicdlbknemaaDoorSplit
namespace Go.Proofs.YtjebicdlbknemaaDoor
set_option linter.unusedVariables false

def startW (ws : List (List UInt8)) (m : Nat) : Nat := ((ws.take m).map (fun w => w.length + 1)).sum
theorem startW_zero (ws : List (List UInt8)) : startW ws 0 = 0 := by simp [startW]
theorem startW_cons (w : List UInt8) (ws : List (List UInt8)) (m : Nat) : startW (w :: ws) (m + 1) = w.length + 1 + startW ws m := by simp [startW]
theorem join_two (w y : List UInt8) (r : List (List UInt8)) : Lib.join (w :: y :: r) [32] = w ++ 32 :: Lib.join (y :: r) [32] := by simp [Lib.join, List.intercalate]
theorem join_drop : ∀ (ws : List (List UInt8)) (m : Nat), m < ws.length → (Lib.join ws [32]).drop (startW ws m) = Lib.join (ws.drop m) [32]
  | ws, 0, _ => by simp [startW]
  | [], m + 1, h => by simp at h
  | [w], m + 1, h => by simp at h
  | w :: y :: r, m + 1, h => by
    rw [startW_cons, join_two, List.drop_succ_cons, ← join_drop (y :: r) m (by simpa using h), show w.length + 1 + startW (y :: r) m = (w ++ [32]).length + startW (y :: r) m by simp,
      show w ++ 32 :: Lib.join (y :: r) [32] = (w ++ [32]) ++ Lib.join (y :: r) [32] by simp, List.drop_append]
    simp
theorem startW_succ : ∀ (ws : List (List UInt8)) (m : Nat), m < ws.length → startW ws (m + 1) = startW ws m + (ws.getD m []).length + 1
  | [], m, h => by simp at h
  | w :: r, 0, _ => by simp [startW]
  | w :: r, m + 1, h => by
    rw [startW_cons, startW_cons, startW_succ r m (by simpa using h)]
    simp only [List.getD_cons_succ]
    omega
theorem startW_le : ∀ (ws : List (List UInt8)) (m : Nat), m < ws.length → startW ws m + (ws.getD m []).length ≤ (Lib.join ws [32]).length
  | [], m, h => by simp at h
  | [w], 0, _ => by simp [startW, Lib.join, List.intercalate]
  | w :: y :: r, 0, _ => by
    rw [join_two]
    simp [startW]
  | [w], m + 1, h => by simp at h
  | w :: y :: r, m + 1, h => by
    have := startW_le (y :: r) m (by simpa using h)
    rw [startW_cons, join_two]
    simp only [List.getD_cons_succ, List.length_append, List.length_cons] at *
    omega
/-- What stands at a word: it, and behind it a space and more words, or the end. -/
theorem at_word (l : List UInt8) (m : Nat) (hm : m < (cutAll 32 l).length) :
    l.drop (startW (cutAll 32 l) m) = (cutAll 32 l).getD m [] ++ (if m + 1 < (cutAll 32 l).length then 32 :: Lib.join ((cutAll 32 l).drop (m + 1)) [32] else []) := by
  have h := join_drop (cutAll 32 l) m hm
  rw [join_cutAll] at h
  rw [h]
  generalize cutAll 32 l = ws at *
  have hd : ws.drop m = ws.getD m [] :: ws.drop (m + 1) := by
    rw [List.drop_eq_getElem_cons hm, List.getD_eq_getElem?_getD, List.getElem?_eq_getElem hm]
    rfl
  rw [hd]
  split
  · rename_i h1
    cases hr : ws.drop (m + 1) with
    | nil => have := congrArg List.length hr; simp at this; omega
    | cons y r => exact join_two _ _ _
  · rename_i h1
    rw [List.drop_eq_nil_of_le (by omega)]
    simp [Lib.join, List.intercalate]
structure WordAt (x : ByteArray) (m S : Nat) (W : List UInt8) : Prop where
  le : S + W.length ≤ x.size
  inn : ∀ k (h : k < x.size), S ≤ k → k < S + W.length → x[k].toNat ≠ 32
  more : m + 1 < (cutAll 32 x.data.toList).length → ∃ h : S + W.length < x.size, x[S + W.length].toNat = 32
  last : m + 1 = (cutAll 32 x.data.toList).length → S + W.length = x.size
  txt : (x.extract S (S + W.length)).data.toList = W
theorem get_list (x : ByteArray) (k : Nat) (h : k < x.size) : x.data.toList[k]? = some x[k] := by
  rw [List.getElem?_eq_getElem (by rw [len_bytes]; exact h)]
  rfl
theorem word_at (x : ByteArray) (m : Nat) (hm : m < (cutAll 32 x.data.toList).length) : WordAt x m (startW (cutAll 32 x.data.toList) m) ((cutAll 32 x.data.toList).getD m []) := by
  have h := at_word x.data.toList m hm
  have hmem : (32 : UInt8) ∉ (cutAll 32 x.data.toList).getD m [] := by
    rw [List.getD_eq_getElem?_getD, List.getElem?_eq_getElem hm]
    exact cutAll_mem 32 _ _ (List.getElem_mem hm)
  have hle := startW_le _ m hm
  rw [join_cutAll, len_bytes] at hle
  generalize startW (cutAll 32 x.data.toList) m = S at *
  generalize (cutAll 32 x.data.toList).getD m [] = W at *
  have hlen := congrArg List.length h
  rw [List.length_drop, List.length_append, len_bytes] at hlen
  have hget : ∀ j, x.data.toList[S + j]? = (W ++ (if m + 1 < (cutAll 32 x.data.toList).length then 32 :: Lib.join ((cutAll 32 x.data.toList).drop (m + 1)) [32] else []))[j]? := fun j => by rw [← h, List.getElem?_drop]
  refine ⟨hle, fun k hk h1 h2 he => ?_, fun h1 => ?_, fun h1 => ?_, ?_⟩
  · have hj := hget (k - S)
    rw [show S + (k - S) = k by omega, get_list x k hk, List.getElem?_append_left (by omega)] at hj
    have hm2 : x[k] ∈ W := List.mem_of_getElem? hj.symm
    exact hmem (by rw [show (32 : UInt8) = x[k] from UInt8.toNat_inj.1 he.symm]; exact hm2)
  · rw [if_pos h1] at hlen hget
    simp only [List.length_cons] at hlen
    have hlt : S + W.length < x.size := by omega
    refine ⟨hlt, ?_⟩
    have hj := hget W.length
    rw [get_list x _ hlt, List.getElem?_append_right (by omega)] at hj
    simp at hj
    rw [hj]
    rfl
  · rw [if_neg (by omega)] at hlen
    simp at hlen
    omega
  · rw [Lib.extract_data, h]
    simp
end Go.Proofs.YtjebicdlbknemaaDoor
