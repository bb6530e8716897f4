/- strings.SplitAfter; scripts with lines put in (plain). -/
import Derived.Test.YtbbleafcflhmiaaGreatDoorL2a
import Derived.Test.YtbbleafcflhmiaaGreatDoorL0b
import Derived.Test.YtbbleafcflhmiaaGreatDoorL0a
namespace Go.Proofs.YtbbleafcflhmiaaGreatDoor
open Go.RowKit
set_option linter.unusedVariables false
set_option linter.unusedSimpArgs false
set_option maxHeartbeats 4000000
set_option maxRecDepth 20000
def aftL (c : UInt8) : List (List UInt8) → List (List UInt8)
  | [] => []
  | [x] => [x]
  | x :: y :: r => (x ++ [c]) :: aftL c (y :: r)
theorem aft_cons (c : UInt8) (x : List UInt8) (r : List (List UInt8)) (h : r ≠ []) : aftL c (x :: r) = (x ++ [c]) :: aftL c r := by
  cases r with
  | nil => exact absurd rfl h
  | cons y r => rfl
theorem aft_end (c : UInt8) : ∀ ys : List (List UInt8), aftL c (ys ++ [[]]) = ys.map (· ++ [c]) ++ [[]]
  | [] => rfl
  | y :: ys => by
    rw [List.cons_append, aft_cons _ _ _ (by simp), aft_end c ys]
    rfl
theorem cutAll_lenA (c : UInt8) : ∀ l : List UInt8, (cutAll c l).length ≤ l.length + 1
  | [] => by simp [cutAll]
  | b :: l => by
    have ih := cutAll_lenA c l
    rw [cutAll_cons]
    split
    · simp; omega
    · cases hc : cutAll c l with
      | nil => exact absurd hc (cutAll_ne c l)
      | cons h t => rw [hc] at ih; simp at ih ⊢; omega
theorem splitB_aft (c : UInt8) (k : Nat) : ∀ (s : ByteArray), s.size ≤ k →
    (Lib.splitB ⟨#[c]⟩ 1 (Lib.countB s ⟨#[c]⟩) s).map (·.data.toList) = aftL c (cutAll c s.data.toList) := by
  induction k with
  | zero =>
    intro s hs
    have hl : s.data.toList = [] := List.eq_nil_of_length_eq_zero (by rw [len_bytes]; omega)
    have hi : Lib.indexB s ⟨#[c]⟩ = -1 := by unfold Lib.indexB; rw [hl]; rfl
    rw [Lib.countB_miss _ _ hi, Lib.splitB_zero, hl]
    simp [cutAll, hl, aftL]
  | succ k ih =>
    intro s hs
    by_cases hm : c ∈ s.data.toList
    · obtain ⟨pre, post, hp, he⟩ : ∃ pre post, c ∉ pre ∧ s.data.toList = pre ++ c :: post := by
        clear ih hs
        generalize s.data.toList = l at hm
        induction l with
        | nil => simp at hm
        | cons b l ih2 =>
          by_cases hb : b = c
          · exact ⟨[], l, by simp, by rw [hb]; rfl⟩
          · obtain ⟨pre, post, h1, h2⟩ := ih2 (by
              rcases List.mem_cons.1 hm with h | h
              · exact absurd h.symm hb
              · exact h)
            exact ⟨b :: pre, post, by simp only [List.mem_cons, not_or]; exact ⟨fun e => hb e.symm, h1⟩, by rw [h2]; rfl⟩
      have hi : Lib.indexB s ⟨#[c]⟩ = (pre.length : Nat) := by
        unfold Lib.indexB
        rw [he, show (ByteArray.mk #[c]).data.toList = [c] from rfl, Lib.index_one]
        clear ih hs hm he
        induction pre with
        | nil => simp [Lib.indexByte]
        | cons b pre ih2 =>
          simp only [List.mem_cons, not_or] at hp
          have h2 := ih2 hp.2
          have hb : (b == c) = false := by rw [beq_eq_false_iff_ne]; exact fun e => hp.1 e.symm
          have hn : (((pre.length : Int)) == -1) = false := by rw [beq_eq_false_iff_ne]; omega
          simp only [List.cons_append, Lib.indexByte, h2, hb, hn]
          simp
      have hsz : s.size = pre.length + 1 + post.length := by rw [← len_bytes, he]; simp; omega
      have hx : (s.extract (pre.length + (ByteArray.mk #[c]).size) s.size).data.toList = post := by
        rw [Lib.extract_to_end, he, show (ByteArray.mk #[c]).size = 1 from rfl]
        simp
      have hx0 : (s.extract 0 (pre.length + 1)).data.toList = pre ++ [c] := by
        rw [Lib.extract_data, he]
        simp
        rw [show pre ++ c :: post = (pre ++ [c]) ++ post by simp, List.take_left' (by simp)]
      have i1 := ih (s.extract (pre.length + (ByteArray.mk #[c]).size) s.size) (by rw [← len_bytes, hx]; omega)
      rw [hx] at i1
      rw [Lib.countB_hit s ⟨#[c]⟩ pre.length (Nat.le_refl 1) hi, Nat.add_comm 1, Lib.splitB_hit _ _ _ _ _ hi, he, cutAll_at c pre post hp, List.map_cons, i1, hx0, aft_cons _ _ _ (cutAll_ne c post)]
    · have hi : Lib.indexB s ⟨#[c]⟩ = -1 := by
        unfold Lib.indexB
        rw [show (ByteArray.mk #[c]).data.toList = [c] from rfl, Lib.index_one]
        clear ih hs
        generalize s.data.toList = l at hm
        induction l with
        | nil => rfl
        | cons b l ih2 =>
          simp only [List.mem_cons, not_or] at hm
          have hb : (b == c) = false := by rw [beq_eq_false_iff_ne]; exact fun e => hm.1 e.symm
          simp only [Lib.indexByte, ih2 hm.2, hb]
          rfl
      rw [Lib.countB_miss _ _ hi, Lib.splitB_zero, cutAll_no c _ hm]
      simp [aftL]
theorem splitAfter_c (s : ByteArray) (w : World) (hw : w.ShapedOpen Tryz.prog) (hs : s.size ≤ 1000000) (hn : (cutAll 10 s.data.toList).length ≤ 1000) :
    Calls Tryz.prog 18 #[.string s, .string ⟨#[10]⟩] w fun e w' => ∃ v xs, e = .returned v ∧ OwnsS w.heap.size w' v xs ∧ xs.map (·.data.toList) = aftL 10 (cutAll 10 s.data.toList) ∧ Below w.heap.size w w' := by
  have ha := splitB_aft 10 s.size s (Nat.le_refl _)
  have hc := (splitB_cutAll 10 s.size s (Nat.le_refl _)).2
  obtain ⟨m, hm⟩ := Tryz.laysM146.s1_3 w hw
  have hl := cutAll_lenA 10 s.data.toList
  rw [len_bytes] at hl
  have c := Tryz.strings_genSplit s ⟨#[10]⟩ 1 (-1) (Lib.countB s ⟨#[10]⟩ + 1) m w (by omega) hm (Nat.le_refl 1) (Nat.le_refl 1) (by decide) (by decide) (by rw [if_pos (by decide)]; omega)
  rw [Nat.add_sub_cancel] at c
  generalize Lib.splitB ⟨#[10]⟩ 1 (Lib.countB s ⟨#[10]⟩) s = xs at *
  have hal : (aftL 10 (cutAll 10 s.data.toList)).length = (cutAll 10 s.data.toList).length := by
    generalize cutAll 10 s.data.toList = ys
    clear ha hc hl hn
    induction ys with
    | nil => rfl
    | cons y r ih => cases r with
      | nil => rfl
      | cons z r => simp only [aftL, List.length_cons] at ih ⊢; omega
  have hxl : xs.length = Lib.countB s ⟨#[10]⟩ + 1 := by rw [hc, ← hal, ← ha, List.length_map]
  rw [← hxl] at c
  have hco : Lib.cellsOf xs xs.length = (xs.map Value.string).toArray := by simp [Lib.cellsOf]
  rw [hco] at c
  have C := Lib.hid c
  have HA := Lib.hid ha
  have HX : xs.length ≤ 1000 := by omega
  clear c hco hxl hal hl hm hc ha hs hn
  go_enter Tryz.func18, Tryz.ntmps18
  go_wp2_with fail
  refine Calls.mono C.out ?_
  rintro e W1 ⟨rfl, rfl⟩
  go_wp2_with fail
  go_returns
  exact ⟨_, xs, rfl, OwnsS.new w xs HX, HA.out, below_alloc _ _⟩
/-- A script's lines, with lines among them that are passed over. -/
structure Mix (l : List OpR) (ys : List (List UInt8)) : Prop where
  no : ∀ y ∈ ys, (10 : UInt8) ∉ y
  ops : ys.filter (fun y => !skipL y) = l.map opLR
theorem mix_ops {l : List OpR} (h : l.all okR = true) : Mix l (l.map opLR) := by
  refine ⟨fun y hy => ?_, ?_⟩
  · obtain ⟨p, hp, rfl⟩ := List.mem_map.1 hy
    exact opLR_no10 (List.all_eq_true.1 h p hp)
  · rw [List.filter_eq_self]
    intro y hy
    obtain ⟨p, hp, rfl⟩ := List.mem_map.1 hy
    rw [opLR_skip (List.all_eq_true.1 h p hp)]
    rfl
theorem mix_ins {l : List OpR} {ys : List (List UInt8)} (h : Mix l ys) (i : Nat) (y : List UInt8) (h1 : (10 : UInt8) ∉ y) (h2 : skipL y = true) : Mix l (ys.take i ++ y :: ys.drop i) := by
  refine ⟨fun z hz => ?_, ?_⟩
  · rcases List.mem_append.1 hz with hz | hz
    · exact h.no z (List.mem_of_mem_take hz)
    · rcases List.mem_cons.1 hz with rfl | hz
      · exact h1
      · exact h.no z (List.mem_of_mem_drop hz)
  · rw [List.filter_append, List.filter_cons_of_neg (by simp [h2]), ← List.filter_append, List.take_append_drop]
    exact h.ops
theorem mix_all : ∀ (ys : List (List UInt8)) (l : List OpR) (n : Nat) (acc : List OpR), l.all okR = true → ys.filter (fun y => !skipL y) = l.map opLR → acc.length + l.length ≤ 2000 → allR ys n acc = (acc ++ l, 0, 0)
  | [], l, n, acc, _, h, _ => by
    cases l with
    | nil => simp [allR]
    | cons p l => simp at h
  | y :: ys, l, n, acc, ha, h, hl => by
    cases hs : skipL y with
    | true =>
      rw [List.filter_cons_of_neg (by simp [hs])] at h
      rw [allR, if_pos hs]
      exact mix_all ys l (n + 1) acc ha h hl
    | false =>
      rw [List.filter_cons_of_pos (by simp [hs])] at h
      cases l with
      | nil => simp at h
      | cons p l =>
        rw [List.map_cons] at h
        injection h with h1 h2
        rw [List.all_cons, Bool.and_eq_true] at ha
        rw [allR, if_neg (by rw [hs]; decide), if_neg (by simp at hl; omega), h1, readOp_some (read_opLR ha.1)]
        simp only
        rw [mix_all ys l (n + 1) (acc ++ [p]) ha.2 h2 (by simp at hl ⊢; omega)]
        simp
/-- The text of lines. -/
def linesL (ys : List (List UInt8)) : List UInt8 := ys.flatMap (· ++ [10])
theorem cut_lines : ∀ (zs : List (List UInt8)) (z : List UInt8), (∀ y ∈ zs, (10 : UInt8) ∉ y) → (10 : UInt8) ∉ z → cutAll 10 (linesL zs ++ z) = zs ++ [z]
  | [], z, _, hz => by simp [linesL, cutAll_no _ _ hz]
  | y :: zs, z, h, hz => by
    rw [show linesL (y :: zs) ++ z = y ++ 10 :: (linesL zs ++ z) by simp [linesL], cutAll_at _ _ _ (h y (by simp)), cut_lines zs z (fun x hx => h x (by simp [hx])) hz]
    rfl
/-- What is read of the lines' text without its last line feed. -/
theorem mix_parse {l : List OpR} {ys : List (List UInt8)} (h : Mix l ys) (ha : l.all okR = true) (hl : l.length ≤ 60) (hs : (linesL ys).length ≤ 65536) : parseAllR (Lib.trimSuffix (linesL ys) [10]) = (l, 0, 0) := by
  have key : ∃ t, Lib.trimSuffix (linesL ys) [10] = t ∧ t.length ≤ 65536 ∧ (cutAll 10 t = ys ∨ (ys = [] ∧ cutAll 10 t = [[]])) := by
    rcases List.eq_nil_or_concat ys with rfl | ⟨zs, z, rfl⟩
    · exact ⟨[], by decide, by simp, .inr ⟨rfl, rfl⟩⟩
    · rw [List.concat_eq_append] at *
      have e : linesL (zs ++ [z]) = (linesL zs ++ z) ++ [10] := by simp [linesL]
      refine ⟨linesL zs ++ z, ?_, by rw [e] at hs; simp at hs ⊢; omega, .inl (cut_lines zs z (fun y hy => h.no y (by simp [hy])) (h.no z (by simp)))⟩
      rw [e]
      unfold Lib.trimSuffix Lib.hasSuffix
      have hsf : ([10] : List UInt8) <:+ linesL zs ++ (z ++ [10]) := ⟨linesL zs ++ z, by simp⟩
      simp [List.isSuffixOf_iff_suffix, hsf]
      rw [← List.append_assoc, List.take_left' (by simp)]
  obtain ⟨t, ht, h1, h2⟩ := key
  rw [ht]
  unfold parseAllR
  rw [if_neg (by omega)]
  rcases h2 with h2 | ⟨rfl, h2⟩
  · rw [h2, mix_all ys l 0 [] ha h.ops (by simp; omega)]
    rfl
  · have h3 := h.ops
    cases l with
    | nil => rw [h2]; simp [allR, skipL]
    | cons p l => simp at h3
theorem mix_size {ys : List (List UInt8)} (i : Nat) (y : List UInt8) : (linesL (ys.take i ++ y :: ys.drop i)).length = (linesL ys).length + y.length + 1 := by
  have e : linesL ys = linesL (ys.take i) ++ linesL (ys.drop i) := by unfold linesL; rw [← List.flatMap_append, List.take_append_drop]
  rw [e]
  simp [linesL]
  omega
end Go.Proofs.YtbbleafcflhmiaaGreatDoor
