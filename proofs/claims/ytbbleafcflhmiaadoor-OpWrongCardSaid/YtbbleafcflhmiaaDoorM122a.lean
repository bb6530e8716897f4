/- Texts of operations: no line feed; scripts line by line (plain). -/
import Derived.Test.YtbbleafcflhmiaaDoorL2a
namespace Go.Proofs.YtbbleafcflhmiaaDoor
open Go.RowKit
open Go.Lib (decDigits)
set_option linter.unusedVariables false
set_option linter.unusedSimpArgs false
theorem enc_no10 (r : Nat) (h : 128 ≤ r) (h2 : r ≤ 1114111) : ∀ b ∈ Lib.encodeRune (r : Int), b ≠ 10 := by
  intro b hb
  have key : ∀ z : Int, 128 ≤ z → z ≤ 255 → ∀ b : UInt8, b = z.toNat.toUInt8 → b ≠ 10 := by
    intro z h0 h1 b hb
    have h3 : b.toNat = z.toNat := by rw [hb]; simp [Nat.toUInt8]; omega
    intro e
    rw [e] at h3
    simp at h3
    omega
  unfold Lib.encodeRune at hb
  obtain ⟨z, hz, rfl⟩ := List.mem_map.1 hb
  refine key z ?_ ?_ _ rfl
  · unfold Lib.encodeRuneZ at hz
    split at hz
    · omega
    · split at hz
      · simp at hz; omega
      · split at hz
        · simp at hz; omega
        · split at hz <;> simp at hz <;> omega
  · unfold Lib.encodeRuneZ at hz
    split at hz
    · omega
    · split at hz
      · simp at hz; omega
      · split at hz
        · simp at hz; omega
        · split at hz <;> simp at hz <;> omega
theorem runes_no10 : ∀ (k : Nat) (l : List UInt8) (rs : List Nat), l.length ≤ k → runesL l = some rs → rs.all runeOk = true → (10 : UInt8) ∉ l := by
  intro k
  induction k with
  | zero =>
    intro l rs hl _ _
    have h0 : l = [] := List.eq_nil_of_length_eq_zero (by omega)
    rw [h0]
    simp
  | succ k ih =>
    intro l rs hl h ha
    by_cases hne : l = []
    · rw [hne]; simp
    · rw [runesL_step hne] at h
      cases hr : rnL l with
      | none => rw [hr] at h; cases h
      | some p =>
        obtain ⟨r, n⟩ := p
        rw [hr] at h
        obtain ⟨h1, _⟩ := rnL_some hr
        have hw := dec_width l hne
        rw [h1] at hw
        have hle := rune_le hr
        cases hx : runesL (l.drop n) with
        | none => simp [hx] at h
        | some xs =>
          simp [hx] at h
          subst h
          simp only [List.all_cons, Bool.and_eq_true] at ha
          have hi := ih (l.drop n) xs (by rw [List.length_drop]; simp at hw; omega) hx ha.2
          have hb := rnL_bytes hne hr
          rw [← List.take_append_drop n l, List.mem_append, ← hb]
          rintro (hm | hm)
          · by_cases h2 : r < 128
            · unfold Lib.encodeRune at hm
              rw [Lib.encodeRuneZ_one (by omega) (by omega)] at hm
              simp at hm
              have h3 : r = 10 := by
                have := congrArg UInt8.toNat hm
                simp [Nat.toUInt8] at this
                omega
              subst h3
              exact absurd ha.1 (by decide)
            · exact enc_no10 r (by omega) hle 10 hm rfl
          · exact hi hm
theorem tag_no10 {l : List UInt8} (h : tagOk l = true) : (10 : UInt8) ∉ l := by
  unfold tagOk at h
  cases hr : runesL l with
  | none => rw [hr] at h; cases h
  | some rs =>
    rw [hr] at h
    simp only [tagOf, Bool.and_eq_true, decide_eq_true_iff] at h
    exact runes_no10 l.length l rs (Nat.le_refl _) hr (by simp_all)
theorem esc_no10 {l : List UInt8} (h : (10 : UInt8) ∉ l) : (10 : UInt8) ∉ escL l := by
  induction l with
  | nil => simp [escL]
  | cons b t ih =>
    rw [List.mem_cons, not_or] at h
    show 10 ∉ escB b ++ escL t
    rw [List.mem_append, not_or]
    refine ⟨?_, ih h.2⟩
    unfold escB
    split
    · simp [h.1]
    · simpa using h.1
theorem quote_no10 {l : List UInt8} (h : tagOk l = true) : (10 : UInt8) ∉ quoteL l := by
  have := esc_no10 (tag_no10 h)
  unfold quoteL
  simp [this]
theorem numL_no10 (n : Int) : (10 : UInt8) ∉ numL n := by
  unfold numL
  split
  · simp only [List.mem_cons, not_or]
    exact ⟨by decide, not_mem_dec (by decide)⟩
  · exact not_mem_dec (by decide)
theorem txt_no10 {p : OpR} (h : okR p = true) {ch : UInt8} (hc : ch ∈ partsK p.1) : (10 : UInt8) ∉ txt ch p.2 := by
  have hx : p.2.ok p.1 := h
  have hf := fit_of hx hc
  rcases letters_or (parts_letters _ _ hc) with hn | rfl | rfl
  · by_cases hk : ch = 107
    · subst hk
      show 10 ∉ [letterB p.2.a]
      simp only [List.mem_singleton]
      unfold letterB
      repeat' split
      all_goals decide
    · rw [txt_num hn hk]; exact numL_no10 _
  · exact quote_no10 (hf.quo rfl)
  · show 10 ∉ p.2.tag.data.toList
    have hk := (part_kinds (opOk_iff.1 hx).1).2.2 hc
    have ht := (opOk_iff.1 hx).2.2.2.2.2
    rw [hk] at ht
    have ht : ansOk p.2.tag.data.toList = true := ht
    unfold ansOk at ht
    simp only [Bool.and_eq_true] at ht
    intro h10
    have := List.all_eq_true.1 ht.2 _ h10
    revert this
    decide
theorem opLR_eq {p : OpR} (h : okR p = true) : opLR p = wordL p.1 ++ tailL ((partsK p.1).map (txt · p.2)) := isO_word (show p.2.ok p.1 from h)
theorem word_no10 (kd : Int) : (10 : UInt8) ∉ wordL kd := by
  unfold wordL
  split
  · rename_i h
    exact kinds_fin (fun i => (10 : UInt8) ∉ wordsL.getD i []) (by decide) h
  · simp
theorem opLR_no10 {p : OpR} (h : okR p = true) : (10 : UInt8) ∉ opLR p := by
  rw [opLR_eq h, List.mem_append, not_or]
  refine ⟨word_no10 _, ?_⟩
  have key : ∀ cs : List UInt8, (∀ c ∈ cs, c ∈ partsK p.1) → (10 : UInt8) ∉ tailL (cs.map (txt · p.2)) := by
    intro cs hcs
    induction cs with
    | nil => simp [tailL]
    | cons c cs ih =>
      rw [List.map_cons, tail_cons]
      simp only [List.mem_cons, List.mem_append, not_or]
      exact ⟨by decide, txt_no10 h (hcs c (by simp)), ih (fun d hd => hcs d (by simp [hd]))⟩
  exact key _ (fun c hc => hc)
/-- A text is that of one line at most 1,000 bytes long. -/
theorem opLR_short {p : OpR} (h : okR p = true) : (opLR p).length ≤ 1000 := by
  have hx : p.2.ok p.1 := h
  have hk := (opOk_iff.1 hx).1
  have h1 : ∀ ch, (txt ch p.2).length ≤ 202 := fun ch => by
    have hn : ∀ c, (numL (fv c p.2)).length ≤ 30 := fun c => by
      have := fv_rng hx c
      have hd : (decDigits (fv c p.2).natAbs).length ≤ 20 := dec_len 19 _ (by omega)
      unfold numL
      split <;> simp <;> omega
    have ht : (quoteL p.2.tag.data.toList).length ≤ 202 ∧ p.2.tag.data.toList.length ≤ 202 := by
      have h1 := tag_sz hx
      have h2 := len_bytes p.2.tag
      have h3 := escL_len p.2.tag.data.toList
      refine ⟨?_, by omega⟩
      unfold quoteL
      simp
      omega
    unfold txt
    split
    · simp
    · split
      · exact ht.1
      · have h1 := hn 109; have h2 := hn 110; have h3 := hn 105; have h4 := hn 118
        change (numL p.2.m).length ≤ 30 at h1
        change (numL p.2.a).length ≤ 30 at h2
        change (numL p.2.b).length ≤ 30 at h3
        change (numL p.2.c).length ≤ 30 at h4
        repeat' split
        all_goals omega
  have hw : (wordL p.1).length ≤ 10 := by
    unfold wordL
    rw [if_pos hk]
    exact kinds_fin (fun i => (wordsL.getD i []).length ≤ 10) (by decide) hk
  have hp4 : (partsK p.1).length ≤ 4 := by
    rw [partsK_eq hk]
    exact kinds_fin (fun i => (partsLs.getD i []).length ≤ 4) (by decide) hk
  have key : ∀ cs : List UInt8, (tailL (cs.map (txt · p.2))).length ≤ 203 * cs.length := by
    intro cs
    induction cs with
    | nil => simp [tailL]
    | cons c cs ih =>
      rw [List.map_cons, tail_cons]
      have := h1 c
      simp
      omega
  have := key (partsK p.1)
  rw [opLR_eq h, List.length_append]
  omega
theorem opsL_short {l : List OpR} (h : l.all okR = true) : (opsL l).length ≤ 1001 * l.length := by
  induction l with
  | nil => simp [opsL]
  | cons p l ih =>
    rw [List.all_cons, Bool.and_eq_true] at h
    have h1 := opLR_short h.1
    have h2 := ih h.2
    rw [show opsL (p :: l) = opLR p ++ [10] ++ opsL l from rfl]
    simp
    omega
theorem opLR_skip {p : OpR} (h : okR p = true) : skipL (opLR p) = false := by
  have hk := (opOk_iff.1 (show opOk p.1 p.2.m p.2.a p.2.b p.2.c p.2.tag.data.toList = true from h)).1
  have key : ∃ c r, wordL p.1 = c :: r ∧ c ≠ 35 := by
    have := kinds_fin (fun i => ∃ c r, wordsL.getD i [] = c :: r ∧ c ≠ 35) (fun i => by
      have : (wordsL.getD i []).head? ≠ some 35 ∧ wordsL.getD i [] ≠ [] := by revert i; decide
      cases hh : wordsL.getD i [] with
      | nil => exact absurd hh this.2
      | cons c r => rw [hh] at this; exact ⟨c, r, rfl, fun e => this.1 (by rw [e]; rfl)⟩) hk
    unfold wordL
    rw [if_pos hk]
    exact this
  obtain ⟨c, r, hc, hne⟩ := key
  rw [opLR_eq h, hc]
  unfold skipL
  simp [hne]
theorem read_opLR {p : OpR} (h : okR p = true) : isOp p (opLR p) := ⟨h, rfl⟩
theorem opLR_inj {p q : OpR} (hp : okR p = true) (hq : okR q = true) (h : opLR p = opLR q) : p = q := isOp_unique (read_opLR hp) ⟨hq, h.symm⟩
/-- The lines of a script. -/
theorem cut_ops {l : List OpR} (h : l.all okR = true) (rest : List UInt8) : cutAll 10 (opsL l ++ rest) = l.map opLR ++ cutAll 10 rest := by
  induction l with
  | nil => rfl
  | cons p l ih =>
    rw [List.all_cons, Bool.and_eq_true] at h
    rw [show opsL (p :: l) ++ rest = opLR p ++ 10 :: (opsL l ++ rest) by simp [opsL], cutAll_at _ _ _ (opLR_no10 h.1), ih h.2]
    rfl
theorem all_ops {l : List OpR} (h : l.all okR = true) : ∀ (rest : List (List UInt8)) (n : Nat) (acc : List OpR), acc.length + l.length ≤ 2000 → allR (l.map opLR ++ rest) n acc = allR rest (n + l.length) (acc ++ l) := by
  induction l with
  | nil => intro rest n acc _; simp
  | cons p l ih =>
    intro rest n acc hl
    rw [List.all_cons, Bool.and_eq_true] at h
    rw [List.map_cons, List.cons_append, allR, if_neg (by rw [opLR_skip h.1]; decide), if_neg (by simp at hl; omega), readOp_some (read_opLR h.1)]
    simp only
    rw [ih h.2 rest (n + 1) (acc ++ [p]) (by simp at hl ⊢; omega)]
    rw [List.append_assoc, List.length_cons, show n + 1 + l.length = n + (l.length + 1) by omega]
    rfl
/-- A script is read from its text. -/
theorem parse_ops {l : List OpR} (h : l.all okR = true) (hl : l.length ≤ 60) : parseAllR (opsL l) = (l, 0, 0) := by
  have hs := opsL_short h
  unfold parseAllR
  rw [if_neg (by omega)]
  have := cut_ops h []
  rw [List.append_nil] at this
  rw [this, all_ops h _ 0 [] (by simp; omega)]
  simp [cutAll, allR, skipL]
theorem print_ops {l : List OpR} (h : l.all okR = true) (hl : l.length ≤ 60) : printAllR l = (opsL l, 0) := by
  have hs := opsL_short h
  unfold printAllR
  rw [if_neg (by omega), if_neg (by rw [h]; decide), if_neg (by omega)]
/-- A wrong line behind operations. -/
theorem parse_wrong {l : List OpR} (h : l.all okR = true) (hl : l.length ≤ 60) {bad more : List UInt8} (hb : (10 : UInt8) ∉ bad) (hs : skipL bad = false) (hr : readC bad = none) (hlen : bad.length + more.length ≤ 1000) : parseAllR (opsL l ++ (bad ++ 10 :: more)) = ([], l.length + 1, 9) := by
  have h1 := opsL_short h
  unfold parseAllR
  rw [if_neg (by simp; omega), cut_ops h, all_ops h _ 0 [] (by simp; omega), cutAll_at _ _ _ hb, allR, if_neg (by rw [hs]; decide), if_neg (by simp; omega), readOp_no hr]
  simp
theorem word_pre {p : OpR} (h : okR p = true) : Lib.hasPrefix (opLR p) (wordL p.1) = true := by
  rw [opLR_eq h]
  unfold Lib.hasPrefix
  rw [List.isPrefixOf_iff_prefix]
  exact List.prefix_append _ _
end Go.Proofs.YtbbleafcflhmiaaDoor
