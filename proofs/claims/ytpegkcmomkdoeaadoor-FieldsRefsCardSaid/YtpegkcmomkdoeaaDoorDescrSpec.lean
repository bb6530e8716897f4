/- Descriptors and resources of the outer world in plain Lean: numbers, texts, what texts are read as. No program in sight. -/
import Derived.Test.YtpegkcmomkdoeaaDoorGenSpec
import Derived.Lib.AtoiAllCases
import Derived.Lib.IndexMore
import Derived.Lib.IndexBytes
import Derived.Lib.ParseIntBCases
import Derived.Lib.ItoaMem
namespace Go.Proofs.YtpegkcmomkdoeaaDoor
open Go.Lib (decDigits)

theorem indexByte_at (pre post : List UInt8) (c : UInt8) (h : c ∉ pre) : Lib.indexByte (pre ++ c :: post) c = pre.length := by
  induction pre with
  | nil => simp [Lib.indexByte]
  | cons b pre ih =>
    simp only [List.mem_cons, not_or] at h
    have hi := ih h.2
    have hb : (b == c) = false := by rw [beq_eq_false_iff_ne]; exact fun e => h.1 e.symm
    have hn : (((pre.length : Int)) == -1) = false := by rw [beq_eq_false_iff_ne]; omega
    simp only [List.cons_append, Lib.indexByte, hi, hb, hn]
    simp
theorem indexByte_no (l : List UInt8) (c : UInt8) (h : c ∉ l) : Lib.indexByte l c = -1 := by
  induction l with
  | nil => rfl
  | cons b l ih =>
    simp only [List.mem_cons, not_or] at h
    have hb : (b == c) = false := by rw [beq_eq_false_iff_ne]; exact fun e => h.1 e.symm
    simp only [Lib.indexByte, ih h.2, hb]
    rfl
theorem cut_at (pre post : List UInt8) (c : UInt8) (h : c ∉ pre) : Lib.cut (pre ++ c :: post) [c] = (pre, post, true) := by
  unfold Lib.cut
  rw [Lib.index_one, indexByte_at pre post c h, if_pos (by omega)]
  simp
theorem cut_no (l : List UInt8) (c : UInt8) (h : c ∉ l) : Lib.cut l [c] = (l, [], false) := by
  unfold Lib.cut
  rw [Lib.index_one, indexByte_no l c h, if_neg (by omega)]
theorem mem_split (l : List UInt8) (c : UInt8) : c ∉ l ∨ ∃ pre post, c ∉ pre ∧ l = pre ++ c :: post := by
  induction l with
  | nil => exact .inl (by simp)
  | cons b l ih =>
    by_cases hb : b = c
    · exact .inr ⟨[], l, by simp, by rw [hb]; rfl⟩
    · rcases ih with h | ⟨pre, post, h, e⟩
      · exact .inl (by simp only [List.mem_cons, not_or]; exact ⟨fun e => hb e.symm, h⟩)
      · exact .inr ⟨b :: pre, post, by simp only [List.mem_cons, not_or]; exact ⟨fun e => hb e.symm, h⟩, by rw [e]; rfl⟩
theorem split_unique {a a' b b' : List UInt8} {c : UInt8} (h : c ∉ a) (h' : c ∉ a') (e : a ++ c :: b = a' ++ c :: b') : a = a' ∧ b = b' := by
  have h1 := cut_at a b c h
  rw [e, cut_at a' b' c h'] at h1
  injection h1 with h2 h3
  injection h3 with h4 _
  exact ⟨h2.symm, h4.symm⟩
theorem not_mem_dec {n : Nat} {c : UInt8} (h : isDig c = false) : c ∉ decDigits n := by
  intro hm
  have := List.all_eq_true.1 (decDigits_all n) c hm
  rw [h] at this; cases this
theorem dec_cons (n : Nat) : ∃ c r, decDigits n = c :: r ∧ isDig c = true := by
  have h := decDigits_all n
  cases hd : decDigits n with
  | nil => exact absurd hd (decDigits_ne_nil n)
  | cons c r =>
    rw [hd, List.all_cons, Bool.and_eq_true] at h
    exact ⟨c, r, rfl, h.1⟩
theorem atoi_dec (n : Nat) (h : n ≤ 9223372036854775807) : Lib.atoiAll (decDigits n) = .ok (n : Int) := by
  obtain ⟨c, r, hd, hc⟩ := dec_cons n
  have hc' : 48 ≤ c.toNat ∧ c.toNat ≤ 57 := by simpa [isDig] using hc
  have hp := parseUintB_decDigits 64 n (by omega) (by omega)
  rw [Lib.parseUintB_64] at hp
  rw [hd, Lib.atoiAll_plain c r (by omega) (by omega), ← hd, hp]
  simp [Lib.signless]; omega

def letterB (k : Int) : UInt8 := if k = 1 then 102 else if k = 2 then 98 else 108
def dOk (size k s g : Int) : Bool := decide (1 ≤ k ∧ k ≤ 3 ∧ 0 ≤ s ∧ s < size ∧ g ≠ 0)
def dErr (size k s g : Int) : Int := if dOk size k s g then 0 else 2
def dNum (k s g : Int) : Int := k * 1099511627776 + s * 4294967296 + g
def dTextL (c : UInt8) (k s g : Int) : List UInt8 := letterB k :: (decDigits s.toNat ++ c :: decDigits g.toNat)
def dText (c : UInt8) (k s g : Int) : ByteArray := ⟨(dTextL c k s g).toArray⟩
def sgn (c : UInt8) : Prop := c = 46 ∨ c = 58
/-- The text l is that of k, s, g. -/
structure IsD (c : UInt8) (size : Int) (l : List UInt8) (k s g : Int) : Prop where
  ok : dOk size k s g = true
  gm : g ≤ 4294967295
  g0 : 0 ≤ g
  eq : l = dTextL c k s g

theorem dOk_iff {size k s g : Int} : dOk size k s g = true ↔ 1 ≤ k ∧ k ≤ 3 ∧ 0 ≤ s ∧ s < size ∧ g ≠ 0 := by unfold dOk; rw [decide_eq_true_iff]
theorem dOk_not {size k s g : Int} (h : dOk size k s g = false) : ¬ (1 ≤ k ∧ k ≤ 3 ∧ 0 ≤ s ∧ s < size ∧ g ≠ 0) := by unfold dOk at h; rwa [decide_eq_false_iff_not] at h
theorem dErr_ok {size k s g : Int} (h : dOk size k s g = true) : dErr size k s g = 0 := by unfold dErr; rw [if_pos h]
theorem dErr_bad {size k s g : Int} (h : dOk size k s g = false) : dErr size k s g = 2 := by unfold dErr; rw [h]; rfl
theorem sgn_dig {c : UInt8} (h : sgn c) : isDig c = false := by rcases h with rfl | rfl <;> rfl
theorem letter_ne {c : UInt8} (h : sgn c) (k : Int) : c ≠ letterB k := by
  unfold letterB
  rcases h with rfl | rfl <;> (split; · decide) <;> (split; · decide) <;> decide
theorem letter_inj {k k' : Int} (h1 : 1 ≤ k) (h2 : k ≤ 3) (h3 : 1 ≤ k') (h4 : k' ≤ 3) (e : letterB k = letterB k') : k = k' := by
  rcases (by omega : k = 1 ∨ k = 2 ∨ k = 3) with rfl | rfl | rfl <;> rcases (by omega : k' = 1 ∨ k' = 2 ∨ k' = 3) with rfl | rfl | rfl <;> first | rfl | (exact absurd e (by decide))
theorem pre_not_mem {c : UInt8} (h : sgn c) (k : Int) (n : Nat) : c ∉ letterB k :: decDigits n := by
  simp only [List.mem_cons, not_or]
  exact ⟨letter_ne h k, not_mem_dec (sgn_dig h)⟩
theorem dTextL_inj {c : UInt8} (hc : sgn c) {size k s g k' s' g' : Int} (h : dOk size k s g = true) (h' : dOk size k' s' g' = true) (g0 : 0 ≤ g) (g0' : 0 ≤ g')
    (e : dTextL c k s g = dTextL c k' s' g') : k = k' ∧ s = s' ∧ g = g' := by
  rw [dOk_iff] at h h'
  unfold dTextL at e
  rw [← List.cons_append, ← List.cons_append] at e
  obtain ⟨e1, e2⟩ := split_unique (pre_not_mem hc k _) (pre_not_mem hc k' _) e
  injection e1 with e3 e4
  have e5 := decDigits_inj e4
  have e6 := decDigits_inj e2
  exact ⟨letter_inj h.1 h.2.1 h'.1 h'.2.1 e3, by omega, by omega⟩
theorem IsD.unique {c : UInt8} (hc : sgn c) {size : Int} {l : List UInt8} {k s g k' s' g' : Int} (h : IsD c size l k s g) (h' : IsD c size l k' s' g') : k = k' ∧ s = s' ∧ g = g' :=
  dTextL_inj hc h.ok h'.ok h.g0 h'.g0 (h.eq.symm.trans h'.eq)
theorem cut_text {c : UInt8} (hc : sgn c) (k s g : Int) : Lib.cut (dTextL c k s g) [c] = (letterB k :: decDigits s.toNat, decDigits g.toNat, true) := by
  unfold dTextL
  rw [← List.cons_append]
  exact cut_at _ _ c (pre_not_mem hc k _)
theorem dText_list (c : UInt8) (k s g : Int) : (dText c k s g).data.toList = dTextL c k s g := by simp [dText]
theorem dTextL_len (c : UInt8) {k s g : Int} (s0 : s < 10000000000) (g0 : g < 10000000000) : (dTextL c k s g).length ≤ 22 ∧ 4 ≤ (dTextL c k s g).length := by
  have h1 := nDigits_le_10 s.toNat (by omega)
  have h2 := nDigits_le_10 g.toNat (by omega)
  have h3 := decDigits_length_pos s.toNat
  have h4 := decDigits_length_pos g.toNat
  unfold dTextL
  simp
  omega
theorem dText_size (c : UInt8) {k s g : Int} (s0 : s < 10000000000) (g0 : g < 10000000000) : (dText c k s g).size ≤ 22 ∧ 4 ≤ (dText c k s g).size := by
  rw [← len_bytes, dText_list]
  exact dTextL_len c s0 g0
theorem dText_inj {c : UInt8} (hc : sgn c) {size k s g k' s' g' : Int} (h : dOk size k s g = true) (h' : dOk size k' s' g' = true) (g0 : 0 ≤ g) (g0' : 0 ≤ g')
    (e : dText c k s g = dText c k' s' g') : k = k' ∧ s = s' ∧ g = g' :=
  dTextL_inj hc h h' g0 g0' (by rw [← dText_list, e, dText_list])
/-- A text of one sign is none of the other. -/
theorem dTextL_other {k s g k' s' g' : Int} : dTextL 46 k s g ≠ dTextL 58 k' s' g' := by
  intro e
  have h : (46 : UInt8) ∈ dTextL 58 k' s' g' := by rw [← e]; unfold dTextL; simp
  unfold dTextL at h
  simp only [List.mem_cons, List.mem_append] at h
  rcases h with h | h | h | h
  · exact letter_ne (.inl rfl) k' h
  · exact not_mem_dec (c := 46) rfl h
  · exact absurd h (by decide)
  · exact not_mem_dec (c := 46) rfl h
/-- The number, and back. -/
theorem dNum_parts {k s g : Int} (s0 : 0 ≤ s) (s1 : s < 256) (g0 : 0 ≤ g) (g1 : g ≤ 4294967295) : dNum k s g / 1099511627776 = k ∧ dNum k s g / 4294967296 % 256 = s ∧ dNum k s g % 4294967296 = g := by
  unfold dNum; omega
theorem dNum_back (n : Int) : dNum (n / 1099511627776) (n / 4294967296 % 256) (n % 4294967296) = n := by
  unfold dNum; omega
end Go.Proofs.YtpegkcmomkdoeaaDoor
