/- Decimal numerals in plain Lean: reading back what was written. No program in sight. -/
import Derived.Lib.ItoaNum
import Derived.Lib.ParseIntB
import Derived.Lib.AtoiAllCases
import Derived.Lib.IndexMore
import Derived.Lib.IndexBytes
import Derived.Lib.ParseIntBCases
import Derived.Lib.ItoaMem
import Derived.Lib.SplitLaws
import Derived.Lib.CountLaws
import Derived.Lib.Join
import Derived.Lib.MapLaws
import Derived.Lib.DecodeN
import Derived.Shelf.Strings.Builder1
import Derived.Shelf.Strings.Builder2
import Derived.Shelf.Strings.OnBuilder
import Derived.Shelf.Small.Strs
import Derived.Shelf.Strings.BuilderF
import Derived.Shelf.Strings.BuilderK
import Derived.Shelf.Strings.BuilderRune
import Derived.Shelf.Utf8.AppendRune
import Derived.Shelf.Utf8.AppendRunePlain
import Derived.Shelf.Strings.Builder2Cap
import Derived.Shelf.Strconv.Atoi
import Derived.Shelf.Strconv.Itoa0
import Derived.Shelf.Strconv.Itoa1
import Derived.Shelf.LaysM
import Derived.Shelf.Strconv.Itoa2
import Derived.Shelf.Strconv.Itoa3
import Derived.Shelf.Strconv.AtoiErrFast
import Derived.Shelf.Strconv.ParseIntEmpty
import Derived.Shelf.Strconv.AtoiFail
import Derived.Shelf.Strconv.Clone
import Derived.Shelf.Strconv.SyntaxError
import Derived.Shelf.LaysC
import Derived.Shelf.Strconv.ToError
import Derived.Shelf.Strconv.Lower
import Derived.Shelf.Strconv.ParseUint10
import Derived.Shelf.Strconv.ParseUint10Empty
import Derived.Shelf.Strconv.ParseUint10Any
import Derived.Shelf.Strconv.ParseInt10
import Derived.Shelf.Strconv.AtoiLong
import Derived.Shelf.Strconv.AtoiInnerAll
import Derived.Shelf.Strconv.RangeError
import Derived.Shelf.Strconv.ToErrorRange
import Derived.Shelf.Strconv.AtoiAll
import Derived.Shelf.Strconv.ErrVarAll
import Derived.Shelf.Strconv.ParseUintEmpty
import Derived.Shelf.Strconv.ParseUint10b64
import Derived.Shelf.Strconv.ParseUint10b32
import Derived.Shelf.Strconv.ParseUint10b16
import Derived.Shelf.Strconv.ParseUint10b8
import Derived.Shelf.Strconv.ParseUint10At
import Derived.Shelf.Strconv.ParseInt10At64
import Derived.Shelf.Strconv.ParseInt10At32
import Derived.Shelf.Strconv.ParseInt10At16
import Derived.Shelf.Strconv.ParseInt10At8
import Derived.Shelf.Strconv.ParseInt10All
import Derived.Shelf.Strings.Search1
import Derived.Shelf.Strings.Search2
import Derived.Shelf.Strings.Search3
import Derived.Shelf.Strings.Cut
import Derived.Shelf.Strings.Shaped
import Derived.Shelf.Strings.Prefix
import Derived.Shelf.Unicode.Decode
import Derived.Shelf.Bits.Mul64
import Derived.Shelf.Unicode.DecodeSlow
import Derived.Shelf.Unicode.DecodeAny
import Derived.Shelf.Strings.BuilderCap
import Derived.Test.YthkngleegefgbaaGreatDoorProg
import Derived.WalkKit
import Derived.Handy
import Derived.Lib.LaidTab
import Derived.WalkSmall
import Derived.ChangeAgain
import Derived.Deep.RegionWith
import Derived.Deep.RegionHeld3
import Derived.Lib.RuneCountTail
import Derived.Lib.OthersKept
import Derived.Laws.RangeAny
import Derived.RangeFuncCalls
import Derived.RangeFuncNested
import Derived.OrdersIn
import Derived.RangeFuncBound
import Derived.RangeFuncLeaves
import Derived.RangeFuncBox
import Derived.Shelf.Abstract
import Derived.Shelf.RegionOpen
import Derived.OwnWalkIn
import Derived.Maps.AppendAt
import Derived.TacticsInMore
import Derived.LoopNIn
import Derived.LoopIn
import Derived.Laws.AppendOwn
import Derived.Deep.DeepCutAuto
import Derived.Lib.FrozenHead2
namespace Go.Proofs.YthkngleegefgbaaGreatDoor
open Go.Lib (decDigits nDigits parseUintM parseUintB)

def dstep (acc : Nat) (c : UInt8) : Nat := acc * 10 + (c.toNat - 48)
def valFrom (acc : Nat) (l : List UInt8) : Nat := l.foldl dstep acc
def isDig (c : UInt8) : Bool := decide (48 ≤ c.toNat ∧ c.toNat ≤ 57)

theorem valFrom_cons (acc : Nat) (c : UInt8) (r : List UInt8) : valFrom acc (c :: r) = valFrom (acc * 10 + (c.toNat - 48)) r := by simp only [valFrom, List.foldl_cons, dstep]
theorem valFrom_nil (acc : Nat) : valFrom acc [] = acc := by simp only [valFrom, List.foldl_nil]
theorem valFrom_one (acc : Nat) (c : UInt8) : valFrom acc [c] = acc * 10 + (c.toNat - 48) := by rw [valFrom_cons, valFrom_nil]
theorem valFrom_append (l r : List UInt8) (acc : Nat) : valFrom acc (l ++ r) = valFrom (valFrom acc l) r := by simp only [valFrom, List.foldl_append]
theorem isDig_digit (d : Nat) (h : d < 10) : isDig (UInt8.ofNat (48 + d)) = true := by
  unfold isDig
  have : (UInt8.ofNat (48 + d)).toNat = 48 + d := by
    rw [UInt8.toNat_ofNat']; omega
  rw [this]; simp; omega
theorem digit_toNat (d : Nat) (h : d < 10) : (UInt8.ofNat (48 + d)).toNat - 48 = d := by
  have : (UInt8.ofNat (48 + d)).toNat = 48 + d := by
    rw [UInt8.toNat_ofNat']; omega
  omega
theorem decDigits_step (u : Nat) : decDigits u = if u < 10 then [UInt8.ofNat (48 + u)] else decDigits (u / 10) ++ [UInt8.ofNat (48 + u % 10)] := by
  rw [decDigits]
  by_cases h : u < 10 <;> simp [h]
theorem decDigits_all (u : Nat) : (decDigits u).all isDig = true := by
  induction u using Nat.strongRecOn with
  | ind u ih =>
    rw [decDigits_step]
    by_cases h : u < 10
    · rw [if_pos h, List.all_cons, isDig_digit u h]; rfl
    · rw [if_neg h, List.all_append, ih (u / 10) (by omega)]
      rw [List.all_cons, isDig_digit (u % 10) (by omega)]; rfl
theorem val_decDigits (u : Nat) : valFrom 0 (decDigits u) = u := by
  induction u using Nat.strongRecOn with
  | ind u ih =>
    rw [decDigits_step]
    by_cases h : u < 10
    · rw [if_pos h, valFrom_one, digit_toNat u h, Nat.zero_mul, Nat.zero_add]
    · rw [if_neg h, valFrom_append, ih (u / 10) (by omega)]
      rw [valFrom_one, digit_toNat (u % 10) (by omega)]; omega
theorem decDigits_inj {a b : Nat} (h : decDigits a = decDigits b) : a = b := by
  rw [← val_decDigits a, h, val_decDigits]
theorem decDigits_ne_nil (u : Nat) : decDigits u ≠ [] := by
  rw [decDigits_step]; by_cases h : u < 10 <;> simp [h]
theorem decDigits_length_pos (u : Nat) : 1 ≤ (decDigits u).length := by
  have := decDigits_ne_nil u
  cases h : decDigits u with
  | nil => exact absurd h this
  | cons c r => simp
theorem valFrom_le (l : List UInt8) : ∀ acc, acc ≤ valFrom acc l := by
  induction l with
  | nil => intro acc; rw [valFrom_nil]; exact Nat.le_refl _
  | cons c l ih => intro acc; rw [valFrom_cons]; exact Nat.le_trans (by omega) (ih (acc * 10 + (c.toNat - 48)))
theorem parseUintM_ok (M : Nat) (l : List UInt8) : ∀ acc u, parseUintM M acc l = .ok u → u = valFrom acc l ∧ l.all isDig = true ∧ (acc ≤ M → u ≤ M) := by
  induction l with
  | nil => intro acc u h; simp only [parseUintM, Lib.NumEnd.ok.injEq] at h; subst h; exact ⟨(valFrom_nil acc).symm, rfl, fun h => h⟩
  | cons c r ih =>
    intro acc u h
    simp only [parseUintM] at h
    by_cases h1 : 48 ≤ c.toNat ∧ c.toNat ≤ 57
    · rw [if_pos h1] at h
      by_cases h2 : 1844674407370955162 ≤ acc
      · rw [if_pos h2] at h; cases h
      · rw [if_neg h2] at h
        by_cases h3 : M < acc * 10 + (c.toNat - 48)
        · rw [if_pos h3] at h; cases h
        · rw [if_neg h3] at h
          obtain ⟨a, b, d⟩ := ih _ _ h
          refine ⟨by rw [valFrom_cons]; exact a, ?_, fun _ => d (by omega)⟩
          rw [List.all_cons, b]; simp [isDig, h1]
    · rw [if_neg h1] at h; cases h
theorem parseUintM_val (M : Nat) (hM : M < 18446744073709551616) (l : List UInt8) : ∀ acc, l.all isDig = true → valFrom acc l ≤ M → parseUintM M acc l = .ok (valFrom acc l) := by
  induction l with
  | nil => intro acc _ _; rw [valFrom_nil]; rfl
  | cons c r ih =>
    intro acc h hv
    rw [List.all_cons, Bool.and_eq_true] at h
    have h1 : 48 ≤ c.toNat ∧ c.toNat ≤ 57 := by simpa [isDig] using h.1
    rw [valFrom_cons] at hv
    have hle := valFrom_le r (acc * 10 + (c.toNat - 48))
    simp only [parseUintM]
    rw [if_pos h1, if_neg (by omega), if_neg (by omega), ih _ h.2 hv, valFrom_cons]
theorem parseUintB_decDigits (B u : Nat) (hB : B ≤ 64) (h : u ≤ 2 ^ B - 1) : parseUintB B (decDigits u) = .ok u := by
  have hp : 2 ^ B ≤ 2 ^ 64 := Nat.pow_le_pow_right (by omega) hB
  have h64 : (2 : Nat) ^ 64 = 18446744073709551616 := by decide
  have hpos : 0 < 2 ^ B := Nat.pow_pos (by omega)
  unfold parseUintB
  rw [if_neg (decDigits_ne_nil u), parseUintM_val _ (by omega) _ _ (decDigits_all u) (by rw [val_decDigits]; exact h), val_decDigits]
theorem parseUintB_ok (B u : Nat) (l : List UInt8) (h : parseUintB B l = .ok u) : u = valFrom 0 l ∧ l.all isDig = true ∧ u ≤ 2 ^ B - 1 ∧ l ≠ [] := by
  unfold parseUintB at h
  by_cases hl : l = []
  · rw [if_pos hl] at h; cases h
  · rw [if_neg hl] at h
    obtain ⟨a, b, c⟩ := parseUintM_ok _ _ _ _ h
    exact ⟨a, b, c (Nat.zero_le _), hl⟩
theorem dec_len (k : Nat) : ∀ u, u < 10 ^ (k + 1) → (decDigits u).length ≤ k + 1 := by
  induction k with
  | zero => intro u h; rw [decDigits_step, if_pos (by simpa using h)]; simp
  | succ k ih =>
    intro u h
    rw [decDigits_step]
    by_cases h1 : u < 10
    · rw [if_pos h1]; simp
    · rw [if_neg h1, List.length_append]
      have := ih (u / 10) (by rw [Nat.div_lt_iff_lt_mul (by omega)]; rw [Nat.pow_succ] at h; omega)
      simp; omega
theorem nDigits_le_10 (u : Nat) (h : u < 10000000000) : (decDigits u).length ≤ 10 := dec_len 9 u (by simpa using h)
theorem nDigits_le_20 (u : Nat) (h : u ≤ 18446744073709551615) : (decDigits u).length ≤ 20 := dec_len 19 u (by
  have : (10 : Nat) ^ (19 + 1) = 100000000000000000000 := by decide
  omega)
theorem valFrom_lt (l : List UInt8) : ∀ acc, l.all isDig = true → valFrom acc l < (acc + 1) * 10 ^ l.length := by
  induction l with
  | nil => intro acc _; rw [valFrom_nil]; simp
  | cons c r ih =>
    intro acc h
    rw [List.all_cons, Bool.and_eq_true] at h
    have h1 : 48 ≤ c.toNat ∧ c.toNat ≤ 57 := by simpa [isDig] using h.1
    rw [valFrom_cons, List.length_cons]
    refine Nat.lt_of_lt_of_le (ih (acc * 10 + (c.toNat - 48)) h.2) ?_
    rw [Nat.pow_succ, Nat.mul_comm (10 ^ r.length) 10, ← Nat.mul_assoc]
    exact Nat.mul_le_mul_right _ (by omega)
theorem valFrom_lt_10 (l : List UInt8) (h : l.all isDig = true) (hl : l.length ≤ 10) : valFrom 0 l < 10000000000 := by
  have := valFrom_lt l 0 h
  have h2 : (10 : Nat) ^ l.length ≤ 10 ^ 10 := Nat.pow_le_pow_right (by omega) hl
  omega
theorem len_bytes (s : ByteArray) : s.data.toList.length = s.size := by rw [Array.length_toList]; rfl
end Go.Proofs.YthkngleegefgbaaGreatDoor

/- Generations in plain Lean: what the chapter's functions give. No program in sight. -/
namespace Go.Proofs.YthkngleegefgbaaGreatDoor
open Go.Lib (decDigits)

def gErr (g : Int) : Int := if g = 0 then 2 else 0
def gLeft (g : Int) : Int := if g = 0 then 0 else 4294967295 - g
def gAfter (g n : Int) : Int := if g = 0 then 0 else if 4294967295 - g < n then 0 else g + n
def gAfterB (g n : Int) : Bool := decide (g ≠ 0 ∧ n ≤ 4294967295 - g)
def gNewer (a b : Int) : Bool := decide (a ≠ 0 ∧ b ≠ 0 ∧ b < a)
def gErr2 (a b : Int) : Int := if a = 0 ∨ b = 0 then 2 else 0
def digits (n : Nat) : ByteArray := ⟨(decDigits n).toArray⟩
def gText (g : Int) : ByteArray := if g = 0 then ⟨#[]⟩ else digits g.toNat
def isGen (l : List UInt8) : Bool := decide (decDigits (valFrom 0 l) = l ∧ 1 ≤ valFrom 0 l ∧ valFrom 0 l ≤ 4294967295)
def gParse (l : List UInt8) : Int := if isGen l then (valFrom 0 l : Int) else 0
def gParseE (l : List UInt8) : Int := if isGen l then 0 else 9

theorem gErr_zero : gErr 0 = 2 := rfl
theorem gErr_pos {g : Int} (h : 1 ≤ g) : gErr g = 0 := by unfold gErr; rw [if_neg (by omega)]
theorem gLeft_zero : gLeft 0 = 0 := rfl
theorem gLeft_pos {g : Int} (h : 1 ≤ g) : gLeft g = 4294967295 - g := by unfold gLeft; rw [if_neg (by omega)]
theorem gAfter_zero (n : Int) : gAfter 0 n = 0 := rfl
theorem gAfter_in {g n : Int} (h : 1 ≤ g) (hn : n ≤ 4294967295 - g) : gAfter g n = g + n := by unfold gAfter; rw [if_neg (by omega), if_neg (by omega)]
theorem gAfter_out {g n : Int} (hn : 4294967295 - g < n) : gAfter g n = 0 := by unfold gAfter; split <;> first | rfl | rw [if_pos hn]
theorem gAfterB_zero (n : Int) : gAfterB 0 n = false := by unfold gAfterB; simp
theorem gAfterB_in {g n : Int} (h : 1 ≤ g) (hn : n ≤ 4294967295 - g) : gAfterB g n = true := by unfold gAfterB; simp; omega
theorem gAfterB_out {g n : Int} (hn : 4294967295 - g < n) : gAfterB g n = false := by unfold gAfterB; simp; omega
theorem gNewer_left (b : Int) : gNewer 0 b = false := by unfold gNewer; simp
theorem gNewer_right (a : Int) : gNewer a 0 = false := by unfold gNewer; simp
theorem gNewer_pos {a b : Int} (ha : 1 ≤ a) (hb : 1 ≤ b) : gNewer a b = decide (b < a) := by
  unfold gNewer
  by_cases h : b < a <;> simp [h] <;> omega
theorem gErr2_left (b : Int) : gErr2 0 b = 2 := by unfold gErr2; simp
theorem gErr2_right (a : Int) : gErr2 a 0 = 2 := by unfold gErr2; simp
theorem gErr2_pos {a b : Int} (ha : 1 ≤ a) (hb : 1 ≤ b) : gErr2 a b = 0 := by unfold gErr2; rw [if_neg (by omega)]
theorem gText_zero : gText 0 = ⟨#[]⟩ := rfl
theorem gText_pos {g : Int} (h : 1 ≤ g) : gText g = digits g.toNat := by unfold gText; rw [if_neg (by omega)]
theorem digits_list (n : Nat) : (digits n).data.toList = decDigits n := by simp [digits]
theorem digits_size (n : Nat) : (digits n).size = (decDigits n).length := by simp [digits, ByteArray.size]
theorem digits_size_le (n : Nat) (h : n ≤ 18446744073709551615) : (digits n).size ≤ 20 := by rw [digits_size]; exact nDigits_le_20 n h
theorem digits_inj {a b : Nat} (h : digits a = digits b) : a = b := by
  apply decDigits_inj
  rw [← digits_list, ← digits_list, h]
theorem isGen_iff (l : List UInt8) : isGen l = true ↔ ∃ n : Nat, 1 ≤ n ∧ n ≤ 4294967295 ∧ decDigits n = l := by
  unfold isGen
  rw [decide_eq_true_iff]
  constructor
  · intro ⟨a, b, c⟩; exact ⟨_, b, c, a⟩
  · intro ⟨n, a, b, c⟩
    subst c
    rw [val_decDigits]
    exact ⟨rfl, a, b⟩
theorem gParse_digits {n : Nat} (h1 : 1 ≤ n) (h2 : n ≤ 4294967295) : gParse (decDigits n) = n ∧ gParseE (decDigits n) = 0 := by
  have h : isGen (decDigits n) = true := (isGen_iff _).2 ⟨n, h1, h2, rfl⟩
  unfold gParse gParseE
  rw [if_pos h, if_pos h, val_decDigits]
  exact ⟨rfl, rfl⟩
theorem gParse_not {l : List UInt8} (h : isGen l = false) : gParse l = 0 ∧ gParseE l = 9 := by
  unfold gParse gParseE
  rw [h]; exact ⟨rfl, rfl⟩
theorem gParseE_cases (l : List UInt8) : gParseE l = 0 ∨ gParseE l = 9 := by unfold gParseE; split <;> simp
theorem gParseE_zero {l : List UInt8} (h : gParseE l = 0) : ∃ n : Nat, 1 ≤ n ∧ n ≤ 4294967295 ∧ decDigits n = l ∧ gParse l = n := by
  have hg : isGen l = true := by
    unfold gParseE at h
    cases hi : isGen l with
    | true => rfl
    | false => rw [hi] at h; simp at h
  obtain ⟨n, a, b, c⟩ := (isGen_iff l).1 hg
  exact ⟨n, a, b, c, by rw [← c]; exact (gParse_digits a b).1⟩
def numB (l : List UInt8) : Bool := decide (l.length ≤ 10 ∧ decDigits (valFrom 0 l) = l)
def numV (l : List UInt8) : Int := if l.length ≤ 10 ∧ l.all isDig = true then (valFrom 0 l : Int) else 0
theorem numV_bound (l : List UInt8) : 0 ≤ numV l ∧ numV l ≤ 9999999999 := by
  unfold numV
  split
  · rename_i h
    have := valFrom_lt_10 l h.2 h.1
    omega
  · omega
theorem numB_val {l : List UInt8} (h : numB l = true) : numV l = (valFrom 0 l : Int) ∧ decDigits (valFrom 0 l) = l := by
  unfold numB at h
  rw [decide_eq_true_iff] at h
  unfold numV
  rw [if_pos ⟨h.1, by rw [← h.2]; exact decDigits_all _⟩]
  exact ⟨rfl, h.2⟩
end Go.Proofs.YthkngleegefgbaaGreatDoor

/- Descriptors and resources of the outer world in plain Lean: numbers, texts, what texts are read as. No program in sight. -/
namespace Go.Proofs.YthkngleegefgbaaGreatDoor
open Go.Lib (decDigits)

theorem indexByte_at (pre post : List UInt8) (c : UInt8) (h : c ∉ pre) : Lib.indexByte (pre ++ c :: post) c = pre.length := by
  induction pre with
  | nil => simp [Lib.indexByte]
  | cons b pre ih =>
    simp only [List.mem_cons, not_or] at h
    have hi := ih h.2
    have hb : (b == c) = false := by rw [beq_eq_false_iff_ne]; exact fun e => h.1 e.symm
    have hn : (((pre.length : Int)) == -1) = false := by rw [beq_eq_false_iff_ne]; omega
    simp only [List.cons_append, Lib.indexByte, hi, hb, hn]
    simp
theorem indexByte_no (l : List UInt8) (c : UInt8) (h : c ∉ l) : Lib.indexByte l c = -1 := by
  induction l with
  | nil => rfl
  | cons b l ih =>
    simp only [List.mem_cons, not_or] at h
    have hb : (b == c) = false := by rw [beq_eq_false_iff_ne]; exact fun e => h.1 e.symm
    simp only [Lib.indexByte, ih h.2, hb]
    rfl
theorem cut_at (pre post : List UInt8) (c : UInt8) (h : c ∉ pre) : Lib.cut (pre ++ c :: post) [c] = (pre, post, true) := by
  unfold Lib.cut
  rw [Lib.index_one, indexByte_at pre post c h, if_pos (by omega)]
  simp
theorem cut_no (l : List UInt8) (c : UInt8) (h : c ∉ l) : Lib.cut l [c] = (l, [], false) := by
  unfold Lib.cut
  rw [Lib.index_one, indexByte_no l c h, if_neg (by omega)]
theorem mem_split (l : List UInt8) (c : UInt8) : c ∉ l ∨ ∃ pre post, c ∉ pre ∧ l = pre ++ c :: post := by
  induction l with
  | nil => exact .inl (by simp)
  | cons b l ih =>
    by_cases hb : b = c
    · exact .inr ⟨[], l, by simp, by rw [hb]; rfl⟩
    · rcases ih with h | ⟨pre, post, h, e⟩
      · exact .inl (by simp only [List.mem_cons, not_or]; exact ⟨fun e => hb e.symm, h⟩)
      · exact .inr ⟨b :: pre, post, by simp only [List.mem_cons, not_or]; exact ⟨fun e => hb e.symm, h⟩, by rw [e]; rfl⟩
theorem split_unique {a a' b b' : List UInt8} {c : UInt8} (h : c ∉ a) (h' : c ∉ a') (e : a ++ c :: b = a' ++ c :: b') : a = a' ∧ b = b' := by
  have h1 := cut_at a b c h
  rw [e, cut_at a' b' c h'] at h1
  injection h1 with h2 h3
  injection h3 with h4 _
  exact ⟨h2.symm, h4.symm⟩
theorem not_mem_dec {n : Nat} {c : UInt8} (h : isDig c = false) : c ∉ decDigits n := by
  intro hm
  have := List.all_eq_true.1 (decDigits_all n) c hm
  rw [h] at this; cases this
theorem dec_cons (n : Nat) : ∃ c r, decDigits n = c :: r ∧ isDig c = true := by
  have h := decDigits_all n
  cases hd : decDigits n with
  | nil => exact absurd hd (decDigits_ne_nil n)
  | cons c r =>
    rw [hd, List.all_cons, Bool.and_eq_true] at h
    exact ⟨c, r, rfl, h.1⟩
theorem atoi_dec (n : Nat) (h : n ≤ 9223372036854775807) : Lib.atoiAll (decDigits n) = .ok (n : Int) := by
  obtain ⟨c, r, hd, hc⟩ := dec_cons n
  have hc' : 48 ≤ c.toNat ∧ c.toNat ≤ 57 := by simpa [isDig] using hc
  have hp := parseUintB_decDigits 64 n (by omega) (by omega)
  rw [Lib.parseUintB_64] at hp
  rw [hd, Lib.atoiAll_plain c r (by omega) (by omega), ← hd, hp]
  simp [Lib.signless]; omega

def letterB (k : Int) : UInt8 := if k = 1 then 102 else if k = 2 then 98 else 108
def dOk (size k s g : Int) : Bool := decide (1 ≤ k ∧ k ≤ 3 ∧ 0 ≤ s ∧ s < size ∧ g ≠ 0)
def dErr (size k s g : Int) : Int := if dOk size k s g then 0 else 2
def dNum (k s g : Int) : Int := k * 1099511627776 + s * 4294967296 + g
def dTextL (c : UInt8) (k s g : Int) : List UInt8 := letterB k :: (decDigits s.toNat ++ c :: decDigits g.toNat)
def dText (c : UInt8) (k s g : Int) : ByteArray := ⟨(dTextL c k s g).toArray⟩
def sgn (c : UInt8) : Prop := c = 46 ∨ c = 58
/-- The text l is that of k, s, g. -/
structure IsD (c : UInt8) (size : Int) (l : List UInt8) (k s g : Int) : Prop where
  ok : dOk size k s g = true
  gm : g ≤ 4294967295
  g0 : 0 ≤ g
  eq : l = dTextL c k s g

theorem dOk_iff {size k s g : Int} : dOk size k s g = true ↔ 1 ≤ k ∧ k ≤ 3 ∧ 0 ≤ s ∧ s < size ∧ g ≠ 0 := by unfold dOk; rw [decide_eq_true_iff]
theorem dOk_not {size k s g : Int} (h : dOk size k s g = false) : ¬ (1 ≤ k ∧ k ≤ 3 ∧ 0 ≤ s ∧ s < size ∧ g ≠ 0) := by unfold dOk at h; rwa [decide_eq_false_iff_not] at h
theorem dErr_ok {size k s g : Int} (h : dOk size k s g = true) : dErr size k s g = 0 := by unfold dErr; rw [if_pos h]
theorem dErr_bad {size k s g : Int} (h : dOk size k s g = false) : dErr size k s g = 2 := by unfold dErr; rw [h]; rfl
theorem sgn_dig {c : UInt8} (h : sgn c) : isDig c = false := by rcases h with rfl | rfl <;> rfl
theorem letter_ne {c : UInt8} (h : sgn c) (k : Int) : c ≠ letterB k := by
  unfold letterB
  rcases h with rfl | rfl <;> (split; · decide) <;> (split; · decide) <;> decide
theorem letter_inj {k k' : Int} (h1 : 1 ≤ k) (h2 : k ≤ 3) (h3 : 1 ≤ k') (h4 : k' ≤ 3) (e : letterB k = letterB k') : k = k' := by
  rcases (by omega : k = 1 ∨ k = 2 ∨ k = 3) with rfl | rfl | rfl <;> rcases (by omega : k' = 1 ∨ k' = 2 ∨ k' = 3) with rfl | rfl | rfl <;> first | rfl | (exact absurd e (by decide))
theorem pre_not_mem {c : UInt8} (h : sgn c) (k : Int) (n : Nat) : c ∉ letterB k :: decDigits n := by
  simp only [List.mem_cons, not_or]
  exact ⟨letter_ne h k, not_mem_dec (sgn_dig h)⟩
theorem dTextL_inj {c : UInt8} (hc : sgn c) {size k s g k' s' g' : Int} (h : dOk size k s g = true) (h' : dOk size k' s' g' = true) (g0 : 0 ≤ g) (g0' : 0 ≤ g')
    (e : dTextL c k s g = dTextL c k' s' g') : k = k' ∧ s = s' ∧ g = g' := by
  rw [dOk_iff] at h h'
  unfold dTextL at e
  rw [← List.cons_append, ← List.cons_append] at e
  obtain ⟨e1, e2⟩ := split_unique (pre_not_mem hc k _) (pre_not_mem hc k' _) e
  injection e1 with e3 e4
  have e5 := decDigits_inj e4
  have e6 := decDigits_inj e2
  exact ⟨letter_inj h.1 h.2.1 h'.1 h'.2.1 e3, by omega, by omega⟩
theorem IsD.unique {c : UInt8} (hc : sgn c) {size : Int} {l : List UInt8} {k s g k' s' g' : Int} (h : IsD c size l k s g) (h' : IsD c size l k' s' g') : k = k' ∧ s = s' ∧ g = g' :=
  dTextL_inj hc h.ok h'.ok h.g0 h'.g0 (h.eq.symm.trans h'.eq)
theorem cut_text {c : UInt8} (hc : sgn c) (k s g : Int) : Lib.cut (dTextL c k s g) [c] = (letterB k :: decDigits s.toNat, decDigits g.toNat, true) := by
  unfold dTextL
  rw [← List.cons_append]
  exact cut_at _ _ c (pre_not_mem hc k _)
theorem dText_list (c : UInt8) (k s g : Int) : (dText c k s g).data.toList = dTextL c k s g := by simp [dText]
theorem dTextL_len (c : UInt8) {k s g : Int} (s0 : s < 10000000000) (g0 : g < 10000000000) : (dTextL c k s g).length ≤ 22 ∧ 4 ≤ (dTextL c k s g).length := by
  have h1 := nDigits_le_10 s.toNat (by omega)
  have h2 := nDigits_le_10 g.toNat (by omega)
  have h3 := decDigits_length_pos s.toNat
  have h4 := decDigits_length_pos g.toNat
  unfold dTextL
  simp
  omega
theorem dText_size (c : UInt8) {k s g : Int} (s0 : s < 10000000000) (g0 : g < 10000000000) : (dText c k s g).size ≤ 22 ∧ 4 ≤ (dText c k s g).size := by
  rw [← len_bytes, dText_list]
  exact dTextL_len c s0 g0
theorem dText_inj {c : UInt8} (hc : sgn c) {size k s g k' s' g' : Int} (h : dOk size k s g = true) (h' : dOk size k' s' g' = true) (g0 : 0 ≤ g) (g0' : 0 ≤ g')
    (e : dText c k s g = dText c k' s' g') : k = k' ∧ s = s' ∧ g = g' :=
  dTextL_inj hc h h' g0 g0' (by rw [← dText_list, e, dText_list])
/-- A text of one sign is none of the other. -/
theorem dTextL_other {k s g k' s' g' : Int} : dTextL 46 k s g ≠ dTextL 58 k' s' g' := by
  intro e
  have h : (46 : UInt8) ∈ dTextL 58 k' s' g' := by rw [← e]; unfold dTextL; simp
  unfold dTextL at h
  simp only [List.mem_cons, List.mem_append] at h
  rcases h with h | h | h | h
  · exact letter_ne (.inl rfl) k' h
  · exact not_mem_dec (c := 46) rfl h
  · exact absurd h (by decide)
  · exact not_mem_dec (c := 46) rfl h
/-- The number, and back. -/
theorem dNum_parts {k s g : Int} (s0 : 0 ≤ s) (s1 : s < 256) (g0 : 0 ≤ g) (g1 : g ≤ 4294967295) : dNum k s g / 1099511627776 = k ∧ dNum k s g / 4294967296 % 256 = s ∧ dNum k s g % 4294967296 = g := by
  unfold dNum; omega
theorem dNum_back (n : Int) : dNum (n / 1099511627776) (n / 4294967296 % 256) (n % 4294967296) = n := by
  unfold dNum; omega
end Go.Proofs.YthkngleegefgbaaGreatDoor

/- A text cut at every place of one byte, in plain Lean; strings.Split gives just that. No program in sight. -/
namespace Go.Proofs.YthkngleegefgbaaGreatDoor
open Go.Lib (decDigits)
set_option linter.unusedVariables false

def cutAll (c : UInt8) : List UInt8 → List (List UInt8)
  | [] => [[]]
  | b :: l => if b = c then [] :: cutAll c l else match cutAll c l with
    | h :: t => (b :: h) :: t
    | [] => [[b]]
theorem cutAll_cons (c b : UInt8) (l : List UInt8) : cutAll c (b :: l) = if b = c then [] :: cutAll c l else match cutAll c l with
    | h :: t => (b :: h) :: t
    | [] => [[b]] := rfl
theorem cutAll_ne (c : UInt8) (l : List UInt8) : cutAll c l ≠ [] := by
  cases l with
  | nil => simp [cutAll]
  | cons b l =>
    rw [cutAll_cons]
    split
    · simp
    · split <;> simp
theorem cutAll_no (c : UInt8) (l : List UInt8) (h : c ∉ l) : cutAll c l = [l] := by
  induction l with
  | nil => rfl
  | cons b l ih =>
    simp only [List.mem_cons, not_or] at h
    rw [cutAll_cons]
    rw [if_neg (fun e => h.1 e.symm), ih h.2]
theorem cutAll_at (c : UInt8) (pre post : List UInt8) (h : c ∉ pre) : cutAll c (pre ++ c :: post) = pre :: cutAll c post := by
  induction pre with
  | nil => simp [cutAll]
  | cons b pre ih =>
    simp only [List.mem_cons, not_or] at h
    rw [List.cons_append]
    rw [cutAll_cons]
    rw [if_neg (fun e => h.1 e.symm), ih h.2]
theorem cutAll_join (c : UInt8) : ∀ (l : List (List UInt8)), l ≠ [] → (∀ x ∈ l, c ∉ x) → cutAll c (Lib.join l [c]) = l
  | [], h, _ => absurd rfl h
  | [x], _, h => by
    rw [show Lib.join [x] [c] = x by simp [Lib.join, List.intercalate]]
    exact cutAll_no c x (h x (by simp))
  | x :: y :: l, _, h => by
    rw [show Lib.join (x :: y :: l) [c] = x ++ c :: Lib.join (y :: l) [c] by simp [Lib.join, List.intercalate, List.intersperse], cutAll_at c x _ (h x (by simp)), cutAll_join c (y :: l) (by simp) (fun z hz => h z (by simp [hz]))]
theorem join_cutAll (c : UInt8) : ∀ (l : List UInt8), Lib.join (cutAll c l) [c] = l := by
  intro l
  induction l with
  | nil => simp [cutAll, Lib.join, List.intercalate]
  | cons b l ih =>
    rw [cutAll_cons]
    have hne := cutAll_ne c l
    split
    · rename_i e
      subst e
      cases hc : cutAll b l with
      | nil => exact absurd hc hne
      | cons h t =>
        rw [hc] at ih
        rw [show Lib.join ([] :: h :: t) [b] = b :: Lib.join (h :: t) [b] by simp [Lib.join, List.intercalate, List.intersperse], ih]
    · cases hc : cutAll c l with
      | nil => exact absurd hc hne
      | cons h t =>
        rw [hc] at ih
        simp only
        cases t with
        | nil => simp [Lib.join, List.intercalate] at ih ⊢; exact ih
        | cons y t => simp [Lib.join, List.intercalate, List.intersperse] at ih ⊢; exact ih
theorem cutAll_mem (c : UInt8) (l : List UInt8) : ∀ x ∈ cutAll c l, c ∉ x := by
  induction l with
  | nil => simp [cutAll]
  | cons b l ih =>
    rw [cutAll_cons]
    split
    · intro x hx
      rcases List.mem_cons.1 hx with rfl | hx
      · simp
      · exact ih x hx
    · rename_i hb
      cases hc : cutAll c l with
      | nil => exact absurd hc (cutAll_ne c l)
      | cons h t =>
        intro x hx
        rw [hc] at ih
        rcases List.mem_cons.1 hx with rfl | hx
        · simp only [List.mem_cons, not_or]
          exact ⟨fun e => hb e.symm, ih h (by simp)⟩
        · exact ih x (by simp [hx])
theorem splitB_cutAll (c : UInt8) (k : Nat) : ∀ (s : ByteArray), s.size ≤ k →
    (Lib.splitB ⟨#[c]⟩ 0 (Lib.countB s ⟨#[c]⟩) s).map (·.data.toList) = cutAll c s.data.toList ∧ Lib.countB s ⟨#[c]⟩ + 1 = (cutAll c s.data.toList).length := by
  induction k with
  | zero =>
    intro s hs
    have hl : s.data.toList = [] := List.eq_nil_of_length_eq_zero (by rw [len_bytes]; omega)
    have hi : Lib.indexB s ⟨#[c]⟩ = -1 := by unfold Lib.indexB; rw [hl]; rfl
    rw [Lib.countB_miss _ _ hi, Lib.splitB_zero, hl]
    simp [cutAll, hl]
  | succ k ih =>
    intro s hs
    by_cases hm : c ∈ s.data.toList
    · obtain ⟨pre, post, hp, he⟩ : ∃ pre post, c ∉ pre ∧ s.data.toList = pre ++ c :: post := by
        clear ih hs
        generalize s.data.toList = l at hm
        induction l with
        | nil => simp at hm
        | cons b l ih2 =>
          by_cases hb : b = c
          · exact ⟨[], l, by simp, by rw [hb]; rfl⟩
          · obtain ⟨pre, post, h1, h2⟩ := ih2 (by
              rcases List.mem_cons.1 hm with h | h
              · exact absurd h.symm hb
              · exact h)
            exact ⟨b :: pre, post, by simp only [List.mem_cons, not_or]; exact ⟨fun e => hb e.symm, h1⟩, by rw [h2]; rfl⟩
      have hi : Lib.indexB s ⟨#[c]⟩ = (pre.length : Nat) := by
        unfold Lib.indexB
        rw [he, show (ByteArray.mk #[c]).data.toList = [c] from rfl, Lib.index_one]
        clear ih hs hm he
        induction pre with
        | nil => simp [Lib.indexByte]
        | cons b pre ih2 =>
          simp only [List.mem_cons, not_or] at hp
          have h2 := ih2 hp.2
          have hb : (b == c) = false := by rw [beq_eq_false_iff_ne]; exact fun e => hp.1 e.symm
          have hn : (((pre.length : Int)) == -1) = false := by rw [beq_eq_false_iff_ne]; omega
          simp only [List.cons_append, Lib.indexByte, h2, hb, hn]
          simp
      have hsz : s.size = pre.length + 1 + post.length := by rw [← len_bytes, he]; simp; omega
      have hx : (s.extract (pre.length + (ByteArray.mk #[c]).size) s.size).data.toList = post := by
        rw [Lib.extract_to_end, he, show (ByteArray.mk #[c]).size = 1 from rfl]
        simp
      have hx0 : (s.extract 0 (pre.length + 0)).data.toList = pre := by
        rw [Lib.extract_data, he]
        simp
      obtain ⟨i1, i2⟩ := ih (s.extract (pre.length + (ByteArray.mk #[c]).size) s.size) (by rw [← len_bytes, hx]; omega)
      rw [hx] at i1 i2
      rw [Lib.countB_hit s ⟨#[c]⟩ pre.length (Nat.le_refl 1) hi, Nat.add_comm 1, Lib.splitB_hit _ _ _ _ _ hi, he, cutAll_at c pre post hp, List.map_cons, i1, hx0]
      exact ⟨rfl, by rw [List.length_cons, ← i2]⟩
    · have hi : Lib.indexB s ⟨#[c]⟩ = -1 := by
        unfold Lib.indexB
        rw [show (ByteArray.mk #[c]).data.toList = [c] from rfl, Lib.index_one]
        clear ih hs
        generalize s.data.toList = l at hm
        induction l with
        | nil => rfl
        | cons b l ih2 =>
          simp only [List.mem_cons, not_or] at hm
          have hb : (b == c) = false := by rw [beq_eq_false_iff_ne]; exact fun e => hm.1 e.symm
          simp only [Lib.indexByte, ih2 hm.2, hb]
          rfl
      rw [Lib.countB_miss _ _ hi, Lib.splitB_zero, cutAll_no c _ hm]
      simp
end Go.Proofs.YthkngleegefgbaaGreatDoor

/- Tags (chapter 2): what they are, and their quoted texts, as functions on bytes. -/
namespace Go.Proofs.YthkngleegefgbaaGreatDoor
set_option linter.unusedVariables false
open Go.Lib

/-- The rune at the head, and how many bytes it has; none: these bytes are no UTF-8. -/
def rnL (l : List UInt8) : Option (Nat × Nat) := if decodeL l = (65533, 1) then none else some (decodeL l)
def runesF : Nat → List UInt8 → Option (List Nat)
  | _, [] => some []
  | 0, _ :: _ => none
  | f + 1, b :: t => match rnL (b :: t) with
    | none => none
    | some (r, n) => (runesF f ((b :: t).drop n)).map (r :: ·)
def runesL (l : List UInt8) : Option (List Nat) := runesF l.length l
def runeOk (r : Nat) : Bool := decide (32 ≤ r) && decide (r ≠ 127)
def tagOf : Option (List Nat) → Bool
  | none => false
  | some rs => decide (1 ≤ rs.length) && decide (rs.length ≤ 24) && rs.all runeOk
def tagOk (l : List UInt8) : Bool := tagOf (runesL l)
/-- ErrTag is 16. -/
def tagErr (l : List UInt8) : Int := if tagOk l then 0 else 16

theorem dec_width (l : List UInt8) (hne : l ≠ []) : 1 ≤ (decodeL l).2 ∧ (decodeL l).2 ≤ 4 ∧ (decodeL l).2 ≤ l.length := by
  refine ⟨?_, ?_, decodeL_le l hne⟩ <;>
    rw [decodeL_N] <;> rcases decodeN_shape l.length (l.getD 0 0).toNat (l.getD 1 0).toNat (l.getD 2 0).toNat (l.getD 3 0).toNat with ⟨c, e⟩ | ⟨c1, c2, c3, cv, e⟩ | ⟨c1, c2, c3, c4, cv, cs, e⟩ | ⟨c1, c2, c3, c4, c5, cv, cw, e⟩ | e <;> rw [e] <;> dsimp only <;> omega
theorem rnL_some {l : List UInt8} {r n : Nat} (h : rnL l = some (r, n)) : decodeL l = (r, n) ∧ ¬ (r = 65533 ∧ n = 1) := by
  unfold rnL at h
  split at h
  · cases h
  · rename_i hn
    injection h with h
    exact ⟨h, fun ⟨a, b⟩ => hn (by rw [h, a, b])⟩
theorem rnL_none {l : List UInt8} (h : rnL l = none) : decodeL l = (65533, 1) := by
  unfold rnL at h
  split at h
  · assumption
  · cases h
theorem rnL_of {l : List UInt8} {r n : Nat} (h : decodeL l = (r, n)) (hn : ¬ (r = 65533 ∧ n = 1)) : rnL l = some (r, n) := by
  unfold rnL
  rw [h, if_neg (fun e => hn (by injection e with a b; exact ⟨a, b⟩))]
theorem rnL_bad {l : List UInt8} (h : decodeL l = (65533, 1)) : rnL l = none := by unfold rnL; rw [if_pos h]
theorem runesF_more : ∀ (f : Nat) (l : List UInt8), l.length ≤ f → runesF f l = runesF l.length l := by
  intro f
  induction f using Nat.strongRecOn with
  | _ f ih =>
    intro l hl
    cases l with
    | nil => cases f <;> rfl
    | cons b t =>
      cases f with
      | zero => simp at hl
      | succ f =>
        show (match rnL (b :: t) with | none => none | some (r, n) => (runesF f ((b :: t).drop n)).map (r :: ·)) = (match rnL (b :: t) with | none => none | some (r, n) => (runesF t.length ((b :: t).drop n)).map (r :: ·))
        cases hr : rnL (b :: t) with
        | none => rfl
        | some p =>
          obtain ⟨r, n⟩ := p
          obtain ⟨h1, _⟩ := rnL_some hr
          have hw := dec_width (b :: t) (by simp)
          rw [h1] at hw
          have hd : ((b :: t).drop n).length ≤ t.length := by rw [List.length_drop]; simp at hw ⊢; omega
          simp only [List.length_cons] at hl
          show (runesF f _).map _ = (runesF t.length _).map _
          rw [ih f (Nat.lt_succ_self f) _ (by omega)]
          rcases Nat.lt_or_ge t.length (f + 1) with hlt | hge
          · rw [ih t.length hlt _ hd]
          · omega
theorem runesL_nil : runesL [] = some [] := rfl
theorem runesL_step {l : List UInt8} (hne : l ≠ []) : runesL l = match rnL l with | none => none | some (r, n) => (runesL (l.drop n)).map (r :: ·) := by
  cases l with
  | nil => exact absurd rfl hne
  | cons b t =>
    show (match rnL (b :: t) with | none => none | some (r, n) => (runesF t.length ((b :: t).drop n)).map (r :: ·)) = _
    cases hr : rnL (b :: t) with
    | none => rfl
    | some p =>
      obtain ⟨r, n⟩ := p
      obtain ⟨h1, _⟩ := rnL_some hr
      have hw := dec_width (b :: t) (by simp)
      rw [h1] at hw
      have hd : ((b :: t).drop n).length ≤ t.length := by rw [List.length_drop]; simp at hw ⊢; omega
      show (runesF t.length _).map _ = (runesL _).map _
      unfold runesL
      rw [runesF_more t.length _ hd]
theorem runes_len : ∀ (k : Nat) (l : List UInt8) (rs : List Nat), l.length ≤ k → runesL l = some rs → l.length ≤ 4 * rs.length ∧ rs.length ≤ l.length := by
  intro k
  induction k with
  | zero =>
    intro l rs hl h
    obtain rfl : l = [] := List.eq_nil_of_length_eq_zero (by omega)
    rw [runesL_nil] at h
    injection h with h
    subst h
    simp
  | succ k ih =>
    intro l rs hl h
    by_cases hne : l = []
    · subst hne
      rw [runesL_nil] at h
      injection h with h
      subst h
      simp
    · rw [runesL_step hne] at h
      cases hr : rnL l with
      | none => rw [hr] at h; cases h
      | some p =>
        obtain ⟨r, n⟩ := p
        rw [hr] at h
        obtain ⟨h1, _⟩ := rnL_some hr
        have hw := dec_width l hne
        rw [h1] at hw
        cases hx : runesL (l.drop n) with
        | none => simp [hx] at h
        | some xs =>
          simp [hx] at h
          subst h
          have hlen : 0 < l.length := List.length_pos_iff.2 hne
          have := ih (l.drop n) xs (by rw [List.length_drop]; simp at hw; omega) hx
          rw [List.length_drop] at this
          simp at hw ⊢
          omega
theorem tagOk_len {l : List UInt8} (h : tagOk l = true) : 1 ≤ l.length ∧ l.length ≤ 96 := by
  unfold tagOk at h
  cases hr : runesL l with
  | none => rw [hr] at h; cases h
  | some rs =>
    rw [hr] at h
    simp only [tagOf, Bool.and_eq_true, decide_eq_true_iff] at h
    have := runes_len l.length l rs (Nat.le_refl _) hr
    omega
/-- The bytes of a valid rune are its encoding. -/
theorem rnL_bytes {l : List UInt8} (hne : l ≠ []) {r n : Nat} (h : rnL l = some (r, n)) : encodeRune (r : Int) = l.take n := by
  obtain ⟨h1, h2⟩ := rnL_some h
  have := encode_decode l hne (by rw [h1]; exact h2)
  rw [h1] at this
  exact this

/-! ### Quoted texts -/
def escB (b : UInt8) : List UInt8 := if b = 34 ∨ b = 92 then [92, b] else [b]
def escL (l : List UInt8) : List UInt8 := l.flatMap escB
def quoteL (l : List UInt8) : List UInt8 := 34 :: (escL l ++ [34])
/-- What is read behind the opening quote: the text, and how many bytes with the closing one. -/
def scanL : List UInt8 → Option (List UInt8 × Nat)
  | [] => none
  | [c] => if c = 34 then some ([], 1) else none
  | c :: d :: t =>
    if c = 34 then some ([], 1)
    else if c = 92 then (if d = 34 ∨ d = 92 then (scanL t).map fun x => (d :: x.1, x.2 + 2) else none)
    else (scanL (d :: t)).map fun x => (c :: x.1, x.2 + 1)
theorem scanL_cons (c : UInt8) (t : List UInt8) (h1 : c ≠ 34) (h2 : c ≠ 92) : scanL (c :: t) = (scanL t).map fun x => (c :: x.1, x.2 + 1) := by
  cases t with
  | nil => simp [scanL, h1]
  | cons d t => simp [scanL, h1, h2]
theorem scanL_quote (t : List UInt8) : scanL (34 :: t) = some ([], 1) := by cases t <;> simp [scanL]
theorem scanL_slash (d : UInt8) (t : List UInt8) : scanL (92 :: d :: t) = if d = 34 ∨ d = 92 then (scanL t).map fun x => (d :: x.1, x.2 + 2) else none := by simp [scanL]
theorem scanL_esc (t : List UInt8) : ∀ x : List UInt8, scanL (escL x ++ 34 :: t) = some (x, (escL x).length + 1)
  | [] => by simp [escL, scanL_quote]
  | b :: x => by
    have ih := scanL_esc t x
    by_cases hb : b = 34 ∨ b = 92
    · rw [show escL (b :: x) = 92 :: b :: escL x by simp [escL, escB, hb]]
      show scanL (92 :: b :: (escL x ++ 34 :: t)) = _
      rw [scanL_slash, if_pos hb, ih]
      simp
    · have h1 : b ≠ 34 := fun e => hb (.inl e)
      have h2 : b ≠ 92 := fun e => hb (.inr e)
      rw [show escL (b :: x) = b :: escL x by simp [escL, escB, h1, h2]]
      show scanL (b :: (escL x ++ 34 :: t)) = _
      rw [scanL_cons b _ h1 h2, ih]
      simp
theorem scanL_some : ∀ (k : Nat) (l : List UInt8) (x : List UInt8) (n : Nat), l.length ≤ k → scanL l = some (x, n) → n = (escL x).length + 1 ∧ ∃ t, l = escL x ++ 34 :: t := by
  intro k
  induction k using Nat.strongRecOn with
  | _ k ih =>
    intro l x n hk h
    match l, hk, h with
    | [], _, h => simp [scanL] at h
    | c :: t, hk, h =>
      by_cases h1 : c = 34
      · subst h1
        rw [scanL_quote] at h
        injection h with h
        injection h with ha hb
        subst ha hb
        exact ⟨rfl, t, rfl⟩
      · by_cases h2 : c = 92
        · subst h2
          cases t with
          | nil => simp [scanL] at h
          | cons d t =>
            rw [scanL_slash] at h
            split at h
            · rename_i hd
              cases hx : scanL t with
              | none => simp [hx] at h
              | some p =>
                obtain ⟨y, m⟩ := p
                simp [hx] at h
                obtain ⟨rfl, rfl⟩ := h
                simp at hk
                obtain ⟨e1, u, e2⟩ := ih (k - 2) (by omega) t y m (by omega) hx
                refine ⟨by simp [escL, escB, hd] at e1 ⊢; omega, u, ?_⟩
                rw [e2]
                simp [escL, escB, hd]
            · cases h
        · rw [scanL_cons c t h1 h2] at h
          cases hx : scanL t with
          | none => simp [hx] at h
          | some p =>
            obtain ⟨y, m⟩ := p
            simp [hx] at h
            obtain ⟨rfl, rfl⟩ := h
            simp at hk
            obtain ⟨e1, u, e2⟩ := ih (k - 1) (by omega) t y m (by omega) hx
            refine ⟨by simp [escL, escB, h1, h2] at e1 ⊢; omega, u, ?_⟩
            rw [e2]
            simp [escL, escB, h1, h2]
/-- What Unquote returns: the tag, how many bytes, the error (ErrForm is 9). -/
def unqL : List UInt8 → List UInt8 × Nat × Int
  | 34 :: t => match scanL t with
    | some (x, n) => if tagOk x then (x, n + 1, 0) else ([], 0, 16)
    | none => ([], 0, 9)
  | _ => ([], 0, 9)
theorem unqL_quote {x : List UInt8} (h : tagOk x = true) (t : List UInt8) : unqL (quoteL x ++ t) = (x, (quoteL x).length, 0) := by
  unfold quoteL unqL
  simp only [List.cons_append, List.append_assoc, List.nil_append]
  rw [scanL_esc]
  simp [h]
theorem unqL_ok {l x : List UInt8} {n : Nat} {e : Int} (h : unqL l = (x, n, e)) (he : e = 0) : tagOk x = true ∧ n = (quoteL x).length ∧ ∃ t, l = quoteL x ++ t := by
  subst he
  unfold unqL at h
  split at h
  · rename_i t
    cases hx : scanL t with
    | none => simp [hx] at h
    | some p =>
      obtain ⟨y, m⟩ := p
      simp only [hx] at h
      split at h
      · rename_i hy
        injection h with ha hb
        injection hb with hb hc
        subst ha hb
        obtain ⟨e1, u, e2⟩ := scanL_some _ t y m (Nat.le_refl _) hx
        exact ⟨hy, by simp [quoteL]; omega, u, by rw [e2]; simp [quoteL]⟩
      · injection h with ha hb
        injection hb with hb hc
        cases hc
  · injection h with ha hb
    injection hb with hb hc
    cases hc
theorem escL_len (x : List UInt8) : x.length ≤ (escL x).length ∧ (escL x).length ≤ 2 * x.length := by
  induction x with
  | nil => simp [escL]
  | cons b x ih =>
    have : (escL (b :: x)).length = (escB b).length + (escL x).length := by simp [escL]
    have hb : (escB b).length = 1 ∨ (escB b).length = 2 := by unfold escB; split <;> simp
    simp only [List.length_cons]
    omega
theorem quoteL_inj {x y : List UInt8} (h : quoteL x = quoteL y) : x = y := by
  have h1 : scanL (escL x ++ 34 :: []) = scanL (escL y ++ 34 :: []) := by
    unfold quoteL at h
    injection h with _ h
    rw [h]
  rw [scanL_esc, scanL_esc] at h1
  injection h1 with h1
  injection h1
end Go.Proofs.YthkngleegefgbaaGreatDoor

/- Resources (chapter 31): what they are, as functions on their fields. -/
namespace Go.Proofs.YthkngleegefgbaaGreatDoor
set_option linter.unusedVariables false

abbrev rC (k i g st wy tr nx : Int) (tag : ByteArray) : Array Value := #[.int .i64 k, .int .i64 i, .int .u32 g, .int .i64 st, .int .i64 wy, .int .i64 tr, .int .i64 nx, .string tag]
abbrev rV (k i g st wy tr nx : Int) (tag : ByteArray) : Value := .agg #[.int .i64 k, .int .i64 i, .int .u32 g, .int .i64 st, .int .i64 wy, .int .i64 tr, .int .i64 nx, .string tag]
abbrev r0V : Value := rV 0 0 0 0 0 0 0 ⟨#[]⟩
def isT (n : Int) : Bool := decide (0 ≤ n) && decide (n ≤ 1099511627776)
def inB (n a b : Int) : Bool := decide (a ≤ n) && decide (n ≤ b)
/-- The fields but the tag are possible. -/
def pOk (k i g st wy tr nx : Int) : Bool := dOk 64 k i g && (inB st 1 4 &&
  (if st = 1 then inB wy 0 0 && (inB tr 0 0 && (isT nx && decide (nx = 0)))
   else inB wy 1 3 && (inB tr 0 10000 && (isT nx && (decide (st = 2) || decide (nx = 0))))))
def rErr (k i g st wy tr nx : Int) (tag : ByteArray) : Int := if pOk k i g st wy tr nx then tagErr tag.data.toList else 2
/-- What is refused of a resource in a state, with other arguments that are allowed or not. -/
def chkE (k i g st wy tr nx : Int) (tag : ByteArray) (al : Bool) (want : Int) : Int :=
  if rErr k i g st wy tr nx tag ≠ 0 then rErr k i g st wy tr nx tag else if al = false then 2 else if st ≠ want then 8 else 0
def closeV (k i g st wy tr nx : Int) (tag : ByteArray) (why now : Int) : Value :=
  if chkE k i g st wy tr nx tag (inB why 1 3 && isT now) 1 = 0 then .tuple #[rV k i g 2 why tr now tag, .int .i64 0] else .tuple #[r0V, .int .i64 (chkE k i g st wy tr nx tag (inB why 1 3 && isT now) 1)]
def triedA (answer now wait : Int) : Bool := inB answer 1 3 && (isT now && inB wait 1 1048576)
def triedV (k i g st wy tr nx : Int) (tag : ByteArray) (answer now wait : Int) : Value :=
  if chkE k i g st wy tr nx tag (triedA answer now wait) 2 = 0 then
    (if answer = 1 then .tuple #[rV k i g 3 wy tr 0 tag, .int .i64 0]
     else if answer = 3 then .tuple #[rV k i g 4 wy tr 0 tag, .int .i64 0]
     else if 1099511627776 - wait < now ∨ 10000 ≤ tr then .tuple #[r0V, .int .i64 17]
     else .tuple #[rV k i g 2 wy (tr + 1) (now + wait) tag, .int .i64 0])
  else .tuple #[r0V, .int .i64 (chkE k i g st wy tr nx tag (triedA answer now wait) 2)]
def dueV (k i g st wy tr nx : Int) (tag : ByteArray) (now : Int) : Value :=
  if chkE k i g st wy tr nx tag (isT now) st = 0 then .tuple #[.bool (decide (st = 2) && decide (nx ≤ now)), .int .i64 0] else .tuple #[.bool false, .int .i64 (chkE k i g st wy tr nx tag (isT now) st)]
def overV (k i g st wy tr nx : Int) (tag : ByteArray) : Value :=
  if rErr k i g st wy tr nx tag = 0 then .tuple #[.bool (decide (st = 3) || decide (st = 4)), .int .i64 0] else .tuple #[.bool false, .int .i64 (rErr k i g st wy tr nx tag)]
def newV (k i g : Int) (tag : ByteArray) : Value :=
  if rErr k i g 1 0 0 0 tag = 0 then .tuple #[rV k i g 1 0 0 0 tag, .int .i64 0] else .tuple #[r0V, .int .i64 (rErr k i g 1 0 0 0 tag)]
theorem inB_iff {n a b : Int} : inB n a b = true ↔ a ≤ n ∧ n ≤ b := by simp [inB]
theorem isT_iff {n : Int} : isT n = true ↔ 0 ≤ n ∧ n ≤ 1099511627776 := by simp [isT]
theorem inB_not {n a b : Int} (h : ¬ (a ≤ n ∧ n ≤ b)) : inB n a b = false := by
  cases hx : inB n a b with
  | false => rfl
  | true => exact absurd (inB_iff.1 hx) h
theorem isT_not {n : Int} (h : ¬ (0 ≤ n ∧ n ≤ 1099511627776)) : isT n = false := by
  cases hx : isT n with
  | false => rfl
  | true => exact absurd (isT_iff.1 hx) h
theorem pOk_d {k i g st wy tr nx : Int} (h : dOk 64 k i g = false) : pOk k i g st wy tr nx = false := by unfold pOk; rw [h]; rfl
theorem pOk_st {k i g st wy tr nx : Int} (h : inB st 1 4 = false) : pOk k i g st wy tr nx = false := by unfold pOk; rw [h]; cases dOk 64 k i g <;> rfl
theorem pOk_1 {k i g wy tr nx : Int} (h : dOk 64 k i g = true) : pOk k i g 1 wy tr nx = (inB wy 0 0 && (inB tr 0 0 && (isT nx && decide (nx = 0)))) := by unfold pOk; rw [h]; simp [inB]
theorem pOk_2 {k i g wy tr nx : Int} (h : dOk 64 k i g = true) : pOk k i g 2 wy tr nx = (inB wy 1 3 && (inB tr 0 10000 && isT nx)) := by unfold pOk; rw [h]; simp [inB]
theorem pOk_34 {k i g st wy tr nx : Int} (h : dOk 64 k i g = true) (hs : st = 3 ∨ st = 4) : pOk k i g st wy tr nx = (inB wy 1 3 && (inB tr 0 10000 && (isT nx && decide (nx = 0)))) := by
  unfold pOk
  rw [h]
  rcases hs with rfl | rfl <;> simp [inB]
theorem pOk_out {k i g st wy tr nx : Int} (h : pOk k i g st wy tr nx = true) : dOk 64 k i g = true ∧ (st = 1 ∨ st = 2 ∨ st = 3 ∨ st = 4) := by
  cases hd : dOk 64 k i g with
  | false => rw [pOk_d hd] at h; cases h
  | true =>
    refine ⟨rfl, ?_⟩
    cases hs : inB st 1 4 with
    | false => rw [pOk_st hs] at h; cases h
    | true => have := inB_iff.1 hs; omega
end Go.Proofs.YthkngleegefgbaaGreatDoor

/- The library contracts, laid at this program by the kit's own tool. -/
namespace Go.Proofs
open Go.Shelf
def Tryz.lays170_ren : Go.Shelf.Ren := ⟨fun | 170 => 49 | n => n, fun | 70 => 80 | 3 => 3 | 0 => 0 | 72 => 83 | 37 => 81 | 5 => 5 | n => n, fun | n => n⟩
theorem Tryz.lays170 : Go.Proofs.Lays.n170 Tryz.prog Tryz.lays170_ren := {
  mixed := by kernel_rfl
  f170 := Tryz.func49.trans (congrArg some (by kernel_rfl))
  t0 := Tryz.underlying0
  a0 := Tryz.isAgg0
  z0 := Tryz.sizeOf0
  v0 := Tryz.zeroValue0
  t3 := Tryz.underlying3
  a3 := Tryz.isAgg3
  z3 := Tryz.sizeOf3
  v3 := Tryz.zeroValue3
  t37 := Tryz.underlying81
  a37 := Tryz.isAgg81
  z37 := Tryz.sizeOf81
  v37 := Tryz.zeroValue81
  t70 := Tryz.underlying80
  a70 := Tryz.isAgg80
  z70 := Tryz.sizeOf80
  v70 := Tryz.zeroValue80
  t72 := Tryz.underlying83
  a72 := Tryz.isAgg83
  z72 := Tryz.sizeOf83
  v72 := Tryz.zeroValue83 }
open Go.RowKit in
theorem Tryz.Builder_Len (B b : Nat) (bs : List Value) (w : World) (h : Lib.IsBuilder 83 5 B b bs w) :
    Calls Tryz.prog 49 #[.pointer (some ⟨b, 0, none⟩)] w fun e w' => e = .returned (.int .i64 bs.length) ∧ w' = w := Any.Builder_Len Tryz.lays170 B b bs w h
def Tryz.lays169_ren : Go.Shelf.Ren := ⟨fun | 169 => 50 | n => n, fun | 70 => 80 | 9 => 9 | 0 => 0 | 72 => 83 | 37 => 81 | 127 => 108 | 3 => 3 | 5 => 5 | n => n, fun | n => n⟩
theorem Tryz.lays169 : Go.Proofs.Lays.n169 Tryz.prog Tryz.lays169_ren := {
  mixed := by kernel_rfl
  f169 := Tryz.func50.trans (congrArg some (by kernel_rfl))
  t0 := Tryz.underlying0
  a0 := Tryz.isAgg0
  z0 := Tryz.sizeOf0
  v0 := Tryz.zeroValue0
  t3 := Tryz.underlying3
  a3 := Tryz.isAgg3
  z3 := Tryz.sizeOf3
  v3 := Tryz.zeroValue3
  t9 := Tryz.underlying9
  a9 := Tryz.isAgg9
  z9 := Tryz.sizeOf9
  v9 := Tryz.zeroValue9
  t37 := Tryz.underlying81
  a37 := Tryz.isAgg81
  z37 := Tryz.sizeOf81
  v37 := Tryz.zeroValue81
  t70 := Tryz.underlying80
  a70 := Tryz.isAgg80
  z70 := Tryz.sizeOf80
  v70 := Tryz.zeroValue80
  t72 := Tryz.underlying83
  a72 := Tryz.isAgg83
  z72 := Tryz.sizeOf83
  v72 := Tryz.zeroValue83
  t127 := Tryz.underlying108
  a127 := Tryz.isAgg108
  z127 := Tryz.sizeOf108
  v127 := Tryz.zeroValue108 }
theorem Tryz.Builder_Extra_169 : Builder.Extra Tryz.prog Tryz.lays169_ren := {
  sizeBuilder := by kernel_rfl
  liesBuilder := by kernel_rfl
  t5 := Tryz.underlying5
  a5 := Tryz.isAgg5
  z5 := Tryz.sizeOf5
  v5 := Tryz.zeroValue5
  infoByte := by kernel_rfl
  cellsByte := by kernel_rfl
  sizeByte := by kernel_rfl
  neB5 := by decide }
open Go.RowKit in
theorem Tryz.Builder_String (B b : Nat) (l : List UInt8) (w : World) (h : Lib.IsBuilder 83 5 B b (Lib.byteCells l) w) (h0 : l ≠ []) :
    Calls Tryz.prog 50 #[.pointer (some ⟨b, 0, none⟩)] w fun e w' => e = .returned (.string ⟨l.toArray⟩) ∧ Below B w w' := Any.Builder_String Tryz.lays169 Tryz.Builder_Extra_169 B b l w h h0
open Go.RowKit in
theorem Tryz.Builder_String_empty (B b : Nat) (w : World) (h : Lib.IsBuilder 83 5 B b [] w) (hBw : B ≤ w.heap.size) :
    Calls Tryz.prog 50 #[.pointer (some ⟨b, 0, none⟩)] w fun e w' => e = .returned (.string ⟨#[]⟩) ∧ Below B w w' := Any.Builder_String_empty Tryz.lays169 Tryz.Builder_Extra_169 B b w h hBw
open Go.RowKit in
theorem Tryz.Builder_String_any (B b : Nat) (l : List UInt8) (w : World) (h : Lib.IsBuilder 83 5 B b (Lib.byteCells l) w) (hBw : B ≤ w.heap.size) :
    Calls Tryz.prog 50 #[.pointer (some ⟨b, 0, none⟩)] w fun e w' => e = .returned (.string ⟨l.toArray⟩) ∧ Below B w w' := Any.Builder_String_any Tryz.lays169 Tryz.Builder_Extra_169 B b l w h hBw
def Tryz.lays241_ren : Go.Shelf.Ren := ⟨fun | 241 => 79 | 277 => 94 | n => n, fun | 70 => 80 | 3 => 3 | 0 => 0 | 72 => 83 | 37 => 81 | 5 => 5 | n => n, fun | n => n⟩
theorem Tryz.lays241 : Go.Proofs.Lays.n241 Tryz.prog Tryz.lays241_ren := {
  mixed := by kernel_rfl
  f241 := Tryz.func79.trans (congrArg some (by kernel_rfl))
  f277 := Tryz.func94.trans (congrArg some (by kernel_rfl))
  t0 := Tryz.underlying0
  a0 := Tryz.isAgg0
  z0 := Tryz.sizeOf0
  v0 := Tryz.zeroValue0
  t3 := Tryz.underlying3
  a3 := Tryz.isAgg3
  z3 := Tryz.sizeOf3
  v3 := Tryz.zeroValue3
  t37 := Tryz.underlying81
  a37 := Tryz.isAgg81
  z37 := Tryz.sizeOf81
  v37 := Tryz.zeroValue81
  t70 := Tryz.underlying80
  a70 := Tryz.isAgg80
  z70 := Tryz.sizeOf80
  v70 := Tryz.zeroValue80
  t72 := Tryz.underlying83
  a72 := Tryz.isAgg83
  z72 := Tryz.sizeOf83
  v72 := Tryz.zeroValue83 }
theorem Tryz.Builder_Extra_241 : Builder.Extra Tryz.prog Tryz.lays241_ren := {
  sizeBuilder := by kernel_rfl
  liesBuilder := by kernel_rfl
  t5 := Tryz.underlying5
  a5 := Tryz.isAgg5
  z5 := Tryz.sizeOf5
  v5 := Tryz.zeroValue5
  infoByte := by kernel_rfl
  cellsByte := by kernel_rfl
  sizeByte := by kernel_rfl
  neB5 := by decide }
open Go.RowKit in
theorem Tryz.Builder_grow_fresh (B b n : Nat) (w : World) (hB : B ≤ b) (hbk : w.heap[b]? = some (.cells #[.pointer (some ⟨b, 0, none⟩), .slice none 0 0] 83 (0, 0))) (hBw : B ≤ w.heap.size) (hn : n ≤ 281474976710656) :
    Calls Tryz.prog 79 #[.pointer (some ⟨b, 0, none⟩), .int .i64 n] w fun e w' => e = .returned (.tuple #[]) ∧ (Lib.BuilderAt 83 5 B b (.pointer (some ⟨b, 0, none⟩)) [] w' ∧ Below B w w') := Any.Builder_grow_fresh Tryz.lays241 Tryz.Builder_Extra_241 B b n w hB hbk hBw hn
def Tryz.lays165_ren : Go.Shelf.Ren := ⟨fun | 165 => 54 | 240 => 74 | 241 => 79 | 276 => 88 | 277 => 94 | n => n, fun | 70 => 80 | 3 => 3 | 0 => 0 | 4 => 4 | 9 => 9 | 20 => 20 | 72 => 83 | 37 => 81 | 164 => 122 | 5 => 5 | n => n, fun | n => n⟩
theorem Tryz.lays165 : Go.Proofs.Lays.n165 Tryz.prog Tryz.lays165_ren := {
  mixed := by kernel_rfl
  f165 := Tryz.func54.trans (congrArg some (by kernel_rfl))
  f240 := Tryz.func74.trans (congrArg some (by kernel_rfl))
  f241 := Tryz.func79.trans (congrArg some (by kernel_rfl))
  f276 := Tryz.func88.trans (congrArg some (by kernel_rfl))
  f277 := Tryz.func94.trans (congrArg some (by kernel_rfl))
  t0 := Tryz.underlying0
  a0 := Tryz.isAgg0
  z0 := Tryz.sizeOf0
  v0 := Tryz.zeroValue0
  t3 := Tryz.underlying3
  a3 := Tryz.isAgg3
  z3 := Tryz.sizeOf3
  v3 := Tryz.zeroValue3
  t4 := Tryz.underlying4
  a4 := Tryz.isAgg4
  z4 := Tryz.sizeOf4
  v4 := Tryz.zeroValue4
  t9 := Tryz.underlying9
  a9 := Tryz.isAgg9
  z9 := Tryz.sizeOf9
  v9 := Tryz.zeroValue9
  t20 := Tryz.underlying20
  a20 := Tryz.isAgg20
  z20 := Tryz.sizeOf20
  v20 := Tryz.zeroValue20
  t37 := Tryz.underlying81
  a37 := Tryz.isAgg81
  z37 := Tryz.sizeOf81
  v37 := Tryz.zeroValue81
  t70 := Tryz.underlying80
  a70 := Tryz.isAgg80
  z70 := Tryz.sizeOf80
  v70 := Tryz.zeroValue80
  t72 := Tryz.underlying83
  a72 := Tryz.isAgg83
  z72 := Tryz.sizeOf83
  v72 := Tryz.zeroValue83
  t164 := Tryz.underlying122
  a164 := Tryz.isAgg122
  z164 := Tryz.sizeOf122
  v164 := Tryz.zeroValue122 }
theorem Tryz.Builder_Extra_165 : Builder.Extra Tryz.prog Tryz.lays165_ren := {
  sizeBuilder := by kernel_rfl
  liesBuilder := by kernel_rfl
  t5 := Tryz.underlying5
  a5 := Tryz.isAgg5
  z5 := Tryz.sizeOf5
  v5 := Tryz.zeroValue5
  infoByte := by kernel_rfl
  cellsByte := by kernel_rfl
  sizeByte := by kernel_rfl
  neB5 := by decide }
open Go.RowKit in
theorem Tryz.Builder_Grow_fresh (B b n : Nat) (w : World) (hB : B ≤ b) (hbk : w.heap[b]? = some (.cells #[.pointer none, .slice none 0 0] 83 (0, 0))) (hBw : B ≤ w.heap.size) (hn : n ≤ 281474976710656) :
    Calls Tryz.prog 54 #[.pointer (some ⟨b, 0, none⟩), .int .i64 n] w fun e w' => e = .returned (.tuple #[]) ∧ (Lib.BuilderAt 83 5 B b (.pointer (some ⟨b, 0, none⟩)) [] w' ∧ Below B w w') := Any.Builder_Grow_fresh Tryz.lays165 Tryz.Builder_Extra_165 B b n w hB hbk hBw hn
def Tryz.lays156_ren : Go.Shelf.Ren := ⟨fun | 156 => 28 | 165 => 54 | 166 => 47 | 169 => 50 | 240 => 74 | 241 => 79 | 276 => 88 | 277 => 94 | n => n, fun | 31 => 47 | 9 => 9 | 3 => 3 | 4 => 4 | 0 => 0 | 20 => 20 | 72 => 83 | 76 => 86 | 70 => 80 | 37 => 81 | 75 => 85 | 127 => 108 | 164 => 122 | 5 => 5 | 80 => 90 | n => n, fun | n => n⟩
theorem Tryz.lays156 : Go.Proofs.Lays.n156 Tryz.prog Tryz.lays156_ren := {
  mixed := by kernel_rfl
  f156 := Tryz.func28.trans (congrArg some (by kernel_rfl))
  f165 := Tryz.func54.trans (congrArg some (by kernel_rfl))
  f166 := Tryz.func47.trans (congrArg some (by kernel_rfl))
  f169 := Tryz.func50.trans (congrArg some (by kernel_rfl))
  f240 := Tryz.func74.trans (congrArg some (by kernel_rfl))
  f241 := Tryz.func79.trans (congrArg some (by kernel_rfl))
  f276 := Tryz.func88.trans (congrArg some (by kernel_rfl))
  f277 := Tryz.func94.trans (congrArg some (by kernel_rfl))
  t0 := Tryz.underlying0
  a0 := Tryz.isAgg0
  z0 := Tryz.sizeOf0
  v0 := Tryz.zeroValue0
  t3 := Tryz.underlying3
  a3 := Tryz.isAgg3
  z3 := Tryz.sizeOf3
  v3 := Tryz.zeroValue3
  t4 := Tryz.underlying4
  a4 := Tryz.isAgg4
  z4 := Tryz.sizeOf4
  v4 := Tryz.zeroValue4
  t9 := Tryz.underlying9
  a9 := Tryz.isAgg9
  z9 := Tryz.sizeOf9
  v9 := Tryz.zeroValue9
  t20 := Tryz.underlying20
  a20 := Tryz.isAgg20
  z20 := Tryz.sizeOf20
  v20 := Tryz.zeroValue20
  t31 := Tryz.underlying47
  a31 := Tryz.isAgg47
  z31 := Tryz.sizeOf47
  v31 := Tryz.zeroValue47
  t37 := Tryz.underlying81
  a37 := Tryz.isAgg81
  z37 := Tryz.sizeOf81
  v37 := Tryz.zeroValue81
  t70 := Tryz.underlying80
  a70 := Tryz.isAgg80
  z70 := Tryz.sizeOf80
  v70 := Tryz.zeroValue80
  t72 := Tryz.underlying83
  a72 := Tryz.isAgg83
  z72 := Tryz.sizeOf83
  v72 := Tryz.zeroValue83
  t75 := Tryz.underlying85
  a75 := Tryz.isAgg85
  z75 := Tryz.sizeOf85
  v75 := Tryz.zeroValue85
  t76 := Tryz.underlying86
  a76 := Tryz.isAgg86
  z76 := Tryz.sizeOf86
  v76 := Tryz.zeroValue86
  t127 := Tryz.underlying108
  a127 := Tryz.isAgg108
  z127 := Tryz.sizeOf108
  v127 := Tryz.zeroValue108
  t164 := Tryz.underlying122
  a164 := Tryz.isAgg122
  z164 := Tryz.sizeOf122
  v164 := Tryz.zeroValue122 }
theorem Tryz.Builder_Extra_156 : Builder.Extra Tryz.prog Tryz.lays156_ren := {
  sizeBuilder := by kernel_rfl
  liesBuilder := by kernel_rfl
  t5 := Tryz.underlying5
  a5 := Tryz.isAgg5
  z5 := Tryz.sizeOf5
  v5 := Tryz.zeroValue5
  infoByte := by kernel_rfl
  cellsByte := by kernel_rfl
  sizeByte := by kernel_rfl
  neB5 := by decide }
open Go.RowKit in
theorem Tryz.strings_Join_none (a : Option Addr) (c : Nat) (sep : ByteArray) (w : World) :
    Calls Tryz.prog 28 #[.slice a 0 c, .string sep] w fun e w' => e = .returned (.string ⟨#[]⟩) ∧ w' = w := Any.strings_Join_none Tryz.lays156 Tryz.Builder_Extra_156 a c sep w
open Go.RowKit in
theorem Tryz.strings_Join (bk o c : Nat) (xs : List ByteArray) (sep : ByteArray) (w : World) (hcells : ∀ (j : Nat) x, xs[j]? = some x → w.cell? ⟨bk, o + j, none⟩ = some (.string x)) (hbk : bk < w.heap.size) (hN : xs.length ≤ 140737488355328) (hcap : xs.length ≤ c) (hlen : (Lib.join (xs.map (·.data.toList)) sep.data.toList).length ≤ 140737488355328) :
    Calls Tryz.prog 28 #[.slice (some ⟨bk, o, none⟩) xs.length c, .string sep] w fun e w' => e = .returned (.string ⟨(Lib.join (xs.map (·.data.toList)) sep.data.toList).toArray⟩) ∧ Below w.heap.size w w' := Any.strings_Join Tryz.lays156 Tryz.Builder_Extra_156 bk o c xs sep w hcells hbk hN hcap hlen
def Tryz.lays137_ren : Go.Shelf.Ren := ⟨fun | 137 => 67 | 217 => 83 | 266 => 101 | n => n, fun | 9 => 9 | 5 => 5 | 3 => 3 | n => n, fun | n => n⟩
theorem Tryz.lays137 : Go.Proofs.Lays.n137 Tryz.prog Tryz.lays137_ren := {
  mixed := by kernel_rfl
  f137 := Tryz.func67.trans (congrArg some (by kernel_rfl))
  f217 := Tryz.func83.trans (congrArg some (by kernel_rfl))
  f266 := Tryz.func101.trans (congrArg some (by kernel_rfl))
  t3 := Tryz.underlying3
  a3 := Tryz.isAgg3
  z3 := Tryz.sizeOf3
  v3 := Tryz.zeroValue3
  t5 := Tryz.underlying5
  a5 := Tryz.isAgg5
  z5 := Tryz.sizeOf5
  v5 := Tryz.zeroValue5
  t9 := Tryz.underlying9
  a9 := Tryz.isAgg9
  z9 := Tryz.sizeOf9
  v9 := Tryz.zeroValue9 }
open Go.RowKit in
theorem Tryz.strings_IndexByte (s : ByteArray) (c : Int) (w : World) :
    Calls Tryz.prog 67 #[.string s, .int .u8 c] w fun e w' => e = .returned (.int .i64 (Lib.indexByte s.data.toList c.toNat.toUInt8)) ∧ w' = w := Any.strings_IndexByte Tryz.lays137 s c w
open Go.RowKit in
theorem Tryz.Builder_Len_f (B b : Nat) (bs : List Value) (w : World) (h : Lib.IsBuilderF 83 5 B b bs w) :
    Calls Tryz.prog 49 #[.pointer (some ⟨b, 0, none⟩)] w fun e w' => e = .returned (.int .i64 bs.length) ∧ w' = w := Any.Builder_Len_f Tryz.lays170 B b bs w h
open Go.RowKit in
theorem Tryz.Builder_String_f (B b : Nat) (l : List UInt8) (w : World) (h : Lib.IsBuilderF 83 5 B b (Lib.byteCells l) w) (h0 : l ≠ []) :
    Calls Tryz.prog 50 #[.pointer (some ⟨b, 0, none⟩)] w fun e w' => e = .returned (.string ⟨l.toArray⟩) ∧ (Lib.IsBuilderF 83 5 B b (Lib.byteCells l) w' ∧ Below B w w') := Any.Builder_String_f Tryz.lays169 Tryz.Builder_Extra_169 B b l w h h0
open Go.RowKit in
theorem Tryz.Builder_String_empty_f (B b : Nat) (w : World) (h : Lib.IsBuilderF 83 5 B b [] w) (hBw : B ≤ w.heap.size) :
    Calls Tryz.prog 50 #[.pointer (some ⟨b, 0, none⟩)] w fun e w' => e = .returned (.string ⟨#[]⟩) ∧ (Lib.IsBuilderF 83 5 B b [] w' ∧ Below B w w') := Any.Builder_String_empty_f Tryz.lays169 Tryz.Builder_Extra_169 B b w h hBw
open Go.RowKit in
theorem Tryz.Builder_String_any_f (B b : Nat) (l : List UInt8) (w : World) (h : Lib.IsBuilderF 83 5 B b (Lib.byteCells l) w) (hBw : B ≤ w.heap.size) :
    Calls Tryz.prog 50 #[.pointer (some ⟨b, 0, none⟩)] w fun e w' => e = .returned (.string ⟨l.toArray⟩) ∧ (Lib.IsBuilderF 83 5 B b (Lib.byteCells l) w' ∧ Below B w w') := Any.Builder_String_any_f Tryz.lays169 Tryz.Builder_Extra_169 B b l w h hBw
open Go.RowKit in
theorem Tryz.Builder_String_k (B b : Nat) (l : List UInt8) (w : World) (h : Lib.IsBuilderF 83 5 B b (Lib.byteCells l) w) (h0 : l ≠ []) :
    Calls Tryz.prog 50 #[.pointer (some ⟨b, 0, none⟩)] w fun e w' => e = .returned (.string ⟨l.toArray⟩) ∧ (Lib.IsBuilderF 83 5 B b (Lib.byteCells l) w' ∧ Below B w w' ∧ Lib.OthersKept 5 (some b) w w') := Any.Builder_String_k Tryz.lays169 Tryz.Builder_Extra_169 B b l w h h0
open Go.RowKit in
theorem Tryz.Builder_String_empty_k (B b : Nat) (w : World) (h : Lib.IsBuilderF 83 5 B b [] w) (hBw : B ≤ w.heap.size) :
    Calls Tryz.prog 50 #[.pointer (some ⟨b, 0, none⟩)] w fun e w' => e = .returned (.string ⟨#[]⟩) ∧ (Lib.IsBuilderF 83 5 B b [] w' ∧ Below B w w' ∧ Lib.OthersKept 5 (some b) w w') := Any.Builder_String_empty_k Tryz.lays169 Tryz.Builder_Extra_169 B b w h hBw
open Go.RowKit in
theorem Tryz.Builder_String_any_k (B b : Nat) (l : List UInt8) (w : World) (h : Lib.IsBuilderF 83 5 B b (Lib.byteCells l) w) (hBw : B ≤ w.heap.size) :
    Calls Tryz.prog 50 #[.pointer (some ⟨b, 0, none⟩)] w fun e w' => e = .returned (.string ⟨l.toArray⟩) ∧ (Lib.IsBuilderF 83 5 B b (Lib.byteCells l) w' ∧ Below B w w' ∧ Lib.OthersKept 5 (some b) w w') := Any.Builder_String_any_k Tryz.lays169 Tryz.Builder_Extra_169 B b l w h hBw
def Tryz.lays278_ren : Go.Shelf.Ren := ⟨fun | 278 => 89 | n => n, fun | 37 => 81 | 21 => 21 | 51 => 101 | 4 => 4 | 46 => 75 | 5 => 5 | n => n, fun | n => n⟩
theorem Tryz.lays278 : Go.Proofs.Lays.n278 Tryz.prog Tryz.lays278_ren := {
  mixed := by kernel_rfl
  f278 := Tryz.func89.trans (congrArg some (by kernel_rfl))
  t4 := Tryz.underlying4
  a4 := Tryz.isAgg4
  z4 := Tryz.sizeOf4
  v4 := Tryz.zeroValue4
  t5 := Tryz.underlying5
  a5 := Tryz.isAgg5
  z5 := Tryz.sizeOf5
  v5 := Tryz.zeroValue5
  t21 := Tryz.underlying21
  a21 := Tryz.isAgg21
  z21 := Tryz.sizeOf21
  v21 := Tryz.zeroValue21
  t37 := Tryz.underlying81
  a37 := Tryz.isAgg81
  z37 := Tryz.sizeOf81
  v37 := Tryz.zeroValue81
  t46 := Tryz.underlying75
  a46 := Tryz.isAgg75
  z46 := Tryz.sizeOf75
  v46 := Tryz.zeroValue75
  t51 := Tryz.underlying101
  a51 := Tryz.isAgg101
  z51 := Tryz.sizeOf101
  v51 := Tryz.zeroValue101 }
open Go.RowKit in
theorem Tryz.utf8_appendRuneNonASCII_row (B : Nat) (v : Value) (n : Nat) (xs : List Value) (r : Int) (hr0 : -2147483648 ≤ r) (hr1 : r ≤ 2147483647) (hna : r < 0 ∨ 128 ≤ r) (w : World) (hown : w.ownsRowF B 5 1 v n xs) (hlen : n + 4 ≤ 140737488355328) (hBw : B ≤ w.heap.size) :
    Calls Tryz.prog 89 #[v, .int .i32 r] w fun e w' => ∃ v', e = .returned v' ∧ w'.ownsRowF B 5 1 v' (n + (Lib.runeCells r).length) (xs ++ Lib.runeCells r) ∧ ∃ o, (w.alloc o).grownBy w' v.ownBlock := Any.utf8_appendRuneNonASCII_row Tryz.lays278 (by kernel_rfl) B v n xs r hr0 hr1 hna w hown hlen hBw
def Tryz.lays242_ren : Go.Shelf.Ren := ⟨fun | 242 => 77 | 278 => 89 | n => n, fun | 37 => 81 | 21 => 21 | 51 => 101 | 4 => 4 | 5 => 5 | 46 => 75 | n => n, fun | n => n⟩
theorem Tryz.lays242 : Go.Proofs.Lays.n242 Tryz.prog Tryz.lays242_ren := {
  mixed := by kernel_rfl
  f242 := Tryz.func77.trans (congrArg some (by kernel_rfl))
  f278 := Tryz.func89.trans (congrArg some (by kernel_rfl))
  t4 := Tryz.underlying4
  a4 := Tryz.isAgg4
  z4 := Tryz.sizeOf4
  v4 := Tryz.zeroValue4
  t5 := Tryz.underlying5
  a5 := Tryz.isAgg5
  z5 := Tryz.sizeOf5
  v5 := Tryz.zeroValue5
  t21 := Tryz.underlying21
  a21 := Tryz.isAgg21
  z21 := Tryz.sizeOf21
  v21 := Tryz.zeroValue21
  t37 := Tryz.underlying81
  a37 := Tryz.isAgg81
  z37 := Tryz.sizeOf81
  v37 := Tryz.zeroValue81
  t46 := Tryz.underlying75
  a46 := Tryz.isAgg75
  z46 := Tryz.sizeOf75
  v46 := Tryz.zeroValue75
  t51 := Tryz.underlying101
  a51 := Tryz.isAgg101
  z51 := Tryz.sizeOf101
  v51 := Tryz.zeroValue101 }
open Go.RowKit in
theorem Tryz.utf8_AppendRune_row (B : Nat) (v : Value) (n : Nat) (xs : List Value) (r : Int) (hr0 : -2147483648 ≤ r) (hr1 : r ≤ 2147483647) (w : World) (hown : w.ownsRowF B 5 1 v n xs) (hlen : n + 4 ≤ 140737488355328) (hBw : B ≤ w.heap.size) :
    Calls Tryz.prog 77 #[v, .int .i32 r] w fun e w' => ∃ v', e = .returned v' ∧ w'.ownsRowF B 5 1 v' (n + (Lib.runeCells r).length) (xs ++ Lib.runeCells r) ∧ ∃ o, (w.alloc o).grownBy w' v.ownBlock := Any.utf8_AppendRune_row Tryz.lays242 (by kernel_rfl) B v n xs r hr0 hr1 w hown hlen hBw
open Go.RowKit in
theorem Tryz.utf8_appendRuneNonASCII_plain (B : Nat) (v : Value) (n : Nat) (xs : List Value) (r : Int) (hr0 : -2147483648 ≤ r) (hr1 : r ≤ 2147483647) (hna : r < 0 ∨ 128 ≤ r) (w : World) (hown : w.ownsRow B 5 1 v n xs) (hlen : n + 4 ≤ 140737488355328) (hBw : B ≤ w.heap.size) :
    Calls Tryz.prog 89 #[v, .int .i32 r] w fun e w' => ∃ v', e = .returned v' ∧ w'.ownsRow B 5 1 v' (n + (Lib.runeCells r).length) (xs ++ Lib.runeCells r) ∧ ∃ o, (w.alloc o).grownBy w' v.ownBlock := Any.utf8_appendRuneNonASCII_plain Tryz.lays278 (by kernel_rfl) B v n xs r hr0 hr1 hna w hown hlen hBw
open Go.RowKit in
theorem Tryz.utf8_AppendRune_plain (B : Nat) (v : Value) (n : Nat) (xs : List Value) (r : Int) (hr0 : -2147483648 ≤ r) (hr1 : r ≤ 2147483647) (w : World) (hown : w.ownsRow B 5 1 v n xs) (hlen : n + 4 ≤ 140737488355328) (hBw : B ≤ w.heap.size) :
    Calls Tryz.prog 77 #[v, .int .i32 r] w fun e w' => ∃ v', e = .returned v' ∧ w'.ownsRow B 5 1 v' (n + (Lib.runeCells r).length) (xs ++ Lib.runeCells r) ∧ ∃ o, (w.alloc o).grownBy w' v.ownBlock := Any.utf8_AppendRune_plain Tryz.lays242 (by kernel_rfl) B v n xs r hr0 hr1 w hown hlen hBw
open Go.RowKit in
theorem Tryz.Builder_grow_fresh_cap (B b n : Nat) (w : World) (hB : B ≤ b) (hbk : w.heap[b]? = some (.cells #[.pointer (some ⟨b, 0, none⟩), .slice none 0 0] 83 (0, 0))) (hBw : B ≤ w.heap.size) (hn : n ≤ 281474976710656) :
    Calls Tryz.prog 79 #[.pointer (some ⟨b, 0, none⟩), .int .i64 n] w fun e w' => e = .returned (.tuple #[]) ∧ (Lib.BuilderAt 83 5 B b (.pointer (some ⟨b, 0, none⟩)) [] w' ∧ Below B w w') ∧ ∃ p cap, w'.cell? ⟨b, 1, none⟩ = some (.slice p 0 cap) ∧ n ≤ cap := Any.Builder_grow_fresh_cap Tryz.lays241 Tryz.Builder_Extra_241 B b n w hB hbk hBw hn
open Go.RowKit in
theorem Tryz.Builder_Grow_fresh_cap (B b n : Nat) (w : World) (hB : B ≤ b) (hbk : w.heap[b]? = some (.cells #[.pointer none, .slice none 0 0] 83 (0, 0))) (hBw : B ≤ w.heap.size) (hn : n ≤ 281474976710656) :
    Calls Tryz.prog 54 #[.pointer (some ⟨b, 0, none⟩), .int .i64 n] w fun e w' => e = .returned (.tuple #[]) ∧ (Lib.BuilderAt 83 5 B b (.pointer (some ⟨b, 0, none⟩)) [] w' ∧ Below B w w') ∧ ∃ p cap, w'.cell? ⟨b, 1, none⟩ = some (.slice p 0 cap) ∧ n ≤ cap := Any.Builder_Grow_fresh_cap Tryz.lays165 Tryz.Builder_Extra_165 B b n w hB hbk hBw hn
def Tryz.lays244_ren : Go.Shelf.Ren := ⟨fun | 244 => 84 | 247 => 102 | 287 => 114 | 321 => 119 | 322 => 120 | n => n, fun | 9 => 9 | 3 => 3 | 75 => 85 | 4 => 4 | 5 => 5 | 167 => 135 | 37 => 81 | 0 => 0 | 85 => 136 | 2 => 2 | 53 => 104 | 175 => 146 | 46 => 75 | 21 => 21 | 80 => 90 | n => n, fun | n => n⟩
theorem Tryz.lays244 : Go.Proofs.Lays.n244 Tryz.prog Tryz.lays244_ren := {
  mixed := by kernel_rfl
  f244 := Tryz.func84.trans (congrArg some (by kernel_rfl))
  f247 := Tryz.func102.trans (congrArg some (by kernel_rfl))
  f287 := Tryz.func114.trans (congrArg some (by kernel_rfl))
  f321 := Tryz.func119.trans (congrArg some (by kernel_rfl))
  f322 := Tryz.func120.trans (congrArg some (by kernel_rfl))
  t0 := Tryz.underlying0
  a0 := Tryz.isAgg0
  z0 := Tryz.sizeOf0
  v0 := Tryz.zeroValue0
  t2 := Tryz.underlying2
  a2 := Tryz.isAgg2
  z2 := Tryz.sizeOf2
  v2 := Tryz.zeroValue2
  t3 := Tryz.underlying3
  a3 := Tryz.isAgg3
  z3 := Tryz.sizeOf3
  v3 := Tryz.zeroValue3
  t4 := Tryz.underlying4
  a4 := Tryz.isAgg4
  z4 := Tryz.sizeOf4
  v4 := Tryz.zeroValue4
  t5 := Tryz.underlying5
  a5 := Tryz.isAgg5
  z5 := Tryz.sizeOf5
  v5 := Tryz.zeroValue5
  t9 := Tryz.underlying9
  a9 := Tryz.isAgg9
  z9 := Tryz.sizeOf9
  v9 := Tryz.zeroValue9
  t21 := Tryz.underlying21
  a21 := Tryz.isAgg21
  z21 := Tryz.sizeOf21
  v21 := Tryz.zeroValue21
  t37 := Tryz.underlying81
  a37 := Tryz.isAgg81
  z37 := Tryz.sizeOf81
  v37 := Tryz.zeroValue81
  t46 := Tryz.underlying75
  a46 := Tryz.isAgg75
  z46 := Tryz.sizeOf75
  v46 := Tryz.zeroValue75
  t53 := Tryz.underlying104
  a53 := Tryz.isAgg104
  z53 := Tryz.sizeOf104
  v53 := Tryz.zeroValue104
  t75 := Tryz.underlying85
  a75 := Tryz.isAgg85
  z75 := Tryz.sizeOf85
  v75 := Tryz.zeroValue85
  t85 := Tryz.underlying136
  a85 := Tryz.isAgg136
  z85 := Tryz.sizeOf136
  v85 := Tryz.zeroValue136
  t167 := Tryz.underlying135
  a167 := Tryz.isAgg135
  z167 := Tryz.sizeOf135
  v167 := Tryz.zeroValue135
  t175 := Tryz.underlying146
  a175 := Tryz.isAgg146
  z175 := Tryz.sizeOf146
  v175 := Tryz.zeroValue146 }
open Go.RowKit in
theorem Tryz.internal_strconv_Atoi (s : ByteArray) (n : Int) (hl : s.size ≤ 18) (h : Lib.atoi s.data.toList = some n) (w : World) :
    Calls Tryz.prog 84 #[.string s] w fun e w' => e = .returned (.tuple #[.int .i64 n, .nilIface]) ∧ ∃ t, w' = Lib.bytesWorld w 5 t := Any.internal_strconv_Atoi Tryz.lays244 s n hl h w
def Tryz.lays172_ren : Go.Shelf.Ren := ⟨fun | 172 => 69 | 244 => 84 | 245 => 85 | 247 => 102 | 279 => 103 | 280 => 104 | 281 => 105 | 282 => 106 | 287 => 114 | 316 => 115 | 171 => 27 | 205 => 116 | 321 => 119 | 322 => 120 | 243 => 53 | 246 => 78 | 283 => 90 | 284 => 91 | 285 => 92 | 286 => 93 | 129 => 109 | 317 => 108 | 318 => 110 | 319 => 111 | 320 => 112 | 337 => 117 | 338 => 118 | n => n, fun | 9 => 9 | 3 => 3 | 75 => 85 | 76 => 86 | 4 => 4 | 5 => 5 | 167 => 135 | 37 => 81 | 0 => 0 | 85 => 136 | 2 => 2 | 168 => 138 | 53 => 104 | 175 => 146 | 46 => 75 | 210 => 150 | 127 => 108 | 145 => 160 | 143 => 158 | 21 => 21 | 171 => 124 | 173 => 127 | 212 => 142 | 51 => 101 | 20 => 20 | 213 => 143 | 232 => 161 | 233 => 162 | 80 => 90 | n => n, fun | 15 => 3 | 16 => 4 | 17 => 2 | 18 => 7 | 19 => 8 | n => n⟩
theorem Tryz.lays172 : Go.Proofs.Lays.n172 Tryz.prog Tryz.lays172_ren := {
  mixed := by kernel_rfl
  f129 := Tryz.func109.trans (congrArg some (by kernel_rfl))
  f171 := Tryz.func27.trans (congrArg some (by kernel_rfl))
  f172 := Tryz.func69.trans (congrArg some (by kernel_rfl))
  f205 := Tryz.func116.trans (congrArg some (by kernel_rfl))
  f243 := Tryz.func53.trans (congrArg some (by kernel_rfl))
  f244 := Tryz.func84.trans (congrArg some (by kernel_rfl))
  f245 := Tryz.func85.trans (congrArg some (by kernel_rfl))
  f246 := Tryz.func78.trans (congrArg some (by kernel_rfl))
  f247 := Tryz.func102.trans (congrArg some (by kernel_rfl))
  f279 := Tryz.func103.trans (congrArg some (by kernel_rfl))
  f280 := Tryz.func104.trans (congrArg some (by kernel_rfl))
  f281 := Tryz.func105.trans (congrArg some (by kernel_rfl))
  f282 := Tryz.func106.trans (congrArg some (by kernel_rfl))
  f283 := Tryz.func90.trans (congrArg some (by kernel_rfl))
  f284 := Tryz.func91.trans (congrArg some (by kernel_rfl))
  f285 := Tryz.func92.trans (congrArg some (by kernel_rfl))
  f286 := Tryz.func93.trans (congrArg some (by kernel_rfl))
  f287 := Tryz.func114.trans (congrArg some (by kernel_rfl))
  f316 := Tryz.func115.trans (congrArg some (by kernel_rfl))
  f317 := Tryz.func108.trans (congrArg some (by kernel_rfl))
  f318 := Tryz.func110.trans (congrArg some (by kernel_rfl))
  f319 := Tryz.func111.trans (congrArg some (by kernel_rfl))
  f320 := Tryz.func112.trans (congrArg some (by kernel_rfl))
  f321 := Tryz.func119.trans (congrArg some (by kernel_rfl))
  f322 := Tryz.func120.trans (congrArg some (by kernel_rfl))
  f337 := Tryz.func117.trans (congrArg some (by kernel_rfl))
  f338 := Tryz.func118.trans (congrArg some (by kernel_rfl))
  t0 := Tryz.underlying0
  a0 := Tryz.isAgg0
  z0 := Tryz.sizeOf0
  v0 := Tryz.zeroValue0
  t2 := Tryz.underlying2
  a2 := Tryz.isAgg2
  z2 := Tryz.sizeOf2
  v2 := Tryz.zeroValue2
  t3 := Tryz.underlying3
  a3 := Tryz.isAgg3
  z3 := Tryz.sizeOf3
  v3 := Tryz.zeroValue3
  t4 := Tryz.underlying4
  a4 := Tryz.isAgg4
  z4 := Tryz.sizeOf4
  v4 := Tryz.zeroValue4
  t5 := Tryz.underlying5
  a5 := Tryz.isAgg5
  z5 := Tryz.sizeOf5
  v5 := Tryz.zeroValue5
  t9 := Tryz.underlying9
  a9 := Tryz.isAgg9
  z9 := Tryz.sizeOf9
  v9 := Tryz.zeroValue9
  t20 := Tryz.underlying20
  a20 := Tryz.isAgg20
  z20 := Tryz.sizeOf20
  v20 := Tryz.zeroValue20
  t21 := Tryz.underlying21
  a21 := Tryz.isAgg21
  z21 := Tryz.sizeOf21
  v21 := Tryz.zeroValue21
  t37 := Tryz.underlying81
  a37 := Tryz.isAgg81
  z37 := Tryz.sizeOf81
  v37 := Tryz.zeroValue81
  t46 := Tryz.underlying75
  a46 := Tryz.isAgg75
  z46 := Tryz.sizeOf75
  v46 := Tryz.zeroValue75
  t51 := Tryz.underlying101
  a51 := Tryz.isAgg101
  z51 := Tryz.sizeOf101
  v51 := Tryz.zeroValue101
  t53 := Tryz.underlying104
  a53 := Tryz.isAgg104
  z53 := Tryz.sizeOf104
  v53 := Tryz.zeroValue104
  t75 := Tryz.underlying85
  a75 := Tryz.isAgg85
  z75 := Tryz.sizeOf85
  v75 := Tryz.zeroValue85
  t76 := Tryz.underlying86
  a76 := Tryz.isAgg86
  z76 := Tryz.sizeOf86
  v76 := Tryz.zeroValue86
  t85 := Tryz.underlying136
  a85 := Tryz.isAgg136
  z85 := Tryz.sizeOf136
  v85 := Tryz.zeroValue136
  t127 := Tryz.underlying108
  a127 := Tryz.isAgg108
  z127 := Tryz.sizeOf108
  v127 := Tryz.zeroValue108
  t143 := Tryz.underlying158
  a143 := Tryz.isAgg158
  z143 := Tryz.sizeOf158
  v143 := Tryz.zeroValue158
  t145 := Tryz.underlying160
  a145 := Tryz.isAgg160
  z145 := Tryz.sizeOf160
  v145 := Tryz.zeroValue160
  t167 := Tryz.underlying135
  a167 := Tryz.isAgg135
  z167 := Tryz.sizeOf135
  v167 := Tryz.zeroValue135
  t168 := Tryz.underlying138
  a168 := Tryz.isAgg138
  z168 := Tryz.sizeOf138
  v168 := Tryz.zeroValue138
  t171 := Tryz.underlying124
  a171 := Tryz.isAgg124
  z171 := Tryz.sizeOf124
  v171 := Tryz.zeroValue124
  t173 := Tryz.underlying127
  a173 := Tryz.isAgg127
  z173 := Tryz.sizeOf127
  v173 := Tryz.zeroValue127
  t175 := Tryz.underlying146
  a175 := Tryz.isAgg146
  z175 := Tryz.sizeOf146
  v175 := Tryz.zeroValue146
  t210 := Tryz.underlying150
  a210 := Tryz.isAgg150
  z210 := Tryz.sizeOf150
  v210 := Tryz.zeroValue150
  t212 := Tryz.underlying142
  a212 := Tryz.isAgg142
  z212 := Tryz.sizeOf142
  v212 := Tryz.zeroValue142
  t213 := Tryz.underlying143
  a213 := Tryz.isAgg143
  z213 := Tryz.sizeOf143
  t232 := Tryz.underlying161
  a232 := Tryz.isAgg161
  z232 := Tryz.sizeOf161
  v232 := Tryz.zeroValue161
  t233 := Tryz.underlying162
  a233 := Tryz.isAgg162
  z233 := Tryz.sizeOf162
  v233 := Tryz.zeroValue162
  g15 := by kernel_rfl
  g16 := by kernel_rfl
  g17 := by kernel_rfl
  g18 := by kernel_rfl
  g19 := by kernel_rfl }
open Go.RowKit in
theorem Tryz.strconv_Atoi (s : ByteArray) (n : Int) (hl : s.size ≤ 18) (h : Lib.atoi s.data.toList = some n) (w : World) :
    Calls Tryz.prog 69 #[.string s] w fun e w' => e = .returned (.tuple #[.int .i64 n, .nilIface]) ∧ ∃ t, w' = Lib.bytesWorld w 5 t := Any.strconv_Atoi Tryz.lays172 s n hl h w
def Tryz.lays129_ren : Go.Shelf.Ren := ⟨fun | 129 => 109 | n => n, fun | 53 => 104 | 3 => 3 | 4 => 4 | 46 => 75 | 5 => 5 | 9 => 9 | n => n, fun | n => n⟩
theorem Tryz.lays129 : Go.Proofs.Lays.n129 Tryz.prog Tryz.lays129_ren := {
  mixed := by kernel_rfl
  f129 := Tryz.func109.trans (congrArg some (by kernel_rfl))
  t3 := Tryz.underlying3
  a3 := Tryz.isAgg3
  z3 := Tryz.sizeOf3
  v3 := Tryz.zeroValue3
  t4 := Tryz.underlying4
  a4 := Tryz.isAgg4
  z4 := Tryz.sizeOf4
  v4 := Tryz.zeroValue4
  t5 := Tryz.underlying5
  a5 := Tryz.isAgg5
  z5 := Tryz.sizeOf5
  v5 := Tryz.zeroValue5
  t9 := Tryz.underlying9
  a9 := Tryz.isAgg9
  z9 := Tryz.sizeOf9
  v9 := Tryz.zeroValue9
  t46 := Tryz.underlying75
  a46 := Tryz.isAgg75
  z46 := Tryz.sizeOf75
  v46 := Tryz.zeroValue75
  t53 := Tryz.underlying104
  a53 := Tryz.isAgg104
  z53 := Tryz.sizeOf104
  v53 := Tryz.zeroValue104 }
theorem Tryz.bits_Len64 (x : Int) (w : World) (h0 : 0 ≤ x) (h1 : x ≤ 18446744073709551615) :
    Calls Tryz.prog 109 #[.int .u64 x] w fun e w' => e = .returned (.int .i64 (Lib.bitLen x.toNat)) ∧ w' = w := Any.bits_Len64 Tryz.lays129 x w h0 h1
def Tryz.lays317_ren : Go.Shelf.Ren := ⟨fun | 317 => 108 | n => n, fun | 3 => 3 | 46 => 75 | n => n, fun | n => n⟩
theorem Tryz.lays317 : Go.Proofs.Lays.n317 Tryz.prog Tryz.lays317_ren := {
  mixed := by kernel_rfl
  f317 := Tryz.func108.trans (congrArg some (by kernel_rfl))
  t3 := Tryz.underlying3
  a3 := Tryz.isAgg3
  z3 := Tryz.sizeOf3
  v3 := Tryz.zeroValue3
  t46 := Tryz.underlying75
  a46 := Tryz.isAgg75
  z46 := Tryz.sizeOf75
  v46 := Tryz.zeroValue75 }
open Go.Lib in
theorem Tryz.internal_strconv_log10Pow2 (x : Nat) (h : x ≤ 64) (w : World) :
    Calls Tryz.prog 108 #[.int .i64 x] w fun e w' => e = .returned (.int .i64 (Lib.l10 x)) ∧ w' = w := Any.internal_strconv_log10Pow2 Tryz.lays317 x h w
def Tryz.lays318_ren : Go.Shelf.Ren := ⟨fun | 318 => 110 | n => n, fun | 3 => 3 | 4 => 4 | n => n, fun | n => n⟩
theorem Tryz.lays318 : Go.Proofs.Lays.n318 Tryz.prog Tryz.lays318_ren := {
  mixed := by kernel_rfl
  f318 := Tryz.func110.trans (congrArg some (by kernel_rfl))
  t3 := Tryz.underlying3
  a3 := Tryz.isAgg3
  z3 := Tryz.sizeOf3
  v3 := Tryz.zeroValue3
  t4 := Tryz.underlying4
  a4 := Tryz.isAgg4
  z4 := Tryz.sizeOf4
  v4 := Tryz.zeroValue4 }
open Go.Lib in
theorem Tryz.internal_strconv_bool2_int (b : Bool) (w : World) :
    Calls Tryz.prog 110 #[.bool b] w fun e w' => e = .returned (.int .i64 (if b then 1 else 0)) ∧ w' = w := Any.internal_strconv_bool2_int Tryz.lays318 b w
def Tryz.lays283_ren : Go.Shelf.Ren := ⟨fun | 283 => 90 | n => n, fun | 3 => 3 | 9 => 9 | 4 => 4 | n => n, fun | n => n⟩
theorem Tryz.lays283 : Go.Proofs.Lays.n283 Tryz.prog Tryz.lays283_ren := {
  mixed := by kernel_rfl
  f283 := Tryz.func90.trans (congrArg some (by kernel_rfl))
  t3 := Tryz.underlying3
  a3 := Tryz.isAgg3
  z3 := Tryz.sizeOf3
  v3 := Tryz.zeroValue3
  t4 := Tryz.underlying4
  a4 := Tryz.isAgg4
  z4 := Tryz.sizeOf4
  v4 := Tryz.zeroValue4
  t9 := Tryz.underlying9
  a9 := Tryz.isAgg9
  z9 := Tryz.sizeOf9
  v9 := Tryz.zeroValue9 }
open Go.Lib in
theorem Tryz.internal_strconv_small (i : Nat) (h : i < 100) (w : World) :
    Calls Tryz.prog 90 #[.int .i64 i] w fun e w' => e = .returned (.string ⟨(Lib.decDigits i).toArray⟩) ∧ w' = w := Any.internal_strconv_small Tryz.lays283 i h w
def Tryz.laysM284_ren : Go.Shelf.Ren := ⟨fun | 284 => 91 | 129 => 109 | 317 => 108 | 318 => 110 | n => n, fun | 53 => 104 | 3 => 3 | 212 => 142 | 0 => 0 | 4 => 4 | 46 => 75 | 5 => 5 | 9 => 9 | n => n, fun | 17 => 2 | n => n⟩
theorem Tryz.laysM284 : Go.Proofs.LaysM.n284 Tryz.prog Tryz.laysM284_ren := {
  mixed := by kernel_rfl
  f129 := Tryz.func109.trans (congrArg some (by kernel_rfl))
  f284 := Tryz.func91.trans (congrArg some (by kernel_rfl))
  f317 := Tryz.func108.trans (congrArg some (by kernel_rfl))
  f318 := Tryz.func110.trans (congrArg some (by kernel_rfl))
  t0 := Tryz.underlying0
  a0 := Tryz.isAgg0
  z0 := Tryz.sizeOf0
  v0 := Tryz.zeroValue0
  t3 := Tryz.underlying3
  a3 := Tryz.isAgg3
  z3 := Tryz.sizeOf3
  v3 := Tryz.zeroValue3
  t4 := Tryz.underlying4
  a4 := Tryz.isAgg4
  z4 := Tryz.sizeOf4
  v4 := Tryz.zeroValue4
  t5 := Tryz.underlying5
  a5 := Tryz.isAgg5
  z5 := Tryz.sizeOf5
  v5 := Tryz.zeroValue5
  t9 := Tryz.underlying9
  a9 := Tryz.isAgg9
  z9 := Tryz.sizeOf9
  v9 := Tryz.zeroValue9
  t46 := Tryz.underlying75
  a46 := Tryz.isAgg75
  z46 := Tryz.sizeOf75
  v46 := Tryz.zeroValue75
  t53 := Tryz.underlying104
  a53 := Tryz.isAgg104
  z53 := Tryz.sizeOf104
  v53 := Tryz.zeroValue104
  t212 := Tryz.underlying142
  a212 := Tryz.isAgg142
  z212 := Tryz.sizeOf142
  v212 := Tryz.zeroValue142
  g17 := by kernel_rfl
  i0 := by kernel_rfl
  i3 := by kernel_rfl
  i4 := by kernel_rfl
  i5 := by kernel_rfl
  i9 := by kernel_rfl
  i46 := by kernel_rfl
  i53 := by kernel_rfl
  i212 := by kernel_rfl
  m17 := by kernel_rfl }
open Go.Lib in
theorem Tryz.internal_strconv_numDigits (u : Nat) (h1 : 1 ≤ u) (h2 : u < 18446744073709551616) (w : World) (htab : Lib.TabIs Tryz.prog w "internal/strconv.uint64pow10" .u64 Lib.pow10Tab) :
    Calls Tryz.prog 91 #[.int .u64 u] w fun e w' => e = .returned (.int .i64 (Lib.nDigits u)) ∧ w' = w := Any.internal_strconv_numDigits Tryz.laysM284 u h1 h2 w htab
def Tryz.lays285_ren : Go.Shelf.Ren := ⟨fun | 285 => 92 | n => n, fun | 37 => 81 | 53 => 104 | 3 => 3 | 4 => 4 | 51 => 101 | 9 => 9 | 5 => 5 | 0 => 0 | n => n, fun | n => n⟩
theorem Tryz.lays285 : Go.Proofs.Lays.n285 Tryz.prog Tryz.lays285_ren := {
  mixed := by kernel_rfl
  f285 := Tryz.func92.trans (congrArg some (by kernel_rfl))
  t0 := Tryz.underlying0
  a0 := Tryz.isAgg0
  z0 := Tryz.sizeOf0
  v0 := Tryz.zeroValue0
  t3 := Tryz.underlying3
  a3 := Tryz.isAgg3
  z3 := Tryz.sizeOf3
  v3 := Tryz.zeroValue3
  t4 := Tryz.underlying4
  a4 := Tryz.isAgg4
  z4 := Tryz.sizeOf4
  v4 := Tryz.zeroValue4
  t5 := Tryz.underlying5
  a5 := Tryz.isAgg5
  z5 := Tryz.sizeOf5
  v5 := Tryz.zeroValue5
  t9 := Tryz.underlying9
  a9 := Tryz.isAgg9
  z9 := Tryz.sizeOf9
  v9 := Tryz.zeroValue9
  t37 := Tryz.underlying81
  a37 := Tryz.isAgg81
  z37 := Tryz.sizeOf81
  v37 := Tryz.zeroValue81
  t51 := Tryz.underlying101
  a51 := Tryz.isAgg101
  z51 := Tryz.sizeOf101
  v51 := Tryz.zeroValue101
  t53 := Tryz.underlying104
  a53 := Tryz.isAgg104
  z53 := Tryz.sizeOf104
  v53 := Tryz.zeroValue104 }
open Go.RowKit Go.Sort Go.Lib in
theorem Tryz.internal_strconv_formatBase10 (blk off cap : Nat) (u : Nat) (d : Array UInt8) (w : World) (hH : Holds (fun (b : UInt8) => Value.int .u8 (b.toNat : Int)) w blk off d) (hu : u < 10 ^ d.size) (hu64 : u < 18446744073709551616) (hsz : d.size < 4611686018427387904) :
    Calls Tryz.prog 92 #[.slice (some ⟨blk, off, none⟩) d.size cap, .int .u64 u] w fun e w' =>
      e = .returned (.tuple #[]) ∧ ∃ (n v' : Nat) (dk : Array UInt8), w' = (putRow (fun (b : UInt8) => Value.int .u8 (b.toNat : Int)) w blk off dk).drewN n ∧ FmtInv d.size u 0 v' dk := Any.internal_strconv_formatBase10 Tryz.lays285 blk off cap u d w hH hu hu64 hsz
def Tryz.laysM246_ren : Go.Shelf.Ren := ⟨fun | 246 => 78 | 283 => 90 | 284 => 91 | 285 => 92 | 286 => 93 | 129 => 109 | 317 => 108 | 318 => 110 | 319 => 111 | 320 => 112 | 337 => 117 | 338 => 118 | n => n, fun | 2 => 2 | 3 => 3 | 9 => 9 | 4 => 4 | 171 => 124 | 0 => 0 | 53 => 104 | 37 => 81 | 5 => 5 | 173 => 127 | 212 => 142 | 51 => 101 | 20 => 20 | 213 => 143 | 46 => 75 | 232 => 161 | 233 => 162 | n => n, fun | 17 => 2 | 18 => 7 | 19 => 8 | n => n⟩
theorem Tryz.laysM246 : Go.Proofs.LaysM.n246 Tryz.prog Tryz.laysM246_ren := {
  mixed := by kernel_rfl
  f129 := Tryz.func109.trans (congrArg some (by kernel_rfl))
  f246 := Tryz.func78.trans (congrArg some (by kernel_rfl))
  f283 := Tryz.func90.trans (congrArg some (by kernel_rfl))
  f284 := Tryz.func91.trans (congrArg some (by kernel_rfl))
  f285 := Tryz.func92.trans (congrArg some (by kernel_rfl))
  f286 := Tryz.func93.trans (congrArg some (by kernel_rfl))
  f317 := Tryz.func108.trans (congrArg some (by kernel_rfl))
  f318 := Tryz.func110.trans (congrArg some (by kernel_rfl))
  f319 := Tryz.func111.trans (congrArg some (by kernel_rfl))
  f320 := Tryz.func112.trans (congrArg some (by kernel_rfl))
  f337 := Tryz.func117.trans (congrArg some (by kernel_rfl))
  f338 := Tryz.func118.trans (congrArg some (by kernel_rfl))
  t0 := Tryz.underlying0
  a0 := Tryz.isAgg0
  z0 := Tryz.sizeOf0
  v0 := Tryz.zeroValue0
  t2 := Tryz.underlying2
  a2 := Tryz.isAgg2
  z2 := Tryz.sizeOf2
  v2 := Tryz.zeroValue2
  t3 := Tryz.underlying3
  a3 := Tryz.isAgg3
  z3 := Tryz.sizeOf3
  v3 := Tryz.zeroValue3
  t4 := Tryz.underlying4
  a4 := Tryz.isAgg4
  z4 := Tryz.sizeOf4
  v4 := Tryz.zeroValue4
  t5 := Tryz.underlying5
  a5 := Tryz.isAgg5
  z5 := Tryz.sizeOf5
  v5 := Tryz.zeroValue5
  t9 := Tryz.underlying9
  a9 := Tryz.isAgg9
  z9 := Tryz.sizeOf9
  v9 := Tryz.zeroValue9
  t20 := Tryz.underlying20
  a20 := Tryz.isAgg20
  z20 := Tryz.sizeOf20
  v20 := Tryz.zeroValue20
  t37 := Tryz.underlying81
  a37 := Tryz.isAgg81
  z37 := Tryz.sizeOf81
  v37 := Tryz.zeroValue81
  t46 := Tryz.underlying75
  a46 := Tryz.isAgg75
  z46 := Tryz.sizeOf75
  v46 := Tryz.zeroValue75
  t51 := Tryz.underlying101
  a51 := Tryz.isAgg101
  z51 := Tryz.sizeOf101
  v51 := Tryz.zeroValue101
  t53 := Tryz.underlying104
  a53 := Tryz.isAgg104
  z53 := Tryz.sizeOf104
  v53 := Tryz.zeroValue104
  t171 := Tryz.underlying124
  a171 := Tryz.isAgg124
  z171 := Tryz.sizeOf124
  v171 := Tryz.zeroValue124
  t173 := Tryz.underlying127
  a173 := Tryz.isAgg127
  z173 := Tryz.sizeOf127
  v173 := Tryz.zeroValue127
  t212 := Tryz.underlying142
  a212 := Tryz.isAgg142
  z212 := Tryz.sizeOf142
  v212 := Tryz.zeroValue142
  t213 := Tryz.underlying143
  a213 := Tryz.isAgg143
  z213 := Tryz.sizeOf143
  t232 := Tryz.underlying161
  a232 := Tryz.isAgg161
  z232 := Tryz.sizeOf161
  v232 := Tryz.zeroValue161
  t233 := Tryz.underlying162
  a233 := Tryz.isAgg162
  z233 := Tryz.sizeOf162
  v233 := Tryz.zeroValue162
  g17 := by kernel_rfl
  g18 := by kernel_rfl
  g19 := by kernel_rfl
  i0 := by kernel_rfl
  i2 := by kernel_rfl
  i3 := by kernel_rfl
  i4 := by kernel_rfl
  i5 := by kernel_rfl
  i9 := by kernel_rfl
  i20 := by kernel_rfl
  i37 := by kernel_rfl
  i46 := by kernel_rfl
  i51 := by kernel_rfl
  i53 := by kernel_rfl
  i171 := by kernel_rfl
  i173 := by kernel_rfl
  i212 := by kernel_rfl
  i232 := by kernel_rfl
  i233 := by kernel_rfl
  m17 := by kernel_rfl
  m18 := by kernel_rfl
  m19 := by kernel_rfl }
open Go.RowKit Go.Sort Go.Lib in
theorem Tryz.internal_strconv_FormatInt_10 (n : Int) (h0 : -9223372036854775808 ≤ n) (h1 : n ≤ 9223372036854775807) (w : World) (htab : Lib.TabIs Tryz.prog w "internal/strconv.uint64pow10" .u64 Lib.pow10Tab) :
    Calls Tryz.prog 78 #[.int .i64 n, .int .i64 10] w fun e w' => e = .returned (.string ⟨(Lib.itoa n).toArray⟩) ∧ ∃ k os, w' = grow (w.drewN k) os := Any.internal_strconv_FormatInt_10 Tryz.laysM246 n h0 h1 w htab
def Tryz.lays246_ren : Go.Shelf.Ren := ⟨fun | 246 => 78 | 283 => 90 | 284 => 91 | 285 => 92 | 286 => 93 | 129 => 109 | 317 => 108 | 318 => 110 | 319 => 111 | 320 => 112 | 337 => 117 | 338 => 118 | n => n, fun | 2 => 2 | 3 => 3 | 9 => 9 | 4 => 4 | 171 => 124 | 0 => 0 | 53 => 104 | 37 => 81 | 5 => 5 | 173 => 127 | 212 => 142 | 51 => 101 | 20 => 20 | 213 => 143 | 46 => 75 | 232 => 161 | 233 => 162 | n => n, fun | 17 => 2 | 18 => 7 | 19 => 8 | n => n⟩
theorem Tryz.lays246 : Go.Proofs.Lays.n246 Tryz.prog Tryz.lays246_ren := {
  mixed := by kernel_rfl
  f129 := Tryz.func109.trans (congrArg some (by kernel_rfl))
  f246 := Tryz.func78.trans (congrArg some (by kernel_rfl))
  f283 := Tryz.func90.trans (congrArg some (by kernel_rfl))
  f284 := Tryz.func91.trans (congrArg some (by kernel_rfl))
  f285 := Tryz.func92.trans (congrArg some (by kernel_rfl))
  f286 := Tryz.func93.trans (congrArg some (by kernel_rfl))
  f317 := Tryz.func108.trans (congrArg some (by kernel_rfl))
  f318 := Tryz.func110.trans (congrArg some (by kernel_rfl))
  f319 := Tryz.func111.trans (congrArg some (by kernel_rfl))
  f320 := Tryz.func112.trans (congrArg some (by kernel_rfl))
  f337 := Tryz.func117.trans (congrArg some (by kernel_rfl))
  f338 := Tryz.func118.trans (congrArg some (by kernel_rfl))
  t0 := Tryz.underlying0
  a0 := Tryz.isAgg0
  z0 := Tryz.sizeOf0
  v0 := Tryz.zeroValue0
  t2 := Tryz.underlying2
  a2 := Tryz.isAgg2
  z2 := Tryz.sizeOf2
  v2 := Tryz.zeroValue2
  t3 := Tryz.underlying3
  a3 := Tryz.isAgg3
  z3 := Tryz.sizeOf3
  v3 := Tryz.zeroValue3
  t4 := Tryz.underlying4
  a4 := Tryz.isAgg4
  z4 := Tryz.sizeOf4
  v4 := Tryz.zeroValue4
  t5 := Tryz.underlying5
  a5 := Tryz.isAgg5
  z5 := Tryz.sizeOf5
  v5 := Tryz.zeroValue5
  t9 := Tryz.underlying9
  a9 := Tryz.isAgg9
  z9 := Tryz.sizeOf9
  v9 := Tryz.zeroValue9
  t20 := Tryz.underlying20
  a20 := Tryz.isAgg20
  z20 := Tryz.sizeOf20
  v20 := Tryz.zeroValue20
  t37 := Tryz.underlying81
  a37 := Tryz.isAgg81
  z37 := Tryz.sizeOf81
  v37 := Tryz.zeroValue81
  t46 := Tryz.underlying75
  a46 := Tryz.isAgg75
  z46 := Tryz.sizeOf75
  v46 := Tryz.zeroValue75
  t51 := Tryz.underlying101
  a51 := Tryz.isAgg101
  z51 := Tryz.sizeOf101
  v51 := Tryz.zeroValue101
  t53 := Tryz.underlying104
  a53 := Tryz.isAgg104
  z53 := Tryz.sizeOf104
  v53 := Tryz.zeroValue104
  t171 := Tryz.underlying124
  a171 := Tryz.isAgg124
  z171 := Tryz.sizeOf124
  v171 := Tryz.zeroValue124
  t173 := Tryz.underlying127
  a173 := Tryz.isAgg127
  z173 := Tryz.sizeOf127
  v173 := Tryz.zeroValue127
  t212 := Tryz.underlying142
  a212 := Tryz.isAgg142
  z212 := Tryz.sizeOf142
  v212 := Tryz.zeroValue142
  t213 := Tryz.underlying143
  a213 := Tryz.isAgg143
  z213 := Tryz.sizeOf143
  t232 := Tryz.underlying161
  a232 := Tryz.isAgg161
  z232 := Tryz.sizeOf161
  v232 := Tryz.zeroValue161
  t233 := Tryz.underlying162
  a233 := Tryz.isAgg162
  z233 := Tryz.sizeOf162
  v233 := Tryz.zeroValue162
  g17 := by kernel_rfl
  g18 := by kernel_rfl
  g19 := by kernel_rfl }
open Go.RowKit Go.Sort Go.Lib in
theorem Tryz.internal_strconv_FormatInt_10_small (i : Nat) (hi : i < 100) (w : World) :
    Calls Tryz.prog 78 #[.int .i64 i, .int .i64 10] w fun e w' => e = .returned (.string ⟨(Lib.decDigits i).toArray⟩) ∧ w' = w := Any.internal_strconv_FormatInt_10_small Tryz.lays246 i hi w
def Tryz.laysM243_ren : Go.Shelf.Ren := ⟨fun | 243 => 53 | 246 => 78 | 283 => 90 | 284 => 91 | 285 => 92 | 286 => 93 | 129 => 109 | 317 => 108 | 318 => 110 | 319 => 111 | 320 => 112 | 337 => 117 | 338 => 118 | n => n, fun | 3 => 3 | 9 => 9 | 2 => 2 | 4 => 4 | 171 => 124 | 0 => 0 | 53 => 104 | 37 => 81 | 5 => 5 | 173 => 127 | 212 => 142 | 51 => 101 | 20 => 20 | 213 => 143 | 46 => 75 | 232 => 161 | 233 => 162 | n => n, fun | 17 => 2 | 18 => 7 | 19 => 8 | n => n⟩
theorem Tryz.laysM243 : Go.Proofs.LaysM.n243 Tryz.prog Tryz.laysM243_ren := {
  mixed := by kernel_rfl
  f129 := Tryz.func109.trans (congrArg some (by kernel_rfl))
  f243 := Tryz.func53.trans (congrArg some (by kernel_rfl))
  f246 := Tryz.func78.trans (congrArg some (by kernel_rfl))
  f283 := Tryz.func90.trans (congrArg some (by kernel_rfl))
  f284 := Tryz.func91.trans (congrArg some (by kernel_rfl))
  f285 := Tryz.func92.trans (congrArg some (by kernel_rfl))
  f286 := Tryz.func93.trans (congrArg some (by kernel_rfl))
  f317 := Tryz.func108.trans (congrArg some (by kernel_rfl))
  f318 := Tryz.func110.trans (congrArg some (by kernel_rfl))
  f319 := Tryz.func111.trans (congrArg some (by kernel_rfl))
  f320 := Tryz.func112.trans (congrArg some (by kernel_rfl))
  f337 := Tryz.func117.trans (congrArg some (by kernel_rfl))
  f338 := Tryz.func118.trans (congrArg some (by kernel_rfl))
  t0 := Tryz.underlying0
  a0 := Tryz.isAgg0
  z0 := Tryz.sizeOf0
  v0 := Tryz.zeroValue0
  t2 := Tryz.underlying2
  a2 := Tryz.isAgg2
  z2 := Tryz.sizeOf2
  v2 := Tryz.zeroValue2
  t3 := Tryz.underlying3
  a3 := Tryz.isAgg3
  z3 := Tryz.sizeOf3
  v3 := Tryz.zeroValue3
  t4 := Tryz.underlying4
  a4 := Tryz.isAgg4
  z4 := Tryz.sizeOf4
  v4 := Tryz.zeroValue4
  t5 := Tryz.underlying5
  a5 := Tryz.isAgg5
  z5 := Tryz.sizeOf5
  v5 := Tryz.zeroValue5
  t9 := Tryz.underlying9
  a9 := Tryz.isAgg9
  z9 := Tryz.sizeOf9
  v9 := Tryz.zeroValue9
  t20 := Tryz.underlying20
  a20 := Tryz.isAgg20
  z20 := Tryz.sizeOf20
  v20 := Tryz.zeroValue20
  t37 := Tryz.underlying81
  a37 := Tryz.isAgg81
  z37 := Tryz.sizeOf81
  v37 := Tryz.zeroValue81
  t46 := Tryz.underlying75
  a46 := Tryz.isAgg75
  z46 := Tryz.sizeOf75
  v46 := Tryz.zeroValue75
  t51 := Tryz.underlying101
  a51 := Tryz.isAgg101
  z51 := Tryz.sizeOf101
  v51 := Tryz.zeroValue101
  t53 := Tryz.underlying104
  a53 := Tryz.isAgg104
  z53 := Tryz.sizeOf104
  v53 := Tryz.zeroValue104
  t171 := Tryz.underlying124
  a171 := Tryz.isAgg124
  z171 := Tryz.sizeOf124
  v171 := Tryz.zeroValue124
  t173 := Tryz.underlying127
  a173 := Tryz.isAgg127
  z173 := Tryz.sizeOf127
  v173 := Tryz.zeroValue127
  t212 := Tryz.underlying142
  a212 := Tryz.isAgg142
  z212 := Tryz.sizeOf142
  v212 := Tryz.zeroValue142
  t213 := Tryz.underlying143
  a213 := Tryz.isAgg143
  z213 := Tryz.sizeOf143
  t232 := Tryz.underlying161
  a232 := Tryz.isAgg161
  z232 := Tryz.sizeOf161
  v232 := Tryz.zeroValue161
  t233 := Tryz.underlying162
  a233 := Tryz.isAgg162
  z233 := Tryz.sizeOf162
  v233 := Tryz.zeroValue162
  g17 := by kernel_rfl
  g18 := by kernel_rfl
  g19 := by kernel_rfl
  i0 := by kernel_rfl
  i2 := by kernel_rfl
  i3 := by kernel_rfl
  i4 := by kernel_rfl
  i5 := by kernel_rfl
  i9 := by kernel_rfl
  i20 := by kernel_rfl
  i37 := by kernel_rfl
  i46 := by kernel_rfl
  i51 := by kernel_rfl
  i53 := by kernel_rfl
  i171 := by kernel_rfl
  i173 := by kernel_rfl
  i212 := by kernel_rfl
  i232 := by kernel_rfl
  i233 := by kernel_rfl
  m17 := by kernel_rfl
  m18 := by kernel_rfl
  m19 := by kernel_rfl }
open Go.RowKit Go.Sort Go.Lib in
theorem Tryz.internal_strconv_Itoa (n : Int) (h0 : -9223372036854775808 ≤ n) (h1 : n ≤ 9223372036854775807) (w : World) (htab : Lib.TabIs Tryz.prog w "internal/strconv.uint64pow10" .u64 Lib.pow10Tab) :
    Calls Tryz.prog 53 #[.int .i64 n] w fun e w' => e = .returned (.string ⟨(Lib.itoa n).toArray⟩) ∧ ∃ k os, w' = grow (w.drewN k) os := Any.internal_strconv_Itoa Tryz.laysM243 n h0 h1 w htab
def Tryz.lays243_ren : Go.Shelf.Ren := ⟨fun | 243 => 53 | 246 => 78 | 283 => 90 | 284 => 91 | 285 => 92 | 286 => 93 | 129 => 109 | 317 => 108 | 318 => 110 | 319 => 111 | 320 => 112 | 337 => 117 | 338 => 118 | n => n, fun | 3 => 3 | 9 => 9 | 2 => 2 | 4 => 4 | 171 => 124 | 0 => 0 | 53 => 104 | 37 => 81 | 5 => 5 | 173 => 127 | 212 => 142 | 51 => 101 | 20 => 20 | 213 => 143 | 46 => 75 | 232 => 161 | 233 => 162 | n => n, fun | 17 => 2 | 18 => 7 | 19 => 8 | n => n⟩
theorem Tryz.lays243 : Go.Proofs.Lays.n243 Tryz.prog Tryz.lays243_ren := {
  mixed := by kernel_rfl
  f129 := Tryz.func109.trans (congrArg some (by kernel_rfl))
  f243 := Tryz.func53.trans (congrArg some (by kernel_rfl))
  f246 := Tryz.func78.trans (congrArg some (by kernel_rfl))
  f283 := Tryz.func90.trans (congrArg some (by kernel_rfl))
  f284 := Tryz.func91.trans (congrArg some (by kernel_rfl))
  f285 := Tryz.func92.trans (congrArg some (by kernel_rfl))
  f286 := Tryz.func93.trans (congrArg some (by kernel_rfl))
  f317 := Tryz.func108.trans (congrArg some (by kernel_rfl))
  f318 := Tryz.func110.trans (congrArg some (by kernel_rfl))
  f319 := Tryz.func111.trans (congrArg some (by kernel_rfl))
  f320 := Tryz.func112.trans (congrArg some (by kernel_rfl))
  f337 := Tryz.func117.trans (congrArg some (by kernel_rfl))
  f338 := Tryz.func118.trans (congrArg some (by kernel_rfl))
  t0 := Tryz.underlying0
  a0 := Tryz.isAgg0
  z0 := Tryz.sizeOf0
  v0 := Tryz.zeroValue0
  t2 := Tryz.underlying2
  a2 := Tryz.isAgg2
  z2 := Tryz.sizeOf2
  v2 := Tryz.zeroValue2
  t3 := Tryz.underlying3
  a3 := Tryz.isAgg3
  z3 := Tryz.sizeOf3
  v3 := Tryz.zeroValue3
  t4 := Tryz.underlying4
  a4 := Tryz.isAgg4
  z4 := Tryz.sizeOf4
  v4 := Tryz.zeroValue4
  t5 := Tryz.underlying5
  a5 := Tryz.isAgg5
  z5 := Tryz.sizeOf5
  v5 := Tryz.zeroValue5
  t9 := Tryz.underlying9
  a9 := Tryz.isAgg9
  z9 := Tryz.sizeOf9
  v9 := Tryz.zeroValue9
  t20 := Tryz.underlying20
  a20 := Tryz.isAgg20
  z20 := Tryz.sizeOf20
  v20 := Tryz.zeroValue20
  t37 := Tryz.underlying81
  a37 := Tryz.isAgg81
  z37 := Tryz.sizeOf81
  v37 := Tryz.zeroValue81
  t46 := Tryz.underlying75
  a46 := Tryz.isAgg75
  z46 := Tryz.sizeOf75
  v46 := Tryz.zeroValue75
  t51 := Tryz.underlying101
  a51 := Tryz.isAgg101
  z51 := Tryz.sizeOf101
  v51 := Tryz.zeroValue101
  t53 := Tryz.underlying104
  a53 := Tryz.isAgg104
  z53 := Tryz.sizeOf104
  v53 := Tryz.zeroValue104
  t171 := Tryz.underlying124
  a171 := Tryz.isAgg124
  z171 := Tryz.sizeOf124
  v171 := Tryz.zeroValue124
  t173 := Tryz.underlying127
  a173 := Tryz.isAgg127
  z173 := Tryz.sizeOf127
  v173 := Tryz.zeroValue127
  t212 := Tryz.underlying142
  a212 := Tryz.isAgg142
  z212 := Tryz.sizeOf142
  v212 := Tryz.zeroValue142
  t213 := Tryz.underlying143
  a213 := Tryz.isAgg143
  z213 := Tryz.sizeOf143
  t232 := Tryz.underlying161
  a232 := Tryz.isAgg161
  z232 := Tryz.sizeOf161
  v232 := Tryz.zeroValue161
  t233 := Tryz.underlying162
  a233 := Tryz.isAgg162
  z233 := Tryz.sizeOf162
  v233 := Tryz.zeroValue162
  g17 := by kernel_rfl
  g18 := by kernel_rfl
  g19 := by kernel_rfl }
open Go.RowKit Go.Sort Go.Lib in
theorem Tryz.internal_strconv_Itoa_small (i : Nat) (hi : i < 100) (w : World) :
    Calls Tryz.prog 53 #[.int .i64 i] w fun e w' => e = .returned (.string ⟨(Lib.decDigits i).toArray⟩) ∧ w' = w := Any.internal_strconv_Itoa_small Tryz.lays243 i hi w
def Tryz.laysM171_ren : Go.Shelf.Ren := ⟨fun | 171 => 27 | 243 => 53 | 246 => 78 | 283 => 90 | 284 => 91 | 285 => 92 | 286 => 93 | 129 => 109 | 317 => 108 | 318 => 110 | 319 => 111 | 320 => 112 | 337 => 117 | 338 => 118 | n => n, fun | 3 => 3 | 9 => 9 | 2 => 2 | 4 => 4 | 171 => 124 | 0 => 0 | 53 => 104 | 37 => 81 | 5 => 5 | 173 => 127 | 212 => 142 | 51 => 101 | 20 => 20 | 213 => 143 | 46 => 75 | 232 => 161 | 233 => 162 | n => n, fun | 17 => 2 | 18 => 7 | 19 => 8 | n => n⟩
theorem Tryz.laysM171 : Go.Proofs.LaysM.n171 Tryz.prog Tryz.laysM171_ren := {
  mixed := by kernel_rfl
  f129 := Tryz.func109.trans (congrArg some (by kernel_rfl))
  f171 := Tryz.func27.trans (congrArg some (by kernel_rfl))
  f243 := Tryz.func53.trans (congrArg some (by kernel_rfl))
  f246 := Tryz.func78.trans (congrArg some (by kernel_rfl))
  f283 := Tryz.func90.trans (congrArg some (by kernel_rfl))
  f284 := Tryz.func91.trans (congrArg some (by kernel_rfl))
  f285 := Tryz.func92.trans (congrArg some (by kernel_rfl))
  f286 := Tryz.func93.trans (congrArg some (by kernel_rfl))
  f317 := Tryz.func108.trans (congrArg some (by kernel_rfl))
  f318 := Tryz.func110.trans (congrArg some (by kernel_rfl))
  f319 := Tryz.func111.trans (congrArg some (by kernel_rfl))
  f320 := Tryz.func112.trans (congrArg some (by kernel_rfl))
  f337 := Tryz.func117.trans (congrArg some (by kernel_rfl))
  f338 := Tryz.func118.trans (congrArg some (by kernel_rfl))
  t0 := Tryz.underlying0
  a0 := Tryz.isAgg0
  z0 := Tryz.sizeOf0
  v0 := Tryz.zeroValue0
  t2 := Tryz.underlying2
  a2 := Tryz.isAgg2
  z2 := Tryz.sizeOf2
  v2 := Tryz.zeroValue2
  t3 := Tryz.underlying3
  a3 := Tryz.isAgg3
  z3 := Tryz.sizeOf3
  v3 := Tryz.zeroValue3
  t4 := Tryz.underlying4
  a4 := Tryz.isAgg4
  z4 := Tryz.sizeOf4
  v4 := Tryz.zeroValue4
  t5 := Tryz.underlying5
  a5 := Tryz.isAgg5
  z5 := Tryz.sizeOf5
  v5 := Tryz.zeroValue5
  t9 := Tryz.underlying9
  a9 := Tryz.isAgg9
  z9 := Tryz.sizeOf9
  v9 := Tryz.zeroValue9
  t20 := Tryz.underlying20
  a20 := Tryz.isAgg20
  z20 := Tryz.sizeOf20
  v20 := Tryz.zeroValue20
  t37 := Tryz.underlying81
  a37 := Tryz.isAgg81
  z37 := Tryz.sizeOf81
  v37 := Tryz.zeroValue81
  t46 := Tryz.underlying75
  a46 := Tryz.isAgg75
  z46 := Tryz.sizeOf75
  v46 := Tryz.zeroValue75
  t51 := Tryz.underlying101
  a51 := Tryz.isAgg101
  z51 := Tryz.sizeOf101
  v51 := Tryz.zeroValue101
  t53 := Tryz.underlying104
  a53 := Tryz.isAgg104
  z53 := Tryz.sizeOf104
  v53 := Tryz.zeroValue104
  t171 := Tryz.underlying124
  a171 := Tryz.isAgg124
  z171 := Tryz.sizeOf124
  v171 := Tryz.zeroValue124
  t173 := Tryz.underlying127
  a173 := Tryz.isAgg127
  z173 := Tryz.sizeOf127
  v173 := Tryz.zeroValue127
  t212 := Tryz.underlying142
  a212 := Tryz.isAgg142
  z212 := Tryz.sizeOf142
  v212 := Tryz.zeroValue142
  t213 := Tryz.underlying143
  a213 := Tryz.isAgg143
  z213 := Tryz.sizeOf143
  t232 := Tryz.underlying161
  a232 := Tryz.isAgg161
  z232 := Tryz.sizeOf161
  v232 := Tryz.zeroValue161
  t233 := Tryz.underlying162
  a233 := Tryz.isAgg162
  z233 := Tryz.sizeOf162
  v233 := Tryz.zeroValue162
  g17 := by kernel_rfl
  g18 := by kernel_rfl
  g19 := by kernel_rfl
  i0 := by kernel_rfl
  i2 := by kernel_rfl
  i3 := by kernel_rfl
  i4 := by kernel_rfl
  i5 := by kernel_rfl
  i9 := by kernel_rfl
  i20 := by kernel_rfl
  i37 := by kernel_rfl
  i46 := by kernel_rfl
  i51 := by kernel_rfl
  i53 := by kernel_rfl
  i171 := by kernel_rfl
  i173 := by kernel_rfl
  i212 := by kernel_rfl
  i232 := by kernel_rfl
  i233 := by kernel_rfl
  m17 := by kernel_rfl
  m18 := by kernel_rfl
  m19 := by kernel_rfl }
open Go.RowKit Go.Sort Go.Lib in
theorem Tryz.strconv_Itoa (n : Int) (h0 : -9223372036854775808 ≤ n) (h1 : n ≤ 9223372036854775807) (w : World) (htab : Lib.TabIs Tryz.prog w "internal/strconv.uint64pow10" .u64 Lib.pow10Tab) :
    Calls Tryz.prog 27 #[.int .i64 n] w fun e w' => e = .returned (.string ⟨(Lib.itoa n).toArray⟩) ∧ ∃ k os, w' = grow (w.drewN k) os := Any.strconv_Itoa Tryz.laysM171 n h0 h1 w htab
def Tryz.lays171_ren : Go.Shelf.Ren := ⟨fun | 171 => 27 | 243 => 53 | 246 => 78 | 283 => 90 | 284 => 91 | 285 => 92 | 286 => 93 | 129 => 109 | 317 => 108 | 318 => 110 | 319 => 111 | 320 => 112 | 337 => 117 | 338 => 118 | n => n, fun | 3 => 3 | 9 => 9 | 2 => 2 | 4 => 4 | 171 => 124 | 0 => 0 | 53 => 104 | 37 => 81 | 5 => 5 | 173 => 127 | 212 => 142 | 51 => 101 | 20 => 20 | 213 => 143 | 46 => 75 | 232 => 161 | 233 => 162 | n => n, fun | 17 => 2 | 18 => 7 | 19 => 8 | n => n⟩
theorem Tryz.lays171 : Go.Proofs.Lays.n171 Tryz.prog Tryz.lays171_ren := {
  mixed := by kernel_rfl
  f129 := Tryz.func109.trans (congrArg some (by kernel_rfl))
  f171 := Tryz.func27.trans (congrArg some (by kernel_rfl))
  f243 := Tryz.func53.trans (congrArg some (by kernel_rfl))
  f246 := Tryz.func78.trans (congrArg some (by kernel_rfl))
  f283 := Tryz.func90.trans (congrArg some (by kernel_rfl))
  f284 := Tryz.func91.trans (congrArg some (by kernel_rfl))
  f285 := Tryz.func92.trans (congrArg some (by kernel_rfl))
  f286 := Tryz.func93.trans (congrArg some (by kernel_rfl))
  f317 := Tryz.func108.trans (congrArg some (by kernel_rfl))
  f318 := Tryz.func110.trans (congrArg some (by kernel_rfl))
  f319 := Tryz.func111.trans (congrArg some (by kernel_rfl))
  f320 := Tryz.func112.trans (congrArg some (by kernel_rfl))
  f337 := Tryz.func117.trans (congrArg some (by kernel_rfl))
  f338 := Tryz.func118.trans (congrArg some (by kernel_rfl))
  t0 := Tryz.underlying0
  a0 := Tryz.isAgg0
  z0 := Tryz.sizeOf0
  v0 := Tryz.zeroValue0
  t2 := Tryz.underlying2
  a2 := Tryz.isAgg2
  z2 := Tryz.sizeOf2
  v2 := Tryz.zeroValue2
  t3 := Tryz.underlying3
  a3 := Tryz.isAgg3
  z3 := Tryz.sizeOf3
  v3 := Tryz.zeroValue3
  t4 := Tryz.underlying4
  a4 := Tryz.isAgg4
  z4 := Tryz.sizeOf4
  v4 := Tryz.zeroValue4
  t5 := Tryz.underlying5
  a5 := Tryz.isAgg5
  z5 := Tryz.sizeOf5
  v5 := Tryz.zeroValue5
  t9 := Tryz.underlying9
  a9 := Tryz.isAgg9
  z9 := Tryz.sizeOf9
  v9 := Tryz.zeroValue9
  t20 := Tryz.underlying20
  a20 := Tryz.isAgg20
  z20 := Tryz.sizeOf20
  v20 := Tryz.zeroValue20
  t37 := Tryz.underlying81
  a37 := Tryz.isAgg81
  z37 := Tryz.sizeOf81
  v37 := Tryz.zeroValue81
  t46 := Tryz.underlying75
  a46 := Tryz.isAgg75
  z46 := Tryz.sizeOf75
  v46 := Tryz.zeroValue75
  t51 := Tryz.underlying101
  a51 := Tryz.isAgg101
  z51 := Tryz.sizeOf101
  v51 := Tryz.zeroValue101
  t53 := Tryz.underlying104
  a53 := Tryz.isAgg104
  z53 := Tryz.sizeOf104
  v53 := Tryz.zeroValue104
  t171 := Tryz.underlying124
  a171 := Tryz.isAgg124
  z171 := Tryz.sizeOf124
  v171 := Tryz.zeroValue124
  t173 := Tryz.underlying127
  a173 := Tryz.isAgg127
  z173 := Tryz.sizeOf127
  v173 := Tryz.zeroValue127
  t212 := Tryz.underlying142
  a212 := Tryz.isAgg142
  z212 := Tryz.sizeOf142
  v212 := Tryz.zeroValue142
  t213 := Tryz.underlying143
  a213 := Tryz.isAgg143
  z213 := Tryz.sizeOf143
  t232 := Tryz.underlying161
  a232 := Tryz.isAgg161
  z232 := Tryz.sizeOf161
  v232 := Tryz.zeroValue161
  t233 := Tryz.underlying162
  a233 := Tryz.isAgg162
  z233 := Tryz.sizeOf162
  v233 := Tryz.zeroValue162
  g17 := by kernel_rfl
  g18 := by kernel_rfl
  g19 := by kernel_rfl }
open Go.RowKit Go.Sort Go.Lib in
theorem Tryz.strconv_Itoa_small (i : Nat) (hi : i < 100) (w : World) :
    Calls Tryz.prog 27 #[.int .i64 i] w fun e w' => e = .returned (.string ⟨(Lib.decDigits i).toArray⟩) ∧ w' = w := Any.strconv_Itoa_small Tryz.lays171 i hi w
open Go.RowKit in
theorem Tryz.internal_strconv_Atoi_err (s : ByteArray) (hl0 : 1 ≤ s.size) (hl : s.size ≤ 18) (h : Lib.atoi s.data.toList = none) (w : World) :
    Calls Tryz.prog 84 #[.string s] w fun e w' => e = .returned (.tuple #[.int .i64 0, (.iface 135 (.int .i64 2))]) ∧ (w' = w ∨ ∃ t, w' = Lib.bytesWorld w 5 t) := Any.internal_strconv_Atoi_err Tryz.lays244 s hl0 hl h w
def Tryz.lays247_ren : Go.Shelf.Ren := ⟨fun | 247 => 102 | 287 => 114 | 321 => 119 | 322 => 120 | n => n, fun | 9 => 9 | 3 => 3 | 2 => 2 | 75 => 85 | 4 => 4 | 167 => 135 | 5 => 5 | 53 => 104 | 175 => 146 | 46 => 75 | 37 => 81 | 0 => 0 | 21 => 21 | 80 => 90 | n => n, fun | n => n⟩
theorem Tryz.lays247 : Go.Proofs.Lays.n247 Tryz.prog Tryz.lays247_ren := {
  mixed := by kernel_rfl
  f247 := Tryz.func102.trans (congrArg some (by kernel_rfl))
  f287 := Tryz.func114.trans (congrArg some (by kernel_rfl))
  f321 := Tryz.func119.trans (congrArg some (by kernel_rfl))
  f322 := Tryz.func120.trans (congrArg some (by kernel_rfl))
  t0 := Tryz.underlying0
  a0 := Tryz.isAgg0
  z0 := Tryz.sizeOf0
  v0 := Tryz.zeroValue0
  t2 := Tryz.underlying2
  a2 := Tryz.isAgg2
  z2 := Tryz.sizeOf2
  v2 := Tryz.zeroValue2
  t3 := Tryz.underlying3
  a3 := Tryz.isAgg3
  z3 := Tryz.sizeOf3
  v3 := Tryz.zeroValue3
  t4 := Tryz.underlying4
  a4 := Tryz.isAgg4
  z4 := Tryz.sizeOf4
  v4 := Tryz.zeroValue4
  t5 := Tryz.underlying5
  a5 := Tryz.isAgg5
  z5 := Tryz.sizeOf5
  v5 := Tryz.zeroValue5
  t9 := Tryz.underlying9
  a9 := Tryz.isAgg9
  z9 := Tryz.sizeOf9
  v9 := Tryz.zeroValue9
  t21 := Tryz.underlying21
  a21 := Tryz.isAgg21
  z21 := Tryz.sizeOf21
  v21 := Tryz.zeroValue21
  t37 := Tryz.underlying81
  a37 := Tryz.isAgg81
  z37 := Tryz.sizeOf81
  v37 := Tryz.zeroValue81
  t46 := Tryz.underlying75
  a46 := Tryz.isAgg75
  z46 := Tryz.sizeOf75
  v46 := Tryz.zeroValue75
  t53 := Tryz.underlying104
  a53 := Tryz.isAgg104
  z53 := Tryz.sizeOf104
  v53 := Tryz.zeroValue104
  t75 := Tryz.underlying85
  a75 := Tryz.isAgg85
  z75 := Tryz.sizeOf85
  v75 := Tryz.zeroValue85
  t167 := Tryz.underlying135
  a167 := Tryz.isAgg135
  z167 := Tryz.sizeOf135
  v167 := Tryz.zeroValue135
  t175 := Tryz.underlying146
  a175 := Tryz.isAgg146
  z175 := Tryz.sizeOf146
  v175 := Tryz.zeroValue146 }
open Go.RowKit in
theorem Tryz.internal_strconv_ParseInt_empty (base bits : Int) (w : World) :
    Calls Tryz.prog 102 #[.string ⟨#[]⟩, .int .i64 base, .int .i64 bits] w fun e w' => e = .returned (.tuple #[.int .i64 0, (.iface 135 (.int .i64 2))]) ∧ w' = w := Any.internal_strconv_ParseInt_empty Tryz.lays247 base bits w
open Go.RowKit in
theorem Tryz.internal_strconv_Atoi_empty (w : World) :
    Calls Tryz.prog 84 #[.string ⟨#[]⟩] w fun e w' => e = .returned (.tuple #[.int .i64 0, (.iface 135 (.int .i64 2))]) ∧ w' = w := Any.internal_strconv_Atoi_empty Tryz.lays244 w
open Go.RowKit in
theorem Tryz.internal_strconv_Atoi_fail (s : ByteArray) (hl : s.size ≤ 18) (h : Lib.atoi s.data.toList = none) (w : World) :
    Calls Tryz.prog 84 #[.string s] w fun e w' => e = .returned (.tuple #[.int .i64 0, (.iface 135 (.int .i64 2))]) ∧ (w' = w ∨ ∃ t, w' = Lib.bytesWorld w 5 t) := Any.internal_strconv_Atoi_fail Tryz.lays244 s hl h w
def Tryz.laysM316_ren : Go.Shelf.Ren := ⟨fun | 316 => 115 | n => n, fun | 9 => 9 | 3 => 3 | 4 => 4 | 37 => 81 | 0 => 0 | 127 => 108 | 5 => 5 | n => n, fun | n => n⟩
theorem Tryz.laysM316 : Go.Proofs.LaysM.n316 Tryz.prog Tryz.laysM316_ren := {
  mixed := by kernel_rfl
  f316 := Tryz.func115.trans (congrArg some (by kernel_rfl))
  t0 := Tryz.underlying0
  a0 := Tryz.isAgg0
  z0 := Tryz.sizeOf0
  v0 := Tryz.zeroValue0
  t3 := Tryz.underlying3
  a3 := Tryz.isAgg3
  z3 := Tryz.sizeOf3
  v3 := Tryz.zeroValue3
  t4 := Tryz.underlying4
  a4 := Tryz.isAgg4
  z4 := Tryz.sizeOf4
  v4 := Tryz.zeroValue4
  t9 := Tryz.underlying9
  a9 := Tryz.isAgg9
  z9 := Tryz.sizeOf9
  v9 := Tryz.zeroValue9
  t37 := Tryz.underlying81
  a37 := Tryz.isAgg81
  z37 := Tryz.sizeOf81
  v37 := Tryz.zeroValue81
  t127 := Tryz.underlying108
  a127 := Tryz.isAgg108
  z127 := Tryz.sizeOf108
  v127 := Tryz.zeroValue108
  t5 := Tryz.underlying5
  a5 := Tryz.isAgg5
  z5 := Tryz.sizeOf5
  v5 := Tryz.zeroValue5
  i0 := by kernel_rfl
  i3 := by kernel_rfl
  i4 := by kernel_rfl
  i5 := by kernel_rfl
  i9 := by kernel_rfl
  i37 := by kernel_rfl
  i127 := by kernel_rfl }
open Go.RowKit in
theorem Tryz.stringslite_Clone (s : ByteArray) (w : World) (hlim : s.size ≤ 281474976710656) :
    Calls Tryz.prog 115 #[.string s] w fun e w' => e = .returned (.string s) ∧ Below w.heap.size w w' := Any.stringslite_Clone Tryz.laysM316 s w hlim
def Tryz.laysM279_ren : Go.Shelf.Ren := ⟨fun | 279 => 103 | 316 => 115 | n => n, fun | 9 => 9 | 168 => 138 | 75 => 85 | 210 => 150 | 3 => 3 | 4 => 4 | 37 => 81 | 0 => 0 | 127 => 108 | 80 => 90 | 5 => 5 | n => n, fun | 15 => 3 | n => n⟩
theorem Tryz.laysM279 : Go.Proofs.LaysM.n279 Tryz.prog Tryz.laysM279_ren := {
  mixed := by kernel_rfl
  f279 := Tryz.func103.trans (congrArg some (by kernel_rfl))
  f316 := Tryz.func115.trans (congrArg some (by kernel_rfl))
  t0 := Tryz.underlying0
  a0 := Tryz.isAgg0
  z0 := Tryz.sizeOf0
  v0 := Tryz.zeroValue0
  t3 := Tryz.underlying3
  a3 := Tryz.isAgg3
  z3 := Tryz.sizeOf3
  v3 := Tryz.zeroValue3
  t4 := Tryz.underlying4
  a4 := Tryz.isAgg4
  z4 := Tryz.sizeOf4
  v4 := Tryz.zeroValue4
  t9 := Tryz.underlying9
  a9 := Tryz.isAgg9
  z9 := Tryz.sizeOf9
  v9 := Tryz.zeroValue9
  t37 := Tryz.underlying81
  a37 := Tryz.isAgg81
  z37 := Tryz.sizeOf81
  v37 := Tryz.zeroValue81
  t75 := Tryz.underlying85
  a75 := Tryz.isAgg85
  z75 := Tryz.sizeOf85
  v75 := Tryz.zeroValue85
  t127 := Tryz.underlying108
  a127 := Tryz.isAgg108
  z127 := Tryz.sizeOf108
  v127 := Tryz.zeroValue108
  t168 := Tryz.underlying138
  a168 := Tryz.isAgg138
  z168 := Tryz.sizeOf138
  v168 := Tryz.zeroValue138
  t210 := Tryz.underlying150
  a210 := Tryz.isAgg150
  z210 := Tryz.sizeOf150
  v210 := Tryz.zeroValue150
  g15 := by kernel_rfl
  t5 := Tryz.underlying5
  a5 := Tryz.isAgg5
  z5 := Tryz.sizeOf5
  v5 := Tryz.zeroValue5
  t80 := Tryz.underlying90
  a80 := Tryz.isAgg90
  z80 := Tryz.sizeOf90
  v80 := Tryz.zeroValue90
  i0 := by kernel_rfl
  i3 := by kernel_rfl
  i4 := by kernel_rfl
  i5 := by kernel_rfl
  i9 := by kernel_rfl
  i37 := by kernel_rfl
  i75 := by kernel_rfl
  i80 := by kernel_rfl
  i127 := by kernel_rfl
  i168 := by kernel_rfl
  i210 := by kernel_rfl
  m15 := by kernel_rfl }
open Go.RowKit in
theorem Tryz.strconv_syntaxError (fn s : ByteArray) (ev : Value) (w : World) (hlim : s.size ≤ 281474976710656) (hv : w.cell? ⟨3, 0, none⟩ = some ev) (hev : ev = .nilIface ∨ ∃ te pe, ev = .iface te pe) :
    Calls Tryz.prog 103 #[.string fn, .string s] w fun e w' => ∃ N, e = .returned (.pointer (some ⟨N, 0, none⟩)) ∧ w.heap.size ≤ N ∧ w'.heap[N]? = some (.cells #[.string fn, .string s, ev] 150 (0, 0)) ∧ Below w.heap.size w w' := Any.strconv_syntaxError Tryz.laysM279 fn s ev w hlim hv hev
def Tryz.laysC245_ren : Go.Shelf.Ren := ⟨fun | 245 => 85 | 279 => 103 | 280 => 104 | 281 => 105 | 282 => 106 | 316 => 115 | 171 => 27 | 205 => 116 | 243 => 53 | 246 => 78 | 283 => 90 | 284 => 91 | 285 => 92 | 286 => 93 | 129 => 109 | 317 => 108 | 318 => 110 | 319 => 111 | 320 => 112 | 337 => 117 | 338 => 118 | n => n, fun | 9 => 9 | 3 => 3 | 75 => 85 | 167 => 135 | 4 => 4 | 168 => 138 | 210 => 150 | 37 => 81 | 0 => 0 | 127 => 108 | 145 => 160 | 143 => 158 | 2 => 2 | 171 => 124 | 53 => 104 | 5 => 5 | 173 => 127 | 212 => 142 | 51 => 101 | 20 => 20 | 213 => 143 | 46 => 75 | 232 => 161 | 233 => 162 | 80 => 90 | n => n, fun | 15 => 3 | 16 => 4 | 17 => 2 | 18 => 7 | 19 => 8 | n => n⟩
theorem Tryz.laysC245 : Go.Proofs.LaysC.n245 Tryz.prog Tryz.laysC245_ren := {
  mixed := by kernel_rfl
  f129 := Tryz.func109.trans (congrArg some (by kernel_rfl))
  f171 := Tryz.func27.trans (congrArg some (by kernel_rfl))
  f205 := Tryz.func116.trans (congrArg some (by kernel_rfl))
  f243 := Tryz.func53.trans (congrArg some (by kernel_rfl))
  f245 := Tryz.func85.trans (congrArg some (by kernel_rfl))
  f246 := Tryz.func78.trans (congrArg some (by kernel_rfl))
  f279 := Tryz.func103.trans (congrArg some (by kernel_rfl))
  f280 := Tryz.func104.trans (congrArg some (by kernel_rfl))
  f281 := Tryz.func105.trans (congrArg some (by kernel_rfl))
  f282 := Tryz.func106.trans (congrArg some (by kernel_rfl))
  f283 := Tryz.func90.trans (congrArg some (by kernel_rfl))
  f284 := Tryz.func91.trans (congrArg some (by kernel_rfl))
  f285 := Tryz.func92.trans (congrArg some (by kernel_rfl))
  f286 := Tryz.func93.trans (congrArg some (by kernel_rfl))
  f316 := Tryz.func115.trans (congrArg some (by kernel_rfl))
  f317 := Tryz.func108.trans (congrArg some (by kernel_rfl))
  f318 := Tryz.func110.trans (congrArg some (by kernel_rfl))
  f319 := Tryz.func111.trans (congrArg some (by kernel_rfl))
  f320 := Tryz.func112.trans (congrArg some (by kernel_rfl))
  f337 := Tryz.func117.trans (congrArg some (by kernel_rfl))
  f338 := Tryz.func118.trans (congrArg some (by kernel_rfl))
  t0 := Tryz.underlying0
  a0 := Tryz.isAgg0
  z0 := Tryz.sizeOf0
  v0 := Tryz.zeroValue0
  t2 := Tryz.underlying2
  a2 := Tryz.isAgg2
  z2 := Tryz.sizeOf2
  v2 := Tryz.zeroValue2
  t3 := Tryz.underlying3
  a3 := Tryz.isAgg3
  z3 := Tryz.sizeOf3
  v3 := Tryz.zeroValue3
  t4 := Tryz.underlying4
  a4 := Tryz.isAgg4
  z4 := Tryz.sizeOf4
  v4 := Tryz.zeroValue4
  t5 := Tryz.underlying5
  a5 := Tryz.isAgg5
  z5 := Tryz.sizeOf5
  v5 := Tryz.zeroValue5
  t9 := Tryz.underlying9
  a9 := Tryz.isAgg9
  z9 := Tryz.sizeOf9
  v9 := Tryz.zeroValue9
  t20 := Tryz.underlying20
  a20 := Tryz.isAgg20
  z20 := Tryz.sizeOf20
  v20 := Tryz.zeroValue20
  t37 := Tryz.underlying81
  a37 := Tryz.isAgg81
  z37 := Tryz.sizeOf81
  v37 := Tryz.zeroValue81
  t46 := Tryz.underlying75
  a46 := Tryz.isAgg75
  z46 := Tryz.sizeOf75
  v46 := Tryz.zeroValue75
  t51 := Tryz.underlying101
  a51 := Tryz.isAgg101
  z51 := Tryz.sizeOf101
  v51 := Tryz.zeroValue101
  t53 := Tryz.underlying104
  a53 := Tryz.isAgg104
  z53 := Tryz.sizeOf104
  v53 := Tryz.zeroValue104
  t75 := Tryz.underlying85
  a75 := Tryz.isAgg85
  z75 := Tryz.sizeOf85
  v75 := Tryz.zeroValue85
  t127 := Tryz.underlying108
  a127 := Tryz.isAgg108
  z127 := Tryz.sizeOf108
  v127 := Tryz.zeroValue108
  t143 := Tryz.underlying158
  a143 := Tryz.isAgg158
  z143 := Tryz.sizeOf158
  v143 := Tryz.zeroValue158
  t145 := Tryz.underlying160
  a145 := Tryz.isAgg160
  z145 := Tryz.sizeOf160
  v145 := Tryz.zeroValue160
  t167 := Tryz.underlying135
  a167 := Tryz.isAgg135
  z167 := Tryz.sizeOf135
  v167 := Tryz.zeroValue135
  t168 := Tryz.underlying138
  a168 := Tryz.isAgg138
  z168 := Tryz.sizeOf138
  v168 := Tryz.zeroValue138
  t171 := Tryz.underlying124
  a171 := Tryz.isAgg124
  z171 := Tryz.sizeOf124
  v171 := Tryz.zeroValue124
  t173 := Tryz.underlying127
  a173 := Tryz.isAgg127
  z173 := Tryz.sizeOf127
  v173 := Tryz.zeroValue127
  t210 := Tryz.underlying150
  a210 := Tryz.isAgg150
  z210 := Tryz.sizeOf150
  v210 := Tryz.zeroValue150
  t212 := Tryz.underlying142
  a212 := Tryz.isAgg142
  z212 := Tryz.sizeOf142
  v212 := Tryz.zeroValue142
  t213 := Tryz.underlying143
  a213 := Tryz.isAgg143
  z213 := Tryz.sizeOf143
  t232 := Tryz.underlying161
  a232 := Tryz.isAgg161
  z232 := Tryz.sizeOf161
  v232 := Tryz.zeroValue161
  t233 := Tryz.underlying162
  a233 := Tryz.isAgg162
  z233 := Tryz.sizeOf162
  v233 := Tryz.zeroValue162
  g15 := by kernel_rfl
  g16 := by kernel_rfl
  g17 := by kernel_rfl
  g18 := by kernel_rfl
  g19 := by kernel_rfl
  t80 := Tryz.underlying90
  a80 := Tryz.isAgg90
  z80 := Tryz.sizeOf90
  v80 := Tryz.zeroValue90
  i0 := by kernel_rfl
  i2 := by kernel_rfl
  i3 := by kernel_rfl
  i4 := by kernel_rfl
  i5 := by kernel_rfl
  i9 := by kernel_rfl
  i20 := by kernel_rfl
  i37 := by kernel_rfl
  i46 := by kernel_rfl
  i51 := by kernel_rfl
  i53 := by kernel_rfl
  i75 := by kernel_rfl
  i80 := by kernel_rfl
  i127 := by kernel_rfl
  i143 := by kernel_rfl
  i145 := by kernel_rfl
  i167 := by kernel_rfl
  i168 := by kernel_rfl
  i171 := by kernel_rfl
  i173 := by kernel_rfl
  i210 := by kernel_rfl
  i212 := by kernel_rfl
  i232 := by kernel_rfl
  i233 := by kernel_rfl
  m15 := by kernel_rfl
  m16 := by kernel_rfl
  m17 := by kernel_rfl
  m18 := by kernel_rfl
  m19 := by kernel_rfl
  c0 := by kernel_rfl
  c2 := by kernel_rfl
  c3 := by kernel_rfl
  c4 := by kernel_rfl
  c5 := by kernel_rfl
  c9 := by kernel_rfl
  c20 := by kernel_rfl
  c37 := by kernel_rfl
  c46 := by kernel_rfl
  c51 := by kernel_rfl
  c53 := by kernel_rfl
  c75 := by kernel_rfl
  c80 := by kernel_rfl
  c127 := by kernel_rfl
  c143 := by kernel_rfl
  c145 := by kernel_rfl
  c167 := by kernel_rfl
  c168 := by kernel_rfl
  c171 := by kernel_rfl
  c173 := by kernel_rfl
  c210 := by kernel_rfl
  c212 := by kernel_rfl
  c213 := by kernel_rfl
  c232 := by kernel_rfl
  c233 := by kernel_rfl }
open Go.RowKit in
theorem Tryz.strconv_toError_syntax (fn s : ByteArray) (base bits : Int) (ev : Value) (w : World) (hlim : s.size ≤ 281474976710656) (hv : w.cell? ⟨3, 0, none⟩ = some ev) (hev : ev = .nilIface ∨ ∃ te pe, ev = .iface te pe) :
    Calls Tryz.prog 85 #[.string fn, .string s, .int .i64 base, .int .i64 bits, .iface 135 (.int .i64 2)] w fun e w' => ∃ N, e = .returned (.iface 138 (.pointer (some ⟨N, 0, none⟩))) ∧ w.heap.size ≤ N ∧ w'.heap[N]? = some (.cells #[.string fn, .string s, ev] 150 (0, 0)) ∧ Below w.heap.size w w' := Any.strconv_toError_syntax Tryz.laysC245 fn s base bits ev w hlim hv hev
def Tryz.lays321_ren : Go.Shelf.Ren := ⟨fun | 321 => 119 | n => n, fun | 5 => 5 | n => n, fun | n => n⟩
theorem Tryz.lays321 : Go.Proofs.Lays.n321 Tryz.prog Tryz.lays321_ren := {
  mixed := by kernel_rfl
  f321 := Tryz.func119.trans (congrArg some (by kernel_rfl))
  t5 := Tryz.underlying5
  a5 := Tryz.isAgg5
  z5 := Tryz.sizeOf5
  v5 := Tryz.zeroValue5 }
open Go.RowKit in
theorem Tryz.internal_strconv_lower (c : Int) (w : World) :
    Calls Tryz.prog 119 #[.int .u8 c] w fun e w' => e = .returned (.int .u8 (bits .or .u8 c 32)) ∧ w' = w := Any.internal_strconv_lower Tryz.lays321 c w
def Tryz.lays287_ren : Go.Shelf.Ren := ⟨fun | 287 => 114 | 321 => 119 | 322 => 120 | n => n, fun | 9 => 9 | 3 => 3 | 53 => 104 | 75 => 85 | 4 => 4 | 167 => 135 | 5 => 5 | 46 => 75 | 37 => 81 | 0 => 0 | 21 => 21 | 80 => 90 | n => n, fun | n => n⟩
theorem Tryz.lays287 : Go.Proofs.Lays.n287 Tryz.prog Tryz.lays287_ren := {
  mixed := by kernel_rfl
  f287 := Tryz.func114.trans (congrArg some (by kernel_rfl))
  f321 := Tryz.func119.trans (congrArg some (by kernel_rfl))
  f322 := Tryz.func120.trans (congrArg some (by kernel_rfl))
  t0 := Tryz.underlying0
  a0 := Tryz.isAgg0
  z0 := Tryz.sizeOf0
  v0 := Tryz.zeroValue0
  t3 := Tryz.underlying3
  a3 := Tryz.isAgg3
  z3 := Tryz.sizeOf3
  v3 := Tryz.zeroValue3
  t4 := Tryz.underlying4
  a4 := Tryz.isAgg4
  z4 := Tryz.sizeOf4
  v4 := Tryz.zeroValue4
  t5 := Tryz.underlying5
  a5 := Tryz.isAgg5
  z5 := Tryz.sizeOf5
  v5 := Tryz.zeroValue5
  t9 := Tryz.underlying9
  a9 := Tryz.isAgg9
  z9 := Tryz.sizeOf9
  v9 := Tryz.zeroValue9
  t21 := Tryz.underlying21
  a21 := Tryz.isAgg21
  z21 := Tryz.sizeOf21
  v21 := Tryz.zeroValue21
  t37 := Tryz.underlying81
  a37 := Tryz.isAgg81
  z37 := Tryz.sizeOf81
  v37 := Tryz.zeroValue81
  t46 := Tryz.underlying75
  a46 := Tryz.isAgg75
  z46 := Tryz.sizeOf75
  v46 := Tryz.zeroValue75
  t53 := Tryz.underlying104
  a53 := Tryz.isAgg104
  z53 := Tryz.sizeOf104
  v53 := Tryz.zeroValue104
  t75 := Tryz.underlying85
  a75 := Tryz.isAgg85
  z75 := Tryz.sizeOf85
  v75 := Tryz.zeroValue85
  t167 := Tryz.underlying135
  a167 := Tryz.isAgg135
  z167 := Tryz.sizeOf135
  v167 := Tryz.zeroValue135 }
open Go.RowKit in
theorem Tryz.internal_strconv_ParseUint_10 (t : ByteArray) (hne : t.size ≠ 0) (hmax : t.size ≤ 9223372036854775806) (w : World) :
    Calls Tryz.prog 114 #[.string t, .int .i64 10, .int .i64 0] w fun e w' => e = .returned (Lib.uintTuple 135 (Lib.parseUint10 0 t.data.toList)) ∧ w' = Lib.bytesWorld w 5 t := Any.internal_strconv_ParseUint_10 Tryz.lays287 t hne hmax w
open Go.RowKit in
theorem Tryz.internal_strconv_ParseUint_10_empty (w : World) :
    Calls Tryz.prog 114 #[.string ⟨#[]⟩, .int .i64 10, .int .i64 0] w fun e w' => e = .returned (Lib.uintTuple 135 .syntax) ∧ w' = w := Any.internal_strconv_ParseUint_10_empty Tryz.lays287 w
open Go.RowKit in
theorem Tryz.internal_strconv_ParseUint_10_any (t : ByteArray) (hmax : t.size ≤ 9223372036854775806) (w : World) :
    Calls Tryz.prog 114 #[.string t, .int .i64 10, .int .i64 0] w fun e w' => e = .returned (Lib.uintTuple 135 (Lib.parseMag t.data.toList)) ∧ (w' = w ∨ w' = Lib.bytesWorld w 5 t) := Any.internal_strconv_ParseUint_10_any Tryz.lays287 t hmax w
def Tryz.laysC247_ren : Go.Shelf.Ren := ⟨fun | 247 => 102 | 287 => 114 | 321 => 119 | 322 => 120 | n => n, fun | 9 => 9 | 3 => 3 | 2 => 2 | 75 => 85 | 4 => 4 | 167 => 135 | 5 => 5 | 53 => 104 | 175 => 146 | 46 => 75 | 37 => 81 | 0 => 0 | 21 => 21 | 80 => 90 | n => n, fun | n => n⟩
theorem Tryz.laysC247 : Go.Proofs.LaysC.n247 Tryz.prog Tryz.laysC247_ren := {
  mixed := by kernel_rfl
  f247 := Tryz.func102.trans (congrArg some (by kernel_rfl))
  f287 := Tryz.func114.trans (congrArg some (by kernel_rfl))
  f321 := Tryz.func119.trans (congrArg some (by kernel_rfl))
  f322 := Tryz.func120.trans (congrArg some (by kernel_rfl))
  t0 := Tryz.underlying0
  a0 := Tryz.isAgg0
  z0 := Tryz.sizeOf0
  v0 := Tryz.zeroValue0
  t2 := Tryz.underlying2
  a2 := Tryz.isAgg2
  z2 := Tryz.sizeOf2
  v2 := Tryz.zeroValue2
  t3 := Tryz.underlying3
  a3 := Tryz.isAgg3
  z3 := Tryz.sizeOf3
  v3 := Tryz.zeroValue3
  t4 := Tryz.underlying4
  a4 := Tryz.isAgg4
  z4 := Tryz.sizeOf4
  v4 := Tryz.zeroValue4
  t5 := Tryz.underlying5
  a5 := Tryz.isAgg5
  z5 := Tryz.sizeOf5
  v5 := Tryz.zeroValue5
  t9 := Tryz.underlying9
  a9 := Tryz.isAgg9
  z9 := Tryz.sizeOf9
  v9 := Tryz.zeroValue9
  t21 := Tryz.underlying21
  a21 := Tryz.isAgg21
  z21 := Tryz.sizeOf21
  v21 := Tryz.zeroValue21
  t37 := Tryz.underlying81
  a37 := Tryz.isAgg81
  z37 := Tryz.sizeOf81
  v37 := Tryz.zeroValue81
  t46 := Tryz.underlying75
  a46 := Tryz.isAgg75
  z46 := Tryz.sizeOf75
  v46 := Tryz.zeroValue75
  t53 := Tryz.underlying104
  a53 := Tryz.isAgg104
  z53 := Tryz.sizeOf104
  v53 := Tryz.zeroValue104
  t75 := Tryz.underlying85
  a75 := Tryz.isAgg85
  z75 := Tryz.sizeOf85
  v75 := Tryz.zeroValue85
  t167 := Tryz.underlying135
  a167 := Tryz.isAgg135
  z167 := Tryz.sizeOf135
  v167 := Tryz.zeroValue135
  t175 := Tryz.underlying146
  a175 := Tryz.isAgg146
  z175 := Tryz.sizeOf146
  v175 := Tryz.zeroValue146
  t80 := Tryz.underlying90
  a80 := Tryz.isAgg90
  z80 := Tryz.sizeOf90
  v80 := Tryz.zeroValue90
  i0 := by kernel_rfl
  i2 := by kernel_rfl
  i3 := by kernel_rfl
  i4 := by kernel_rfl
  i5 := by kernel_rfl
  i9 := by kernel_rfl
  i21 := by kernel_rfl
  i37 := by kernel_rfl
  i46 := by kernel_rfl
  i53 := by kernel_rfl
  i75 := by kernel_rfl
  i80 := by kernel_rfl
  i167 := by kernel_rfl
  i175 := by kernel_rfl
  c0 := by kernel_rfl
  c2 := by kernel_rfl
  c3 := by kernel_rfl
  c4 := by kernel_rfl
  c5 := by kernel_rfl
  c9 := by kernel_rfl
  c21 := by kernel_rfl
  c37 := by kernel_rfl
  c46 := by kernel_rfl
  c53 := by kernel_rfl
  c75 := by kernel_rfl
  c80 := by kernel_rfl
  c167 := by kernel_rfl
  c175 := by kernel_rfl }
open Go.RowKit in
theorem Tryz.internal_strconv_ParseInt_10 (s : ByteArray) (hne : s.size ≠ 0) (hmax : s.size ≤ 9223372036854775806) (w : World) :
    Calls Tryz.prog 102 #[.string s, .int .i64 10, .int .i64 0] w fun e w' => e = .returned (Lib.intTuple 135 (Lib.atoiSat s.data.toList) (Lib.atoiAll s.data.toList)) ∧ (w' = w ∨ ∃ t, w' = Lib.bytesWorld w 5 t) := Any.internal_strconv_ParseInt_10 Tryz.laysC247 s hne hmax w
def Tryz.laysC244_ren : Go.Shelf.Ren := ⟨fun | 244 => 84 | 247 => 102 | 287 => 114 | 321 => 119 | 322 => 120 | n => n, fun | 9 => 9 | 3 => 3 | 75 => 85 | 4 => 4 | 5 => 5 | 167 => 135 | 37 => 81 | 0 => 0 | 85 => 136 | 2 => 2 | 53 => 104 | 175 => 146 | 46 => 75 | 21 => 21 | 80 => 90 | n => n, fun | n => n⟩
theorem Tryz.laysC244 : Go.Proofs.LaysC.n244 Tryz.prog Tryz.laysC244_ren := {
  mixed := by kernel_rfl
  f244 := Tryz.func84.trans (congrArg some (by kernel_rfl))
  f247 := Tryz.func102.trans (congrArg some (by kernel_rfl))
  f287 := Tryz.func114.trans (congrArg some (by kernel_rfl))
  f321 := Tryz.func119.trans (congrArg some (by kernel_rfl))
  f322 := Tryz.func120.trans (congrArg some (by kernel_rfl))
  t0 := Tryz.underlying0
  a0 := Tryz.isAgg0
  z0 := Tryz.sizeOf0
  v0 := Tryz.zeroValue0
  t2 := Tryz.underlying2
  a2 := Tryz.isAgg2
  z2 := Tryz.sizeOf2
  v2 := Tryz.zeroValue2
  t3 := Tryz.underlying3
  a3 := Tryz.isAgg3
  z3 := Tryz.sizeOf3
  v3 := Tryz.zeroValue3
  t4 := Tryz.underlying4
  a4 := Tryz.isAgg4
  z4 := Tryz.sizeOf4
  v4 := Tryz.zeroValue4
  t5 := Tryz.underlying5
  a5 := Tryz.isAgg5
  z5 := Tryz.sizeOf5
  v5 := Tryz.zeroValue5
  t9 := Tryz.underlying9
  a9 := Tryz.isAgg9
  z9 := Tryz.sizeOf9
  v9 := Tryz.zeroValue9
  t21 := Tryz.underlying21
  a21 := Tryz.isAgg21
  z21 := Tryz.sizeOf21
  v21 := Tryz.zeroValue21
  t37 := Tryz.underlying81
  a37 := Tryz.isAgg81
  z37 := Tryz.sizeOf81
  v37 := Tryz.zeroValue81
  t46 := Tryz.underlying75
  a46 := Tryz.isAgg75
  z46 := Tryz.sizeOf75
  v46 := Tryz.zeroValue75
  t53 := Tryz.underlying104
  a53 := Tryz.isAgg104
  z53 := Tryz.sizeOf104
  v53 := Tryz.zeroValue104
  t75 := Tryz.underlying85
  a75 := Tryz.isAgg85
  z75 := Tryz.sizeOf85
  v75 := Tryz.zeroValue85
  t85 := Tryz.underlying136
  a85 := Tryz.isAgg136
  z85 := Tryz.sizeOf136
  v85 := Tryz.zeroValue136
  t167 := Tryz.underlying135
  a167 := Tryz.isAgg135
  z167 := Tryz.sizeOf135
  v167 := Tryz.zeroValue135
  t175 := Tryz.underlying146
  a175 := Tryz.isAgg146
  z175 := Tryz.sizeOf146
  v175 := Tryz.zeroValue146
  t80 := Tryz.underlying90
  a80 := Tryz.isAgg90
  z80 := Tryz.sizeOf90
  v80 := Tryz.zeroValue90
  i0 := by kernel_rfl
  i2 := by kernel_rfl
  i3 := by kernel_rfl
  i4 := by kernel_rfl
  i5 := by kernel_rfl
  i9 := by kernel_rfl
  i21 := by kernel_rfl
  i37 := by kernel_rfl
  i46 := by kernel_rfl
  i53 := by kernel_rfl
  i75 := by kernel_rfl
  i80 := by kernel_rfl
  i85 := by kernel_rfl
  i167 := by kernel_rfl
  i175 := by kernel_rfl
  c0 := by kernel_rfl
  c2 := by kernel_rfl
  c3 := by kernel_rfl
  c4 := by kernel_rfl
  c5 := by kernel_rfl
  c9 := by kernel_rfl
  c21 := by kernel_rfl
  c37 := by kernel_rfl
  c46 := by kernel_rfl
  c53 := by kernel_rfl
  c75 := by kernel_rfl
  c80 := by kernel_rfl
  c85 := by kernel_rfl
  c167 := by kernel_rfl
  c175 := by kernel_rfl }
open Go.RowKit in
theorem Tryz.internal_strconv_Atoi_long (s : ByteArray) (h19 : 19 ≤ s.size) (hmax : s.size ≤ 9223372036854775806) (w : World) :
    Calls Tryz.prog 84 #[.string s] w fun e w' => e = .returned (Lib.intTuple 135 (Lib.atoiSat s.data.toList) (Lib.atoiAll s.data.toList)) ∧ (w' = w ∨ ∃ t, w' = Lib.bytesWorld w 5 t) := Any.internal_strconv_Atoi_long Tryz.laysC244 s h19 hmax w
open Go.RowKit in
theorem Tryz.internal_strconv_Atoi_all (s : ByteArray) (hmax : s.size ≤ 9223372036854775806) (w : World) :
    Calls Tryz.prog 84 #[.string s] w fun e w' => e = .returned (Lib.intTuple 135 (Lib.atoiSat s.data.toList) (Lib.atoiAll s.data.toList)) ∧ (w' = w ∨ ∃ t, w' = Lib.bytesWorld w 5 t) := Any.internal_strconv_Atoi_all Tryz.laysC244 s hmax w
def Tryz.laysM280_ren : Go.Shelf.Ren := ⟨fun | 280 => 104 | 316 => 115 | n => n, fun | 9 => 9 | 168 => 138 | 75 => 85 | 210 => 150 | 3 => 3 | 4 => 4 | 37 => 81 | 0 => 0 | 127 => 108 | 80 => 90 | 5 => 5 | n => n, fun | 16 => 4 | n => n⟩
theorem Tryz.laysM280 : Go.Proofs.LaysM.n280 Tryz.prog Tryz.laysM280_ren := {
  mixed := by kernel_rfl
  f280 := Tryz.func104.trans (congrArg some (by kernel_rfl))
  f316 := Tryz.func115.trans (congrArg some (by kernel_rfl))
  t0 := Tryz.underlying0
  a0 := Tryz.isAgg0
  z0 := Tryz.sizeOf0
  v0 := Tryz.zeroValue0
  t3 := Tryz.underlying3
  a3 := Tryz.isAgg3
  z3 := Tryz.sizeOf3
  v3 := Tryz.zeroValue3
  t4 := Tryz.underlying4
  a4 := Tryz.isAgg4
  z4 := Tryz.sizeOf4
  v4 := Tryz.zeroValue4
  t9 := Tryz.underlying9
  a9 := Tryz.isAgg9
  z9 := Tryz.sizeOf9
  v9 := Tryz.zeroValue9
  t37 := Tryz.underlying81
  a37 := Tryz.isAgg81
  z37 := Tryz.sizeOf81
  v37 := Tryz.zeroValue81
  t75 := Tryz.underlying85
  a75 := Tryz.isAgg85
  z75 := Tryz.sizeOf85
  v75 := Tryz.zeroValue85
  t127 := Tryz.underlying108
  a127 := Tryz.isAgg108
  z127 := Tryz.sizeOf108
  v127 := Tryz.zeroValue108
  t168 := Tryz.underlying138
  a168 := Tryz.isAgg138
  z168 := Tryz.sizeOf138
  v168 := Tryz.zeroValue138
  t210 := Tryz.underlying150
  a210 := Tryz.isAgg150
  z210 := Tryz.sizeOf150
  v210 := Tryz.zeroValue150
  g16 := by kernel_rfl
  t5 := Tryz.underlying5
  a5 := Tryz.isAgg5
  z5 := Tryz.sizeOf5
  v5 := Tryz.zeroValue5
  t80 := Tryz.underlying90
  a80 := Tryz.isAgg90
  z80 := Tryz.sizeOf90
  v80 := Tryz.zeroValue90
  i0 := by kernel_rfl
  i3 := by kernel_rfl
  i4 := by kernel_rfl
  i5 := by kernel_rfl
  i9 := by kernel_rfl
  i37 := by kernel_rfl
  i75 := by kernel_rfl
  i80 := by kernel_rfl
  i127 := by kernel_rfl
  i168 := by kernel_rfl
  i210 := by kernel_rfl
  m16 := by kernel_rfl }
open Go.RowKit in
theorem Tryz.strconv_rangeError (fn s : ByteArray) (ev : Value) (w : World) (hlim : s.size ≤ 281474976710656) (hv : w.cell? ⟨4, 0, none⟩ = some ev) (hev : ev = .nilIface ∨ ∃ te pe, ev = .iface te pe) :
    Calls Tryz.prog 104 #[.string fn, .string s] w fun e w' => ∃ N, e = .returned (.pointer (some ⟨N, 0, none⟩)) ∧ w.heap.size ≤ N ∧ w'.heap[N]? = some (.cells #[.string fn, .string s, ev] 150 (0, 0)) ∧ Below w.heap.size w w' := Any.strconv_rangeError Tryz.laysM280 fn s ev w hlim hv hev
open Go.RowKit in
theorem Tryz.strconv_toError_range (fn s : ByteArray) (base bits : Int) (ev : Value) (w : World) (hlim : s.size ≤ 281474976710656) (hv : w.cell? ⟨4, 0, none⟩ = some ev) (hev : ev = .nilIface ∨ ∃ te pe, ev = .iface te pe) :
    Calls Tryz.prog 85 #[.string fn, .string s, .int .i64 base, .int .i64 bits, .iface 135 (.int .i64 1)] w fun e w' => ∃ N, e = .returned (.iface 138 (.pointer (some ⟨N, 0, none⟩))) ∧ w.heap.size ≤ N ∧ w'.heap[N]? = some (.cells #[.string fn, .string s, ev] 150 (0, 0)) ∧ Below w.heap.size w w' := Any.strconv_toError_range Tryz.laysC245 fn s base bits ev w hlim hv hev
def Tryz.laysC172_ren : Go.Shelf.Ren := ⟨fun | 172 => 69 | 244 => 84 | 245 => 85 | 247 => 102 | 279 => 103 | 280 => 104 | 281 => 105 | 282 => 106 | 287 => 114 | 316 => 115 | 171 => 27 | 205 => 116 | 321 => 119 | 322 => 120 | 243 => 53 | 246 => 78 | 283 => 90 | 284 => 91 | 285 => 92 | 286 => 93 | 129 => 109 | 317 => 108 | 318 => 110 | 319 => 111 | 320 => 112 | 337 => 117 | 338 => 118 | n => n, fun | 9 => 9 | 3 => 3 | 75 => 85 | 76 => 86 | 4 => 4 | 5 => 5 | 167 => 135 | 37 => 81 | 0 => 0 | 85 => 136 | 2 => 2 | 168 => 138 | 53 => 104 | 175 => 146 | 46 => 75 | 210 => 150 | 127 => 108 | 145 => 160 | 143 => 158 | 21 => 21 | 171 => 124 | 173 => 127 | 212 => 142 | 51 => 101 | 20 => 20 | 213 => 143 | 232 => 161 | 233 => 162 | 80 => 90 | n => n, fun | 15 => 3 | 16 => 4 | 17 => 2 | 18 => 7 | 19 => 8 | n => n⟩
theorem Tryz.laysC172 : Go.Proofs.LaysC.n172 Tryz.prog Tryz.laysC172_ren := {
  mixed := by kernel_rfl
  f129 := Tryz.func109.trans (congrArg some (by kernel_rfl))
  f171 := Tryz.func27.trans (congrArg some (by kernel_rfl))
  f172 := Tryz.func69.trans (congrArg some (by kernel_rfl))
  f205 := Tryz.func116.trans (congrArg some (by kernel_rfl))
  f243 := Tryz.func53.trans (congrArg some (by kernel_rfl))
  f244 := Tryz.func84.trans (congrArg some (by kernel_rfl))
  f245 := Tryz.func85.trans (congrArg some (by kernel_rfl))
  f246 := Tryz.func78.trans (congrArg some (by kernel_rfl))
  f247 := Tryz.func102.trans (congrArg some (by kernel_rfl))
  f279 := Tryz.func103.trans (congrArg some (by kernel_rfl))
  f280 := Tryz.func104.trans (congrArg some (by kernel_rfl))
  f281 := Tryz.func105.trans (congrArg some (by kernel_rfl))
  f282 := Tryz.func106.trans (congrArg some (by kernel_rfl))
  f283 := Tryz.func90.trans (congrArg some (by kernel_rfl))
  f284 := Tryz.func91.trans (congrArg some (by kernel_rfl))
  f285 := Tryz.func92.trans (congrArg some (by kernel_rfl))
  f286 := Tryz.func93.trans (congrArg some (by kernel_rfl))
  f287 := Tryz.func114.trans (congrArg some (by kernel_rfl))
  f316 := Tryz.func115.trans (congrArg some (by kernel_rfl))
  f317 := Tryz.func108.trans (congrArg some (by kernel_rfl))
  f318 := Tryz.func110.trans (congrArg some (by kernel_rfl))
  f319 := Tryz.func111.trans (congrArg some (by kernel_rfl))
  f320 := Tryz.func112.trans (congrArg some (by kernel_rfl))
  f321 := Tryz.func119.trans (congrArg some (by kernel_rfl))
  f322 := Tryz.func120.trans (congrArg some (by kernel_rfl))
  f337 := Tryz.func117.trans (congrArg some (by kernel_rfl))
  f338 := Tryz.func118.trans (congrArg some (by kernel_rfl))
  t0 := Tryz.underlying0
  a0 := Tryz.isAgg0
  z0 := Tryz.sizeOf0
  v0 := Tryz.zeroValue0
  t2 := Tryz.underlying2
  a2 := Tryz.isAgg2
  z2 := Tryz.sizeOf2
  v2 := Tryz.zeroValue2
  t3 := Tryz.underlying3
  a3 := Tryz.isAgg3
  z3 := Tryz.sizeOf3
  v3 := Tryz.zeroValue3
  t4 := Tryz.underlying4
  a4 := Tryz.isAgg4
  z4 := Tryz.sizeOf4
  v4 := Tryz.zeroValue4
  t5 := Tryz.underlying5
  a5 := Tryz.isAgg5
  z5 := Tryz.sizeOf5
  v5 := Tryz.zeroValue5
  t9 := Tryz.underlying9
  a9 := Tryz.isAgg9
  z9 := Tryz.sizeOf9
  v9 := Tryz.zeroValue9
  t20 := Tryz.underlying20
  a20 := Tryz.isAgg20
  z20 := Tryz.sizeOf20
  v20 := Tryz.zeroValue20
  t21 := Tryz.underlying21
  a21 := Tryz.isAgg21
  z21 := Tryz.sizeOf21
  v21 := Tryz.zeroValue21
  t37 := Tryz.underlying81
  a37 := Tryz.isAgg81
  z37 := Tryz.sizeOf81
  v37 := Tryz.zeroValue81
  t46 := Tryz.underlying75
  a46 := Tryz.isAgg75
  z46 := Tryz.sizeOf75
  v46 := Tryz.zeroValue75
  t51 := Tryz.underlying101
  a51 := Tryz.isAgg101
  z51 := Tryz.sizeOf101
  v51 := Tryz.zeroValue101
  t53 := Tryz.underlying104
  a53 := Tryz.isAgg104
  z53 := Tryz.sizeOf104
  v53 := Tryz.zeroValue104
  t75 := Tryz.underlying85
  a75 := Tryz.isAgg85
  z75 := Tryz.sizeOf85
  v75 := Tryz.zeroValue85
  t76 := Tryz.underlying86
  a76 := Tryz.isAgg86
  z76 := Tryz.sizeOf86
  v76 := Tryz.zeroValue86
  t85 := Tryz.underlying136
  a85 := Tryz.isAgg136
  z85 := Tryz.sizeOf136
  v85 := Tryz.zeroValue136
  t127 := Tryz.underlying108
  a127 := Tryz.isAgg108
  z127 := Tryz.sizeOf108
  v127 := Tryz.zeroValue108
  t143 := Tryz.underlying158
  a143 := Tryz.isAgg158
  z143 := Tryz.sizeOf158
  v143 := Tryz.zeroValue158
  t145 := Tryz.underlying160
  a145 := Tryz.isAgg160
  z145 := Tryz.sizeOf160
  v145 := Tryz.zeroValue160
  t167 := Tryz.underlying135
  a167 := Tryz.isAgg135
  z167 := Tryz.sizeOf135
  v167 := Tryz.zeroValue135
  t168 := Tryz.underlying138
  a168 := Tryz.isAgg138
  z168 := Tryz.sizeOf138
  v168 := Tryz.zeroValue138
  t171 := Tryz.underlying124
  a171 := Tryz.isAgg124
  z171 := Tryz.sizeOf124
  v171 := Tryz.zeroValue124
  t173 := Tryz.underlying127
  a173 := Tryz.isAgg127
  z173 := Tryz.sizeOf127
  v173 := Tryz.zeroValue127
  t175 := Tryz.underlying146
  a175 := Tryz.isAgg146
  z175 := Tryz.sizeOf146
  v175 := Tryz.zeroValue146
  t210 := Tryz.underlying150
  a210 := Tryz.isAgg150
  z210 := Tryz.sizeOf150
  v210 := Tryz.zeroValue150
  t212 := Tryz.underlying142
  a212 := Tryz.isAgg142
  z212 := Tryz.sizeOf142
  v212 := Tryz.zeroValue142
  t213 := Tryz.underlying143
  a213 := Tryz.isAgg143
  z213 := Tryz.sizeOf143
  t232 := Tryz.underlying161
  a232 := Tryz.isAgg161
  z232 := Tryz.sizeOf161
  v232 := Tryz.zeroValue161
  t233 := Tryz.underlying162
  a233 := Tryz.isAgg162
  z233 := Tryz.sizeOf162
  v233 := Tryz.zeroValue162
  g15 := by kernel_rfl
  g16 := by kernel_rfl
  g17 := by kernel_rfl
  g18 := by kernel_rfl
  g19 := by kernel_rfl
  t80 := Tryz.underlying90
  a80 := Tryz.isAgg90
  z80 := Tryz.sizeOf90
  v80 := Tryz.zeroValue90
  i0 := by kernel_rfl
  i2 := by kernel_rfl
  i3 := by kernel_rfl
  i4 := by kernel_rfl
  i5 := by kernel_rfl
  i9 := by kernel_rfl
  i20 := by kernel_rfl
  i21 := by kernel_rfl
  i37 := by kernel_rfl
  i46 := by kernel_rfl
  i51 := by kernel_rfl
  i53 := by kernel_rfl
  i75 := by kernel_rfl
  i76 := by kernel_rfl
  i80 := by kernel_rfl
  i85 := by kernel_rfl
  i127 := by kernel_rfl
  i143 := by kernel_rfl
  i145 := by kernel_rfl
  i167 := by kernel_rfl
  i168 := by kernel_rfl
  i171 := by kernel_rfl
  i173 := by kernel_rfl
  i175 := by kernel_rfl
  i210 := by kernel_rfl
  i212 := by kernel_rfl
  i232 := by kernel_rfl
  i233 := by kernel_rfl
  m15 := by kernel_rfl
  m16 := by kernel_rfl
  m17 := by kernel_rfl
  m18 := by kernel_rfl
  m19 := by kernel_rfl
  c0 := by kernel_rfl
  c2 := by kernel_rfl
  c3 := by kernel_rfl
  c4 := by kernel_rfl
  c5 := by kernel_rfl
  c9 := by kernel_rfl
  c20 := by kernel_rfl
  c21 := by kernel_rfl
  c37 := by kernel_rfl
  c46 := by kernel_rfl
  c51 := by kernel_rfl
  c53 := by kernel_rfl
  c75 := by kernel_rfl
  c76 := by kernel_rfl
  c80 := by kernel_rfl
  c85 := by kernel_rfl
  c127 := by kernel_rfl
  c143 := by kernel_rfl
  c145 := by kernel_rfl
  c167 := by kernel_rfl
  c168 := by kernel_rfl
  c171 := by kernel_rfl
  c173 := by kernel_rfl
  c175 := by kernel_rfl
  c210 := by kernel_rfl
  c212 := by kernel_rfl
  c213 := by kernel_rfl
  c232 := by kernel_rfl
  c233 := by kernel_rfl }
open Go.RowKit in
theorem Tryz.strconv_Atoi_ok (s : ByteArray) (hmax : s.size ≤ 9223372036854775806) (v : Int) (h : Lib.atoiAll s.data.toList = .ok v) (w : World) :
    Calls Tryz.prog 69 #[.string s] w fun e w' => e = .returned (.tuple #[.int .i64 v, .nilIface]) ∧ (w' = w ∨ ∃ t, w' = Lib.bytesWorld w 5 t) := Any.strconv_Atoi_ok Tryz.laysC172 s hmax v h w
open Go.RowKit in
theorem Tryz.strconv_Atoi_range (s : ByteArray) (hlim : s.size ≤ 281474976710656) (h : Lib.atoiAll s.data.toList = .range) (ev : Value) (w : World) (hv : w.cell? ⟨4, 0, none⟩ = some ev) (hev : ev = .nilIface ∨ ∃ te pe, ev = .iface te pe) :
    Calls Tryz.prog 69 #[.string s] w fun e w' => ∃ N, e = .returned (.tuple #[.int .i64 (Lib.atoiSat s.data.toList), .iface 138 (.pointer (some ⟨N, 0, none⟩))]) ∧ w.heap.size ≤ N ∧ w'.heap[N]? = some (.cells #[.string ⟨#[65, 116, 111, 105]⟩, .string s, ev] 150 (0, 0)) ∧ Below w.heap.size w w' := Any.strconv_Atoi_range Tryz.laysC172 s hlim h ev w hv hev
open Go.RowKit in
theorem Tryz.strconv_Atoi_range_var (s : ByteArray) (hlim : s.size ≤ 281474976710656) (h : Lib.atoiAll s.data.toList = .range) (tp : TypeId) (p : Value) (w : World) (hvar : w.var? Tryz.prog "strconv.ErrRange" = some #[.iface tp p]) :
    Calls Tryz.prog 69 #[.string s] w fun e w' => ∃ N, e = .returned (.tuple #[.int .i64 (Lib.atoiSat s.data.toList), .iface 138 (.pointer (some ⟨N, 0, none⟩))]) ∧ w.heap.size ≤ N ∧ w'.heap[N]? = some (.cells #[.string ⟨#[65, 116, 111, 105]⟩, .string s, .iface tp p] 150 (0, 0)) ∧ Below w.heap.size w w' := Any.strconv_Atoi_range_var Tryz.laysC172 s hlim h tp p w hvar
open Go.RowKit in
theorem Tryz.internal_strconv_ParseUint_empty (base bits : Int) (w : World) :
    Calls Tryz.prog 114 #[.string ⟨#[]⟩, .int .i64 base, .int .i64 bits] w fun e w' => e = .returned (.tuple #[.int .u64 0, .iface 135 (.int .i64 2)]) ∧ w' = w := Any.internal_strconv_ParseUint_empty Tryz.lays287 base bits w
open Go.RowKit in
theorem Tryz.internal_strconv_ParseUint_10_b64 (t : ByteArray) (hne : t.size ≠ 0) (hmax : t.size ≤ 9223372036854775806) (w : World) :
    Calls Tryz.prog 114 #[.string t, .int .i64 10, .int .i64 64] w fun e w' => e = .returned (Lib.uintTuple 135 (Lib.parseUint10 0 t.data.toList)) ∧ w' = Lib.bytesWorld w 5 t := Any.internal_strconv_ParseUint_10_b64 Tryz.lays287 t hne hmax w
open Go.RowKit in
theorem Tryz.internal_strconv_ParseUint_10_b32 (t : ByteArray) (hne : t.size ≠ 0) (hmax : t.size ≤ 9223372036854775806) (w : World) :
    Calls Tryz.prog 114 #[.string t, .int .i64 10, .int .i64 32] w fun e w' => e = .returned (Lib.uintTupleM 135 4294967295 (Lib.parseUintM 4294967295 0 t.data.toList)) ∧ w' = Lib.bytesWorld w 5 t := Any.internal_strconv_ParseUint_10_b32 Tryz.lays287 t hne hmax w
open Go.RowKit in
theorem Tryz.internal_strconv_ParseUint_10_b16 (t : ByteArray) (hne : t.size ≠ 0) (hmax : t.size ≤ 9223372036854775806) (w : World) :
    Calls Tryz.prog 114 #[.string t, .int .i64 10, .int .i64 16] w fun e w' => e = .returned (Lib.uintTupleM 135 65535 (Lib.parseUintM 65535 0 t.data.toList)) ∧ w' = Lib.bytesWorld w 5 t := Any.internal_strconv_ParseUint_10_b16 Tryz.lays287 t hne hmax w
open Go.RowKit in
theorem Tryz.internal_strconv_ParseUint_10_b8 (t : ByteArray) (hne : t.size ≠ 0) (hmax : t.size ≤ 9223372036854775806) (w : World) :
    Calls Tryz.prog 114 #[.string t, .int .i64 10, .int .i64 8] w fun e w' => e = .returned (Lib.uintTupleM 135 255 (Lib.parseUintM 255 0 t.data.toList)) ∧ w' = Lib.bytesWorld w 5 t := Any.internal_strconv_ParseUint_10_b8 Tryz.lays287 t hne hmax w
open Go.RowKit in
theorem Tryz.internal_strconv_ParseUint_10_at0 (t : ByteArray) (hmax : t.size ≤ 9223372036854775806) (w : World) :
    Calls Tryz.prog 114 #[.string t, .int .i64 10, .int .i64 0] w fun e w' => e = .returned (Lib.uintTupleM 135 18446744073709551615 (Lib.parseUintB 64 t.data.toList)) ∧ (w' = w ∨ w' = Lib.bytesWorld w 5 t) := Any.internal_strconv_ParseUint_10_at0 Tryz.lays287 t hmax w
open Go.RowKit in
theorem Tryz.internal_strconv_ParseUint_10_at64 (t : ByteArray) (hmax : t.size ≤ 9223372036854775806) (w : World) :
    Calls Tryz.prog 114 #[.string t, .int .i64 10, .int .i64 64] w fun e w' => e = .returned (Lib.uintTupleM 135 18446744073709551615 (Lib.parseUintB 64 t.data.toList)) ∧ (w' = w ∨ w' = Lib.bytesWorld w 5 t) := Any.internal_strconv_ParseUint_10_at64 Tryz.lays287 t hmax w
open Go.RowKit in
theorem Tryz.internal_strconv_ParseUint_10_at32 (t : ByteArray) (hmax : t.size ≤ 9223372036854775806) (w : World) :
    Calls Tryz.prog 114 #[.string t, .int .i64 10, .int .i64 32] w fun e w' => e = .returned (Lib.uintTupleM 135 4294967295 (Lib.parseUintB 32 t.data.toList)) ∧ (w' = w ∨ w' = Lib.bytesWorld w 5 t) := Any.internal_strconv_ParseUint_10_at32 Tryz.lays287 t hmax w
open Go.RowKit in
theorem Tryz.internal_strconv_ParseUint_10_at16 (t : ByteArray) (hmax : t.size ≤ 9223372036854775806) (w : World) :
    Calls Tryz.prog 114 #[.string t, .int .i64 10, .int .i64 16] w fun e w' => e = .returned (Lib.uintTupleM 135 65535 (Lib.parseUintB 16 t.data.toList)) ∧ (w' = w ∨ w' = Lib.bytesWorld w 5 t) := Any.internal_strconv_ParseUint_10_at16 Tryz.lays287 t hmax w
open Go.RowKit in
theorem Tryz.internal_strconv_ParseUint_10_at8 (t : ByteArray) (hmax : t.size ≤ 9223372036854775806) (w : World) :
    Calls Tryz.prog 114 #[.string t, .int .i64 10, .int .i64 8] w fun e w' => e = .returned (Lib.uintTupleM 135 255 (Lib.parseUintB 8 t.data.toList)) ∧ (w' = w ∨ w' = Lib.bytesWorld w 5 t) := Any.internal_strconv_ParseUint_10_at8 Tryz.lays287 t hmax w
open Go.RowKit in
theorem Tryz.internal_strconv_ParseInt_10_at64 (s : ByteArray) (hne : s.size ≠ 0) (hmax : s.size ≤ 9223372036854775806) (w : World) :
    Calls Tryz.prog 102 #[.string s, .int .i64 10, .int .i64 64] w fun e w' => e = .returned (Lib.intTuple 135 (Lib.intSat 64 s.data.toList) (Lib.parseIntB 64 s.data.toList)) ∧ (w' = w ∨ ∃ t, w' = Lib.bytesWorld w 5 t) := Any.internal_strconv_ParseInt_10_at64 Tryz.laysC247 s hne hmax w
open Go.RowKit in
theorem Tryz.internal_strconv_ParseInt_10_at32 (s : ByteArray) (hne : s.size ≠ 0) (hmax : s.size ≤ 9223372036854775806) (w : World) :
    Calls Tryz.prog 102 #[.string s, .int .i64 10, .int .i64 32] w fun e w' => e = .returned (Lib.intTuple 135 (Lib.intSat 32 s.data.toList) (Lib.parseIntB 32 s.data.toList)) ∧ (w' = w ∨ ∃ t, w' = Lib.bytesWorld w 5 t) := Any.internal_strconv_ParseInt_10_at32 Tryz.laysC247 s hne hmax w
open Go.RowKit in
theorem Tryz.internal_strconv_ParseInt_10_at16 (s : ByteArray) (hne : s.size ≠ 0) (hmax : s.size ≤ 9223372036854775806) (w : World) :
    Calls Tryz.prog 102 #[.string s, .int .i64 10, .int .i64 16] w fun e w' => e = .returned (Lib.intTuple 135 (Lib.intSat 16 s.data.toList) (Lib.parseIntB 16 s.data.toList)) ∧ (w' = w ∨ ∃ t, w' = Lib.bytesWorld w 5 t) := Any.internal_strconv_ParseInt_10_at16 Tryz.laysC247 s hne hmax w
open Go.RowKit in
theorem Tryz.internal_strconv_ParseInt_10_at8 (s : ByteArray) (hne : s.size ≠ 0) (hmax : s.size ≤ 9223372036854775806) (w : World) :
    Calls Tryz.prog 102 #[.string s, .int .i64 10, .int .i64 8] w fun e w' => e = .returned (Lib.intTuple 135 (Lib.intSat 8 s.data.toList) (Lib.parseIntB 8 s.data.toList)) ∧ (w' = w ∨ ∃ t, w' = Lib.bytesWorld w 5 t) := Any.internal_strconv_ParseInt_10_at8 Tryz.laysC247 s hne hmax w
open Go.RowKit in
theorem Tryz.internal_strconv_ParseInt_10_all0 (s : ByteArray) (hmax : s.size ≤ 9223372036854775806) (w : World) :
    Calls Tryz.prog 102 #[.string s, .int .i64 10, .int .i64 0] w fun e w' => e = .returned (Lib.intTuple 135 (Lib.intSat 64 s.data.toList) (Lib.parseIntB 64 s.data.toList)) ∧ (w' = w ∨ ∃ t, w' = Lib.bytesWorld w 5 t) := Any.internal_strconv_ParseInt_10_all0 Tryz.laysC247 s hmax w
open Go.RowKit in
theorem Tryz.internal_strconv_ParseInt_10_all64 (s : ByteArray) (hmax : s.size ≤ 9223372036854775806) (w : World) :
    Calls Tryz.prog 102 #[.string s, .int .i64 10, .int .i64 64] w fun e w' => e = .returned (Lib.intTuple 135 (Lib.intSat 64 s.data.toList) (Lib.parseIntB 64 s.data.toList)) ∧ (w' = w ∨ ∃ t, w' = Lib.bytesWorld w 5 t) := Any.internal_strconv_ParseInt_10_all64 Tryz.laysC247 s hmax w
open Go.RowKit in
theorem Tryz.internal_strconv_ParseInt_10_all32 (s : ByteArray) (hmax : s.size ≤ 9223372036854775806) (w : World) :
    Calls Tryz.prog 102 #[.string s, .int .i64 10, .int .i64 32] w fun e w' => e = .returned (Lib.intTuple 135 (Lib.intSat 32 s.data.toList) (Lib.parseIntB 32 s.data.toList)) ∧ (w' = w ∨ ∃ t, w' = Lib.bytesWorld w 5 t) := Any.internal_strconv_ParseInt_10_all32 Tryz.laysC247 s hmax w
open Go.RowKit in
theorem Tryz.internal_strconv_ParseInt_10_all16 (s : ByteArray) (hmax : s.size ≤ 9223372036854775806) (w : World) :
    Calls Tryz.prog 102 #[.string s, .int .i64 10, .int .i64 16] w fun e w' => e = .returned (Lib.intTuple 135 (Lib.intSat 16 s.data.toList) (Lib.parseIntB 16 s.data.toList)) ∧ (w' = w ∨ ∃ t, w' = Lib.bytesWorld w 5 t) := Any.internal_strconv_ParseInt_10_all16 Tryz.laysC247 s hmax w
open Go.RowKit in
theorem Tryz.internal_strconv_ParseInt_10_all8 (s : ByteArray) (hmax : s.size ≤ 9223372036854775806) (w : World) :
    Calls Tryz.prog 102 #[.string s, .int .i64 10, .int .i64 8] w fun e w' => e = .returned (Lib.intTuple 135 (Lib.intSat 8 s.data.toList) (Lib.parseIntB 8 s.data.toList)) ∧ (w' = w ∨ ∃ t, w' = Lib.bytesWorld w 5 t) := Any.internal_strconv_ParseInt_10_all8 Tryz.laysC247 s hmax w
def Tryz.lays217_ren : Go.Shelf.Ren := ⟨fun | 217 => 83 | 266 => 101 | n => n, fun | 9 => 9 | 5 => 5 | 3 => 3 | n => n, fun | n => n⟩
theorem Tryz.lays217 : Go.Proofs.Lays.n217 Tryz.prog Tryz.lays217_ren := {
  mixed := by kernel_rfl
  f217 := Tryz.func83.trans (congrArg some (by kernel_rfl))
  f266 := Tryz.func101.trans (congrArg some (by kernel_rfl))
  t3 := Tryz.underlying3
  a3 := Tryz.isAgg3
  z3 := Tryz.sizeOf3
  v3 := Tryz.zeroValue3
  t5 := Tryz.underlying5
  a5 := Tryz.isAgg5
  z5 := Tryz.sizeOf5
  v5 := Tryz.zeroValue5
  t9 := Tryz.underlying9
  a9 := Tryz.isAgg9
  z9 := Tryz.sizeOf9
  v9 := Tryz.zeroValue9 }
open Go.RowKit Go.Lib in
theorem Tryz.stringslite_IndexByte (s : ByteArray) (c : Int) (w : World) :
    Calls Tryz.prog 83 #[.string s, .int .u8 c] w fun e w' => e = .returned (.int .i64 (Lib.indexByte s.data.toList c.toNat.toUInt8)) ∧ w' = w := Any.stringslite_IndexByte Tryz.lays217 s c w
def Tryz.lays224_ren : Go.Shelf.Ren := ⟨fun | 224 => 99 | n => n, fun | 3 => 3 | n => n, fun | n => n⟩
theorem Tryz.lays224 : Go.Proofs.Lays.n224 Tryz.prog Tryz.lays224_ren := {
  mixed := by kernel_rfl
  f224 := Tryz.func99.trans (congrArg some (by kernel_rfl))
  t3 := Tryz.underlying3
  a3 := Tryz.isAgg3
  z3 := Tryz.sizeOf3
  v3 := Tryz.zeroValue3 }
open Go.RowKit Go.Lib in
theorem Tryz.bytealg_Cutover (n : Int) (h0 : 0 ≤ n) (h1 : n < 4611686018427387904) (w : World) :
    Calls Tryz.prog 99 #[.int .i64 n] w fun e w' => e = .returned (.int .i64 ((n + 16) / 8)) ∧ w' = w := Any.bytealg_Cutover Tryz.lays224 n h0 h1 w
def Tryz.lays314_ren : Go.Shelf.Ren := ⟨fun | 314 => 113 | n => n, fun | 9 => 9 | 51 => 101 | 3 => 3 | 4 => 4 | 5 => 5 | 46 => 75 | n => n, fun | n => n⟩
theorem Tryz.lays314 : Go.Proofs.Lays.n314 Tryz.prog Tryz.lays314_ren := {
  mixed := by kernel_rfl
  f314 := Tryz.func113.trans (congrArg some (by kernel_rfl))
  t3 := Tryz.underlying3
  a3 := Tryz.isAgg3
  z3 := Tryz.sizeOf3
  v3 := Tryz.zeroValue3
  t4 := Tryz.underlying4
  a4 := Tryz.isAgg4
  z4 := Tryz.sizeOf4
  v4 := Tryz.zeroValue4
  t5 := Tryz.underlying5
  a5 := Tryz.isAgg5
  z5 := Tryz.sizeOf5
  v5 := Tryz.zeroValue5
  t9 := Tryz.underlying9
  a9 := Tryz.isAgg9
  z9 := Tryz.sizeOf9
  v9 := Tryz.zeroValue9
  t46 := Tryz.underlying75
  a46 := Tryz.isAgg75
  z46 := Tryz.sizeOf75
  v46 := Tryz.zeroValue75
  t51 := Tryz.underlying101
  a51 := Tryz.isAgg101
  z51 := Tryz.sizeOf101
  v51 := Tryz.zeroValue101 }
open Go.RowKit Go.Lib in
theorem Tryz.bytealg_hashStr (sep : ByteArray) (hs : sep.size < 4294967281) (w : World) :
    Calls Tryz.prog 113 #[.string sep] w fun e w' => e = .returned (.tuple #[.int .u32 (RK.H sep.data.toList % 4294967296), .int .u32 (16777619 ^ sep.size % 4294967296)]) ∧ w' = w := Any.bytealg_hashStr Tryz.lays314 sep hs w
def Tryz.lays267_ren : Go.Shelf.Ren := ⟨fun | 267 => 100 | 314 => 113 | n => n, fun | 9 => 9 | 3 => 3 | 146 => 102 | 51 => 101 | 4 => 4 | 5 => 5 | 46 => 75 | n => n, fun | n => n⟩
theorem Tryz.lays267 : Go.Proofs.Lays.n267 Tryz.prog Tryz.lays267_ren := {
  mixed := by kernel_rfl
  f267 := Tryz.func100.trans (congrArg some (by kernel_rfl))
  f314 := Tryz.func113.trans (congrArg some (by kernel_rfl))
  t3 := Tryz.underlying3
  a3 := Tryz.isAgg3
  z3 := Tryz.sizeOf3
  v3 := Tryz.zeroValue3
  t4 := Tryz.underlying4
  a4 := Tryz.isAgg4
  z4 := Tryz.sizeOf4
  v4 := Tryz.zeroValue4
  t5 := Tryz.underlying5
  a5 := Tryz.isAgg5
  z5 := Tryz.sizeOf5
  v5 := Tryz.zeroValue5
  t9 := Tryz.underlying9
  a9 := Tryz.isAgg9
  z9 := Tryz.sizeOf9
  v9 := Tryz.zeroValue9
  t46 := Tryz.underlying75
  a46 := Tryz.isAgg75
  z46 := Tryz.sizeOf75
  v46 := Tryz.zeroValue75
  t51 := Tryz.underlying101
  a51 := Tryz.isAgg101
  z51 := Tryz.sizeOf101
  v51 := Tryz.zeroValue101
  t146 := Tryz.underlying102
  a146 := Tryz.isAgg102
  z146 := Tryz.sizeOf102
  v146 := Tryz.zeroValue102 }
open Go.RowKit Go.Lib in
theorem Tryz.bytealg_IndexRabinKarp (s sep : ByteArray) (h1 : 1 ≤ sep.size) (h2 : sep.size ≤ s.size) (hs : s.size < 4294967281) (w : World) :
    Calls Tryz.prog 100 #[.string s, .string sep] w fun e w' => e = .returned (.int .i64 (Lib.index s.data.toList sep.data.toList)) ∧ w' = w := Any.bytealg_IndexRabinKarp Tryz.lays267 s sep h1 h2 hs w
def Tryz.lays219_ren : Go.Shelf.Ren := ⟨fun | 219 => 82 | 217 => 83 | 225 => 98 | 224 => 99 | 267 => 100 | 266 => 101 | 314 => 113 | n => n, fun | 9 => 9 | 3 => 3 | 4 => 4 | 5 => 5 | 46 => 75 | 146 => 102 | 51 => 101 | n => n, fun | 1 => 1 | n => n⟩
theorem Tryz.lays219 : Go.Proofs.Lays.n219 Tryz.prog Tryz.lays219_ren := {
  mixed := by kernel_rfl
  f217 := Tryz.func83.trans (congrArg some (by kernel_rfl))
  f219 := Tryz.func82.trans (congrArg some (by kernel_rfl))
  f224 := Tryz.func99.trans (congrArg some (by kernel_rfl))
  f225 := Tryz.func98.trans (congrArg some (by kernel_rfl))
  f266 := Tryz.func101.trans (congrArg some (by kernel_rfl))
  f267 := Tryz.func100.trans (congrArg some (by kernel_rfl))
  f314 := Tryz.func113.trans (congrArg some (by kernel_rfl))
  t3 := Tryz.underlying3
  a3 := Tryz.isAgg3
  z3 := Tryz.sizeOf3
  v3 := Tryz.zeroValue3
  t4 := Tryz.underlying4
  a4 := Tryz.isAgg4
  z4 := Tryz.sizeOf4
  v4 := Tryz.zeroValue4
  t5 := Tryz.underlying5
  a5 := Tryz.isAgg5
  z5 := Tryz.sizeOf5
  v5 := Tryz.zeroValue5
  t9 := Tryz.underlying9
  a9 := Tryz.isAgg9
  z9 := Tryz.sizeOf9
  v9 := Tryz.zeroValue9
  t46 := Tryz.underlying75
  a46 := Tryz.isAgg75
  z46 := Tryz.sizeOf75
  v46 := Tryz.zeroValue75
  t51 := Tryz.underlying101
  a51 := Tryz.isAgg101
  z51 := Tryz.sizeOf101
  v51 := Tryz.zeroValue101
  t146 := Tryz.underlying102
  a146 := Tryz.isAgg102
  z146 := Tryz.sizeOf102
  v146 := Tryz.zeroValue102
  g1 := by kernel_rfl }
open Go.RowKit Go.Lib in
theorem Tryz.stringslite_Index_one (s : ByteArray) (c : UInt8) (w : World) :
    Calls Tryz.prog 82 #[.string s, .string ⟨#[c]⟩] w fun e w' => e = .returned (.int .i64 (Lib.indexByte s.data.toList c)) ∧ w' = w := Any.stringslite_Index_one Tryz.lays219 s c w
open Go.RowKit Go.Lib in
theorem Tryz.stringslite_Index (s sub : ByteArray) (m : Int) (w : World) (hs : s.size < 4294967281) (hm : w.cell? ⟨1, 0, none⟩ = some (.int .i64 m)) :
    Calls Tryz.prog 82 #[.string s, .string sub] w fun e w' => e = .returned (.int .i64 (Lib.index s.data.toList sub.data.toList)) ∧ w' = w := Any.stringslite_Index Tryz.lays219 s sub m w hs hm
def Tryz.lays143_ren : Go.Shelf.Ren := ⟨fun | 143 => 68 | 219 => 82 | 217 => 83 | 225 => 98 | 224 => 99 | 267 => 100 | 266 => 101 | 314 => 113 | n => n, fun | 9 => 9 | 3 => 3 | 4 => 4 | 5 => 5 | 46 => 75 | 146 => 102 | 51 => 101 | n => n, fun | 1 => 1 | n => n⟩
theorem Tryz.lays143 : Go.Proofs.Lays.n143 Tryz.prog Tryz.lays143_ren := {
  mixed := by kernel_rfl
  f143 := Tryz.func68.trans (congrArg some (by kernel_rfl))
  f217 := Tryz.func83.trans (congrArg some (by kernel_rfl))
  f219 := Tryz.func82.trans (congrArg some (by kernel_rfl))
  f224 := Tryz.func99.trans (congrArg some (by kernel_rfl))
  f225 := Tryz.func98.trans (congrArg some (by kernel_rfl))
  f266 := Tryz.func101.trans (congrArg some (by kernel_rfl))
  f267 := Tryz.func100.trans (congrArg some (by kernel_rfl))
  f314 := Tryz.func113.trans (congrArg some (by kernel_rfl))
  t3 := Tryz.underlying3
  a3 := Tryz.isAgg3
  z3 := Tryz.sizeOf3
  v3 := Tryz.zeroValue3
  t4 := Tryz.underlying4
  a4 := Tryz.isAgg4
  z4 := Tryz.sizeOf4
  v4 := Tryz.zeroValue4
  t5 := Tryz.underlying5
  a5 := Tryz.isAgg5
  z5 := Tryz.sizeOf5
  v5 := Tryz.zeroValue5
  t9 := Tryz.underlying9
  a9 := Tryz.isAgg9
  z9 := Tryz.sizeOf9
  v9 := Tryz.zeroValue9
  t46 := Tryz.underlying75
  a46 := Tryz.isAgg75
  z46 := Tryz.sizeOf75
  v46 := Tryz.zeroValue75
  t51 := Tryz.underlying101
  a51 := Tryz.isAgg101
  z51 := Tryz.sizeOf101
  v51 := Tryz.zeroValue101
  t146 := Tryz.underlying102
  a146 := Tryz.isAgg102
  z146 := Tryz.sizeOf102
  v146 := Tryz.zeroValue102
  g1 := by kernel_rfl }
open Go.RowKit Go.Lib in
theorem Tryz.strings_Index_one (s : ByteArray) (c : UInt8) (w : World) :
    Calls Tryz.prog 68 #[.string s, .string ⟨#[c]⟩] w fun e w' => e = .returned (.int .i64 (Lib.indexByte s.data.toList c)) ∧ w' = w := Any.strings_Index_one Tryz.lays143 s c w
open Go.RowKit Go.Lib in
theorem Tryz.strings_Index (s sub : ByteArray) (m : Int) (w : World) (hs : s.size < 4294967281) (hm : w.cell? ⟨1, 0, none⟩ = some (.int .i64 m)) :
    Calls Tryz.prog 68 #[.string s, .string sub] w fun e w' => e = .returned (.int .i64 (Lib.index s.data.toList sub.data.toList)) ∧ w' = w := Any.strings_Index Tryz.lays143 s sub m w hs hm
def Tryz.lays220_ren : Go.Shelf.Ren := ⟨fun | 220 => 64 | 219 => 82 | 217 => 83 | 225 => 98 | 224 => 99 | 267 => 100 | 266 => 101 | 314 => 113 | n => n, fun | 9 => 9 | 4 => 4 | 3 => 3 | 5 => 5 | 46 => 75 | 146 => 102 | 51 => 101 | n => n, fun | 1 => 1 | n => n⟩
theorem Tryz.lays220 : Go.Proofs.Lays.n220 Tryz.prog Tryz.lays220_ren := {
  mixed := by kernel_rfl
  f217 := Tryz.func83.trans (congrArg some (by kernel_rfl))
  f219 := Tryz.func82.trans (congrArg some (by kernel_rfl))
  f220 := Tryz.func64.trans (congrArg some (by kernel_rfl))
  f224 := Tryz.func99.trans (congrArg some (by kernel_rfl))
  f225 := Tryz.func98.trans (congrArg some (by kernel_rfl))
  f266 := Tryz.func101.trans (congrArg some (by kernel_rfl))
  f267 := Tryz.func100.trans (congrArg some (by kernel_rfl))
  f314 := Tryz.func113.trans (congrArg some (by kernel_rfl))
  t3 := Tryz.underlying3
  a3 := Tryz.isAgg3
  z3 := Tryz.sizeOf3
  v3 := Tryz.zeroValue3
  t4 := Tryz.underlying4
  a4 := Tryz.isAgg4
  z4 := Tryz.sizeOf4
  v4 := Tryz.zeroValue4
  t5 := Tryz.underlying5
  a5 := Tryz.isAgg5
  z5 := Tryz.sizeOf5
  v5 := Tryz.zeroValue5
  t9 := Tryz.underlying9
  a9 := Tryz.isAgg9
  z9 := Tryz.sizeOf9
  v9 := Tryz.zeroValue9
  t46 := Tryz.underlying75
  a46 := Tryz.isAgg75
  z46 := Tryz.sizeOf75
  v46 := Tryz.zeroValue75
  t51 := Tryz.underlying101
  a51 := Tryz.isAgg101
  z51 := Tryz.sizeOf101
  v51 := Tryz.zeroValue101
  t146 := Tryz.underlying102
  a146 := Tryz.isAgg102
  z146 := Tryz.sizeOf102
  v146 := Tryz.zeroValue102
  g1 := by kernel_rfl }
open Go.RowKit Go.Lib in
theorem Tryz.stringslite_Cut (s sep : ByteArray) (m : Int) (w : World) (hs : s.size < 4294967281) (hm : w.cell? ⟨1, 0, none⟩ = some (.int .i64 m)) :
    Calls Tryz.prog 64 #[.string s, .string sep] w fun e w' => e = .returned (.tuple #[.string ⟨(Lib.cut s.data.toList sep.data.toList).1.toArray⟩, .string ⟨(Lib.cut s.data.toList sep.data.toList).2.1.toArray⟩, .bool (Lib.cut s.data.toList sep.data.toList).2.2]) ∧ ∃ n, w' = w.drewN n := Any.stringslite_Cut Tryz.lays220 s sep m w hs hm
def Tryz.lays145_ren : Go.Shelf.Ren := ⟨fun | 145 => 34 | 220 => 64 | 219 => 82 | 217 => 83 | 225 => 98 | 224 => 99 | 267 => 100 | 266 => 101 | 314 => 113 | n => n, fun | 9 => 9 | 4 => 4 | 59 => 58 | 3 => 3 | 5 => 5 | 46 => 75 | 146 => 102 | 51 => 101 | n => n, fun | 1 => 1 | n => n⟩
theorem Tryz.lays145 : Go.Proofs.Lays.n145 Tryz.prog Tryz.lays145_ren := {
  mixed := by kernel_rfl
  f145 := Tryz.func34.trans (congrArg some (by kernel_rfl))
  f217 := Tryz.func83.trans (congrArg some (by kernel_rfl))
  f219 := Tryz.func82.trans (congrArg some (by kernel_rfl))
  f220 := Tryz.func64.trans (congrArg some (by kernel_rfl))
  f224 := Tryz.func99.trans (congrArg some (by kernel_rfl))
  f225 := Tryz.func98.trans (congrArg some (by kernel_rfl))
  f266 := Tryz.func101.trans (congrArg some (by kernel_rfl))
  f267 := Tryz.func100.trans (congrArg some (by kernel_rfl))
  f314 := Tryz.func113.trans (congrArg some (by kernel_rfl))
  t3 := Tryz.underlying3
  a3 := Tryz.isAgg3
  z3 := Tryz.sizeOf3
  v3 := Tryz.zeroValue3
  t4 := Tryz.underlying4
  a4 := Tryz.isAgg4
  z4 := Tryz.sizeOf4
  v4 := Tryz.zeroValue4
  t5 := Tryz.underlying5
  a5 := Tryz.isAgg5
  z5 := Tryz.sizeOf5
  v5 := Tryz.zeroValue5
  t9 := Tryz.underlying9
  a9 := Tryz.isAgg9
  z9 := Tryz.sizeOf9
  v9 := Tryz.zeroValue9
  t46 := Tryz.underlying75
  a46 := Tryz.isAgg75
  z46 := Tryz.sizeOf75
  v46 := Tryz.zeroValue75
  t51 := Tryz.underlying101
  a51 := Tryz.isAgg101
  z51 := Tryz.sizeOf101
  v51 := Tryz.zeroValue101
  t59 := Tryz.underlying58
  a59 := Tryz.isAgg58
  z59 := Tryz.sizeOf58
  v59 := Tryz.zeroValue58
  t146 := Tryz.underlying102
  a146 := Tryz.isAgg102
  z146 := Tryz.sizeOf102
  v146 := Tryz.zeroValue102
  g1 := by kernel_rfl }
open Go.RowKit Go.Lib in
theorem Tryz.strings_Cut (s sep : ByteArray) (m : Int) (w : World) (hs : s.size < 4294967281) (hm : w.cell? ⟨1, 0, none⟩ = some (.int .i64 m)) :
    Calls Tryz.prog 34 #[.string s, .string sep] w fun e w' => e = .returned (.tuple #[.string ⟨(Lib.cut s.data.toList sep.data.toList).1.toArray⟩, .string ⟨(Lib.cut s.data.toList sep.data.toList).2.1.toArray⟩, .bool (Lib.cut s.data.toList sep.data.toList).2.2]) ∧ ∃ n, w' = w.drewN n := Any.strings_Cut Tryz.lays145 s sep m w hs hm
def Tryz.laysM219_ren : Go.Shelf.Ren := ⟨fun | 219 => 82 | 217 => 83 | 225 => 98 | 224 => 99 | 267 => 100 | 266 => 101 | 314 => 113 | n => n, fun | 9 => 9 | 3 => 3 | 4 => 4 | 5 => 5 | 46 => 75 | 146 => 102 | 51 => 101 | n => n, fun | 1 => 1 | n => n⟩
theorem Tryz.laysM219 : Go.Proofs.LaysM.n219 Tryz.prog Tryz.laysM219_ren := {
  mixed := by kernel_rfl
  f217 := Tryz.func83.trans (congrArg some (by kernel_rfl))
  f219 := Tryz.func82.trans (congrArg some (by kernel_rfl))
  f224 := Tryz.func99.trans (congrArg some (by kernel_rfl))
  f225 := Tryz.func98.trans (congrArg some (by kernel_rfl))
  f266 := Tryz.func101.trans (congrArg some (by kernel_rfl))
  f267 := Tryz.func100.trans (congrArg some (by kernel_rfl))
  f314 := Tryz.func113.trans (congrArg some (by kernel_rfl))
  t3 := Tryz.underlying3
  a3 := Tryz.isAgg3
  z3 := Tryz.sizeOf3
  v3 := Tryz.zeroValue3
  t4 := Tryz.underlying4
  a4 := Tryz.isAgg4
  z4 := Tryz.sizeOf4
  v4 := Tryz.zeroValue4
  t5 := Tryz.underlying5
  a5 := Tryz.isAgg5
  z5 := Tryz.sizeOf5
  v5 := Tryz.zeroValue5
  t9 := Tryz.underlying9
  a9 := Tryz.isAgg9
  z9 := Tryz.sizeOf9
  v9 := Tryz.zeroValue9
  t46 := Tryz.underlying75
  a46 := Tryz.isAgg75
  z46 := Tryz.sizeOf75
  v46 := Tryz.zeroValue75
  t51 := Tryz.underlying101
  a51 := Tryz.isAgg101
  z51 := Tryz.sizeOf101
  v51 := Tryz.zeroValue101
  t146 := Tryz.underlying102
  a146 := Tryz.isAgg102
  z146 := Tryz.sizeOf102
  v146 := Tryz.zeroValue102
  g1 := by kernel_rfl
  i3 := by kernel_rfl
  i4 := by kernel_rfl
  i5 := by kernel_rfl
  i9 := by kernel_rfl
  i46 := by kernel_rfl
  i51 := by kernel_rfl
  i146 := by kernel_rfl
  m1 := by kernel_rfl
  s1_3 := fun w h => Go.Proofs.cell_of_shapedOpen_int (zero := #[.int .i64 0]) (t := 3) h (of_decide_eq_true (by kernel_rfl)) (by kernel_rfl) rfl (by kernel_rfl) (by kernel_rfl) Tryz.underlying3 }
open Go.RowKit Go.Lib in
theorem Tryz.stringslite_Index_shaped (s sub : ByteArray) (w : World) (h : w.ShapedOpen Tryz.prog) (hs : s.size < 4294967281) :
    Calls Tryz.prog 82 #[.string s, .string sub] w fun e w' => e = .returned (.int .i64 (Lib.index s.data.toList sub.data.toList)) ∧ w' = w := Any.stringslite_Index_shaped Tryz.laysM219 s sub w h hs
def Tryz.laysM143_ren : Go.Shelf.Ren := ⟨fun | 143 => 68 | 219 => 82 | 217 => 83 | 225 => 98 | 224 => 99 | 267 => 100 | 266 => 101 | 314 => 113 | n => n, fun | 9 => 9 | 3 => 3 | 4 => 4 | 5 => 5 | 46 => 75 | 146 => 102 | 51 => 101 | n => n, fun | 1 => 1 | n => n⟩
theorem Tryz.laysM143 : Go.Proofs.LaysM.n143 Tryz.prog Tryz.laysM143_ren := {
  mixed := by kernel_rfl
  f143 := Tryz.func68.trans (congrArg some (by kernel_rfl))
  f217 := Tryz.func83.trans (congrArg some (by kernel_rfl))
  f219 := Tryz.func82.trans (congrArg some (by kernel_rfl))
  f224 := Tryz.func99.trans (congrArg some (by kernel_rfl))
  f225 := Tryz.func98.trans (congrArg some (by kernel_rfl))
  f266 := Tryz.func101.trans (congrArg some (by kernel_rfl))
  f267 := Tryz.func100.trans (congrArg some (by kernel_rfl))
  f314 := Tryz.func113.trans (congrArg some (by kernel_rfl))
  t3 := Tryz.underlying3
  a3 := Tryz.isAgg3
  z3 := Tryz.sizeOf3
  v3 := Tryz.zeroValue3
  t4 := Tryz.underlying4
  a4 := Tryz.isAgg4
  z4 := Tryz.sizeOf4
  v4 := Tryz.zeroValue4
  t5 := Tryz.underlying5
  a5 := Tryz.isAgg5
  z5 := Tryz.sizeOf5
  v5 := Tryz.zeroValue5
  t9 := Tryz.underlying9
  a9 := Tryz.isAgg9
  z9 := Tryz.sizeOf9
  v9 := Tryz.zeroValue9
  t46 := Tryz.underlying75
  a46 := Tryz.isAgg75
  z46 := Tryz.sizeOf75
  v46 := Tryz.zeroValue75
  t51 := Tryz.underlying101
  a51 := Tryz.isAgg101
  z51 := Tryz.sizeOf101
  v51 := Tryz.zeroValue101
  t146 := Tryz.underlying102
  a146 := Tryz.isAgg102
  z146 := Tryz.sizeOf102
  v146 := Tryz.zeroValue102
  g1 := by kernel_rfl
  i3 := by kernel_rfl
  i4 := by kernel_rfl
  i5 := by kernel_rfl
  i9 := by kernel_rfl
  i46 := by kernel_rfl
  i51 := by kernel_rfl
  i146 := by kernel_rfl
  m1 := by kernel_rfl
  s1_3 := fun w h => Go.Proofs.cell_of_shapedOpen_int (zero := #[.int .i64 0]) (t := 3) h (of_decide_eq_true (by kernel_rfl)) (by kernel_rfl) rfl (by kernel_rfl) (by kernel_rfl) Tryz.underlying3 }
open Go.RowKit Go.Lib in
theorem Tryz.strings_Index_shaped (s sub : ByteArray) (w : World) (h : w.ShapedOpen Tryz.prog) (hs : s.size < 4294967281) :
    Calls Tryz.prog 68 #[.string s, .string sub] w fun e w' => e = .returned (.int .i64 (Lib.index s.data.toList sub.data.toList)) ∧ w' = w := Any.strings_Index_shaped Tryz.laysM143 s sub w h hs
def Tryz.laysM220_ren : Go.Shelf.Ren := ⟨fun | 220 => 64 | 219 => 82 | 217 => 83 | 225 => 98 | 224 => 99 | 267 => 100 | 266 => 101 | 314 => 113 | n => n, fun | 9 => 9 | 4 => 4 | 3 => 3 | 5 => 5 | 46 => 75 | 146 => 102 | 51 => 101 | n => n, fun | 1 => 1 | n => n⟩
theorem Tryz.laysM220 : Go.Proofs.LaysM.n220 Tryz.prog Tryz.laysM220_ren := {
  mixed := by kernel_rfl
  f217 := Tryz.func83.trans (congrArg some (by kernel_rfl))
  f219 := Tryz.func82.trans (congrArg some (by kernel_rfl))
  f220 := Tryz.func64.trans (congrArg some (by kernel_rfl))
  f224 := Tryz.func99.trans (congrArg some (by kernel_rfl))
  f225 := Tryz.func98.trans (congrArg some (by kernel_rfl))
  f266 := Tryz.func101.trans (congrArg some (by kernel_rfl))
  f267 := Tryz.func100.trans (congrArg some (by kernel_rfl))
  f314 := Tryz.func113.trans (congrArg some (by kernel_rfl))
  t3 := Tryz.underlying3
  a3 := Tryz.isAgg3
  z3 := Tryz.sizeOf3
  v3 := Tryz.zeroValue3
  t4 := Tryz.underlying4
  a4 := Tryz.isAgg4
  z4 := Tryz.sizeOf4
  v4 := Tryz.zeroValue4
  t5 := Tryz.underlying5
  a5 := Tryz.isAgg5
  z5 := Tryz.sizeOf5
  v5 := Tryz.zeroValue5
  t9 := Tryz.underlying9
  a9 := Tryz.isAgg9
  z9 := Tryz.sizeOf9
  v9 := Tryz.zeroValue9
  t46 := Tryz.underlying75
  a46 := Tryz.isAgg75
  z46 := Tryz.sizeOf75
  v46 := Tryz.zeroValue75
  t51 := Tryz.underlying101
  a51 := Tryz.isAgg101
  z51 := Tryz.sizeOf101
  v51 := Tryz.zeroValue101
  t146 := Tryz.underlying102
  a146 := Tryz.isAgg102
  z146 := Tryz.sizeOf102
  v146 := Tryz.zeroValue102
  g1 := by kernel_rfl
  i3 := by kernel_rfl
  i4 := by kernel_rfl
  i5 := by kernel_rfl
  i9 := by kernel_rfl
  i46 := by kernel_rfl
  i51 := by kernel_rfl
  i146 := by kernel_rfl
  m1 := by kernel_rfl
  s1_3 := fun w h => Go.Proofs.cell_of_shapedOpen_int (zero := #[.int .i64 0]) (t := 3) h (of_decide_eq_true (by kernel_rfl)) (by kernel_rfl) rfl (by kernel_rfl) (by kernel_rfl) Tryz.underlying3 }
open Go.RowKit Go.Lib in
theorem Tryz.stringslite_Cut_shaped (s sep : ByteArray) (w : World) (h : w.ShapedOpen Tryz.prog) (hs : s.size < 4294967281) :
    Calls Tryz.prog 64 #[.string s, .string sep] w fun e w' => e = .returned (.tuple #[.string ⟨(Lib.cut s.data.toList sep.data.toList).1.toArray⟩, .string ⟨(Lib.cut s.data.toList sep.data.toList).2.1.toArray⟩, .bool (Lib.cut s.data.toList sep.data.toList).2.2]) ∧ ∃ n, w' = w.drewN n := Any.stringslite_Cut_shaped Tryz.laysM220 s sep w h hs
def Tryz.laysM145_ren : Go.Shelf.Ren := ⟨fun | 145 => 34 | 220 => 64 | 219 => 82 | 217 => 83 | 225 => 98 | 224 => 99 | 267 => 100 | 266 => 101 | 314 => 113 | n => n, fun | 9 => 9 | 4 => 4 | 59 => 58 | 3 => 3 | 5 => 5 | 46 => 75 | 146 => 102 | 51 => 101 | n => n, fun | 1 => 1 | n => n⟩
theorem Tryz.laysM145 : Go.Proofs.LaysM.n145 Tryz.prog Tryz.laysM145_ren := {
  mixed := by kernel_rfl
  f145 := Tryz.func34.trans (congrArg some (by kernel_rfl))
  f217 := Tryz.func83.trans (congrArg some (by kernel_rfl))
  f219 := Tryz.func82.trans (congrArg some (by kernel_rfl))
  f220 := Tryz.func64.trans (congrArg some (by kernel_rfl))
  f224 := Tryz.func99.trans (congrArg some (by kernel_rfl))
  f225 := Tryz.func98.trans (congrArg some (by kernel_rfl))
  f266 := Tryz.func101.trans (congrArg some (by kernel_rfl))
  f267 := Tryz.func100.trans (congrArg some (by kernel_rfl))
  f314 := Tryz.func113.trans (congrArg some (by kernel_rfl))
  t3 := Tryz.underlying3
  a3 := Tryz.isAgg3
  z3 := Tryz.sizeOf3
  v3 := Tryz.zeroValue3
  t4 := Tryz.underlying4
  a4 := Tryz.isAgg4
  z4 := Tryz.sizeOf4
  v4 := Tryz.zeroValue4
  t5 := Tryz.underlying5
  a5 := Tryz.isAgg5
  z5 := Tryz.sizeOf5
  v5 := Tryz.zeroValue5
  t9 := Tryz.underlying9
  a9 := Tryz.isAgg9
  z9 := Tryz.sizeOf9
  v9 := Tryz.zeroValue9
  t46 := Tryz.underlying75
  a46 := Tryz.isAgg75
  z46 := Tryz.sizeOf75
  v46 := Tryz.zeroValue75
  t51 := Tryz.underlying101
  a51 := Tryz.isAgg101
  z51 := Tryz.sizeOf101
  v51 := Tryz.zeroValue101
  t59 := Tryz.underlying58
  a59 := Tryz.isAgg58
  z59 := Tryz.sizeOf58
  v59 := Tryz.zeroValue58
  t146 := Tryz.underlying102
  a146 := Tryz.isAgg102
  z146 := Tryz.sizeOf102
  v146 := Tryz.zeroValue102
  g1 := by kernel_rfl
  i3 := by kernel_rfl
  i4 := by kernel_rfl
  i5 := by kernel_rfl
  i9 := by kernel_rfl
  i46 := by kernel_rfl
  i51 := by kernel_rfl
  i59 := by kernel_rfl
  i146 := by kernel_rfl
  m1 := by kernel_rfl
  s1_3 := fun w h => Go.Proofs.cell_of_shapedOpen_int (zero := #[.int .i64 0]) (t := 3) h (of_decide_eq_true (by kernel_rfl)) (by kernel_rfl) rfl (by kernel_rfl) (by kernel_rfl) Tryz.underlying3 }
open Go.RowKit Go.Lib in
theorem Tryz.strings_Cut_shaped (s sep : ByteArray) (w : World) (h : w.ShapedOpen Tryz.prog) (hs : s.size < 4294967281) :
    Calls Tryz.prog 34 #[.string s, .string sep] w fun e w' => e = .returned (.tuple #[.string ⟨(Lib.cut s.data.toList sep.data.toList).1.toArray⟩, .string ⟨(Lib.cut s.data.toList sep.data.toList).2.1.toArray⟩, .bool (Lib.cut s.data.toList sep.data.toList).2.2]) ∧ ∃ n, w' = w.drewN n := Any.strings_Cut_shaped Tryz.laysM145 s sep w h hs
def Tryz.lays206_ren : Go.Shelf.Ren := ⟨fun | 206 => 63 | n => n, fun | 9 => 9 | 4 => 4 | 3 => 3 | n => n, fun | n => n⟩
theorem Tryz.lays206 : Go.Proofs.Lays.n206 Tryz.prog Tryz.lays206_ren := {
  mixed := by kernel_rfl
  f206 := Tryz.func63.trans (congrArg some (by kernel_rfl))
  t3 := Tryz.underlying3
  a3 := Tryz.isAgg3
  z3 := Tryz.sizeOf3
  v3 := Tryz.zeroValue3
  t4 := Tryz.underlying4
  a4 := Tryz.isAgg4
  z4 := Tryz.sizeOf4
  v4 := Tryz.zeroValue4
  t9 := Tryz.underlying9
  a9 := Tryz.isAgg9
  z9 := Tryz.sizeOf9
  v9 := Tryz.zeroValue9 }
open Go.RowKit Go.Lib in
theorem Tryz.stringslite_HasPrefix (s p : ByteArray) (w : World) :
    Calls Tryz.prog 63 #[.string s, .string p] w fun e w' => e = .returned (.bool (Lib.hasPrefix s.data.toList p.data.toList)) ∧ w' = w := Any.stringslite_HasPrefix Tryz.lays206 s p w
def Tryz.lays99_ren : Go.Shelf.Ren := ⟨fun | 99 => 33 | 206 => 63 | n => n, fun | 9 => 9 | 4 => 4 | 3 => 3 | n => n, fun | n => n⟩
theorem Tryz.lays99 : Go.Proofs.Lays.n99 Tryz.prog Tryz.lays99_ren := {
  mixed := by kernel_rfl
  f99 := Tryz.func33.trans (congrArg some (by kernel_rfl))
  f206 := Tryz.func63.trans (congrArg some (by kernel_rfl))
  t3 := Tryz.underlying3
  a3 := Tryz.isAgg3
  z3 := Tryz.sizeOf3
  v3 := Tryz.zeroValue3
  t4 := Tryz.underlying4
  a4 := Tryz.isAgg4
  z4 := Tryz.sizeOf4
  v4 := Tryz.zeroValue4
  t9 := Tryz.underlying9
  a9 := Tryz.isAgg9
  z9 := Tryz.sizeOf9
  v9 := Tryz.zeroValue9 }
open Go.RowKit Go.Lib in
theorem Tryz.strings_HasPrefix (s p : ByteArray) (w : World) :
    Calls Tryz.prog 33 #[.string s, .string p] w fun e w' => e = .returned (.bool (Lib.hasPrefix s.data.toList p.data.toList)) ∧ w' = w := Any.strings_HasPrefix Tryz.lays99 s p w
def Tryz.lays197_ren : Go.Shelf.Ren := ⟨fun | 197 => 87 | 260 => 107 | n => n, fun | 9 => 9 | 21 => 21 | 3 => 3 | 4 => 4 | 5 => 5 | 105 => 120 | 119 => 152 | 0 => 0 | 46 => 75 | 139 => 155 | 138 => 154 | n => n, fun | 3 => 5 | 4 => 6 | n => n⟩
theorem Tryz.lays197 : Go.Proofs.Lays.n197 Tryz.prog Tryz.lays197_ren := {
  mixed := by kernel_rfl
  f197 := Tryz.func87.trans (congrArg some (by kernel_rfl))
  f260 := Tryz.func107.trans (congrArg some (by kernel_rfl))
  t0 := Tryz.underlying0
  a0 := Tryz.isAgg0
  z0 := Tryz.sizeOf0
  v0 := Tryz.zeroValue0
  t3 := Tryz.underlying3
  a3 := Tryz.isAgg3
  z3 := Tryz.sizeOf3
  v3 := Tryz.zeroValue3
  t4 := Tryz.underlying4
  a4 := Tryz.isAgg4
  z4 := Tryz.sizeOf4
  v4 := Tryz.zeroValue4
  t5 := Tryz.underlying5
  a5 := Tryz.isAgg5
  z5 := Tryz.sizeOf5
  v5 := Tryz.zeroValue5
  t9 := Tryz.underlying9
  a9 := Tryz.isAgg9
  z9 := Tryz.sizeOf9
  v9 := Tryz.zeroValue9
  t21 := Tryz.underlying21
  a21 := Tryz.isAgg21
  z21 := Tryz.sizeOf21
  v21 := Tryz.zeroValue21
  t46 := Tryz.underlying75
  a46 := Tryz.isAgg75
  z46 := Tryz.sizeOf75
  v46 := Tryz.zeroValue75
  t105 := Tryz.underlying120
  a105 := Tryz.isAgg120
  z105 := Tryz.sizeOf120
  v105 := Tryz.zeroValue120
  t119 := Tryz.underlying152
  a119 := Tryz.isAgg152
  z119 := Tryz.sizeOf152
  t138 := Tryz.underlying154
  a138 := Tryz.isAgg154
  z138 := Tryz.sizeOf154
  v138 := Tryz.zeroValue154
  t139 := Tryz.underlying155
  a139 := Tryz.isAgg155
  z139 := Tryz.sizeOf155
  v139 := Tryz.zeroValue155
  g3 := by kernel_rfl
  g4 := by kernel_rfl }
open Go.RowKit Go.Lib in
theorem Tryz.utf8_DecodeRuneInString_ascii (s : ByteArray) (x : UInt8) (w : World) (h0 : s.data.toList[0]? = some x) (hx : x.toNat < 128) :
    Calls Tryz.prog 87 #[.string s] w fun e w' => e = .returned (.tuple #[.int .i32 x.toNat, .int .i64 1]) ∧ w' = w := Any.utf8_DecodeRuneInString_ascii Tryz.lays197 s x w h0 hx
def Tryz.lays264_ren : Go.Shelf.Ren := ⟨fun | 264 => 72 | n => n, fun | 53 => 104 | 46 => 75 | n => n, fun | n => n⟩
theorem Tryz.lays264 : Go.Proofs.Lays.n264 Tryz.prog Tryz.lays264_ren := {
  mixed := by kernel_rfl
  f264 := Tryz.func72.trans (congrArg some (by kernel_rfl))
  t46 := Tryz.underlying75
  a46 := Tryz.isAgg75
  z46 := Tryz.sizeOf75
  v46 := Tryz.zeroValue75
  t53 := Tryz.underlying104
  a53 := Tryz.isAgg104
  z53 := Tryz.sizeOf104
  v53 := Tryz.zeroValue104 }
open Go.RowKit Go.Lib in
theorem Tryz.bits_Mul64 (x y : Nat) (hx : x < 18446744073709551616) (hy : y < 18446744073709551616) (w : World) :
    Calls Tryz.prog 72 #[.int .u64 x, .int .u64 y] w fun e w' => e = .returned (.tuple #[.int .u64 ((x * y / 18446744073709551616 : Nat) : Int), .int .u64 ((x * y % 18446744073709551616 : Nat) : Int)]) ∧ w' = w := Any.bits_Mul64 Tryz.lays264 x y hx hy w
def Tryz.lays212_ren : Go.Shelf.Ren := ⟨fun | 212 => 44 | 263 => 71 | 264 => 72 | n => n, fun | 46 => 75 | 51 => 101 | 146 => 102 | 53 => 104 | 148 => 105 | n => n, fun | n => n⟩
theorem Tryz.lays212 : Go.Proofs.Lays.n212 Tryz.prog Tryz.lays212_ren := {
  mixed := by kernel_rfl
  f212 := Tryz.func44.trans (congrArg some (by kernel_rfl))
  f263 := Tryz.func71.trans (congrArg some (by kernel_rfl))
  f264 := Tryz.func72.trans (congrArg some (by kernel_rfl))
  t46 := Tryz.underlying75
  a46 := Tryz.isAgg75
  z46 := Tryz.sizeOf75
  v46 := Tryz.zeroValue75
  t51 := Tryz.underlying101
  a51 := Tryz.isAgg101
  z51 := Tryz.sizeOf101
  v51 := Tryz.zeroValue101
  t53 := Tryz.underlying104
  a53 := Tryz.isAgg104
  z53 := Tryz.sizeOf104
  v53 := Tryz.zeroValue104
  t146 := Tryz.underlying102
  a146 := Tryz.isAgg102
  z146 := Tryz.sizeOf102
  v146 := Tryz.zeroValue102
  t148 := Tryz.underlying105
  a148 := Tryz.isAgg105
  z148 := Tryz.sizeOf105
  v148 := Tryz.zeroValue105 }
open Go.RowKit Go.Lib in
theorem Tryz.bits_Mul (x y : Nat) (hx : x < 18446744073709551616) (hy : y < 18446744073709551616) (w : World) :
    Calls Tryz.prog 44 #[.int .u64 x, .int .u64 y] w fun e w' => e = .returned (.tuple #[.int .u64 ((x * y / 18446744073709551616 : Nat) : Int), .int .u64 ((x * y % 18446744073709551616 : Nat) : Int)]) ∧ w' = w := Any.bits_Mul Tryz.lays212 x y hx hy w
def Tryz.lays260_ren : Go.Shelf.Ren := ⟨fun | 260 => 107 | n => n, fun | 9 => 9 | 21 => 21 | 3 => 3 | 4 => 4 | 5 => 5 | 119 => 152 | 0 => 0 | 46 => 75 | 139 => 155 | 138 => 154 | n => n, fun | 3 => 5 | 4 => 6 | n => n⟩
theorem Tryz.lays260 : Go.Proofs.Lays.n260 Tryz.prog Tryz.lays260_ren := {
  mixed := by kernel_rfl
  f260 := Tryz.func107.trans (congrArg some (by kernel_rfl))
  t0 := Tryz.underlying0
  a0 := Tryz.isAgg0
  z0 := Tryz.sizeOf0
  v0 := Tryz.zeroValue0
  t3 := Tryz.underlying3
  a3 := Tryz.isAgg3
  z3 := Tryz.sizeOf3
  v3 := Tryz.zeroValue3
  t4 := Tryz.underlying4
  a4 := Tryz.isAgg4
  z4 := Tryz.sizeOf4
  v4 := Tryz.zeroValue4
  t5 := Tryz.underlying5
  a5 := Tryz.isAgg5
  z5 := Tryz.sizeOf5
  v5 := Tryz.zeroValue5
  t9 := Tryz.underlying9
  a9 := Tryz.isAgg9
  z9 := Tryz.sizeOf9
  v9 := Tryz.zeroValue9
  t21 := Tryz.underlying21
  a21 := Tryz.isAgg21
  z21 := Tryz.sizeOf21
  v21 := Tryz.zeroValue21
  t46 := Tryz.underlying75
  a46 := Tryz.isAgg75
  z46 := Tryz.sizeOf75
  v46 := Tryz.zeroValue75
  t119 := Tryz.underlying152
  a119 := Tryz.isAgg152
  z119 := Tryz.sizeOf152
  t138 := Tryz.underlying154
  a138 := Tryz.isAgg154
  z138 := Tryz.sizeOf154
  v138 := Tryz.zeroValue154
  t139 := Tryz.underlying155
  a139 := Tryz.isAgg155
  z139 := Tryz.sizeOf155
  v139 := Tryz.zeroValue155
  g3 := by kernel_rfl
  g4 := by kernel_rfl }
open Go.RowKit Go.Lib in
theorem Tryz.utf8_decodeRuneInStringSlow (s : ByteArray) (w : World) (hT : Lib.Utf8Tabs 5 6 w) :
    Calls Tryz.prog 107 #[.string s] w fun e w' => e = .returned (.tuple #[.int .i32 (Lib.decodeGo s).1, .int .i64 (Lib.decodeGo s).2]) ∧ Below w.heap.size w w' := Any.utf8_decodeRuneInStringSlow Tryz.lays260 s w hT
open Go.RowKit Go.Lib in
theorem Tryz.utf8_DecodeRuneInString (s : ByteArray) (w : World) (hT : Lib.Utf8Tabs 5 6 w) :
    Calls Tryz.prog 87 #[.string s] w fun e w' => e = .returned (.tuple #[.int .i32 (Lib.decodeGo s).1, .int .i64 (Lib.decodeGo s).2]) ∧ Below w.heap.size w w' := Any.utf8_DecodeRuneInString Tryz.lays197 s w hT
end Go.Proofs

/- What the listed package-level variables hold, and that it stays so; 'Ret': a call that gives a value and turns no old memory. -/
namespace Go.Proofs.YthkngleegefgbaaGreatDoor
open Go.RowKit

/-- The call gives v; of what was there before nothing has turned. -/
abbrev Ret (f : FuncId) (args : Array Value) (w : World) (v : Value) : Prop := Calls Tryz.prog f args w fun e w' => e = .returned v ∧ Below w.heap.size w w'

theorem chain {w w1 w2 : World} (h : Below w.heap.size w w1) (k : Below w1.heap.size w1 w2) : Below w.heap.size w w2 := h.trans (k.mono h.size)
theorem off_alloc {w w1 : World} {o : Obj} (k : Below (w.alloc o).heap.size (w.alloc o) w1) : Below w.heap.size w w1 := chain ((Below.refl _ _).alloc (Nat.le_refl _) o) k
theorem off_alloc' {w w1 : World} {o : Obj} (k : Below (w.heap.size + 1) (w.alloc o) w1) : Below w.heap.size w w1 := ((Below.refl _ _).alloc (Nat.le_refl _) o).trans (k.mono (Nat.le_succ _))

theorem off_drew {w w1 : World} (k : Below w.drew.heap.size w.drew w1) : Below w.heap.size w w1 := ⟨k.os, k.tape, k.output, k.size, k.block⟩

/-- The library's table lies as it was laid, and the program's variables have their shapes. -/
structure Env (w : World) : Prop where
  tab : ∃ g, g < w.heap.size ∧ Tryz.prog.globalNamed "internal/strconv.uint64pow10" = some g ∧ Lib.TabIs Tryz.prog w "internal/strconv.uint64pow10" .u64 Lib.pow10Tab
  shp : w.ShapedOpen Tryz.prog
/-- .. and strconv's two sentinels. -/
structure EnvP (w : World) : Prop extends Env w where
  syn : ∃ tp p g, g < w.heap.size ∧ Tryz.prog.globalNamed "strconv.ErrSyntax" = some g ∧ w.var? Tryz.prog "strconv.ErrSyntax" = some #[.iface tp p]
  rng : ∃ tp p g, g < w.heap.size ∧ Tryz.prog.globalNamed "strconv.ErrRange" = some g ∧ w.var? Tryz.prog "strconv.ErrRange" = some #[.iface tp p]
theorem Env.on {w w' : World} (h : Env w) (hb : Below w.heap.size w w') : Env w' := by
  obtain ⟨⟨c, hc, hd, ht⟩, hs⟩ := h
  exact ⟨⟨c, Nat.lt_of_lt_of_le hc hb.size, hd, var?_below hb hd hc ht⟩, hs.keptBut (hb.frame (fun _ => False)) (fun _ hp => hp.elim)⟩
theorem EnvP.on {w w' : World} (h : EnvP w) (hb : Below w.heap.size w w') : EnvP w' := by
  obtain ⟨he, ⟨tp, p, g, hg, hn, hv⟩, ⟨tq, q, k, hk, hm, hu⟩⟩ := h
  exact ⟨he.on hb, ⟨tp, p, g, Nat.lt_of_lt_of_le hg hb.size, hn, var?_below hb hn hg hv⟩, ⟨tq, q, k, Nat.lt_of_lt_of_le hk hb.size, hm, var?_below hb hm hk hu⟩⟩
theorem Env.alloc {w : World} (h : Env w) (o : Obj) : Env (w.alloc o) := h.on ((Below.refl _ _).alloc (Nat.le_refl _) o)
theorem Env.drew {w : World} (h : Env w) : Env w.drew := h.on (Below.refl _ _).drew
theorem EnvP.alloc {w : World} (h : EnvP w) (o : Obj) : EnvP (w.alloc o) := h.on ((Below.refl _ _).alloc (Nat.le_refl _) o)
theorem EnvP.drew {w : World} (h : EnvP w) : EnvP w.drew := h.on (Below.refl _ _).drew
theorem Env.tabIs {w : World} (h : Env w) : Lib.TabIs Tryz.prog w "internal/strconv.uint64pow10" .u64 Lib.pow10Tab := by
  obtain ⟨_, _, _, ht⟩ := h.tab
  exact ht

/-- A block of one cell that the call made keeps it over a call. -/
theorem keep_new {w w' : World} {x : Value} {t : TypeId} (hb : Below (w.alloc (.cells #[x] t)).heap.size (w.alloc (.cells #[x] t)) w') : w'.cell? ⟨w.heap.size, 0, none⟩ = some x := by
  rw [hb.cell (p := ⟨w.heap.size, 0, none⟩) (by simp), World.cell?_alloc_new]; rfl
theorem keep_new_drew {w w' : World} {x : Value} {t : TypeId} (hb : Below ((w.alloc (.cells #[x] t)).drew).heap.size ((w.alloc (.cells #[x] t)).drew) w') : w'.cell? ⟨w.heap.size, 0, none⟩ = some x :=
  keep_new (w' := w') ⟨hb.os, hb.tape, hb.output, hb.size, hb.block⟩
/-- Strings that differ, in the walk's spelling. -/
theorem str_ext {a b : ByteArray} (h : a.data.toList = b.data.toList) : a = b := ByteArray.ext (Array.ext' h)
theorem str_beq_ne {a b : ByteArray} (h : a ≠ b) : (a.toList == b.toList) = false := by
  rw [beq_eq_false_iff_ne, ByteArray.toList_eq, ByteArray.toList_eq]
  exact fun e => h (str_ext e)
theorem str_beq_same (a : ByteArray) : (a.toList == a.toList) = true := by simp
end Go.Proofs.YthkngleegefgbaaGreatDoor

/- Operations (chapter 39): what they are, and their texts, as functions on their fields. -/
namespace Go.Proofs.YthkngleegefgbaaGreatDoor
open Go.Lib (decDigits)
set_option linter.unusedVariables false
abbrev opC (kd m a b c : Int) (tag : ByteArray) : Array Value := #[.int .i64 kd, .int .i64 m, .int .i64 a, .int .i64 b, .int .i64 c, .string tag]
abbrev opV (kd m a b c : Int) (tag : ByteArray) : Value := .agg #[.int .i64 kd, .int .i64 m, .int .i64 a, .int .i64 b, .int .i64 c, .string tag]
abbrev op0V : Value := opV 0 0 0 0 0 ⟨#[]⟩
/-- The bounds of the fields, by the kind (0 and 0: not used). -/
def mHi (kd : Int) : Int := if kd ≤ 12 then 3 else 0
def aLo (kd : Int) : Int := if kd = 5 then -1 else if kd = 8 ∨ kd = 13 ∨ kd = 15 then 1 else 0
def aHi (kd : Int) : Int := if kd = 1 then 4 else if kd = 2 ∨ kd = 3 ∨ kd = 4 ∨ kd = 5 then 31 else if kd = 8 then 3 else if kd = 9 ∨ kd = 10 ∨ kd = 11 ∨ kd = 12 then 1999 else if kd = 13 then 10000 else if kd = 15 then 1048576 else 0
def bLo (kd : Int) : Int := if kd = 11 then 1 else 0
def bHi (kd : Int) : Int := if kd = 2 ∨ kd = 3 then 3 else if kd = 5 ∨ kd = 6 then 7 else if kd = 8 ∨ kd = 11 then 1048576 else 0
def cLo (kd : Int) : Int := if kd = 3 then -1 else 0
def cHi (kd : Int) : Int := if kd = 3 then 31 else 0
def olf (b : UInt8) : Bool := b == 111 || b == 108 || b == 102
def ansOk (l : List UInt8) : Bool := decide (1 ≤ l.length) && decide (l.length ≤ 100) && l.all olf
def tgOk (kd : Int) (tag : List UInt8) : Bool := if kd = 8 then tagOk tag else if kd = 17 then ansOk tag else tag.isEmpty
def opOk (kd m a b c : Int) (tag : List UInt8) : Bool := inB kd 1 17 && (inB m 0 (mHi kd) && (inB a (aLo kd) (aHi kd) && (inB b (bLo kd) (bHi kd) && (inB c (cLo kd) (cHi kd) && tgOk kd tag))))
def opErr (kd m a b c : Int) (tag : ByteArray) : Int := if opOk kd m a b c tag.data.toList then 0 else 2
def wordsL : List (List UInt8) := [[110, 101, 119], [108, 111, 97, 100], [115, 116, 111, 114, 101], [100, 114, 111, 112], [112, 117, 116], [103, 101, 116], [97, 99, 107], [111, 112, 101, 110], [100, 117, 112], [117, 115, 101], [114, 101, 110, 101, 119], [99, 108, 111, 115, 101], [109, 97, 114, 107], [98, 97, 116, 99, 104], [116, 105, 99, 107], [99, 121, 99, 108, 101], [97, 110, 115, 119, 101, 114]]
def wordL (kd : Int) : List UInt8 := if 1 ≤ kd ∧ kd ≤ 17 then wordsL.getD (kd - 1).toNat [] else []
def numL (n : Int) : List UInt8 := if n < 0 then 45 :: decDigits n.natAbs else decDigits n.natAbs
def aUse (kd : Int) : Bool := decide (kd ≤ 5) || (decide (8 ≤ kd) && decide (kd ≤ 13)) || decide (kd = 15)
def bUse (kd : Int) : Bool := decide (kd = 2) || decide (kd = 3) || decide (kd = 5) || decide (kd = 6) || decide (kd = 8) || decide (kd = 11)
def aText (kd a : Int) : List UInt8 := if kd = 8 then [letterB a] else numL a
def tText (kd : Int) (tag : List UInt8) : List UInt8 := if kd = 8 then quoteL tag else tag
/-- The parts behind the word. -/
def partsL (kd m a b c : Int) (tag : List UInt8) : List (List UInt8) :=
  (if kd ≤ 12 then [numL m] else []) ++ ((if aUse kd then [aText kd a] else []) ++ ((if bUse kd then [numL b] else []) ++ ((if kd = 3 then [numL c] else []) ++ (if kd = 8 ∨ kd = 17 then [tText kd tag] else []))))
def opL (kd m a b c : Int) (tag : List UInt8) : List UInt8 := Lib.join (wordL kd :: partsL kd m a b c tag) [32]
def opText (kd m a b c : Int) (tag : ByteArray) : ByteArray := ⟨(opL kd m a b c tag.data.toList).toArray⟩
/-- The fields of a valid operation whose text is s. -/
def IsO (kd m a b c : Int) (tag : ByteArray) (s : List UInt8) : Prop := opOk kd m a b c tag.data.toList = true ∧ opL kd m a b c tag.data.toList = s

theorem opOk_iff {kd m a b c : Int} {tag : List UInt8} : opOk kd m a b c tag = true ↔ (1 ≤ kd ∧ kd ≤ 17) ∧ (0 ≤ m ∧ m ≤ mHi kd) ∧ (aLo kd ≤ a ∧ a ≤ aHi kd) ∧ (bLo kd ≤ b ∧ b ≤ bHi kd) ∧ (cLo kd ≤ c ∧ c ≤ cHi kd) ∧ tgOk kd tag = true := by
  unfold opOk
  simp only [Bool.and_eq_true, inB_iff]
theorem kinds {kd : Int} (h : 1 ≤ kd ∧ kd ≤ 17) : kd = 1 ∨ kd = 2 ∨ kd = 3 ∨ kd = 4 ∨ kd = 5 ∨ kd = 6 ∨ kd = 7 ∨ kd = 8 ∨ kd = 9 ∨ kd = 10 ∨ kd = 11 ∨ kd = 12 ∨ kd = 13 ∨ kd = 14 ∨ kd = 15 ∨ kd = 16 ∨ kd = 17 := by omega
theorem word_no32 (kd : Int) : (32 : UInt8) ∉ wordL kd := by
  unfold wordL
  split
  · rename_i h
    rcases kinds h with rfl | rfl | rfl | rfl | rfl | rfl | rfl | rfl | rfl | rfl | rfl | rfl | rfl | rfl | rfl | rfl | rfl <;> decide
  · simp
theorem word_inj {kd kd' : Int} (h : 1 ≤ kd ∧ kd ≤ 17) (h' : 1 ≤ kd' ∧ kd' ≤ 17) (e : wordL kd = wordL kd') : kd = kd' := by
  have key : ∀ i : Fin 17, ∀ j : Fin 17, wordsL.getD i [] = wordsL.getD j [] → i = j := by decide
  unfold wordL at e
  rw [if_pos h, if_pos h'] at e
  have := key ⟨(kd - 1).toNat, by omega⟩ ⟨(kd' - 1).toNat, by omega⟩ e
  injection this with this
  omega
theorem numL_no32 (n : Int) : (32 : UInt8) ∉ numL n := by
  unfold numL
  split
  · simp only [List.mem_cons, not_or]
    exact ⟨by decide, not_mem_dec (by decide)⟩
  · exact not_mem_dec (by decide)
theorem numL_inj {n n' : Int} (h : numL n = numL n') : n = n' := by
  unfold numL at h
  split at h <;> split at h
  · injection h with _ h
    have := decDigits_inj h
    omega
  · obtain ⟨c, r, hc, hd⟩ := dec_cons n'.natAbs
    rw [hc] at h
    injection h with h _
    subst h
    cases hd
  · obtain ⟨c, r, hc, hd⟩ := dec_cons n.natAbs
    rw [hc] at h
    injection h with h _
    rw [h] at hd
    cases hd
  · have := decDigits_inj h
    omega
theorem letterB_no32 (a : Int) : (32 : UInt8) ≠ letterB a := by
  unfold letterB
  split
  · decide
  · split <;> decide
/-- Lists joined by spaces, of one length, and of which only the last may hold a space. -/
theorem join_inj : ∀ (l l' : List (List UInt8)), l.length = l'.length → (∀ x ∈ l.dropLast, (32 : UInt8) ∉ x) → (∀ x ∈ l'.dropLast, (32 : UInt8) ∉ x) → Lib.join l [32] = Lib.join l' [32] → l = l'
  | [], [], _, _, _, _ => rfl
  | [x], [y], _, _, _, h => by simpa [Lib.join, List.intercalate] using h
  | x :: x2 :: r, y :: y2 :: r', hl, h1, h2, h => by
    have e1 : Lib.join (x :: x2 :: r) [32] = x ++ 32 :: Lib.join (x2 :: r) [32] := by simp [Lib.join, List.intercalate]
    have e2 : Lib.join (y :: y2 :: r') [32] = y ++ 32 :: Lib.join (y2 :: r') [32] := by simp [Lib.join, List.intercalate]
    rw [e1, e2] at h
    obtain ⟨a1, a2⟩ := split_unique (h1 x (by simp)) (h2 y (by simp)) h
    have := join_inj (x2 :: r) (y2 :: r') (by simpa using hl) (fun z hz => h1 z (by simp [hz])) (fun z hz => h2 z (by simp [hz])) a2
    rw [a1, this]
  | [], _ :: _, hl, _, _, _ => by simp at hl
  | _ :: _, [], hl, _, _, _ => by simp at hl
  | [_], _ :: _ :: _, hl, _, _, _ => by simp at hl
  | _ :: _ :: _, [_], hl, _, _, _ => by simp at hl
theorem parts_len (kd m a b c m' a' b' c' : Int) (tag tag' : List UInt8) : (partsL kd m a b c tag).length = (partsL kd m' a' b' c' tag').length := by
  unfold partsL
  simp only [List.length_append]
  repeat' split
  all_goals rfl
theorem aText_no32 (kd a : Int) : (32 : UInt8) ∉ aText kd a := by
  unfold aText
  split
  · simp only [List.mem_singleton]; exact letterB_no32 a
  · exact numL_no32 a
theorem parts_no32 (kd m a b c : Int) (tag : List UInt8) : ∀ x ∈ (wordL kd :: partsL kd m a b c tag).dropLast, (32 : UInt8) ∉ x := by
  intro x hx
  have hw := word_no32 kd
  have hm := numL_no32 m
  have ha := aText_no32 kd a
  have hb := numL_no32 b
  have hcc := numL_no32 c
  by_cases ht : kd = 8 ∨ kd = 17
  · have e : wordL kd :: partsL kd m a b c tag = (wordL kd :: ((if kd ≤ 12 then [numL m] else []) ++ ((if aUse kd then [aText kd a] else []) ++ ((if bUse kd then [numL b] else []) ++ (if kd = 3 then [numL c] else []))))) ++ [tText kd tag] := by
      unfold partsL
      rw [if_pos ht]
      simp
    rw [e, List.dropLast_concat] at hx
    simp only [List.mem_cons, List.mem_append] at hx
    rcases hx with rfl | hx | hx | hx | hx
    · exact hw
    all_goals
      split at hx
      · simp only [List.mem_singleton] at hx; subst hx; assumption
      · cases hx
  · have hx' := (List.dropLast_sublist _).subset hx
    unfold partsL at hx'
    rw [if_neg ht] at hx'
    simp only [List.mem_cons, List.mem_append, List.append_nil] at hx'
    rcases hx' with rfl | hx | hx | hx | hx
    · exact hw
    all_goals
      split at hx
      · simp only [List.mem_singleton] at hx; subst hx; assumption
      · cases hx
theorem cut_join (w : List UInt8) (ps : List (List UInt8)) (h : (32 : UInt8) ∉ w) : (Lib.cut (Lib.join (w :: ps) [32]) [32]).1 = w := by
  cases ps with
  | nil =>
    rw [show Lib.join [w] [32] = w by simp [Lib.join, List.intercalate], cut_no _ _ h]
  | cons p ps =>
    rw [show Lib.join (w :: p :: ps) [32] = w ++ 32 :: Lib.join (p :: ps) [32] by simp [Lib.join, List.intercalate], cut_at _ _ _ h]
theorem a_unused {kd : Int} (h : 1 ≤ kd ∧ kd ≤ 17) (hu : aUse kd = false) : aLo kd = 0 ∧ aHi kd = 0 := by
  rcases kinds h with rfl | rfl | rfl | rfl | rfl | rfl | rfl | rfl | rfl | rfl | rfl | rfl | rfl | rfl | rfl | rfl | rfl <;> first | (exact ⟨rfl, rfl⟩) | (exfalso; revert hu; decide)
theorem b_unused {kd : Int} (h : 1 ≤ kd ∧ kd ≤ 17) (hu : bUse kd = false) : bLo kd = 0 ∧ bHi kd = 0 := by
  rcases kinds h with rfl | rfl | rfl | rfl | rfl | rfl | rfl | rfl | rfl | rfl | rfl | rfl | rfl | rfl | rfl | rfl | rfl <;> first | (exact ⟨rfl, rfl⟩) | (exfalso; revert hu; decide)
/-- One text, one operation. -/
theorem isO_unique {kd m a b c kd' m' a' b' c' : Int} {tag tag' : ByteArray} {s : List UInt8} (h : IsO kd m a b c tag s) (h' : IsO kd' m' a' b' c' tag' s) : kd' = kd ∧ m' = m ∧ a' = a ∧ b' = b ∧ c' = c ∧ tag' = tag := by
  obtain ⟨ho, hq⟩ := h
  obtain ⟨ho', hq'⟩ := h'
  obtain ⟨k1, m1, a1, b1, c1, t1⟩ := opOk_iff.1 ho
  obtain ⟨k2, m2, a2, b2, c2, t2⟩ := opOk_iff.1 ho'
  have hw : wordL kd' = wordL kd := by
    have e1 := cut_join (wordL kd) (partsL kd m a b c tag.data.toList) (word_no32 kd)
    have e2 := cut_join (wordL kd') (partsL kd' m' a' b' c' tag'.data.toList) (word_no32 kd')
    rw [← e1, ← e2]
    show (Lib.cut (opL _ _ _ _ _ _) [32]).1 = (Lib.cut (opL _ _ _ _ _ _) [32]).1
    rw [hq, hq']
  obtain rfl := word_inj k2 k1 hw
  have hp : partsL kd' m' a' b' c' tag'.data.toList = partsL kd' m a b c tag.data.toList := by
    have := join_inj _ _ (by simp [parts_len kd' m' a' b' c' m a b c tag'.data.toList tag.data.toList]) (parts_no32 kd' m' a' b' c' tag'.data.toList) (parts_no32 kd' m a b c tag.data.toList) (hq'.trans hq.symm)
    injection this
  clear hq hq' ho ho' hw
  unfold partsL at hp
  obtain ⟨e1, hp⟩ := List.append_inj hp (by split <;> rfl)
  obtain ⟨e2, hp⟩ := List.append_inj hp (by split <;> rfl)
  obtain ⟨e3, hp⟩ := List.append_inj hp (by split <;> rfl)
  obtain ⟨e4, e5⟩ := List.append_inj hp (by split <;> rfl)
  refine ⟨rfl, ?_, ?_, ?_, ?_, ?_⟩
  · by_cases hk : kd' ≤ 12
    · rw [if_pos hk, if_pos hk] at e1
      exact numL_inj (List.cons.inj e1).1
    · unfold mHi at m1 m2
      rw [if_neg hk] at m1 m2
      omega
  · by_cases hk : aUse kd' = true
    · rw [if_pos hk, if_pos hk] at e2
      have e := (List.cons.inj e2).1
      unfold aText at e
      by_cases h8 : kd' = 8
      · subst h8
        rw [if_pos rfl, if_pos rfl] at e
        exact letter_inj a2.1 a2.2 a1.1 a1.2 (List.cons.inj e).1
      · rw [if_neg h8, if_neg h8] at e
        exact numL_inj e
    · obtain ⟨z1, z2⟩ := a_unused k2 (by simpa using hk)
      rw [z1, z2] at a1 a2
      omega
  · by_cases hk : bUse kd' = true
    · rw [if_pos hk, if_pos hk] at e3
      exact numL_inj (List.cons.inj e3).1
    · obtain ⟨z1, z2⟩ := b_unused k2 (by simpa using hk)
      rw [z1, z2] at b1 b2
      omega
  · by_cases hk : kd' = 3
    · rw [if_pos hk, if_pos hk] at e4
      exact numL_inj (List.cons.inj e4).1
    · unfold cLo cHi at c1 c2
      rw [if_neg hk, if_neg hk] at c1 c2
      omega
  · apply str_ext
    unfold tgOk at t1 t2
    by_cases h8 : kd' = 8
    · subst h8
      rw [if_pos (.inl rfl), if_pos (.inl rfl)] at e5
      exact quoteL_inj (List.cons.inj e5).1
    · by_cases h17 : kd' = 17
      · subst h17
        rw [if_pos (.inr rfl), if_pos (.inr rfl)] at e5
        exact (List.cons.inj e5).1
      · rw [if_neg h8, if_neg h17] at t1 t2
        rw [List.isEmpty_iff.1 t1, List.isEmpty_iff.1 t2]
end Go.Proofs.YthkngleegefgbaaGreatDoor

/- What a call keeps of a world. -/
namespace Go.Proofs.YthkngleegefgbaaGreatDoor
open Go.RowKit
/-- A cell, a bound, Env, Below (the call's own fact first, so that it tells the world). -/
theorem keep_cell {W W' : World} {b o : Nat} {v : Value} (hb : Below W.heap.size W W') (hl : b < W.heap.size) (h : W.cell? ⟨b, o, none⟩ = some v) : W'.cell? ⟨b, o, none⟩ = some v := (hb.cell (p := ⟨b, o, none⟩) hl).trans h
theorem keep_lt {W W' : World} {a : Nat} (hb : Below W.heap.size W W') (h : a < W.heap.size) : a < W'.heap.size := Nat.lt_of_lt_of_le h hb.size
theorem keep_env {W W' : World} (hb : Below W.heap.size W W') (h : Env W) : Env W' := h.on hb
theorem keep_envp {W W' : World} (hb : Below W.heap.size W W') (h : EnvP W) : EnvP W' := h.on hb
theorem keep_below {w W W' : World} (hb : Below W.heap.size W W') (h : Below w.heap.size w W) : Below w.heap.size w W' := chain h hb
/-- A call made behind blocks that were laid since the last one. -/
theorem under {w W w1 : World} (k : Below W.heap.size W w1) (h : Below w.heap.size w W := by go_grown) : Below w.heap.size w w1 := h.trans (k.mono h.size)
theorem bcell {W w1 : World} (hb : Below W.heap.size W w1) : (∀ b o, b < W.heap.size → w1.cell? ⟨b, o, none⟩ = W.cell? ⟨b, o, none⟩) ∧ (∀ b o, b < W.heap.size → w1.frozen? ⟨b, o, none⟩ = W.frozen? ⟨b, o, none⟩) :=
  ⟨fun b o h => hb.cell (p := ⟨b, o, none⟩) h, fun b o h => hb.frozen (p := ⟨b, o, none⟩) h⟩
theorem wp_join {P : Program} {c : Code} {Q : Exit → Act → World → Prop} {a a' : Act} {w w' : World} {x : Exit} (h : Q x a' w' → c.wp P Q a w) (h2 : Q x a' w') : c.wp P Q a w := h h2
end Go.Proofs.YthkngleegefgbaaGreatDoor

/- What a region holds may be made to say more; blocks that are known whole. -/
namespace Go.Proofs.YthkngleegefgbaaGreatDoor
open Go.RowKit
/-- What is held may be made to say more behind an operation. -/
theorem wpAnyH_stronger {P : Program} {md : Region.Mode} {ops : Array Oper} {Q : Exit → Act → World → Prop} {S S' : World → Prop} (hS : ∀ w, S' w → S w) :
    ∀ (fuel : Nat) (listed : Array Bool) (a : Act) (w : World), wpAnyH P md ops Q S' fuel listed a w → wpAnyH P md ops Q S fuel listed a w
  | 0, _, _, _, h => h
  | fuel + 1, _, _, _, h => ⟨h.1, fun i hi => wpOp_mono (fun a' w' h' => ⟨hS _ h'.1, wpAnyH_stronger hS fuel _ a' w' h'.2⟩) (h.2 i hi)⟩
theorem wpAnyH_more {P : Program} {md : Region.Mode} {ops : Array Oper} {Q : Exit → Act → World → Prop} {S S' : World → Prop} {fuel : Nat} {listed : Array Bool} {a : Act} {w : World}
    (hS : ∀ w, S' w → S w) (h0 : S' w) (h : S' w → wpAnyH P md ops Q S' fuel listed a w) : wpAnyH P md ops Q S fuel listed a w := wpAnyH_stronger hS _ _ _ _ (h h0)
/-- A block known whole stays behind a call, and behind a new block. -/
structure Row (W : World) (x : Nat) (cs : Array Value) (t : TypeId) : Prop where
  eq : W.heap[x]? = some (.cells cs t (0, 0))
theorem Row.lt {W : World} {x : Nat} {cs : Array Value} {t : TypeId} (h : Row W x cs t) : x < W.heap.size := by
  have h := h.eq
  rcases Nat.lt_or_ge x W.heap.size with h' | h'
  · exact h'
  · simp [Array.getElem?_eq_none h'] at h
theorem Row.on {W W' : World} {x : Nat} {cs : Array Value} {t : TypeId} (h : Row W x cs t) (hb : Below W.heap.size W W') : Row W' x cs t := ⟨(hb.block x (Row.lt h)).trans h.eq⟩
theorem Row.new {W : World} {cs : Array Value} {t : TypeId} : Row (W.alloc (.cells cs t)) W.heap.size cs t := ⟨by show (W.heap.push _)[W.heap.size]? = _; simp⟩
theorem Row.cell {W : World} {x : Nat} {cs : Array Value} {t : TypeId} (h : Row W x cs t) (j : Nat) : W.cell? ⟨x, j, none⟩ = cs[j]? := by simp [World.cell?, h.eq]
theorem Row.free {W : World} {x : Nat} {cs : Array Value} {t : TypeId} (h : Row W x cs t) (j : Nat) : W.frozen? ⟨x, j, none⟩ = false := by simp [World.frozen?, h.eq]
theorem Row.set {W : World} {x : Nat} {cs : Array Value} {t : TypeId} (h : Row W x cs t) (j : Nat) (v : Value) : Row (W.setCell ⟨x, j, none⟩ v) x (cs.setIfInBounds j v) t :=
  ⟨by have hl := h.lt; have h := h.eq; simp [World.setCell, Array.getElem?_modify, h]⟩
theorem Row.other {W : World} {x y : Nat} {cs : Array Value} {t : TypeId} (h : Row W x cs t) (hn : y ≠ x) (j : Nat) (v : Value) : Row (W.setCell ⟨y, j, none⟩ v) x cs t :=
  ⟨by have h := h.eq; simp [World.setCell, Array.getElem?_modify, h, hn]⟩
theorem cell_other {W : World} {x y j k : Nat} {u : Value} (h : W.cell? ⟨x, k, none⟩ = some u) (hn : y ≠ x) (v : Value) : (W.setCell ⟨y, j, none⟩ v).cell? ⟨x, k, none⟩ = some u :=
  (World.cell?_setCell_far W _ _ v hn).trans h
theorem below_alloc (W : World) (O : Obj) : Below W.heap.size W (W.alloc O) := by go_grown
theorem add_run {a b d : ByteArray} (h : a ++ b = d) (hs : a.size + b.size ≤ 1000000) (W : World) : (Op.stringOp .add a b).run Tryz.prog W = .ok (.string d) W := by
  rw [← h]
  exact run_string_add_sum W _ _ (by omega)
/-- The cells of a block, all at once, behind a call. -/
theorem keep_cells {W W' : World} {n : Nat} {cs : Array Value} (hb : Below W.heap.size W W') (hl : n < W.heap.size) (h : ∀ j, W.cell? ⟨n, j, none⟩ = cs[j]?) : ∀ j, W'.cell? ⟨n, j, none⟩ = cs[j]? := fun j => (hb.cell (p := ⟨n, j, none⟩) hl).trans (h j)
end Go.Proofs.YthkngleegefgbaaGreatDoor

/- Runes by their bytes: what the reference reckons is what the decoding gives. -/
namespace Go.Proofs.YthkngleegefgbaaGreatDoor
set_option linter.unusedVariables false
open Go.Lib
def rnN (n b0 b1 b2 b3 : Nat) : Option (Nat × Nat) := if decodeN n b0 b1 b2 b3 = (65533, 1) then none else some (decodeN n b0 b1 b2 b3)
theorem rnL_N (l : List UInt8) : rnL l = rnN l.length (l.getD 0 0).toNat (l.getD 1 0).toNat (l.getD 2 0).toNat (l.getD 3 0).toNat := by
  unfold rnL rnN
  rw [decodeL_N]
theorem rnN_some {n b0 b1 b2 b3 r k : Nat} (h : decodeN n b0 b1 b2 b3 = (r, k)) (hn : ¬ (r = 65533 ∧ k = 1)) : rnN n b0 b1 b2 b3 = some (r, k) := by
  unfold rnN
  rw [h, if_neg (fun e => hn (by injection e with a b; exact ⟨a, b⟩))]
theorem rnN_none {n b0 b1 b2 b3 : Nat} (h : decodeN n b0 b1 b2 b3 = (65533, 1)) : rnN n b0 b1 b2 b3 = none := by
  unfold rnN
  rw [if_pos h]
section
variable {n b0 b1 b2 b3 : Nat}
theorem rn_1 (h : b0 < 128) : rnN n b0 b1 b2 b3 = some (b0, 1) := rnN_some (by unfold decodeN; rw [if_pos h]) (by omega)
theorem rn_0 (h0 : 128 ≤ b0) (h : b0 < 192 ∨ 248 ≤ b0) (hb : b0 < 256) : rnN n b0 b1 b2 b3 = none := rnN_none (by
  unfold decodeN
  rw [if_neg (by omega), if_neg (by omega), if_neg (by omega), if_neg (by omega)])
theorem rn_2 (h0 : 192 ≤ b0) (h1 : b0 < 224) (hn : 1 < n) (c1 : 128 ≤ b1) (d1 : b1 < 192) (hr : 128 ≤ (b0 - 192) * 64 + (b1 - 128)) : rnN n b0 b1 b2 b3 = some ((b0 - 192) * 64 + (b1 - 128), 2) := rnN_some (by
  unfold decodeN
  rw [if_neg (by omega), if_pos (by omega), if_pos (by omega)]
  exact Prod.ext (by show _ = _; omega) rfl) (by omega)
theorem rn_2n (h0 : 192 ≤ b0) (h1 : b0 < 224) (h : n ≤ 1 ∨ b1 < 128 ∨ 192 ≤ b1 ∨ (128 ≤ b1 ∧ b1 < 192 ∧ (b0 - 192) * 64 + (b1 - 128) < 128)) : rnN n b0 b1 b2 b3 = none := rnN_none (by
  unfold decodeN
  rw [if_neg (by omega)]
  by_cases hc : b0 / 32 = 6 ∧ (1 < n ∧ b1 / 64 = 2)
  · rw [if_pos hc, if_neg (by omega)]
  · rw [if_neg hc, if_neg (by omega), if_neg (by omega)])
theorem rn_3 (h0 : 224 ≤ b0) (h1 : b0 < 240) (hn : 2 < n) (c1 : 128 ≤ b1) (d1 : b1 < 192) (c2 : 128 ≤ b2) (d2 : b2 < 192) {r : Nat} (hr : r = ((b0 - 224) * 64 + (b1 - 128)) * 64 + (b2 - 128)) (h2 : 2048 ≤ r) (h3 : r < 55296 ∨ 57344 ≤ r) : rnN n b0 b1 b2 b3 = some (r, 3) := rnN_some (by
  unfold decodeN
  rw [if_neg (by omega), if_neg (by omega), if_pos (by omega), if_pos (by omega)]
  exact Prod.ext (by show _ = _; omega) rfl) (by omega)
theorem rn_3n (h0 : 224 ≤ b0) (h1 : b0 < 240) (h : n ≤ 2 ∨ b1 < 128 ∨ 192 ≤ b1 ∨ b2 < 128 ∨ 192 ≤ b2 ∨ ((128 ≤ b1 ∧ b1 < 192) ∧ (128 ≤ b2 ∧ b2 < 192) ∧ (((b0 - 224) * 64 + (b1 - 128)) * 64 + (b2 - 128) < 2048 ∨ (55296 ≤ ((b0 - 224) * 64 + (b1 - 128)) * 64 + (b2 - 128) ∧ ((b0 - 224) * 64 + (b1 - 128)) * 64 + (b2 - 128) ≤ 57343)))) : rnN n b0 b1 b2 b3 = none := rnN_none (by
  unfold decodeN
  rw [if_neg (by omega), if_neg (by omega)]
  by_cases hc : b0 / 16 = 14 ∧ (1 < n ∧ b1 / 64 = 2) ∧ (2 < n ∧ b2 / 64 = 2)
  · rw [if_pos hc, if_neg (by omega)]
  · rw [if_neg hc, if_neg (by omega)])
theorem rn_4 (h0 : 240 ≤ b0) (h1 : b0 < 248) (hn : 3 < n) (c1 : 128 ≤ b1) (d1 : b1 < 192) (c2 : 128 ≤ b2) (d2 : b2 < 192) (c3 : 128 ≤ b3) (d3 : b3 < 192) {r : Nat} (hr : r = (((b0 - 240) * 64 + (b1 - 128)) * 64 + (b2 - 128)) * 64 + (b3 - 128)) (h2 : 65536 ≤ r) (h3 : r ≤ 1114111) : rnN n b0 b1 b2 b3 = some (r, 4) := rnN_some (by
  unfold decodeN
  rw [if_neg (by omega), if_neg (by omega), if_neg (by omega), if_pos (by omega), if_pos (by omega)]
  exact Prod.ext (by show _ = _; omega) rfl) (by omega)
theorem rn_4n (h0 : 240 ≤ b0) (h1 : b0 < 248) (h : n ≤ 3 ∨ b1 < 128 ∨ 192 ≤ b1 ∨ b2 < 128 ∨ 192 ≤ b2 ∨ b3 < 128 ∨ 192 ≤ b3 ∨ ((128 ≤ b1 ∧ b1 < 192) ∧ (128 ≤ b2 ∧ b2 < 192) ∧ (128 ≤ b3 ∧ b3 < 192) ∧ ((((b0 - 240) * 64 + (b1 - 128)) * 64 + (b2 - 128)) * 64 + (b3 - 128) < 65536 ∨ 1114111 < (((b0 - 240) * 64 + (b1 - 128)) * 64 + (b2 - 128)) * 64 + (b3 - 128)))) : rnN n b0 b1 b2 b3 = none := rnN_none (by
  unfold decodeN
  rw [if_neg (by omega), if_neg (by omega), if_neg (by omega)]
  by_cases hc : b0 / 8 = 30 ∧ (1 < n ∧ b1 / 64 = 2) ∧ (2 < n ∧ b2 / 64 = 2) ∧ (3 < n ∧ b3 / 64 = 2)
  · rw [if_pos hc, if_neg (by omega)]
  · rw [if_neg hc])
end
theorem decode_drop (s : ByteArray) (i : Nat) : Utf8.decode s i = decodeL (s.data.toList.drop i) := by
  have h := tail_decode s i 0
  rw [Nat.add_zero] at h
  rw [← h]
  unfold decodeL
  congr 1
  apply ByteArray.ext
  apply Array.ext'
  rw [Lib.extract_to_end]
/-- The rune at a place. -/
def rnAt (s : ByteArray) (i : Nat) : Option (Nat × Nat) := rnL (s.data.toList.drop i)
theorem rnAt_decode {s : ByteArray} {i r n : Nat} (h : rnAt s i = some (r, n)) : Utf8.decode s i = (r, n) ∧ ¬ (r = 65533 ∧ n = 1) := by
  rw [decode_drop]
  exact rnL_some h
theorem rnAt_none {s : ByteArray} {i : Nat} (h : rnAt s i = none) : Utf8.decode s i = (65533, 1) := by
  rw [decode_drop]
  exact rnL_none h
theorem rnAt_N (s : ByteArray) (i : Nat) : rnAt s i = rnN (s.size - i) ((s.data.toList.drop i).getD 0 0).toNat ((s.data.toList.drop i).getD 1 0).toNat ((s.data.toList.drop i).getD 2 0).toNat ((s.data.toList.drop i).getD 3 0).toNat := by
  unfold rnAt
  rw [rnL_N, List.length_drop, len_bytes]
theorem at_getD (s : ByteArray) (i k : Nat) (h : i + k < s.size) : (s.data.toList.drop i).getD k 0 = s[i + k] := by
  rw [List.getD_eq_getElem?_getD, List.getElem?_drop]
  have h' : i + k < s.data.toList.length := by rw [len_bytes]; exact h
  rw [List.getElem?_eq_getElem h']
  rfl
end Go.Proofs.YthkngleegefgbaaGreatDoor

/- tags.Check: its contract. -/
namespace Go.Proofs.YthkngleegefgbaaGreatDoor
open Go.RowKit
set_option linter.unusedVariables false
set_option linter.unusedSimpArgs false

theorem has_c (r : Nat) (w : World) (hr : r ≤ 2147483647) : Calls Tryz.prog 76 #[.int .i32 r] w fun e w' => e = .returned (.bool (runeOk r)) ∧ w' = w := by
  unfold runeOk
  by_cases h1 : 32 ≤ r
  · have h2 : (32 : Int) ≤ (r : Int) := by omega
    by_cases h3 : r = 127
    · subst h3
      go_enter Tryz.func76, Tryz.ntmps76
      go_wp2_with fail
      go_returns
      exact ⟨rfl, rfl⟩
    · have h4 : ((r : Int) != 127) = true := by rw [bne_iff_ne]; omega
      rw [decide_eq_true h1, decide_eq_true (show r ≠ 127 from h3)]
      go_enter Tryz.func76, Tryz.ntmps76
      go_wp2_with fail
      go_returns
      exact ⟨rfl, rfl⟩
  · have h2 : ¬ (32 : Int) ≤ (r : Int) := by omega
    rw [decide_eq_false h1]
    go_enter Tryz.func76, Tryz.ntmps76
    go_wp2_with fail
    go_returns
    exact ⟨rfl, rfl⟩
/-- What all tells of a text: how many runes, and whether each is as it has to be. -/
def allV (l : List UInt8) : Value := match runesL l with
  | some rs => if rs.all runeOk then .tuple #[.int .i64 (rs.length : Nat), .bool true] else .tuple #[.int .i64 0, .bool false]
  | none => .tuple #[.int .i64 0, .bool false]
theorem allV_some {l : List UInt8} {rs : List Nat} (h : runesL l = some rs) (ha : rs.all runeOk = true) : allV l = .tuple #[.int .i64 (rs.length : Nat), .bool true] := by
  unfold allV
  rw [h]
  simp [ha]
theorem allV_not {l : List UInt8} (h : ∀ rs, runesL l = some rs → rs.all runeOk = false) : allV l = .tuple #[.int .i64 0, .bool false] := by
  unfold allV
  cases hr : runesL l with
  | none => rfl
  | some rs => simp [h rs hr]
theorem drop_ne {s : ByteArray} {pos : Nat} (hp : pos < s.size) : s.data.toList.drop pos ≠ [] := by
  intro e
  have := congrArg List.length e
  rw [List.length_drop, len_bytes] at this
  simp at this
  omega
theorem runes_at {s : ByteArray} {pos r n : Nat} (hp : pos < s.size) (h : rnAt s pos = some (r, n)) : runesL (s.data.toList.drop pos) = (runesL (s.data.toList.drop (pos + n))).map (r :: ·) := by
  rw [runesL_step (drop_ne hp)]
  unfold rnAt at h
  rw [h]
  simp [List.drop_drop]
theorem runes_at_none {s : ByteArray} {pos : Nat} (hp : pos < s.size) (h : rnAt s pos = none) : runesL (s.data.toList.drop pos) = none := by
  rw [runesL_step (drop_ne hp)]
  unfold rnAt at h
  rw [h]
theorem rnAt_width {s : ByteArray} {pos r n : Nat} (hp : pos < s.size) (h : rnAt s pos = some (r, n)) : 1 ≤ n ∧ n ≤ 4 ∧ pos + n ≤ s.size := by
  have := dec_width _ (drop_ne hp)
  rw [(rnL_some h).1, List.length_drop, len_bytes] at this
  dsimp only at this
  omega
theorem rnAt_le {s : ByteArray} {pos r n : Nat} (h : rnAt s pos = some (r, n)) : r ≤ 2147483647 := by
  have := decode_le s pos
  rw [(rnAt_decode h).1] at this
  exact this
/-- The bytes of U+FFFD stand there just where it was written. -/
theorem fffd_yes {s : ByteArray} {pos n : Nat} (hp : pos < s.size) (h : rnAt s pos = some (65533, n)) : Lib.hasPrefix (s.data.toList.drop pos) [239, 191, 189] = true := by
  have h1 := rnL_bytes (drop_ne hp) h
  rw [show Lib.encodeRune ((65533 : Nat) : Int) = [239, 191, 189] by decide] at h1
  unfold Lib.hasPrefix
  rw [List.isPrefixOf_iff_prefix, h1]
  exact List.take_prefix _ _
theorem fffd_no {s : ByteArray} {pos : Nat} (hp : pos < s.size) (h : rnAt s pos = none) : Lib.hasPrefix (s.data.toList.drop pos) [239, 191, 189] = false := by
  cases hx : Lib.hasPrefix (s.data.toList.drop pos) [239, 191, 189] with
  | false => rfl
  | true =>
    exfalso
    unfold Lib.hasPrefix at hx
    rw [List.isPrefixOf_iff_prefix] at hx
    obtain ⟨t, ht⟩ := hx
    unfold rnAt at h
    rw [← ht, rnL_N] at h
    have := rn_3 (n := ([239, 191, 189] ++ t : List UInt8).length) (b0 := 239) (b1 := 191) (b2 := 189) (b3 := (([239, 191, 189] ++ t : List UInt8).getD 3 0).toNat) (by omega) (by omega) (by simp) (by omega) (by omega) (by omega) (by omega) (r := 65533) (by omega) (by omega) (by omega)
    rw [show (([239, 191, 189] ++ t : List UInt8).getD 0 0).toNat = 239 from rfl, show (([239, 191, 189] ++ t : List UInt8).getD 1 0).toNat = 191 from rfl, show (([239, 191, 189] ++ t : List UInt8).getD 2 0).toNat = 189 from rfl, this] at h
    cases h
set_option maxHeartbeats 4000000 in
set_option maxRecDepth 100000 in
theorem all_c (s : ByteArray) (w : World) (hs : s.size ≤ 1000000) : Ret 75 #[.string s, .func (.func 76) #[] #[]] w (allV s.data.toList) := by
  go_enter Tryz.func75, Tryz.ntmps75
  go_wp2_with fail
  go_loopw [6] (fun nv wr => ∃ (pos : Nat) (acc : List Nat), nv = .int .i64 (acc.length : Nat) ∧ wr.heap[w.heap.size]? = some (.stringIter s pos) ∧ Below w.heap.size w wr ∧ acc.all runeOk = true ∧ runesL s.data.toList = (runesL (s.data.toList.drop pos)).map (acc ++ ·) ∧ pos ≤ s.size ∧ acc.length ≤ pos) (fun _ wr => s.size - wr.iterPos w.heap.size)
  case atStart =>
    refine ⟨0, [], rfl, World.iter_heap w s 0, (Below.refl _ w).alloc (Nat.le_refl _) _, rfl, ?_, by omega, by simp⟩
    rw [List.drop_zero]
    cases runesL s.data.toList <;> simp
  case round =>
    obtain ⟨pos, acc, rfl, hit, hB, hall, hrs, hps, hal⟩ := hrel
    have hsz : w.heap.size < wr.heap.size := (Array.getElem?_eq_some_iff.1 hit).1
    by_cases hp : pos < s.size
    · have hnx : ∀ ty, (Instr.next (.pointer (some ⟨w.heap.size, 0, none⟩)) true ty).run Tryz.prog wr = _ := fun ty => Lib.run_next_any_at wr w.heap.size s pos ty hit hp
      have hps2 : (pos : Int) ≤ (s.size : Int) := by omega
      cases hr : rnAt s pos with
      | none =>
        rw [rnAt_none hr] at hnx
        have hpf := Tryz.strings_HasPrefix (s.extract pos s.size) ⟨#[239, 191, 189]⟩
        rw [Lib.extract_to_end, show (⟨#[239, 191, 189]⟩ : ByteArray).data.toList = [239, 191, 189] from rfl, fffd_no hp hr] at hpf
        have HPF := Lib.hid hpf
        clear hpf
        have hv : allV s.data.toList = .tuple #[.int .i64 0, .bool false] := allV_not (fun rs h => by rw [runes_at_none hp hr] at hrs; rw [hrs] at h; cases h)
        go_wp2_with (go_at_call 33; refine (HPF.out _).mono ?_; rintro e w' ⟨rfl, rfl⟩)
        rw [hv]
        go_returns
        exact ⟨rfl, Lib.below_iterAt hB (Nat.le_refl _) s _⟩
      | some p =>
        obtain ⟨r, n⟩ := p
        rw [(rnAt_decode hr).1] at hnx
        have hwd := rnAt_width hp hr
        have hrl := rnAt_le hr
        have hns := runes_at hp hr
        have hit2 := Lib.iterAt_heap wr w.heap.size s pos (pos + n) hit
        have hB2 := Lib.below_iterAt hB (Nat.le_refl w.heap.size) s (pos + n)
        have hhas := fun w => has_c r w hrl
        have HIT2 := Lib.hid hit2
        have HB2 := Lib.hid hB2
        have hwc : IntKind.i64.wrap ((acc.length : Int) + 1) = (acc.length : Int) + 1 := IntWalk.i64_in _ ⟨by omega, by omega⟩
        have hstep : ∀ v, v = (.tuple #[.int .i64 0, .bool false] : Value) → runeOk r = false → v = allV s.data.toList := by
          intro v hv hro
          rw [hv]
          refine (allV_not (fun rs h => ?_)).symm
          rw [hns, Option.map_map] at hrs
          rw [hrs] at h
          cases hx : runesL (s.data.toList.drop (pos + n)) with
          | none => rw [hx] at h; cases h
          | some xs =>
            rw [hx] at h
            simp at h
            subst h
            simp [hro]
        have hnext : runeOk r = true → (∃ (pos' : Nat) (acc' : List Nat), Value.int .i64 ((acc.length : Int) + 1) = .int .i64 (acc'.length : Nat) ∧ (wr.iterAt w.heap.size s (pos + n)).heap[w.heap.size]? = some (.stringIter s pos') ∧ Below w.heap.size w (wr.iterAt w.heap.size s (pos + n)) ∧ acc'.all runeOk = true ∧ runesL s.data.toList = (runesL (s.data.toList.drop pos')).map (acc' ++ ·) ∧ pos' ≤ s.size ∧ acc'.length ≤ pos') ∧ s.size - (wr.iterAt w.heap.size s (pos + n)).iterPos w.heap.size < s.size - wr.iterPos w.heap.size := by
          intro hro
          refine ⟨⟨pos + n, acc ++ [r], by simp, HIT2.out, HB2.out, ?_, ?_, by omega, by simp; omega⟩, ?_⟩
          · rw [List.all_append, hall]; simp [hro]
          · rw [hrs, hns, Option.map_map]
            congr 1
            funext x
            simp
          · simp only [World.iterPos, HIT2.out, hit]
            omega
        have HST := Lib.hid hstep
        have HNX := Lib.hid hnext
        clear hstep hnext hit2 hB2 hns hrs hall hB
        by_cases h5 : r = 65533
        · subst h5
          rw [show runeOk 65533 = true by decide] at hhas
          have HAS := Lib.hid hhas
          clear hhas
          have hpf := Tryz.strings_HasPrefix (s.extract pos s.size) ⟨#[239, 191, 189]⟩
          rw [Lib.extract_to_end, show (⟨#[239, 191, 189]⟩ : ByteArray).data.toList = [239, 191, 189] from rfl, fffd_yes hp hr] at hpf
          have HPF := Lib.hid hpf
          clear hpf
          go_wp2_with (first | (go_at_call 33; refine (HPF.out _).mono ?_; rintro e w' ⟨rfl, rfl⟩) | (go_at_call 76; refine (HAS.out _).mono ?_; rintro e w' ⟨rfl, rfl⟩))
          exact HNX.out rfl
        · have h6 : ((r : Int) == 65533) = false := by rw [beq_eq_false_iff_ne]; omega
          cases hro : runeOk r with
          | true =>
            rw [hro] at hhas
            have HAS := Lib.hid hhas
            clear hhas
            go_wp2_with (go_at_call 76; refine (HAS.out _).mono ?_; rintro e w' ⟨rfl, rfl⟩)
            exact HNX.out hro
          | false =>
            rw [hro] at hhas
            have HAS := Lib.hid hhas
            clear hhas
            go_wp2_with (go_at_call 76; refine (HAS.out _).mono ?_; rintro e w' ⟨rfl, rfl⟩)
            go_returns
            exact ⟨congrArg Ending.returned (HST.out _ rfl hro), HB2.out⟩
    · have hnx : ∀ ty, (Instr.next (.pointer (some ⟨w.heap.size, 0, none⟩)) true ty).run Tryz.prog wr = _ := fun ty => Lib.run_next_end_at wr w.heap.size s pos ty hit hp
      have hv : allV s.data.toList = .tuple #[.int .i64 (acc.length : Nat), .bool true] := by
        refine allV_some (rs := acc) ?_ hall
        rw [hrs, List.drop_of_length_le (by rw [len_bytes]; omega), runesL_nil]
        simp
      have HV := Lib.hid hv
      clear hrs hv
      go_wp2_with fail
      rw [HV.out]
      go_returns
      exact ⟨rfl, hB⟩
/-- tags.Check. -/
theorem tcheck_c (s : ByteArray) (w : World) (hs : s.size ≤ 1000000) : Ret 51 #[.string s] w (.int .i64 (tagErr s.data.toList)) := by
  by_cases hl : 96 < s.size
  · have hl2 : (96 : Int) < (s.size : Int) := by omega
    have hv : tagErr s.data.toList = 16 := by
      unfold tagErr
      rw [if_neg]
      intro h
      have := tagOk_len h
      rw [len_bytes] at this
      omega
    rw [hv]
    go_enter Tryz.func51, Tryz.ntmps51
    go_wp2_with fail
    go_returns
    exact ⟨rfl, Below.refl _ _⟩
  · have hl2 : ¬ (96 : Int) < (s.size : Int) := by omega
    have c := fun w => all_c s w hs
    unfold allV at c
    cases hr : runesL s.data.toList with
    | none =>
      rw [hr] at c
      have C := Lib.hid c
      clear c
      rw [show tagErr s.data.toList = 16 by unfold tagErr tagOk; rw [hr]; rfl]
      go_enter Tryz.func51, Tryz.ntmps51
      go_wp2_with (go_at_call 75; refine (C.out _).mono ?_; rintro e w' ⟨rfl, hb⟩)
      go_returns
      exact ⟨rfl, hb⟩
    | some rs =>
      have hlen := (runes_len _ _ _ (Nat.le_refl _) hr).2
      rw [len_bytes] at hlen
      rw [hr] at c
      cases ha : rs.all runeOk with
      | false =>
        simp only [ha, Bool.false_eq_true, if_false] at c
        have C := Lib.hid c
        clear c
        rw [show tagErr s.data.toList = 16 by unfold tagErr tagOk; rw [hr]; unfold tagOf; simp [ha]]
        go_enter Tryz.func51, Tryz.ntmps51
        go_wp2_with (go_at_call 75; refine (C.out _).mono ?_; rintro e w' ⟨rfl, hb⟩)
        go_returns
        exact ⟨rfl, hb⟩
      | true =>
        simp only [ha, if_true] at c
        have C := Lib.hid c
        clear c
        by_cases h1 : 1 ≤ rs.length
        · by_cases h2 : rs.length ≤ 24
          · rw [show tagErr s.data.toList = 0 by unfold tagErr tagOk; rw [hr]; unfold tagOf; simp [ha, h1, h2]]
            generalize rs.length = n at *
            have h1' : decide ((n : Int) < 1) = false := decide_eq_false (by omega)
            have h2' : decide ((24 : Int) < (n : Int)) = false := decide_eq_false (by omega)
            go_enter Tryz.func51, Tryz.ntmps51
            go_wp2_with (go_at_call 75; refine (C.out _).mono ?_; rintro e w' ⟨rfl, hb⟩)
            go_returns
            exact ⟨rfl, hb⟩
          · rw [show tagErr s.data.toList = 16 by unfold tagErr tagOk; rw [hr]; unfold tagOf; simp [h2]]
            generalize rs.length = n at *
            have h1' : decide ((n : Int) < 1) = false := decide_eq_false (by omega)
            have h2' : decide ((24 : Int) < (n : Int)) = true := decide_eq_true (by omega)
            go_enter Tryz.func51, Tryz.ntmps51
            go_wp2_with (go_at_call 75; refine (C.out _).mono ?_; rintro e w' ⟨rfl, hb⟩)
            go_returns
            exact ⟨rfl, hb⟩
        · rw [show tagErr s.data.toList = 16 by unfold tagErr tagOk; rw [hr]; unfold tagOf; simp [h1]]
          generalize rs.length = n at *
          have h1' : decide ((n : Int) < 1) = true := decide_eq_true (by omega)
          go_enter Tryz.func51, Tryz.ntmps51
          go_wp2_with (go_at_call 75; refine (C.out _).mono ?_; rintro e w' ⟨rfl, hb⟩)
          go_returns
          exact ⟨rfl, hb⟩
end Go.Proofs.YthkngleegefgbaaGreatDoor

/- Iterators over strings, as a fact that is carried. -/
namespace Go.Proofs.YthkngleegefgbaaGreatDoor
open Go.RowKit
set_option linter.unusedVariables false
theorem Row.drew {W : World} {x : Nat} {cs : Array Value} {t : TypeId} (h : Row W x cs t) : Row W.drew x cs t := ⟨h.eq⟩
/-- Block b is an iterator over s, at pos. -/
structure It (W : World) (b : Nat) (s : ByteArray) (pos : Nat) : Prop where
  eq : W.heap[b]? = some (.stringIter s pos)
theorem It.lt {W : World} {b : Nat} {s : ByteArray} {pos : Nat} (h : It W b s pos) : b < W.heap.size := (Array.getElem?_eq_some_iff.1 h.eq).1
theorem It.on {W W' : World} {b : Nat} {s : ByteArray} {pos : Nat} (h : It W b s pos) (hb : Below W.heap.size W W') : It W' b s pos := ⟨(hb.block b h.lt).trans h.eq⟩
theorem It.new (W : World) (s : ByteArray) : It (W.iter s 0) W.heap.size s 0 := ⟨World.iter_heap W s 0⟩
theorem below_iter (W : World) (s : ByteArray) : Below W.heap.size W (W.iter s 0) := below_alloc W _
theorem It.set {W : World} {b y : Nat} {s : ByteArray} {pos : Nat} (h : It W b s pos) (hn : y ≠ b) (j : Nat) (v : Value) : It (W.setCell ⟨y, j, none⟩ v) b s pos := by
  refine ⟨Eq.trans ?_ h.eq⟩
  simp only [World.setCell, Array.getElem?_modify]
  rw [if_neg hn]
theorem It.step {W : World} {b : Nat} {s : ByteArray} {pos : Nat} (h : It W b s pos) (pos' : Nat) : It (W.iterAt b s pos') b s pos' := ⟨Lib.iterAt_heap W b s pos pos' h.eq⟩
theorem Row.ne_iter {W : World} {x b : Nat} {cs : Array Value} {t : TypeId} {s : ByteArray} {pos : Nat} (h : Row W x cs t) (i : It W b s pos) : x ≠ b := by
  intro e
  subst e
  have := h.eq.symm.trans i.eq
  injection this with this
  cases this
theorem Row.iter {W : World} {x b : Nat} {cs : Array Value} {t : TypeId} {s : ByteArray} {pos : Nat} (h : Row W x cs t) (i : It W b s pos) (pos' : Nat) : Row (W.iterAt b s pos') x cs t :=
  ⟨(Lib.iterAt_other W b x s pos' (h.ne_iter i)).trans h.eq⟩
theorem It.next {W : World} {b : Nat} {s : ByteArray} {pos : Nat} (h : It W b s pos) (hp : pos < s.size) (n : Nat) (hs : (s[pos]'hp).toNat = n) (hn : n < 128) (ty : TypeId) :
    (Instr.next (.pointer (some ⟨b, 0, none⟩)) true ty).run Tryz.prog W = .ok (.tuple #[.bool true, .int .i64 pos, .int .i32 n]) (W.iterAt b s (pos + 1)) := by
  subst hs
  exact Lib.run_next_ascii_at W b s pos ty h.eq hp hn
theorem It.done {W : World} {b : Nat} {s : ByteArray} {pos : Nat} (h : It W b s pos) (hp : ¬ pos < s.size) (ty : TypeId) :
    (Instr.next (.pointer (some ⟨b, 0, none⟩)) true ty).run Tryz.prog W = .ok (.tuple #[.bool false]) W := Lib.run_next_end_at W b s pos ty h.eq hp
end Go.Proofs.YthkngleegefgbaaGreatDoor

/- Answers (chapter 6): the letter's number. -/
namespace Go.Proofs.YthkngleegefgbaaGreatDoor
open Go.RowKit
set_option linter.unusedVariables false
set_option linter.unusedSimpArgs false
set_option maxHeartbeats 4000000
set_option maxRecDepth 20000
/-- The number of a letter, less one. -/
def aIdx (x : UInt8) : Int := if x = 111 then 0 else if x = 108 then 1 else if x = 102 then 2 else -1
theorem aIdx_ok (x : UInt8) : (olf x = true ∧ (aIdx x = 0 ∨ aIdx x = 1 ∨ aIdx x = 2)) ∨ (olf x = false ∧ aIdx x = -1) := by
  unfold olf aIdx
  by_cases h1 : x = 111
  · subst h1; exact .inl ⟨rfl, .inl rfl⟩
  · by_cases h2 : x = 108
    · subst h2; exact .inl ⟨rfl, .inr (.inl rfl)⟩
    · by_cases h3 : x = 102
      · subst h3; exact .inl ⟨rfl, .inr (.inr rfl)⟩
      · refine .inr ⟨?_, by rw [if_neg h1, if_neg h2, if_neg h3]⟩
        simp [h1, h2, h3]
theorem aidx_c (x : UInt8) (b : Nat) (w : World) (h1 : w.cell? ⟨b, 1, none⟩ = some (.int .u8 111)) (h2 : w.cell? ⟨b, 2, none⟩ = some (.int .u8 108)) (h3 : w.cell? ⟨b, 3, none⟩ = some (.int .u8 102)) :
    Calls Tryz.prog 97 #[.slice (some ⟨b, 1, none⟩) 3 3, .int .u8 (x.toNat : Int)] w fun e w' => e = .returned (.int .i64 (aIdx x)) ∧ w' = w := by
  unfold aIdx
  have key : ∀ c : UInt8, x ≠ c → ((x.toNat : Int) == (c.toNat : Int)) = false := fun c hc => by
    rw [beq_eq_false_iff_ne]
    intro h
    exact hc (UInt8.toNat_inj.1 (by omega))
  by_cases e1 : x = 111
  · subst e1
    go_enter Tryz.func97, Tryz.ntmps97
    go_wp2
    go_rounds 4
    go_returns
    exact ⟨rfl, rfl⟩
  · have f1 := key 111 e1
    by_cases e2 : x = 108
    · subst e2
      go_enter Tryz.func97, Tryz.ntmps97
      go_wp2
      go_rounds 4
      go_returns
      exact ⟨rfl, rfl⟩
    · have f2 := key 108 e2
      by_cases e3 : x = 102
      · subst e3
        go_enter Tryz.func97, Tryz.ntmps97
        go_wp2
        go_rounds 4
        go_returns
        exact ⟨rfl, rfl⟩
      · have f3 := key 102 e3
        rw [if_neg e1, if_neg e2, if_neg e3]
        change ((x.toNat : Int) == 111) = false at f1
        change ((x.toNat : Int) == 108) = false at f2
        change ((x.toNat : Int) == 102) = false at f3
        generalize (x.toNat : Int) = n at *
        clear e1 e2 e3 key
        go_enter Tryz.func97, Tryz.ntmps97
        go_wp2
        go_rounds 4
        go_returns
        exact ⟨rfl, rfl⟩
end Go.Proofs.YthkngleegefgbaaGreatDoor

/- A region that draws its order within a round of a range over a function, held by hand: what is shown of it outside of rounds serves inside. -/
namespace Go.Proofs.YthkngleegefgbaaGreatDoor
open Go.RowKit
set_option linter.unusedVariables false

def noDefer (o : Oper) : Bool := match o.op with
  | .defer _ => false
  | _ => true
theorem noDefer_spec {o : Oper} (h : noDefer o = true) : ∀ c, o.op ≠ .defer c := by
  intro c e
  unfold noDefer at h
  rw [e] at h
  cases h
theorem oper_round {l n : Nat} {P : Program} {Q : Exit → Act → World → Prop} {o : Oper} {a : Act} {w : World} {K : Act → World → Prop} (hd : noDefer o = true) (h : o.wp P a w K Q) : o.wpIn (Fence.wide.inRound l) n P a w K Q := by
  refine ⟨fun _ _ => trivial, ?_⟩
  rw [show (Fence.wide.inRound l).round = some l from rfl, Oper.semAt_some l _ o (noDefer_spec hd)]
  unfold Oper.wp at h
  generalize (execOp a.eval o).run P w = r at *
  cases r with
  | ok x w' =>
    cases x <;> simp only [Oper.upon, Oper.uponIn] at h ⊢ <;>
      first
        | exact h
        | exact ⟨fun hh => (by cases hh), CallsIn.inRound l (callsIn_wide.2 h)⟩
        | exact ⟨fun hh => (by cases hh), fun c cs _ => let ⟨v, w', r, s⟩ := h c cs; ⟨v, w', r, stepsIn_wide.2 s⟩⟩
  | halt x w' => cases x <;> simp only [Oper.upon, Oper.uponIn] at h ⊢ <;> exact h
theorem wpOp_round {l n : Nat} {P : Program} {ops : Array Oper} {Q : Exit → Act → World → Prop} {i : Nat} {a : Act} {w : World} {K : Act → World → Prop} (hd : ∀ o, ops[i]? = some o → noDefer o = true) (hl : ¬ LetsOut Q) (h : wpOp P ops Q i K a w) : wpOpIn (Fence.wide.inRound l) n P ops Q i K a w := by
  unfold wpOp at h
  unfold wpOpIn
  cases ho : ops[i]? with
  | none => rw [ho] at h; exact h
  | some o =>
    rw [ho] at h
    simp only at h ⊢
    split
    · rename_i hw
      rw [if_pos hw] at h
      exact oper_round (hd o ho) (h.resolve_right fun hh => hl hh.2)
    · rename_i hw
      rw [if_neg hw] at h
      exact ⟨fun _ _ => trivial, h⟩
theorem wpAny_round {l n : Nat} {P : Program} {md : Region.Mode} {ops : Array Oper} {Q : Exit → Act → World → Prop} (hd : ∀ (i : Nat) (o : Oper), ops[i]? = some o → noDefer o = true) (hl : ¬ LetsOut Q) :
    ∀ (fuel : Nat) (listed : Array Bool) (a : Act) (w : World), wpAny P md ops Q fuel listed a w → wpAnyIn (Fence.wide.inRound l) n P md ops Q fuel listed a w
  | 0, _, _, _, h => h
  | fuel + 1, listed, a, w, h => ⟨h.1, fun i hi => wpOpIn_mono (fun a' w' h' => wpAny_round hd hl fuel _ a' w' h') (wpOp_round (hd i) hl (h.2 i hi))⟩
theorem all_noDefer {ops : Array Oper} (h : ops.all noDefer = true) : ∀ (i : Nat) (o : Oper), ops[i]? = some o → noDefer o = true := by
  intro i o ho
  obtain ⟨hi, rfl⟩ := Array.getElem?_eq_some_iff.1 ho
  exact Array.all_eq_true.1 h i hi
/-- A region held by hand that does not panic: nothing is asked of what is behind a panic. -/
theorem wp_region_held_np {P : Program} {id : Nat} {ops : Array Oper} {Q : Exit → Act → World → Prop} {S : World → Prop} {a : Act} {w : World} (hm : P.follows .mixedOrders = true) (hS : S w.drew)
    (h : S w.drew → wpAnyH P .any ops (fun e a w => e = .normal ∧ Q e a w) S ops.size (Array.replicate ops.size false) a w.drew) : (Code.region id ops true).wp P Q a w :=
  Code.wp_mono (fun e a w hh => hh.2) (wp_region_held_drew hm hS h)
/-- The same region in a round. -/
theorem wpIn_region_round {l n : Nat} {P : Program} {id : Nat} {ops : Array Oper} {Q : Exit → Act → World → Prop} {S : World → Prop} {a : Act} {w : World} (hm : P.follows .mixedOrders = true) (hd : ops.all noDefer = true) (hS : S w.drew)
    (h : S w.drew → wpAnyH P .any ops (fun e a w => e ≠ .outgrown ∧ Q e a w) S ops.size (Array.replicate ops.size false) a w.drew) : (Code.region id ops true).wpIn (Fence.wide.inRound l) n P Q a w := by
  have h1 := wpAny_of_held _ _ _ _ (h hS)
  have hl : ¬ LetsOut (fun e a w => e ≠ Exit.outgrown ∧ Q e a w) := by
    rintro ⟨a, w, h1, _⟩
    exact h1 rfl
  have h2 := wpAny_round (l := l) (n := n) (all_noDefer hd) hl _ _ _ _ h1
  exact Code.wpIn_mono (fun e a w hh => hh.2) (wpIn_region_any hm h2)
theorem row_kept {W W' : World} {row : Option Nat} {x : Nat} {cs : Array Value} {t : TypeId} (h : Row W x cs t) (hg : W.grownBy W' row) (hrow : ∀ r, row = some r → ∃ o : Obj, W.heap[r]? = some o ∧ o.isCells = false) : Row W' x cs t :=
  ⟨(hg.block x h.lt (fun e => by
    obtain ⟨o, ho, hc⟩ := hrow x e.symm
    rw [h.eq] at ho
    injection ho with ho
    rw [← ho] at hc
    cases hc)).trans h.eq⟩
end Go.Proofs.YthkngleegefgbaaGreatDoor

/- Answers: their letters as laid; their iterator; Parse; the text of a part. -/
namespace Go.Proofs.YthkngleegefgbaaGreatDoor
open Go.RowKit Go.Shelf
set_option linter.unusedVariables false
set_option linter.unusedSimpArgs false
set_option maxHeartbeats 8000000
set_option maxRecDepth 20000
attribute [local go_sem] Oper.semAt_some
/-- The letters of answers lie as they were laid, too. -/
structure EnvL (w : World) : Prop extends EnvP w where
  ltr : ∃ g, g < w.heap.size ∧ Tryz.prog.globalNamed "estray/answer.letters" = some g ∧ w.var? Tryz.prog "estray/answer.letters" = some #[.int .u8 0, .int .u8 111, .int .u8 108, .int .u8 102]
theorem EnvL.on {w w' : World} (h : EnvL w) (hb : Below w.heap.size w w') : EnvL w' := by
  obtain ⟨he, g, hg, hn, hv⟩ := h
  exact ⟨he.on hb, g, Nat.lt_of_lt_of_le hg hb.size, hn, var?_below hb hn hg hv⟩
theorem letters_named : Tryz.prog.globalNamed "estray/answer.letters" = some 0 := by kernel_rfl
theorem EnvL.cells {w : World} (h : EnvL w) : 0 < w.heap.size ∧ ∀ j, w.cell? ⟨0, j, none⟩ = (#[.int .u8 0, .int .u8 111, .int .u8 108, .int .u8 102] : Array Value)[j]? := by
  obtain ⟨_, g, hg, hn, hv⟩ := h
  rw [letters_named] at hn
  injection hn with hn
  subst hn
  refine ⟨hg, fun j => ?_⟩
  unfold World.var? at hv
  rw [letters_named] at hv
  simp only [Option.bind_some] at hv
  split at hv
  · rename_i cs t f hh
    injection hv with hv
    subst hv
    simp [World.cell?, hh]
  · cases hv
/-- What a round keeps: what lay below n, and the box of the text. -/
def KpR (n bx : Nat) (A B : World) : Prop := Below n A B ∧ ∀ cs, Row A bx cs 9 → Row B bx cs 9
theorem kpR_t {n bx : Nat} {A B C : World} (h : KpR n bx A B) (k : KpR n bx B C) : KpR n bx A C := ⟨h.1.trans k.1, fun cs hr => k.2 cs (h.2 cs hr)⟩
theorem kpR_b {n bx : Nat} {w : World} (hn : n ≤ w.heap.size) (hx : bx < w.heap.size) (W : World) (l : Nat) (o o' : Obj) (hl : w.heap.size ≤ l) (h : W.heap[l]? = some o) (h1 : o.isCells = false) (h2 : o.isWalk = false) : KpR n bx W (W.putObj l o') :=
  ⟨belowK_b hn W l o o' hl h h1 h2, fun cs hr => ⟨(World.putObj_heap_other (by omega)).trans hr.eq⟩⟩
theorem kpR_refl (n bx : Nat) (A : World) : KpR n bx A A := ⟨Below.refl _ _, fun _ h => h⟩
/-- The numbers of letters. -/
def aNum (l : List UInt8) : List Int := l.map fun x => aIdx x + 1
theorem aNum_snoc (l : List UInt8) (x : UInt8) : aNum (l ++ [x]) = aNum l ++ [aIdx x + 1] := by simp [aNum]
theorem take_nx (s : ByteArray) (k : Nat) (h : k < s.size) : s.data.toList.take (k + 1) = s.data.toList.take k ++ [s[k]] := by
  have hl : k < s.data.toList.length := by rw [len_bytes]; exact h
  rw [List.take_succ_eq_append_getElem hl]
  rfl
theorem grown_drew (W : World) : W.grownBy W.drew none := ⟨rfl, rfl, rfl, Nat.le_refl _, fun _ _ _ => rfl⟩
/-- What has come of an iterator over answers. -/
def ansS (s : ByteArray) (ys : List Int) : Prop := (ys.length = s.size ∧ s.data.toList.all olf = true) ∨ (ys.length < s.size ∧ s.data.toList.all olf = false)
theorem not_all {s : ByteArray} {k : Nat} (h : k < s.size) (ho : olf s[k] = false) : s.data.toList.all olf = false := by
  cases hh : s.data.toList.all olf with
  | false => rfl
  | true =>
    have := List.all_eq_true.1 hh s[k] (by
      have hl : k < s.data.toList.length := by rw [len_bytes]; exact h
      exact List.getElem_mem hl)
    rw [ho] at this
    cases this
theorem read1_in (n : Nat) (hn : 1 ≤ n) (l Bn n0 : Nat) (s : ByteArray) (hs : s.size ≤ 2000) (J Jx : List Int → World → Prop) (W : World) (h0n : 0 < n0)
    (hJd : ∀ s W, J s W → J s W.drew)
    (hY : ∀ pre x W1, J pre W1 → pre.length < 2000 → YieldAt Fence.wide (n - 1) Tryz.prog l #[.int .i64 x] W1 fun e W' => (e = .returned (.bool true) ∧ J (pre ++ [x]) W' ∧ KpR n0 Bn W1 W') ∨ (e = .returned (.bool false) ∧ Jx (pre ++ [x]) W'))
    (hr0 : Row W Bn #[.string s] 9) (hE : ∀ j, W.cell? ⟨0, j, none⟩ = (#[.int .u8 0, .int .u8 111, .int .u8 108, .int .u8 102] : Array Value)[j]?) (h0 : J [] W) :
    CallsIn Fence.wide n Tryz.prog 96 #[.func (.yield l) #[] #[], .pointer (some ⟨Bn, 0, none⟩)] W fun e W' => (∃ v, e = .returned v) ∧
      ((∃ ys, ansS s ys ∧ J ys W') ∨ (∃ pre, True ∧ Jx pre W')) := by
  have HJ := Lib.hid hJd
  have HY := Lib.hid hY
  have hsl := len_bytes s
  clear hJd hY
  refine callsIn_of_wp Tryz.func96 rfl trivial ?_ rfl
  simp only [Tryz.ntmps96, List.size_toArray, List.length_cons, List.length_nil, Nat.reduceAdd, Nat.reduceSub, Array.replicate_succ, Array.replicate_zero, List.push_toArray, List.append_toArray, List.nil_append, List.cons_append]
  have y0 := hr0.cell
  gi_wp2
  clear y0
  gi_loopw [7] (fun i wr => ∃ k : Nat, k ≤ s.size ∧ i = .int .i64 k ∧ J (aNum (s.data.toList.take k)) wr ∧ (s.data.toList.take k).all olf = true ∧ Row wr Bn #[.string s] 9 ∧ (∀ j, wr.cell? ⟨0, j, none⟩ = (#[.int .u8 0, .int .u8 111, .int .u8 108, .int .u8 102] : Array Value)[j]?)) (fun i _ => s.size - (intOf i).toNat)
  case atStart => exact ⟨0, by omega, rfl, h0, rfl, hr0, hE⟩
  case round =>
    obtain ⟨k, hk, rfl, hJk, hall, hr, hl⟩ := hrel
    clear hr0 hE h0
    by_cases hlt : k < s.size
    · have hJ2 := HJ.out _ _ hJk
      have hr2 := hr.drew
      have hlen : (aNum (s.data.toList.take k)).length < 2000 := by simp [aNum, hsl]; omega
      have hY2 := HY.out _ (aIdx s[k] + 1) _ hJ2 hlen
      rw [← aNum_snoc, ← take_nx s k hlt] at hY2
      have hw : IntKind.i64.wrap (aIdx s[k] + 1) = aIdx s[k] + 1 := by
        rcases aIdx_ok s[k] with ⟨_, h | h | h⟩ | ⟨_, h⟩ <;> rw [h] <;> rfl
      have hnx := take_nx s k hlt
      have hL2 : ∀ j, wr.drew.cell? ⟨0, j, none⟩ = (#[.int .u8 0, .int .u8 111, .int .u8 108, .int .u8 102] : Array Value)[j]? := hl
      have hai := aIdx_ok s[k]
      have hx := aidx_c s[k] 0 wr.drew (hl 1) (hl 2) (hl 3)
      have hnot := not_all (s := s) (k := k) hlt
      have HX := Lib.hid hx
      have HH := Lib.hid hY2
      have HJ2 := Lib.hid hJ2
      clear hx hY2 hJ2 hJk
      gi_wp2_with fail
      refine wpIn_wide.2 ?_
      refine wp_region_held_drew (S := fun W' => (∀ j, W'.cell? ⟨Bn, j, none⟩ = (#[.string s] : Array Value)[j]?) ∧ (∀ j, W'.cell? ⟨0, j, none⟩ = (#[.int .u8 0, .int .u8 111, .int .u8 108, .int .u8 102] : Array Value)[j]?)) (by kernel_rfl) ⟨hr2.cell, hL2⟩ (fun hHeld => ?_)
      refine' wpAnyH_take (i := 0) (oi := _) (v := _) ?_ (by kernel_rfl) (by kernel_rfl) (by kernel_rfl) ?_ (Or.inl ⟨?_, ?_⟩) (by assumption) ?_
      rotate_left 2
      · (simp only [List.getElem?_toArray, List.getElem?_cons_succ, List.getElem?_cons_zero]; rfl)
      · first | exact fun _ _ _ h => h | exact fun _ _ _ h => nomatch h.1
      · rfl
      · (intro W hSW; (try dsimp only at hSW); go_split_ands; first | (go_simp; done) | (go_simp; with_reducible rfl))
      try simp only [Act.put, List.setIfInBounds_toArray, List.set_cons_zero, List.set_cons_succ]
      refine' wpAnyH_take (i := 1) (oi := _) (v := _) ?_ (by kernel_rfl) (by kernel_rfl) (by kernel_rfl) ?_ (Or.inl ⟨?_, ?_⟩) (by assumption) ?_
      rotate_left 2
      · (simp only [List.getElem?_toArray, List.getElem?_cons_succ, List.getElem?_cons_zero]; rfl)
      · first | exact fun _ _ _ h => h | exact fun _ _ _ h => nomatch h.1
      · rfl
      · (intro W hSW; (try dsimp only at hSW); go_split_ands; first | (go_simp; done) | (go_simp; with_reducible rfl))
      try simp only [Act.put, List.setIfInBounds_toArray, List.set_cons_zero, List.set_cons_succ]
      refine' wpAnyH_take (i := 2) (oi := _) (v := _) ?_ (by kernel_rfl) (by kernel_rfl) (by kernel_rfl) ?_ (Or.inl ⟨?_, ?_⟩) (by assumption) ?_
      rotate_left 2
      · (simp only [List.getElem?_toArray, List.getElem?_cons_succ, List.getElem?_cons_zero]; rfl)
      · first | exact fun _ _ _ h => h | exact fun _ _ _ h => nomatch h.1
      · rfl
      · (intro W hSW; (try dsimp only at hSW); go_split_ands; first | (go_simp; done) | (go_simp; with_reducible rfl))
      try simp only [Act.put, List.setIfInBounds_toArray, List.set_cons_zero, List.set_cons_succ]
      refine' wpAnyH_take (i := 3) (oi := _) (v := _) ?_ (by kernel_rfl) (by kernel_rfl) (by kernel_rfl) ?_ (Or.inl ⟨?_, ?_⟩) (by assumption) ?_
      rotate_left 2
      · (simp only [List.getElem?_toArray, List.getElem?_cons_succ, List.getElem?_cons_zero]; rfl)
      · first | exact fun _ _ _ h => h | exact fun _ _ _ h => nomatch h.1
      · rfl
      · (intro W hSW; (try dsimp only at hSW); go_split_ands; first | (go_simp; done) | (go_simp; with_reducible rfl))
      try simp only [Act.put, List.setIfInBounds_toArray, List.set_cons_zero, List.set_cons_succ]
      refine wpAnyH_ready (rs := [4]) (by kernel_rfl) (by simp) ?_
      refine' AllReadyH.cons (o := _) ?_ (fun K hK => ?_) AllReadyH.nil
      rotate_left 1
      · (simp only [List.getElem?_toArray, List.getElem?_cons_succ, List.getElem?_cons_zero]; rfl)
      go_simp
      refine HX.out.mono ?_
      rintro e w' ⟨rfl, rfl⟩
      go_simp
      refine hK.out _ _ ⟨hr2.cell, hL2⟩ (fun hHeld => ?_)
      clear hK K
      refine' wpAnyH_take (i := 5) (oi := _) (v := _) ?_ (by kernel_rfl) (by kernel_rfl) (by kernel_rfl) ?_ (Or.inl ⟨?_, ?_⟩) (by assumption) ?_
      rotate_left 2
      · (simp only [List.getElem?_toArray, List.getElem?_cons_succ, List.getElem?_cons_zero]; rfl)
      · first | exact fun _ _ _ h => h | exact fun _ _ _ h => nomatch h.1
      · rfl
      · (intro W hSW; (try dsimp only at hSW); go_split_ands; first | (go_simp; done) | (go_simp; with_reducible rfl))
      try simp only [Act.put, List.setIfInBounds_toArray, List.set_cons_zero, List.set_cons_succ]
      refine' wpAnyH_take (i := 6) (oi := _) (v := _) ?_ (by kernel_rfl) (by kernel_rfl) (by kernel_rfl) ?_ (Or.inl ⟨?_, ?_⟩) (by assumption) ?_
      rotate_left 2
      · (simp only [List.getElem?_toArray, List.getElem?_cons_succ, List.getElem?_cons_zero]; rfl)
      · first | exact fun _ _ _ h => h | exact fun _ _ _ h => nomatch h.1
      · rfl
      · (intro W hSW; (try dsimp only at hSW); go_split_ands; first | (go_simp; done) | (go_simp; with_reducible rfl))
      try simp only [Act.put, List.setIfInBounds_toArray, List.set_cons_zero, List.set_cons_succ]
      clear hHeld
      refine wpAnyH_done (by kernel_rfl) ?_ _
      clear hr hl HX
      rcases hai with ⟨ho, hv⟩ | ⟨ho, hv⟩
      · have hne : (aIdx s[k] + 1 == 0) = false := by rw [beq_eq_false_iff_ne]; omega
        have hall2 : (s.data.toList.take (k + 1)).all olf = true := by rw [hnx, List.all_append, hall]; simp [ho]
        have HA := Lib.hid hall2
        generalize aIdx s[k] + 1 = v at *
        obtain ⟨fn, tmps, assign, body, hy, hR⟩ := HH.out
        have HR := Lib.hid hR
        clear hR HH HJ2 hall hall2 hv hw hnot ho hnx
        gi_wp2
        refine HR.out.mono ?_
        rintro e W3 (⟨rfl, hJ3, hk3⟩ | ⟨rfl, hJx3⟩)
        · have HJ3 := Lib.hid hJ3
          have hr3 := hk3.2 _ hr2
          have hl3 : ∀ j, W3.cell? ⟨0, j, none⟩ = (#[.int .u8 0, .int .u8 111, .int .u8 108, .int .u8 102] : Array Value)[j]? := fun j => (hk3.1.cell (p := ⟨0, j, none⟩) h0n).trans (hL2 j)
          clear hJ3 hk3
          gi_wp2
          go_roundw
          case rel => exact ⟨k + 1, by omega, by go_num, HJ3.out, HA.out, hr3, hl3⟩
          case measure => simp [intOf]; omega
        · have HJ3 := Lib.hid hJx3
          clear hJx3
          gi_wp2
          refine bodyPost_ret (results_none rfl _ _ _) rfl ?_
          exact ⟨⟨_, rfl⟩, .inr ⟨_, trivial, HJ3.out⟩⟩
      · rw [hv]
        clear hw HH hv
        gi_wp2
        refine ⟨fun _ h => (by cases h), ?_⟩
        gi_wp2
        refine bodyPost_ret (results_none rfl _ _ _) rfl ?_
        exact ⟨⟨_, rfl⟩, .inl ⟨_, .inr ⟨by simp [aNum, hsl]; omega, hnot ho⟩, HJ2.out⟩⟩
    · gi_wp2
      go_end0
      have ek : k = s.size := by omega
      have et : s.data.toList.take k = s.data.toList := by rw [ek]; exact List.take_of_length_le (by rw [hsl]; exact Nat.le_refl _)
      rw [et] at hJk hall
      exact ⟨⟨_, rfl⟩, .inl ⟨_, .inl ⟨by simp [aNum, hsl], hall⟩, hJk⟩⟩
theorem read_stops (m Bn n0 : Nat) (hm : 1 ≤ m) (s : ByteArray) (hs : s.size ≤ 2000) (w : World) (h0n : 0 < n0) (hn0 : n0 ≤ w.heap.size)
    (hr0 : Row w Bn #[.string s] 9) (hE : EnvL w) :
    SeqStopsK Fence.wide m Tryz.prog 96 #[.pointer (some ⟨Bn, 0, none⟩)] (fun x : Int => #[.int .i64 x]) (KpR n0 Bn) (ansS s) (fun _ => True) 2000 w := fun l J Jx W hW hJ hJx hY h0 =>
  read1_in m hm l Bn n0 s hs J Jx W h0n (fun s W h => hJ s W _ none h (grown_drew W) (fun r e => by cases e)) hY (hr0.on hW) (fun j => by
    obtain ⟨h1, h2⟩ := (hE.on hW).cells
    exact h2 j) h0
theorem read_c (s : ByteArray) (w : World) : Calls Tryz.prog 81 #[.string s] w fun e w' => e = .returned (.func (.func 96) #[] #[.pointer (some ⟨w.heap.size, 0, none⟩)]) ∧ w' = w.alloc (.cells #[.string s] 9) := by
  go_enter Tryz.func81, Tryz.ntmps81
  go_wp2_with fail
  go_returns
  exact ⟨rfl, rfl⟩
theorem int_info : (Tryz.prog.info? 3).map (fun i => (i.zero, i.size, i.bytes)) = some (some (.int .i64 0), 1, 8) := by kernel_rfl
theorem row_apart {W : World} {B : Nat} {t e : TypeId} {cs : Array Value} (h : Row W B cs t) (hte : t ≠ e) {base size k : Nat} {v : Value} {xs : List Value} (hr : W.ownsRow base e size v k xs) : some B ≠ v.ownBlock := by
  rcases hr.2 with ⟨rfl, _⟩ | ⟨g, cap, cur, rfl, _, hgb, _⟩
  · simp [Value.ownBlock]
  · intro e'
    obtain rfl : B = g := by simpa [Value.ownBlock] using e'
    have := h.eq.symm.trans hgb
    simp at this
    exact hte this.2
theorem ownsRow_len {W : World} {base : Nat} {e : TypeId} {size : Nat} {v : Value} {k : Nat} {xs : List Value} (h : W.ownsRow base e size v k xs) : ∃ a c, v = .slice a k c := by
  rcases h.2 with ⟨rfl, h0⟩ | ⟨g, cap, _, rfl, _⟩
  · rw [h0]; exact ⟨_, _, rfl⟩
  · exact ⟨_, _, rfl⟩
/-- What Parse says of a text. -/
def ansE (s : List UInt8) : Int := if 2000 < s.length then 11 else if s.all olf then 0 else 9
theorem aparse_c (s : ByteArray) (w : World) (hE : EnvL w) : Calls Tryz.prog 56 #[.string s] w fun e w' => (∃ v, e = .returned (.tuple #[v, .int .i64 (ansE s.data.toList)])) ∧ Below w.heap.size w w' := by
  have hsl := len_bytes s
  by_cases hs : (2000 : Int) < s.size
  · have he : ansE s.data.toList = 11 := by unfold ansE; rw [if_pos (by rw [hsl]; omega)]
    rw [he]
    go_enter Tryz.func56, Tryz.ntmps56
    go_wp2_with fail
    go_returns
    exact ⟨⟨_, rfl⟩, Below.refl _ _⟩
  · have HE := Lib.hid hE
    have HC := Lib.hid (read_c s)
    obtain ⟨i0, hi, hz0, hz1, hz2⟩ := info_parts int_info
    refine (callsIn_wide (n := 3)).1 ?_
    refine callsIn_of_wp_marks Tryz.func56 rfl trivial ?_ rfl
    simp only [Tryz.ntmps56, List.size_toArray, List.length_cons, List.length_nil, Nat.reduceAdd, Nat.reduceSub, Array.replicate_succ, Array.replicate_zero, List.push_toArray, List.append_toArray, List.nil_append, List.cons_append]
    refine wpIn_wide.2 ?_
    go_wp2_with fail
    refine Calls.mono (HC.out _) ?_
    rintro e w1 ⟨rfl, rfl⟩
    go_wp2_with fail
    have hs2 : s.size ≤ 2000 := by omega
    have hv0 : Boxed ((w.alloc (.cells #[.slice none 0 0] 94)).alloc (.cells #[.string s] 9)) w.heap.size 94 (.slice none 0 0) := (Boxed.new w _ _).alloc _
    have hb0 : Below w.heap.size w ((w.alloc (.cells #[.slice none 0 0] 94)).alloc (.cells #[.string s] 9)) := ((Below.refl _ w).alloc (Nat.le_refl _) _).alloc (by simp) _
    have hr0 : Row ((w.alloc (.cells #[.slice none 0 0] 94)).alloc (.cells #[.string s] 9)) (w.heap.size + 1) #[.string s] 9 := by simpa using Row.new (W := w.alloc (.cells #[.slice none 0 0] 94)) (cs := #[.string s]) (t := 9)
    have hz : ((w.alloc (.cells #[.slice none 0 0] 94)).alloc (.cells #[.string s] 9)).heap.size = w.heap.size + 2 := by simp
    have hgl := (HE.out.cells).1
    generalize (w.alloc (.cells #[.slice none 0 0] 94)).alloc (.cells #[.string s] 9) = W8 at *
    have hro : Fence.wide.round = none := rfl
    refine wpIn_wide.1 (?_ : Code.wpIn Fence.wide 3 _ _ _ _ _)
    refine wpIn_rangeFunc_ownF hro (by omega) (gf := 96) (lb := #[.pointer (some ⟨w.heap.size + 1, 0, none⟩)]) rfl trivial (enters_of Tryz.func96 (by kernel_rfl) rfl)
      (read_stops 2 (w.heap.size + 1) w.heap.size (by omega) s hs2 W8 hgl (by omega) hr0 (HE.out.on hb0)) kpR_t (kpR_b (by omega) (by omega)) (Below.refl _ _) (fun _ => rfl)
      (fun (pre : List Int) W => (∃ v, Boxed W w.heap.size 94 v ∧ W.ownsRow w.heap.size 3 1 v pre.length (pre.map (Value.int .i64 ·)) ∧ True) ∧ Below w.heap.size w W)
      (fun _ _ _ => False)
      (OwnFrom.and (Own.from (holdsRow_own w.heap.size w.heap.size 94 3 1 (fun pre : List Int => pre.length) (fun pre : List Int => pre.map (Value.int .i64 ·)) (fun _ _ => True)) _) (ownFrom_below (Nat.le_refl _) (by omega)))
      (fun _ _ _ _ _ hs _ _ => hs)
      ⟨⟨_, hv0, World.ownsRow_nil _ _ _ _, trivial⟩, hb0⟩
      (fun x => { tmps := #[.string s, undef, .slice none 0 0, .int .i64 0, .pointer (some ⟨w.heap.size, 0, none⟩), .int .i64 x, .string s, .int .i64 s.size, .bool false, .string s, .func (.func 96) #[] #[.pointer (some ⟨w.heap.size + 1, 0, none⟩)], .int .i64 x, undef, undef, undef, undef, undef, undef, undef, undef, undef, undef], defers := [] })
      ?assign ?body ?done ?stop
    case assign =>
      intro l x W K hK
      gi_wp2
      exact hK
    case body =>
      rintro l pre x W ⟨⟨v, hv, hrow, -⟩, hB⟩ hlen
      have hc0 := hv.cell
      have hle : w.heap.size ≤ w.heap.size := Nat.le_refl _
      gi_wp2_with (gi_at_builtin; refine wpListIn_append_own _ rfl _ _ 94 rfl w.heap.size 3 i0 (.int .i64 0) 1 8 Tryz.underlying94 hi hz0 hz1 hz2 rfl (by decide) _ _ _ rfl (hrow.alloc _) ⟨W.heap.size, 0, none⟩ 1 1 [.int .i64 x] rfl rfl (cell_one_new _ _ _) (by simp [Value.oneCell']) (by unfold maxLen; omega) (by omega) (by have := hB.size; simp; omega) ?_; intro v' w1 hown' hgrow _; obtain ⟨g', cap', rfl⟩ := ownsRow_succ hown'; obtain ⟨hv1, hv2, hr2, hk2, hb2⟩ := hv.appended (by decide) hrow hB.size hle hown' hgrow; have hc1 := hv1.cell; have hf1 := hv1.frozen)
      refine ⟨hk2, ⟨hb2, fun cs hr => ?_⟩, ⟨_, hv2, by simpa using hr2, trivial⟩, hB.trans hb2⟩
      have r1 := hr.on (below_alloc W (.cells #[.int .i64 x] 3))
      have r2 : Row w1 (w.heap.size + 1) cs 9 := ⟨(hgrow.block _ r1.lt (row_apart hr (by decide) hrow)).trans r1.eq⟩
      exact r2.other (by omega) 0 _
    case done =>
      rintro D ys W hD hS ⟨⟨v, hv, hrow, -⟩, hB⟩ hK
      have hc0 := hv.cell
      obtain ⟨a0, c0, rfl⟩ := ownsRow_len hrow
      clear hv hrow
      have hB2 := hB.trans (belowK_b (w := w) (Nat.le_refl _) W D _ (.deferred none) (by omega) hK rfl rfl)
      have HB := Lib.hid hB2
      clear hB hB2
      rcases hS with ⟨h1, h2⟩ | ⟨h1, h2⟩
      · have hA : ansE s.data.toList = 0 := (by unfold ansE; rw [if_neg (by rw [hsl]; omega), if_pos h2])
        rw [h1] at hc0
        gi_wp2
        go_wp2_with fail
        refine ⟨by simp, .inl ⟨_, _, rfl, run_takeDeferred hK, ?_⟩⟩
        refine ⟨.tuple #[.slice a0 s.size c0, .int .i64 0], ?_, ⟨_, by rw [hA]⟩, HB.out⟩
        simp [results, Tryz.f56, Tryz.results56, go_sem]
      · have hA : ansE s.data.toList = 9 := (by unfold ansE; rw [if_neg (by rw [hsl]; omega), if_neg (by rw [h2]; decide)])
        gi_wp2
        go_wp2_with fail
        refine ⟨by simp, .inl ⟨_, _, rfl, run_takeDeferred hK, ?_⟩⟩
        refine ⟨.tuple #[.slice none 0 0, .int .i64 9], ?_, ⟨_, by rw [hA]⟩, HB.out⟩
        simp [results, Tryz.f56, Tryz.results56, go_sem]
    case stop =>
      rintro D c pre W _ _ h _
      exact h.elim
theorem text_a (s : ByteArray) (w : World) (hE : EnvL w) (hs : s.size ≤ 1000000) : Ret 31 #[.int .i32 97, .string s] w (.bool (ansOk s.data.toList)) := by
  have hsl := len_bytes s
  have c := aparse_c s w hE
  have C := Lib.hid c
  clear c
  by_cases hA : ansE s.data.toList = 0
  · rw [hA] at C
    have hall : s.data.toList.all olf = true := by
      unfold ansE at hA
      split at hA
      · cases hA
      · split at hA
        · assumption
        · cases hA
    have he : ansOk s.data.toList = (decide (1 ≤ s.size) && decide (s.size ≤ 100)) := by unfold ansOk; rw [hall, hsl, Bool.and_true]
    rw [he]
    clear he hall hsl hA
    by_cases h1 : (1 : Int) ≤ s.size
    · by_cases h2 : (s.size : Int) ≤ 100
      · go_enter Tryz.func31, Tryz.ntmps31
        go_wp2_with fail
        refine Calls.mono C.out ?_
        rintro e w1 ⟨⟨v, rfl⟩, hb⟩
        go_wp2_with fail
        go_returns
        exact ⟨by rw [decide_eq_true (show 1 ≤ s.size by omega), decide_eq_true (show s.size ≤ 100 by omega)]; rfl, hb⟩
      · go_enter Tryz.func31, Tryz.ntmps31
        go_wp2_with fail
        refine Calls.mono C.out ?_
        rintro e w1 ⟨⟨v, rfl⟩, hb⟩
        go_wp2_with fail
        go_returns
        exact ⟨by rw [decide_eq_true (show 1 ≤ s.size by omega), decide_eq_false (show ¬ s.size ≤ 100 by omega)]; simp; omega, hb⟩
    · go_enter Tryz.func31, Tryz.ntmps31
      go_wp2_with fail
      refine Calls.mono C.out ?_
      rintro e w1 ⟨⟨v, rfl⟩, hb⟩
      go_wp2_with fail
      go_returns
      exact ⟨by rw [decide_eq_false (show ¬ 1 ≤ s.size by omega)]; rfl, hb⟩
  · have he : ansOk s.data.toList = false := by
      cases h : ansOk s.data.toList with
      | false => rfl
      | true =>
        exfalso
        unfold ansOk at h
        simp only [Bool.and_eq_true, decide_eq_true_eq] at h
        apply hA
        unfold ansE
        rw [if_neg (by omega), if_pos h.2]
    rw [he]
    have hq : (ansE s.data.toList == 0) = false := by rw [beq_eq_false_iff_ne]; exact hA
    clear he hsl hA
    generalize ansE s.data.toList = x at *
    go_enter Tryz.func31, Tryz.ntmps31
    go_wp2_with fail
    refine Calls.mono C.out ?_
    rintro e w1 ⟨⟨v, rfl⟩, hb⟩
    go_wp2_with fail
    go_returns
    exact ⟨rfl, hb⟩
end Go.Proofs.YthkngleegefgbaaGreatDoor

/- Texts of operations: how they are read, part by part (plain). -/
namespace Go.Proofs.YthkngleegefgbaaGreatDoor
open Go.Lib (decDigits)
set_option linter.unusedVariables false
/-- What follows a word: each part behind a space. -/
def tailL (ps : List (List UInt8)) : List UInt8 := ps.flatMap fun p => 32 :: p
theorem join_tail (w : List UInt8) : ∀ ps : List (List UInt8), Lib.join (w :: ps) [32] = w ++ tailL ps := by
  intro ps
  induction ps generalizing w with
  | nil => simp [Lib.join, List.intercalate, tailL]
  | cons p ps ih =>
    rw [show Lib.join (w :: p :: ps) [32] = w ++ 32 :: Lib.join (p :: ps) [32] by simp [Lib.join, List.intercalate], ih p]
    simp [tailL]
theorem opL_tail (kd m a b c : Int) (tag : List UInt8) : opL kd m a b c tag = wordL kd ++ tailL (partsL kd m a b c tag) := join_tail _ _
/-- The word at the head: up to the first space. -/
def hdW (l : List UInt8) : List UInt8 := (Lib.cut l [32]).1
theorem hdW_no32 (l : List UInt8) : (32 : UInt8) ∉ hdW l := by
  unfold hdW
  rcases mem_split l 32 with h | ⟨pre, post, h1, h2⟩
  · rw [cut_no _ _ h]; exact h
  · rw [h2, cut_at _ _ _ h1]; exact h1
theorem hdW_pre (l : List UInt8) : l = hdW l ++ l.drop (hdW l).length := by
  unfold hdW
  rcases mem_split l 32 with h | ⟨pre, post, h1, h2⟩
  · rw [cut_no _ _ h]; simp
  · rw [h2, cut_at _ _ _ h1]; simp
theorem tailL_head (ps : List (List UInt8)) : tailL ps = [] ∨ ∃ r, tailL ps = 32 :: r := by
  cases ps with
  | nil => exact .inl rfl
  | cons p ps => exact .inr ⟨p ++ tailL ps, by simp [tailL]⟩
/-- A part without a space is the word at the head. -/
theorem hdW_tail {x : List UInt8} (hx : (32 : UInt8) ∉ x) (ps : List (List UInt8)) : hdW (x ++ tailL ps) = x ∧ (x ++ tailL ps).drop x.length = tailL ps := by
  refine ⟨?_, by simp⟩
  unfold hdW
  rcases tailL_head ps with h | ⟨r, h⟩
  · rw [h, List.append_nil, cut_no _ _ hx]
  · rw [h, cut_at _ _ _ hx]
/-- One part read. -/
theorem step_word {x : List UInt8} (hx : (32 : UInt8) ∉ x) {ps : List (List UInt8)} {r : List UInt8} (h : tailL (x :: ps) = 32 :: r) : hdW r = x ∧ r.drop (hdW r).length = tailL ps := by
  have e : x ++ tailL ps = r := by
    have : tailL (x :: ps) = 32 :: (x ++ tailL ps) := by simp [tailL]
    rw [this] at h
    injection h
  obtain ⟨a, b⟩ := hdW_tail hx ps
  rw [← e, a]
  exact ⟨rfl, b⟩
/-- .. and built again. -/
theorem back_word {x : List UInt8} {ps : List (List UInt8)} {r : List UInt8} (h1 : hdW r = x) (h2 : r.drop (hdW r).length = tailL ps) : tailL (x :: ps) = 32 :: r := by
  have := hdW_pre r
  rw [h1] at this h2
  rw [h2] at this
  rw [this]
  simp [tailL]
theorem step_none {ps : List (List UInt8)} {r : List UInt8} (h : tailL ps = r) (hp : ps ≠ []) : ∃ r', r = 32 :: r' := by
  cases ps with
  | nil => exact absurd rfl hp
  | cons p ps => exact ⟨p ++ tailL ps, by rw [← h]; simp [tailL]⟩
theorem step_quote {tag : List UInt8} (ht : tagOk tag = true) {r : List UInt8} (h : tailL [quoteL tag] = 32 :: r) : unqL r = (tag, r.length, 0) := by
  have e : quoteL tag = r := by
    have : tailL [quoteL tag] = 32 :: quoteL tag := by simp [tailL]
    rw [this] at h
    injection h
  rw [← e]
  have := unqL_quote ht []
  rw [List.append_nil] at this
  exact this
theorem isO_iff {kd m a b c : Int} {tag : ByteArray} {rest : List UInt8} (h : 1 ≤ kd ∧ kd ≤ 17) {m' a' b' c' kd' : Int} {tag' : ByteArray} (hr : rest = [] ∨ ∃ r, rest = 32 :: r) (hi : IsO kd' m' a' b' c' tag' (wordL kd ++ rest)) : kd' = kd ∧ opOk kd m' a' b' c' tag'.data.toList = true ∧ tailL (partsL kd m' a' b' c' tag'.data.toList) = rest := by
  obtain ⟨ho, hq⟩ := hi
  have hk := (opOk_iff.1 ho).1
  have e1 := cut_join (wordL kd') (partsL kd' m' a' b' c' tag'.data.toList) (word_no32 kd')
  have e2 : (Lib.cut (wordL kd ++ rest) [32]).1 = wordL kd := by
    rcases hr with h0 | ⟨r, h0⟩
    · rw [h0, List.append_nil, cut_no _ _ (word_no32 kd)]
    · rw [h0, cut_at _ _ _ (word_no32 kd)]
  change (Lib.cut (opL kd' m' a' b' c' tag'.data.toList) [32]).1 = wordL kd' at e1
  rw [hq, e2] at e1
  obtain rfl := word_inj hk h e1.symm
  refine ⟨rfl, ho, ?_⟩
  rw [opL_tail] at hq
  exact List.append_cancel_left hq
end Go.Proofs.YthkngleegefgbaaGreatDoor

/- Slices of strings that a call owns; words joined. -/
namespace Go.Proofs.YthkngleegefgbaaGreatDoor
open Go.RowKit
set_option linter.unusedVariables false
set_option linter.unusedSimpArgs false
theorem str_info : (Tryz.prog.info? 9).map (fun i => (i.zero, i.size, i.bytes)) = some (some (.string ⟨#[]⟩), 1, 16) := by kernel_rfl
theorem str_src1 (W : World) (c : ByteArray) : ∀ (j : Nat) (v : Value), ([.string c] : List Value)[j]? = some v → (W.alloc (.cells #[.string c] 9)).cell? ((⟨W.heap.size, 0, none⟩ : Addr).add j) = some v := by
  intro j v hj
  match j, hj with
  | 0, hj => simp at hj; subst hj; simp [Addr.add]
theorem str_src2 (W : World) (c d : ByteArray) : ∀ (j : Nat) (v : Value), ([.string c, .string d] : List Value)[j]? = some v → (W.alloc (.cells #[.string c, .string d] 9)).cell? ((⟨W.heap.size, 0, none⟩ : Addr).add j) = some v := by
  intro j v hj
  match j, hj with
  | 0, hj => simp at hj; subst hj; simp [Addr.add]
  | 1, hj => simp at hj; subst hj; simp [Addr.add]
theorem join_len (l : List ByteArray) (h0 : l.length ≤ 10) (h : ∀ x ∈ l, x.size ≤ 10000000) : (Lib.join (l.map (·.data.toList)) (⟨#[32]⟩ : ByteArray).data.toList).length ≤ 140737488355328 := by
  have key : ∀ (m : List (List UInt8)), (∀ x ∈ m, x.length ≤ 10000000) → (Lib.join m [32]).length ≤ m.length * 10000001 := by
    intro m
    induction m with
    | nil => intro _; simp [Lib.join, List.intercalate]
    | cons x m ih =>
      intro hm
      have h1 := hm x (by simp)
      have h2 := ih (fun y hy => hm y (by simp [hy]))
      cases m with
      | nil => simp [Lib.join, List.intercalate]; omega
      | cons y m =>
        rw [show Lib.join (x :: y :: m) [32] = x ++ 32 :: Lib.join (y :: m) [32] by simp [Lib.join, List.intercalate]]
        simp only [List.length_append, List.length_cons] at *
        omega
  have := key (l.map (·.data.toList)) (by intro x hx; obtain ⟨y, hy, rfl⟩ := List.mem_map.1 hx; rw [len_bytes]; exact h y hy)
  rw [List.length_map] at this
  show (Lib.join _ [32]).length ≤ _
  omega
def OwnsS (base : Nat) (W : World) (v : Value) (l : List ByteArray) : Prop := W.ownsRow base 9 1 v l.length (l.map Value.string)
theorem OwnsS.on {b : Nat} {W W' : World} {v : Value} {l : List ByteArray} (h : OwnsS b W v l) (hb : Below W.heap.size W W') : OwnsS b W' v l := by
  refine ⟨h.1, ?_⟩
  rcases h.2 with h0 | ⟨g, cap, cur, h1, h2, h3, h4⟩
  · exact .inl h0
  · exact .inr ⟨g, cap, cur, h1, h2, (hb.block g (Array.getElem?_eq_some_iff.1 h3).1).trans h3, h4⟩
theorem OwnsS.new (W : World) (l : List ByteArray) (h0 : l.length ≤ 1000) : OwnsS W.heap.size (W.alloc (.cells (l.map Value.string).toArray 9)) (.slice (some ⟨W.heap.size, 0, none⟩) l.length l.length) l := by
  refine ⟨by simp, .inr ⟨W.heap.size, l.length, (l.map Value.string).toArray, rfl, Nat.le_refl _, ?_, Nat.le_refl _, by unfold maxLen; omega, by simp, by rw [List.take_of_length_le (by simp)]⟩⟩
  exact (Row.new (W := W) (cs := (l.map Value.string).toArray) (t := 9)).eq
theorem OwnsS.cell {b : Nat} {W : World} {v : Value} {l : List ByteArray} (h : OwnsS b W v l) (h0 : l ≠ []) : ∃ g c, v = .slice (some ⟨g, 0, none⟩) l.length c ∧ g < W.heap.size ∧ l.length ≤ c ∧ ∀ (j : Nat) x, l[j]? = some x → W.cell? ⟨g, 0 + j, none⟩ = some (.string x) := by
  rcases h.2 with ⟨_, hz⟩ | ⟨g, cap, cur, rfl, h2, h3, h4, h5, h6, h7⟩
  · exact absurd (List.eq_nil_of_length_eq_zero hz) h0
  · refine ⟨g, cap, rfl, (Array.getElem?_eq_some_iff.1 h3).1, h4, fun j x hj => ?_⟩
    have hl : j < l.length := (List.getElem?_eq_some_iff.1 hj).1
    have e : W.cell? ⟨g, 0 + j, none⟩ = cur[j]? := by simp [World.cell?, h3]
    rw [e]
    have h8 : (cur.toList.take (l.length * 1))[j]? = cur.toList[j]? := by rw [List.getElem?_take]; rw [if_pos (by omega)]
    rw [h7] at h8
    rw [← Array.getElem?_toList, ← h8]
    simp [hj]

end Go.Proofs.YthkngleegefgbaaGreatDoor

/- strings.Builder's writers at this program (its copyCheck has a branch that the loader leaves out: the library's contracts do not lay here): their contracts. -/
namespace Go.Proofs.YthkngleegefgbaaGreatDoor
open Go.RowKit
set_option linter.unusedVariables false
set_option linter.unusedSimpArgs false

abbrev bldT : TypeId := 83
abbrev BF (B b : Nat) (l : List UInt8) (w : World) : Prop := Lib.IsBuilderF 83 5 B b (Lib.byteCells l) w
theorem b_size : (Tryz.prog.info? 83).map (·.size) = some 2 := by kernel_rfl
theorem b_byte : (Tryz.prog.info? 5).map (fun i => (i.zero, i.size, i.bytes)) = some (some (.int .u8 0), 1, 1) := by kernel_rfl
set_option maxHeartbeats 1000000 in
set_option maxRecDepth 100000 in
theorem copy_used (b : Nat) (w : World) (h0 : w.cell? ⟨b, 0, none⟩ = some (.pointer (some ⟨b, 0, none⟩))) :
    Calls Tryz.prog 74 #[.pointer (some ⟨b, 0, none⟩)] w fun e w' => e = .returned (.tuple #[]) ∧ w' = w := by
  obtain ⟨j, hj, _⟩ := Option.map_eq_some_iff.1 b_size
  go_enter Tryz.func74, Tryz.ntmps74
  go_wp2
  rw [Lib.run_neq_ptr_same w _ Tryz.underlying80 hj]
  go_wp2
  go_end0
  exact ⟨rfl, rfl⟩
set_option maxHeartbeats 1000000 in
set_option maxRecDepth 100000 in
theorem copy_fresh (b : Nat) (w : World) (h0 : w.cell? ⟨b, 0, none⟩ = some (.pointer none)) (hsh : w.shape? b = some (83, 2)) (hfz : w.frozen? ⟨b, 0, none⟩ = false) :
    Calls Tryz.prog 74 #[.pointer (some ⟨b, 0, none⟩)] w fun e w' => e = .returned (.tuple #[]) ∧ w' = w.setCell ⟨b, 0, none⟩ (.pointer (some ⟨b, 0, none⟩)) := by
  obtain ⟨j, hj, hjs⟩ := Option.map_eq_some_iff.1 b_size
  go_enter Tryz.func74, Tryz.ntmps74
  go_wp2
  rw [Lib.run_to_unsafe w ⟨b, 0, none⟩ Tryz.underlying80 Tryz.underlying122 hj (by rw [hjs]; decide) hsh (Nat.zero_lt_succ 1)]
  simp only [Result.andThen]
  rw [Oper.upon_value]
  go_wp2
  rw [run_callFunc_extern Tryz.func88 (by kernel_rfl) (by kernel_rfl) (by kernel_rfl) (e := Extern.AbiNoEscape.same) (by kernel_rfl)]
  rw [Lib.run_noEscape]
  simp only [Result.andThen]
  rw [Oper.upon_value]
  go_wp2
  rw [Lib.run_from_unsafe w ⟨b, 0, none⟩ Tryz.underlying122 Tryz.underlying80 hj hsh (by kernel_rfl)]
  simp only [Result.andThen]
  rw [Oper.upon_value]
  go_wp2
  go_end0
  exact ⟨rfl, rfl⟩
theorem copy_c (B b : Nat) (bs : List Value) (w : World) (h : Lib.IsBuilderF 83 5 B b bs w) :
    Calls Tryz.prog 74 #[.pointer (some ⟨b, 0, none⟩)] w fun e w' => e = .returned (.tuple #[]) ∧ (Lib.BuilderAtF 83 5 B b (.pointer (some ⟨b, 0, none⟩)) bs w' ∧ Below B w w' ∧ Lib.OthersKept 5 (some b) w w') := by
  rcases h with h | h
  · refine (copy_fresh b w h.cell0 h.shape h.frozen0).mono ?_
    rintro e w' ⟨rfl, rfl⟩
    exact ⟨rfl, h.used _, (Below.refl B w).setCell (p := ⟨b, 0, none⟩) h.1 _, (Lib.OthersKept.refl _ _ w).setCell ⟨b, 0, none⟩ rfl _⟩
  · refine (copy_used b w h.cell0).mono ?_
    rintro e w' ⟨rfl, rfl⟩
    exact ⟨rfl, h, Below.refl B _, Lib.OthersKept.refl _ _ _⟩
set_option maxHeartbeats 2000000 in
set_option maxRecDepth 100000 in
theorem wbyte_c (B b : Nat) (l : List UInt8) (c : UInt8) (w : World) (h : BF B b l w) (hlen : l.length + 1 ≤ 1000000000) (hBw : B ≤ w.heap.size) :
    Calls Tryz.prog 48 #[.pointer (some ⟨b, 0, none⟩), .int .u8 (c.toNat : Int)] w fun e w' => e = .returned .nilIface ∧ (BF B b (l ++ [c]) w' ∧ Below B w w' ∧ Lib.OthersKept 5 (some b) w w') := by
  obtain ⟨i0, hi, hz0, hz1, hz2⟩ := info_parts b_byte
  have hll : (Lib.byteCells l).length = l.length := Lib.byteCells_length l
  go_enter Tryz.func48, Tryz.ntmps48
  go_wp2_with (go_at_call 74; refine (copy_c B b _ _ h).mono ?_)
  rintro e w1 ⟨rfl, h1, hb1, hk1⟩
  obtain ⟨hB, v, hbk, hown, hne⟩ := h1
  rw [hll] at hown
  have c0 : w1.cell? ⟨b, 0, none⟩ = some (.pointer (some ⟨b, 0, none⟩)) := by rw [Lib.cell_of_heap hbk]; rfl
  have c1 : w1.cell? ⟨b, 1, none⟩ = some v := by rw [Lib.cell_of_heap hbk]; rfl
  have hlt : b < w1.heap.size := (Array.getElem?_eq_some_iff.1 hbk).1
  have hs1 := hb1.size
  go_wp2_with (at_builtin; refine wpList_append_ownF _ rfl _ _ 81 rfl B 5 i0 (.int .u8 0) 1 1 Tryz.underlying81 hi hz0 hz1 hz2 rfl (by decide) _ _ _ rfl (hown.alloc _) ⟨w1.heap.size, 0, none⟩ 1 1 [.int .u8 (c.toNat : Int)] rfl rfl (by intro j u hj; match j, hj with | 0, hj => (simp at hj; subst hj; simp [Addr.add])) (by intro u hu; simp at hu; subst hu; rfl) (by unfold maxLen; omega) (by omega) (by simp; omega) ?_)
  intro v' w2 hown' hgrow hnil
  have hb2 : w2.heap[b]? = some (.cells #[.pointer (some ⟨b, 0, none⟩), v] 83 (0, 0)) := by
    rw [hgrow.block b (by simp; omega) (fun e => hne e.symm), Lib.alloc_old w1 _ b hlt]
    exact hbk
  have d0 : w2.cell? ⟨b, 0, none⟩ = some (.pointer (some ⟨b, 0, none⟩)) := by rw [Lib.cell_of_heap hb2]; rfl
  have d1 : w2.cell? ⟨b, 1, none⟩ = some v := by rw [Lib.cell_of_heap hb2]; rfl
  have f1 : w2.frozen? ⟨b, 1, none⟩ = false := Lib.frozen_of_heap hb2 1
  obtain ⟨g, cap, rfl⟩ : ∃ g cap, v' = .slice (some ⟨g, 0, none⟩) (l.length + 1) cap := by
    rcases hown'.2 with ⟨_, h0⟩ | ⟨g, cap, cur, fz, hv, _⟩
    · omega
    · exact ⟨g, cap, hv⟩
  go_wp2
  go_ret
  refine ⟨rfl, .inr ?_, ?_, ((hk1.alloc _).grown hgrow (Lib.ownsRowF_kind (hown.alloc _))).setCell ⟨b, 1, none⟩ rfl _⟩
  · rw [Lib.byteCells_append]
    exact Lib.BuilderAtF.put (T := 83) (e := 5) hB hb2 (bs' := Lib.byteCells l ++ Lib.byteCells [c]) (by rw [List.length_append, hll]; exact hown') (by decide)
  · exact ((hb1.alloc (by omega) _).grown hgrow (by simp; omega) (fun k hk => (hown.lt k hk).1)).setCell (p := ⟨b, 1, none⟩) hB _
set_option maxHeartbeats 2000000 in
set_option maxRecDepth 100000 in
theorem wrune_c (B b : Nat) (l : List UInt8) (r : Nat) (hr : r ≤ 2147483647) (w : World) (h : BF B b l w) (hlen : l.length + 4 ≤ 1000000000) (hBw : B ≤ w.heap.size) :
    Calls Tryz.prog 52 #[.pointer (some ⟨b, 0, none⟩), .int .i32 r] w fun e w' => e = .returned (.tuple #[.int .i64 (Lib.encodeRune (r : Int)).length, .nilIface]) ∧ (BF B b (l ++ Lib.encodeRune (r : Int)) w' ∧ Below B w w' ∧ Lib.OthersKept 5 (some b) w w') := by
  have hll : (Lib.byteCells l).length = l.length := Lib.byteCells_length l
  have hr4 := Lib.runeCells_le (r : Int)
  have hrl : (Lib.runeCells (r : Int)).length = (Lib.encodeRune (r : Int)).length := Lib.runeCells_length _
  rw [hrl] at hr4
  go_enter Tryz.func52, Tryz.ntmps52
  go_wp2_with (go_at_call 74; refine (copy_c B b _ _ h).mono ?_)
  rintro e w1 ⟨rfl, h1, hb1, hk1⟩
  obtain ⟨hB, v, hbk, hown, hne⟩ := h1
  rw [hll] at hown
  obtain ⟨ao, cap, rfl⟩ : ∃ ao cap, v = .slice ao l.length cap := by
    rcases hown.2 with ⟨hv, h0⟩ | ⟨g, cap, cur, fz, hv, _⟩
    · exact ⟨none, 0, by rw [hv, h0]⟩
    · exact ⟨_, _, hv⟩
  have c0 : w1.cell? ⟨b, 0, none⟩ = some (.pointer (some ⟨b, 0, none⟩)) := by rw [Lib.cell_of_heap hbk]; rfl
  have c1 : w1.cell? ⟨b, 1, none⟩ = some (.slice ao l.length cap) := by rw [Lib.cell_of_heap hbk]; rfl
  have hlt : b < w1.heap.size := (Array.getElem?_eq_some_iff.1 hbk).1
  have hs1 := hb1.size
  go_wp2_with (go_at_call 77; refine (Tryz.utf8_AppendRune_row B _ l.length (Lib.byteCells l) r (by omega) (by omega) _ hown (by omega) (by omega)).mono ?_)
  rintro e w2 ⟨v', rfl, hown', o, hgrow⟩
  have hb2 : w2.heap[b]? = some (.cells #[.pointer (some ⟨b, 0, none⟩), .slice ao l.length cap] 83 (0, 0)) := by
    rw [hgrow.block b (by simp; omega) (fun e => hne e.symm), Lib.alloc_old w1 _ b hlt]
    exact hbk
  have d0 : w2.cell? ⟨b, 0, none⟩ = some (.pointer (some ⟨b, 0, none⟩)) := by rw [Lib.cell_of_heap hb2]; rfl
  have d1 : w2.cell? ⟨b, 1, none⟩ = some (.slice ao l.length cap) := by rw [Lib.cell_of_heap hb2]; rfl
  have f1 : w2.frozen? ⟨b, 1, none⟩ = false := Lib.frozen_of_heap hb2 1
  rw [hrl] at hown'
  obtain ⟨ao', cap', rfl⟩ : ∃ ao' cap', v' = .slice ao' (l.length + (Lib.encodeRune (r : Int)).length) cap' := by
    rcases hown'.2 with ⟨hv, h0⟩ | ⟨g, cap, cur, fz, hv, _⟩
    · exact ⟨none, 0, by rw [hv, h0]⟩
    · exact ⟨_, _, hv⟩
  go_wp2_with fail
  rw [show ((l.length : Int) + ((Lib.encodeRune (r : Int)).length : Int) - (l.length : Int)) = ((Lib.encodeRune (r : Int)).length : Int) by omega]
  go_returns
  refine ⟨rfl, .inr ?_, ?_, ((hk1.alloc _).grown hgrow (Lib.ownsRowF_kind (hown.alloc _))).setCell ⟨b, 1, none⟩ rfl _⟩
  · rw [Lib.byteCells_append, Lib.byteCells_encodeRune]
    exact Lib.BuilderAtF.put (T := 83) (e := 5) hB hb2 (bs' := Lib.byteCells l ++ Lib.runeCells r) (by rw [List.length_append, hll, hrl]; exact hown') (by decide)
  · exact ((hb1.alloc (by omega) _).grown hgrow (by simp; omega) (fun k hk => (hown.lt k hk).1)).setCell (p := ⟨b, 1, none⟩) hB _
theorem bstr_c (B b : Nat) (l : List UInt8) (w : World) (h : BF B b l w) (hBw : B ≤ w.heap.size) :
    Calls Tryz.prog 50 #[.pointer (some ⟨b, 0, none⟩)] w fun e w' => e = .returned (.string ⟨l.toArray⟩) ∧ BF B b l w' ∧ Below B w w' :=
  (Tryz.Builder_String_any_f B b l w h hBw).mono (fun e w' h => h)
/-- A builder stays one over a call that leaves the old blocks as they were. -/
theorem BF_on {B b : Nat} {l : List UInt8} {w w' : World} (h : BF B b l w) (hb : Below w.heap.size w w') : BF B b l w' := by
  have key : ∀ p, Lib.BuilderAtF 83 5 B b p (Lib.byteCells l) w → Lib.BuilderAtF 83 5 B b p (Lib.byteCells l) w' := by
    intro p h
    obtain ⟨hB, v, hbk, hown, hne⟩ := h
    refine ⟨hB, v, (hb.block b (Array.getElem?_eq_some_iff.1 hbk).1).trans hbk, ⟨hown.1, ?_⟩, hne⟩
    rcases hown.2 with h0 | ⟨g, cap, cur, fz, h1, h2, h3, h4⟩
    · exact .inl h0
    · exact .inr ⟨g, cap, cur, fz, h1, h2, (hb.block g (Array.getElem?_eq_some_iff.1 h3).1).trans h3, h4⟩
  exact h.imp (key _) (key _)
end Go.Proofs.YthkngleegefgbaaGreatDoor
