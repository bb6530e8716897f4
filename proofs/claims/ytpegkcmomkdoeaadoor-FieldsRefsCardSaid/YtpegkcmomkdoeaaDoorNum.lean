/- Decimal numerals in plain Lean: reading back what was written. No program in sight. -/
import Derived.Lib.ItoaNum
import Derived.Lib.ParseIntB
namespace Go.Proofs.YtpegkcmomkdoeaaDoor
open Go.Lib (decDigits nDigits parseUintM parseUintB)

def dstep (acc : Nat) (c : UInt8) : Nat := acc * 10 + (c.toNat - 48)
def valFrom (acc : Nat) (l : List UInt8) : Nat := l.foldl dstep acc
def isDig (c : UInt8) : Bool := decide (48 ≤ c.toNat ∧ c.toNat ≤ 57)

theorem valFrom_cons (acc : Nat) (c : UInt8) (r : List UInt8) : valFrom acc (c :: r) = valFrom (acc * 10 + (c.toNat - 48)) r := by simp only [valFrom, List.foldl_cons, dstep]
theorem valFrom_nil (acc : Nat) : valFrom acc [] = acc := by simp only [valFrom, List.foldl_nil]
theorem valFrom_one (acc : Nat) (c : UInt8) : valFrom acc [c] = acc * 10 + (c.toNat - 48) := by rw [valFrom_cons, valFrom_nil]
theorem valFrom_append (l r : List UInt8) (acc : Nat) : valFrom acc (l ++ r) = valFrom (valFrom acc l) r := by simp only [valFrom, List.foldl_append]
theorem isDig_digit (d : Nat) (h : d < 10) : isDig (UInt8.ofNat (48 + d)) = true := by
  unfold isDig
  have : (UInt8.ofNat (48 + d)).toNat = 48 + d := by
    rw [UInt8.toNat_ofNat']; omega
  rw [this]; simp; omega
theorem digit_toNat (d : Nat) (h : d < 10) : (UInt8.ofNat (48 + d)).toNat - 48 = d := by
  have : (UInt8.ofNat (48 + d)).toNat = 48 + d := by
    rw [UInt8.toNat_ofNat']; omega
  omega
theorem decDigits_step (u : Nat) : decDigits u = if u < 10 then [UInt8.ofNat (48 + u)] else decDigits (u / 10) ++ [UInt8.ofNat (48 + u % 10)] := by
  rw [decDigits]
  by_cases h : u < 10 <;> simp [h]
theorem decDigits_all (u : Nat) : (decDigits u).all isDig = true := by
  induction u using Nat.strongRecOn with
  | ind u ih =>
    rw [decDigits_step]
    by_cases h : u < 10
    · rw [if_pos h, List.all_cons, isDig_digit u h]; rfl
    · rw [if_neg h, List.all_append, ih (u / 10) (by omega)]
      rw [List.all_cons, isDig_digit (u % 10) (by omega)]; rfl
theorem val_decDigits (u : Nat) : valFrom 0 (decDigits u) = u := by
  induction u using Nat.strongRecOn with
  | ind u ih =>
    rw [decDigits_step]
    by_cases h : u < 10
    · rw [if_pos h, valFrom_one, digit_toNat u h, Nat.zero_mul, Nat.zero_add]
    · rw [if_neg h, valFrom_append, ih (u / 10) (by omega)]
      rw [valFrom_one, digit_toNat (u % 10) (by omega)]; omega
theorem decDigits_inj {a b : Nat} (h : decDigits a = decDigits b) : a = b := by
  rw [← val_decDigits a, h, val_decDigits]
theorem decDigits_ne_nil (u : Nat) : decDigits u ≠ [] := by
  rw [decDigits_step]; by_cases h : u < 10 <;> simp [h]
theorem decDigits_length_pos (u : Nat) : 1 ≤ (decDigits u).length := by
  have := decDigits_ne_nil u
  cases h : decDigits u with
  | nil => exact absurd h this
  | cons c r => simp
theorem valFrom_le (l : List UInt8) : ∀ acc, acc ≤ valFrom acc l := by
  induction l with
  | nil => intro acc; rw [valFrom_nil]; exact Nat.le_refl _
  | cons c l ih => intro acc; rw [valFrom_cons]; exact Nat.le_trans (by omega) (ih (acc * 10 + (c.toNat - 48)))
theorem parseUintM_ok (M : Nat) (l : List UInt8) : ∀ acc u, parseUintM M acc l = .ok u → u = valFrom acc l ∧ l.all isDig = true ∧ (acc ≤ M → u ≤ M) := by
  induction l with
  | nil => intro acc u h; simp only [parseUintM, Lib.NumEnd.ok.injEq] at h; subst h; exact ⟨(valFrom_nil acc).symm, rfl, fun h => h⟩
  | cons c r ih =>
    intro acc u h
    simp only [parseUintM] at h
    by_cases h1 : 48 ≤ c.toNat ∧ c.toNat ≤ 57
    · rw [if_pos h1] at h
      by_cases h2 : 1844674407370955162 ≤ acc
      · rw [if_pos h2] at h; cases h
      · rw [if_neg h2] at h
        by_cases h3 : M < acc * 10 + (c.toNat - 48)
        · rw [if_pos h3] at h; cases h
        · rw [if_neg h3] at h
          obtain ⟨a, b, d⟩ := ih _ _ h
          refine ⟨by rw [valFrom_cons]; exact a, ?_, fun _ => d (by omega)⟩
          rw [List.all_cons, b]; simp [isDig, h1]
    · rw [if_neg h1] at h; cases h
theorem parseUintM_val (M : Nat) (hM : M < 18446744073709551616) (l : List UInt8) : ∀ acc, l.all isDig = true → valFrom acc l ≤ M → parseUintM M acc l = .ok (valFrom acc l) := by
  induction l with
  | nil => intro acc _ _; rw [valFrom_nil]; rfl
  | cons c r ih =>
    intro acc h hv
    rw [List.all_cons, Bool.and_eq_true] at h
    have h1 : 48 ≤ c.toNat ∧ c.toNat ≤ 57 := by simpa [isDig] using h.1
    rw [valFrom_cons] at hv
    have hle := valFrom_le r (acc * 10 + (c.toNat - 48))
    simp only [parseUintM]
    rw [if_pos h1, if_neg (by omega), if_neg (by omega), ih _ h.2 hv, valFrom_cons]
theorem parseUintB_decDigits (B u : Nat) (hB : B ≤ 64) (h : u ≤ 2 ^ B - 1) : parseUintB B (decDigits u) = .ok u := by
  have hp : 2 ^ B ≤ 2 ^ 64 := Nat.pow_le_pow_right (by omega) hB
  have h64 : (2 : Nat) ^ 64 = 18446744073709551616 := by decide
  have hpos : 0 < 2 ^ B := Nat.pow_pos (by omega)
  unfold parseUintB
  rw [if_neg (decDigits_ne_nil u), parseUintM_val _ (by omega) _ _ (decDigits_all u) (by rw [val_decDigits]; exact h), val_decDigits]
theorem parseUintB_ok (B u : Nat) (l : List UInt8) (h : parseUintB B l = .ok u) : u = valFrom 0 l ∧ l.all isDig = true ∧ u ≤ 2 ^ B - 1 ∧ l ≠ [] := by
  unfold parseUintB at h
  by_cases hl : l = []
  · rw [if_pos hl] at h; cases h
  · rw [if_neg hl] at h
    obtain ⟨a, b, c⟩ := parseUintM_ok _ _ _ _ h
    exact ⟨a, b, c (Nat.zero_le _), hl⟩
theorem dec_len (k : Nat) : ∀ u, u < 10 ^ (k + 1) → (decDigits u).length ≤ k + 1 := by
  induction k with
  | zero => intro u h; rw [decDigits_step, if_pos (by simpa using h)]; simp
  | succ k ih =>
    intro u h
    rw [decDigits_step]
    by_cases h1 : u < 10
    · rw [if_pos h1]; simp
    · rw [if_neg h1, List.length_append]
      have := ih (u / 10) (by rw [Nat.div_lt_iff_lt_mul (by omega)]; rw [Nat.pow_succ] at h; omega)
      simp; omega
theorem nDigits_le_10 (u : Nat) (h : u < 10000000000) : (decDigits u).length ≤ 10 := dec_len 9 u (by simpa using h)
theorem nDigits_le_20 (u : Nat) (h : u ≤ 18446744073709551615) : (decDigits u).length ≤ 20 := dec_len 19 u (by
  have : (10 : Nat) ^ (19 + 1) = 100000000000000000000 := by decide
  omega)
theorem valFrom_lt (l : List UInt8) : ∀ acc, l.all isDig = true → valFrom acc l < (acc + 1) * 10 ^ l.length := by
  induction l with
  | nil => intro acc _; rw [valFrom_nil]; simp
  | cons c r ih =>
    intro acc h
    rw [List.all_cons, Bool.and_eq_true] at h
    have h1 : 48 ≤ c.toNat ∧ c.toNat ≤ 57 := by simpa [isDig] using h.1
    rw [valFrom_cons, List.length_cons]
    refine Nat.lt_of_lt_of_le (ih (acc * 10 + (c.toNat - 48)) h.2) ?_
    rw [Nat.pow_succ, Nat.mul_comm (10 ^ r.length) 10, ← Nat.mul_assoc]
    exact Nat.mul_le_mul_right _ (by omega)
theorem valFrom_lt_10 (l : List UInt8) (h : l.all isDig = true) (hl : l.length ≤ 10) : valFrom 0 l < 10000000000 := by
  have := valFrom_lt l 0 h
  have h2 : (10 : Nat) ^ l.length ≤ 10 ^ 10 := Nat.pow_le_pow_right (by omega) hl
  omega
theorem len_bytes (s : ByteArray) : s.data.toList.length = s.size := by rw [Array.length_toList]; rfl
end Go.Proofs.YtpegkcmomkdoeaaDoor
