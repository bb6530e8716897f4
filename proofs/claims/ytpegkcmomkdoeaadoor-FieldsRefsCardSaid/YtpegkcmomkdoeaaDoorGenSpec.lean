/- Generations in plain Lean: what the chapter's functions give. No program in sight. -/
import Derived.Test.YtpegkcmomkdoeaaDoorNum
namespace Go.Proofs.YtpegkcmomkdoeaaDoor
open Go.Lib (decDigits)

def gErr (g : Int) : Int := if g = 0 then 2 else 0
def gLeft (g : Int) : Int := if g = 0 then 0 else 4294967295 - g
def gAfter (g n : Int) : Int := if g = 0 then 0 else if 4294967295 - g < n then 0 else g + n
def gAfterB (g n : Int) : Bool := decide (g ≠ 0 ∧ n ≤ 4294967295 - g)
def gNewer (a b : Int) : Bool := decide (a ≠ 0 ∧ b ≠ 0 ∧ b < a)
def gErr2 (a b : Int) : Int := if a = 0 ∨ b = 0 then 2 else 0
def digits (n : Nat) : ByteArray := ⟨(decDigits n).toArray⟩
def gText (g : Int) : ByteArray := if g = 0 then ⟨#[]⟩ else digits g.toNat
def isGen (l : List UInt8) : Bool := decide (decDigits (valFrom 0 l) = l ∧ 1 ≤ valFrom 0 l ∧ valFrom 0 l ≤ 4294967295)
def gParse (l : List UInt8) : Int := if isGen l then (valFrom 0 l : Int) else 0
def gParseE (l : List UInt8) : Int := if isGen l then 0 else 9

theorem gErr_zero : gErr 0 = 2 := rfl
theorem gErr_pos {g : Int} (h : 1 ≤ g) : gErr g = 0 := by unfold gErr; rw [if_neg (by omega)]
theorem gLeft_zero : gLeft 0 = 0 := rfl
theorem gLeft_pos {g : Int} (h : 1 ≤ g) : gLeft g = 4294967295 - g := by unfold gLeft; rw [if_neg (by omega)]
theorem gAfter_zero (n : Int) : gAfter 0 n = 0 := rfl
theorem gAfter_in {g n : Int} (h : 1 ≤ g) (hn : n ≤ 4294967295 - g) : gAfter g n = g + n := by unfold gAfter; rw [if_neg (by omega), if_neg (by omega)]
theorem gAfter_out {g n : Int} (hn : 4294967295 - g < n) : gAfter g n = 0 := by unfold gAfter; split <;> first | rfl | rw [if_pos hn]
theorem gAfterB_zero (n : Int) : gAfterB 0 n = false := by unfold gAfterB; simp
theorem gAfterB_in {g n : Int} (h : 1 ≤ g) (hn : n ≤ 4294967295 - g) : gAfterB g n = true := by unfold gAfterB; simp; omega
theorem gAfterB_out {g n : Int} (hn : 4294967295 - g < n) : gAfterB g n = false := by unfold gAfterB; simp; omega
theorem gNewer_left (b : Int) : gNewer 0 b = false := by unfold gNewer; simp
theorem gNewer_right (a : Int) : gNewer a 0 = false := by unfold gNewer; simp
theorem gNewer_pos {a b : Int} (ha : 1 ≤ a) (hb : 1 ≤ b) : gNewer a b = decide (b < a) := by
  unfold gNewer
  by_cases h : b < a <;> simp [h] <;> omega
theorem gErr2_left (b : Int) : gErr2 0 b = 2 := by unfold gErr2; simp
theorem gErr2_right (a : Int) : gErr2 a 0 = 2 := by unfold gErr2; simp
theorem gErr2_pos {a b : Int} (ha : 1 ≤ a) (hb : 1 ≤ b) : gErr2 a b = 0 := by unfold gErr2; rw [if_neg (by omega)]
theorem gText_zero : gText 0 = ⟨#[]⟩ := rfl
theorem gText_pos {g : Int} (h : 1 ≤ g) : gText g = digits g.toNat := by unfold gText; rw [if_neg (by omega)]
theorem digits_list (n : Nat) : (digits n).data.toList = decDigits n := by simp [digits]
theorem digits_size (n : Nat) : (digits n).size = (decDigits n).length := by simp [digits, ByteArray.size]
theorem digits_size_le (n : Nat) (h : n ≤ 18446744073709551615) : (digits n).size ≤ 20 := by rw [digits_size]; exact nDigits_le_20 n h
theorem digits_inj {a b : Nat} (h : digits a = digits b) : a = b := by
  apply decDigits_inj
  rw [← digits_list, ← digits_list, h]
theorem isGen_iff (l : List UInt8) : isGen l = true ↔ ∃ n : Nat, 1 ≤ n ∧ n ≤ 4294967295 ∧ decDigits n = l := by
  unfold isGen
  rw [decide_eq_true_iff]
  constructor
  · intro ⟨a, b, c⟩; exact ⟨_, b, c, a⟩
  · intro ⟨n, a, b, c⟩
    subst c
    rw [val_decDigits]
    exact ⟨rfl, a, b⟩
theorem gParse_digits {n : Nat} (h1 : 1 ≤ n) (h2 : n ≤ 4294967295) : gParse (decDigits n) = n ∧ gParseE (decDigits n) = 0 := by
  have h : isGen (decDigits n) = true := (isGen_iff _).2 ⟨n, h1, h2, rfl⟩
  unfold gParse gParseE
  rw [if_pos h, if_pos h, val_decDigits]
  exact ⟨rfl, rfl⟩
theorem gParse_not {l : List UInt8} (h : isGen l = false) : gParse l = 0 ∧ gParseE l = 9 := by
  unfold gParse gParseE
  rw [h]; exact ⟨rfl, rfl⟩
theorem gParseE_cases (l : List UInt8) : gParseE l = 0 ∨ gParseE l = 9 := by unfold gParseE; split <;> simp
theorem gParseE_zero {l : List UInt8} (h : gParseE l = 0) : ∃ n : Nat, 1 ≤ n ∧ n ≤ 4294967295 ∧ decDigits n = l ∧ gParse l = n := by
  have hg : isGen l = true := by
    unfold gParseE at h
    cases hi : isGen l with
    | true => rfl
    | false => rw [hi] at h; simp at h
  obtain ⟨n, a, b, c⟩ := (isGen_iff l).1 hg
  exact ⟨n, a, b, c, by rw [← c]; exact (gParse_digits a b).1⟩
def numB (l : List UInt8) : Bool := decide (l.length ≤ 10 ∧ decDigits (valFrom 0 l) = l)
def numV (l : List UInt8) : Int := if l.length ≤ 10 ∧ l.all isDig = true then (valFrom 0 l : Int) else 0
theorem numV_bound (l : List UInt8) : 0 ≤ numV l ∧ numV l ≤ 9999999999 := by
  unfold numV
  split
  · rename_i h
    have := valFrom_lt_10 l h.2 h.1
    omega
  · omega
theorem numB_val {l : List UInt8} (h : numB l = true) : numV l = (valFrom 0 l : Int) ∧ decDigits (valFrom 0 l) = l := by
  unfold numB at h
  rw [decide_eq_true_iff] at h
  unfold numV
  rw [if_pos ⟨h.1, by rw [← h.2]; exact decDigits_all _⟩]
  exact ⟨rfl, h.2⟩
end Go.Proofs.YtpegkcmomkdoeaaDoor
