/- The contracts of the references of chapter 01: Number, and (where they stand in the cut) Check, Left, After, Next, Newer, Text, Parse. -/
import Derived.Test.YtjebicdlbknemaaDoorDigits
import Derived.Test.YtjebicdlbknemaaDoorGens
namespace Go.Proofs.YtjebicdlbknemaaDoor
open Go.RowKit
open Go.Lib (decDigits)

def numB (l : List UInt8) : Bool := decide (l.length ≤ 10 ∧ decDigits (valFrom 0 l) = l)
def numV (l : List UInt8) : Int := if l.length ≤ 10 ∧ l.all isDig = true then (valFrom 0 l : Int) else 0
theorem numV_bound (l : List UInt8) : 0 ≤ numV l ∧ numV l ≤ 9999999999 := by
  unfold numV
  split
  · rename_i h
    have := valFrom_lt_10 l h.2 h.1
    omega
  · omega
theorem numB_val {l : List UInt8} (h : numB l = true) : numV l = (valFrom 0 l : Int) ∧ decDigits (valFrom 0 l) = l := by
  unfold numB at h
  rw [decide_eq_true_iff] at h
  unfold numV
  rw [if_pos ⟨h.1, by rw [← h.2]; exact decDigits_all _⟩]
  exact ⟨rfl, h.2⟩
theorem isGen_numB {l : List UInt8} (h : isGen l = true) : numB l = true := by
  obtain ⟨n, h1, h2, h3⟩ := (isGen_iff l).1 h
  unfold numB
  rw [decide_eq_true_iff]
  subst h3
  rw [val_decDigits]
  exact ⟨nDigits_le_10 n (by omega), rfl⟩
theorem take_snoc (s : ByteArray) (k : Nat) (h : k < s.size) : s.data.toList.take (k + 1) = s.data.toList.take k ++ [s[k]] := by
  rw [List.take_succ_eq_append_getElem (by simpa using h)]; rfl

/-- a byte that is no digit, somewhere -/
theorem all_take_snoc (s : ByteArray) (k : Nat) (h : k < s.size) : (s.data.toList.take (k + 1)).all isDig = ((s.data.toList.take k).all isDig && isDig s[k]) := by
  rw [take_snoc s k h, List.all_append]; simp
theorem not_all_of {s : ByteArray} {k : Nat} (h : k < s.size) (hd : isDig s[k] = false) : s.data.toList.all isDig = false := by
  rw [Bool.eq_false_iff]
  intro ha
  rw [List.all_eq_true] at ha
  have := ha s[k] (by
    have e : s[k] = s.data.toList[k]'(by simpa using h) := rfl
    rw [e]; exact List.getElem_mem _)
  rw [hd] at this; cases this
theorem val_snoc (s : ByteArray) (k : Nat) (h : k < s.size) : valFrom 0 (s.data.toList.take (k + 1)) = valFrom 0 (s.data.toList.take k) * 10 + (s[k].toNat - 48) := by
  rw [take_snoc s k h, valFrom_append, valFrom_one]

set_option maxHeartbeats 1000000 in
theorem ref_Number_short (s : ByteArray) (w : World) (hs : s.size ≤ 10) (h0 : 1 ≤ s.size) :
    Ret 40 #[.string s] w (.tuple #[.int .u64 (numV s.data.toList), .bool (numB s.data.toList)]) := by
  have hl := len_bytes s
  have HL := Lib.hid hl
  clear hl
  have e0 : ((s.size : Int) == 0) = false := by rw [beq_eq_false_iff_ne]; omega
  go_enter Tryd.func40, Tryd.ntmps40
  go_wp2_with fail
  go_loop [4, 5] (fun n i => ∃ k : Nat, k ≤ s.size ∧ i = .int .i64 k ∧ n = .int .u64 (valFrom 0 (s.data.toList.take k)) ∧ (s.data.toList.take k).all isDig = true) (fun _ i => s.size - (intOf i).toNat)
  case atStart => exact ⟨0, Nat.zero_le _, rfl, rfl, rfl⟩
  case round =>
    obtain ⟨k, hk, rfl, rfl, hall⟩ := hrel
    have hv := valFrom_lt_10 _ hall (by rw [List.length_take]; omega)
    have HA := Lib.hid hall
    clear hall
    by_cases hlt : k < s.size
    · have hval := val_snoc s k hlt
      have hat := all_take_snoc s k hlt
      have HV := Lib.hid hval
      have HT := Lib.hid hat
      clear hval hat
      by_cases hd : 48 ≤ s[k].toNat ∧ s[k].toNat ≤ 57
      · obtain ⟨d1, d2⟩ := hd
        have c1 : (48 : Int) ≤ (s[k].toNat : Int) := by omega
        have c2 : (s[k].toNat : Int) ≤ 57 := by omega
        go_wp2_with fail
        go_round
        case rel => exact ⟨k + 1, by omega, by go_num, by rw [HV.out]; go_num, by rw [HT.out, HA.out]; simp [isDig, d1, d2]⟩
        case measure => simp [intOf]; omega
      · have hdig : isDig s[k] = false := by unfold isDig; simpa using hd
        have hn := not_all_of hlt hdig
        have hV : numV s.data.toList = 0 := by unfold numV; rw [if_neg (fun h => by rw [hn] at h; cases h.2)]
        have hB : numB s.data.toList = false := by
          rw [Bool.eq_false_iff]; intro h
          have := (numB_val h).2
          have h2 := decDigits_all (valFrom 0 s.data.toList)
          rw [this, hn] at h2; cases h2
        have HV := Lib.hid hV
        have HB := Lib.hid hB
        have HH := Lib.hid hd
        clear hd hdig hn hV hB
        by_cases c1 : (s[k].toNat : Int) < 48
        · go_wp2_with fail
          go_ret2
          exact ⟨by rw [HV.out, HB.out]; rfl, Below.refl _ _⟩
        · have c2 : (57 : Int) < (s[k].toNat : Int) := by have := HH.out; omega
          go_wp2_with fail
          go_ret2
          exact ⟨by rw [HV.out, HB.out]; rfl, Below.refl _ _⟩
    · have ek : k = s.size := by omega
      have et : s.data.toList.take k = s.data.toList := by rw [ek]; exact List.take_of_length_le (by rw [HL.out]; exact Nat.le_refl _)
      have hV : numV s.data.toList = (valFrom 0 (s.data.toList.take k) : Int) := by
        unfold numV
        rw [if_pos ⟨by rw [HL.out]; exact hs, by rw [← et]; exact HA.out⟩, et]
      have hB : numB s.data.toList = ((digits (valFrom 0 (s.data.toList.take k))).toList == s.toList) := by
        rw [et, ByteArray.toList_eq, digits_list, ByteArray.toList_eq]
        unfold numB
        rw [HL.out, Bool.eq_iff_iff, decide_eq_true_iff, beq_iff_eq]
        exact ⟨fun h => h.2, fun h => ⟨hs, h⟩⟩
      have HV := Lib.hid hV
      have HB := Lib.hid hB
      clear ek et hV hB
      go_wp2_with fail
      refine (ref_Digits _ _ (by omega) (by omega)).mono ?_
      rintro e w1 ⟨rfl, hb⟩
      rw [Int.toNat_natCast]
      go_wp2_with fail
      go_ret2
      exact ⟨by rw [HV.out, HB.out]; rfl, hb⟩
theorem ref_Number_long (s : ByteArray) (w : World) (hs : 10 < s.size) :
    Ret 40 #[.string s] w (.tuple #[.int .u64 (numV s.data.toList), .bool (numB s.data.toList)]) := by
  have hl := len_bytes s
  have hV : numV s.data.toList = 0 := by unfold numV; rw [if_neg (by omega)]
  have hB : numB s.data.toList = false := by unfold numB; simp; omega
  rw [hV, hB]
  clear hl hV hB
  have e0 : ((s.size : Int) == 0) = false := by rw [beq_eq_false_iff_ne]; omega
  go_enter Tryd.func40, Tryd.ntmps40
  go_wp2_with fail
  go_ret2
  exact ⟨rfl, Below.refl _ _⟩
theorem ref_Number_empty (w : World) :
    Ret 40 #[.string ⟨#[]⟩] w (.tuple #[.int .u64 0, .bool false]) := by
  go_enter Tryd.func40, Tryd.ntmps40
  go_wp2_with fail
  go_ret2
  exact ⟨rfl, Below.refl _ _⟩
theorem numV_nil : numV [] = 0 := rfl
theorem numB_nil : numB [] = false := by
  rw [Bool.eq_false_iff]; intro h
  exact decDigits_ne_nil _ (numB_val h).2
theorem ref_Number (s : ByteArray) (w : World) :
    Ret 40 #[.string s] w (.tuple #[.int .u64 (numV s.data.toList), .bool (numB s.data.toList)]) := by
  by_cases h : s.size ≤ 10
  · by_cases h1 : 1 ≤ s.size
    · exact ref_Number_short s w h h1
    · have e : s = ⟨#[]⟩ := by
        apply str_ext
        apply List.eq_nil_of_length_eq_zero
        have := len_bytes s
        omega
      subst e
      exact (ref_Number_empty w).to (by rw [numV_nil, numB_nil])
  · exact ref_Number_long s w (by omega)
end Go.Proofs.YtjebicdlbknemaaDoor
