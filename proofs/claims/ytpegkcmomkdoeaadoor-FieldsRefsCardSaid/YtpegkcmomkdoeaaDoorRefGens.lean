/- The contracts of the references of chapter 01: Number, and (where they stand in the cut) Check, Left, After, Next, Newer, Text, Parse. -/
import Derived.Test.YtpegkcmomkdoeaaDoorDigits
import Derived.Test.YtpegkcmomkdoeaaDoorGens
namespace Go.Proofs.YtpegkcmomkdoeaaDoor
open Go.RowKit
open Go.Lib (decDigits)

theorem isGen_numB {l : List UInt8} (h : isGen l = true) : numB l = true := by
  obtain ⟨n, h1, h2, h3⟩ := (isGen_iff l).1 h
  unfold numB
  rw [decide_eq_true_iff]
  subst h3
  rw [val_decDigits]
  exact ⟨nDigits_le_10 n (by omega), rfl⟩
theorem take_snoc (s : ByteArray) (k : Nat) (h : k < s.size) : s.data.toList.take (k + 1) = s.data.toList.take k ++ [s[k]] := by
  rw [List.take_succ_eq_append_getElem (by simpa using h)]; rfl

/-- a byte that is no digit, somewhere -/
theorem all_take_snoc (s : ByteArray) (k : Nat) (h : k < s.size) : (s.data.toList.take (k + 1)).all isDig = ((s.data.toList.take k).all isDig && isDig s[k]) := by
  rw [take_snoc s k h, List.all_append]; simp
theorem not_all_of {s : ByteArray} {k : Nat} (h : k < s.size) (hd : isDig s[k] = false) : s.data.toList.all isDig = false := by
  rw [Bool.eq_false_iff]
  intro ha
  rw [List.all_eq_true] at ha
  have := ha s[k] (by
    have e : s[k] = s.data.toList[k]'(by simpa using h) := rfl
    rw [e]; exact List.getElem_mem _)
  rw [hd] at this; cases this
theorem val_snoc (s : ByteArray) (k : Nat) (h : k < s.size) : valFrom 0 (s.data.toList.take (k + 1)) = valFrom 0 (s.data.toList.take k) * 10 + (s[k].toNat - 48) := by
  rw [take_snoc s k h, valFrom_append, valFrom_one]

set_option maxHeartbeats 1000000 in
theorem ref_Number_short (s : ByteArray) (w : World) (hs : s.size ≤ 10) (h0 : 1 ≤ s.size) :
    Ret 56 #[.string s] w (.tuple #[.int .u64 (numV s.data.toList), .bool (numB s.data.toList)]) := by
  have hl := len_bytes s
  have HL := Lib.hid hl
  clear hl
  have e0 : ((s.size : Int) == 0) = false := by rw [beq_eq_false_iff_ne]; omega
  go_enter Tryd.func56, Tryd.ntmps56
  go_wp2_with fail
  go_loop [4, 5] (fun n i => ∃ k : Nat, k ≤ s.size ∧ i = .int .i64 k ∧ n = .int .u64 (valFrom 0 (s.data.toList.take k)) ∧ (s.data.toList.take k).all isDig = true) (fun _ i => s.size - (intOf i).toNat)
  case atStart => exact ⟨0, Nat.zero_le _, rfl, rfl, rfl⟩
  case round =>
    obtain ⟨k, hk, rfl, rfl, hall⟩ := hrel
    have hv := valFrom_lt_10 _ hall (by rw [List.length_take]; omega)
    have HA := Lib.hid hall
    clear hall
    by_cases hlt : k < s.size
    · have hval := val_snoc s k hlt
      have hat := all_take_snoc s k hlt
      have HV := Lib.hid hval
      have HT := Lib.hid hat
      clear hval hat
      by_cases hd : 48 ≤ s[k].toNat ∧ s[k].toNat ≤ 57
      · obtain ⟨d1, d2⟩ := hd
        have c1 : (48 : Int) ≤ (s[k].toNat : Int) := by omega
        have c2 : (s[k].toNat : Int) ≤ 57 := by omega
        go_wp2_with fail
        go_round
        case rel => exact ⟨k + 1, by omega, by go_num, by rw [HV.out]; go_num, by rw [HT.out, HA.out]; simp [isDig, d1, d2]⟩
        case measure => simp [intOf]; omega
      · have hdig : isDig s[k] = false := by unfold isDig; simpa using hd
        have hn := not_all_of hlt hdig
        have hV : numV s.data.toList = 0 := by unfold numV; rw [if_neg (fun h => by rw [hn] at h; cases h.2)]
        have hB : numB s.data.toList = false := by
          rw [Bool.eq_false_iff]; intro h
          have := (numB_val h).2
          have h2 := decDigits_all (valFrom 0 s.data.toList)
          rw [this, hn] at h2; cases h2
        have HV := Lib.hid hV
        have HB := Lib.hid hB
        have HH := Lib.hid hd
        clear hd hdig hn hV hB
        by_cases c1 : (s[k].toNat : Int) < 48
        · go_wp2_with fail
          go_ret2
          exact ⟨by rw [HV.out, HB.out]; rfl, Below.refl _ _⟩
        · have c2 : (57 : Int) < (s[k].toNat : Int) := by have := HH.out; omega
          go_wp2_with fail
          go_ret2
          exact ⟨by rw [HV.out, HB.out]; rfl, Below.refl _ _⟩
    · have ek : k = s.size := by omega
      have et : s.data.toList.take k = s.data.toList := by rw [ek]; exact List.take_of_length_le (by rw [HL.out]; exact Nat.le_refl _)
      have hV : numV s.data.toList = (valFrom 0 (s.data.toList.take k) : Int) := by
        unfold numV
        rw [if_pos ⟨by rw [HL.out]; exact hs, by rw [← et]; exact HA.out⟩, et]
      have hB : numB s.data.toList = ((digits (valFrom 0 (s.data.toList.take k))).toList == s.toList) := by
        rw [et, ByteArray.toList_eq, digits_list, ByteArray.toList_eq]
        unfold numB
        rw [HL.out, Bool.eq_iff_iff, decide_eq_true_iff, beq_iff_eq]
        exact ⟨fun h => h.2, fun h => ⟨hs, h⟩⟩
      have HV := Lib.hid hV
      have HB := Lib.hid hB
      clear ek et hV hB
      go_wp2_with fail
      refine (ref_Digits _ _ (by omega) (by omega)).mono ?_
      rintro e w1 ⟨rfl, hb⟩
      rw [Int.toNat_natCast]
      go_wp2_with fail
      go_ret2
      exact ⟨by rw [HV.out, HB.out]; rfl, hb⟩
theorem ref_Number_long (s : ByteArray) (w : World) (hs : 10 < s.size) :
    Ret 56 #[.string s] w (.tuple #[.int .u64 (numV s.data.toList), .bool (numB s.data.toList)]) := by
  have hl := len_bytes s
  have hV : numV s.data.toList = 0 := by unfold numV; rw [if_neg (by omega)]
  have hB : numB s.data.toList = false := by unfold numB; simp; omega
  rw [hV, hB]
  clear hl hV hB
  have e0 : ((s.size : Int) == 0) = false := by rw [beq_eq_false_iff_ne]; omega
  go_enter Tryd.func56, Tryd.ntmps56
  go_wp2_with fail
  go_ret2
  exact ⟨rfl, Below.refl _ _⟩
theorem ref_Number_empty (w : World) :
    Ret 56 #[.string ⟨#[]⟩] w (.tuple #[.int .u64 0, .bool false]) := by
  go_enter Tryd.func56, Tryd.ntmps56
  go_wp2_with fail
  go_ret2
  exact ⟨rfl, Below.refl _ _⟩
theorem numV_nil : numV [] = 0 := rfl
theorem numB_nil : numB [] = false := by
  rw [Bool.eq_false_iff]; intro h
  exact decDigits_ne_nil _ (numB_val h).2
theorem ref_Number (s : ByteArray) (w : World) :
    Ret 56 #[.string s] w (.tuple #[.int .u64 (numV s.data.toList), .bool (numB s.data.toList)]) := by
  by_cases h : s.size ≤ 10
  · by_cases h1 : 1 ≤ s.size
    · exact ref_Number_short s w h h1
    · have e : s = ⟨#[]⟩ := by
        apply str_ext
        apply List.eq_nil_of_length_eq_zero
        have := len_bytes s
        omega
      subst e
      exact (ref_Number_empty w).to (by rw [numV_nil, numB_nil])
  · exact ref_Number_long s w (by omega)
theorem ref_Parse (s : ByteArray) (w : World) :
    Ret 57 #[.string s] w (.tuple #[.int .u32 (gParse s.data.toList), .int .i64 (gParseE s.data.toList)]) := by
  have hc := ref_Number s w
  have hbd := numV_bound s.data.toList
  cases hg : isGen s.data.toList with
  | true =>
    have hB := isGen_numB hg
    obtain ⟨n, h1, h2, h3⟩ := (isGen_iff _).1 hg
    have hV : numV s.data.toList = (n : Int) := by rw [(numB_val hB).1, ← h3, val_decDigits]
    rw [hV, hB] at hc
    have hp : gParse s.data.toList = n ∧ gParseE s.data.toList = 0 := by rw [← h3]; exact gParse_digits h1 h2
    rw [hp.1, hp.2]
    have e0 : ((n : Int) == 0) = false := by rw [beq_eq_false_iff_ne]; omega
    have HC := Lib.hid hc
    clear hc hg hB hV hp h3 hbd
    go_enter Tryd.func57, Tryd.ntmps57
    go_wp2_with fail
    refine (HC.out).mono ?_
    rintro e w1 ⟨rfl, hb⟩
    go_wp2_with fail
    go_returns
    exact ⟨rfl, hb⟩
  | false =>
    rw [(gParse_not hg).1, (gParse_not hg).2]
    cases hB : numB s.data.toList with
    | false =>
      rw [hB] at hc
      have HC := Lib.hid hc
      clear hc hg hB hbd
      go_enter Tryd.func57, Tryd.ntmps57
      go_wp2_with fail
      refine (HC.out).mono ?_
      rintro e w1 ⟨rfl, hb⟩
      go_wp2_with fail
      go_returns
      exact ⟨rfl, hb⟩
    | true =>
      obtain ⟨hV, hd⟩ := numB_val hB
      generalize hm : valFrom 0 s.data.toList = m at hV hd
      have hbad : m = 0 ∨ 4294967295 < m := by
        rcases Nat.lt_or_ge 4294967295 m with h | h
        · exact .inr h
        · refine .inl (Nat.eq_zero_of_not_pos fun h1 => ?_)
          have := (isGen_iff s.data.toList).2 ⟨m, h1, h, hd⟩
          rw [hg] at this; cases this
      rw [hV, hB] at hc
      rw [hV] at hbd
      have HC := Lib.hid hc
      clear hc hg hB hV hm hd
      rcases hbad with rfl | hbad
      · go_enter Tryd.func57, Tryd.ntmps57
        go_wp2_with fail
        refine (HC.out).mono ?_
        rintro e w1 ⟨rfl, hb⟩
        go_wp2_with fail
        go_returns
        exact ⟨rfl, hb⟩
      · have e0 : ((m : Int) == 0) = false := by rw [beq_eq_false_iff_ne]; omega
        go_enter Tryd.func57, Tryd.ntmps57
        go_wp2_with fail
        refine (HC.out).mono ?_
        rintro e w1 ⟨rfl, hb⟩
        go_wp2_with fail
        go_returns
        exact ⟨rfl, hb⟩
end Go.Proofs.YtpegkcmomkdoeaaDoor
