/- The reference of chapter 07: digits, cut, number, Check. -/
import Derived.Test.YtinlfheonlpceaaGreatDoorL0c
import Derived.Test.YtinlfheonlpceaaGreatDoorL1a
import Derived.Test.YtinlfheonlpceaaGreatDoorL0b
import Derived.Deep.DeepCutAuto
namespace Go.Proofs.YtinlfheonlpceaaGreatDoor
open Go.RowKit
set_option linter.unusedVariables false
set_option linter.unusedSimpArgs false
set_option maxHeartbeats 16000000
set_option maxRecDepth 20000
set_option maxHeartbeats 1000000 in
theorem rdig_any (k : Nat) : ∀ (n : Int) (w : World), n ≤ k → 0 ≤ n → n ≤ 9223372036854775807 →
    Ret 112 #[.int .i64 n] w (.string (digits n.toNat)) := by
  induction k with
  | zero =>
    intro n w hk h0 h1
    obtain rfl : n = 0 := by omega
    have hc := conv_one 48 (by omega) (by omega)
    have hd : digits (0 : Int).toNat = ⟨#[48]⟩ := digits_small (n := 0) (by omega) (by omega)
    rw [hd]
    clear hd
    go_enter Tryz.func112, Tryz.ntmps112
    go_wp2_with fail
    go_returns
    exact ⟨rfl, by go_grown⟩
  | succ k ih =>
    intro n w hk h0 h1
    have IH := Lib.hid ih
    clear ih
    by_cases h : n < 10
    · have hc := conv_one (48 + n) (by omega) (by omega)
      have hd := digits_small h0 h
      rw [hd]
      clear hd
      go_enter Tryz.func112, Tryz.ntmps112
      go_wp2_with fail
      go_returns
      exact ⟨rfl, by go_grown⟩
    · have hd := digits_app (n := n) (by omega)
      have hrun : ∀ W, (Op.stringOp .add (digits (n / 10).toNat) ⟨#[UInt8.ofNat (48 + n % 10).toNat]⟩).run Tryz.prog W = .ok (.string (digits n.toNat)) W := fun W => by
        rw [hd]
        have h1 := digits_size_le (n / 10).toNat (by omega)
        exact run_string_add_sum W _ _ (by rw [show (ByteArray.mk #[UInt8.ofNat (48 + n % 10).toNat]).size = 1 from rfl]; omega)
      have hc := conv_one (48 + n % 10) (by omega) (by omega)
      have q0 : n.tdiv 10 = n / 10 := Int.tdiv_eq_ediv_of_nonneg h0
      have q1 : IntKind.i64.wrap (n / 10) = n / 10 := IntWalk.i64_in _ ⟨by omega, by omega⟩
      have q2 : n.tmod 10 = n % 10 := Int.tmod_eq_emod_of_nonneg h0
      have q3 : IntKind.i64.wrap (48 + n % 10) = 48 + n % 10 := IntWalk.i64_in _ ⟨by omega, by omega⟩
      have q4 : IntKind.u8.wrap (48 + n % 10) = 48 + n % 10 := by rw [IntKind.wrap_u8]; omega
      have r1 : n / 10 ≤ k := by omega
      have r2 : 0 ≤ n / 10 := by omega
      have r3 : n / 10 ≤ 9223372036854775807 := by omega
      clear hd hk
      go_enter Tryz.func112, Tryz.ntmps112
      go_wp2_with fail
      go_region_with (first | (go_at_call 112; refine ((IH.out) _ _ ?_ ?_ ?_).mono ?_; exact r1; exact r2; exact r3; rintro e w' ⟨rfl, hb⟩; try have hc1 := keep_new_drew hb))
      all_goals
        go_wp2
        go_returns
        refine ⟨rfl, ?_⟩
        first
          | exact off_alloc (off_drew hb)
          | exact (off_drew hb).alloc (off_drew hb).size _
theorem rdig_c (n : Int) (w : World) (h0 : 0 ≤ n) (h1 : n ≤ 9223372036854775807) : Ret 112 #[.int .i64 n] w (.string (digits n.toNat)) := rdig_any n.toNat n w (by omega) h0 h1
theorem rcut_no (s : ByteArray) (hs : s.size ≤ 100000) (hn : (32 : UInt8) ∉ s.data.toList) (w : World) :
    Ret 103 #[.string s] w (.tuple #[.string s, .string ⟨#[]⟩]) := by
  have hne := fun k hk => byte_ne (m := 32) rfl (no_mem s 32 hn k hk)
  have HN := Lib.hid hne
  clear hne hn
  go_enter Tryz.func103, Tryz.ntmps103
  go_wp2_with fail
  go_loop [4] (fun at_ => ∃ k : Nat, k ≤ s.size ∧ at_ = .int .i64 k) (fun at_ => s.size - (intOf at_).toNat)
  case atStart => exact ⟨0, Nat.zero_le _, rfl⟩
  case round =>
    obtain ⟨k, hk, rfl⟩ := hrel
    by_cases hlt : k < s.size
    · obtain ⟨e1, e2⟩ := HN.out k hlt
      go_wp2_with fail
      go_round
      case rel => exact ⟨k + 1, by omega, by go_num⟩
      case measure => simp [intOf]; omega
    · go_wp2_with fail
      go_returns
      exact ⟨rfl, by go_grown⟩
theorem rcut_at (s : ByteArray) (hs : s.size ≤ 100000) (pre post : List UInt8) (he : s.data.toList = pre ++ 32 :: post) (hc : (32 : UInt8) ∉ pre) (w : World) :
    Ret 103 #[.string s] w (.tuple #[.string ⟨pre.toArray⟩, .string ⟨post.toArray⟩]) := by
  have hne := fun k h hk => byte_ne (m := 32) rfl (at_mem s pre 32 post he hc k h hk)
  have hl : pre.length < s.size := by rw [← len_bytes, he]; simp
  have heq := byte_eq (m := 32) rfl (at_here s pre 32 post he hl)
  have HN := Lib.hid hne
  have HQ := Lib.hid heq
  have sr : s.extract 0 pre.length = ⟨pre.toArray⟩ := by
    apply str_ext
    rw [Lib.extract_data, he]
    simp
  have sp : s.extract (pre.length + 1) s.size = ⟨post.toArray⟩ := by
    apply str_ext
    rw [Lib.extract_to_end, he]
    simp
  generalize ByteArray.mk pre.toArray = P1 at sr ⊢
  generalize ByteArray.mk post.toArray = P2 at sp ⊢
  generalize pre.length = n at *
  clear hne hc he heq
  go_enter Tryz.func103, Tryz.ntmps103
  go_wp2_with fail
  go_loop [4] (fun at_ => ∃ k : Nat, k ≤ n ∧ at_ = .int .i64 k) (fun at_ => n - (intOf at_).toNat)
  case atStart => exact ⟨0, Nat.zero_le _, rfl⟩
  case round =>
    obtain ⟨k, hk, rfl⟩ := hrel
    by_cases hlt : k < n
    · have hls : k < s.size := by omega
      obtain ⟨e1, e2⟩ := HN.out k hlt hls
      go_wp2_with fail
      go_round
      case rel => exact ⟨k + 1, by omega, by go_num⟩
      case measure => simp [intOf]; omega
    · obtain rfl : k = n := by omega
      obtain ⟨e1, e2⟩ := HQ.out
      have q1 : ((k : Int) + 1) ≤ s.size := by omega
      have q2 : (0 : Int) ≤ (k : Int) + 1 := by omega
      have q3 : (k : Int) ≤ s.size := by omega
      go_wp2_with fail
      go_region
      go_wp2_with fail
      go_returns
      exact ⟨by simp [sr, sp], by go_grown⟩
theorem rcut_c (s : ByteArray) (hs : s.size ≤ 100000) (w : World) :
    Ret 103 #[.string s] w (.tuple #[.string ⟨(Lib.cut s.data.toList [32]).1.toArray⟩, .string ⟨(Lib.cut s.data.toList [32]).2.1.toArray⟩]) := by
  rcases mem_split s.data.toList 32 with h | ⟨pre, post, h1, h2⟩
  · rw [cut_no _ _ h]
    exact (rcut_no s hs h w).to (by rw [show (⟨s.data.toList.toArray⟩ : ByteArray) = s from str_ext (by simp)])
  · rw [h2, cut_at _ _ _ h1]
    exact rcut_at s hs pre post h2 h1 w
/-- What number gives. -/
def num13 (l : List UInt8) : Int := if l.length ≤ 13 ∧ l.all isDig = true then valFrom 0 l else 0
theorem num13_bound (l : List UInt8) : 0 ≤ num13 l ∧ num13 l ≤ 99999999999999 := by
  unfold num13
  split
  · rename_i h
    have := valFrom_lt l 0 h.2
    have h2 : (10 : Nat) ^ l.length ≤ 10 ^ 13 := Nat.pow_le_pow_right (by decide) h.1
    omega
  · omega
theorem num13_dec (n : Nat) (h : n < 10000000000000) : num13 (Lib.decDigits n) = n := by
  unfold num13
  rw [if_pos ⟨dec_len 12 n (by simpa using h), decDigits_all n⟩, val_decDigits]
theorem rnumber_c (s : ByteArray) (hs : s.size ≤ 100000) (w : World) : Ret 104 #[.string s] w (.int .i64 (num13 s.data.toList)) := by
  have hl := len_bytes s
  have HL := Lib.hid hl
  clear hl
  go_enter Tryz.func104, Tryz.ntmps104
  go_wp2_with fail
  go_loop [3, 4] (fun n i => ∃ k : Nat, k ≤ s.size ∧ i = .int .i64 k ∧ n = .int .i64 (valFrom 0 (s.data.toList.take k)) ∧ (s.data.toList.take k).all isDig = true ∧ (k = 0 ∨ s.size ≤ 13)) (fun _ i => s.size - (intOf i).toNat)
  case atStart => exact ⟨0, Nat.zero_le _, rfl, rfl, rfl, .inl rfl⟩
  case round =>
    obtain ⟨k, hk, rfl, rfl, hall, hsz⟩ := hrel
    have hv : valFrom 0 (s.data.toList.take k) < 10000000000000 := by
      have h1 := valFrom_lt _ 0 hall
      have h3 : (s.data.toList.take k).length ≤ 13 := by rw [List.length_take, HL.out]; omega
      have h2 : (10 : Nat) ^ (s.data.toList.take k).length ≤ 10 ^ 13 := Nat.pow_le_pow_right (by decide) h3
      omega
    have HA := Lib.hid hall
    clear hall
    by_cases hlt : k < s.size
    · have hval := val_snoc s k hlt
      have hat := all_take_snoc s k hlt
      have HV := Lib.hid hval
      have HT := Lib.hid hat
      clear hval hat
      by_cases hd : 48 ≤ s[k].toNat ∧ s[k].toNat ≤ 57
      · obtain ⟨d1, d2⟩ := hd
        have c1 : (48 : Int) ≤ (s[k].toNat : Int) := by omega
        have c2 : (s[k].toNat : Int) ≤ 57 := by omega
        by_cases hs13 : s.size ≤ 13
        · have c3 : (s.size : Int) ≤ 13 := by omega
          go_wp2_with fail
          go_round
          case rel => exact ⟨k + 1, by omega, by go_num, by rw [HV.out]; go_num, by rw [HT.out, HA.out]; simp [isDig, d1, d2], .inr hs13⟩
          case measure => simp [intOf]; omega
        · have c3 : (13 : Int) < (s.size : Int) := by omega
          have hV : num13 s.data.toList = 0 := by unfold num13; rw [if_neg (fun h => by rw [HL.out] at h; omega)]
          have HV2 := Lib.hid hV
          clear hV
          go_wp2_with fail
          go_returns
          exact ⟨by rw [HV2.out]; rfl, Below.refl _ _⟩
      · have hdig : isDig s[k] = false := by unfold isDig; simpa using hd
        have hn := not_all_of hlt hdig
        have hV : num13 s.data.toList = 0 := by unfold num13; rw [if_neg (fun h => by rw [hn] at h; cases h.2)]
        have HV := Lib.hid hV
        have HH := Lib.hid hd
        clear hd hdig hn hV
        by_cases c1 : (s[k].toNat : Int) < 48
        · go_wp2_with fail
          go_returns
          exact ⟨by rw [HV.out]; rfl, Below.refl _ _⟩
        · have c2 : (57 : Int) < (s[k].toNat : Int) := by have := HH.out; omega
          go_wp2_with fail
          go_returns
          exact ⟨by rw [HV.out]; rfl, Below.refl _ _⟩
    · have ek : k = s.size := by omega
      have et : s.data.toList.take k = s.data.toList := by rw [ek]; exact List.take_of_length_le (by rw [HL.out]; exact Nat.le_refl _)
      have hV : num13 s.data.toList = (valFrom 0 (s.data.toList.take k) : Int) := by
        unfold num13
        rw [if_pos ⟨by rw [HL.out]; omega, by rw [← et]; exact HA.out⟩, et]
      have HV := Lib.hid hV
      clear ek et hV
      go_wp2_with fail
      go_returns
      exact ⟨by rw [HV.out]; rfl, Below.refl _ _⟩
theorem rcheck_a (a : AtR) (hg : gIn a) (w : World) : Ret 37 #[atV a] w (.int .i64 (aErr a)) := by
  have c := fun W => ro_check a.k a.i a.g W hg.1
  by_cases h1 : a.at_ < 0
  · rw [aErr_no (fun h => by omega)]
    go_enter Tryz.func37, Tryz.ntmps37
    go_wp2_with fail
    go_returns
    exact ⟨rfl, by go_grown⟩
  by_cases h2 : (1099511627776 : Int) < a.at_
  · rw [aErr_no (fun h => by have := h.1.2; unfold maxT at this; omega)]
    go_enter Tryz.func37, Tryz.ntmps37
    go_wp2_with fail
    go_returns
    exact ⟨rfl, by go_grown⟩
  cases hd : dOk 64 a.k a.i a.g
  · rw [dErr_bad hd] at c
    rw [aErr_no (fun h => by rw [hd] at h; exact absurd h.2.1 (by decide))]
    have CC := Lib.hid c
    clear c hd
    go_enter Tryz.func37, Tryz.ntmps37
    go_wp2_with fail
    refine Calls.mono (CC.out _) ?_
    rintro e w1 ⟨rfl, hb⟩
    go_wp2_with fail
    go_returns
    exact ⟨rfl, under hb⟩
  rw [dErr_ok hd] at c
  have CC := Lib.hid c
  by_cases h3 : a.why < 1
  · rw [aErr_no (fun h => by omega)]
    clear c
    go_enter Tryz.func37, Tryz.ntmps37
    go_wp2_with fail
    refine Calls.mono (CC.out _) ?_
    rintro e w1 ⟨rfl, hb⟩
    have r1 := (Row.new (W := w) (cs := atC a) (t := 43)).on hb
    have y0 := r1.cell
    have y1 := r1.lt
    go_wp2_with fail
    go_returns
    exact ⟨rfl, under hb⟩
  by_cases h4 : (3 : Int) < a.why
  · rw [aErr_no (fun h => by omega)]
    clear c
    go_enter Tryz.func37, Tryz.ntmps37
    go_wp2_with fail
    refine Calls.mono (CC.out _) ?_
    rintro e w1 ⟨rfl, hb⟩
    have r1 := (Row.new (W := w) (cs := atC a) (t := 43)).on hb
    have y0 := r1.cell
    have y1 := r1.lt
    go_wp2_with fail
    go_returns
    exact ⟨rfl, under hb⟩
  by_cases h5 : a.ans < 1
  · rw [aErr_no (fun h => by omega)]
    clear c
    go_enter Tryz.func37, Tryz.ntmps37
    go_wp2_with fail
    refine Calls.mono (CC.out _) ?_
    rintro e w1 ⟨rfl, hb⟩
    have r1 := (Row.new (W := w) (cs := atC a) (t := 43)).on hb
    have y0 := r1.cell
    have y1 := r1.lt
    go_wp2_with fail
    go_returns
    exact ⟨rfl, under hb⟩
  by_cases h6 : (3 : Int) < a.ans
  · rw [aErr_no (fun h => by omega)]
    clear c
    go_enter Tryz.func37, Tryz.ntmps37
    go_wp2_with fail
    refine Calls.mono (CC.out _) ?_
    rintro e w1 ⟨rfl, hb⟩
    have r1 := (Row.new (W := w) (cs := atC a) (t := 43)).on hb
    have y0 := r1.cell
    have y1 := r1.lt
    go_wp2_with fail
    go_returns
    exact ⟨rfl, under hb⟩
  rw [show aErr a = 0 from aErr_ok (aOk_iff.2 ⟨⟨by omega, by unfold maxT; omega⟩, hd, ⟨by omega, by omega⟩, ⟨by omega, by omega⟩⟩)]
  clear c hd
  go_enter Tryz.func37, Tryz.ntmps37
  go_wp2_with fail
  refine Calls.mono (CC.out _) ?_
  rintro e w1 ⟨rfl, hb⟩
  have r1 := (Row.new (W := w) (cs := atC a) (t := 43)).on hb
  have y0 := r1.cell
  have y1 := r1.lt
  go_wp2_with fail
  go_returns
  exact ⟨rfl, under hb⟩
end Go.Proofs.YtinlfheonlpceaaGreatDoor
