/- The contract of the references' Digits: the decimal numeral. -/
import Derived.Test.YtpegkcmomkdoeaaDoorGenSpec
import Derived.Test.YtpegkcmomkdoeaaDoorEnv
import Derived.Deep.RegionWith
namespace Go.Proofs.YtpegkcmomkdoeaaDoor
open Go.RowKit
open Go.Lib (decDigits)

theorem digits_small {n : Int} (h0 : 0 ≤ n) (h : n < 10) : digits n.toNat = ⟨#[UInt8.ofNat (48 + n).toNat]⟩ := by
  unfold digits
  rw [decDigits_step, if_pos (by omega), show (48 + n).toNat = 48 + n.toNat by omega]
theorem digits_app {n : Int} (h : 10 ≤ n) : digits n.toNat = digits (n / 10).toNat ++ ⟨#[UInt8.ofNat (48 + n % 10).toNat]⟩ := by
  rw [show (48 + n % 10).toNat = 48 + (n % 10).toNat by omega]
  apply str_ext
  have e1 : (n / 10).toNat = n.toNat / 10 := by omega
  have e2 : (n % 10).toNat = n.toNat % 10 := by omega
  rw [e1, e2, digits_list, decDigits_step, if_neg (by omega)]
  simp [digits]

/-- A slice of one byte, made into a string. -/
theorem conv_one (b : Int) (h0 : 0 ≤ b) (h1 : b ≤ 255) (a : Addr) (W : World) (hc : W.cell? a = some (.int .u8 b)) :
    (convert 64 9 (.slice (some a) 1 1)).run Tryd.prog W = .ok (.string ⟨#[UInt8.ofNat b.toNat]⟩) W := by
  have h := run_convert_bytes_back (P := Tryd.prog) W 64 9 5 a 1 [UInt8.ofNat b.toNat] Tryd.underlying64 Tryd.underlying5 Tryd.underlying9 (fun j hj => by
    have hj0 : j = 0 := by simpa using hj
    subst hj0
    rw [show a.add 0 = a from rfl, hc]
    have e : (UInt8.ofNat b.toNat).toNat = b.toNat := by rw [UInt8.toNat_ofNat']; omega
    simp only [List.getElem_cons_zero, e]
    rw [Int.toNat_of_nonneg h0])
  exact h

set_option maxHeartbeats 1000000 in
theorem refDigits_any (k : Nat) : ∀ (n : Int) (w : World), n ≤ k → 0 ≤ n → n ≤ 18446744073709551615 →
    Ret 52 #[.int .u64 n] w (.string (digits n.toNat)) := by
  induction k with
  | zero =>
    intro n w hk h0 h1
    obtain rfl : n = 0 := by omega
    have hc := conv_one 48 (by omega) (by omega)
    have hd : digits (0 : Int).toNat = ⟨#[48]⟩ := digits_small (n := 0) (by omega) (by omega)
    rw [hd]
    clear hd
    go_enter Tryd.func52, Tryd.ntmps52
    go_wp2_with fail
    go_returns
    exact ⟨rfl, by go_grown⟩
  | succ k ih =>
    intro n w hk h0 h1
    have IH := Lib.hid ih
    clear ih
    by_cases h : n < 10
    · have hc := conv_one (48 + n) (by omega) (by omega)
      have hd := digits_small h0 h
      rw [hd]
      clear hd
      go_enter Tryd.func52, Tryd.ntmps52
      go_wp2_with fail
      go_returns
      exact ⟨rfl, by go_grown⟩
    · have hd := digits_app (n := n) (by omega)
      have hrun : ∀ W, (Op.stringOp .add (digits (n / 10).toNat) ⟨#[UInt8.ofNat (48 + n % 10).toNat]⟩).run Tryd.prog W = .ok (.string (digits n.toNat)) W := fun W => by
        rw [hd]
        have h1 := digits_size_le (n / 10).toNat (by omega)
        exact run_string_add_sum W _ _ (by rw [show (ByteArray.mk #[UInt8.ofNat (48 + n % 10).toNat]).size = 1 from rfl]; omega)
      have hc := conv_one (48 + n % 10) (by omega) (by omega)
      have q1 : IntKind.u64.wrap (n.tdiv 10) = n / 10 := by rw [Int.tdiv_eq_ediv_of_nonneg h0, IntKind.wrap_u64]; omega
      have q2 : n.tmod 10 = n % 10 := Int.tmod_eq_emod_of_nonneg h0
      have q3 : IntKind.u64.wrap (48 + n % 10) = 48 + n % 10 := by rw [IntKind.wrap_u64]; omega
      have q4 : IntKind.u8.wrap (48 + n % 10) = 48 + n % 10 := by rw [IntKind.wrap_u8]; omega
      have r1 : n / 10 ≤ k := by omega
      have r2 : 0 ≤ n / 10 := by omega
      have r3 : n / 10 ≤ 18446744073709551615 := by omega
      clear hd hk
      go_enter Tryd.func52, Tryd.ntmps52
      go_wp2_with fail
      go_region_with (first | (go_at_call 52; refine ((IH.out) _ _ ?_ ?_ ?_).mono ?_; exact r1; exact r2; exact r3; rintro e w' ⟨rfl, hb⟩; try have hc1 := keep_new_drew hb))
      all_goals
        go_wp2
        go_returns
        refine ⟨rfl, ?_⟩
        first
          | exact off_alloc (off_drew hb)
          | exact (off_drew hb).alloc (off_drew hb).size _
theorem ref_Digits (n : Int) (w : World) (h0 : 0 ≤ n) (h1 : n ≤ 18446744073709551615) : Ret 52 #[.int .u64 n] w (.string (digits n.toNat)) :=
  refDigits_any n.toNat n w (by omega) h0 h1
end Go.Proofs.YtpegkcmomkdoeaaDoor
