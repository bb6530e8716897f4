/- The contracts of package gens: Check, Left, After, Next, Newer, Text, Parse. -/
import Derived.Test.YtpegkcmomkdoeaaDoorGenSpec
import Derived.Test.YtpegkcmomkdoeaaDoorFmt
namespace Go.Proofs.YtpegkcmomkdoeaaDoor
open Go.RowKit
open Go.Lib (decDigits)

theorem Ret.to {f : FuncId} {args : Array Value} {w : World} {v v' : Value} (h : Ret f args w v) (e : v = v') : Ret f args w v' := by rw [← e]; exact h

theorem check_any (g : Int) (w : World) (h1 : 0 ≤ g) (h2 : g ≤ 4294967295) :
    Calls Tryd.prog 43 #[.int .u32 g] w fun e w' => e = .returned (.int .i64 (gErr g)) ∧ w' = w := by
  by_cases h : 1 ≤ g
  · rw [gErr_pos h]
    go_enter Tryd.func43, Tryd.ntmps43
    go_wp2
    go_ret
    exact ⟨rfl, rfl⟩
  · obtain rfl : g = 0 := by omega
    rw [gErr_zero]
    go_enter Tryd.func43, Tryd.ntmps43
    go_wp2
    go_ret
    exact ⟨rfl, rfl⟩

theorem text_zero (w : World) : Ret 74 #[.int .u32 0] w (.tuple #[.string ⟨#[]⟩, .int .i64 2]) := by
  go_enter Tryd.func74, Tryd.ntmps74
  go_wp2
  go_rounds 2
  go_returns
  refine ⟨rfl, ?_⟩
  go_grown
theorem text_pos (g : Nat) (w : World) (hE : Env w) (h1 : 1 ≤ g) (h2 : g ≤ 4294967295) :
    Ret 74 #[.int .u32 g] w (.tuple #[.string (digits g), .int .i64 0]) := by
  go_enter Tryd.func74, Tryd.ntmps74
  go_wp2
  refine wp_loop_rounds 2 ?_
  repeat any_goals (rw [rounds_succ]; go_wp2_with (first | (go_at_call 36; refine (strconv_FormatUint g (by omega) _ ((hE.alloc _).alloc _).tabIs).mono ?_; rintro e w' ⟨rfl, hb⟩) | go_in))
  go_returns
  exact ⟨rfl, off_alloc (off_alloc hb)⟩
theorem text_any (g : Int) (w : World) (hE : Env w) (h1 : 0 ≤ g) (h2 : g ≤ 4294967295) :
    Ret 74 #[.int .u32 g] w (.tuple #[.string (gText g), .int .i64 (gErr g)]) := by
  by_cases h : 1 ≤ g
  · obtain ⟨n, rfl⟩ : ∃ n : Nat, g = n := ⟨g.toNat, by omega⟩
    rw [gErr_pos h, gText_pos h, Int.toNat_natCast]; exact text_pos n w hE (by omega) (by omega)
  · obtain rfl : g = 0 := by omega
    rw [gErr_zero, gText_zero]; exact text_zero w

/-- What ParseUint(s, 10, 32) gives where s is a numeral of the size. -/
theorem pu32_ok (s : ByteArray) (hs : s.size ≤ 100000) (u : Nat) (h : Lib.parseUintB 32 s.data.toList = .ok u) (w : World) :
    Ret 73 #[.string s, .int .i64 10, .int .i64 32] w (.tuple #[.int .u64 u, .nilIface]) :=
  (Tryd.strconv_ParseUint_10_at32_ok s (by omega) u h w).mono fun e w' ⟨he, hw⟩ => ⟨he, by
    rcases hw with rfl | rfl
    · exact Below.refl _ _
    · exact Lib.bytesWorld_below _ _ _⟩
/-- .. and where it is not: some number, and an error. -/
theorem pu32_bad (s : ByteArray) (hs : s.size ≤ 100000) (h : ∀ u, Lib.parseUintB 32 s.data.toList ≠ .ok u) (w : World) (hE : EnvP w) :
    Calls Tryd.prog 73 #[.string s, .int .i64 10, .int .i64 32] w fun e w' => ∃ (n : Int) (N : Nat), e = .returned (.tuple #[.int .u64 n, .iface 138 (.pointer (some ⟨N, 0, none⟩))]) ∧ 0 ≤ n ∧ n ≤ 4294967295 ∧ Below w.heap.size w w' := by
  obtain ⟨tp, p, _, _, _, hsyn⟩ := hE.syn
  obtain ⟨tq, q, _, _, _, hrng⟩ := hE.rng
  cases hp : Lib.parseUintB 32 s.data.toList with
  | ok u => exact absurd hp (h u)
  | range => exact (Any.strconv_ParseUint_10_at32_range_var Tryd.laysPu14 s (by omega) hp tq q w hrng).mono fun e w' ⟨N, he, _, _, hb⟩ => ⟨4294967295, N, he, by omega, by omega, hb⟩
  | _ => exact (Any.strconv_ParseUint_10_at32_syntax_var Tryd.laysPu14 s (by omega) hp tp p w hsyn).mono fun e w' ⟨N, he, _, _, hb⟩ => ⟨0, N, he, by omega, by omega, hb⟩
theorem parse_ok (n : Nat) (w : World) (hE : EnvP w) (h1 : 1 ≤ n) (h2 : n ≤ 4294967295) :
    Ret 55 #[.string (digits n)] w (.tuple #[.int .u32 n, .int .i64 0]) := by
  have hl : (digits n).size ≤ 100000 := by
    have := nDigits_le_10 n (by omega)
    have e : (digits n).size = (Lib.decDigits n).length := by simp [digits, ByteArray.size]
    omega
  have hp : Lib.parseUintB 32 (digits n).data.toList = .ok n := by rw [digits_list]; exact parseUintB_decDigits 32 n (by omega) (by omega)
  have hc := pu32_ok (digits n) hl n hp w
  have HC := Lib.hid hc
  clear hc hp hl
  go_enter Tryd.func55, Tryd.ntmps55
  go_wp2_with fail
  refine (HC.out).mono ?_
  rintro e w1 ⟨rfl, hb⟩
  go_wp2_with fail
  refine (text_pos n _ (hE.on hb).toEnv h1 h2).mono ?_
  rintro e w2 ⟨rfl, hb2⟩
  go_wp2
  go_returns
  exact ⟨rfl, chain hb hb2⟩
theorem parse_bad (s : ByteArray) (w : World) (hE : EnvP w) (hs : s.size ≤ 100000) (hg : isGen s.data.toList = false) :
    Ret 55 #[.string s] w (.tuple #[.int .u32 0, .int .i64 9]) := by
  cases h : Lib.parseUintB 32 s.data.toList with
  | ok u =>
    obtain ⟨hv, hall, hle, hne⟩ := parseUintB_ok _ _ _ h
    have hle' : u ≤ 4294967295 := by omega
    have hc := pu32_ok s hs u h w
    have HC := Lib.hid hc
    clear hc h
    by_cases hu : 1 ≤ u
    · have hd : ((digits u).toList == s.toList) = false := by
        refine str_beq_ne fun e => ?_
        have : isGen s.data.toList = true := (isGen_iff _).2 ⟨u, hu, hle', by rw [← e, digits_list]⟩
        rw [hg] at this; cases this
      clear hg hv hall hne hle
      go_enter Tryd.func55, Tryd.ntmps55
      go_wp2_with fail
      refine (HC.out).mono ?_
      rintro e w1 ⟨rfl, hb⟩
      go_wp2_with fail
      refine (text_pos u _ (hE.on hb).toEnv hu hle').mono ?_
      rintro e w2 ⟨rfl, hb2⟩
      go_wp2
      go_returns
      exact ⟨rfl, chain hb hb2⟩
    · obtain rfl : u = 0 := by omega
      clear hg hv hall hne hle
      go_enter Tryd.func55, Tryd.ntmps55
      go_wp2_with fail
      refine (HC.out).mono ?_
      rintro e w1 ⟨rfl, hb⟩
      go_wp2_with fail
      refine (text_zero _).mono ?_
      rintro e w2 ⟨rfl, hb2⟩
      go_wp2
      go_returns
      exact ⟨rfl, chain hb hb2⟩
  | _ =>
    have hc := pu32_bad s hs (by intro u hu; rw [h] at hu; cases hu) w hE
    have HC := Lib.hid hc
    clear hc h hg
    go_enter Tryd.func55, Tryd.ntmps55
    go_wp2_with fail
    refine (HC.out).mono ?_
    rintro e w1 ⟨n, N, rfl, h0, h1, hb⟩
    go_wp2_with fail
    refine (text_any n _ (hE.on hb).toEnv h0 h1).mono ?_
    rintro e w2 ⟨rfl, hb2⟩
    go_wp2
    go_returns
    exact ⟨rfl, chain hb hb2⟩
theorem parse_any (s : ByteArray) (w : World) (hE : EnvP w) (hs : s.size ≤ 100000) :
    Ret 55 #[.string s] w (.tuple #[.int .u32 (gParse s.data.toList), .int .i64 (gParseE s.data.toList)]) := by
  cases hg : isGen s.data.toList with
  | true =>
    obtain ⟨n, h1, h2, h3⟩ := (isGen_iff _).1 hg
    have e : s = digits n := by
      apply ByteArray.ext
      apply Array.ext'
      rw [digits_list, h3]
    subst e
    rw [digits_list, (gParse_digits h1 h2).1, (gParse_digits h1 h2).2]
    exact parse_ok n w hE h1 h2
  | false =>
    rw [(gParse_not hg).1, (gParse_not hg).2]
    exact parse_bad s w hE hs hg
end Go.Proofs.YtpegkcmomkdoeaaDoor
