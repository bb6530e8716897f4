/- The walks of GensChain and GensBack. -/
import Derived.Test.YtidjpaophglmpaaDoorWorks01
import Derived.Deep.LoopGhost
namespace Go.Proofs.YtidjpaophglmpaaDoor
open Go.RowKit
open Go.Lib (decDigits)

theorem Env.keep {w w' : World} (h : Env w) (hb : Below w.heap.size w w') : Env w' := h.on hb

set_option maxHeartbeats 2000000 in
set_option maxRecDepth 20000 in
theorem chain_core (g n x N : Int) (w : World) (hE : Env w) (hx : max g 1 = x) (hN : n % 301 = N) (x1 : 1 ≤ x) (x2 : x ≤ 4294967295) (N0 : 0 ≤ N) (h3 : 0 ≤ n) (h4 : n ≤ 65535) :
    Ret 6 #[.int .u32 g, .int .u16 n] w (.bool true) := by
  have hE0 := hE
  have hc0 := Below.refl w.heap.size w
  clear hE
  have e1 : gErr x = 0 := gErr_pos x1
  go_enter Tryd.func6, Tryd.ntmps6
  go_wp2_with fail
  refine Calls.mono (after_any x N _ (by omega) x2 N0 (by omega)) ?_
  rintro e w1 ⟨rfl, hb1⟩
  have hE1 := hE0.on hb1
  have hc1 := chain hc0 hb1
  clear hE0 hc0 hb1
  go_wp2_with fail
  clear e1
  go_loopw [5, 33] (fun at_ i wr => ∃ k : Int, 0 ≤ k ∧ k ≤ N ∧ x + k ≤ 4294967295 ∧ i = .int .u64 k ∧ at_ = .int .u32 (x + k) ∧ Env wr ∧ Below w.heap.size w wr) (fun _ i _ => N.toNat - (intOf i).toNat)
  case atStart => exact ⟨0, by omega, by omega, by omega, rfl, by simp, hE1, hc1⟩
  case round =>
    obtain ⟨k, hk0, hk, hk2, rfl, rfl, hE0, hc0⟩ := hrel
    clear hE1 hc1
    by_cases hlt : k < N
    · by_cases hm : x + k ≤ 4294967294
      · go_wp2_with fail
        refine Calls.mono (left_pos (x + k) _ (by omega) hk2) ?_
        rintro e w1 ⟨rfl, hb1⟩
        have hE1 := hE0.on hb1
        have hc1 := hc0.trans (hb1.mono hc0.size)
        clear hE0 hc0 hb1
        go_wp2_with fail
        refine Calls.mono (Ret.to (next_any (x + k) _ (by omega) hk2) (v' := .tuple #[.int .u32 (x + k + 1), .bool true, .int .i64 0]) (by rw [gAfter_in (by omega) (by omega), gAfterB_in (by omega) (by omega), gErr_pos (by omega)])) ?_
        rintro e w2 ⟨rfl, hb2⟩
        have hE2 := hE1.on hb2
        have hc2 := hc1.trans (hb2.mono hc1.size)
        clear hE1 hc1 hb2
        go_wp2_with fail
        refine Calls.mono (Ret.to (left_pos (x + k + 1) _ (by omega) (by omega)) (v' := .tuple #[.int .u32 (4294967295 - (x + k) - 1), .int .i64 0]) (by rw [show (4294967295 - (x + k + 1)) = 4294967295 - (x + k) - 1 by omega])) ?_
        rintro e w3 ⟨rfl, hb3⟩
        have hE3 := hE2.on hb3
        have hc3 := hc2.trans (hb3.mono hc2.size)
        clear hE2 hc2 hb3
        go_wp2_with fail
        go_roundw
        case rel => exact ⟨k + 1, by omega, by omega, by omega, rfl, by rw [show x + k + 1 = x + (k + 1) by omega], hE3, hc3⟩
        case measure => simp [intOf]; omega
      · obtain ⟨hm', e2⟩ : 4294967295 ≤ x + k ∧ x + k = 4294967295 := ⟨by omega, by omega⟩
        have E2 := Lib.hid e2
        have hb : gAfterB x N = false := gAfterB_out (by omega)
        have hv : gAfter x N = 0 := gAfter_out (by omega)
        clear e2 hm hm'
        go_wp2_with fail
        refine Calls.mono (Ret.to (left_pos (x + k) _ (by omega) hk2) (v' := .tuple #[.int .u32 0, .int .i64 0]) (by rw [E2.out]; rfl)) ?_
        rintro e w1 ⟨rfl, hb1⟩
        have hE1 := hE0.on hb1
        have hc1 := hc0.trans (hb1.mono hc0.size)
        clear hE0 hc0 hb1
        go_wp2_with fail
        refine Calls.mono (Ret.to (next_any (x + k) _ (by omega) hk2) (v' := .tuple #[.int .u32 0, .bool false, .int .i64 0]) (by rw [E2.out]; rfl)) ?_
        rintro e w2 ⟨rfl, hb2⟩
        have hE2 := hE1.on hb2
        have hc2 := hc1.trans (hb2.mono hc1.size)
        clear hE1 hc1 hb2
        have q1 : ((x + k) == 4294967295) = true := by rw [beq_iff_eq]; exact E2.out
        have q2 : (k == 4294967295 - x) = true := by have := E2.out; rw [beq_iff_eq]; omega
        go_wp2_with fail
        refine Calls.mono (works _ hE2) ?_
        rintro e w3 ⟨rfl, hb3⟩
        have hc3 := hc2.trans (hb3.mono hc2.size)
        go_wp2_with fail
        go_returns
        exact ⟨rfl, hc3⟩
    · obtain ⟨hge, e2⟩ : N ≤ k ∧ k = N := ⟨by omega, by omega⟩
      have E2 := Lib.hid e2
      have hb : gAfterB x N = true := gAfterB_in x1 (by omega)
      have hv : gAfter x N = x + k := by rw [E2.out]; exact gAfter_in x1 (by omega)
      clear e2
      go_wp2_with fail
      refine Calls.mono (works _ hE0) ?_
      rintro e w3 ⟨rfl, hb3⟩
      have hc3 := hc0.trans (hb3.mono hc0.size)
      go_wp2_with fail
      go_returns
      exact ⟨rfl, hc3⟩
theorem chain_walk (g n : Int) (w : World) (hE : Env w) (h1 : 0 ≤ g) (h2 : g ≤ 4294967295) (h3 : 0 ≤ n) (h4 : n ≤ 65535) :
    Ret 6 #[.int .u32 g, .int .u16 n] w (.bool true) :=
  chain_core g n _ _ w hE rfl rfl (by omega) (by omega) (by omega) h3 h4

theorem longer_size (s : ByteArray) (b : UInt8) (k : Nat) (h : k ≤ s.size) : (s.extract 0 k ++ ⟨#[b]⟩ ++ s.extract k s.size).size = s.size + 1 := by
  simp only [ByteArray.size_append, ByteArray.size_extract, show (ByteArray.mk #[b]).size = 1 from rfl]
  omega
set_option maxHeartbeats 2000000 in
set_option maxRecDepth 20000 in
theorem back_core (g c a : Int) (n : Nat) (w : World) (hE : Env w) (hx : max g 1 = (n : Int)) (x1 : 1 ≤ n) (x2 : n ≤ 4294967295) (h3 : 0 ≤ c) (h4 : c ≤ 255) (h5 : 0 ≤ a) (h6 : a ≤ 255) :
    Ret 9 #[.int .u32 g, .int .u8 c, .int .u8 a] w (.bool true) := by
  have hE0 := hE
  have hc0 := Below.refl w.heap.size w
  clear hE
  have hsz := digits_size_le n (by omega)
  have hcv := conv_one c h3 h4
  obtain ⟨k, hk⟩ : ∃ k : Nat, a % (((digits n).size : Int) + 1) = k := ⟨(a % (((digits n).size : Int) + 1)).toNat, by have := Int.emod_nonneg a (b := ((digits n).size : Int) + 1) (by omega); omega⟩
  have hk1 : k ≤ (digits n).size := by have := Int.emod_lt_of_pos a (b := ((digits n).size : Int) + 1) (by omega); omega
  have hk2 : (k : Int) ≤ ((digits n).size : Int) := by omega
  have hls := longer_size (digits n) (UInt8.ofNat c.toNat) k hk1
  obtain ⟨L, hL⟩ : ∃ L, (digits n).extract 0 k ++ ⟨#[UInt8.ofNat c.toNat]⟩ ++ (digits n).extract k (digits n).size = L := ⟨_, rfl⟩
  rw [hL] at hls
  have HL := Lib.hid hL
  clear hL
  cases hg : isGen L.data.toList with
  | true =>
    obtain ⟨m, m1, m2, m3⟩ := (isGen_iff _).1 hg
    obtain rfl : L = digits m := str_ext (by rw [digits_list, m3])
    have hne : ((m : Int) == n) = false := by
      rw [beq_eq_false_iff_ne]
      intro e
      obtain rfl : m = n := by omega
      omega
    have hne2 : ((m : Int) != n) = true := by rw [bne, hne]; rfl
    clear hg m3 hls
    go_enter Tryd.func9, Tryd.ntmps9
    go_wp2_with fail
    refine Calls.mono (text_pos n _ hE0 x1 x2) ?_
    rintro e w1 ⟨rfl, hb1⟩
    have hE1 := hE0.on hb1
    have hc1 := chain hc0 hb1
    clear hE0 hc0 hb1
    go_wp2_with fail
    refine Calls.mono (parse_ok n _ hE1 x1 x2) ?_
    rintro e w2 ⟨rfl, hb2⟩
    have hE2 := hE1.on hb2
    have hc2 := chain hc1 hb2
    clear hE1 hc1 hb2
    go_wp2_with fail
    refine Calls.mono (strconv_FormatUint n (by omega) _ hE2.tabIs) ?_
    rw [show (ByteArray.mk (Lib.decDigits n).toArray) = digits n from rfl]
    rintro e w3 ⟨rfl, hb3⟩
    have hE3 := (hE2.on hb3).alloc (.cells #[.int .u8 c] 5)
    have hc3 := (chain hc2 hb3).alloc (chain hc2 hb3).size (.cells #[.int .u8 c] 5)
    clear hE2 hc2 hb3
    go_wp2_with fail
    go_region_with (fail)
    go_wp2_with fail
    rw [HL.out]
    refine Calls.mono (parse_ok m _ hE3.drew m1 m2) ?_
    rintro e w4 ⟨rfl, hb4⟩
    have hE4 := hE3.on (off_drew hb4)
    have hc4 := hc3.trans ((off_drew hb4).mono hc3.size)
    clear hE3 hc3 hb4
    go_wp2_with fail
    refine Calls.mono (text_pos m _ hE4 m1 m2) ?_
    rintro e w5 ⟨rfl, hb5⟩
    have hE5 := hE4.on hb5
    have hc5 := chain hc4 hb5
    clear hE4 hc4 hb5
    go_wp2_with fail
    refine Calls.mono (works _ hE5) ?_
    rintro e w6 ⟨rfl, hb6⟩
    go_wp2_with fail
    go_returns
    exact ⟨rfl, chain hc5 hb6⟩
  | false =>
    have hs : L.size ≤ 100000 := by omega
    clear hls
    go_enter Tryd.func9, Tryd.ntmps9
    go_wp2_with fail
    refine Calls.mono (text_pos n _ hE0 x1 x2) ?_
    rintro e w1 ⟨rfl, hb1⟩
    have hE1 := hE0.on hb1
    have hc1 := chain hc0 hb1
    clear hE0 hc0 hb1
    go_wp2_with fail
    refine Calls.mono (parse_ok n _ hE1 x1 x2) ?_
    rintro e w2 ⟨rfl, hb2⟩
    have hE2 := hE1.on hb2
    have hc2 := chain hc1 hb2
    clear hE1 hc1 hb2
    go_wp2_with fail
    refine Calls.mono (strconv_FormatUint n (by omega) _ hE2.tabIs) ?_
    rw [show (ByteArray.mk (Lib.decDigits n).toArray) = digits n from rfl]
    rintro e w3 ⟨rfl, hb3⟩
    have hE3 := (hE2.on hb3).alloc (.cells #[.int .u8 c] 5)
    have hc3 := (chain hc2 hb3).alloc (chain hc2 hb3).size (.cells #[.int .u8 c] 5)
    clear hE2 hc2 hb3
    go_wp2_with fail
    go_region_with (fail)
    go_wp2_with fail
    rw [HL.out]
    refine Calls.mono (parse_bad L _ hE3.drew hs hg) ?_
    rintro e w4 ⟨rfl, hb4⟩
    have hE4 := hE3.on (off_drew hb4)
    have hc4 := hc3.trans ((off_drew hb4).mono hc3.size)
    clear hE3 hc3 hb4
    go_wp2_with fail
    refine Calls.mono (works _ hE4) ?_
    rintro e w6 ⟨rfl, hb6⟩
    go_wp2_with fail
    go_returns
    exact ⟨rfl, chain hc4 hb6⟩
theorem back_walk (g c a : Int) (w : World) (hE : Env w) (h1 : 0 ≤ g) (h2 : g ≤ 4294967295) (h3 : 0 ≤ c) (h4 : c ≤ 255) (h5 : 0 ≤ a) (h6 : a ≤ 255) :
    Ret 9 #[.int .u32 g, .int .u8 c, .int .u8 a] w (.bool true) :=
  back_core g c a (max g 1).toNat w hE (by omega) (by omega) (by omega) h3 h4 h5 h6
end Go.Proofs.YtidjpaophglmpaaDoor
