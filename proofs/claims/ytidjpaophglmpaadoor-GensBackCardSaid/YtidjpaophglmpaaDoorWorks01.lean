/- The chapter's examples hold: 'works' of the statements of chapter 01. -/
import Derived.Test.YtidjpaophglmpaaDoorRefGens
namespace Go.Proofs.YtidjpaophglmpaaDoor
open Go.RowKit
open Go.Lib (decDigits)

theorem isGen_07 : isGen [48, 55] = false := by
  have h : valFrom 0 [48, 55] = 7 := by decide
  have h7 : decDigits 7 = [55] := by rw [decDigits_step]; decide
  unfold isGen
  rw [h, h7]
  decide
set_option maxHeartbeats 1000000 in
theorem works (w : World) (hE : Env w) : Ret 20 #[] w (.bool true) := by
  have hE0 := hE
  have hc0 := Below.refl w.heap.size w
  clear hE
  go_enter Tryd.func20, Tryd.ntmps20
  go_wp2_with fail
  refine Calls.mono (Ret.to (v' := .tuple #[.int .u32 2, .bool true, .int .i64 0]) (next_any 1 _ (by omega) (by omega)) (by rfl)) ?_
  rintro e w1 ⟨rfl, hb1⟩
  have hE1 := hE0.on hb1
  have hc1 := chain hc0 hb1
  clear hE0 hc0 hb1
  go_wp2_with fail
  refine Calls.mono (Ret.to (v' := .tuple #[.int .u32 0, .bool false, .int .i64 0]) (next_any 4294967295 _ (by omega) (by omega)) (by rfl)) ?_
  rintro e w2 ⟨rfl, hb2⟩
  have hE2 := hE1.on hb2
  have hc2 := chain hc1 hb2
  clear hE1 hc1 hb2
  go_wp2_with fail
  refine Calls.mono (Ret.to (v' := .tuple #[.int .u32 4294967294, .int .i64 0]) (left_any 1 _ (by omega) (by omega)) (by rfl)) ?_
  rintro e w3 ⟨rfl, hb3⟩
  have hE3 := hE2.on hb3
  have hc3 := chain hc2 hb3
  clear hE2 hc2 hb3
  go_wp2_with fail
  refine Calls.mono (Ret.to (v' := .tuple #[.int .u32 4294967295, .bool true, .int .i64 0]) (after_any 5 4294967290 _ (by omega) (by omega) (by omega) (by omega)) (by rfl)) ?_
  rintro e w4 ⟨rfl, hb4⟩
  have hE4 := hE3.on hb4
  have hc4 := chain hc3 hb4
  clear hE3 hc3 hb4
  go_wp2_with fail
  refine Calls.mono (Ret.to (v' := .tuple #[.int .u32 0, .bool false, .int .i64 0]) (after_any 5 4294967291 _ (by omega) (by omega) (by omega) (by omega)) (by rfl)) ?_
  rintro e w5 ⟨rfl, hb5⟩
  have hE5 := hE4.on hb5
  have hc5 := chain hc4 hb5
  clear hE4 hc4 hb5
  go_wp2_with fail
  refine Calls.mono (Ret.to (v' := .tuple #[.bool true, .int .i64 0]) (newer_any 3 2 _ (by omega) (by omega) (by omega) (by omega)) (by rfl)) ?_
  rintro e w6 ⟨rfl, hb6⟩
  have hE6 := hE5.on hb6
  have hc6 := chain hc5 hb6
  clear hE5 hc5 hb6
  go_wp2_with fail
  refine Calls.mono (parse_bad ⟨#[48, 55]⟩ _ hE6 (by decide) isGen_07) ?_
  rintro e w7 ⟨rfl, hb7⟩
  have hE7 := hE6.on hb7
  have hc7 := chain hc6 hb7
  clear hE6 hc6 hb7
  go_wp2_with fail
  go_returns
  exact ⟨rfl, hc7⟩
end Go.Proofs.YtidjpaophglmpaaDoor
