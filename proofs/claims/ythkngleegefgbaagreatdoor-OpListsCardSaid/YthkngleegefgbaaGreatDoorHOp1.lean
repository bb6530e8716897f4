/- The program's kinds of operations: shapes, of, Word, Mutator, number. -/
import Derived.Test.YthkngleegefgbaaGreatDoorL0a
namespace Go.Proofs.YthkngleegefgbaaGreatDoor
open Go.RowKit
set_option linter.unusedVariables false
set_option linter.unusedSimpArgs false
set_option maxHeartbeats 8000000
set_option maxRecDepth 20000
abbrev shCells : Array Value := #[.string ⟨#[]⟩, .string ⟨#[]⟩, .string ⟨#[110, 101, 119]⟩, .string ⟨#[109, 110]⟩, .string ⟨#[108, 111, 97, 100]⟩, .string ⟨#[109, 114, 105]⟩, .string ⟨#[115, 116, 111, 114, 101]⟩, .string ⟨#[109, 114, 105, 118]⟩, .string ⟨#[100, 114, 111, 112]⟩, .string ⟨#[109, 114]⟩, .string ⟨#[112, 117, 116]⟩, .string ⟨#[109, 82, 103]⟩, .string ⟨#[103, 101, 116]⟩, .string ⟨#[109, 103]⟩, .string ⟨#[97, 99, 107]⟩, .string ⟨#[109]⟩, .string ⟨#[111, 112, 101, 110]⟩, .string ⟨#[109, 107, 98, 113]⟩, .string ⟨#[100, 117, 112]⟩, .string ⟨#[109, 100]⟩, .string ⟨#[117, 115, 101]⟩, .string ⟨#[109, 100]⟩, .string ⟨#[114, 101, 110, 101, 119]⟩, .string ⟨#[109, 100, 116]⟩, .string ⟨#[99, 108, 111, 115, 101]⟩, .string ⟨#[109, 100]⟩, .string ⟨#[109, 97, 114, 107]⟩, .string ⟨#[115]⟩, .string ⟨#[98, 97, 116, 99, 104]⟩, .string ⟨#[]⟩, .string ⟨#[116, 105, 99, 107]⟩, .string ⟨#[84]⟩, .string ⟨#[99, 121, 99, 108, 101]⟩, .string ⟨#[]⟩, .string ⟨#[97, 110, 115, 119, 101, 114]⟩, .string ⟨#[97]⟩]
theorem op_shapes_c (w : World) : Calls Tryz.prog 36 #[] w fun e w' => e = .returned (.slice (some ⟨w.heap.size, 0, none⟩) 18 18) ∧ w' = w.alloc (.cells shCells 44) := by
  go_enter Tryz.func36, Tryz.ntmps36
  go_wp2_with fail
  go_returns
  exact ⟨rfl, rfl⟩
def wordB (kd : Int) : ByteArray := ⟨(wordL kd).toArray⟩
def partsLs : List (List UInt8) := [[109, 110], [109, 114, 105], [109, 114, 105, 118], [109, 114], [109, 82, 103], [109, 103], [109], [109, 107, 98, 113], [109, 100], [109, 100], [109, 100, 116], [109, 100], [115], [], [84], [], [97]]
def partsK (kd : Int) : List UInt8 := if 1 ≤ kd ∧ kd ≤ 17 then partsLs.getD (kd - 1).toNat [] else []
def partsB (kd : Int) : ByteArray := ⟨(partsK kd).toArray⟩
theorem of_c (kd : Int) (w : World) : Ret 24 #[.int .i64 kd] w (.tuple #[.agg #[.string (wordB kd), .string (partsB kd)], .bool (inB kd 1 17)]) := by
  have C := Lib.hid op_shapes_c
  by_cases h1 : kd < 1
  · rw [show wordB kd = ⟨#[]⟩ by unfold wordB wordL; rw [if_neg (by omega)], show partsB kd = ⟨#[]⟩ by unfold partsB partsK; rw [if_neg (by omega)], inB_not (by omega)]
    go_enter Tryz.func24, Tryz.ntmps24
    go_wp2_with fail
    refine Calls.mono (C.out _) ?_
    rintro e w1 ⟨rfl, rfl⟩
    go_wp2_with fail
    refine bodyPost_ret (v := .tuple #[.agg #[.string ⟨#[]⟩, .string ⟨#[]⟩], .bool false]) (by simp [results, Tryz.results24, go_sem]) rfl ⟨rfl, by go_grown⟩
  · by_cases h2 : 17 < kd
    · rw [show wordB kd = ⟨#[]⟩ by unfold wordB wordL; rw [if_neg (by omega)], show partsB kd = ⟨#[]⟩ by unfold partsB partsK; rw [if_neg (by omega)], inB_not (by omega)]
      have e1 : (18 : Int) ≤ kd := by omega
      go_enter Tryz.func24, Tryz.ntmps24
      go_wp2_with fail
      refine Calls.mono (C.out _) ?_
      rintro e w1 ⟨rfl, rfl⟩
      go_wp2_with fail
      refine bodyPost_ret (v := .tuple #[.agg #[.string ⟨#[]⟩, .string ⟨#[]⟩], .bool false]) (by simp [results, Tryz.results24, go_sem]) rfl ⟨rfl, by go_grown⟩
    · rcases kinds (by omega : 1 ≤ kd ∧ kd ≤ 17) with rfl | rfl | rfl | rfl | rfl | rfl | rfl | rfl | rfl | rfl | rfl | rfl | rfl | rfl | rfl | rfl | rfl
      all_goals
        clear h1 h2
        go_enter Tryz.func24, Tryz.ntmps24
        go_wp2_with fail
        refine Calls.mono (C.out _) ?_
        rintro e w1 ⟨rfl, rfl⟩
        go_wp2_with fail
        refine bodyPost_ret (by simp [results, Tryz.results24, go_sem]; exact ⟨⟨rfl, rfl⟩, rfl⟩) rfl ⟨rfl, by go_grown⟩
theorem number_m (b : Nat) (w : World) (hb : b < w.heap.size) : Calls Tryz.prog 25 #[.pointer (some ⟨b, 0, none⟩), .int .i32 109] w fun e w' => e = .returned (.tuple #[.pointer (some ⟨b, 1, none⟩), .int .i64 (0), .int .i64 3]) ∧ w' = w := by
  go_enter Tryz.func25, Tryz.ntmps25
  go_wp2_with fail
  go_returns
  exact ⟨rfl, rfl⟩
theorem number_n (b : Nat) (w : World) (hb : b < w.heap.size) : Calls Tryz.prog 25 #[.pointer (some ⟨b, 0, none⟩), .int .i32 110] w fun e w' => e = .returned (.tuple #[.pointer (some ⟨b, 2, none⟩), .int .i64 (0), .int .i64 4]) ∧ w' = w := by
  go_enter Tryz.func25, Tryz.ntmps25
  go_wp2_with fail
  go_returns
  exact ⟨rfl, rfl⟩
theorem number_r (b : Nat) (w : World) (hb : b < w.heap.size) : Calls Tryz.prog 25 #[.pointer (some ⟨b, 0, none⟩), .int .i32 114] w fun e w' => e = .returned (.tuple #[.pointer (some ⟨b, 2, none⟩), .int .i64 (0), .int .i64 31]) ∧ w' = w := by
  go_enter Tryz.func25, Tryz.ntmps25
  go_wp2_with fail
  go_returns
  exact ⟨rfl, rfl⟩
theorem number_R2 (b : Nat) (w : World) (hb : b < w.heap.size) : Calls Tryz.prog 25 #[.pointer (some ⟨b, 0, none⟩), .int .i32 82] w fun e w' => e = .returned (.tuple #[.pointer (some ⟨b, 2, none⟩), .int .i64 (-1), .int .i64 31]) ∧ w' = w := by
  go_enter Tryz.func25, Tryz.ntmps25
  go_wp2_with fail
  go_returns
  exact ⟨rfl, rfl⟩
theorem number_i (b : Nat) (w : World) (hb : b < w.heap.size) : Calls Tryz.prog 25 #[.pointer (some ⟨b, 0, none⟩), .int .i32 105] w fun e w' => e = .returned (.tuple #[.pointer (some ⟨b, 3, none⟩), .int .i64 (0), .int .i64 3]) ∧ w' = w := by
  go_enter Tryz.func25, Tryz.ntmps25
  go_wp2_with fail
  go_returns
  exact ⟨rfl, rfl⟩
theorem number_v (b : Nat) (w : World) (hb : b < w.heap.size) : Calls Tryz.prog 25 #[.pointer (some ⟨b, 0, none⟩), .int .i32 118] w fun e w' => e = .returned (.tuple #[.pointer (some ⟨b, 4, none⟩), .int .i64 (-1), .int .i64 31]) ∧ w' = w := by
  go_enter Tryz.func25, Tryz.ntmps25
  go_wp2_with fail
  go_returns
  exact ⟨rfl, rfl⟩
theorem number_g (b : Nat) (w : World) (hb : b < w.heap.size) : Calls Tryz.prog 25 #[.pointer (some ⟨b, 0, none⟩), .int .i32 103] w fun e w' => e = .returned (.tuple #[.pointer (some ⟨b, 3, none⟩), .int .i64 (0), .int .i64 7]) ∧ w' = w := by
  go_enter Tryz.func25, Tryz.ntmps25
  go_wp2_with fail
  go_returns
  exact ⟨rfl, rfl⟩
theorem number_d (b : Nat) (w : World) (hb : b < w.heap.size) : Calls Tryz.prog 25 #[.pointer (some ⟨b, 0, none⟩), .int .i32 100] w fun e w' => e = .returned (.tuple #[.pointer (some ⟨b, 2, none⟩), .int .i64 (0), .int .i64 1999]) ∧ w' = w := by
  go_enter Tryz.func25, Tryz.ntmps25
  go_wp2_with fail
  go_returns
  exact ⟨rfl, rfl⟩
theorem number_s (b : Nat) (w : World) (hb : b < w.heap.size) : Calls Tryz.prog 25 #[.pointer (some ⟨b, 0, none⟩), .int .i32 115] w fun e w' => e = .returned (.tuple #[.pointer (some ⟨b, 2, none⟩), .int .i64 (1), .int .i64 10000]) ∧ w' = w := by
  go_enter Tryz.func25, Tryz.ntmps25
  go_wp2_with fail
  go_returns
  exact ⟨rfl, rfl⟩
theorem number_t (b : Nat) (w : World) (hb : b < w.heap.size) : Calls Tryz.prog 25 #[.pointer (some ⟨b, 0, none⟩), .int .i32 116] w fun e w' => e = .returned (.tuple #[.pointer (some ⟨b, 3, none⟩), .int .i64 (1), .int .i64 1048576]) ∧ w' = w := by
  go_enter Tryz.func25, Tryz.ntmps25
  go_wp2_with fail
  go_returns
  exact ⟨rfl, rfl⟩
theorem number_T2 (b : Nat) (w : World) (hb : b < w.heap.size) : Calls Tryz.prog 25 #[.pointer (some ⟨b, 0, none⟩), .int .i32 84] w fun e w' => e = .returned (.tuple #[.pointer (some ⟨b, 2, none⟩), .int .i64 (1), .int .i64 1048576]) ∧ w' = w := by
  go_enter Tryz.func25, Tryz.ntmps25
  go_wp2_with fail
  go_returns
  exact ⟨rfl, rfl⟩
theorem number_b (b : Nat) (w : World) (hb : b < w.heap.size) : Calls Tryz.prog 25 #[.pointer (some ⟨b, 0, none⟩), .int .i32 98] w fun e w' => e = .returned (.tuple #[.pointer (some ⟨b, 3, none⟩), .int .i64 (0), .int .i64 1048576]) ∧ w' = w := by
  go_enter Tryz.func25, Tryz.ntmps25
  go_wp2_with fail
  go_returns
  exact ⟨rfl, rfl⟩
theorem number_k (b : Nat) (w : World) (hb : b < w.heap.size) : Calls Tryz.prog 25 #[.pointer (some ⟨b, 0, none⟩), .int .i32 107] w fun e w' => e = .returned (.tuple #[.pointer (some ⟨b, 2, none⟩), .int .i64 (1), .int .i64 3]) ∧ w' = w := by
  go_enter Tryz.func25, Tryz.ntmps25
  go_wp2_with fail
  go_returns
  exact ⟨rfl, rfl⟩
theorem number_q (b : Nat) (w : World) : Calls Tryz.prog 25 #[.pointer (some ⟨b, 0, none⟩), .int .i32 113] w fun e w' => e = .returned (.tuple #[.pointer none, .int .i64 0, .int .i64 0]) ∧ w' = w := by
  go_enter Tryz.func25, Tryz.ntmps25
  go_wp2_with fail
  go_returns
  exact ⟨rfl, rfl⟩
theorem number_a (b : Nat) (w : World) : Calls Tryz.prog 25 #[.pointer (some ⟨b, 0, none⟩), .int .i32 97] w fun e w' => e = .returned (.tuple #[.pointer none, .int .i64 0, .int .i64 0]) ∧ w' = w := by
  go_enter Tryz.func25, Tryz.ntmps25
  go_wp2_with fail
  go_returns
  exact ⟨rfl, rfl⟩
theorem word_c (kd : Int) (w : World) : Ret 11 #[.int .i64 kd] w (.string (wordB kd)) := by
  have C := Lib.hid (of_c kd)
  go_enter Tryz.func11, Tryz.ntmps11
  go_wp2_with fail
  refine Calls.mono (C.out _) ?_
  rintro e w1 ⟨rfl, hb⟩
  go_wp2_with fail
  go_returns
  exact ⟨rfl, hb.alloc hb.size _⟩
end Go.Proofs.YthkngleegefgbaaGreatDoor
