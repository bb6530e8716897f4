/- The variables' list in another order. -/
import Derived.Lib.LaidCaseMet
import Derived.Deep.DeepHandedRow
import Derived.Test.YtinlfheonlpceaaGreatDoorL0c
import Derived.Deep.DeepWitnessRowRef
namespace Go.Proofs.YtinlfheonlpceaaGreatDoor
open Go.RowKit
theorem laidVars_swap {P : Program} {w : World} (x y : String × DataW Unit) : ∀ {A : List (String × DataW Unit)} {ps : List MemPlace}, DataW.LaidVars P w (A ++ [x, y]) ps → ∃ qs, DataW.LaidVars P w (A ++ [y, x]) qs ∧ qs.Perm ps
  | [], ps, h => by
    obtain ⟨g, t, cs, fuel, p, q, h1, h2, h3, h4, h5, rfl⟩ := h
    obtain ⟨g', t', cs', fuel', p', q', k1, k2, k3, k4, k5, rfl⟩ := h5
    cases k5
    refine ⟨_, ⟨g', t', cs', fuel', p', _, k1, k2, k3, k4, ⟨g, t, cs, fuel, p, [], h1, h2, h3, h4, rfl, rfl⟩, rfl⟩, ?_⟩
    rw [List.append_nil, List.append_nil]
    exact List.perm_append_comm
  | a :: A, ps, h => by
    obtain ⟨g, t, cs, fuel, p, q, h1, h2, h3, h4, h5, rfl⟩ := h
    obtain ⟨qs, k1, k2⟩ := laidVars_swap x y h5
    exact ⟨_, ⟨g, t, cs, fuel, p, qs, h1, h2, h3, h4, k1, rfl⟩, k2.append_left _⟩
theorem laidMet_swap {P : Program} {w : World} {A : List (String × DataW Unit)} {x y : String × DataW Unit} (h : laidMet P (A ++ [x, y]) w) : laidMet P (A ++ [y, x]) w := by
  obtain ⟨ps, h1, h2, h3⟩ := h
  obtain ⟨qs, k1, k2⟩ := laidVars_swap x y h1
  exact ⟨qs, k1, k2.nodup_iff.2 h2, fun b off hp => h3 b off (k2.mem_iff.1 hp)⟩
end Go.Proofs.YtinlfheonlpceaaGreatDoor

/- The witness's world with unicode.CaseRanges laid. Written by mklaidc.py. -/
namespace Go.Proofs.YtinlfheonlpceaaGreatDoor
open Go.ChangeShapes Go.WideShapes Go.ChangeAt Go.RowKit
set_option maxRecDepth 100000
noncomputable def laidWorldC (os : Os) : World :=
  let w0 := World.holding Tryz.prog os ⟨#[.cells #[.string ⟨#[118, 97, 108, 117, 101, 32, 111, 117, 116, 32, 111, 102, 32, 114, 97, 110, 103, 101]⟩] 201, .cells #[.string ⟨#[105, 110, 118, 97, 108, 105, 100, 32, 115, 121, 110, 116, 97, 120]⟩] 201, .cells Lib.caseCells5 191], #[], []⟩
  { w0 with heap := ((((((((w0.heap.modify 7 fun
      | .cells _ t frozen => .cells #[.int .u8 0, .int .u8 1, .int .u8 28, .int .u8 2, .int .u8 29, .int .u8 14, .int .u8 24, .int .u8 3, .int .u8 30, .int .u8 22, .int .u8 20, .int .u8 15, .int .u8 25, .int .u8 17, .int .u8 4, .int .u8 8, .int .u8 31, .int .u8 27, .int .u8 13, .int .u8 23, .int .u8 21, .int .u8 19, .int .u8 16, .int .u8 7, .int .u8 26, .int .u8 12, .int .u8 18, .int .u8 6, .int .u8 11, .int .u8 5, .int .u8 10, .int .u8 9] t frozen
      | o => o).modify 8 fun
      | .cells _ t frozen => .cells #[.int .u8 0, .int .u8 1, .int .u8 56, .int .u8 2, .int .u8 57, .int .u8 49, .int .u8 28, .int .u8 3, .int .u8 61, .int .u8 58, .int .u8 42, .int .u8 50, .int .u8 38, .int .u8 29, .int .u8 17, .int .u8 4, .int .u8 62, .int .u8 47, .int .u8 59, .int .u8 36, .int .u8 45, .int .u8 43, .int .u8 51, .int .u8 22, .int .u8 53, .int .u8 39, .int .u8 33, .int .u8 30, .int .u8 24, .int .u8 18, .int .u8 12, .int .u8 5, .int .u8 63, .int .u8 55, .int .u8 48, .int .u8 27, .int .u8 60, .int .u8 41, .int .u8 37, .int .u8 16, .int .u8 46, .int .u8 35, .int .u8 44, .int .u8 21, .int .u8 52, .int .u8 32, .int .u8 23, .int .u8 11, .int .u8 54, .int .u8 26, .int .u8 40, .int .u8 15, .int .u8 34, .int .u8 20, .int .u8 31, .int .u8 10, .int .u8 25, .int .u8 14, .int .u8 19, .int .u8 9, .int .u8 13, .int .u8 8, .int .u8 7, .int .u8 6] t frozen
      | o => o).modify 4 fun
      | .cells _ t frozen => .cells #[.int .u64 1, .int .u64 10, .int .u64 100, .int .u64 1000, .int .u64 10000, .int .u64 100000, .int .u64 1000000, .int .u64 10000000, .int .u64 100000000, .int .u64 1000000000, .int .u64 10000000000, .int .u64 100000000000, .int .u64 1000000000000, .int .u64 10000000000000, .int .u64 100000000000000, .int .u64 1000000000000000, .int .u64 10000000000000000, .int .u64 100000000000000000, .int .u64 1000000000000000000, .int .u64 10000000000000000000] t frozen
      | o => o).modify 2 fun
      | .cells _ t frozen => .cells #[.int .u8 128, .int .u8 191, .int .u8 160, .int .u8 191, .int .u8 128, .int .u8 159, .int .u8 144, .int .u8 191, .int .u8 128, .int .u8 143, .int .u8 0, .int .u8 0, .int .u8 0, .int .u8 0, .int .u8 0, .int .u8 0, .int .u8 0, .int .u8 0, .int .u8 0, .int .u8 0, .int .u8 0, .int .u8 0, .int .u8 0, .int .u8 0, .int .u8 0, .int .u8 0, .int .u8 0, .int .u8 0, .int .u8 0, .int .u8 0, .int .u8 0, .int .u8 0] t frozen
      | o => o).modify 6 fun
      | .cells _ t frozen => .cells #[.iface 199 (.pointer (some ⟨low + 0, 0, none⟩))] t frozen
      | o => o).modify 5 fun
      | .cells _ t frozen => .cells #[.iface 199 (.pointer (some ⟨low + 1, 0, none⟩))] t frozen
      | o => o).modify 1 fun
      | .cells _ t frozen => .cells (Go.Pinned.utf8FirstZ.map fun (n : Nat) => Value.int .u8 (n : Int)).toArray t frozen
      | o => o)).modify 3 fun
      | .cells _ t frozen => .cells #[.slice (some ⟨low + 2, 0, none⟩) 336 336] t frozen
      | o => o }
end Go.Proofs.YtinlfheonlpceaaGreatDoor
