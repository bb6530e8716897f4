/- stats.Text: the contract. -/
import Derived.Test.YtjebicdlbknemaaDoorStats2
import Derived.Test.YtjebicdlbknemaaDoorFmt
import Derived.Deep.LoopGhost
import Derived.Deep.AppendLies
import Derived.Deep.RegionLaw
import Derived.Handy
namespace Go.Proofs.YtjebicdlbknemaaDoor
open Go.RowKit

theorem owns_below {B : Nat} {e : TypeId} {k : Nat} {v : Value} {n : Nat} {xs : List Value} {w w' : World} (h : w.ownsRow B e k v n xs) (hb : Below w.heap.size w w') : w'.ownsRow B e k v n xs :=
  h.kept (row := none) ⟨hb.os, hb.tape, hb.output, hb.size, fun j hj _ => hb.block j hj⟩ (by cases hv : v.ownBlock <;> simp)

def sWord : Nat → ByteArray
  | 0 => ⟨#[111, 112, 101, 110, 101, 100]⟩
  | 1 => ⟨#[108, 105, 118, 101]⟩
  | 2 => ⟨#[99, 108, 111, 115, 105, 110, 103]⟩
  | 3 => ⟨#[114, 101, 108, 101, 97, 115, 101, 100]⟩
  | _ => ⟨#[113, 117, 97, 114, 97, 110, 116, 105, 110, 101, 100]⟩
def sCnt (o l c r q : Int) : Nat → Int
  | 0 => o
  | 1 => l
  | 2 => c
  | 3 => r
  | _ => q
def sItems (o l c r q : Int) : Nat → List ByteArray
  | 0 => []
  | k + 1 => sItems o l c r q k ++ [sWord k, ⟨(Lib.itoa (sCnt o l c r q k)).toArray⟩]
def sText (o l c r q : Int) : ByteArray := ⟨(Lib.join ((sItems o l c r q 5).map (·.data.toList)) [32]).toArray⟩
abbrev wordsV : Value := .agg #[.string (sWord 0), .string (sWord 1), .string (sWord 2), .string (sWord 3), .string (sWord 4)]

theorem sItems_len (o l c r q : Int) (k : Nat) : (sItems o l c r q k).length = 2 * k := by
  induction k with
  | zero => rfl
  | succ k ih => simp [sItems, ih]; omega

set_option maxRecDepth 20000 in
theorem words_c (w : World) : Ret 35 #[] w wordsV := by
  go_enter Tryd.func35, Tryd.ntmps35
  go_wp2
  go_returns
  exact ⟨rfl, by go_grown⟩

theorem words_idx (k : Nat) (h : k < 5) : ∀ w, (Instr.index 81 wordsV (.int .i64 k)).run Tryd.prog w = .ok (.string (sWord k)) w := fun _ => by
  rcases (by omega : k = 0 ∨ k = 1 ∨ k = 2 ∨ k = 3 ∨ k = 4) with rfl | rfl | rfl | rfl | rfl <;> kernel_rfl
theorem cnt_idx (o l c r q : Int) (k : Nat) (h : k < 5) : ∀ w, (Instr.index 71 (.agg #[.int .i64 o, .int .i64 l, .int .i64 c, .int .i64 r, .int .i64 q]) (.int .i64 k)).run Tryd.prog w = .ok (.int .i64 (sCnt o l c r q k)) w := fun _ => by
  rcases (by omega : k = 0 ∨ k = 1 ∨ k = 2 ∨ k = 3 ∨ k = 4) with rfl | rfl | rfl | rfl | rfl <;> kernel_rfl
theorem strT_info : (Tryd.prog.info? 9).map (fun i => (i.zero, i.size, i.bytes)) = some (some (.string ⟨#[]⟩), 1, 16) := by kernel_rfl
end Go.Proofs.YtjebicdlbknemaaDoor
