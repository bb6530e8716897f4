/- The contracts of package gens: Check, Left, After, Next, Newer, Text, Parse. -/
import Derived.Test.YtjebicdlbknemaaDoorGenSpec
import Derived.Test.YtjebicdlbknemaaDoorFmt
namespace Go.Proofs.YtjebicdlbknemaaDoor
open Go.RowKit
open Go.Lib (decDigits)

theorem Ret.to {f : FuncId} {args : Array Value} {w : World} {v v' : Value} (h : Ret f args w v) (e : v = v') : Ret f args w v' := by rw [← e]; exact h

theorem check_any (g : Int) (w : World) (h1 : 0 ≤ g) (h2 : g ≤ 4294967295) :
    Calls Tryd.prog 63 #[.int .u32 g] w fun e w' => e = .returned (.int .i64 (gErr g)) ∧ w' = w := by
  by_cases h : 1 ≤ g
  · rw [gErr_pos h]
    go_enter Tryd.func63, Tryd.ntmps63
    go_wp2
    go_ret
    exact ⟨rfl, rfl⟩
  · obtain rfl : g = 0 := by omega
    rw [gErr_zero]
    go_enter Tryd.func63, Tryd.ntmps63
    go_wp2
    go_ret
    exact ⟨rfl, rfl⟩


end Go.Proofs.YtjebicdlbknemaaDoor
