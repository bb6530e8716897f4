/- What a call keeps of a world. -/
import Derived.Test.YtjebicdlbknemaaDoorEnv
import Derived.Deep.RegionWith
namespace Go.Proofs.YtjebicdlbknemaaDoor
open Go.RowKit
/-- A cell, a bound, Env, Below (the call's own fact first, so that it tells the world). -/
theorem keep_cell {W W' : World} {b o : Nat} {v : Value} (hb : Below W.heap.size W W') (hl : b < W.heap.size) (h : W.cell? ⟨b, o, none⟩ = some v) : W'.cell? ⟨b, o, none⟩ = some v := (hb.cell (p := ⟨b, o, none⟩) hl).trans h
theorem keep_lt {W W' : World} {a : Nat} (hb : Below W.heap.size W W') (h : a < W.heap.size) : a < W'.heap.size := Nat.lt_of_lt_of_le h hb.size
theorem keep_env {W W' : World} (hb : Below W.heap.size W W') (h : Env W) : Env W' := h.on hb
theorem keep_envp {W W' : World} (hb : Below W.heap.size W W') (h : EnvP W) : EnvP W' := h.on hb
theorem keep_below {w W W' : World} (hb : Below W.heap.size W W') (h : Below w.heap.size w W) : Below w.heap.size w W' := chain h hb
end Go.Proofs.YtjebicdlbknemaaDoor
