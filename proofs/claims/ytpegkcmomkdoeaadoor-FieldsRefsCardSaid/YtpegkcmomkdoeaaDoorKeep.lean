/- What a call keeps of a world. -/
import Derived.Test.YtpegkcmomkdoeaaDoorEnv
import Derived.Deep.RegionWith
namespace Go.Proofs.YtpegkcmomkdoeaaDoor
open Go.RowKit
/-- A cell, a bound, Env, Below (the call's own fact first, so that it tells the world). -/
theorem keep_cell {W W' : World} {b o : Nat} {v : Value} (hb : Below W.heap.size W W') (hl : b < W.heap.size) (h : W.cell? ⟨b, o, none⟩ = some v) : W'.cell? ⟨b, o, none⟩ = some v := (hb.cell (p := ⟨b, o, none⟩) hl).trans h
theorem keep_lt {W W' : World} {a : Nat} (hb : Below W.heap.size W W') (h : a < W.heap.size) : a < W'.heap.size := Nat.lt_of_lt_of_le h hb.size
theorem keep_env {W W' : World} (hb : Below W.heap.size W W') (h : Env W) : Env W' := h.on hb
theorem keep_envp {W W' : World} (hb : Below W.heap.size W W') (h : EnvP W) : EnvP W' := h.on hb
theorem keep_below {w W W' : World} (hb : Below W.heap.size W W') (h : Below w.heap.size w W) : Below w.heap.size w W' := chain h hb
/-- A call made behind blocks that were laid since the last one. -/
theorem under {w W w1 : World} (k : Below W.heap.size W w1) (h : Below w.heap.size w W := by go_grown) : Below w.heap.size w w1 := h.trans (k.mono h.size)
theorem bcell {W w1 : World} (hb : Below W.heap.size W w1) : (∀ b o, b < W.heap.size → w1.cell? ⟨b, o, none⟩ = W.cell? ⟨b, o, none⟩) ∧ (∀ b o, b < W.heap.size → w1.frozen? ⟨b, o, none⟩ = W.frozen? ⟨b, o, none⟩) :=
  ⟨fun b o h => hb.cell (p := ⟨b, o, none⟩) h, fun b o h => hb.frozen (p := ⟨b, o, none⟩) h⟩
theorem wp_join {P : Program} {c : Code} {Q : Exit → Act → World → Prop} {a a' : Act} {w w' : World} {x : Exit} (h : Q x a' w' → c.wp P Q a w) (h2 : Q x a' w') : c.wp P Q a w := h h2
end Go.Proofs.YtpegkcmomkdoeaaDoor
