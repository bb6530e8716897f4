/- What a region holds may be made to say more; blocks that are known whole. -/
import Derived.Test.YtpegkcmomkdoeaaDoorKeep
import Derived.Deep.RegionHeld3
namespace Go.Proofs.YtpegkcmomkdoeaaDoor
open Go.RowKit
/-- What is held may be made to say more behind an operation. -/
theorem wpAnyH_stronger {P : Program} {md : Region.Mode} {ops : Array Oper} {Q : Exit → Act → World → Prop} {S S' : World → Prop} (hS : ∀ w, S' w → S w) :
    ∀ (fuel : Nat) (listed : Array Bool) (a : Act) (w : World), wpAnyH P md ops Q S' fuel listed a w → wpAnyH P md ops Q S fuel listed a w
  | 0, _, _, _, h => h
  | fuel + 1, _, _, _, h => ⟨h.1, fun i hi => wpOp_mono (fun a' w' h' => ⟨hS _ h'.1, wpAnyH_stronger hS fuel _ a' w' h'.2⟩) (h.2 i hi)⟩
theorem wpAnyH_more {P : Program} {md : Region.Mode} {ops : Array Oper} {Q : Exit → Act → World → Prop} {S S' : World → Prop} {fuel : Nat} {listed : Array Bool} {a : Act} {w : World}
    (hS : ∀ w, S' w → S w) (h0 : S' w) (h : S' w → wpAnyH P md ops Q S' fuel listed a w) : wpAnyH P md ops Q S fuel listed a w := wpAnyH_stronger hS _ _ _ _ (h h0)
/-- A block known whole stays behind a call, and behind a new block. -/
structure Row (W : World) (x : Nat) (cs : Array Value) (t : TypeId) : Prop where
  eq : W.heap[x]? = some (.cells cs t (0, 0))
theorem Row.lt {W : World} {x : Nat} {cs : Array Value} {t : TypeId} (h : Row W x cs t) : x < W.heap.size := by
  have h := h.eq
  rcases Nat.lt_or_ge x W.heap.size with h' | h'
  · exact h'
  · simp [Array.getElem?_eq_none h'] at h
theorem Row.on {W W' : World} {x : Nat} {cs : Array Value} {t : TypeId} (h : Row W x cs t) (hb : Below W.heap.size W W') : Row W' x cs t := ⟨(hb.block x (Row.lt h)).trans h.eq⟩
theorem Row.new {W : World} {cs : Array Value} {t : TypeId} : Row (W.alloc (.cells cs t)) W.heap.size cs t := ⟨by show (W.heap.push _)[W.heap.size]? = _; simp⟩
theorem Row.cell {W : World} {x : Nat} {cs : Array Value} {t : TypeId} (h : Row W x cs t) (j : Nat) : W.cell? ⟨x, j, none⟩ = cs[j]? := by simp [World.cell?, h.eq]
theorem Row.free {W : World} {x : Nat} {cs : Array Value} {t : TypeId} (h : Row W x cs t) (j : Nat) : W.frozen? ⟨x, j, none⟩ = false := by simp [World.frozen?, h.eq]
theorem Row.set {W : World} {x : Nat} {cs : Array Value} {t : TypeId} (h : Row W x cs t) (j : Nat) (v : Value) : Row (W.setCell ⟨x, j, none⟩ v) x (cs.setIfInBounds j v) t :=
  ⟨by have hl := h.lt; have h := h.eq; simp [World.setCell, Array.getElem?_modify, h]⟩
theorem Row.other {W : World} {x y : Nat} {cs : Array Value} {t : TypeId} (h : Row W x cs t) (hn : y ≠ x) (j : Nat) (v : Value) : Row (W.setCell ⟨y, j, none⟩ v) x cs t :=
  ⟨by have h := h.eq; simp [World.setCell, Array.getElem?_modify, h, hn]⟩
theorem cell_other {W : World} {x y j k : Nat} {u : Value} (h : W.cell? ⟨x, k, none⟩ = some u) (hn : y ≠ x) (v : Value) : (W.setCell ⟨y, j, none⟩ v).cell? ⟨x, k, none⟩ = some u :=
  (World.cell?_setCell_far W _ _ v hn).trans h
theorem below_alloc (W : World) (O : Obj) : Below W.heap.size W (W.alloc O) := by go_grown
theorem add_run {a b d : ByteArray} (h : a ++ b = d) (hs : a.size + b.size ≤ 1000000) (W : World) : (Op.stringOp .add a b).run Tryd.prog W = .ok (.string d) W := by
  rw [← h]
  exact run_string_add_sum W _ _ (by omega)
/-- The cells of a block, all at once, behind a call. -/
theorem keep_cells {W W' : World} {n : Nat} {cs : Array Value} (hb : Below W.heap.size W W') (hl : n < W.heap.size) (h : ∀ j, W.cell? ⟨n, j, none⟩ = cs[j]?) : ∀ j, W'.cell? ⟨n, j, none⟩ = cs[j]? := fun j => (hb.cell (p := ⟨n, j, none⟩) hl).trans (h j)
end Go.Proofs.YtpegkcmomkdoeaaDoor
