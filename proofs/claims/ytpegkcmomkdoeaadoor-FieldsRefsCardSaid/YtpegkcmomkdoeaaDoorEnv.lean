/- What the listed package-level variables hold, and that it stays so; 'Ret': a call that gives a value and turns no old memory. -/
import Derived.Test.YtpegkcmomkdoeaaDoorShelf
import Derived.WalkKit
import Derived.Handy
import Derived.Lib.LaidTab
import Derived.WalkSmall
import Derived.ChangeAgain
namespace Go.Proofs.YtpegkcmomkdoeaaDoor
open Go.RowKit

/-- The call gives v; of what was there before nothing has turned. -/
abbrev Ret (f : FuncId) (args : Array Value) (w : World) (v : Value) : Prop := Calls Tryd.prog f args w fun e w' => e = .returned v ∧ Below w.heap.size w w'

theorem chain {w w1 w2 : World} (h : Below w.heap.size w w1) (k : Below w1.heap.size w1 w2) : Below w.heap.size w w2 := h.trans (k.mono h.size)
theorem off_alloc {w w1 : World} {o : Obj} (k : Below (w.alloc o).heap.size (w.alloc o) w1) : Below w.heap.size w w1 := chain ((Below.refl _ _).alloc (Nat.le_refl _) o) k
theorem off_alloc' {w w1 : World} {o : Obj} (k : Below (w.heap.size + 1) (w.alloc o) w1) : Below w.heap.size w w1 := ((Below.refl _ _).alloc (Nat.le_refl _) o).trans (k.mono (Nat.le_succ _))

theorem off_drew {w w1 : World} (k : Below w.drew.heap.size w.drew w1) : Below w.heap.size w w1 := ⟨k.os, k.tape, k.output, k.size, k.block⟩

/-- The library's table lies as it was laid, and the program's variables have their shapes. -/
structure Env (w : World) : Prop where
  tab : ∃ g, g < w.heap.size ∧ Tryd.prog.globalNamed "internal/strconv.uint64pow10" = some g ∧ Lib.TabIs Tryd.prog w "internal/strconv.uint64pow10" .u64 Lib.pow10Tab
  shp : w.ShapedOpen Tryd.prog
/-- .. and strconv's two sentinels. -/
structure EnvP (w : World) : Prop extends Env w where
  syn : ∃ tp p g, g < w.heap.size ∧ Tryd.prog.globalNamed "strconv.ErrSyntax" = some g ∧ w.var? Tryd.prog "strconv.ErrSyntax" = some #[.iface tp p]
  rng : ∃ tp p g, g < w.heap.size ∧ Tryd.prog.globalNamed "strconv.ErrRange" = some g ∧ w.var? Tryd.prog "strconv.ErrRange" = some #[.iface tp p]
theorem Env.on {w w' : World} (h : Env w) (hb : Below w.heap.size w w') : Env w' := by
  obtain ⟨⟨c, hc, hd, ht⟩, hs⟩ := h
  exact ⟨⟨c, Nat.lt_of_lt_of_le hc hb.size, hd, var?_below hb hd hc ht⟩, hs.keptBut (hb.frame (fun _ => False)) (fun _ hp => hp.elim)⟩
theorem EnvP.on {w w' : World} (h : EnvP w) (hb : Below w.heap.size w w') : EnvP w' := by
  obtain ⟨he, ⟨tp, p, g, hg, hn, hv⟩, ⟨tq, q, k, hk, hm, hu⟩⟩ := h
  exact ⟨he.on hb, ⟨tp, p, g, Nat.lt_of_lt_of_le hg hb.size, hn, var?_below hb hn hg hv⟩, ⟨tq, q, k, Nat.lt_of_lt_of_le hk hb.size, hm, var?_below hb hm hk hu⟩⟩
theorem Env.alloc {w : World} (h : Env w) (o : Obj) : Env (w.alloc o) := h.on ((Below.refl _ _).alloc (Nat.le_refl _) o)
theorem Env.drew {w : World} (h : Env w) : Env w.drew := h.on (Below.refl _ _).drew
theorem EnvP.alloc {w : World} (h : EnvP w) (o : Obj) : EnvP (w.alloc o) := h.on ((Below.refl _ _).alloc (Nat.le_refl _) o)
theorem EnvP.drew {w : World} (h : EnvP w) : EnvP w.drew := h.on (Below.refl _ _).drew
theorem Env.tabIs {w : World} (h : Env w) : Lib.TabIs Tryd.prog w "internal/strconv.uint64pow10" .u64 Lib.pow10Tab := by
  obtain ⟨_, _, _, ht⟩ := h.tab
  exact ht

/-- A block of one cell that the call made keeps it over a call. -/
theorem keep_new {w w' : World} {x : Value} {t : TypeId} (hb : Below (w.alloc (.cells #[x] t)).heap.size (w.alloc (.cells #[x] t)) w') : w'.cell? ⟨w.heap.size, 0, none⟩ = some x := by
  rw [hb.cell (p := ⟨w.heap.size, 0, none⟩) (by simp), World.cell?_alloc_new]; rfl
theorem keep_new_drew {w w' : World} {x : Value} {t : TypeId} (hb : Below ((w.alloc (.cells #[x] t)).drew).heap.size ((w.alloc (.cells #[x] t)).drew) w') : w'.cell? ⟨w.heap.size, 0, none⟩ = some x :=
  keep_new (w' := w') ⟨hb.os, hb.tape, hb.output, hb.size, hb.block⟩
/-- Strings that differ, in the walk's spelling. -/
theorem str_ext {a b : ByteArray} (h : a.data.toList = b.data.toList) : a = b := ByteArray.ext (Array.ext' h)
theorem str_beq_ne {a b : ByteArray} (h : a ≠ b) : (a.toList == b.toList) = false := by
  rw [beq_eq_false_iff_ne, ByteArray.toList_eq, ByteArray.toList_eq]
  exact fun e => h (str_ext e)
theorem str_beq_same (a : ByteArray) : (a.toList == a.toList) = true := by simp
end Go.Proofs.YtpegkcmomkdoeaaDoor
