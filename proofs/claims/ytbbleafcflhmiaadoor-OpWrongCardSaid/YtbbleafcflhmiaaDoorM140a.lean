/- Slices among the arguments, opened. No program in sight. -/
import Derived.Test.YtbbleafcflhmiaaDoorL0a
import Derived.Deep.Slices
namespace Go.Proofs.YtbbleafcflhmiaaDoor
open Go.ChangeShapes Go.WideShapes Go.RowKit
section
variable {H : Type} {enc : TypeId × Value → H} {P : Program} {w : World} {base : Nat} {spare : Nat → Bool} {held : Bool}
/-- A slice of numbers, bools, strings, or structs and arrays of these. -/
structure Sl (w : World) (v : Value) (ls : List Leaf) (n : Nat) (E : Nat → List Value) : Prop where
  ex : ∃ p cap, v = .slice p n cap ∧ n ≤ cap ∧ cap ≤ maxLen ∧ (n = 0 ∨ ∃ b off, p = some ⟨b, off, none⟩ ∧ b < w.heap.size ∧ ∀ i, i < n → ∀ j, j < ls.length → w.cell? ⟨b, off + i * ls.length + j, none⟩ = (E i)[j]?)
  ok : ∀ i, i < n → OkL ls (E i)
theorem open_sl {t e : TypeId} {v : Value} {d : DataW H} {p : List MemPlace} {ls : List Leaf} (n : Nat) (ht : P.underlying t = some (.slice e)) (hl : leaves P n e = some ls) (hk : P.cellsOf e = ls.length) (h0 : 0 < ls.length) {r : Reach} {b0 : Nat} (hval : Value.okWide P w r b0 t v)
    (h : DataW.Trod enc P w base spare held t v d p) : ∃ m E, Sl w v ls m E := by
  obtain ⟨p0, len0, cap0, rfl⟩ := okWide_slice ht hval
  obtain ⟨fuel, hf⟩ := h
  rcases Go.Deep.open_slice ht hf with ⟨hv, _⟩ | ⟨a, len, cap, m, n', D, Pl, hv, hb, hlc, hcm, hm, _, hx⟩
  · replace hv : Value.slice p0 len0 cap0 = _ := (List.cons.inj hv).1
    exact ⟨0, fun _ => [], ⟨none, 0, hv, Nat.le_refl _, by unfold maxLen; omega, .inl rfl⟩, fun i hi => absurd hi (Nat.not_lt_zero _)⟩
  · replace hv : Value.slice p0 len0 cap0 = _ := (List.cons.inj hv).1
    have hlm : len ≤ m := by rw [hm]; split <;> omega
    have each : ∀ i, i < len → ∃ l : List Value, OkL ls l ∧ ∀ j, j < ls.length → w.cell? ((a.add (i * ls.length)).add j) = l[j]? := fun i hi => by
      obtain ⟨cs', h1, h2⟩ := hx i (by omega)
      rw [hk] at h1
      obtain ⟨_, hlen, hcell⟩ := World.cells?_some h1
      exact ⟨cs', leaves_ok n e ls cs' _ _ hl h2, hcell⟩
    classical
    refine ⟨len, fun i => if hi : i < len then Classical.choose (each i hi) else [], ⟨some a, cap, hv, hlc, hcm, ?_⟩, fun i hi => ?_⟩
    · by_cases hz : len = 0
      · exact .inl hz
      · refine .inr ?_
        have hpos : 0 < len := Nat.pos_of_ne_zero hz
        obtain ⟨l0, ok0, hc0⟩ := each 0 hpos
        have hs0 := hc0 0 h0
        have hlen0 := OkL_length ok0
        have ha : a.spot = none ∧ a.block < w.heap.size := by
          rw [Nat.zero_mul] at hs0
          have e0 : (a.add 0).add 0 = a := by simp [Addr.add]
          rw [e0, List.getElem?_eq_getElem (by omega)] at hs0
          unfold World.cell? at hs0
          split at hs0
          · rename_i c _ _ hblk
            refine ⟨?_, (Array.getElem?_eq_some_iff.1 hblk).1⟩
            cases hsp : a.spot with
            | none => rfl
            | some x => rw [hsp] at hs0; simp at hs0
          · cases hs0
        obtain ⟨b, off, sp⟩ := a
        obtain ⟨rfl, hblk⟩ := ha
        refine ⟨b, off, rfl, hblk, fun i hi j hj => ?_⟩
        have := (Classical.choose_spec (each i hi)).2 j hj
        rw [Go.Deep.add_add] at this
        simp only [dif_pos hi]
        rw [← this]
        unfold Addr.add
        by_cases hij : i * ls.length + j = 0
        · rw [if_pos hij, Nat.add_assoc, hij, Nat.add_zero]
        · rw [if_neg hij, Nat.add_assoc]
    · simp only [dif_pos hi]
      exact (Classical.choose_spec (each i hi)).1
end
end Go.Proofs.YtbbleafcflhmiaaDoor
