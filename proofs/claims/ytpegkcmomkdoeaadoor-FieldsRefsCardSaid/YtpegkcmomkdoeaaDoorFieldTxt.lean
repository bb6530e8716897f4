/- fields.Text: its contract. -/
import Derived.Test.YtpegkcmomkdoeaaDoorFieldSet2
import Derived.Test.YtpegkcmomkdoeaaDoorFieldText
import Derived.Test.YtpegkcmomkdoeaaDoorSlices
import Derived.Test.YtpegkcmomkdoeaaDoorRound
import Derived.Test.YtpegkcmomkdoeaaDoorFmt
namespace Go.Proofs.YtpegkcmomkdoeaaDoor
open Go.RowKit Go.Shelf
set_option linter.unusedVariables false
set_option linter.unusedSimpArgs false
attribute [local go_sem] Oper.semAt_some

theorem full_stopsP (P : Int × Rf → Prop) (m Bn : Nat) (hm : 1 ≤ m) (n s0 g0 s1 g1 s2 g2 s3 g3 : Int) (h : Bool) (Kp : World → World → Prop) (w : World) (hB : Bn < w.heap.size) (hc : Row w Bn (obC n s0 g0 s1 g1 s2 g2 s3 g3 h) 27) (hP : ∀ x ∈ full (s0, g0) (s1, g1) (s2, g2) (s3, g3), P x) :
    SeqStopsK Fence.wide m Tryd.prog 42 #[.pointer (some ⟨Bn, 0, none⟩)] (fun x : {x : Int × Rf // P x} => encR x.1) Kp (fun ys => ys.map (·.1) = full (s0, g0) (s1, g1) (s2, g2) (s3, g3)) (fun pre => pre.map (·.1) <+: full (s0, g0) (s1, g1) (s2, g2) (s3, g3)) 4 w := fun l J Jx W hW hJ hJx hY h0 =>
  (full1_in Fence.wide m trivial rfl hm l Bn s0 g0 s1 g1 s2 g2 s3 g3 (fun pre W => ∃ l' : List {x : Int × Rf // P x}, l'.map (·.1) = pre ∧ J l' W) (fun pre W => ∃ l' : List {x : Int × Rf // P x}, l'.map (·.1) = pre ∧ Jx l' W) Kp P hP W
    (fun s W o ⟨l', e, h⟩ => ⟨l', e, hJ l' W _ none h (World.grownBy_alloc W o none) (fun r e => by cases e)⟩) (fun s W o ⟨l', e, h⟩ => ⟨l', e, hJx l' W _ none h (World.grownBy_alloc W o none) (fun r e => by cases e)⟩)
    (fun pre x W1 hx ⟨l', e, hJ1⟩ hlen => (hY l' ⟨x, hx⟩ W1 hJ1 (by rw [← e, List.length_map] at hlen; exact hlen)).mono (fun e' W' hh => by
      rcases hh with ⟨h1, h2, h3⟩ | ⟨h1, h2⟩
      · exact .inl ⟨h1, ⟨l' ++ [⟨x, hx⟩], by rw [List.map_append, e]; rfl, h2⟩, h3⟩
      · exact .inr ⟨h1, ⟨l' ++ [⟨x, hx⟩], by rw [List.map_append, e]; rfl, h2⟩⟩))
    (fun j => by
      have hr := (hc.on hW).cell (1 + j)
      rw [hr]
      rcases Nat.lt_or_ge j 8 with hj | hj
      · left
        rcases (by omega : j = 0 ∨ j = 1 ∨ j = 2 ∨ j = 3 ∨ j = 4 ∨ j = 5 ∨ j = 6 ∨ j = 7) with rfl | rfl | rfl | rfl | rfl | rfl | rfl | rfl <;> rfl
      · exact .inr hj) ⟨[], rfl, h0⟩).mono fun e W' hh => ⟨hh.1, by
        rcases hh.2 with ⟨ys, e1, l', e2, h⟩ | ⟨pre, e1, l', e2, h⟩
        · exact .inl ⟨l', e2.trans e1, h⟩
        · exact .inr ⟨l', by show l'.map _ <+: _; rw [e2]; exact e1, h⟩⟩
def kindV (h : Bool) : Value := .string ⟨(kindL h).toArray⟩
/-- What the words of the fields are when these have come. -/
def wordsOf (n : Nat) (pre : List (Int × Rf)) : List Value := pre.foldl (fun l x => l.set x.1.toNat (.string (rText x.2))) (List.replicate n (.string ⟨#[45]⟩))
theorem wordsOf_snoc (n : Nat) (pre : List (Int × Rf)) (x : Int × Rf) : wordsOf n (pre ++ [x]) = (wordsOf n pre).set x.1.toNat (.string (rText x.2)) := by simp [wordsOf]
theorem wordsOf_len (n : Nat) (pre : List (Int × Rf)) : (wordsOf n pre).length = n := by
  unfold wordsOf
  have key : ∀ l : List Value, (pre.foldl (fun l x => l.set x.1.toNat (.string (rText x.2))) l).length = l.length := by
    induction pre with
    | nil => intro l; rfl
    | cons x pre ih => intro l; rw [List.foldl_cons, ih]; simp
  rw [key]; simp

theorem words_full {n : Nat} {a b c d : Rf} {h : Bool} (hn : n ≤ 4) (ho : oOk n a b c d h = true) : wordsOf n (full a b c d) = (([a, b, c, d] : List Rf).take n).map (fun r => Value.string (rText r)) := by
  obtain ⟨-, -, f0, f1, f2, f3⟩ := oOk_iff.1 ho
  have key : ∀ {i : Int} {r : Rf}, fOk n i r = true → (rNone r = true ∧ rText r = ⟨#[45]⟩) ∨ (rNone r = false ∧ i < n) := fun hf => by
    rename_i i r
    cases hr : rNone r
    · exact .inr ⟨rfl, (fOk_in' hf hr).1⟩
    · exact .inl ⟨rfl, rText_none hr⟩
  unfold wordsOf
  rw [full_eq]
  rcases (by omega : n = 0 ∨ n = 1 ∨ n = 2 ∨ n = 3 ∨ n = 4) with rfl | rfl | rfl | rfl | rfl <;>
    rcases key f0 with ⟨x0, y0⟩ | ⟨x0, y0⟩ <;> rcases key f1 with ⟨x1, y1⟩ | ⟨x1, y1⟩ <;> rcases key f2 with ⟨x2, y2⟩ | ⟨x2, y2⟩ <;> rcases key f3 with ⟨x3, y3⟩ | ⟨x3, y3⟩ <;>
    first
      | (exfalso; omega)
      | (simp [x0, x1, x2, x3, List.replicate]; try simp [y0, y1, y2, y3])
end Go.Proofs.YtpegkcmomkdoeaaDoor
