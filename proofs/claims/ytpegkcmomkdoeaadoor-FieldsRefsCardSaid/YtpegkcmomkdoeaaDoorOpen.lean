/- Arguments opened, whatever their types: numbers, bools, strings, structs and arrays of these; and every argument's reading kept over a call that turns no old memory. No program in sight. -/
import Derived.OpenShut
import Derived.ReadAgain
import Derived.ChangeBook
import Derived.ChangeOld
import Derived.ChangeReads
import Derived.Below
import Derived.WideShapes
import Derived.WalkKit
namespace Go.Proofs.YtpegkcmomkdoeaaDoor
open Go.ChangeShapes Go.WideShapes Go.RowKit

section
variable {H : Type} {enc : TypeId × Value → H} {P : Program}

theorem kept_arg (hl : laidOutB P = true) (hz : ((List.range P.types.size).all fun t => match P.underlying t with | some (.slice e) => decide (0 < P.cellsOf e) | _ => true) = true)
    {t : TypeId} (hT : InBook P t t) (hr : P.readableRec t = true) {w w' : World} {v : Value} {d : DataW H} {p : List MemPlace}
    (h : DataW.Trod enc P w 0 (fun _ => true) true t v d p) (hb : Below w.heap.size w w') : DataW.Trod enc P w' 0 (fun b => decide (b < w.heap.size)) true t v d p := by
  obtain ⟨n, hn⟩ := h
  have hlt := DataW.trod_lt n _ _ _ hn
  have hc := DataW.trod_carry (w' := w') n _ _ _ hn (fun q hq => by
    have hq' := hlt q hq
    cases q with
    | cell b off => exact hb.cell (p := ⟨b, off, none⟩) hq'
    | map b => exact hb.block b hq')
  exact DataW.Trod.respare (T := InBook P t) (kids_book hl hr) (fun a e ha => slices_full_of P hz a e ha.1) hT ⟨n, hc⟩ (fun q hq => by simpa using hlt q hq)

inductive Leaf
  | int (k : IntKind) | bool | str
def Leaf.ok : Leaf → Value → Prop
  | .int k, v => ∃ n, v = .int k n ∧ (Lit.int k n).wf = true
  | .bool, v => ∃ b, v = .bool b
  | .str, v => ∃ s : ByteArray, v = .string s ∧ s.size ≤ maxLen
def OkL : List Leaf → List Value → Prop
  | [], [] => True
  | l :: ls, v :: vs => l.ok v ∧ OkL ls vs
  | _, _ => False
theorem OkL_nil {l : List Value} (h : OkL [] l) : l = [] := by
  cases l with
  | nil => rfl
  | cons a r => exact h.elim
theorem OkL_cons {x : Leaf} {ls : List Leaf} {l : List Value} (h : OkL (x :: ls) l) : ∃ v r, l = v :: r ∧ x.ok v ∧ OkL ls r := by
  cases l with
  | nil => exact h.elim
  | cons v r => exact ⟨v, r, rfl, h.1, h.2⟩
theorem OkL_append : ∀ {a : List Leaf} {xs : List Value} {b : List Leaf} {ys : List Value}, OkL a xs → OkL b ys → OkL (a ++ b) (xs ++ ys)
  | [], [], _, _, _, h => h
  | _ :: _, _ :: _, _, _, h1, h2 => ⟨h1.1, OkL_append h1.2 h2⟩
  | [], _ :: _, _, _, h, _ => h.elim
  | _ :: _, [], _, _, h, _ => h.elim
theorem OkL_length : ∀ {a : List Leaf} {xs : List Value}, OkL a xs → xs.length = a.length
  | [], [], _ => rfl
  | _ :: _, _ :: _, h => by simp [OkL_length h.2]
  | [], _ :: _, h => h.elim
  | _ :: _, [], h => h.elim

def fieldsL (g : TypeId → Option (List Leaf)) (size : TypeId → Nat) (tot : Nat) : Nat → List Field → Option (List Leaf)
  | off, [] => if off = tot then some [] else none
  | off, f :: fs => match g f.type with
    | some ls => if f.offset = off ∧ size f.type = ls.length then (fieldsL g size tot (off + ls.length) fs).map (ls ++ ·) else none
    | none => none
def leaves (P : Program) : Nat → TypeId → Option (List Leaf)
  | 0, _ => none
  | n + 1, t => match P.underlying t with
    | some (.int k) => some [.int k]
    | some .bool => some [.bool]
    | some .string => some [.str]
    | some (.array m e) => match leaves P n e with
      | some ls => if P.cellsOf e = ls.length ∧ P.cellsOf t = m * ls.length then some (List.replicate m ls).flatten else none
      | none => none
    | some (.struct fs) => fieldsL (leaves P n) P.cellsOf (P.cellsOf t) 0 fs.toList
    | _ => none

variable {w : World} {base : Nat} {spare : Nat → Bool} {held : Bool}

theorem fieldsL_ok {g : TypeId → Option (List Leaf)} {size : TypeId → Nat} {tot : Nat} {cs : List Value} (hlen : cs.length = tot) {Tr : TypeId → List Value → Prop} (hg : ∀ t ls cs, g t = some ls → Tr t cs → OkL ls cs) :
    ∀ (fs : List Field) (off : Nat) (ls : List Leaf), fieldsL g size tot off fs = some ls → (∀ f ∈ fs, Tr f.type ((cs.drop f.offset).take (size f.type))) → OkL ls (cs.drop off)
  | [], off, ls, h, _ => by
    simp only [fieldsL] at h
    split at h
    · rename_i e
      injection h with h
      rw [← h, e, ← hlen, List.drop_length]
      trivial
    · cases h
  | f :: fs, off, ls, h, hf => by
    simp only [fieldsL] at h
    split at h
    · rename_i l1 hl1
      split at h
      · rename_i e
        obtain ⟨r, hr, hls⟩ := Option.map_eq_some_iff.1 h
        have h1 := hg _ _ _ hl1 (hf f (List.mem_cons_self ..))
        have h2 := fieldsL_ok hlen hg fs _ _ hr (fun x hx => hf x (List.mem_cons_of_mem _ hx))
        rw [e.1, e.2] at h1
        rw [← hls, ← List.take_append_drop l1.length (cs.drop off), List.drop_drop]
        exact OkL_append h1 h2
      · cases h
    · cases h
theorem array_ok {ls : List Leaf} : ∀ (m : Nat) (cs : List Value), cs.length = m * ls.length → (∀ i, i < m → OkL ls ((cs.drop (i * ls.length)).take ls.length)) → OkL (List.replicate m ls).flatten cs
  | 0, cs, hl, _ => by
    have : cs = [] := List.eq_nil_of_length_eq_zero (by simpa using hl)
    subst this
    trivial
  | m + 1, cs, hl, h => by
    rw [List.replicate_succ, List.flatten_cons, ← List.take_append_drop ls.length cs]
    refine OkL_append (by simpa using h 0 (Nat.succ_pos _)) (array_ok m _ (by rw [List.length_drop, hl, Nat.succ_mul]; omega) (fun i hi => ?_))
    have := h (i + 1) (by omega)
    rw [Nat.succ_mul, Nat.add_comm] at this
    rw [List.drop_drop]
    exact this
theorem leaves_ok : ∀ (n : Nat) (t : TypeId) (ls : List Leaf) (cs : List Value) (fuel : Nat) (x : DataW H × List MemPlace), leaves P n t = some ls → DataW.trod enc P w base spare held fuel t cs = some x → OkL ls cs
  | 0, _, _, _, _, _, h, _ => by simp [leaves] at h
  | n + 1, t, ls, cs, fuel, x, h, hx => by
    simp only [leaves] at h
    split at h
    · rename_i k hu
      injection h with h; subst h
      obtain ⟨m, rfl, _, hw⟩ := DataW.trod_int hu hx
      exact ⟨⟨m, rfl, hw⟩, trivial⟩
    · rename_i hu
      injection h with h; subst h
      obtain ⟨b, rfl, _⟩ := DataW.trod_bool hu hx
      exact ⟨⟨b, rfl⟩, trivial⟩
    · rename_i hu
      injection h with h; subst h
      obtain ⟨s, rfl, _, hs⟩ := DataW.trod_string hu hx
      exact ⟨⟨s, rfl, hs⟩, trivial⟩
    · rename_i m e hu
      split at h
      · rename_i l1 hl1
        split at h
        · rename_i hc
          injection h with h; subst h
          obtain ⟨xs, k, _, _, hlen, hxl, hi⟩ := DataW.trod_array hu hx
          refine array_ok m cs (by rw [hlen, hc.2]) (fun i him => ?_)
          have h1 := hi i him
          rw [List.getElem?_eq_getElem (by omega), hc.1] at h1
          exact leaves_ok n _ _ _ _ _ hl1 h1
        · cases h
      · cases h
    · rename_i fs hu
      obtain ⟨xs, k, _, _, hlen, hxl, hi⟩ := DataW.trod_struct hu hx
      have := fieldsL_ok (Tr := fun t cs => ∃ x, DataW.trod enc P w base spare held k t cs = some x) hlen (fun t l c hl ⟨y, hy⟩ => leaves_ok n _ _ _ _ _ hl hy) fs.toList 0 ls h (fun f hf => by
        obtain ⟨i, hi', hfi⟩ := List.getElem_of_mem hf
        have hil : i < fs.size := by simpa using hi'
        have h1 := hi i f (by rw [Array.getElem?_eq_getElem hil]; exact congrArg some (by simpa using hfi))
        rw [List.getElem?_eq_getElem (by omega)] at h1
        exact ⟨_, h1⟩)
      simpa using this
    · cases h
theorem okWide_array {r : Reach} {b0 : Nat} {t e : TypeId} {n : Nat} {v : Value} (ht : P.underlying t = some (.array n e)) (h : Value.okWide P w r b0 t v) : ∃ cs, v = .agg cs := by
  simp only [Value.okWide, ht] at h
  obtain ⟨cs, h1, _⟩ := h
  exact ⟨cs, h1⟩
theorem open_agg {r : Reach} {b0 : Nat} {t : TypeId} {fs : Array Field} {v : Value} {d : DataW H} {p : List MemPlace} {ls : List Leaf} (n : Nat) (hs : P.underlying t = some (.struct fs)) (hl : leaves P n t = some ls)
    (hv : Value.okWide P w r b0 t v) (h : DataW.Trod enc P w base spare held t v d p) : ∃ l : List Value, v = .agg l.toArray ∧ OkL ls l := by
  obtain ⟨cs, rfl, _⟩ := okWide_struct hs hv
  obtain ⟨fuel, hf⟩ := h
  exact ⟨cs.toList, rfl, leaves_ok n t ls _ fuel _ hl hf⟩
theorem open_arr {r : Reach} {b0 : Nat} {t e : TypeId} {m : Nat} {v : Value} {d : DataW H} {p : List MemPlace} {ls : List Leaf} (n : Nat) (hs : P.underlying t = some (.array m e)) (hl : leaves P n t = some ls)
    (hv : Value.okWide P w r b0 t v) (h : DataW.Trod enc P w base spare held t v d p) : ∃ l : List Value, v = .agg l.toArray ∧ OkL ls l := by
  obtain ⟨cs, rfl⟩ := okWide_array hs hv
  obtain ⟨fuel, hf⟩ := h
  exact ⟨cs.toList, rfl, leaves_ok n t ls _ fuel _ hl hf⟩
end
end Go.Proofs.YtpegkcmomkdoeaaDoor
