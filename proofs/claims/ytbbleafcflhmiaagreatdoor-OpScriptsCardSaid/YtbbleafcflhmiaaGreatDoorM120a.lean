/- Slices among the arguments, opened. No program in sight. -/
import Derived.Test.YtbbleafcflhmiaaGreatDoorL0b
import Derived.Deep.Slices
import Derived.Test.YtbbleafcflhmiaaGreatDoorL0a
import Derived.Shelf.Spec.SlicesInsert
import Derived.Shelf.Spec.SlicesInsertGrow
namespace Go.Proofs.YtbbleafcflhmiaaGreatDoor
open Go.ChangeShapes Go.WideShapes Go.RowKit
section
variable {H : Type} {enc : TypeId × Value → H} {P : Program} {w : World} {base : Nat} {spare : Nat → Bool} {held : Bool}
/-- A slice of numbers, bools, strings, or structs and arrays of these. -/
structure Sl (w : World) (v : Value) (ls : List Leaf) (n : Nat) (E : Nat → List Value) : Prop where
  ex : ∃ p cap, v = .slice p n cap ∧ n ≤ cap ∧ cap ≤ maxLen ∧ (n = 0 ∨ ∃ b off, p = some ⟨b, off, none⟩ ∧ b < w.heap.size ∧ ∀ i, i < n → ∀ j, j < ls.length → w.cell? ⟨b, off + i * ls.length + j, none⟩ = (E i)[j]?)
  ok : ∀ i, i < n → OkL ls (E i)
theorem open_sl {t e : TypeId} {v : Value} {d : DataW H} {p : List MemPlace} {ls : List Leaf} (n : Nat) (ht : P.underlying t = some (.slice e)) (hl : leaves P n e = some ls) (hk : P.cellsOf e = ls.length) (h0 : 0 < ls.length) {r : Reach} {b0 : Nat} (hval : Value.okWide P w r b0 t v)
    (h : DataW.Trod enc P w base spare held t v d p) : ∃ m E, Sl w v ls m E := by
  obtain ⟨p0, len0, cap0, rfl⟩ := okWide_slice ht hval
  obtain ⟨fuel, hf⟩ := h
  rcases Go.Deep.open_slice ht hf with ⟨hv, _⟩ | ⟨a, len, cap, m, n', D, Pl, hv, hb, hlc, hcm, hm, _, hx⟩
  · replace hv : Value.slice p0 len0 cap0 = _ := (List.cons.inj hv).1
    exact ⟨0, fun _ => [], ⟨none, 0, hv, Nat.le_refl _, by unfold maxLen; omega, .inl rfl⟩, fun i hi => absurd hi (Nat.not_lt_zero _)⟩
  · replace hv : Value.slice p0 len0 cap0 = _ := (List.cons.inj hv).1
    have hlm : len ≤ m := by rw [hm]; split <;> omega
    have each : ∀ i, i < len → ∃ l : List Value, OkL ls l ∧ ∀ j, j < ls.length → w.cell? ((a.add (i * ls.length)).add j) = l[j]? := fun i hi => by
      obtain ⟨cs', h1, h2⟩ := hx i (by omega)
      rw [hk] at h1
      obtain ⟨_, hlen, hcell⟩ := World.cells?_some h1
      exact ⟨cs', leaves_ok n e ls cs' _ _ hl h2, hcell⟩
    classical
    refine ⟨len, fun i => if hi : i < len then Classical.choose (each i hi) else [], ⟨some a, cap, hv, hlc, hcm, ?_⟩, fun i hi => ?_⟩
    · by_cases hz : len = 0
      · exact .inl hz
      · refine .inr ?_
        have hpos : 0 < len := Nat.pos_of_ne_zero hz
        obtain ⟨l0, ok0, hc0⟩ := each 0 hpos
        have hs0 := hc0 0 h0
        have hlen0 := OkL_length ok0
        have ha : a.spot = none ∧ a.block < w.heap.size := by
          rw [Nat.zero_mul] at hs0
          have e0 : (a.add 0).add 0 = a := by simp [Addr.add]
          rw [e0, List.getElem?_eq_getElem (by omega)] at hs0
          unfold World.cell? at hs0
          split at hs0
          · rename_i c _ _ hblk
            refine ⟨?_, (Array.getElem?_eq_some_iff.1 hblk).1⟩
            cases hsp : a.spot with
            | none => rfl
            | some x => rw [hsp] at hs0; simp at hs0
          · cases hs0
        obtain ⟨b, off, sp⟩ := a
        obtain ⟨rfl, hblk⟩ := ha
        refine ⟨b, off, rfl, hblk, fun i hi j hj => ?_⟩
        have := (Classical.choose_spec (each i hi)).2 j hj
        rw [Go.Deep.add_add] at this
        simp only [dif_pos hi]
        rw [← this]
        unfold Addr.add
        by_cases hij : i * ls.length + j = 0
        · rw [if_pos hij, Nat.add_assoc, hij, Nat.add_zero]
        · rw [if_neg hij, Nat.add_assoc]
    · simp only [dif_pos hi]
      exact (Classical.choose_spec (each i hi)).1
end
end Go.Proofs.YtbbleafcflhmiaaGreatDoor

/- slices.Insert of one string, into a slice of one's own. -/
namespace Go.Proofs.YtbbleafcflhmiaaGreatDoor
open Go.RowKit
set_option linter.unusedVariables false
set_option linter.unusedSimpArgs false
def insRen : Go.Shelf.Ren := ⟨fun | 17 => 85 | 22 => 19 | 29 => 42 | 30 => 43 | 36 => 63 | n => n, fun | 24 => 25 | 9 => 9 | n => n, fun | n => n⟩
theorem lays22 : Go.Proofs.Lays2.n22 Tryz.prog insRen := {
  mixed := by kernel_rfl
  f17 := Tryz.func85.trans (congrArg some (by kernel_rfl))
  f22 := Tryz.func19.trans (congrArg some (by kernel_rfl))
  f29 := Tryz.func42.trans (congrArg some (by kernel_rfl))
  f30 := Tryz.func43.trans (congrArg some (by kernel_rfl))
  f36 := Tryz.func63.trans (congrArg some (by kernel_rfl))
  t0 := Tryz.underlying0
  a0 := Tryz.isAgg0
  z0 := Tryz.sizeOf0
  v0 := Tryz.zeroValue0
  t3 := Tryz.underlying3
  a3 := Tryz.isAgg3
  z3 := Tryz.sizeOf3
  v3 := Tryz.zeroValue3
  t4 := Tryz.underlying4
  a4 := Tryz.isAgg4
  z4 := Tryz.sizeOf4
  v4 := Tryz.zeroValue4
  t9 := Tryz.underlying9
  a9 := Tryz.isAgg9
  z9 := Tryz.sizeOf9
  v9 := Tryz.zeroValue9
  t24 := Tryz.underlying25
  a24 := Tryz.isAgg25
  z24 := Tryz.sizeOf25
  v24 := Tryz.zeroValue25
  i9 := by kernel_rfl }
/-- Cells laid one behind the other into a row. -/
def setArr : Array Value → Nat → List Value → Array Value
  | cs, _, [] => cs
  | cs, o, v :: r => setArr (cs.setIfInBounds o v) (o + 1) r
theorem setArr_size : ∀ (vs : List Value) (cs : Array Value) (o : Nat), (setArr cs o vs).size = cs.size
  | [], _, _ => rfl
  | v :: r, cs, o => by rw [setArr, setArr_size r]; simp
theorem setArr_at : ∀ (vs : List Value) (cs : Array Value) (o k : Nat), k < cs.size → (setArr cs o vs)[k]? = if o ≤ k ∧ k < o + vs.length then vs[k - o]? else cs[k]?
  | [], cs, o, k, _ => by rw [setArr, if_neg (by simp)]
  | v :: r, cs, o, k, hk => by
    rw [setArr, setArr_at r _ (o + 1) k (by simpa using hk)]
    simp only [List.length_cons]
    by_cases h1 : o + 1 ≤ k ∧ k < o + 1 + r.length
    · rw [if_pos h1, if_pos (by omega), show k - o = (k - (o + 1)) + 1 by omega, List.getElem?_cons_succ]
    · rw [if_neg h1]
      by_cases h2 : o = k
      · subst h2
        rw [if_pos (by omega), Nat.sub_self, List.getElem?_cons_zero]
        simp [Array.getElem?_setIfInBounds, hk]
      · rw [if_neg (by omega)]
        simp [Array.getElem?_setIfInBounds, h2]
theorem row_setCells {b : Nat} {t : TypeId} : ∀ (vs : List Value) (o : Nat) (W : World) (cs : Array Value), Row W b cs t → Row (W.setCells b o vs) b (setArr cs o vs) t
  | [], _, _, _, h => h
  | v :: r, o, W, cs, h => row_setCells r (o + 1) _ _ (h.set o v)
theorem below_setCells {n0 b : Nat} (hb : n0 ≤ b) : ∀ (vs : List Value) (o : Nat) (w W : World), Below n0 w W → Below n0 w (W.setCells b o vs)
  | [], _, _, _, h => h
  | v :: r, o, w, W, h => below_setCells hb r (o + 1) _ _ (h.setCell (p := ⟨b, o, none⟩) hb v)
theorem row_shape {W : World} {b : Nat} {cs : Array Value} {t : TypeId} (h : Row W b cs t) : W.shape? b = some (t, cs.size) := by
  unfold World.shape?
  rw [h.eq]
/-- What is in the row behind an insertion. -/
theorem ins_cells (xs : List Value) (x : Value) (i : Nat) (hi : i < xs.length) (cs : Array Value) (hs : xs.length + 1 ≤ cs.size) (hp : ∀ k, k < i → cs[k]? = xs[k]?) :
    (setArr (setArr cs (i + 1) (xs.drop i)) i [x]).toList.take (xs.length + 1) = xs.take i ++ x :: xs.drop i := by
  apply List.ext_getElem?
  intro k
  by_cases hk : k < xs.length + 1
  · rw [List.getElem?_take, if_pos hk, Array.getElem?_toList, setArr_at _ _ _ _ (by rw [setArr_size]; omega), setArr_at _ _ _ _ (by omega)]
    simp only [List.length_cons, List.length_nil, List.length_drop]
    by_cases h1 : k = i
    · subst h1
      rw [if_pos (by omega), Nat.sub_self, List.getElem?_append_right (by rw [List.length_take]; omega)]
      simp [Nat.min_eq_left (Nat.le_of_lt hi)]
    · rw [if_neg (by omega)]
      by_cases h2 : k < i
      · rw [if_neg (by omega), hp k h2, List.getElem?_append_left (by rw [List.length_take]; omega), List.getElem?_take, if_pos h2]
      · rw [if_pos (by omega), List.getElem?_append_right (by rw [List.length_take]; omega), List.length_take, Nat.min_eq_left (Nat.le_of_lt hi), show k - i = (k - (i + 1)) + 1 by omega, List.getElem?_cons_succ]
  · rw [List.getElem?_eq_none (by rw [List.length_take]; omega), List.getElem?_eq_none (by simp; omega)]
theorem ins_cells2 (xs : List Value) (x : Value) (i : Nat) (hi : i < xs.length) (cs : Array Value) (hs : xs.length + 1 ≤ cs.size) (hp : ∀ k, k < i → cs[k]? = xs[k]?) :
    (setArr (setArr cs i [x]) (i + 1) (xs.drop i)).toList.take (xs.length + 1) = xs.take i ++ x :: xs.drop i := by
  apply List.ext_getElem?
  intro k
  by_cases hk : k < xs.length + 1
  · rw [List.getElem?_take, if_pos hk, Array.getElem?_toList, setArr_at _ _ _ _ (by rw [setArr_size]; omega), setArr_at _ _ _ _ (by omega)]
    simp only [List.length_cons, List.length_nil, List.length_drop]
    by_cases h1 : k = i
    · subst h1
      rw [if_neg (by omega), if_pos (by omega), Nat.sub_self, List.getElem?_append_right (by rw [List.length_take]; omega)]
      simp [Nat.min_eq_left (Nat.le_of_lt hi)]
    · by_cases h2 : k < i
      · rw [if_neg (by omega), if_neg (by omega), hp k h2, List.getElem?_append_left (by rw [List.length_take]; omega), List.getElem?_take, if_pos h2]
      · rw [if_pos (by omega), List.getElem?_append_right (by rw [List.length_take]; omega), List.length_take, Nat.min_eq_left (Nat.le_of_lt hi), show k - i = (k - (i + 1)) + 1 by omega, List.getElem?_cons_succ]
  · rw [List.getElem?_eq_none (by rw [List.length_take]; omega), List.getElem?_eq_none (by simp; omega)]
theorem insert_c (B : Nat) (v : Value) (xs : List ByteArray) (i : Nat) (x : ByteArray) (g : Nat) (w : World) (ho : OwnsS B w v xs) (hi : i < xs.length) (hl : xs.length ≤ 1000) (hr : Row w g #[.string x] 9) (hg : v.ownBlock ≠ some g) :
    Calls Tryz.prog 19 #[v, .int .i64 i, .slice (some ⟨g, 0, none⟩) 1 1] w fun e w' => ∃ v', e = .returned v' ∧ OwnsS (min B w.heap.size) w' v' (xs.take i ++ x :: xs.drop i) ∧ ∀ n0, n0 ≤ B → n0 ≤ w.heap.size → Below n0 w w' := by
  rcases ho.2 with ⟨_, h0⟩ | ⟨b, c, cur, rfl, h2, h3, h4, h5, h6, h7⟩
  · omega
  have hb : Row w b cur 9 := ⟨h3⟩
  have hgb : g ≠ b := fun e => hg (by rw [e]; rfl)
  rw [Nat.mul_one] at h6 h7
  have hcs : ∀ (j : Nat) u, (xs.map Value.string)[j]? = some u → w.cell? ⟨b, 0 + j, none⟩ = some u := fun j u hj => by
    have hjl : j < xs.length := by have := (List.getElem?_eq_some_iff.1 hj).1; simpa using this
    rw [Nat.zero_add, hb.cell, ← Array.getElem?_toList, ← hj, ← h7, List.getElem?_take, if_pos hjl]
  have h1c : ∀ u ∈ xs.map Value.string, u.oneCell' = true := fun u hu => by obtain ⟨y, _, rfl⟩ := List.mem_map.1 hu; rfl
  have hvs : ∀ (j : Nat) u, ([.string x] : List Value)[j]? = some u → w.cell? ⟨g, 0 + j, none⟩ = some u := fun j u hj => by rw [Nat.zero_add, hr.cell]; simpa using hj
  have h1v : ∀ u ∈ ([.string x] : List Value), u.oneCell' = true := fun u hu => by simp at hu; subst hu; rfl
  have hfin : (xs.take i ++ x :: xs.drop i).length = xs.length + 1 := by simp; omega
  have hmap : (xs.take i ++ x :: xs.drop i).map Value.string = (xs.map Value.string).take i ++ Value.string x :: (xs.map Value.string).drop i := by simp
  by_cases hroom : xs.length + 1 ≤ c
  · refine (Any2.slices_Insert_string_shift lays22 b 0 xs.length c i g 0 1 1 (xs.map Value.string) [.string x] w hi (by omega) hroom (by unfold maxLen at h5; omega) hgb (by simp) rfl hcs
      (fun j hj => by rw [Nat.zero_add, hb.cell, Array.getElem?_eq_getElem (by omega)]; rfl) (fun j hj => hb.free _) hvs h1c h1v _ _ _ _ (row_shape hr) (row_shape hb) (by omega) (hr.free _) (hr.free _)).mono ?_
    rintro e w' ⟨rfl, rfl⟩
    refine ⟨_, rfl, ?_, fun n0 hn0 hn1 => below_setCells (by omega) _ _ _ _ (below_setCells (by omega) _ _ _ _ (Below.refl _ _).drew)⟩
    have hrow := row_setCells [.string x] (0 + i) _ _ (row_setCells ((xs.map Value.string).drop i) (0 + (i + 1)) _ _ hb.drew)
    simp only [Nat.zero_add] at hrow ⊢
    refine ⟨by simp, .inr ⟨b, c, _, by rw [hfin], Nat.le_trans (Nat.min_le_left _ _) h2, hrow.eq, by rw [hfin]; exact hroom, h5, by rw [setArr_size, setArr_size, h6, Nat.mul_one], ?_⟩⟩
    rw [hfin, hmap, Nat.mul_one]
    have := ins_cells (xs.map Value.string) (.string x) i (by simpa using hi) cur (by simp; omega) (fun k hk => by rw [← h7, List.getElem?_take, if_pos (by omega), Array.getElem?_toList])
    simpa using this
  · have hcap : xs.length + 1 ≤ grownCap w (xs.length + 1) c 9 := Go.grownCap_ge ..
    have hcap2 : grownCap w (xs.length + 1) c 9 ≤ maxLen := Go.grownCap_le_maxLen _ _ _ _ (by unfold maxLen; omega)
    refine (Any2.slices_Insert_string_grow lays22 b 0 xs.length c i g 0 1 1 (xs.map Value.string) [.string x] w hi (by omega) h4 (by omega) (by omega) (by simp) rfl hcs hvs h1c h1v).mono ?_
    rintro e w' ⟨rfl, rfl⟩
    refine ⟨_, rfl, ?_, fun n0 hn0 hn1 => below_setCells (by omega) _ _ _ _ (below_setCells (by omega) _ _ _ _ ((Below.refl n0 w).alloc hn1 _).drew).drew⟩
    have hrow := row_setCells ((xs.map Value.string).drop i) (i + 1) _ _ (row_setCells [.string x] i _ _ (Row.new (W := w) (cs := ((xs.map Value.string).take i).toArray ++ Builtin.zeroCells (Value.string ⟨#[]⟩).cells (xs.length + 1 - i) ++ Builtin.zeroCells (Value.string ⟨#[]⟩).cells (grownCap w (xs.length + 1) c 9 - (xs.length + 1))) (t := 9)).drew).drew
    refine ⟨by simp, .inr ⟨w.heap.size, grownCap w (xs.length + 1) c 9, _, by rw [hfin]; rfl, Nat.min_le_right _ _, hrow.eq, by rw [hfin]; exact hcap, hcap2, ?_, ?_⟩⟩
    · rw [setArr_size, setArr_size]
      simp [Builtin.zeroCells, Value.cells]
      omega
    · rw [hfin, hmap, Nat.mul_one]
      have := ins_cells2 (xs.map Value.string) (.string x) i (by simpa using hi) (((xs.map Value.string).take i).toArray ++ Builtin.zeroCells (Value.string ⟨#[]⟩).cells (xs.length + 1 - i) ++ Builtin.zeroCells (Value.string ⟨#[]⟩).cells (grownCap w (xs.length + 1) c 9 - (xs.length + 1))) (by simp [Builtin.zeroCells, Value.cells]; omega) (fun k hk => by
        rw [Array.getElem?_append_left (by simp [Builtin.zeroCells, Value.cells]; omega), Array.getElem?_append_left (by simp; omega), List.getElem?_toArray, List.getElem?_take, if_pos hk])
      simpa using this
end Go.Proofs.YtbbleafcflhmiaaGreatDoor
