/- tags.Quote and tags.Unquote: their contracts. -/
import Derived.Test.YthkngleegefgbaaGreatDoorL0a
import Derived.Lib.Walk
import Derived.Lib.ItoaMem
import Derived.RangeFuncNested
import Derived.RangeFuncBound
import Derived.RangeFuncCalls
import Derived.RangeFuncLeaves
import Derived.RangeFuncBox
import Derived.Shelf.Abstract
import Derived.Shelf.RegionOpen
import Derived.OwnWalkIn
import Derived.TacticsInMore
import Derived.LoopNIn
import Derived.LoopIn
import Derived.Test.YthkngleegefgbaaGreatDoorCards
import Derived.Test.YthkngleegefgbaaGreatDoorTie
import Derived.ProofKit
import Derived.OpenShut
import Derived.Deep.DeepHandedRow
import Derived.Lib.LaidTab
import Derived.Stop.LaidErr
import Derived.ReadAgain
import Derived.ChangeBook
import Derived.ChangeOld
import Derived.ChangeReads
import Derived.Below
import Derived.WideShapes
import Derived.WalkKit
import Derived.Deep.Slices
import Derived.Deep.RegionWith
import Derived.Deep.DeepCutAuto
namespace Go.Proofs.YthkngleegefgbaaGreatDoor
open Go.RowKit
set_option linter.unusedVariables false
set_option linter.unusedSimpArgs false

theorem enc_high (r : Nat) (h : 128 ≤ r) (h2 : r ≤ 1114111) : ∀ b ∈ Lib.encodeRune (r : Int), b ≠ 34 ∧ b ≠ 92 := by
  intro b hb
  have key : ∀ z : Int, 128 ≤ z → z ≤ 255 → ∀ b : UInt8, b = z.toNat.toUInt8 → b ≠ 34 ∧ b ≠ 92 := by
    intro z h0 h1 b hb
    have h3 : b.toNat = z.toNat := by rw [hb]; simp [Nat.toUInt8]; omega
    constructor <;> intro e <;> rw [e] at h3 <;> simp at h3 <;> omega
  unfold Lib.encodeRune at hb
  obtain ⟨z, hz, rfl⟩ := List.mem_map.1 hb
  refine key z ?_ ?_ _ rfl
  · unfold Lib.encodeRuneZ at hz
    split at hz
    · omega
    · split at hz
      · simp at hz; omega
      · split at hz
        · simp at hz; omega
        · split at hz <;> simp at hz <;> omega
  · unfold Lib.encodeRuneZ at hz
    split at hz
    · omega
    · split at hz
      · simp at hz; omega
      · split at hz
        · simp at hz; omega
        · split at hz <;> simp at hz <;> omega
theorem escL_same (l : List UInt8) (h : ∀ b ∈ l, b ≠ 34 ∧ b ≠ 92) : escL l = l := by
  induction l with
  | nil => rfl
  | cons b t ih =>
    obtain ⟨h1, h2⟩ := h b (by simp)
    show escB b ++ escL t = _
    rw [ih (fun x hx => h x (by simp [hx]))]
    unfold escB
    rw [if_neg (by rintro (e | e); exact h1 e; exact h2 e)]
    rfl
theorem escL_append (a b : List UInt8) : escL (a ++ b) = escL a ++ escL b := by simp [escL]
theorem rune_le {l : List UInt8} {r n : Nat} (h : rnL l = some (r, n)) : r ≤ 1114111 := by
  obtain ⟨h1, -⟩ := rnL_some h
  rw [Lib.decodeL_N] at h1
  rcases Lib.decodeN_shape l.length (l.getD 0 0).toNat (l.getD 1 0).toNat (l.getD 2 0).toNat (l.getD 3 0).toNat with ⟨c, e⟩ | ⟨c1, c2, c3, cv, e⟩ | ⟨c1, c2, c3, c4, cv, cs, e⟩ | ⟨c1, c2, c3, c4, c5, cv, cw, e⟩ | e
  all_goals
    rw [h1] at e
    injection e with e1 e2
  · omega
  · have := (l.getD 0 0).toNat_lt; omega
  · have := (l.getD 0 0).toNat_lt; omega
  · omega
  · omega
/-- A rune's bytes, escaped. -/
theorem esc_rune {l : List UInt8} (hne : l ≠ []) {r n : Nat} (h : rnL l = some (r, n)) : escL (l.take n) = if r = 34 ∨ r = 92 then 92 :: Lib.encodeRune (r : Int) else Lib.encodeRune (r : Int) := by
  have hle := rune_le h
  rw [← rnL_bytes hne h]
  by_cases h1 : r = 34 ∨ r = 92
  · rw [if_pos h1]
    rcases h1 with rfl | rfl <;> decide
  · rw [if_neg h1]
    apply escL_same
    by_cases h2 : r < 128
    · intro b hb
      unfold Lib.encodeRune at hb
      rw [Lib.encodeRuneZ_one (by omega) (by omega)] at hb
      simp at hb
      have h3 : b.toNat = r := by rw [hb]; simp [Nat.toUInt8]; omega
      constructor <;> intro e <;> rw [e] at h3 <;> simp at h3 <;> omega
    · exact enc_high r (by omega) hle
theorem take_step {s : ByteArray} {pos r n : Nat} (hp : pos < s.size) (h : rnAt s pos = some (r, n)) : escL (s.data.toList.take (pos + n)) = escL (s.data.toList.take pos) ++ (if r = 34 ∨ r = 92 then 92 :: Lib.encodeRune (r : Int) else Lib.encodeRune (r : Int)) := by
  rw [List.take_add, escL_append, esc_rune (drop_ne hp) h]
def quoteV (l : List UInt8) : Value := if tagOk l then .tuple #[.string ⟨(quoteL l).toArray⟩, .int .i64 0] else .tuple #[.string ⟨#[]⟩, .int .i64 16]
set_option maxHeartbeats 4000000 in
set_option maxRecDepth 100000 in
theorem tquote_c (s : ByteArray) (w : World) (hs : s.size ≤ 1000000) : Ret 26 #[.string s] w (quoteV s.data.toList) := by
  have c := fun w => tcheck_c s w hs
  unfold tagErr at c
  unfold quoteV
  by_cases hok : tagOk s.data.toList = true
  · rw [if_pos hok] at c ⊢
    have C := Lib.hid c
    clear c
    obtain ⟨rs, hrs⟩ : ∃ rs, runesL s.data.toList = some rs := by
      unfold tagOk at hok
      cases h : runesL s.data.toList with
      | none => rw [h] at hok; cases hok
      | some rs => exact ⟨rs, rfl⟩
    clear hok
    go_enter Tryz.func26, Tryz.ntmps26
    go_wp2_with fail
    refine Calls.mono (C.out _) ?_
    rintro e w1 ⟨rfl, hb⟩
    go_wp2_with fail
    have hI : BF w1.heap.size w1.heap.size [] (w1.alloc (.cells #[.pointer none, .slice none 0 0] 83)) := Lib.IsBuilderF.of (Lib.fresh_isBuilder _ _ w1)
    have hc := hb.alloc hb.size (.cells #[.pointer none, .slice none 0 0] 83)
    refine Calls.mono (wbyte_c w1.heap.size w1.heap.size [] 34 _ hI (by simp) (by simp)) ?_
    rintro e w2 ⟨rfl, hI2, hb2, -⟩
    have hc2 : Below w.heap.size w w2 := hc.trans (hb2.mono hb.size)
    have hw1 : w1.heap.size < w2.heap.size := by have := hb2.size; simp at this; omega
    have hw0 : w.heap.size ≤ w1.heap.size := hb.size
    clear hI hc hb hb2
    generalize w1.heap.size = b at *
    go_wp2_with fail
    go_loopw [] (fun wr => ∃ (pos : Nat), BF b b (34 :: escL (s.data.toList.take pos)) wr ∧ wr.heap[w2.heap.size]? = some (.stringIter s pos) ∧ Below w.heap.size w wr ∧ (∃ xs, runesL (s.data.toList.drop pos) = some xs) ∧ pos ≤ s.size) (fun wr => s.size - wr.iterPos w2.heap.size)
    case atStart =>
      refine ⟨0, hI2.alloc _, World.iter_heap w2 s 0, hc2.alloc hc2.size _, ⟨rs, by rw [List.drop_zero]; exact hrs⟩, by omega⟩
    case round =>
      clear hI2 hc2 hrs
      obtain ⟨pos, hI, hit, hB, ⟨xs, hxs⟩, hps⟩ := hrel
      have hsz : w2.heap.size < wr.heap.size := (Array.getElem?_eq_some_iff.1 hit).1
      by_cases hp : pos < s.size
      · have hnx : ∀ ty, (Instr.next (.pointer (some ⟨w2.heap.size, 0, none⟩)) true ty).run Tryz.prog wr = _ := fun ty => Lib.run_next_any_at wr w2.heap.size s pos ty hit hp
        cases hr : rnAt s pos with
        | none => rw [runes_at_none hp hr] at hxs; cases hxs
        | some p =>
          obtain ⟨r, n⟩ := p
          rw [(rnAt_decode hr).1] at hnx
          have hwd := rnAt_width hp hr
          have hrl := rnAt_le hr
          have hns := runes_at hp hr
          rw [hxs] at hns
          have hit2 := Lib.iterAt_heap wr w2.heap.size s pos (pos + n) hit
          have hI2 := hI.iterAt hit (pos + n)
          have hB2 := Lib.below_iterAt hB (k := w2.heap.size) (by omega) s (pos + n)
          have hsz2 : b ≤ (wr.iterAt w2.heap.size s (pos + n)).heap.size := by rw [Lib.iterAt_size]; omega
          have hts := take_step hp hr
          have hel : (escL (s.data.toList.take pos)).length ≤ 2000000 := by
            have h1 := (escL_len (s.data.toList.take pos)).2
            have h2 := List.length_take_le' pos s.data.toList
            rw [len_bytes] at h2
            omega
          have hel2 : ∀ y : List UInt8, (34 :: (escL (s.data.toList.take pos)) : List UInt8).length ≤ 2000001 := fun _ => by simp; omega
          have hxs2 : ∃ ys, runesL (s.data.toList.drop (pos + n)) = some ys := by
            cases hy : runesL (s.data.toList.drop (pos + n)) with
            | none => rw [hy] at hns; cases hns
            | some ys => exact ⟨ys, rfl⟩
          by_cases hq : r = 34 ∨ r = 92
          · rw [if_pos hq] at hts
            rcases hq with rfl | rfl
            · go_wp2_with fail
              refine Calls.mono (wbyte_c b b _ 92 _ hI2 (by simp; omega) hsz2) ?_
              rintro e u1 ⟨rfl, hI3, hb3, hk3⟩
              have hit3 := hk3.iter hit2 (by omega)
              have hsz3 := hb3.size
              go_wp2_with fail
              refine Calls.mono (wrune_c b b _ 34 (by omega) _ hI3 (by simp; omega) (by omega)) ?_
              rintro e u2 ⟨rfl, hI4, hb4, hk4⟩
              go_wp2_with fail
              refine ⟨⟨pos + n, ?_, hk4.iter hit3 (by omega), (hB2.trans (hb3.mono hw0)).trans (hb4.mono hw0), hxs2, by omega⟩, ?_⟩
              · rw [hts]
                simpa using hI4
              · simp only [World.iterPos, hk4.iter hit3 (by omega), hit]
                omega
            · go_wp2_with fail
              refine Calls.mono (wbyte_c b b _ 92 _ hI2 (by simp; omega) hsz2) ?_
              rintro e u1 ⟨rfl, hI3, hb3, hk3⟩
              have hit3 := hk3.iter hit2 (by omega)
              have hsz3 := hb3.size
              go_wp2_with fail
              refine Calls.mono (wrune_c b b _ 92 (by omega) _ hI3 (by simp; omega) (by omega)) ?_
              rintro e u2 ⟨rfl, hI4, hb4, hk4⟩
              go_wp2_with fail
              refine ⟨⟨pos + n, ?_, hk4.iter hit3 (by omega), (hB2.trans (hb3.mono hw0)).trans (hb4.mono hw0), hxs2, by omega⟩, ?_⟩
              · rw [hts]
                simpa using hI4
              · simp only [World.iterPos, hk4.iter hit3 (by omega), hit]
                omega
          · rw [if_neg hq] at hts
            have q1 : ((r : Int) == 34) = false := by rw [beq_eq_false_iff_ne]; omega
            have q2 : ((r : Int) == 92) = false := by rw [beq_eq_false_iff_ne]; omega
            go_wp2_with fail
            refine Calls.mono (wrune_c b b _ r (by omega) _ hI2 (by simp; omega) hsz2) ?_
            rintro e u2 ⟨rfl, hI4, hb4, hk4⟩
            go_wp2_with fail
            refine ⟨⟨pos + n, ?_, hk4.iter hit2 (by omega), hB2.trans (hb4.mono hw0), hxs2, by omega⟩, ?_⟩
            · rw [hts]
              simpa using hI4
            · simp only [World.iterPos, hk4.iter hit2 (by omega), hit]
              omega
      · have hnx : ∀ ty, (Instr.next (.pointer (some ⟨w2.heap.size, 0, none⟩)) true ty).run Tryz.prog wr = _ := fun ty => Lib.run_next_end_at wr w2.heap.size s pos ty hit hp
        have hte : s.data.toList.take pos = s.data.toList := List.take_of_length_le (by rw [len_bytes]; omega)
        rw [hte] at hI
        have hel : (escL s.data.toList).length ≤ 2000000 := by
          have h1 := (escL_len s.data.toList).2
          rw [len_bytes] at h1
          omega
        go_wp2_with fail
        refine Calls.mono (wbyte_c b b _ 34 _ hI (by simp; omega) (by omega)) ?_
        rintro e u1 ⟨rfl, hI3, hb3, hk3⟩
        have hsz3 := hb3.size
        go_wp2_with fail
        refine Calls.mono (bstr_c b b _ _ hI3 (by omega)) ?_
        rintro e u2 ⟨rfl, -, hb4⟩
        go_wp2_with fail
        go_returns
        exact ⟨by simp [quoteL], (hB.trans (hb3.mono hw0)).trans (hb4.mono hw0)⟩
  · rw [if_neg hok] at c ⊢
    have C := Lib.hid c
    clear c
    go_enter Tryz.func26, Tryz.ntmps26
    go_wp2_with fail
    refine Calls.mono (C.out _) ?_
    rintro e w1 ⟨rfl, hb⟩
    go_wp2_with fail
    go_returns
    exact ⟨rfl, hb⟩
end Go.Proofs.YthkngleegefgbaaGreatDoor

/- strconv.FormatUint at base 10, for every uint64: the decimal numeral. -/
namespace Go.Proofs.YthkngleegefgbaaGreatDoor
open Go.RowKit Go.Sort Go.Lib

theorem below_grow_ (w : World) (k : Nat) (os : Array Obj) : Below w.heap.size w (grow (w.drewN k) os) :=
  ⟨rfl, rfl, rfl, by simp [grow, World.drewN], fun i hi => by
    show (w.heap ++ os)[i]? = _
    rw [Array.getElem?_append_left hi]⟩
theorem holds_zero0_ (w : World) (T : TypeId) (nd : Nat) (hs : nd ≤ 24) : Holds (fun (b : UInt8) => Value.int .u8 (b.toNat : Int)) (w.alloc (.cells zeros24 T)) w.heap.size 0 (Array.replicate nd (0 : UInt8)) := fun j hj => by
  have hj' : j < nd := by simpa using hj
  refine ⟨?_, World.frozen?_alloc_new _ _ _ _⟩
  rw [World.cell?_alloc_new, zeros24_at _ (by omega), getElem!_pos _ j hj]
  simp
theorem fin_at_ (w : World) (o : Obj) (dk : Array UInt8) (k off : Nat) : ∃ os, (putRow (fun (b : UInt8) => Value.int .u8 (b.toNat : Int)) (w.alloc o) w.heap.size off dk).drewN k = grow (w.drewN k) os := by
  rw [alloc_eq_grow]
  obtain ⟨os', _, e⟩ := putRow_grow_new (fun (b : UInt8) => Value.int .u8 (b.toNat : Int)) w #[o] w.heap.size off dk (Nat.le_refl _)
  exact ⟨os', by rw [e]; rfl⟩

theorem strconv_Itoa (n : Int) (w : World) (hE : Env w) (h0 : -9223372036854775808 ≤ n) (h1 : n ≤ 9223372036854775807) :
    Ret 27 #[.int .i64 n] w (.string ⟨(Lib.itoa n).toArray⟩) :=
  (Tryz.strconv_Itoa n h0 h1 w hE.tabIs).mono fun e w' ⟨he, k, os, hw⟩ => ⟨he, by rw [hw]; exact below_grow_ w k os⟩
end Go.Proofs.YthkngleegefgbaaGreatDoor

/- tags.Unquote: its contract. -/
namespace Go.Proofs.YthkngleegefgbaaGreatDoor
open Go.RowKit
set_option linter.unusedVariables false
set_option linter.unusedSimpArgs false

def unqV (l : List UInt8) : Value := .tuple #[.string ⟨(unqL l).1.toArray⟩, .int .i64 ((unqL l).2.1 : Nat), .int .i64 (unqL l).2.2]
abbrev unqBad (e : Int) : Value := .tuple #[.string ⟨#[]⟩, .int .i64 0, .int .i64 e]
theorem unqV_head {l : List UInt8} (h : Lib.hasPrefix l [34] = false) : unqV l = unqBad 9 := by
  unfold unqV
  rw [show unqL l = ([], 0, 9) by
    cases l with
    | nil => rfl
    | cons c t =>
      by_cases hc : c = 34
      · subst hc
        simp [Lib.hasPrefix] at h
      · unfold unqL
        split
        · rename_i e
          injection e with e1 e2
          exact absurd e1 hc
        · rfl]
  rfl
theorem unqV_none {t : List UInt8} (h : scanL t = none) : unqV (34 :: t) = unqBad 9 := by
  unfold unqV
  rw [show unqL (34 :: t) = ([], 0, 9) by unfold unqL; simp only [h]]
  rfl
theorem unqV_some {t x : List UInt8} {n : Nat} (h : scanL t = some (x, n)) : unqV (34 :: t) = if tagOk x then .tuple #[.string ⟨x.toArray⟩, .int .i64 (n + 1 : Nat), .int .i64 0] else unqBad 16 := by
  unfold unqV
  by_cases hx : tagOk x = true
  · rw [show unqL (34 :: t) = (x, n + 1, 0) by unfold unqL; simp only [h]; rw [if_pos hx], if_pos hx]
  · rw [show unqL (34 :: t) = ([], 0, 16) by unfold unqL; simp only [h]; rw [if_neg hx], if_neg hx]
    rfl
theorem drop_cons (s : ByteArray) (i : Nat) (h : i < s.size) : s.data.toList.drop i = s[i] :: s.data.toList.drop (i + 1) := by
  have h' : i < s.data.toList.length := by rw [len_bytes]; exact h
  rw [List.drop_eq_getElem_cons h']
  rfl
/-- What is behind the place i, with the backslash ahead where one is open. -/
def pend (s : ByteArray) (i : Nat) (esc : Bool) : List UInt8 := if esc then 92 :: s.data.toList.drop i else s.data.toList.drop i
/-- The scan so far: acc is read, off bytes are taken. -/
def Sc (t : List UInt8) (acc : List UInt8) (off : Nat) (rest : List UInt8) : Prop := scanL t = (scanL rest).map fun x => (acc ++ x.1, off + x.2)
theorem byt_is {a c : UInt8} (h : a = c) (m : Int) (hm : (c.toNat : Int) = m) : ((a.toNat : Int) != m) = false ∧ ((a.toNat : Int) == m) = true := by
  subst h
  rw [hm]
  simp
theorem byt_not {a c : UInt8} (h : a ≠ c) (m : Int) (hm : (c.toNat : Int) = m) : ((a.toNat : Int) != m) = true ∧ ((a.toNat : Int) == m) = false := by
  have : ¬ (a.toNat : Int) = m := fun e => h (UInt8.toNat_inj.1 (by omega))
  exact ⟨by rw [bne_iff_ne]; exact this, by rw [beq_eq_false_iff_ne]; exact this⟩
set_option maxHeartbeats 8000000 in
set_option maxRecDepth 100000 in
theorem tunq_c (s : ByteArray) (w : World) (hs : s.size ≤ 1000000) : Ret 66 #[.string s] w (unqV s.data.toList) := by
  have hpf := Tryz.strings_HasPrefix s ⟨#[34]⟩
  rw [show (⟨#[34]⟩ : ByteArray).data.toList = [34] from rfl] at hpf
  cases hq : Lib.hasPrefix s.data.toList [34] with
  | false =>
    rw [hq] at hpf
    have HPF := Lib.hid hpf
    clear hpf
    rw [unqV_head hq]
    go_enter Tryz.func66, Tryz.ntmps66
    go_wp2_with (go_at_call 33; refine (HPF.out _).mono ?_; rintro e w' ⟨rfl, rfl⟩)
    go_returns
    exact ⟨rfl, Below.refl _ _⟩
  | true =>
    rw [hq] at hpf
    have HPF := Lib.hid hpf
    clear hpf
    obtain ⟨t, ht⟩ : ∃ t, s.data.toList = 34 :: t := by
      unfold Lib.hasPrefix at hq
      rw [List.isPrefixOf_iff_prefix] at hq
      obtain ⟨t, ht⟩ := hq
      exact ⟨t, ht.symm⟩
    have hsz : s.size = t.length + 1 := by rw [← len_bytes, ht]; simp
    have hd1 : s.data.toList.drop 1 = t := by rw [ht]; rfl
    rw [ht]
    go_enter Tryz.func66, Tryz.ntmps66
    go_wp2_with (go_at_call 33; refine (HPF.out _).mono ?_; rintro e w' ⟨rfl, rfl⟩)
    have hI : BF w'.heap.size w'.heap.size [] (w'.alloc (.cells #[.pointer none, .slice none 0 0] 83)) := Lib.IsBuilderF.of (Lib.fresh_isBuilder _ _ w')
    have hc := (Below.refl w'.heap.size w').alloc (Nat.le_refl _) (.cells #[.pointer none, .slice none 0 0] 83)
    clear HPF hq
    go_loopw [6, 7] (fun ev iv wr => ∃ (i : Nat) (esc : Bool) (acc : List UInt8), ev = .bool esc ∧ iv = .int .i64 i ∧ 1 ≤ i ∧ (esc = true → 2 ≤ i) ∧ i ≤ s.size ∧ acc.length ≤ i ∧ BF w'.heap.size w'.heap.size acc wr ∧ Below w'.heap.size w' wr ∧ Sc t acc (i - 1 - (if esc then 1 else 0)) (pend s i esc)) (fun _ iv _ => s.size - (intOf iv).toNat)
    case atStart =>
      refine ⟨1, false, [], rfl, rfl, by omega, by simp, by omega, by simp, hI, hc, ?_⟩
      unfold Sc pend
      simp [hd1]
    case round =>
      clear hI hc
      obtain ⟨i, esc, acc, rfl, rfl, h1, h2, hi, hal, hI, hB, hS⟩ := hrel
      by_cases hlt : i < s.size
      · have hlt2 : (i : Int) < (s.size : Int) := by omega
        have hdc := drop_cons s i hlt
        cases esc with
        | true =>
          have hS2 : Sc t acc (i - 2) (92 :: s[i] :: s.data.toList.drop (i + 1)) := by
            rw [← hdc]
            have := hS
            unfold pend at this
            simp only [if_true] at this
            rw [show i - 1 - 1 = i - 2 by omega] at this
            exact this
          unfold Sc at hS2
          rw [scanL_slash] at hS2
          have h2i := h2 rfl
          by_cases hq : s[i] = 34 ∨ s[i] = 92
          · rw [if_pos hq, Option.map_map] at hS2
            have hS3 : Sc t (acc ++ [s[i]]) (i + 1 - 1 - (if false = true then 1 else 0)) (pend s (i + 1) false) := by
              unfold Sc pend
              rw [hS2]
              simp only [Bool.false_eq_true, if_false]
              congr 1
              funext x
              refine Prod.ext ?_ ?_
              · simp
              · simp; omega
            have HI := Lib.hid hI
            clear hS hS2 hI hdc ht hd1
            have HB := Lib.hid hB
            clear hB
            rcases hq with hq | hq
            · obtain ⟨k1, k2⟩ := byt_is hq 34 rfl
              rw [hq] at hS3
              have HS := Lib.hid hS3
              clear hS3
              go_wp2_with fail
              refine Calls.mono (wbyte_c _ _ acc 34 _ HI.out (by omega) HB.out.size) ?_
              rintro e u1 ⟨rfl, hI3, hb3, -⟩
              go_wp2_with fail
              exact ⟨⟨i + 1, false, acc ++ [34], rfl, by go_num, by omega, by simp, by omega, by simp; omega, hI3, HB.out.trans hb3, HS.out⟩, by simp [intOf]; omega⟩
            · obtain ⟨k1, k2⟩ := byt_is hq 92 rfl
              obtain ⟨k3, k4⟩ := byt_not (a := s[i]) (c := 34) (by rw [hq]; decide) 34 rfl
              rw [hq] at hS3
              have HS := Lib.hid hS3
              clear hS3
              go_wp2_with fail
              refine Calls.mono (wbyte_c _ _ acc 92 _ HI.out (by omega) HB.out.size) ?_
              rintro e u1 ⟨rfl, hI3, hb3, -⟩
              go_wp2_with fail
              exact ⟨⟨i + 1, false, acc ++ [92], rfl, by go_num, by omega, by simp, by omega, by simp; omega, hI3, HB.out.trans hb3, HS.out⟩, by simp [intOf]; omega⟩
          · rw [if_neg hq] at hS2
            have HV := Lib.hid (unqV_none hS2)
            have HB := Lib.hid hB
            clear hB hS hS2 hI hdc ht hd1
            obtain ⟨k1, k2⟩ := byt_not (a := s[i]) (c := 34) (fun e => hq (.inl e)) 34 rfl
            obtain ⟨k3, k4⟩ := byt_not (a := s[i]) (c := 92) (fun e => hq (.inr e)) 92 rfl
            go_wp2_with fail
            rw [HV.out]
            go_returns
            exact ⟨rfl, HB.out⟩
        | false =>
          have hS2 : Sc t acc (i - 1) (s[i] :: s.data.toList.drop (i + 1)) := by
            rw [← hdc]
            exact hS
          unfold Sc at hS2
          have HB := Lib.hid hB
          have HI := Lib.hid hI
          clear hB hI hS hdc ht hd1
          by_cases hq : s[i] = 34
          · rw [hq, scanL_quote] at hS2
            simp only [Option.map_some, List.append_nil] at hS2
            rw [show i - 1 + 1 = i by omega] at hS2
            have hv := unqV_some hS2
            have c := fun w => tcheck_c ⟨acc.toArray⟩ w (by rw [← len_bytes]; simp; omega)
            unfold tagErr at c
            rw [show (⟨acc.toArray⟩ : ByteArray).data.toList = acc by simp] at c
            obtain ⟨k1, k2⟩ := byt_is hq 34 rfl
            obtain ⟨k3, k4⟩ := byt_not (a := s[i]) (c := 92) (by rw [hq]; decide) 92 rfl
            cases hok : tagOk acc with
            | true =>
              rw [hok] at c hv
              simp only [if_true] at c hv
              have HV := Lib.hid hv
              have C := Lib.hid c
              clear hv c hS2 hok
              go_wp2_with fail
              refine Calls.mono (bstr_c _ _ acc _ HI.out HB.out.size) ?_
              rintro e u1 ⟨rfl, hI3, hb3⟩
              go_wp2_with fail
              refine Calls.mono (C.out _) ?_
              rintro e u2 ⟨rfl, hb4⟩
              go_wp2_with fail
              refine Calls.mono (bstr_c _ _ acc _ (BF_on hI3 hb4) (by have := HB.out.size; have := hb3.size; have := hb4.size; omega)) ?_
              rintro e u3 ⟨rfl, -, hb5⟩
              go_wp2_with fail
              rw [HV.out]
              go_returns
              exact ⟨rfl, ((HB.out.trans hb3).trans (hb4.mono (HB.out.trans hb3).size)).trans hb5⟩
            | false =>
              rw [hok] at c hv
              simp only [Bool.false_eq_true, if_false] at c hv
              have HV := Lib.hid hv
              have C := Lib.hid c
              clear hv c hS2 hok
              go_wp2_with fail
              refine Calls.mono (bstr_c _ _ acc _ HI.out HB.out.size) ?_
              rintro e u1 ⟨rfl, hI3, hb3⟩
              go_wp2_with fail
              refine Calls.mono (C.out _) ?_
              rintro e u2 ⟨rfl, hb4⟩
              go_wp2_with fail
              rw [HV.out]
              go_returns
              exact ⟨rfl, (HB.out.trans hb3).trans (hb4.mono (HB.out.trans hb3).size)⟩
          · obtain ⟨k1, k2⟩ := byt_not hq 34 rfl
            by_cases hq2 : s[i] = 92
            · obtain ⟨k3, k4⟩ := byt_is hq2 92 rfl
              have hS3 : Sc t acc (i + 1 - 1 - (if true = true then 1 else 0)) (pend s (i + 1) true) := by
                unfold Sc pend
                rw [hS2, hq2]
                simp only [if_true]
                rw [show i + 1 - 1 - 1 = i - 1 by omega]
              have HS := Lib.hid hS3
              clear hS2 hS3
              go_wp2_with fail
              exact ⟨⟨i + 1, true, acc, rfl, by go_num, by omega, fun _ => by omega, by omega, by omega, HI.out, HB.out, HS.out⟩, by simp [intOf]; omega⟩
            · obtain ⟨k3, k4⟩ := byt_not hq2 92 rfl
              have hS3 : Sc t (acc ++ [s[i]]) (i + 1 - 1 - (if false = true then 1 else 0)) (pend s (i + 1) false) := by
                unfold Sc pend
                rw [hS2, scanL_cons _ _ hq hq2, Option.map_map]
                simp only [Bool.false_eq_true, if_false]
                congr 1
                funext x
                refine Prod.ext ?_ ?_
                · simp
                · simp; omega
              have HS := Lib.hid hS3
              clear hS2 hS3
              go_wp2_with fail
              refine Calls.mono (wbyte_c _ _ acc s[i] _ HI.out (by omega) HB.out.size) ?_
              rintro e u1 ⟨rfl, hI3, hb3, -⟩
              go_wp2_with fail
              exact ⟨⟨i + 1, false, acc ++ [s[i]], rfl, by go_num, by omega, by simp, by omega, by simp; omega, hI3, HB.out.trans hb3, HS.out⟩, by simp [intOf]; omega⟩
      · obtain rfl : i = s.size := by omega
        have hlt2 : ¬ (s.size : Int) < (s.size : Int) := by omega
        have hdn : s.data.toList.drop s.size = [] := List.drop_of_length_le (by rw [len_bytes]; exact Nat.le_refl _)
        have hv : unqV (34 :: t) = unqBad 9 := by
          apply unqV_none
          unfold Sc pend at hS
          rw [hdn] at hS
          rw [hS]
          cases esc <;> simp [scanL]
        have HV := Lib.hid hv
        clear hv hS
        go_wp2_with fail
        rw [HV.out]
        go_returns
        exact ⟨rfl, hB⟩
end Go.Proofs.YthkngleegefgbaaGreatDoor

/- strconv.Atoi: a number, or an error. -/
namespace Go.Proofs.YthkngleegefgbaaGreatDoor
open Go.RowKit

theorem atoi_ok (s : ByteArray) (hs : s.size ≤ 100000) (v : Int) (h : Lib.atoiAll s.data.toList = .ok v) (w : World) :
    Ret 69 #[.string s] w (.tuple #[.int .i64 v, .nilIface]) :=
  (Tryz.strconv_Atoi_ok s (by omega) v h w).mono fun e w' ⟨he, hw⟩ => ⟨he, by
    rcases hw with rfl | ⟨t, rfl⟩
    · exact Below.refl _ _
    · exact Lib.bytesWorld_below _ _ _⟩
theorem atoi_bad (s : ByteArray) (hs : s.size ≤ 100000) (h : ∀ v, Lib.atoiAll s.data.toList ≠ .ok v) (w : World) (hE : EnvP w) :
    Calls Tryz.prog 69 #[.string s] w fun e w' => ∃ (n : Int) (N : Nat), e = .returned (.tuple #[.int .i64 n, .iface 138 (.pointer (some ⟨N, 0, none⟩))]) ∧ Below w.heap.size w w' := by
  obtain ⟨tp, p, _, _, _, hsyn⟩ := hE.syn
  obtain ⟨tq, q, _, _, _, hrng⟩ := hE.rng
  cases hp : Lib.atoiAll s.data.toList with
  | ok u => exact absurd hp (h u)
  | range => exact (Any.strconv_Atoi_range_var Tryz.laysC172 s (by omega) hp tq q w hrng).mono fun e w' ⟨N, he, _, _, hb⟩ => ⟨_, N, he, hb⟩
  | _ => exact (Any.strconv_Atoi_syntax_var Tryz.laysC172 s (by omega) hp tp p w hsyn).mono fun e w' ⟨N, he, _, _, hb⟩ => ⟨_, N, he, hb⟩
end Go.Proofs.YthkngleegefgbaaGreatDoor

/- A range over a function whose iterator keeps a variable of its own in a box that was made ahead of the loop: what such an iterator promises, and the loop over it. -/
namespace Go.Proofs.YthkngleegefgbaaGreatDoor
open Go.RowKit
set_option linter.unusedVariables false
/-- The iterator's promise: J abides new blocks, and stores into the box b. -/
def SeqBox {α : Type} (n : Nat) (P : Program) (g : Nat) (lb : Array Value) (encs : α → Array Value) (Kp : World → World → Prop) (S Sp : List α → Prop) (N b : Nat) (W : World) : Prop :=
  ∀ (l : Nat) (J Jx : List α → World → Prop), AbidesFrom W.heap.size J → (∀ s V v, J s V → J s (V.setCell ⟨b, 0, none⟩ v)) →
    (∀ pre x V, J pre V → pre.length < N → YieldAt Fence.wide (n - 1) P l (encs x) V fun e V' => (e = .returned (.bool true) ∧ J (pre ++ [x]) V' ∧ Kp V V') ∨ (e = .returned (.bool false) ∧ Jx (pre ++ [x]) V')) →
    J [] W → CallsIn Fence.wide n P g (#[.func (.yield l) #[] #[]] ++ lb) W fun e V => (∃ v, e = .returned v) ∧ ((∃ xs, S xs ∧ J xs V) ∨ (∃ pre, Sp pre ∧ Jx pre V))
/-- What a loop over it owes. -/
theorem wpIn_rangeBox {α : Type} {n : Nat} {P : Program} {g : Operand} {ps : Array Tmp} {assign body : Code} {Q : Exit → Act → World → Prop} {a : Act} {w : World}
    (h1 : 1 ≤ n) {gf : Nat} {lb : Array Value} (hg : a.eval g = .func (.func gf) #[] lb) (eg : ∀ args w, (callFunc gf args).run P w = .ok (.enter gf args) w)
    {encs : α → Array Value} {Kp : World → World → Prop} {S Sp : List α → Prop} {N b : Nat} (hb : b < w.heap.size)
    (hseq : ∀ W, Below w.heap.size w W → SeqBox (n - 1) P gf lb encs Kp S Sp N b W)
    (hKt : ∀ {A B C : World}, Kp A B → Kp B C → Kp A C) (hKb : ∀ (W : World) (l : Nat) (o o' : Obj), w.heap.size ≤ l → W.heap[l]? = some o → o.isCells = false → o.isWalk = false → Kp W (W.putObj l o')) (hps : ∀ x, (encs x).size = ps.size)
    (I : List α → World → Prop) (Ix : Code → List α → World → Prop) (hI : OwnFrom w.heap.size I) (hIx : ∀ c, OwnFrom w.heap.size (Ix c)) (hIb : ∀ s V v, I s V → I s (V.setCell ⟨b, 0, none⟩ v)) (h0 : I [] w) (a₁ : α → Act)
    (hassign : ∀ (l : Nat) (x : α) (W : World) (K : Act → World → Prop), K (a₁ x) W →
      assign.wpIn (Fence.wide.inRound l) (n - 1 - 1) P (Exit.then K (fun _ _ _ => False)) { tmps := (ps.zip (encs x)).foldl (fun t (p, v) => t.setIfInBounds p v) a.tmps, defers := [] } W)
    (hbody : ∀ (l : Nat) (pre : List α) (x : α) (W : World), I pre W → pre.length < N → body.wpIn (Fence.wide.inRound l) (n - 1 - 1) P (ownPostG w.heap.size Kp I Ix (pre ++ [x]) W) (a₁ x) W)
    (hdone : ∀ (D : Nat) (xs : List α) (W : World), w.heap.size ≤ D → S xs → I xs W → W.heap[D]? = some (.deferred (some [])) → Q .normal { a with defers := { target := .collected D, args := #[] } :: a.defers } W)
    (hstop : ∀ (D : Nat) (c : Code) (pre : List α) (W : World), w.heap.size ≤ D → Sp pre → Ix c pre W → W.heap[D]? = some (.deferred (some [])) → c.wpIn Fence.wide n P Q { a with defers := { target := .collected D, args := #[] } :: a.defers } W) :
    (Code.rangeFunc g ps assign body).wpIn Fence.wide n P Q a w := by
  refine wpIn_rangeFunc (fun fn hfn => ?_)
  obtain ⟨rc, hrc⟩ : ∃ rc : LoopState → Option Code → Loop, rc = fun st pe => ⟨st, pe, fn, a.tmps, ps, assign, body, w.heap.size⟩ := ⟨_, rfl⟩
  obtain ⟨D, hD⟩ : ∃ D, D = w.heap.size := ⟨_, rfl⟩
  obtain ⟨L, hL⟩ : ∃ L, L = w.heap.size + 1 := ⟨_, rfl⟩
  obtain ⟨W0, hW0⟩ : ∃ W0, W0 = (w.alloc (.deferred (some []))).alloc (.loop (rc .ready none)) := ⟨_, rfl⟩
  -- the two blocks of the loop
  have sz0 : W0.heap.size = w.heap.size + 2 := by rw [hW0]; simp
  have atL : W0.heap[L]? = some (.loop (rc .ready none)) := by
    have h := World.alloc_heap_new (w.alloc (.deferred (some []))) (.loop (rc .ready none))
    rw [World.size_alloc, ← hW0, ← hL] at h
    exact h
  have atD : W0.heap[D]? = some (.deferred (some [])) := by
    rw [hW0, hD]
    exact (Below.heap_alloc _ _ _ (by simp)).trans (World.alloc_heap_new w _)
  have hb0 : Below w.heap.size w W0 := by rw [hW0]; exact ((Below.refl _ w).alloc (Nat.le_refl _) _).alloc (by simp) _
  -- what goes with the caller's I
  let T (st : LoopState) (pe : Option Code) (V : World) : Prop := V.heap[L]? = some (.loop (rc st pe)) ∧ V.heap[D]? = some (.deferred (some []))
  have Tgrow : ∀ st pe (A B : World) (row : Option Nat), T st pe A → A.grownBy B row → (∀ r, row = some r → W0.heap.size ≤ r ∧ ∃ o : Obj, A.heap[r]? = some o ∧ o.isWalk = true) → T st pe B := fun st pe A B row hT hgr hr =>
    ⟨(grownBy_keeps hgr (fun r e => (hr r e).2) hT.1 rfl).trans hT.1, (grownBy_keeps hgr (fun r e => (hr r e).2) hT.2 rfl).trans hT.2⟩
  have Tset : ∀ st pe (A : World) v, T st pe A → T st pe (A.setCell ⟨b, 0, none⟩ v) := fun st pe A v hT =>
    ⟨(Below.heap_setCell A ⟨b, 0, none⟩ v L (by show L ≠ b; omega)).trans hT.1, (Below.heap_setCell A ⟨b, 0, none⟩ v D (by show D ≠ b; omega)).trans hT.2⟩
  have walk_cells : ∀ {A : World} {row : Option Nat}, (∀ r, row = some r → W0.heap.size ≤ r ∧ ∃ o : Obj, A.heap[r]? = some o ∧ o.isWalk = true) → ∀ r, row = some r → w.heap.size ≤ r ∧ ∃ o : Obj, A.heap[r]? = some o ∧ o.isCells = false := fun hr r e => by
    obtain ⟨hB, o, ho, hw⟩ := hr r e
    exact ⟨by omega, o, ho, Obj.not_cells_of_walk hw⟩
  refine ⟨L, [{ target := .collected D, args := #[] }], W0, { target := .fn (.func gf) lb, args := #[.func (.yield L) #[] #[]] }, W0, gf, #[.func (.yield L) #[] #[]] ++ lb, W0, ?_, ?_, fun _ _ => trivial, ?_, fun _ => h1, ?_⟩
  · rw [hW0, hL, hD, hrc]
    exact run_enterLoop_outer _ _ _ _ _
  · simp only [resolve, hg]
    simp [go_sem]
  · simp [invoke, go_sem, eg]
  · refine (hseq W0 hb0 L (fun s V => I s V ∧ T .ready none V) (fun s V => ∃ c, Ix c s V ∧ T .done (some c) V)
      (fun s A B row hs hgr hr => ⟨hI s A B row hs.1 hgr (walk_cells hr), Tgrow _ _ A B row hs.2 hgr hr⟩)
      (fun s V v hs => ⟨hIb s V v hs.1, Tset _ _ V v hs.2⟩) ?_ ⟨?_, atL, atD⟩).mono ?_
    · -- a round
      rintro pre x V ⟨hi, hl, hd⟩ hlen
      have hy := run_yield (P := P) (args := encs x) hl (by rw [hrc]; exact hps x)
      rw [hrc] at hy
      refine ⟨fn, _, assign, body, hy, roundIn_of_wpIn hfn (hassign _ x V _ ⟨_, run_beginRound hl (by rw [hrc]), ?_⟩)⟩
      have hLV : L < V.heap.size := (Array.getElem?_eq_some_iff.1 hl).1
      obtain ⟨V2, hV2⟩ : ∃ V2, V2 = V.putObj L (.loop { rc .ready none with state := .busy }) := ⟨_, rfl⟩
      rw [← hV2]
      have l2 : V2.heap[L]? = some (.loop (rc .busy none)) := by rw [hV2, hrc]; exact World.putObj_heap_same hLV
      have d2 : V2.heap[D]? = some (.deferred (some [])) := by rw [hV2]; exact (World.putObj_heap_other (by omega)).trans hd
      have k2 : Kp V V2 := by rw [hV2]; exact hKb _ _ _ _ (by omega) hl rfl rfl
      have i2 : I pre V2 := by rw [hV2]; exact hI.putObj _ hi (by omega) hl rfl
      -- how a round ends
      have ends : ∀ (jump : Option Code) (V3 : World), KeepsFrom w.heap.size V2 V3 →
          ∃ V4, (Instr.endRound L jump).run P V3 = .ok (.bool jump.isNone) V4 ∧ T (if jump.isNone then .ready else .done) jump V4 ∧ (∀ s, I s V3 → I s V4) ∧ (∀ c s, Ix c s V3 → Ix c s V4) ∧ Kp V3 V4 := fun jump V3 hk => by
        have l3 := hk.same _ _ (by omega) l2 rfl
        have d3 := hk.same _ _ (by omega) d2 rfl
        have hr := run_endRound (P := P) jump l3
        refine ⟨_, hr, ⟨?_, (World.putObj_heap_other (by omega)).trans d3⟩, fun s hs => hI.putObj _ hs (by omega) l3 rfl, fun c s hs => (hIx c).putObj _ hs (by omega) l3 rfl, hKb _ _ _ _ (by omega) l3 rfl rfl⟩
        rw [World.putObj_heap_same (Array.getElem?_eq_some_iff.1 l3).1, hrc]
      refine wpIn_mono (hbody _ pre x V2 i2 hlen) (fun e a3 V3 hp => ?_)
      have jumped : ∀ c, KeepsFrom w.heap.size V2 V3 → Ix c (pre ++ [x]) V3 → ∃ v V4, (Instr.endRound L (some c)).run P V3 = .ok v V4 ∧
          ((Ending.returned v = .returned (.bool true) ∧ (I (pre ++ [x]) V4 ∧ T .ready none V4) ∧ Kp V V4) ∨ (Ending.returned v = .returned (.bool false) ∧ ∃ c, Ix c (pre ++ [x]) V4 ∧ T .done (some c) V4)) := fun c hk hx => by
        obtain ⟨V4, hr, hT, _, hIX, _⟩ := ends (some c) V3 hk
        exact ⟨_, V4, hr, .inr ⟨rfl, c, hIX c _ hx, hT⟩⟩
      cases e with
      | normal =>
        obtain ⟨hk, kp, hi3⟩ := hp
        obtain ⟨V4, hr, hT, hI4, _, k4⟩ := ends none V3 hk
        exact ⟨_, V4, hr, .inl ⟨rfl, ⟨hI4 _ hi3, hT⟩, hKt (hKt k2 kp) k4⟩⟩
      | ret => exact jumped .ret hp.1 hp.2
      | exit id => exact jumped (.exit id) hp.1 hp.2
      | goto t => exact jumped (.goto t) hp.1 hp.2
      | panic ch => exact hp.elim
      | outgrown => exact hp.elim
    · rw [hW0]
      exact hI.alloc _ (hI.alloc _ h0)
    · -- behind the iterator
      rintro e V ⟨⟨v, rfl⟩, hh⟩
      rcases hh with ⟨xs, hS, hi, hl, hd⟩ | ⟨pre, hSp, c, hi, hl, hd⟩
      · have hr := run_endLoop (P := P) hl (by rw [hrc]; simp)
        rw [show (rc .ready none).pending = none by rw [hrc]] at hr
        exact ⟨none, _, hr, hdone D xs _ (by omega) hS (hI.putObj _ hi (by omega) hl rfl) ((World.putObj_heap_other (by omega)).trans hd)⟩
      · have hr := run_endLoop (P := P) hl (by rw [hrc]; simp)
        rw [show (rc .done (some c)).pending = some c by rw [hrc]] at hr
        exact ⟨some c, _, hr, hstop D c pre _ (by omega) hSp ((hIx c).putObj _ hi (by omega) hl rfl) ((World.putObj_heap_other (by omega)).trans hd)⟩
end Go.Proofs.YthkngleegefgbaaGreatDoor

/- strings.SplitSeq at a separator of one byte: its iterator. -/
namespace Go.Proofs.YthkngleegefgbaaGreatDoor
open Go.RowKit Go.Shelf
set_option linter.unusedVariables false
set_option linter.unusedSimpArgs false
set_option maxHeartbeats 8000000
set_option maxRecDepth 20000
attribute [local go_sem] Oper.semAt_some
theorem cutAll_len (c : UInt8) (l : List UInt8) : (cutAll c l).length ≤ l.length + 1 := by
  induction l with
  | nil => simp [cutAll]
  | cons b l ih =>
    rw [cutAll_cons]
    split
    · simp; omega
    · split
      · rename_i h; rw [h] at ih; simp at ih ⊢; omega
      · simp
/-- A piece of a text. -/
abbrev Pc := { x : ByteArray // x.size ≤ 100000 }
def pcsL (l : List Pc) : List (List UInt8) := l.map (·.1.data.toList)
theorem pcsL_snoc (l : List Pc) (x : Pc) : pcsL (l ++ [x]) = pcsL l ++ [x.1.data.toList] := by simp [pcsL]
theorem pcsL_len (l : List Pc) : (pcsL l).length = l.length := by simp [pcsL]
/-- What a round keeps: what lay below n, and the iterator's three boxes. -/
def KpS (n b0 : Nat) (A B : World) : Prop := Below n A B ∧ ∀ (x : Nat) (cs : Array Value) (t : TypeId), (x = b0 ∨ x = b0 + 1 ∨ x = b0 + 2) → (t = 9 ∨ t = 3) → Row A x cs t → Row B x cs t
theorem kpS_t {n b0 : Nat} {A B C : World} (h : KpS n b0 A B) (k : KpS n b0 B C) : KpS n b0 A C := ⟨h.1.trans k.1, fun x cs t hx ht hr => k.2 x cs t hx ht (h.2 x cs t hx ht hr)⟩
theorem kpS_b {n b0 : Nat} {w : World} (hn : n ≤ w.heap.size) (hb : b0 + 2 < w.heap.size) (W : World) (l : Nat) (o o' : Obj) (hl : w.heap.size ≤ l) (h : W.heap[l]? = some o) (h1 : o.isCells = false) (h2 : o.isWalk = false) : KpS n b0 W (W.putObj l o') :=
  ⟨belowK_b hn W l o o' hl h h1 h2, fun x cs t hx ht hr => ⟨(World.putObj_heap_other (by omega)).trans hr.eq⟩⟩
def szOf (W : World) (b : Nat) : Nat := match W.cell? ⟨b, 0, none⟩ with | some (.string x) => x.size | _ => 0
theorem szOf_row {W : World} {b : Nat} {x : ByteArray} {t : TypeId} (h : Row W b #[.string x] t) : szOf W b = x.size := by unfold szOf; rw [h.cell 0]; rfl
theorem split1_in (n : Nat) (hn : 1 ≤ n) (l b0 n0 : Nat) (c : UInt8) (s : ByteArray) (hs : s.size ≤ 100000) (J Jx : List Pc → World → Prop) (W : World)
    (hJs : ∀ s W v, J s W → J s (W.setCell ⟨b0, 0, none⟩ v))
    (hY : ∀ pre (x : Pc) W1, J pre W1 → pre.length < s.size + 2 → YieldAt Fence.wide (n - 1) Tryz.prog l #[.string x.1] W1 fun e W' => (e = .returned (.bool true) ∧ J (pre ++ [x]) W' ∧ KpS n0 b0 W1 W') ∨ (e = .returned (.bool false) ∧ Jx (pre ++ [x]) W'))
    (h1 : Row W b0 #[.string s] 9) (h2 : Row W (b0 + 1) #[.string ⟨#[c]⟩] 9) (h3 : Row W (b0 + 2) #[.int .i64 0] 3) (h0 : J [] W) :
    CallsIn Fence.wide n Tryz.prog 86 #[.func (.yield l) #[] #[], .pointer (some ⟨b0 + 1, 0, none⟩), .pointer (some ⟨b0, 0, none⟩), .pointer (some ⟨b0 + 2, 0, none⟩)] W fun e W' => (∃ v, e = .returned v) ∧
      ((∃ ys, pcsL ys = cutAll c s.data.toList ∧ J ys W') ∨ (∃ pre, pcsL pre <+: cutAll c s.data.toList ∧ Jx pre W')) := by
  have HJS := Lib.hid hJs
  have HY := Lib.hid hY
  clear hJs hY
  refine callsIn_of_wp Tryz.func86 rfl trivial ?_ rfl
  simp only [Tryz.ntmps86, List.size_toArray, List.length_cons, List.length_nil, Nat.reduceAdd, Nat.reduceSub, Array.replicate_succ, Array.replicate_zero, List.push_toArray, List.append_toArray, List.nil_append, List.cons_append]
  have y2 := h2.cell
  gi_wp2
  clear y2
  gi_loopw [7] (fun _ wr => ∃ (pre : List Pc) (cur : ByteArray), cur.size ≤ s.size ∧ J pre wr ∧ pcsL pre ++ cutAll c cur.data.toList = cutAll c s.data.toList ∧ Row wr b0 #[.string cur] 9 ∧ Row wr (b0 + 1) #[.string ⟨#[c]⟩] 9 ∧ Row wr (b0 + 2) #[.int .i64 0] 3) (fun _ wr => szOf wr b0)
  case atStart => exact ⟨[], s, Nat.le_refl _, h0, rfl, h1, h2, h3⟩
  case round =>
    obtain ⟨pre, cur, hcs, hJ, hpc, r1, r2, r3⟩ := hrel
    clear h0 h1 h2 h3
    have ci := Tryz.strings_Index_one cur c wr
    have hsz := szOf_row r1
    have hlen : pre.length < s.size + 2 := by
      have e := congrArg List.length hpc
      rw [List.length_append, pcsL_len] at e
      have := cutAll_len c s.data.toList
      rw [len_bytes] at this
      omega
    have hcl := len_bytes cur
    rcases mem_split cur.data.toList c with hno | ⟨p, q, hp, he⟩
    · rw [indexByte_no _ _ hno] at ci
      have hpl : pcsL (pre ++ [⟨cur, by omega⟩]) = cutAll c s.data.toList := by rw [pcsL_snoc, ← hpc, cutAll_no _ _ hno]
      obtain ⟨fn, tmps, assign, body, hy, hR⟩ := HY.out pre ⟨cur, by omega⟩ wr hJ hlen
      dsimp only at hy
      have HR := Lib.hid hR
      have HPL := Lib.hid hpl
      have C := Lib.hid ci
      have y1 := r1.cell
      have y2 := r2.cell
      have y3 := r3.cell
      clear hR hJ hpc hpl ci HY HJS hno
      gi_wp2_with (refine ⟨trivial, ?_⟩; gi_at_call 68; refine (callsIn_wide.2 C.out).mono ?_; rintro e w9 ⟨rfl, rfl⟩)
      refine HR.out.mono ?_
      clear HR
      rintro e W3 (⟨rfl, hJ3, -⟩ | ⟨rfl, hJ3⟩)
      · have HJ3 := Lib.hid hJ3
        clear hJ3
        gi_wp2
        go_end0
        exact ⟨⟨_, rfl⟩, .inl ⟨_, HPL.out, HJ3.out⟩⟩
      · have HJ3 := Lib.hid hJ3
        clear hJ3
        gi_wp2
        go_end0
        exact ⟨⟨_, rfl⟩, .inr ⟨_, by rw [HPL.out]; exact List.prefix_rfl, HJ3.out⟩⟩
    · rw [he, indexByte_at _ _ _ hp] at ci
      have hp1 : p.length + 1 ≤ cur.size := by rw [← hcl, he]; simp
      have sr : cur.extract 0 p.length = ⟨p.toArray⟩ := by
        apply str_ext
        rw [Lib.extract_data, he]
        simp
      have sp : cur.extract (p.length + 1) cur.size = ⟨q.toArray⟩ := by
        apply str_ext
        rw [Lib.extract_to_end, he]
        simp
      have hps : (⟨p.toArray⟩ : ByteArray).size ≤ 100000 := by
        show p.toArray.size ≤ _
        simp
        omega
      have hqs : (⟨q.toArray⟩ : ByteArray).size < cur.size := by
        have e := congrArg List.length he
        rw [hcl] at e
        show q.toArray.size < _
        simp at e ⊢
        omega
      have hpl : pcsL (pre ++ [⟨⟨p.toArray⟩, hps⟩]) ++ cutAll c (⟨q.toArray⟩ : ByteArray).data.toList = cutAll c s.data.toList := by
        rw [pcsL_snoc, ← hpc, he, cutAll_at _ _ _ hp]
        simp
      obtain ⟨fn, tmps, assign, body, hy, hR⟩ := HY.out pre ⟨⟨p.toArray⟩, hps⟩ wr hJ hlen
      dsimp only at hy
      have HR := Lib.hid hR
      have HPL := Lib.hid hpl
      have C := Lib.hid ci
      have y1 := r1.cell
      have y2 := r2.cell
      have y3 := r3.cell
      have e1 : ((p.length : Nat) : Int) ≤ cur.size := by omega
      have e2 : (0 : Int) ≤ p.length := by omega
      have e3 : ((p.length : Nat) : Int) + 1 ≤ cur.size := by omega
      have e4 : (0 : Int) ≤ (p.length : Int) + 1 := by omega
      clear hR hJ hpc hpl ci HY hp he
      generalize hN : p.length = k at *
      gi_wp2_with (refine ⟨trivial, ?_⟩; gi_at_call 68; refine (callsIn_wide.2 C.out).mono ?_; rintro e w9 ⟨rfl, rfl⟩)
      clear y1 y2 y3
      refine HR.out.mono ?_
      clear HR
      rintro e W3 (⟨rfl, hJ3, hk3⟩ | ⟨rfl, hJ3⟩)
      · have q1 := hk3.2 _ _ _ (.inl rfl) (.inl rfl) r1
        have q2 := hk3.2 _ _ _ (.inr (.inl rfl)) (.inl rfl) r2
        have q3 := hk3.2 _ _ _ (.inr (.inr rfl)) (.inr rfl) r3
        have HJ3 := Lib.hid hJ3
        clear hJ3 hk3 r1 r2 r3
        have y1 := q1.cell
        have y2 := q2.cell
        have u1 := q1.free
        gi_wp2
        clear y1 y2 u1
        have HJ4 := HJS.out _ _ (.string ⟨q.toArray⟩) HJ3.out
        have t1 := q1.set 0 (.string ⟨q.toArray⟩)
        have t2 := q2.other (y := b0) (by omega) 0 (.string ⟨q.toArray⟩)
        have t3 := q3.other (y := b0) (by omega) 0 (.string ⟨q.toArray⟩)
        simp only [List.setIfInBounds_toArray, List.set_cons_zero] at t1
        have hz := szOf_row t1
        go_roundw
        case rel => exact ⟨_, _, by omega, HJ4, HPL.out, t1, t2, t3⟩
        case measure => rw [hz, hsz]; exact hqs
      · have HJ3 := Lib.hid hJ3
        clear hJ3
        gi_wp2
        refine bodyPost_ret (results_none rfl _ _ _) rfl ?_
        exact ⟨⟨_, rfl⟩, .inr ⟨_, ⟨cutAll c (⟨q.toArray⟩ : ByteArray).data.toList, HPL.out⟩, HJ3.out⟩⟩
theorem split_seq (m : Nat) (hm : 1 ≤ m) (b0 n0 : Nat) (c : UInt8) (s : ByteArray) (hs : s.size ≤ 100000) (w : World)
    (h1 : Row w b0 #[.string s] 9) (h2 : Row w (b0 + 1) #[.string ⟨#[c]⟩] 9) (h3 : Row w (b0 + 2) #[.int .i64 0] 3) :
    SeqBox m Tryz.prog 86 #[.pointer (some ⟨b0 + 1, 0, none⟩), .pointer (some ⟨b0, 0, none⟩), .pointer (some ⟨b0 + 2, 0, none⟩)] (fun x : Pc => #[.string x.1]) (KpS n0 b0) (fun ys => pcsL ys = cutAll c s.data.toList) (fun pre => pcsL pre <+: cutAll c s.data.toList) (s.size + 2) b0 w :=
  fun l J Jx hJ hJs hY h0 => split1_in m hm l b0 n0 c s hs J Jx w hJs hY h1 h2 h3 h0
theorem splitSeq_c (s : ByteArray) (c : UInt8) (w : World) : Calls Tryz.prog 43 #[.string s, .string ⟨#[c]⟩] w fun e w' => e = .returned (.func (.func 86) #[] #[.pointer (some ⟨w.heap.size + 1, 0, none⟩), .pointer (some ⟨w.heap.size, 0, none⟩), .pointer (some ⟨w.heap.size + 2, 0, none⟩)]) ∧
      w' = ((w.alloc (.cells #[.string s] 9)).alloc (.cells #[.string ⟨#[c]⟩] 9)).alloc (.cells #[.int .i64 0] 3) := by
  have c2 : ∀ w, Calls Tryz.prog 70 #[.string s, .string ⟨#[c]⟩, .int .i64 0] w fun e w' => e = .returned (.func (.func 86) #[] #[.pointer (some ⟨w.heap.size + 1, 0, none⟩), .pointer (some ⟨w.heap.size, 0, none⟩), .pointer (some ⟨w.heap.size + 2, 0, none⟩)]) ∧
      w' = ((w.alloc (.cells #[.string s] 9)).alloc (.cells #[.string ⟨#[c]⟩] 9)).alloc (.cells #[.int .i64 0] 3) := fun w => by
    go_enter Tryz.func70, Tryz.ntmps70
    go_wp2_with fail
    go_returns
    exact ⟨rfl, rfl⟩
  have C2 := Lib.hid c2
  clear c2
  go_enter Tryz.func43, Tryz.ntmps43
  go_wp2_with fail
  refine Calls.mono (C2.out _) ?_
  rintro e w1 ⟨rfl, rfl⟩
  go_wp2_with fail
  go_returns
  exact ⟨rfl, rfl⟩
end Go.Proofs.YthkngleegefgbaaGreatDoor

/- A list repeated: what is filled is copied behind itself (plain). -/
namespace Go.Proofs.YthkngleegefgbaaGreatDoor
set_option linter.unusedVariables false
set_option linter.unusedSimpArgs false
theorem rep_get {α : Type} (X : List α) : ∀ (n i : Nat), i < X.length * n → (List.replicate n X).flatten[i]? = X[i % X.length]?
  | 0, i, h => by simp at h
  | n + 1, i, h => by
    rw [List.replicate_succ, List.flatten_cons]
    by_cases hi : i < X.length
    · rw [List.getElem?_append_left hi, Nat.mod_eq_of_lt hi]
    · rw [List.getElem?_append_right (by omega), rep_get X n (i - X.length) (by rw [Nat.mul_succ] at h; omega)]
      rw [← Nat.mod_eq_sub_mod (by omega)]
theorem rep_len {α : Type} (X : List α) (n : Nat) : (List.replicate n X).flatten.length = X.length * n := by simp [Nat.mul_comm]
/-- A filled part that is as long as the list, some times, and a part of it laid behind. -/
theorem fill_step (X : List Value) (n p c : Nat) (F : List Value) (hF : F = (List.replicate n X).flatten) (cur : Array Value) (hs : cur.size = F.length) (hp : cur.toList.take p = F.take p) (hd : p % X.length = 0) (hc : c ≤ p) (hl : p + c ≤ F.length) :
    (cur.toList.take p ++ F.take c ++ cur.toList.drop (p + c)).toArray.size = F.length ∧ (cur.toList.take p ++ F.take c ++ cur.toList.drop (p + c)).toArray.toList.take (p + c) = F.take (p + c) := by
  have hcl : cur.toList.length = F.length := by simpa using hs
  have e2 : (F.take c).length = c := by rw [List.length_take]; omega
  refine ⟨by simp; omega, ?_⟩
  rw [hp]
  have e1 : (F.take p).length = p := by rw [List.length_take]; omega
  simp only []
  rw [List.take_left' (by rw [List.length_append, e1, e2])]
  apply List.ext_getElem?
  intro i
  by_cases h1 : i < p
  · rw [List.getElem?_append_left (by rw [e1]; exact h1), List.getElem?_take, if_pos h1, List.getElem?_take, if_pos (by omega)]
  · rw [List.getElem?_append_right (by rw [e1]; omega), e1, List.getElem?_take, List.getElem?_take]
    by_cases h2 : i < p + c
    · rw [if_pos (by omega), if_pos h2, hF]
      have hlen : F.length = X.length * n := by rw [hF]; exact rep_len X n
      rw [rep_get X n (i - p) (by omega), rep_get X n i (by omega)]
      congr 1
      have : i = (i - p) + p := by omega
      conv => rhs; rw [this]
      rw [Nat.add_mod, hd, Nat.add_zero, Nat.mod_mod]
    · rw [if_neg (by omega), if_neg h2]
end Go.Proofs.YthkngleegefgbaaGreatDoor

/- What the rows' lists of package-level variables give; one world for the witness, in which each lies as its initialiser lays it. Written by mkcard.py. -/
namespace Go.Proofs.YthkngleegefgbaaGreatDoor
open Go.ChangeShapes Go.WideShapes Go.ChangeAt Go.RowKit
set_option maxRecDepth 100000

theorem own : ownKnob Tryz.prog.godebug = none := by kernel_rfl
theorem lt_of_var {W : World} {n : String} {g : Nat} {cs : Array Value} (hg : Tryz.prog.globalNamed n = some g) (hv : W.var? Tryz.prog n = some cs) : g < W.heap.size := by
  unfold World.var? at hv
  simp only [hg, Option.bind_some] at hv
  rcases Nat.lt_or_ge g W.heap.size with h | h
  · exact h
  · rw [Array.getElem?_eq_none h] at hv
    cases hv
theorem g_math_bits_deBruijn32tab : Tryz.prog.globalNamed "math/bits.deBruijn32tab" = some 7 := by kernel_rfl
theorem ty_math_bits_deBruijn32tab : (Tryz.prog.globals[7]?).map (·.type) = some 161 := by kernel_rfl
theorem g_math_bits_deBruijn64tab : Tryz.prog.globalNamed "math/bits.deBruijn64tab" = some 8 := by kernel_rfl
theorem ty_math_bits_deBruijn64tab : (Tryz.prog.globals[8]?).map (·.type) = some 162 := by kernel_rfl
theorem g_internal_strconv_uint64pow10 : Tryz.prog.globalNamed "internal/strconv.uint64pow10" = some 2 := by kernel_rfl
theorem ty_internal_strconv_uint64pow10 : (Tryz.prog.globals[2]?).map (·.type) = some 142 := by kernel_rfl
theorem g_unicode_utf8_acceptRanges : Tryz.prog.globalNamed "unicode/utf8.acceptRanges" = some 6 := by kernel_rfl
theorem g_strconv_ErrRange : Tryz.prog.globalNamed "strconv.ErrRange" = some 4 := by kernel_rfl
theorem ty_strconv_ErrRange : (Tryz.prog.globals[4]?).map (·.type) = some 85 := by kernel_rfl
theorem g_strconv_ErrSyntax : Tryz.prog.globalNamed "strconv.ErrSyntax" = some 3 := by kernel_rfl
theorem ty_strconv_ErrSyntax : (Tryz.prog.globals[3]?).map (·.type) = some 85 := by kernel_rfl
theorem g_estray_answer_letters : Tryz.prog.globalNamed "estray/answer.letters" = some 0 := by kernel_rfl
theorem ty_estray_answer_letters : (Tryz.prog.globals[0]?).map (·.type) = some 133 := by kernel_rfl
theorem g_unicode_utf8_first : Tryz.prog.globalNamed "unicode/utf8.first" = some 5 := by kernel_rfl
theorem laid_out_b : laidOutB Tryz.prog = true := by kernel_rfl
theorem slices_full : ((List.range Tryz.prog.types.size).all fun t => match Tryz.prog.underlying t with | some (.slice e) => decide (0 < Tryz.prog.cellsOf e) | _ => true) = true := by kernel_rfl
theorem star : "*" ++ "errors.errorString" = "*errors.errorString" := by decide
theorem row_es (u : TypeId) (h : Tryz.prog.typeName? 3 u = some "*errors.errorString") : u = 158 :=
  typeName_ptr_named (nm := "errors.errorString") (by rw [star]; kernel_rfl) (by kernel_rfl) (by decide) u (by rw [star]; exact h)
theorem cells_es : Tryz.prog.cellsOf 160 = 1 := by kernel_rfl
theorem cells_str : Tryz.prog.cellsOf 9 = 1 := by kernel_rfl
theorem env_0 {W : World} (h : laidMetH Tryz.prog [("math/bits.deBruijn32tab", Rows.laid_math_bits_deBruijn32tab), ("math/bits.deBruijn64tab", Rows.laid_math_bits_deBruijn64tab), ("internal/strconv.uint64pow10", Rows.laid_internal_strconv_uint64pow10), ("unicode/utf8.acceptRanges", Rows.laid_unicode_utf8_acceptRanges), ("strconv.ErrRange", Rows.laid_strconv_ErrRange), ("strconv.ErrSyntax", Rows.laid_strconv_ErrSyntax), ("estray/answer.letters", Rows.laid_estray_answer_letters), ("unicode/utf8.first", Rows.laid_unicode_utf8_first)] W) (hs : W.ShapedOpen Tryz.prog) : EnvL W := by
  have v_internal_strconv_uint64pow10 : Lib.TabIs Tryz.prog W "internal/strconv.uint64pow10" .u64 Lib.pow10Tab := Lib.tabIs_of_head g_internal_strconv_uint64pow10 ty_internal_strconv_uint64pow10 Tryz.underlying142 Tryz.underlying104 (by kernel_rfl) (by kernel_rfl) h.tail.tail
  obtain ⟨a_strconv_ErrSyntax, s_strconv_ErrSyntax, v_strconv_ErrSyntax, -, -, -⟩ := laid_sentinel h.tail.tail.tail.tail.tail g_strconv_ErrSyntax ty_strconv_ErrSyntax Tryz.underlying85 row_es Tryz.underlying158 Tryz.underlying160 rfl rfl Tryz.underlying9 cells_es cells_str
  obtain ⟨a_strconv_ErrRange, s_strconv_ErrRange, v_strconv_ErrRange, -, -, -⟩ := laid_sentinel h.tail.tail.tail.tail g_strconv_ErrRange ty_strconv_ErrRange Tryz.underlying85 row_es Tryz.underlying158 Tryz.underlying160 rfl rfl Tryz.underlying9 cells_es cells_str
  have v_estray_answer_letters : Lib.TabIs Tryz.prog W "estray/answer.letters" .u8 [0, 111, 108, 102] := Lib.tabIs_of_head g_estray_answer_letters ty_estray_answer_letters Tryz.underlying133 Tryz.underlying5 (by kernel_rfl) (by kernel_rfl) h.tail.tail.tail.tail.tail.tail
  exact ⟨⟨⟨⟨_, lt_of_var g_internal_strconv_uint64pow10 v_internal_strconv_uint64pow10, g_internal_strconv_uint64pow10, v_internal_strconv_uint64pow10⟩, hs⟩, ⟨_, _, _, lt_of_var g_strconv_ErrSyntax v_strconv_ErrSyntax, g_strconv_ErrSyntax, v_strconv_ErrSyntax⟩, ⟨_, _, _, lt_of_var g_strconv_ErrRange v_strconv_ErrRange, g_strconv_ErrRange, v_strconv_ErrRange⟩⟩, ⟨_, lt_of_var g_estray_answer_letters v_estray_answer_letters, g_estray_answer_letters, v_estray_answer_letters⟩⟩
noncomputable def low : Nat := (World.holding Tryz.prog default ⟨#[], #[], []⟩).heap.size
noncomputable def laidWorld (os : Os) : World :=
  let w0 := World.holding Tryz.prog os ⟨#[.cells #[.string ⟨#[118, 97, 108, 117, 101, 32, 111, 117, 116, 32, 111, 102, 32, 114, 97, 110, 103, 101]⟩] 160, .cells #[.string ⟨#[105, 110, 118, 97, 108, 105, 100, 32, 115, 121, 110, 116, 97, 120]⟩] 160], #[], []⟩
  { w0 with heap := ((((((((w0.heap.modify 7 fun
      | .cells _ t frozen => .cells #[.int .u8 0, .int .u8 1, .int .u8 28, .int .u8 2, .int .u8 29, .int .u8 14, .int .u8 24, .int .u8 3, .int .u8 30, .int .u8 22, .int .u8 20, .int .u8 15, .int .u8 25, .int .u8 17, .int .u8 4, .int .u8 8, .int .u8 31, .int .u8 27, .int .u8 13, .int .u8 23, .int .u8 21, .int .u8 19, .int .u8 16, .int .u8 7, .int .u8 26, .int .u8 12, .int .u8 18, .int .u8 6, .int .u8 11, .int .u8 5, .int .u8 10, .int .u8 9] t frozen
      | o => o).modify 8 fun
      | .cells _ t frozen => .cells #[.int .u8 0, .int .u8 1, .int .u8 56, .int .u8 2, .int .u8 57, .int .u8 49, .int .u8 28, .int .u8 3, .int .u8 61, .int .u8 58, .int .u8 42, .int .u8 50, .int .u8 38, .int .u8 29, .int .u8 17, .int .u8 4, .int .u8 62, .int .u8 47, .int .u8 59, .int .u8 36, .int .u8 45, .int .u8 43, .int .u8 51, .int .u8 22, .int .u8 53, .int .u8 39, .int .u8 33, .int .u8 30, .int .u8 24, .int .u8 18, .int .u8 12, .int .u8 5, .int .u8 63, .int .u8 55, .int .u8 48, .int .u8 27, .int .u8 60, .int .u8 41, .int .u8 37, .int .u8 16, .int .u8 46, .int .u8 35, .int .u8 44, .int .u8 21, .int .u8 52, .int .u8 32, .int .u8 23, .int .u8 11, .int .u8 54, .int .u8 26, .int .u8 40, .int .u8 15, .int .u8 34, .int .u8 20, .int .u8 31, .int .u8 10, .int .u8 25, .int .u8 14, .int .u8 19, .int .u8 9, .int .u8 13, .int .u8 8, .int .u8 7, .int .u8 6] t frozen
      | o => o).modify 2 fun
      | .cells _ t frozen => .cells #[.int .u64 1, .int .u64 10, .int .u64 100, .int .u64 1000, .int .u64 10000, .int .u64 100000, .int .u64 1000000, .int .u64 10000000, .int .u64 100000000, .int .u64 1000000000, .int .u64 10000000000, .int .u64 100000000000, .int .u64 1000000000000, .int .u64 10000000000000, .int .u64 100000000000000, .int .u64 1000000000000000, .int .u64 10000000000000000, .int .u64 100000000000000000, .int .u64 1000000000000000000, .int .u64 10000000000000000000] t frozen
      | o => o).modify 6 fun
      | .cells _ t frozen => .cells #[.int .u8 128, .int .u8 191, .int .u8 160, .int .u8 191, .int .u8 128, .int .u8 159, .int .u8 144, .int .u8 191, .int .u8 128, .int .u8 143, .int .u8 0, .int .u8 0, .int .u8 0, .int .u8 0, .int .u8 0, .int .u8 0, .int .u8 0, .int .u8 0, .int .u8 0, .int .u8 0, .int .u8 0, .int .u8 0, .int .u8 0, .int .u8 0, .int .u8 0, .int .u8 0, .int .u8 0, .int .u8 0, .int .u8 0, .int .u8 0, .int .u8 0, .int .u8 0] t frozen
      | o => o).modify 4 fun
      | .cells _ t frozen => .cells #[.iface 158 (.pointer (some ⟨low + 0, 0, none⟩))] t frozen
      | o => o).modify 3 fun
      | .cells _ t frozen => .cells #[.iface 158 (.pointer (some ⟨low + 1, 0, none⟩))] t frozen
      | o => o).modify 0 fun
      | .cells _ t frozen => .cells #[.int .u8 0, .int .u8 111, .int .u8 108, .int .u8 102] t frozen
      | o => o).modify 5 fun
      | .cells _ t frozen => .cells (Go.Pinned.utf8FirstZ.map fun (n : Nat) => Value.int .u8 (n : Int)).toArray t frozen
      | o => o) }
end Go.Proofs.YthkngleegefgbaaGreatDoor

/- Arguments opened, whatever their types: numbers, bools, strings, structs and arrays of these; and every argument's reading kept over a call that turns no old memory. No program in sight. -/
namespace Go.Proofs.YthkngleegefgbaaGreatDoor
open Go.ChangeShapes Go.WideShapes Go.RowKit

section
variable {H : Type} {enc : TypeId × Value → H} {P : Program}

theorem kept_arg (hl : laidOutB P = true) (hz : ((List.range P.types.size).all fun t => match P.underlying t with | some (.slice e) => decide (0 < P.cellsOf e) | _ => true) = true)
    {t : TypeId} (hT : InBook P t t) (hr : P.readableRec t = true) {w w' : World} {v : Value} {d : DataW H} {p : List MemPlace}
    (h : DataW.Trod enc P w 0 (fun _ => true) true t v d p) (hb : Below w.heap.size w w') : DataW.Trod enc P w' 0 (fun b => decide (b < w.heap.size)) true t v d p := by
  obtain ⟨n, hn⟩ := h
  have hlt := DataW.trod_lt n _ _ _ hn
  have hc := DataW.trod_carry (w' := w') n _ _ _ hn (fun q hq => by
    have hq' := hlt q hq
    cases q with
    | cell b off => exact hb.cell (p := ⟨b, off, none⟩) hq'
    | map b => exact hb.block b hq')
  exact DataW.Trod.respare (T := InBook P t) (kids_book hl hr) (fun a e ha => slices_full_of P hz a e ha.1) hT ⟨n, hc⟩ (fun q hq => by simpa using hlt q hq)

inductive Leaf
  | int (k : IntKind) | bool | str
def Leaf.ok : Leaf → Value → Prop
  | .int k, v => ∃ n, v = .int k n ∧ (Lit.int k n).wf = true
  | .bool, v => ∃ b, v = .bool b
  | .str, v => ∃ s : ByteArray, v = .string s ∧ s.size ≤ maxLen
def OkL : List Leaf → List Value → Prop
  | [], [] => True
  | l :: ls, v :: vs => l.ok v ∧ OkL ls vs
  | _, _ => False
theorem OkL_nil {l : List Value} (h : OkL [] l) : l = [] := by
  cases l with
  | nil => rfl
  | cons a r => exact h.elim
theorem OkL_cons {x : Leaf} {ls : List Leaf} {l : List Value} (h : OkL (x :: ls) l) : ∃ v r, l = v :: r ∧ x.ok v ∧ OkL ls r := by
  cases l with
  | nil => exact h.elim
  | cons v r => exact ⟨v, r, rfl, h.1, h.2⟩
theorem OkL_append : ∀ {a : List Leaf} {xs : List Value} {b : List Leaf} {ys : List Value}, OkL a xs → OkL b ys → OkL (a ++ b) (xs ++ ys)
  | [], [], _, _, _, h => h
  | _ :: _, _ :: _, _, _, h1, h2 => ⟨h1.1, OkL_append h1.2 h2⟩
  | [], _ :: _, _, _, h, _ => h.elim
  | _ :: _, [], _, _, h, _ => h.elim
theorem OkL_length : ∀ {a : List Leaf} {xs : List Value}, OkL a xs → xs.length = a.length
  | [], [], _ => rfl
  | _ :: _, _ :: _, h => by simp [OkL_length h.2]
  | [], _ :: _, h => h.elim
  | _ :: _, [], h => h.elim

def fieldsL (g : TypeId → Option (List Leaf)) (size : TypeId → Nat) (tot : Nat) : Nat → List Field → Option (List Leaf)
  | off, [] => if off = tot then some [] else none
  | off, f :: fs => match g f.type with
    | some ls => if f.offset = off ∧ size f.type = ls.length then (fieldsL g size tot (off + ls.length) fs).map (ls ++ ·) else none
    | none => none
def leaves (P : Program) : Nat → TypeId → Option (List Leaf)
  | 0, _ => none
  | n + 1, t => match P.underlying t with
    | some (.int k) => some [.int k]
    | some .bool => some [.bool]
    | some .string => some [.str]
    | some (.array m e) => match leaves P n e with
      | some ls => if P.cellsOf e = ls.length ∧ P.cellsOf t = m * ls.length then some (List.replicate m ls).flatten else none
      | none => none
    | some (.struct fs) => fieldsL (leaves P n) P.cellsOf (P.cellsOf t) 0 fs.toList
    | _ => none

variable {w : World} {base : Nat} {spare : Nat → Bool} {held : Bool}

theorem fieldsL_ok {g : TypeId → Option (List Leaf)} {size : TypeId → Nat} {tot : Nat} {cs : List Value} (hlen : cs.length = tot) {Tr : TypeId → List Value → Prop} (hg : ∀ t ls cs, g t = some ls → Tr t cs → OkL ls cs) :
    ∀ (fs : List Field) (off : Nat) (ls : List Leaf), fieldsL g size tot off fs = some ls → (∀ f ∈ fs, Tr f.type ((cs.drop f.offset).take (size f.type))) → OkL ls (cs.drop off)
  | [], off, ls, h, _ => by
    simp only [fieldsL] at h
    split at h
    · rename_i e
      injection h with h
      rw [← h, e, ← hlen, List.drop_length]
      trivial
    · cases h
  | f :: fs, off, ls, h, hf => by
    simp only [fieldsL] at h
    split at h
    · rename_i l1 hl1
      split at h
      · rename_i e
        obtain ⟨r, hr, hls⟩ := Option.map_eq_some_iff.1 h
        have h1 := hg _ _ _ hl1 (hf f (List.mem_cons_self ..))
        have h2 := fieldsL_ok hlen hg fs _ _ hr (fun x hx => hf x (List.mem_cons_of_mem _ hx))
        rw [e.1, e.2] at h1
        rw [← hls, ← List.take_append_drop l1.length (cs.drop off), List.drop_drop]
        exact OkL_append h1 h2
      · cases h
    · cases h
theorem array_ok {ls : List Leaf} : ∀ (m : Nat) (cs : List Value), cs.length = m * ls.length → (∀ i, i < m → OkL ls ((cs.drop (i * ls.length)).take ls.length)) → OkL (List.replicate m ls).flatten cs
  | 0, cs, hl, _ => by
    have : cs = [] := List.eq_nil_of_length_eq_zero (by simpa using hl)
    subst this
    trivial
  | m + 1, cs, hl, h => by
    rw [List.replicate_succ, List.flatten_cons, ← List.take_append_drop ls.length cs]
    refine OkL_append (by simpa using h 0 (Nat.succ_pos _)) (array_ok m _ (by rw [List.length_drop, hl, Nat.succ_mul]; omega) (fun i hi => ?_))
    have := h (i + 1) (by omega)
    rw [Nat.succ_mul, Nat.add_comm] at this
    rw [List.drop_drop]
    exact this
theorem leaves_ok : ∀ (n : Nat) (t : TypeId) (ls : List Leaf) (cs : List Value) (fuel : Nat) (x : DataW H × List MemPlace), leaves P n t = some ls → DataW.trod enc P w base spare held fuel t cs = some x → OkL ls cs
  | 0, _, _, _, _, _, h, _ => by simp [leaves] at h
  | n + 1, t, ls, cs, fuel, x, h, hx => by
    simp only [leaves] at h
    split at h
    · rename_i k hu
      injection h with h; subst h
      obtain ⟨m, rfl, _, hw⟩ := DataW.trod_int hu hx
      exact ⟨⟨m, rfl, hw⟩, trivial⟩
    · rename_i hu
      injection h with h; subst h
      obtain ⟨b, rfl, _⟩ := DataW.trod_bool hu hx
      exact ⟨⟨b, rfl⟩, trivial⟩
    · rename_i hu
      injection h with h; subst h
      obtain ⟨s, rfl, _, hs⟩ := DataW.trod_string hu hx
      exact ⟨⟨s, rfl, hs⟩, trivial⟩
    · rename_i m e hu
      split at h
      · rename_i l1 hl1
        split at h
        · rename_i hc
          injection h with h; subst h
          obtain ⟨xs, k, _, _, hlen, hxl, hi⟩ := DataW.trod_array hu hx
          refine array_ok m cs (by rw [hlen, hc.2]) (fun i him => ?_)
          have h1 := hi i him
          rw [List.getElem?_eq_getElem (by omega), hc.1] at h1
          exact leaves_ok n _ _ _ _ _ hl1 h1
        · cases h
      · cases h
    · rename_i fs hu
      obtain ⟨xs, k, _, _, hlen, hxl, hi⟩ := DataW.trod_struct hu hx
      have := fieldsL_ok (Tr := fun t cs => ∃ x, DataW.trod enc P w base spare held k t cs = some x) hlen (fun t l c hl ⟨y, hy⟩ => leaves_ok n _ _ _ _ _ hl hy) fs.toList 0 ls h (fun f hf => by
        obtain ⟨i, hi', hfi⟩ := List.getElem_of_mem hf
        have hil : i < fs.size := by simpa using hi'
        have h1 := hi i f (by rw [Array.getElem?_eq_getElem hil]; exact congrArg some (by simpa using hfi))
        rw [List.getElem?_eq_getElem (by omega)] at h1
        exact ⟨_, h1⟩)
      simpa using this
    · cases h
theorem okWide_array {r : Reach} {b0 : Nat} {t e : TypeId} {n : Nat} {v : Value} (ht : P.underlying t = some (.array n e)) (h : Value.okWide P w r b0 t v) : ∃ cs, v = .agg cs := by
  simp only [Value.okWide, ht] at h
  obtain ⟨cs, h1, _⟩ := h
  exact ⟨cs, h1⟩
theorem open_agg {r : Reach} {b0 : Nat} {t : TypeId} {fs : Array Field} {v : Value} {d : DataW H} {p : List MemPlace} {ls : List Leaf} (n : Nat) (hs : P.underlying t = some (.struct fs)) (hl : leaves P n t = some ls)
    (hv : Value.okWide P w r b0 t v) (h : DataW.Trod enc P w base spare held t v d p) : ∃ l : List Value, v = .agg l.toArray ∧ OkL ls l := by
  obtain ⟨cs, rfl, _⟩ := okWide_struct hs hv
  obtain ⟨fuel, hf⟩ := h
  exact ⟨cs.toList, rfl, leaves_ok n t ls _ fuel _ hl hf⟩
theorem open_arr {r : Reach} {b0 : Nat} {t e : TypeId} {m : Nat} {v : Value} {d : DataW H} {p : List MemPlace} {ls : List Leaf} (n : Nat) (hs : P.underlying t = some (.array m e)) (hl : leaves P n t = some ls)
    (hv : Value.okWide P w r b0 t v) (h : DataW.Trod enc P w base spare held t v d p) : ∃ l : List Value, v = .agg l.toArray ∧ OkL ls l := by
  obtain ⟨cs, rfl⟩ := okWide_array hs hv
  obtain ⟨fuel, hf⟩ := h
  exact ⟨cs.toList, rfl, leaves_ok n t ls _ fuel _ hl hf⟩
end
end Go.Proofs.YthkngleegefgbaaGreatDoor

/- Slices among the arguments, opened. No program in sight. -/
namespace Go.Proofs.YthkngleegefgbaaGreatDoor
open Go.ChangeShapes Go.WideShapes Go.RowKit
section
variable {H : Type} {enc : TypeId × Value → H} {P : Program} {w : World} {base : Nat} {spare : Nat → Bool} {held : Bool}
/-- A slice of numbers, bools, strings, or structs and arrays of these. -/
structure Sl (w : World) (v : Value) (ls : List Leaf) (n : Nat) (E : Nat → List Value) : Prop where
  ex : ∃ p cap, v = .slice p n cap ∧ n ≤ cap ∧ cap ≤ maxLen ∧ (n = 0 ∨ ∃ b off, p = some ⟨b, off, none⟩ ∧ b < w.heap.size ∧ ∀ i, i < n → ∀ j, j < ls.length → w.cell? ⟨b, off + i * ls.length + j, none⟩ = (E i)[j]?)
  ok : ∀ i, i < n → OkL ls (E i)
theorem open_sl {t e : TypeId} {v : Value} {d : DataW H} {p : List MemPlace} {ls : List Leaf} (n : Nat) (ht : P.underlying t = some (.slice e)) (hl : leaves P n e = some ls) (hk : P.cellsOf e = ls.length) (h0 : 0 < ls.length) {r : Reach} {b0 : Nat} (hval : Value.okWide P w r b0 t v)
    (h : DataW.Trod enc P w base spare held t v d p) : ∃ m E, Sl w v ls m E := by
  obtain ⟨p0, len0, cap0, rfl⟩ := okWide_slice ht hval
  obtain ⟨fuel, hf⟩ := h
  rcases Go.Deep.open_slice ht hf with ⟨hv, _⟩ | ⟨a, len, cap, m, n', D, Pl, hv, hb, hlc, hcm, hm, _, hx⟩
  · replace hv : Value.slice p0 len0 cap0 = _ := (List.cons.inj hv).1
    exact ⟨0, fun _ => [], ⟨none, 0, hv, Nat.le_refl _, by unfold maxLen; omega, .inl rfl⟩, fun i hi => absurd hi (Nat.not_lt_zero _)⟩
  · replace hv : Value.slice p0 len0 cap0 = _ := (List.cons.inj hv).1
    have hlm : len ≤ m := by rw [hm]; split <;> omega
    have each : ∀ i, i < len → ∃ l : List Value, OkL ls l ∧ ∀ j, j < ls.length → w.cell? ((a.add (i * ls.length)).add j) = l[j]? := fun i hi => by
      obtain ⟨cs', h1, h2⟩ := hx i (by omega)
      rw [hk] at h1
      obtain ⟨_, hlen, hcell⟩ := World.cells?_some h1
      exact ⟨cs', leaves_ok n e ls cs' _ _ hl h2, hcell⟩
    classical
    refine ⟨len, fun i => if hi : i < len then Classical.choose (each i hi) else [], ⟨some a, cap, hv, hlc, hcm, ?_⟩, fun i hi => ?_⟩
    · by_cases hz : len = 0
      · exact .inl hz
      · refine .inr ?_
        have hpos : 0 < len := Nat.pos_of_ne_zero hz
        obtain ⟨l0, ok0, hc0⟩ := each 0 hpos
        have hs0 := hc0 0 h0
        have hlen0 := OkL_length ok0
        have ha : a.spot = none ∧ a.block < w.heap.size := by
          rw [Nat.zero_mul] at hs0
          have e0 : (a.add 0).add 0 = a := by simp [Addr.add]
          rw [e0, List.getElem?_eq_getElem (by omega)] at hs0
          unfold World.cell? at hs0
          split at hs0
          · rename_i c _ _ hblk
            refine ⟨?_, (Array.getElem?_eq_some_iff.1 hblk).1⟩
            cases hsp : a.spot with
            | none => rfl
            | some x => rw [hsp] at hs0; simp at hs0
          · cases hs0
        obtain ⟨b, off, sp⟩ := a
        obtain ⟨rfl, hblk⟩ := ha
        refine ⟨b, off, rfl, hblk, fun i hi j hj => ?_⟩
        have := (Classical.choose_spec (each i hi)).2 j hj
        rw [Go.Deep.add_add] at this
        simp only [dif_pos hi]
        rw [← this]
        unfold Addr.add
        by_cases hij : i * ls.length + j = 0
        · rw [if_pos hij, Nat.add_assoc, hij, Nat.add_zero]
        · rw [if_neg hij, Nat.add_assoc]
    · simp only [dif_pos hi]
      exact (Classical.choose_spec (each i hi)).1
end
end Go.Proofs.YthkngleegefgbaaGreatDoor

/- The contract of the references' Digits: the decimal numeral. -/
namespace Go.Proofs.YthkngleegefgbaaGreatDoor
open Go.RowKit
open Go.Lib (decDigits)

theorem digits_small {n : Int} (h0 : 0 ≤ n) (h : n < 10) : digits n.toNat = ⟨#[UInt8.ofNat (48 + n).toNat]⟩ := by
  unfold digits
  rw [decDigits_step, if_pos (by omega), show (48 + n).toNat = 48 + n.toNat by omega]
theorem digits_app {n : Int} (h : 10 ≤ n) : digits n.toNat = digits (n / 10).toNat ++ ⟨#[UInt8.ofNat (48 + n % 10).toNat]⟩ := by
  rw [show (48 + n % 10).toNat = 48 + (n % 10).toNat by omega]
  apply str_ext
  have e1 : (n / 10).toNat = n.toNat / 10 := by omega
  have e2 : (n % 10).toNat = n.toNat % 10 := by omega
  rw [e1, e2, digits_list, decDigits_step, if_neg (by omega)]
  simp [digits]

/-- A slice of one byte, made into a string. -/
theorem conv_one (b : Int) (h0 : 0 ≤ b) (h1 : b ≤ 255) (a : Addr) (W : World) (hc : W.cell? a = some (.int .u8 b)) :
    (convert 81 9 (.slice (some a) 1 1)).run Tryz.prog W = .ok (.string ⟨#[UInt8.ofNat b.toNat]⟩) W := by
  have h := run_convert_bytes_back (P := Tryz.prog) W 81 9 5 a 1 [UInt8.ofNat b.toNat] Tryz.underlying81 Tryz.underlying5 Tryz.underlying9 (fun j hj => by
    have hj0 : j = 0 := by simpa using hj
    subst hj0
    rw [show a.add 0 = a from rfl, hc]
    have e : (UInt8.ofNat b.toNat).toNat = b.toNat := by rw [UInt8.toNat_ofNat']; omega
    simp only [List.getElem_cons_zero, e]
    rw [Int.toNat_of_nonneg h0])
  exact h

end Go.Proofs.YthkngleegefgbaaGreatDoor

/- The reference's digits (chapter 39). -/
namespace Go.Proofs.YthkngleegefgbaaGreatDoor
open Go.RowKit
set_option linter.unusedVariables false
set_option linter.unusedSimpArgs false
set_option maxHeartbeats 1000000 in
theorem odig_any (k : Nat) : ∀ (n : Int) (w : World), n ≤ k → 0 ≤ n → n ≤ 9223372036854775807 →
    Ret 29 #[.int .i64 n] w (.string (digits n.toNat)) := by
  induction k with
  | zero =>
    intro n w hk h0 h1
    obtain rfl : n = 0 := by omega
    have hc := conv_one 48 (by omega) (by omega)
    have hd : digits (0 : Int).toNat = ⟨#[48]⟩ := digits_small (n := 0) (by omega) (by omega)
    rw [hd]
    clear hd
    go_enter Tryz.func29, Tryz.ntmps29
    go_wp2_with fail
    go_returns
    exact ⟨rfl, by go_grown⟩
  | succ k ih =>
    intro n w hk h0 h1
    have IH := Lib.hid ih
    clear ih
    by_cases h : n < 10
    · have hc := conv_one (48 + n) (by omega) (by omega)
      have hd := digits_small h0 h
      rw [hd]
      clear hd
      go_enter Tryz.func29, Tryz.ntmps29
      go_wp2_with fail
      go_returns
      exact ⟨rfl, by go_grown⟩
    · have hd := digits_app (n := n) (by omega)
      have hrun : ∀ W, (Op.stringOp .add (digits (n / 10).toNat) ⟨#[UInt8.ofNat (48 + n % 10).toNat]⟩).run Tryz.prog W = .ok (.string (digits n.toNat)) W := fun W => by
        rw [hd]
        have h1 := digits_size_le (n / 10).toNat (by omega)
        exact run_string_add_sum W _ _ (by rw [show (ByteArray.mk #[UInt8.ofNat (48 + n % 10).toNat]).size = 1 from rfl]; omega)
      have hc := conv_one (48 + n % 10) (by omega) (by omega)
      have q0 : n.tdiv 10 = n / 10 := Int.tdiv_eq_ediv_of_nonneg h0
      have q1 : IntKind.i64.wrap (n / 10) = n / 10 := IntWalk.i64_in _ ⟨by omega, by omega⟩
      have q2 : n.tmod 10 = n % 10 := Int.tmod_eq_emod_of_nonneg h0
      have q3 : IntKind.i64.wrap (48 + n % 10) = 48 + n % 10 := IntWalk.i64_in _ ⟨by omega, by omega⟩
      have q4 : IntKind.u8.wrap (48 + n % 10) = 48 + n % 10 := by rw [IntKind.wrap_u8]; omega
      have r1 : n / 10 ≤ k := by omega
      have r2 : 0 ≤ n / 10 := by omega
      have r3 : n / 10 ≤ 9223372036854775807 := by omega
      clear hd hk
      go_enter Tryz.func29, Tryz.ntmps29
      go_wp2_with fail
      go_region_with (first | (go_at_call 29; refine ((IH.out) _ _ ?_ ?_ ?_).mono ?_; exact r1; exact r2; exact r3; rintro e w' ⟨rfl, hb⟩; try have hc1 := keep_new_drew hb))
      all_goals
        go_wp2
        go_returns
        refine ⟨rfl, ?_⟩
        first
          | exact off_alloc (off_drew hb)
          | exact (off_drew hb).alloc (off_drew hb).size _
def numB2 (n : Int) : ByteArray := ⟨(numL n).toArray⟩
theorem odig_c (n : Int) (w : World) (h0 : -9000000000000000000 ≤ n) (h1 : n ≤ 9223372036854775807) : Ret 29 #[.int .i64 n] w (.string (numB2 n)) := by
  by_cases hn : n < 0
  · have c := odig_any (-n).toNat (-n)
    have hw : IntKind.i64.wrap (-n) = -n := IntWalk.i64_in _ ⟨by omega, by omega⟩
    have hd : numB2 n = ⟨#[45]⟩ ++ digits (-n).toNat := by
      apply str_ext
      unfold numB2 numL
      rw [if_pos hn, show n.natAbs = (-n).toNat by omega]
      simp [digits]
    have hadd : ∀ W, (Op.stringOp .add ⟨#[45]⟩ (digits (-n).toNat)).run Tryz.prog W = .ok (.string (numB2 n)) W := add_run hd.symm (by have := digits_size_le (-n).toNat (by omega); show 1 + _ ≤ _; omega)
    have C := Lib.hid c
    clear c hd
    go_enter Tryz.func29, Tryz.ntmps29
    go_wp2_with fail
    refine Calls.mono (C.out _ (by omega) (by omega) (by omega)) ?_
    rintro e w1 ⟨rfl, hb⟩
    go_wp2_with fail
    go_returns
    exact ⟨rfl, hb⟩
  · have hd : numB2 n = digits n.toNat := by
      apply str_ext
      unfold numB2 numL
      rw [if_neg hn, show n.natAbs = n.toNat by omega]
      simp [digits]
    rw [hd]
    exact odig_any n.toNat n w (by omega) (by omega) h1
end Go.Proofs.YthkngleegefgbaaGreatDoor
