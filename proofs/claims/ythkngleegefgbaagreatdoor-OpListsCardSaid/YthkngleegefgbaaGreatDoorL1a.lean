/- How the text of an operation is read, letter by letter (plain). -/
import Derived.Test.YthkngleegefgbaaGreatDoorL0a
import Derived.Test.YthkngleegefgbaaGreatDoorHOp1
import Derived.Test.YthkngleegefgbaaGreatDoorHRune
import Derived.Laws.AppendOwn
import Derived.Test.YthkngleegefgbaaGreatDoorL0b
namespace Go.Proofs.YthkngleegefgbaaGreatDoor
open Go.Lib (decDigits)
set_option linter.unusedVariables false
set_option linter.unusedSimpArgs false
/-- The fields of an operation, beside its kind. -/
structure Fl where
  m : Int
  a : Int
  b : Int
  c : Int
  tag : ByteArray
theorem Fl.eq_of {x y : Fl} (h1 : x.m = y.m) (h2 : x.a = y.a) (h3 : x.b = y.b) (h4 : x.c = y.c) (h5 : x.tag = y.tag) : x = y := by
  obtain ⟨a, b, c, d, e⟩ := x
  obtain ⟨a', b', c', d', e'⟩ := y
  simp only at h1 h2 h3 h4 h5
  rw [h1, h2, h3, h4, h5]
def fl0 : Fl := ⟨0, 0, 0, 0, ⟨#[]⟩⟩
/-- Which field a part stands in. -/
def fOf (ch : UInt8) : Nat := if ch = 109 then 1 else if ch = 110 ∨ ch = 114 ∨ ch = 82 ∨ ch = 100 ∨ ch = 115 ∨ ch = 84 ∨ ch = 107 then 2 else if ch = 105 ∨ ch = 103 ∨ ch = 116 ∨ ch = 98 then 3 else if ch = 118 then 4 else 5
def put (ch : UInt8) (x y : Fl) : Fl := if fOf ch = 1 then { y with m := x.m } else if fOf ch = 2 then { y with a := x.a } else if fOf ch = 3 then { y with b := x.b } else if fOf ch = 4 then { y with c := x.c } else { y with tag := x.tag }
/-- The text of a part. -/
def txt (ch : UInt8) (x : Fl) : List UInt8 := if ch = 107 then [letterB x.a] else if ch = 113 then quoteL x.tag.data.toList else if fOf ch = 1 then numL x.m else if fOf ch = 2 then numL x.a else if fOf ch = 3 then numL x.b else if fOf ch = 4 then numL x.c else x.tag.data.toList
def lettersL : List UInt8 := [109, 110, 114, 82, 100, 115, 84, 107, 105, 103, 116, 98, 118, 113, 97]
abbrev Fl.ok (x : Fl) (kd : Int) : Prop := opOk kd x.m x.a x.b x.c x.tag.data.toList = true
theorem kinds_fin (p : Nat → Prop) (h : ∀ i : Fin 17, p i) {kd : Int} (hk : 1 ≤ kd ∧ kd ≤ 17) : p (kd - 1).toNat := h ⟨(kd - 1).toNat, by omega⟩
theorem partsK_eq {kd : Int} (hk : 1 ≤ kd ∧ kd ≤ 17) : partsK kd = partsLs.getD (kd - 1).toNat [] := by unfold partsK; rw [if_pos hk]
theorem parts_letters (kd : Int) : ∀ ch ∈ partsK kd, ch ∈ lettersL := by
  by_cases hk : 1 ≤ kd ∧ kd ≤ 17
  · rw [partsK_eq hk]
    exact kinds_fin (fun i => ∀ ch ∈ partsLs.getD i [], ch ∈ lettersL) (by decide) hk
  · unfold partsK; rw [if_neg hk]; simp
/-- No two parts of a kind stand in one field. -/
theorem parts_apart {kd : Int} (hk : 1 ≤ kd ∧ kd ≤ 17) : ((partsK kd).map fOf).Pairwise (· ≠ ·) := by
  rw [partsK_eq hk]
  exact kinds_fin (fun i => ((partsLs.getD i []).map fOf).Pairwise (· ≠ ·)) (by decide) hk
/-- A quoted tag stands last. -/
theorem parts_quote {kd : Int} (hk : 1 ≤ kd ∧ kd ≤ 17) : ∀ j < (partsK kd).length, (partsK kd)[j]? = some 113 → j + 1 = (partsK kd).length := by
  rw [partsK_eq hk]
  refine kinds_fin (fun i => ∀ j < (partsLs.getD i []).length, (partsLs.getD i [])[j]? = some 113 → j + 1 = (partsLs.getD i []).length) (by decide) hk
theorem parts_txt {kd : Int} (hk : 1 ≤ kd ∧ kd ≤ 17) (x : Fl) : partsL kd x.m x.a x.b x.c x.tag.data.toList = (partsK kd).map (txt · x) := by
  rcases kinds hk with rfl | rfl | rfl | rfl | rfl | rfl | rfl | rfl | rfl | rfl | rfl | rfl | rfl | rfl | rfl | rfl | rfl <;> rfl
/-- What is put together of the parts of a valid operation is that operation. -/
theorem parts_all {kd : Int} (x : Fl) (h : x.ok kd) : (partsK kd).foldl (fun y ch => put ch x y) fl0 = x := by
  obtain ⟨hk, hm, ha, hb, hc, ht⟩ := opOk_iff.1 h
  obtain ⟨m, a, b, c, tag⟩ := x
  have tz : kd ≠ 8 → kd ≠ 17 → tag = ⟨#[]⟩ := fun h8 h17 => by
    unfold tgOk at ht
    rw [if_neg h8, if_neg h17] at ht
    exact str_ext (by rw [List.isEmpty_iff.1 ht])
  rcases kinds hk with rfl | rfl | rfl | rfl | rfl | rfl | rfl | rfl | rfl | rfl | rfl | rfl | rfl | rfl | rfl | rfl | rfl <;>
    simp only [mHi, aLo, aHi, bLo, bHi, cLo, cHi, Int.reduceLE, Int.reduceEq, if_true, if_false, or_false, or_true, or_self, false_or, true_or, reduceIte] at hm ha hb hc <;>
    (refine Fl.eq_of ?_ ?_ ?_ ?_ ?_) <;>
    (first
      | rfl
      | (show (0 : Int) = _; dsimp only; omega)
      | (show (⟨#[]⟩ : ByteArray) = _; exact (tz (by decide) (by decide)).symm))
theorem put_txt {ch d : UInt8} (x y : Fl) (hd : d ∈ lettersL) (hc : ch ∈ lettersL) (hne : fOf d ≠ fOf ch) : txt d (put ch x y) = txt d y := by
  have key : ∀ d ∈ lettersL, ∀ ch ∈ lettersL, fOf d ≠ fOf ch → (d = 107 → fOf ch ≠ 2) ∧ (d = 113 → fOf ch ≤ 4) := by decide
  have := key d hd ch hc hne
  have rng : ∀ ch ∈ lettersL, 1 ≤ fOf ch ∧ fOf ch ≤ 5 := by decide
  have r1 := rng ch hc
  have r2 := rng d hd
  unfold txt put
  rcases (by omega : fOf ch = 1 ∨ fOf ch = 2 ∨ fOf ch = 3 ∨ fOf ch = 4 ∨ fOf ch = 5) with e | e | e | e | e <;> rw [e] at hne this <;> simp only [e, Nat.reduceEqDiff, if_true, if_false, reduceIte] <;>
    (by_cases h1 : d = 107
     · subst h1; revert this; simp
     · by_cases h2 : d = 113
       · subst h2; revert this; simp
       · rw [if_neg h1, if_neg h2]
         rcases (by omega : fOf d = 1 ∨ fOf d = 2 ∨ fOf d = 3 ∨ fOf d = 4 ∨ fOf d = 5) with q | q | q | q | q <;> rw [q] at hne ⊢ <;> first | exact absurd rfl hne | simp [h1, h2])
end Go.Proofs.YthkngleegefgbaaGreatDoor

/- The reference's small functions on operations. -/
namespace Go.Proofs.YthkngleegefgbaaGreatDoor
open Go.RowKit
set_option linter.unusedVariables false
set_option linter.unusedSimpArgs false
set_option maxHeartbeats 8000000
set_option maxRecDepth 20000
theorem rin_c (n a b : Int) (w : World) : Calls Tryz.prog 57 #[.int .i64 n, .int .i64 a, .int .i64 b] w fun e w' => e = .returned (.bool (inB n a b)) ∧ w' = w := by
  unfold inB
  by_cases h : a ≤ n
  · rw [decide_eq_true h]
    go_enter Tryz.func57, Tryz.ntmps57
    go_wp2_with fail
    go_returns
    exact ⟨rfl, rfl⟩
  · rw [decide_eq_false h]
    go_enter Tryz.func57, Tryz.ntmps57
    go_wp2_with fail
    go_returns
    exact ⟨rfl, rfl⟩
theorem rmut_c (n : Int) (w : World) : Calls Tryz.prog 14 #[.int .i64 n] w fun e w' => e = .returned (.bool (inB n 1 12)) ∧ w' = w := by
  unfold inB
  by_cases h : 1 ≤ n
  · rw [decide_eq_true h]
    go_enter Tryz.func14, Tryz.ntmps14
    go_wp2_with fail
    go_returns
    exact ⟨rfl, rfl⟩
  · rw [decide_eq_false h]
    go_enter Tryz.func14, Tryz.ntmps14
    go_wp2_with fail
    go_returns
    exact ⟨rfl, rfl⟩
theorem rroot_c (n : Int) (w : World) : Calls Tryz.prog 58 #[.int .i64 n] w fun e w' => e = .returned (.bool (inB n 0 31)) ∧ w' = w := by
  have C := Lib.hid rin_c
  go_enter Tryz.func58, Tryz.ntmps58
  go_wp2_with fail
  refine Calls.mono (C.out _ _ _ _) ?_
  rintro e w1 ⟨rfl, rfl⟩
  go_wp2_with fail
  go_returns
  exact ⟨rfl, rfl⟩
theorem rfield_c (n : Int) (w : World) : Calls Tryz.prog 59 #[.int .i64 n] w fun e w' => e = .returned (.bool (inB n 0 3)) ∧ w' = w := by
  have C := Lib.hid rin_c
  go_enter Tryz.func59, Tryz.ntmps59
  go_wp2_with fail
  refine Calls.mono (C.out _ _ _ _) ?_
  rintro e w1 ⟨rfl, rfl⟩
  go_wp2_with fail
  go_returns
  exact ⟨rfl, rfl⟩
theorem rglobal_c (n : Int) (w : World) : Calls Tryz.prog 60 #[.int .i64 n] w fun e w' => e = .returned (.bool (inB n 0 7)) ∧ w' = w := by
  have C := Lib.hid rin_c
  go_enter Tryz.func60, Tryz.ntmps60
  go_wp2_with fail
  refine Calls.mono (C.out _ _ _ _) ?_
  rintro e w1 ⟨rfl, rfl⟩
  go_wp2_with fail
  go_returns
  exact ⟨rfl, rfl⟩
theorem rdesc_c (n : Int) (w : World) : Calls Tryz.prog 61 #[.int .i64 n] w fun e w' => e = .returned (.bool (inB n 0 1999)) ∧ w' = w := by
  have C := Lib.hid rin_c
  go_enter Tryz.func61, Tryz.ntmps61
  go_wp2_with fail
  refine Calls.mono (C.out _ _ _ _) ?_
  rintro e w1 ⟨rfl, rfl⟩
  go_wp2_with fail
  go_returns
  exact ⟨rfl, rfl⟩
theorem rword_c (kd : Int) (w : World) : Ret 12 #[.int .i64 kd] w (.string (wordB kd)) := by
  by_cases h1 : kd < 1
  · rw [show wordB kd = ⟨#[]⟩ by unfold wordB wordL; rw [if_neg (by omega)]]
    go_enter Tryz.func12, Tryz.ntmps12
    go_wp2_with fail
    go_returns
    exact ⟨rfl, by go_grown⟩
  · by_cases h2 : 17 < kd
    · rw [show wordB kd = ⟨#[]⟩ by unfold wordB wordL; rw [if_neg (by omega)]]
      go_enter Tryz.func12, Tryz.ntmps12
      go_wp2_with fail
      go_returns
      exact ⟨rfl, by go_grown⟩
    · rcases kinds (by omega : 1 ≤ kd ∧ kd ≤ 17) with rfl | rfl | rfl | rfl | rfl | rfl | rfl | rfl | rfl | rfl | rfl | rfl | rfl | rfl | rfl | rfl | rfl
      all_goals
        clear h1 h2
        go_enter Tryz.func12, Tryz.ntmps12
        go_wp2_with fail
        go_returns
        exact ⟨rfl, by go_grown⟩
end Go.Proofs.YthkngleegefgbaaGreatDoor

/- The reference's Runes and Check (chapter 2): their contracts. -/
namespace Go.Proofs.YthkngleegefgbaaGreatDoor
open Go.RowKit
set_option linter.unusedVariables false
set_option linter.unusedSimpArgs false

theorem int_infoR : (Tryz.prog.info? 3).map (fun i => (i.zero, i.size, i.bytes)) = some (some (.int .i64 0), 1, 8) := by kernel_rfl
def cellsI (l : List Nat) : List Value := l.map fun (n : Nat) => Value.int .i64 (n : Int)
def OwnsI (base : Nat) (W : World) (v : Value) (l : List Nat) : Prop := W.ownsRow base 3 1 v l.length (cellsI l)
theorem OwnsI.on {b : Nat} {W W' : World} {v : Value} {l : List Nat} (h : OwnsI b W v l) (hb : Below W.heap.size W W') : OwnsI b W' v l := by
  refine ⟨h.1, ?_⟩
  rcases h.2 with h0 | ⟨g, cap, cur, h1, h2, h3, h4⟩
  · exact .inl h0
  · exact .inr ⟨g, cap, cur, h1, h2, (hb.block g (Array.getElem?_eq_some_iff.1 h3).1).trans h3, h4⟩
theorem OwnsI.len {b : Nat} {W : World} {v : Value} {l : List Nat} (h : OwnsI b W v l) : ∃ p c, v = .slice p l.length c := by
  rcases h.2 with ⟨rfl, h0⟩ | ⟨g, cap, cur, rfl, _⟩
  · exact ⟨none, 0, by rw [h0]⟩
  · exact ⟨_, _, rfl⟩
set_option maxHeartbeats 8000000 in
set_option maxRecDepth 100000 in
theorem runes_c (s : ByteArray) (w : World) (hs : s.size ≤ 1000000) : Calls Tryz.prog 80 #[.string s] w fun e w' =>
    Below w.heap.size w w' ∧ ((runesL s.data.toList = none ∧ e = .returned (.tuple #[.slice none 0 0, .bool false])) ∨ ∃ v rs, runesL s.data.toList = some rs ∧ e = .returned (.tuple #[v, .bool true]) ∧ OwnsI w.heap.size w' v rs) := by
  obtain ⟨i0, hi, hz0, hz1, hz2⟩ := info_parts int_infoR
  have HI0 := Lib.hid hi
  have HZ0 := Lib.hid hz0
  have HZ1 := Lib.hid hz1
  have HZ2 := Lib.hid hz2
  clear hi hz0 hz1 hz2
  go_enter Tryz.func80, Tryz.ntmps80
  go_wp2_with fail
  go_loopw [4, 5] (fun v iv wr => ∃ (pos : Nat) (acc : List Nat), iv = .int .i64 pos ∧ pos ≤ s.size ∧ acc.length ≤ pos ∧ runesL s.data.toList = (runesL (s.data.toList.drop pos)).map (acc ++ ·) ∧ OwnsI w.heap.size wr v acc ∧ Below w.heap.size w wr) (fun _ iv _ => s.size - (intOf iv).toNat)
  case atStart =>
    refine ⟨0, [], rfl, by omega, by simp, ?_, World.ownsRow_nil _ _ _ _, Below.refl _ _⟩
    rw [List.drop_zero]
    cases runesL s.data.toList <;> simp
  case round =>
    obtain ⟨pos, acc, rfl, hps, hal, hrs, hown, hB⟩ := hrel
    by_cases hp : pos < s.size
    · have hp2 : (pos : Int) < (s.size : Int) := by omega
      have hc := fun w => rune_c s pos w hs hp
      cases hr : rnAt s pos with
      | none =>
        rw [hr] at hc
        have hc' : ∀ w, Ret 95 #[.string s, .int .i64 pos] w (.tuple #[.int .i64 0, .int .i64 0]) := hc
        have HC := Lib.hid hc'
        clear hc'
        rw [runes_at_none hp hr] at hrs
        have HR := Lib.hid hrs
        have HB := Lib.hid hB
        have HO := Lib.hid hown
        clear hc hrs hB hown
        go_wp2_with fail
        refine Calls.mono (HC.out _) ?_
        rintro e w1 ⟨rfl, hb⟩
        go_wp2_with fail
        go_returns
        exact ⟨chain HB.out hb, .inl ⟨HR.out, rfl⟩⟩
      | some p =>
        obtain ⟨r, n⟩ := p
        rw [hr] at hc
        have hc' : ∀ w, Ret 95 #[.string s, .int .i64 pos] w (.tuple #[.int .i64 r, .int .i64 n]) := hc
        have HC := Lib.hid hc'
        clear hc'
        have hwd := rnAt_width hp hr
        rw [runes_at hp hr, Option.map_map] at hrs
        have HR := Lib.hid hrs
        have HB := Lib.hid hB
        have HO := Lib.hid hown
        have hn0 : ((n : Int) == 0) = false := by rw [beq_eq_false_iff_ne]; omega
        clear hc hrs hB hown
        go_wp2_with fail
        refine Calls.mono (HC.out _) ?_
        rintro e w1 ⟨rfl, hb⟩
        have hB := chain HB.out hb
        have hsz := hB.size
        have Q1 := Lib.hid ((HO.out.on hb).on (below_alloc w1 (.cells #[.int .i64 r] 3)))
        have hsrc : ∀ (j : Nat) (v : Value), ([.int .i64 (r : Int)] : List Value)[j]? = some v → (w1.alloc (.cells #[.int .i64 r] 3)).cell? ((⟨w1.heap.size, 0, none⟩ : Addr).add j) = some v := by
          intro j v hj
          match j, hj with
          | 0, hj => simp at hj; subst hj; simp [Addr.add]
        have HSRC := Lib.hid hsrc
        have HB2 := Lib.hid (hB.alloc hB.size (.cells #[.int .i64 r] 3))
        clear hB hb HO HB hsrc
        go_wp2_with (at_builtin; refine wpList_append_own _ rfl _ _ 94 rfl w.heap.size 3 i0 (.int .i64 0) 1 8 Tryz.underlying94 HI0.out HZ0.out HZ1.out HZ2.out rfl (by decide) _ _ _ rfl Q1.out ⟨w1.heap.size, 0, none⟩ 1 1 [.int .i64 (r : Int)] rfl rfl HSRC.out (by intro u hu; simp at hu; subst hu; rfl) (by unfold maxLen; omega) (by omega) (by simp; omega) ?_; intro v' w9 hown' hgrow hnil; have HOWN := Lib.hid hown'; have HGR := Lib.hid hgrow; clear hown' hgrow hnil)
        have hlo : ∀ k, _ = some k → w.heap.size ≤ k := fun k hk => (World.ownsRow.lt Q1.out k hk).1
        have hB6 : Below w.heap.size w w9 := HB2.out.grown HGR.out (by simp; omega) (fun k hk => hlo k hk)
        refine ⟨⟨pos + n, acc ++ [r], by go_num, by omega, by simp; omega, ?_, ?_, hB6⟩, by simp [intOf]; omega⟩
        · rw [HR.out]
          congr 1
          funext x
          simp
        · unfold OwnsI cellsI
          rw [List.map_append, List.length_append]
          exact HOWN.out
    · have hp2 : ¬ (pos : Int) < (s.size : Int) := by omega
      rw [List.drop_of_length_le (by rw [len_bytes]; omega), runesL_nil] at hrs
      have HR := Lib.hid hrs
      clear hrs
      go_wp2_with fail
      go_returns
      exact ⟨hB, .inr ⟨_, acc, by rw [HR.out]; simp, rfl, hown⟩⟩
theorem OwnsI.cell {b : Nat} {W : World} {v : Value} {l : List Nat} (h : OwnsI b W v l) (h0 : l ≠ []) : ∃ g c, v = .slice (some ⟨g, 0, none⟩) l.length c ∧ ∀ (k : Nat) (hk : k < l.length), W.cell? ⟨g, k, none⟩ = some (.int .i64 (l[k] : Nat)) := by
  rcases h.2 with ⟨_, hz⟩ | ⟨g, cap, cur, rfl, h2, h3, h4, h5, h6, h7⟩
  · exact absurd (List.eq_nil_of_length_eq_zero hz) h0
  · refine ⟨g, cap, rfl, fun k hk => ?_⟩
    have e : W.cell? ⟨g, k, none⟩ = cur[k]? := by simp [World.cell?, h3]
    rw [e]
    have h8 : (cur.toList.take (l.length * 1))[k]? = cur.toList[k]? := by rw [List.getElem?_take]; rw [if_pos (by omega)]
    rw [h7] at h8
    rw [← Array.getElem?_toList, ← h8]
    simp [cellsI, hk]
set_option maxHeartbeats 8000000 in
set_option maxRecDepth 100000 in
theorem rtcheck_c (s : ByteArray) (w : World) (hs : s.size ≤ 1000000) : Ret 55 #[.string s] w (.int .i64 (tagErr s.data.toList)) := by
  have c := fun w => runes_c s w hs
  have C := Lib.hid c
  clear c
  cases hr : runesL s.data.toList with
  | none =>
    rw [show tagErr s.data.toList = 16 by unfold tagErr tagOk; rw [hr]; rfl]
    go_enter Tryz.func55, Tryz.ntmps55
    go_wp2_with fail
    refine Calls.mono (C.out _) ?_
    rintro e w1 ⟨hb, ⟨-, rfl⟩ | ⟨v, rs, h, -⟩⟩
    · go_wp2_with fail
      go_returns
      exact ⟨rfl, hb⟩
    · rw [hr] at h
      cases h
  | some rs =>
    by_cases hl : 1 ≤ rs.length ∧ rs.length ≤ 24
    · have hne : rs ≠ [] := by intro e; rw [e] at hl; simp at hl
      have p1 : decide ((rs.length : Int) < 1) = false := decide_eq_false (by omega)
      have p2 : decide ((24 : Int) < (rs.length : Int)) = false := decide_eq_false (by omega)
      have hv : ∀ a, rs.all runeOk = a → tagErr s.data.toList = if a then 0 else 16 := by
        intro a ha
        unfold tagErr tagOk
        rw [hr]
        simp only [tagOf, decide_eq_true hl.1, decide_eq_true hl.2, ha, Bool.true_and]
      generalize tagErr s.data.toList = V at *
      have HV := Lib.hid hv
      clear hv
      go_enter Tryz.func55, Tryz.ntmps55
      go_wp2_with fail
      refine Calls.mono (C.out _) ?_
      rintro e w1 ⟨hb, ⟨h, -⟩ | ⟨v, rs', h, rfl, ho⟩⟩
      · rw [hr] at h
        cases h
      · rw [hr] at h
        injection h with h
        subst h
        obtain ⟨g, cc, rfl, hcell⟩ := ho.cell hne
        clear ho
        go_wp2_with fail
        go_loopw [5] (fun iv wr => ∃ (k : Nat), iv = .int .i64 k ∧ k ≤ rs.length ∧ wr = w1 ∧ (rs.take k).all runeOk = true) (fun iv _ => rs.length - (intOf iv).toNat)
        case atStart => exact ⟨0, rfl, by omega, rfl, by simp⟩
        case round =>
          obtain ⟨k, rfl, hk, rfl, hall⟩ := hrel
          by_cases hkl : k < rs.length
          · have hk2 : (k : Int) < (rs.length : Int) := by omega
            have hck := hcell k hkl
            have htk : rs.take (k + 1) = rs.take k ++ [rs[k]] := by rw [List.take_add_one, List.getElem?_eq_getElem hkl]; rfl
            cases hro : runeOk rs[k] with
            | true =>
              have h2 : 32 ≤ rs[k] ∧ rs[k] ≠ 127 := by unfold runeOk at hro; simpa using hro
              have q1 : decide ((rs[k] : Int) < 32) = false := decide_eq_false (by omega)
              have q2 : ((rs[k] : Int) == 127) = false := by rw [beq_eq_false_iff_ne]; omega
              have HT : (rs.take (k + 1)).all runeOk = true := by rw [htk, List.all_append, hall]; simp [hro]
              clear htk hall
              go_wp2_with fail
              exact ⟨⟨k + 1, by go_num, by omega, trivial, HT⟩, by simp [intOf]; omega⟩
            | false =>
              have hna : rs.all runeOk = false := by
                rw [List.all_eq_false]
                exact ⟨rs[k], List.getElem_mem hkl, by simp [hro]⟩
              have HN := Lib.hid hna
              clear hna htk hall
              by_cases h32 : rs[k] < 32
              · have q1 : decide ((rs[k] : Int) < 32) = true := decide_eq_true (by omega)
                go_wp2_with fail
                rw [show V = 16 from HV.out _ HN.out]
                go_returns
                exact ⟨rfl, hb⟩
              · have q1 : decide ((rs[k] : Int) < 32) = false := decide_eq_false (by omega)
                have q2 : ((rs[k] : Int) == 127) = true := by
                  unfold runeOk at hro
                  rw [decide_eq_true (show 32 ≤ rs[k] by omega)] at hro
                  simp at hro
                  rw [beq_iff_eq]
                  omega
                go_wp2_with fail
                rw [show V = 16 from HV.out _ HN.out]
                go_returns
                exact ⟨rfl, hb⟩
          · obtain rfl : k = rs.length := by omega
            rw [List.take_length] at hall
            have HA := Lib.hid hall
            clear hall
            go_wp2_with fail
            rw [show V = 0 from HV.out _ HA.out]
            go_returns
            exact ⟨rfl, hb⟩
    · have hv : tagErr s.data.toList = 16 := by
        unfold tagErr tagOk
        rw [hr]
        unfold tagOf
        rw [if_neg]
        intro h
        simp only [Bool.and_eq_true, decide_eq_true_iff] at h
        omega
      rw [hv]
      by_cases h1 : rs.length < 1
      · have p1 : decide ((rs.length : Int) < 1) = true := decide_eq_true (by omega)
        go_enter Tryz.func55, Tryz.ntmps55
        go_wp2_with fail
        refine Calls.mono (C.out _) ?_
        rintro e w1 ⟨hb, ⟨h, -⟩ | ⟨v, rs', h, rfl, ho⟩⟩
        · rw [hr] at h
          cases h
        · rw [hr] at h
          injection h with h
          subst h
          obtain ⟨pp, cc, rfl⟩ := ho.len
          go_wp2_with fail
          go_returns
          exact ⟨rfl, hb⟩
      · have p1 : decide ((rs.length : Int) < 1) = false := decide_eq_false (by omega)
        have p2 : decide ((24 : Int) < (rs.length : Int)) = true := decide_eq_true (by omega)
        go_enter Tryz.func55, Tryz.ntmps55
        go_wp2_with fail
        refine Calls.mono (C.out _) ?_
        rintro e w1 ⟨hb, ⟨h, -⟩ | ⟨v, rs', h, rfl, ho⟩⟩
        · rw [hr] at h
          cases h
        · rw [hr] at h
          injection h with h
          subst h
          obtain ⟨pp, cc, rfl⟩ := ho.len
          go_wp2_with fail
          go_returns
          exact ⟨rfl, hb⟩
end Go.Proofs.YthkngleegefgbaaGreatDoor

/- The reference's Quote and Unquote (chapter 2): their contracts. -/
namespace Go.Proofs.YthkngleegefgbaaGreatDoor
open Go.RowKit
set_option linter.unusedVariables false
set_option linter.unusedSimpArgs false

def OwnsB (base : Nat) (W : World) (v : Value) (l : List UInt8) : Prop := W.ownsRow base 5 1 v l.length (Lib.byteCells l)
theorem OwnsB.on {b : Nat} {W W' : World} {v : Value} {l : List UInt8} (h : OwnsB b W v l) (hb : Below W.heap.size W W') : OwnsB b W' v l := by
  refine ⟨h.1, ?_⟩
  rcases h.2 with h0 | ⟨g, cap, cur, h1, h2, h3, h4⟩
  · exact .inl h0
  · exact .inr ⟨g, cap, cur, h1, h2, (hb.block g (Array.getElem?_eq_some_iff.1 h3).1).trans h3, h4⟩
theorem OwnsB.new (W : World) (c : UInt8) : OwnsB W.heap.size (W.alloc (.cells #[.int .u8 (c.toNat : Int)] 5)) (.slice (some ⟨W.heap.size, 0, none⟩) 1 1) [c] := by
  refine ⟨by simp [Lib.byteCells], .inr ⟨W.heap.size, 1, #[.int .u8 (c.toNat : Int)], rfl, Nat.le_refl _, ?_, by simp, by unfold maxLen; omega, by simp, by simp [Lib.byteCells]⟩⟩
  exact (Row.new (W := W) (cs := #[.int .u8 (c.toNat : Int)]) (t := 5)).eq
/-- The text of bytes of its own. -/
theorem conv_own {b : Nat} {W : World} {v : Value} {l : List UInt8} (h : OwnsB b W v l) : (convert 81 9 v).run Tryz.prog W = .ok (.string ⟨l.toArray⟩) W := by
  rcases h.2 with ⟨rfl, h0⟩ | ⟨g, cap, cur, rfl, h2, h3, h4, h5, h6, h7⟩
  · obtain rfl : l = [] := List.eq_nil_of_length_eq_zero h0
    rw [List.length_nil] at *
    rw [run_convert_bytes_string W _ _ 5 none 0 0 Tryz.underlying81 Tryz.underlying5 Tryz.underlying9]
    rfl
  · refine run_convert_bytes_back (P := Tryz.prog) W 81 9 5 ⟨g, 0, none⟩ cap l Tryz.underlying81 Tryz.underlying5 Tryz.underlying9 (fun j hj => ?_)
    have e : W.cell? ((⟨g, 0, none⟩ : Addr).add j) = cur[j]? := by cases j <;> simp [World.cell?, h3, Addr.add]
    rw [e]
    have h8 : (cur.toList.take (l.length * 1))[j]? = cur.toList[j]? := by rw [List.getElem?_take]; rw [if_pos (by omega)]
    rw [h7] at h8
    rw [← Array.getElem?_toList, ← h8]
    simp [Lib.byteCells, hj]
theorem byte_src (W : World) (c : Int) : ∀ (j : Nat) (v : Value), ([.int .u8 c] : List Value)[j]? = some v → (W.alloc (.cells #[.int .u8 c] 5)).cell? ((⟨W.heap.size, 0, none⟩ : Addr).add j) = some v := by
  intro j v hj
  match j, hj with
  | 0, hj => simp at hj; subst hj; simp [Addr.add]
theorem byte_info : (Tryz.prog.info? 5).map (fun i => (i.zero, i.size, i.bytes)) = some (some (.int .u8 0), 1, 1) := by kernel_rfl
/-- What a row of bytes is behind an append of one. -/
theorem OwnsB.snoc {B : Nat} {W : World} {v : Value} {l : List UInt8} {c : UInt8} (h : W.ownsRow B 5 1 v (l.length + 1) (Lib.byteCells l ++ [.int .u8 (c.toNat : Int)])) : OwnsB B W v (l ++ [c]) := by
  unfold OwnsB
  rw [Lib.byteCells_append, List.length_append]
  exact h
theorem take_next (s : ByteArray) (k : Nat) (h : k < s.size) : s.data.toList.take (k + 1) = s.data.toList.take k ++ [s[k]] := by
  have h' : k < s.data.toList.length := by rw [len_bytes]; exact h
  rw [List.take_add_one, List.getElem?_eq_getElem h']
  rfl
set_option maxHeartbeats 8000000 in
set_option maxRecDepth 100000 in
theorem rtquote_c (s : ByteArray) (w : World) (hs : s.size ≤ 1000000) : Ret 30 #[.string s] w (quoteV s.data.toList) := by
  have c := fun w => rtcheck_c s w hs
  unfold tagErr at c
  unfold quoteV
  by_cases hok : tagOk s.data.toList = true
  · rw [if_pos hok] at c ⊢
    have C := Lib.hid c
    clear c
    obtain ⟨i0, hi, hz0, hz1, hz2⟩ := info_parts byte_info
    have HI0 := Lib.hid hi
    have HZ0 := Lib.hid hz0
    have HZ1 := Lib.hid hz1
    have HZ2 := Lib.hid hz2
    clear hi hz0 hz1 hz2
    go_enter Tryz.func30, Tryz.ntmps30
    go_wp2_with fail
    refine Calls.mono (C.out _) ?_
    rintro e w1 ⟨rfl, hb⟩
    go_wp2_with fail
    have hq := OwnsB.new w1 34
    have hc := hb.alloc hb.size (.cells #[.int .u8 34] 5)
    have hw0 : w.heap.size ≤ w1.heap.size := hb.size
    go_loopw [4, 5] (fun v iv wr => ∃ (k : Nat), iv = .int .i64 k ∧ k ≤ s.size ∧ OwnsB w1.heap.size wr v (34 :: escL (s.data.toList.take k)) ∧ Below w.heap.size w wr ∧ w1.heap.size ≤ wr.heap.size) (fun _ iv _ => s.size - (intOf iv).toNat)
    case atStart => exact ⟨0, rfl, by omega, hq, hc, by simp⟩
    case round =>
      clear hq hc hb
      obtain ⟨k, rfl, hk, ho, hB, hw2⟩ := hrel
      have hel : (34 :: escL (s.data.toList.take k) : List UInt8).length ≤ 2000001 := by
        have h1 := (escL_len (s.data.toList.take k)).2
        have h2 := List.length_take_le' k s.data.toList
        rw [len_bytes] at h2
        simp
        omega
      by_cases hkl : k < s.size
      · have hk2 : (k : Int) < (s.size : Int) := by omega
        have htk : (34 :: escL (s.data.toList.take (k + 1)) : List UInt8) = (34 :: escL (s.data.toList.take k)) ++ escB s[k] := by
          rw [take_next s k hkl, escL_append]
          simp [escL]
        have x0 := sIdx s k k rfl hkl
        generalize hcx : s[k] = cx at *
        clear hcx
        generalize (34 :: escL (s.data.toList.take k) : List UInt8) = pre at *
        have HTK := Lib.hid htk
        clear htk
        by_cases hq : cx = 34 ∨ cx = 92
        · have he : escB cx = [92, cx] := by unfold escB; rw [if_pos hq]
          rw [he] at HTK
          have Q1 := Lib.hid (ho.on (below_alloc wr (.cells #[.int .u8 92] 5)))
          have HSRC := Lib.hid (byte_src wr 92)
          have HB2 := Lib.hid (hB.alloc hB.size (.cells #[.int .u8 92] 5))
          have HHQ := Lib.hid hq
          clear ho hB he hq
          have hcase : ((cx.toNat : Int) == 34) = true ∨ (((cx.toNat : Int) == 34) = false ∧ ((cx.toNat : Int) == 92) = true) := by
            rcases HHQ.out with h | h
            · exact .inl (byt_is h 34 rfl).2
            · exact .inr ⟨(byt_not (a := cx) (c := 34) (by rw [h]; decide) 34 rfl).2, (byt_is h 92 rfl).2⟩

          rcases hcase with k1 | ⟨k1, k2⟩
          all_goals
            go_wp2_with (at_builtin; refine wpList_append_own _ rfl _ _ 81 rfl w1.heap.size 5 i0 (.int .u8 0) 1 1 Tryz.underlying81 HI0.out HZ0.out HZ1.out HZ2.out rfl (by decide) _ _ _ rfl Q1.out ⟨wr.heap.size, 0, none⟩ 1 1 [.int .u8 92] rfl rfl HSRC.out (by intro u hu; simp at hu; subst hu; rfl) (by unfold maxLen; omega) (by omega) (by simp; omega) ?_)
            intro v2 w9 hown' hgrow hnil
            have hlo : ∀ k, _ = some k → w1.heap.size ≤ k := fun k hk => (World.ownsRow.lt Q1.out k hk).1
            have hB9 := HB2.out.grown hgrow (by simp; omega) (fun k hk => Nat.le_trans hw0 (hlo k hk))
            have hz9 : w1.heap.size ≤ w9.heap.size := by have := hgrow.size; simp at this; omega
            have ho9 : OwnsB w1.heap.size w9 v2 (pre ++ [92]) := OwnsB.snoc (c := 92) hown'
            have Q2 := Lib.hid (ho9.on (below_alloc w9 (.cells #[.int .u8 (cx.toNat : Int)] 5)))
            have HSRC2 := Lib.hid (byte_src w9 cx.toNat)
            have HB3 := Lib.hid (hB9.alloc hB9.size (.cells #[.int .u8 (cx.toNat : Int)] 5))
            have hpl : (pre ++ [92]).length ≤ 2000002 := by rw [List.length_append]; simp; omega
            clear hown' hgrow hnil hlo hB9 ho9
            go_wp2_with (at_builtin; refine wpList_append_own _ rfl _ _ 81 rfl w1.heap.size 5 i0 (.int .u8 0) 1 1 Tryz.underlying81 HI0.out HZ0.out HZ1.out HZ2.out rfl (by decide) _ _ _ rfl Q2.out ⟨w9.heap.size, 0, none⟩ 1 1 [.int .u8 (cx.toNat : Int)] rfl rfl HSRC2.out (by intro u hu; simp at hu; subst hu; rfl) (by unfold maxLen; omega) (by omega) (by simp; omega) ?_)
            intro v3 w10 hown' hgrow hnil
            have hlo : ∀ k, _ = some k → w1.heap.size ≤ k := fun k hk => (World.ownsRow.lt Q2.out k hk).1
            have HO := Lib.hid (OwnsB.snoc (l := pre ++ [92]) (c := cx) (by rw [List.length_append]; exact hown'))
            have HG := Lib.hid hgrow
            clear hown' hgrow hnil
            go_wp2_with fail
            refine ⟨⟨k + 1, by go_num, by omega, ?_, HB3.out.grown HG.out (by simp; omega) (fun k hk => Nat.le_trans hw0 (hlo k hk)), ?_⟩, by simp [intOf]; omega⟩
            · rw [HTK.out]
              have := HO.out
              rw [List.append_assoc] at this
              exact this
            · have := HG.out.size
              simp at this
              omega
        · have he : escB cx = [cx] := by unfold escB; rw [if_neg hq]
          rw [he] at HTK
          obtain ⟨-, k1⟩ := byt_not (a := cx) (c := 34) (fun e => hq (.inl e)) 34 rfl
          obtain ⟨-, k2⟩ := byt_not (a := cx) (c := 92) (fun e => hq (.inr e)) 92 rfl
          have Q1 := Lib.hid (ho.on (below_alloc wr (.cells #[.int .u8 (cx.toNat : Int)] 5)))
          have HSRC := Lib.hid (byte_src wr cx.toNat)
          have HB2 := Lib.hid (hB.alloc hB.size (.cells #[.int .u8 (cx.toNat : Int)] 5))
          clear ho hB he
          go_wp2_with (at_builtin; refine wpList_append_own _ rfl _ _ 81 rfl w1.heap.size 5 i0 (.int .u8 0) 1 1 Tryz.underlying81 HI0.out HZ0.out HZ1.out HZ2.out rfl (by decide) _ _ _ rfl Q1.out ⟨wr.heap.size, 0, none⟩ 1 1 [.int .u8 (cx.toNat : Int)] rfl rfl HSRC.out (by intro u hu; simp at hu; subst hu; rfl) (by unfold maxLen; omega) (by omega) (by simp; omega) ?_; intro v' w9 hown' hgrow hnil; have HOWN1 := Lib.hid hown'; have HGR1 := Lib.hid hgrow; clear hown' hgrow hnil)
          have hlo : ∀ k, _ = some k → w1.heap.size ≤ k := fun k hk => (World.ownsRow.lt Q1.out k hk).1
          refine ⟨⟨k + 1, by go_num, by omega, ?_, HB2.out.grown HGR1.out (by simp; omega) (fun k hk => Nat.le_trans hw0 (hlo k hk)), ?_⟩, by simp [intOf]; omega⟩
          · rw [HTK.out]
            exact OwnsB.snoc HOWN1.out
          · have := HGR1.out.size
            simp at this
            omega
      · obtain rfl : k = s.size := by omega
        have hk2 : ¬ (s.size : Int) < (s.size : Int) := by omega
        have hte : s.data.toList.take s.size = s.data.toList := List.take_of_length_le (by rw [len_bytes]; exact Nat.le_refl _)
        rw [hte] at ho hel
        have Q1 := Lib.hid (ho.on (below_alloc wr (.cells #[.int .u8 34] 5)))
        have HSRC := Lib.hid (byte_src wr 34)
        have HB2 := Lib.hid (hB.alloc hB.size (.cells #[.int .u8 34] 5))
        clear ho hB
        go_wp2_with (at_builtin; refine wpList_append_own _ rfl _ _ 81 rfl w1.heap.size 5 i0 (.int .u8 0) 1 1 Tryz.underlying81 HI0.out HZ0.out HZ1.out HZ2.out rfl (by decide) _ _ _ rfl Q1.out ⟨wr.heap.size, 0, none⟩ 1 1 [.int .u8 34] rfl rfl HSRC.out (by intro u hu; simp at hu; subst hu; rfl) (by unfold maxLen; omega) (by omega) (by simp; omega) ?_)
        intro v2 w9 hown' hgrow hnil
        have hlo : ∀ k, _ = some k → w1.heap.size ≤ k := fun k hk => (World.ownsRow.lt Q1.out k hk).1
        have hcv := conv_own (OwnsB.snoc (c := 34) hown')
        have HG := Lib.hid hgrow
        clear hown' hgrow hnil
        go_wp2_with fail
        go_returns
        exact ⟨by simp [quoteL], HB2.out.grown HG.out (by simp; omega) (fun k hk => Nat.le_trans hw0 (hlo k hk))⟩
  · rw [if_neg hok] at c ⊢
    have C := Lib.hid c
    clear c
    go_enter Tryz.func30, Tryz.ntmps30
    go_wp2_with fail
    refine Calls.mono (C.out _) ?_
    rintro e w1 ⟨rfl, hb⟩
    go_wp2_with fail
    go_returns
    exact ⟨rfl, hb⟩
end Go.Proofs.YthkngleegefgbaaGreatDoor

/- The reference's Unquote (chapter 2): its contract. -/
namespace Go.Proofs.YthkngleegefgbaaGreatDoor
open Go.RowKit
set_option linter.unusedVariables false
set_option linter.unusedSimpArgs false
theorem sc_first (t : List UInt8) : Sc t [] 0 t := by
  unfold Sc
  cases scanL t <;> simp
/-- One byte further. -/
theorem sc_plain {t acc rest : List UInt8} {off : Nat} {c : UInt8} (h : Sc t acc off (c :: rest)) (h1 : c ≠ 34) (h2 : c ≠ 92) : Sc t (acc ++ [c]) (off + 1) rest := by
  unfold Sc at *
  rw [h, scanL_cons _ _ h1 h2, Option.map_map]
  congr 1
  funext x
  refine Prod.ext ?_ ?_
  · simp
  · simp; omega
theorem sc_esc {t acc rest : List UInt8} {off : Nat} {d : UInt8} (h : Sc t acc off (92 :: d :: rest)) (hd : d = 34 ∨ d = 92) : Sc t (acc ++ [d]) (off + 2) rest := by
  unfold Sc at *
  rw [h, scanL_slash, if_pos hd, Option.map_map]
  congr 1
  funext x
  refine Prod.ext ?_ ?_
  · simp
  · simp; omega
theorem sc_stop {t acc rest : List UInt8} {off : Nat} (h : Sc t acc off (34 :: rest)) : scanL t = some (acc, off + 1) := by
  unfold Sc at h
  rw [h, scanL_quote]
  simp
set_option maxHeartbeats 8000000 in
set_option maxRecDepth 100000 in
theorem rtunq_c (s : ByteArray) (w : World) (hs : s.size ≤ 1000000) : Ret 42 #[.string s] w (unqV s.data.toList) := by
  by_cases hz : s.size = 0
  · have hz2 : ((s.size : Int) == 0) = true := by rw [hz]; rfl
    have e : s.data.toList = [] := List.eq_nil_of_length_eq_zero (by rw [len_bytes]; exact hz)
    rw [e]
    show Ret _ _ _ (unqBad 9)
    go_enter Tryz.func42, Tryz.ntmps42
    go_wp2_with fail
    go_returns
    exact ⟨rfl, Below.refl _ _⟩
  · have hz2 : ((s.size : Int) == 0) = false := by rw [beq_eq_false_iff_ne]; omega
    have hz3 : 0 < s.size := by omega
    have x0 := sIdx s 0 0 rfl hz3
    have hd0 := drop_cons s 0 hz3
    rw [List.drop_zero] at hd0
    by_cases hq : s[0] = 34
    · rw [hq] at hd0
      obtain ⟨k1, -⟩ := byt_is hq 34 rfl
      rw [hd0]
      obtain ⟨t, ht⟩ : ∃ t, t = s.data.toList.drop (0 + 1) := ⟨_, rfl⟩
      rw [← ht]
      have hs0 : Sc t [] 0 (s.data.toList.drop 1) := by rw [show s.data.toList.drop 1 = t from ht.symm]; exact sc_first t
      have HS0 := Lib.hid hs0
      obtain ⟨i0, hi, hz0, hz1, hz2'⟩ := info_parts byte_info
      have HI0 := Lib.hid hi
      have HZ0 := Lib.hid hz0
      have HZ1 := Lib.hid hz1
      have HZ2 := Lib.hid hz2'
      clear hi hz0 hz1 hz2' hd0 ht hs0 hz
      go_enter Tryz.func42, Tryz.ntmps42
      go_wp2_with fail
      clear x0 k1 hq hz2
      go_loopw [5, 6] (fun v iv wr => ∃ (k : Nat) (acc : List UInt8), iv = .int .i64 k ∧ 1 ≤ k ∧ k ≤ s.size ∧ acc.length ≤ k ∧ OwnsB w.heap.size wr v acc ∧ Below w.heap.size w wr ∧ Sc t acc (k - 1) (s.data.toList.drop k)) (fun _ iv _ => s.size - (intOf iv).toNat)
      case atStart => exact ⟨1, [], rfl, by omega, by omega, by simp, World.ownsRow_nil _ _ _ _, Below.refl _ _, HS0.out⟩
      case round =>
        clear HS0
        obtain ⟨k, acc, rfl, h1, hk, hal, ho, hB, hS⟩ := hrel
        have hsz := hB.size
        by_cases hkl : k < s.size
        · have hk2 : decide ((s.size : Int) ≤ (k : Int)) = false := decide_eq_false (by omega)
          have x0 := sIdx s k k rfl hkl
          rw [drop_cons s k hkl] at hS
          by_cases h34 : s[k] = 34
          · obtain ⟨-, k1⟩ := byt_is h34 34 rfl
            rw [h34] at hS
            have hst := sc_stop hS
            rw [show k - 1 + 1 = k by omega] at hst
            have hv := unqV_some hst
            have c := fun w => rtcheck_c ⟨acc.toArray⟩ w (by rw [← len_bytes]; simp; omega)
            unfold tagErr at c
            rw [show (⟨acc.toArray⟩ : ByteArray).data.toList = acc by simp] at c
            cases hok : tagOk acc with
            | true =>
              rw [hok] at c hv
              simp only [if_true] at c hv
              have HV := Lib.hid hv
              have C := Lib.hid c
              have cv := conv_own ho
              have HO := Lib.hid ho
              clear hv c hst hS ho
              go_wp2_with fail
              refine Calls.mono (C.out _) ?_
              rintro e w1 ⟨rfl, hb⟩
              have cv2 := conv_own (HO.out.on hb)
              go_wp2_with fail
              rw [HV.out]
              go_returns
              exact ⟨rfl, chain hB hb⟩
            | false =>
              rw [hok] at c hv
              simp only [Bool.false_eq_true, if_false] at c hv
              have HV := Lib.hid hv
              have C := Lib.hid c
              have cv := conv_own ho
              clear hv c hst hS ho
              go_wp2_with fail
              refine Calls.mono (C.out _) ?_
              rintro e w1 ⟨rfl, hb⟩
              go_wp2_with fail
              rw [HV.out]
              go_returns
              exact ⟨rfl, chain hB hb⟩
          · obtain ⟨-, k1⟩ := byt_not h34 34 rfl
            by_cases h92 : s[k] = 92
            · obtain ⟨-, k3⟩ := byt_is h92 92 rfl
              rw [h92] at hS
              by_cases hk3 : k + 1 < s.size
              · have hk4 : decide ((s.size : Int) ≤ (k : Int) + 1) = false := decide_eq_false (by omega)
                have x1 := sIdx s (k + 1) ((k : Int) + 1) (by omega) hk3
                rw [drop_cons s (k + 1) hk3] at hS
                generalize hcx : s[k + 1] = cx at *
                clear hcx
                by_cases hq : cx = 34 ∨ cx = 92
                · have hS2 := sc_esc hS hq
                  rw [show k - 1 + 2 = k + 2 - 1 by omega] at hS2
                  have HS := Lib.hid hS2
                  have Q1 := Lib.hid (ho.on (below_alloc wr (.cells #[.int .u8 (cx.toNat : Int)] 5)))
                  have HSRC := Lib.hid (byte_src wr cx.toNat)
                  have HB2 := Lib.hid (hB.alloc hB.size (.cells #[.int .u8 (cx.toNat : Int)] 5))
                  have hcase : ((cx.toNat : Int) != 34) = false ∨ (((cx.toNat : Int) != 34) = true ∧ ((cx.toNat : Int) != 92) = false) := by
                    rcases hq with h | h
                    · exact .inl (byt_is h 34 rfl).1
                    · exact .inr ⟨(byt_not (a := cx) (c := 34) (by rw [h]; decide) 34 rfl).1, (byt_is h 92 rfl).1⟩
                  clear hS hS2 ho hB hq
                  rcases hcase with k5 | ⟨k5, k6⟩
                  all_goals
                    go_wp2_with (at_builtin; refine wpList_append_own _ rfl _ _ 81 rfl w.heap.size 5 i0 (.int .u8 0) 1 1 Tryz.underlying81 HI0.out HZ0.out HZ1.out HZ2.out rfl (by decide) _ _ _ rfl Q1.out ⟨wr.heap.size, 0, none⟩ 1 1 [.int .u8 (cx.toNat : Int)] rfl rfl HSRC.out (by intro u hu; simp at hu; subst hu; rfl) (by unfold maxLen; omega) (by omega) (by simp; omega) ?_)
                    intro v2 w9 hown' hgrow hnil
                    have hlo : ∀ k, _ = some k → w.heap.size ≤ k := fun k hk => (World.ownsRow.lt Q1.out k hk).1
                    have HO := Lib.hid (OwnsB.snoc (l := acc) (c := cx) hown')
                    have HG := Lib.hid hgrow
                    clear hown' hgrow hnil
                    go_wp2_with fail
                    exact ⟨⟨k + 2, acc ++ [cx], by go_num, by omega, by omega, by simp; omega, HO.out, HB2.out.grown HG.out (by simp; omega) (fun k hk => hlo k hk), HS.out⟩, by simp [intOf]; omega⟩
                · have hv : unqV (34 :: t) = unqBad 9 := unqV_none (by
                    unfold Sc at hS
                    rw [hS, scanL_slash, if_neg hq]
                    rfl)
                  have HV := Lib.hid hv
                  obtain ⟨k5, -⟩ := byt_not (a := cx) (c := 34) (fun e => hq (.inl e)) 34 rfl
                  obtain ⟨k6, -⟩ := byt_not (a := cx) (c := 92) (fun e => hq (.inr e)) 92 rfl
                  clear hv hS
                  go_wp2_with fail
                  rw [HV.out]
                  go_returns
                  exact ⟨rfl, hB⟩
              · have hk4 : decide ((s.size : Int) ≤ (k : Int) + 1) = true := decide_eq_true (by omega)
                have hv : unqV (34 :: t) = unqBad 9 := unqV_none (by
                  unfold Sc at hS
                  rw [hS, List.drop_of_length_le (by rw [len_bytes]; omega)]
                  rfl)
                have HV := Lib.hid hv
                clear hv hS
                go_wp2_with fail
                rw [HV.out]
                go_returns
                exact ⟨rfl, hB⟩
            · obtain ⟨-, k3⟩ := byt_not h92 92 rfl
              generalize hcx : s[k] = cx at *
              clear hcx
              have hS2 := sc_plain hS h34 h92
              rw [show k - 1 + 1 = k + 1 - 1 by omega] at hS2
              have HS := Lib.hid hS2
              have Q1 := Lib.hid (ho.on (below_alloc wr (.cells #[.int .u8 (cx.toNat : Int)] 5)))
              have HSRC := Lib.hid (byte_src wr cx.toNat)
              have HB2 := Lib.hid (hB.alloc hB.size (.cells #[.int .u8 (cx.toNat : Int)] 5))
              clear hS hS2 ho hB
              go_wp2_with (at_builtin; refine wpList_append_own _ rfl _ _ 81 rfl w.heap.size 5 i0 (.int .u8 0) 1 1 Tryz.underlying81 HI0.out HZ0.out HZ1.out HZ2.out rfl (by decide) _ _ _ rfl Q1.out ⟨wr.heap.size, 0, none⟩ 1 1 [.int .u8 (cx.toNat : Int)] rfl rfl HSRC.out (by intro u hu; simp at hu; subst hu; rfl) (by unfold maxLen; omega) (by omega) (by simp; omega) ?_)
              intro v2 w9 hown' hgrow hnil
              have hlo : ∀ k, _ = some k → w.heap.size ≤ k := fun k hk => (World.ownsRow.lt Q1.out k hk).1
              have HO := Lib.hid (OwnsB.snoc (l := acc) (c := cx) hown')
              have HG := Lib.hid hgrow
              clear hown' hgrow hnil
              go_wp2_with fail
              exact ⟨⟨k + 1, acc ++ [cx], by go_num, by omega, by omega, by simp; omega, HO.out, HB2.out.grown HG.out (by simp; omega) (fun k hk => hlo k hk), HS.out⟩, by simp [intOf]; omega⟩
        · obtain rfl : k = s.size := by omega
          have hk2 : decide ((s.size : Int) ≤ (s.size : Int)) = true := decide_eq_true (by omega)
          have hv : unqV (34 :: t) = unqBad 9 := unqV_none (by
            unfold Sc at hS
            rw [hS, List.drop_of_length_le (by rw [len_bytes]; exact Nat.le_refl _)]
            rfl)
          have HV := Lib.hid hv
          clear hv hS
          go_wp2_with fail
          rw [HV.out]
          go_returns
          exact ⟨rfl, hB⟩
    · obtain ⟨k1, -⟩ := byt_not hq 34 rfl
      have hv : unqV s.data.toList = unqBad 9 := unqV_head (by
        rw [hd0]
        simp only [Lib.hasPrefix, List.isPrefixOf]
        have : ((34 : UInt8) == s[0]) = false := by rw [beq_eq_false_iff_ne]; exact fun e => hq e.symm
        rw [this]
        rfl)
      rw [hv]
      go_enter Tryz.func42, Tryz.ntmps42
      go_wp2_with fail
      go_returns
      exact ⟨rfl, Below.refl _ _⟩
end Go.Proofs.YthkngleegefgbaaGreatDoor
