/- The program's functions on resources: their contracts. -/
import Derived.Test.YtkjpdciccablpaaGreatDoorHRes1
import Derived.Test.YtkjpdciccablpaaGreatDoorHRune
import Derived.Test.YtkjpdciccablpaaGreatDoorL0a
import Derived.Laws.AppendOwn
namespace Go.Proofs.YtkjpdciccablpaaGreatDoor
open Go.RowKit
set_option linter.unusedVariables false
set_option linter.unusedSimpArgs false
theorem rerr_c (k i g st wy tr nx : Int) (tag : ByteArray) (w : World) (g0 : 0 ≤ g) (g1 : g ≤ 4294967295) (hs : tag.size ≤ 1000000) : Ret 76 #[rV k i g st wy tr nx tag] w (.int .i64 (rErr k i g st wy tr nx tag)) := by
  have c := fun w => poss_c2 k i g st wy tr nx tag w g0 g1
  have c2 := fun w => tcheck_c tag w hs
  unfold rErr
  cases hp : pOk k i g st wy tr nx with
  | false =>
    rw [hp] at c
    have C := Lib.hid c
    clear c c2
    go_enter Tryz.func76, Tryz.ntmps76
    go_wp2_with fail
    refine Calls.mono (C.out _) ?_
    rintro e w1 ⟨rfl, hb⟩
    go_wp2_with fail
    go_returns
    exact ⟨rfl, under hb⟩
  | true =>
    rw [hp] at c
    have C := Lib.hid c
    have C2 := Lib.hid c2
    clear c c2
    go_enter Tryz.func76, Tryz.ntmps76
    go_wp2_with fail
    refine Calls.mono (C.out _) ?_
    rintro e w1 ⟨rfl, hb⟩
    have r1 := (Row.new (W := w) (cs := rC k i g st wy tr nx tag) (t := 91)).on hb
    have hc : Below w.heap.size w w1 := under hb
    have y0 := r1.cell
    have y1 := r1.lt
    go_wp2_with fail
    refine Calls.mono (C2.out _) ?_
    rintro e w2 ⟨rfl, hb⟩
    go_wp2_with fail
    go_returns
    exact ⟨rfl, chain hc hb⟩
theorem chkE_bad {k i g st wy tr nx : Int} {tag : ByteArray} {al : Bool} {want : Int} (h : rErr k i g st wy tr nx tag ≠ 0) : chkE k i g st wy tr nx tag al want = rErr k i g st wy tr nx tag := by unfold chkE; rw [if_pos h]
theorem chkE_not {k i g st wy tr nx : Int} {tag : ByteArray} {want : Int} (h : rErr k i g st wy tr nx tag = 0) : chkE k i g st wy tr nx tag false want = 2 := by unfold chkE; rw [if_neg (by simp [h]), if_pos rfl]
theorem chkE_st {k i g st wy tr nx : Int} {tag : ByteArray} {want : Int} (h : rErr k i g st wy tr nx tag = 0) (hw : st ≠ want) : chkE k i g st wy tr nx tag true want = 8 := by unfold chkE; rw [if_neg (by simp [h]), if_neg (by simp), if_pos hw]
theorem chkE_ok {k i g st wy tr nx : Int} {tag : ByteArray} {want : Int} (h : rErr k i g st wy tr nx tag = 0) (hw : st = want) : chkE k i g st wy tr nx tag true want = 0 := by unfold chkE; rw [if_neg (by simp [h]), if_neg (by simp), if_neg (by simp [hw])]
set_option maxHeartbeats 4000000 in
set_option maxRecDepth 20000 in
theorem chk_c (k i g st wy tr nx : Int) (tag : ByteArray) (al : Bool) (want : Int) (w : World) (g0 : 0 ≤ g) (g1 : g ≤ 4294967295) (hs : tag.size ≤ 1000000) : Ret 70 #[rV k i g st wy tr nx tag, .bool al, .int .i64 want] w (.int .i64 (chkE k i g st wy tr nx tag al want)) := by
  have c := fun w => rerr_c k i g st wy tr nx tag w g0 g1 hs
  by_cases he : rErr k i g st wy tr nx tag = 0
  · rw [he] at c
    have CC := Lib.hid c
    clear c
    cases al with
    | false =>
      rw [chkE_not he]
      clear he
      go_enter Tryz.func70, Tryz.ntmps70
      go_wp2_with fail
      refine Calls.mono (CC.out _) ?_
      rintro e w1 ⟨rfl, hb⟩
      go_wp2_with fail
      go_returns
      exact ⟨rfl, under hb⟩
    | true =>
      by_cases hw : st = want
      · subst hw
        rw [chkE_ok he rfl]
        have q : (st != st) = false := by simp
        clear he
        go_enter Tryz.func70, Tryz.ntmps70
        go_wp2_with fail
        refine Calls.mono (CC.out _) ?_
        rintro e w1 ⟨rfl, hb⟩
        have r1 := (Row.new (W := w) (cs := rC k i g st wy tr nx tag) (t := 91)).on hb
        have y0 := r1.cell
        have y1 := r1.lt
        go_wp2_with fail
        go_returns
        exact ⟨rfl, under hb⟩
      · rw [chkE_st he hw]
        have q : (st != want) = true := by rw [bne_iff_ne]; exact hw
        clear he
        go_enter Tryz.func70, Tryz.ntmps70
        go_wp2_with fail
        refine Calls.mono (CC.out _) ?_
        rintro e w1 ⟨rfl, hb⟩
        have r1 := (Row.new (W := w) (cs := rC k i g st wy tr nx tag) (t := 91)).on hb
        have y0 := r1.cell
        have y1 := r1.lt
        go_wp2_with fail
        go_returns
        exact ⟨rfl, under hb⟩
  · rw [chkE_bad he]
    have q : (rErr k i g st wy tr nx tag != 0) = true := by rw [bne_iff_ne]; exact he
    generalize rErr k i g st wy tr nx tag = er at *
    have CC := Lib.hid c
    clear c
    go_enter Tryz.func70, Tryz.ntmps70
    go_wp2_with fail
    refine Calls.mono (CC.out _) ?_
    rintro e w1 ⟨rfl, hb⟩
    go_wp2_with fail
    go_returns
    exact ⟨rfl, under hb⟩
set_option maxHeartbeats 8000000 in
set_option maxRecDepth 20000 in
theorem new_c (k i g : Int) (tag : ByteArray) (w : World) (g0 : 0 ≤ g) (g1 : g ≤ 4294967295) (hs : tag.size ≤ 1000000) : Ret 50 #[.agg #[.int .i64 k, .int .i64 i, .int .u32 g], .string tag] w (newV k i g tag) := by
  have c := fun w => rerr_c k i g 1 0 0 0 tag w g0 g1 hs
  unfold newV
  generalize rErr k i g 1 0 0 0 tag = er at *
  have CC := Lib.hid c
  clear c
  by_cases he : er = 0
  · rw [if_pos he]
    subst he
    go_enter Tryz.func50, Tryz.ntmps50
    go_wp2_with fail
    refine Calls.mono (CC.out _) ?_
    rintro e w1 ⟨rfl, hb⟩
    have r2 := ((Row.new (W := w.alloc (.cells #[.int .i64 k, .int .i64 i, .int .u32 g] 83)) (cs := rC 0 0 0 0 0 0 0 ⟨#[]⟩) (t := 91)).on (below_alloc _ (.cells (rC k i g 1 0 0 0 tag) 91))).on hb
    have r3 := (Row.new (W := (w.alloc (.cells #[.int .i64 k, .int .i64 i, .int .u32 g] 83)).alloc (.cells (rC 0 0 0 0 0 0 0 ⟨#[]⟩) 91)) (cs := rC k i g 1 0 0 0 tag) (t := 91)).on hb
    rw [World.size_alloc] at r2 r3
    rw [World.size_alloc] at r3
    have hc : Below w.heap.size w w1 := under hb
    clear hb
    have y2 := r2.cell
    have y2f := r2.free
    have y2l := r2.lt
    have y3 := r3.cell
    have y3l := r3.lt
    have hp : w.heap.size ≤ w.heap.size + 1 := Nat.le_succ _
    generalize w.heap.size + 1 + 1 = p3 at *
    generalize w.heap.size + 1 = p2 at *
    go_wp2_with fail
    clear y2 y2f y2l y3 y3l
    replace r2 := ((((((((r2.set 0 (.int .i64 k)).set 1 (.int .i64 i)).set 2 (.int .u32 g)).set 3 (.int .i64 1)).set 4 (.int .i64 0)).set 5 (.int .i64 0)).set 6 (.int .i64 0)).set 7 (.string tag))
    replace hc := ((((((((hc.setCell (p := ⟨p2, 0, none⟩) hp (.int .i64 k)).setCell (p := ⟨p2, 1, none⟩) hp (.int .i64 i)).setCell (p := ⟨p2, 2, none⟩) hp (.int .u32 g)).setCell (p := ⟨p2, 3, none⟩) hp (.int .i64 1)).setCell (p := ⟨p2, 4, none⟩) hp (.int .i64 0)).setCell (p := ⟨p2, 5, none⟩) hp (.int .i64 0)).setCell (p := ⟨p2, 6, none⟩) hp (.int .i64 0)).setCell (p := ⟨p2, 7, none⟩) hp (.string tag))
    simp only [List.setIfInBounds_toArray, List.set_cons_zero, List.set_cons_succ] at r2
    generalize hW : World.setCell _ _ _ = Z at *
    clear hW
    have q0 := r2.cell 0
    have q1 := r2.cell 1
    have q2 := r2.cell 2
    have q3 := r2.cell 3
    have q4 := r2.cell 4
    have q5 := r2.cell 5
    have q6 := r2.cell 6
    have q7 := r2.cell 7
    simp only [List.getElem?_toArray, List.getElem?_cons_succ, List.getElem?_cons_zero] at q0 q1 q2 q3 q4 q5 q6 q7
    clear r2 r3
    refine bodyPost_ret (v := .tuple #[rV k i g 1 0 0 0 tag, .int .i64 0]) (by simp [results, Tryz.results50, go_sem, q0, q1, q2, q3, q4, q5, q6, q7]) rfl ⟨rfl, hc⟩
  · rw [if_neg he]
    have q : (er != 0) = true := by rw [bne_iff_ne]; exact he
    go_enter Tryz.func50, Tryz.ntmps50
    go_wp2_with fail
    refine Calls.mono (CC.out _) ?_
    rintro e w1 ⟨rfl, hb⟩
    have r2 := ((Row.new (W := w.alloc (.cells #[.int .i64 k, .int .i64 i, .int .u32 g] 83)) (cs := rC 0 0 0 0 0 0 0 ⟨#[]⟩) (t := 91)).on (below_alloc _ (.cells (rC k i g 1 0 0 0 tag) 91))).on hb
    have r3 := (Row.new (W := (w.alloc (.cells #[.int .i64 k, .int .i64 i, .int .u32 g] 83)).alloc (.cells (rC 0 0 0 0 0 0 0 ⟨#[]⟩) 91)) (cs := rC k i g 1 0 0 0 tag) (t := 91)).on hb
    rw [World.size_alloc] at r2 r3
    rw [World.size_alloc] at r3
    have hc : Below w.heap.size w w1 := under hb
    clear hb
    have y2 := r2.cell
    have y2f := r2.free
    have y2l := r2.lt
    have y3 := r3.cell
    have y3l := r3.lt
    have hp : w.heap.size ≤ w.heap.size + 1 := Nat.le_succ _
    generalize w.heap.size + 1 + 1 = p3 at *
    generalize w.heap.size + 1 = p2 at *
    go_wp2_with fail
    clear y2 y2f y2l y3 y3l
    replace r2 := ((((((((r2.set 0 (.int .i64 0)).set 1 (.int .i64 0)).set 2 (.int .u32 0)).set 3 (.int .i64 0)).set 4 (.int .i64 0)).set 5 (.int .i64 0)).set 6 (.int .i64 0)).set 7 (.string ⟨#[]⟩))
    replace hc := ((((((((hc.setCell (p := ⟨p2, 0, none⟩) hp (.int .i64 0)).setCell (p := ⟨p2, 1, none⟩) hp (.int .i64 0)).setCell (p := ⟨p2, 2, none⟩) hp (.int .u32 0)).setCell (p := ⟨p2, 3, none⟩) hp (.int .i64 0)).setCell (p := ⟨p2, 4, none⟩) hp (.int .i64 0)).setCell (p := ⟨p2, 5, none⟩) hp (.int .i64 0)).setCell (p := ⟨p2, 6, none⟩) hp (.int .i64 0)).setCell (p := ⟨p2, 7, none⟩) hp (.string ⟨#[]⟩))
    simp only [List.setIfInBounds_toArray, List.set_cons_zero, List.set_cons_succ] at r2
    generalize hW : World.setCell _ _ _ = Z at *
    clear hW
    have q0 := r2.cell 0
    have q1 := r2.cell 1
    have q2 := r2.cell 2
    have q3 := r2.cell 3
    have q4 := r2.cell 4
    have q5 := r2.cell 5
    have q6 := r2.cell 6
    have q7 := r2.cell 7
    simp only [List.getElem?_toArray, List.getElem?_cons_succ, List.getElem?_cons_zero] at q0 q1 q2 q3 q4 q5 q6 q7
    clear r2 r3
    refine bodyPost_ret (v := .tuple #[r0V, .int .i64 er]) (by simp [results, Tryz.results50, go_sem, q0, q1, q2, q3, q4, q5, q6, q7]) rfl ⟨rfl, hc⟩

end Go.Proofs.YtkjpdciccablpaaGreatDoor

/- The reference's Runes and Check (chapter 2): their contracts. -/
namespace Go.Proofs.YtkjpdciccablpaaGreatDoor
open Go.RowKit
set_option linter.unusedVariables false
set_option linter.unusedSimpArgs false

theorem int_infoR : (Tryz.prog.info? 3).map (fun i => (i.zero, i.size, i.bytes)) = some (some (.int .i64 0), 1, 8) := by kernel_rfl
def cellsI (l : List Nat) : List Value := l.map fun (n : Nat) => Value.int .i64 (n : Int)
def OwnsI (base : Nat) (W : World) (v : Value) (l : List Nat) : Prop := W.ownsRow base 3 1 v l.length (cellsI l)
theorem OwnsI.on {b : Nat} {W W' : World} {v : Value} {l : List Nat} (h : OwnsI b W v l) (hb : Below W.heap.size W W') : OwnsI b W' v l := by
  refine ⟨h.1, ?_⟩
  rcases h.2 with h0 | ⟨g, cap, cur, h1, h2, h3, h4⟩
  · exact .inl h0
  · exact .inr ⟨g, cap, cur, h1, h2, (hb.block g (Array.getElem?_eq_some_iff.1 h3).1).trans h3, h4⟩
theorem OwnsI.len {b : Nat} {W : World} {v : Value} {l : List Nat} (h : OwnsI b W v l) : ∃ p c, v = .slice p l.length c := by
  rcases h.2 with ⟨rfl, h0⟩ | ⟨g, cap, cur, rfl, _⟩
  · exact ⟨none, 0, by rw [h0]⟩
  · exact ⟨_, _, rfl⟩
set_option maxHeartbeats 8000000 in
set_option maxRecDepth 100000 in
theorem runes_c (s : ByteArray) (w : World) (hs : s.size ≤ 1000000) : Calls Tryz.prog 109 #[.string s] w fun e w' =>
    Below w.heap.size w w' ∧ ((runesL s.data.toList = none ∧ e = .returned (.tuple #[.slice none 0 0, .bool false])) ∨ ∃ v rs, runesL s.data.toList = some rs ∧ e = .returned (.tuple #[v, .bool true]) ∧ OwnsI w.heap.size w' v rs) := by
  obtain ⟨i0, hi, hz0, hz1, hz2⟩ := info_parts int_infoR
  have HI0 := Lib.hid hi
  have HZ0 := Lib.hid hz0
  have HZ1 := Lib.hid hz1
  have HZ2 := Lib.hid hz2
  clear hi hz0 hz1 hz2
  go_enter Tryz.func109, Tryz.ntmps109
  go_wp2_with fail
  go_loopw [4, 5] (fun v iv wr => ∃ (pos : Nat) (acc : List Nat), iv = .int .i64 pos ∧ pos ≤ s.size ∧ acc.length ≤ pos ∧ runesL s.data.toList = (runesL (s.data.toList.drop pos)).map (acc ++ ·) ∧ OwnsI w.heap.size wr v acc ∧ Below w.heap.size w wr) (fun _ iv _ => s.size - (intOf iv).toNat)
  case atStart =>
    refine ⟨0, [], rfl, by omega, by simp, ?_, World.ownsRow_nil _ _ _ _, Below.refl _ _⟩
    rw [List.drop_zero]
    cases runesL s.data.toList <;> simp
  case round =>
    obtain ⟨pos, acc, rfl, hps, hal, hrs, hown, hB⟩ := hrel
    by_cases hp : pos < s.size
    · have hp2 : (pos : Int) < (s.size : Int) := by omega
      have hc := fun w => rune_c s pos w hs hp
      cases hr : rnAt s pos with
      | none =>
        rw [hr] at hc
        have hc' : ∀ w, Ret 122 #[.string s, .int .i64 pos] w (.tuple #[.int .i64 0, .int .i64 0]) := hc
        have HC := Lib.hid hc'
        clear hc'
        rw [runes_at_none hp hr] at hrs
        have HR := Lib.hid hrs
        have HB := Lib.hid hB
        have HO := Lib.hid hown
        clear hc hrs hB hown
        go_wp2_with fail
        refine Calls.mono (HC.out _) ?_
        rintro e w1 ⟨rfl, hb⟩
        go_wp2_with fail
        go_returns
        exact ⟨chain HB.out hb, .inl ⟨HR.out, rfl⟩⟩
      | some p =>
        obtain ⟨r, n⟩ := p
        rw [hr] at hc
        have hc' : ∀ w, Ret 122 #[.string s, .int .i64 pos] w (.tuple #[.int .i64 r, .int .i64 n]) := hc
        have HC := Lib.hid hc'
        clear hc'
        have hwd := rnAt_width hp hr
        rw [runes_at hp hr, Option.map_map] at hrs
        have HR := Lib.hid hrs
        have HB := Lib.hid hB
        have HO := Lib.hid hown
        have hn0 : ((n : Int) == 0) = false := by rw [beq_eq_false_iff_ne]; omega
        clear hc hrs hB hown
        go_wp2_with fail
        refine Calls.mono (HC.out _) ?_
        rintro e w1 ⟨rfl, hb⟩
        have hB := chain HB.out hb
        have hsz := hB.size
        have Q1 := Lib.hid ((HO.out.on hb).on (below_alloc w1 (.cells #[.int .i64 r] 3)))
        have hsrc : ∀ (j : Nat) (v : Value), ([.int .i64 (r : Int)] : List Value)[j]? = some v → (w1.alloc (.cells #[.int .i64 r] 3)).cell? ((⟨w1.heap.size, 0, none⟩ : Addr).add j) = some v := by
          intro j v hj
          match j, hj with
          | 0, hj => simp at hj; subst hj; simp [Addr.add]
        have HSRC := Lib.hid hsrc
        have HB2 := Lib.hid (hB.alloc hB.size (.cells #[.int .i64 r] 3))
        clear hB hb HO HB hsrc
        go_wp2_with (at_builtin; refine wpList_append_own _ rfl _ _ 38 rfl w.heap.size 3 i0 (.int .i64 0) 1 8 Tryz.underlying38 HI0.out HZ0.out HZ1.out HZ2.out rfl (by decide) _ _ _ rfl Q1.out ⟨w1.heap.size, 0, none⟩ 1 1 [.int .i64 (r : Int)] rfl rfl HSRC.out (by intro u hu; simp at hu; subst hu; rfl) (by unfold maxLen; omega) (by omega) (by simp; omega) ?_; intro v' w9 hown' hgrow hnil; have HOWN := Lib.hid hown'; have HGR := Lib.hid hgrow; clear hown' hgrow hnil)
        have hlo : ∀ k, _ = some k → w.heap.size ≤ k := fun k hk => (World.ownsRow.lt Q1.out k hk).1
        have hB6 : Below w.heap.size w w9 := HB2.out.grown HGR.out (by simp; omega) (fun k hk => hlo k hk)
        refine ⟨⟨pos + n, acc ++ [r], by go_num, by omega, by simp; omega, ?_, ?_, hB6⟩, by simp [intOf]; omega⟩
        · rw [HR.out]
          congr 1
          funext x
          simp
        · unfold OwnsI cellsI
          rw [List.map_append, List.length_append]
          exact HOWN.out
    · have hp2 : ¬ (pos : Int) < (s.size : Int) := by omega
      rw [List.drop_of_length_le (by rw [len_bytes]; omega), runesL_nil] at hrs
      have HR := Lib.hid hrs
      clear hrs
      go_wp2_with fail
      go_returns
      exact ⟨hB, .inr ⟨_, acc, by rw [HR.out]; simp, rfl, hown⟩⟩
theorem OwnsI.cell {b : Nat} {W : World} {v : Value} {l : List Nat} (h : OwnsI b W v l) (h0 : l ≠ []) : ∃ g c, v = .slice (some ⟨g, 0, none⟩) l.length c ∧ ∀ (k : Nat) (hk : k < l.length), W.cell? ⟨g, k, none⟩ = some (.int .i64 (l[k] : Nat)) := by
  rcases h.2 with ⟨_, hz⟩ | ⟨g, cap, cur, rfl, h2, h3, h4, h5, h6, h7⟩
  · exact absurd (List.eq_nil_of_length_eq_zero hz) h0
  · refine ⟨g, cap, rfl, fun k hk => ?_⟩
    have e : W.cell? ⟨g, k, none⟩ = cur[k]? := by simp [World.cell?, h3]
    rw [e]
    have h8 : (cur.toList.take (l.length * 1))[k]? = cur.toList[k]? := by rw [List.getElem?_take]; rw [if_pos (by omega)]
    rw [h7] at h8
    rw [← Array.getElem?_toList, ← h8]
    simp [cellsI, hk]
set_option maxHeartbeats 8000000 in
set_option maxRecDepth 100000 in
theorem rtcheck_c (s : ByteArray) (w : World) (hs : s.size ≤ 1000000) : Ret 95 #[.string s] w (.int .i64 (tagErr s.data.toList)) := by
  have c := fun w => runes_c s w hs
  have C := Lib.hid c
  clear c
  cases hr : runesL s.data.toList with
  | none =>
    rw [show tagErr s.data.toList = 16 by unfold tagErr tagOk; rw [hr]; rfl]
    go_enter Tryz.func95, Tryz.ntmps95
    go_wp2_with fail
    refine Calls.mono (C.out _) ?_
    rintro e w1 ⟨hb, ⟨-, rfl⟩ | ⟨v, rs, h, -⟩⟩
    · go_wp2_with fail
      go_returns
      exact ⟨rfl, hb⟩
    · rw [hr] at h
      cases h
  | some rs =>
    by_cases hl : 1 ≤ rs.length ∧ rs.length ≤ 24
    · have hne : rs ≠ [] := by intro e; rw [e] at hl; simp at hl
      have p1 : decide ((rs.length : Int) < 1) = false := decide_eq_false (by omega)
      have p2 : decide ((24 : Int) < (rs.length : Int)) = false := decide_eq_false (by omega)
      have hv : ∀ a, rs.all runeOk = a → tagErr s.data.toList = if a then 0 else 16 := by
        intro a ha
        unfold tagErr tagOk
        rw [hr]
        simp only [tagOf, decide_eq_true hl.1, decide_eq_true hl.2, ha, Bool.true_and]
      generalize tagErr s.data.toList = V at *
      have HV := Lib.hid hv
      clear hv
      go_enter Tryz.func95, Tryz.ntmps95
      go_wp2_with fail
      refine Calls.mono (C.out _) ?_
      rintro e w1 ⟨hb, ⟨h, -⟩ | ⟨v, rs', h, rfl, ho⟩⟩
      · rw [hr] at h
        cases h
      · rw [hr] at h
        injection h with h
        subst h
        obtain ⟨g, cc, rfl, hcell⟩ := ho.cell hne
        clear ho
        go_wp2_with fail
        go_loopw [5] (fun iv wr => ∃ (k : Nat), iv = .int .i64 k ∧ k ≤ rs.length ∧ wr = w1 ∧ (rs.take k).all runeOk = true) (fun iv _ => rs.length - (intOf iv).toNat)
        case atStart => exact ⟨0, rfl, by omega, rfl, by simp⟩
        case round =>
          obtain ⟨k, rfl, hk, rfl, hall⟩ := hrel
          by_cases hkl : k < rs.length
          · have hk2 : (k : Int) < (rs.length : Int) := by omega
            have hck := hcell k hkl
            have htk : rs.take (k + 1) = rs.take k ++ [rs[k]] := by rw [List.take_add_one, List.getElem?_eq_getElem hkl]; rfl
            cases hro : runeOk rs[k] with
            | true =>
              have h2 : 32 ≤ rs[k] ∧ rs[k] ≠ 127 := by unfold runeOk at hro; simpa using hro
              have q1 : decide ((rs[k] : Int) < 32) = false := decide_eq_false (by omega)
              have q2 : ((rs[k] : Int) == 127) = false := by rw [beq_eq_false_iff_ne]; omega
              have HT : (rs.take (k + 1)).all runeOk = true := by rw [htk, List.all_append, hall]; simp [hro]
              clear htk hall
              go_wp2_with fail
              exact ⟨⟨k + 1, by go_num, by omega, trivial, HT⟩, by simp [intOf]; omega⟩
            | false =>
              have hna : rs.all runeOk = false := by
                rw [List.all_eq_false]
                exact ⟨rs[k], List.getElem_mem hkl, by simp [hro]⟩
              have HN := Lib.hid hna
              clear hna htk hall
              by_cases h32 : rs[k] < 32
              · have q1 : decide ((rs[k] : Int) < 32) = true := decide_eq_true (by omega)
                go_wp2_with fail
                rw [show V = 16 from HV.out _ HN.out]
                go_returns
                exact ⟨rfl, hb⟩
              · have q1 : decide ((rs[k] : Int) < 32) = false := decide_eq_false (by omega)
                have q2 : ((rs[k] : Int) == 127) = true := by
                  unfold runeOk at hro
                  rw [decide_eq_true (show 32 ≤ rs[k] by omega)] at hro
                  simp at hro
                  rw [beq_iff_eq]
                  omega
                go_wp2_with fail
                rw [show V = 16 from HV.out _ HN.out]
                go_returns
                exact ⟨rfl, hb⟩
          · obtain rfl : k = rs.length := by omega
            rw [List.take_length] at hall
            have HA := Lib.hid hall
            clear hall
            go_wp2_with fail
            rw [show V = 0 from HV.out _ HA.out]
            go_returns
            exact ⟨rfl, hb⟩
    · have hv : tagErr s.data.toList = 16 := by
        unfold tagErr tagOk
        rw [hr]
        unfold tagOf
        rw [if_neg]
        intro h
        simp only [Bool.and_eq_true, decide_eq_true_iff] at h
        omega
      rw [hv]
      by_cases h1 : rs.length < 1
      · have p1 : decide ((rs.length : Int) < 1) = true := decide_eq_true (by omega)
        go_enter Tryz.func95, Tryz.ntmps95
        go_wp2_with fail
        refine Calls.mono (C.out _) ?_
        rintro e w1 ⟨hb, ⟨h, -⟩ | ⟨v, rs', h, rfl, ho⟩⟩
        · rw [hr] at h
          cases h
        · rw [hr] at h
          injection h with h
          subst h
          obtain ⟨pp, cc, rfl⟩ := ho.len
          go_wp2_with fail
          go_returns
          exact ⟨rfl, hb⟩
      · have p1 : decide ((rs.length : Int) < 1) = false := decide_eq_false (by omega)
        have p2 : decide ((24 : Int) < (rs.length : Int)) = true := decide_eq_true (by omega)
        go_enter Tryz.func95, Tryz.ntmps95
        go_wp2_with fail
        refine Calls.mono (C.out _) ?_
        rintro e w1 ⟨hb, ⟨h, -⟩ | ⟨v, rs', h, rfl, ho⟩⟩
        · rw [hr] at h
          cases h
        · rw [hr] at h
          injection h with h
          subst h
          obtain ⟨pp, cc, rfl⟩ := ho.len
          go_wp2_with fail
          go_returns
          exact ⟨rfl, hb⟩
end Go.Proofs.YtkjpdciccablpaaGreatDoor

/- The reference's Quote and Unquote (chapter 2): their contracts. -/
namespace Go.Proofs.YtkjpdciccablpaaGreatDoor
open Go.RowKit
set_option linter.unusedVariables false
set_option linter.unusedSimpArgs false

def OwnsB (base : Nat) (W : World) (v : Value) (l : List UInt8) : Prop := W.ownsRow base 5 1 v l.length (Lib.byteCells l)
theorem OwnsB.on {b : Nat} {W W' : World} {v : Value} {l : List UInt8} (h : OwnsB b W v l) (hb : Below W.heap.size W W') : OwnsB b W' v l := by
  refine ⟨h.1, ?_⟩
  rcases h.2 with h0 | ⟨g, cap, cur, h1, h2, h3, h4⟩
  · exact .inl h0
  · exact .inr ⟨g, cap, cur, h1, h2, (hb.block g (Array.getElem?_eq_some_iff.1 h3).1).trans h3, h4⟩
theorem OwnsB.new (W : World) (c : UInt8) : OwnsB W.heap.size (W.alloc (.cells #[.int .u8 (c.toNat : Int)] 5)) (.slice (some ⟨W.heap.size, 0, none⟩) 1 1) [c] := by
  refine ⟨by simp [Lib.byteCells], .inr ⟨W.heap.size, 1, #[.int .u8 (c.toNat : Int)], rfl, Nat.le_refl _, ?_, by simp, by unfold maxLen; omega, by simp, by simp [Lib.byteCells]⟩⟩
  exact (Row.new (W := W) (cs := #[.int .u8 (c.toNat : Int)]) (t := 5)).eq
/-- The text of bytes of its own. -/
theorem conv_own {b : Nat} {W : World} {v : Value} {l : List UInt8} (h : OwnsB b W v l) : (convert 151 9 v).run Tryz.prog W = .ok (.string ⟨l.toArray⟩) W := by
  rcases h.2 with ⟨rfl, h0⟩ | ⟨g, cap, cur, rfl, h2, h3, h4, h5, h6, h7⟩
  · obtain rfl : l = [] := List.eq_nil_of_length_eq_zero h0
    rw [List.length_nil] at *
    rw [run_convert_bytes_string W _ _ 5 none 0 0 Tryz.underlying151 Tryz.underlying5 Tryz.underlying9]
    rfl
  · refine run_convert_bytes_back (P := Tryz.prog) W 151 9 5 ⟨g, 0, none⟩ cap l Tryz.underlying151 Tryz.underlying5 Tryz.underlying9 (fun j hj => ?_)
    have e : W.cell? ((⟨g, 0, none⟩ : Addr).add j) = cur[j]? := by cases j <;> simp [World.cell?, h3, Addr.add]
    rw [e]
    have h8 : (cur.toList.take (l.length * 1))[j]? = cur.toList[j]? := by rw [List.getElem?_take]; rw [if_pos (by omega)]
    rw [h7] at h8
    rw [← Array.getElem?_toList, ← h8]
    simp [Lib.byteCells, hj]
theorem byte_src (W : World) (c : Int) : ∀ (j : Nat) (v : Value), ([.int .u8 c] : List Value)[j]? = some v → (W.alloc (.cells #[.int .u8 c] 5)).cell? ((⟨W.heap.size, 0, none⟩ : Addr).add j) = some v := by
  intro j v hj
  match j, hj with
  | 0, hj => simp at hj; subst hj; simp [Addr.add]
theorem byte_info : (Tryz.prog.info? 5).map (fun i => (i.zero, i.size, i.bytes)) = some (some (.int .u8 0), 1, 1) := by kernel_rfl
/-- What a row of bytes is behind an append of one. -/
theorem OwnsB.snoc {B : Nat} {W : World} {v : Value} {l : List UInt8} {c : UInt8} (h : W.ownsRow B 5 1 v (l.length + 1) (Lib.byteCells l ++ [.int .u8 (c.toNat : Int)])) : OwnsB B W v (l ++ [c]) := by
  unfold OwnsB
  rw [Lib.byteCells_append, List.length_append]
  exact h
theorem take_next (s : ByteArray) (k : Nat) (h : k < s.size) : s.data.toList.take (k + 1) = s.data.toList.take k ++ [s[k]] := by
  have h' : k < s.data.toList.length := by rw [len_bytes]; exact h
  rw [List.take_add_one, List.getElem?_eq_getElem h']
  rfl
end Go.Proofs.YtkjpdciccablpaaGreatDoor

/- The reference's Unquote (chapter 2): its contract. -/
namespace Go.Proofs.YtkjpdciccablpaaGreatDoor
open Go.RowKit
set_option linter.unusedVariables false
set_option linter.unusedSimpArgs false
theorem sc_first (t : List UInt8) : Sc t [] 0 t := by
  unfold Sc
  cases scanL t <;> simp
/-- One byte further. -/
theorem sc_plain {t acc rest : List UInt8} {off : Nat} {c : UInt8} (h : Sc t acc off (c :: rest)) (h1 : c ≠ 34) (h2 : c ≠ 92) : Sc t (acc ++ [c]) (off + 1) rest := by
  unfold Sc at *
  rw [h, scanL_cons _ _ h1 h2, Option.map_map]
  congr 1
  funext x
  refine Prod.ext ?_ ?_
  · simp
  · simp; omega
theorem sc_esc {t acc rest : List UInt8} {off : Nat} {d : UInt8} (h : Sc t acc off (92 :: d :: rest)) (hd : d = 34 ∨ d = 92) : Sc t (acc ++ [d]) (off + 2) rest := by
  unfold Sc at *
  rw [h, scanL_slash, if_pos hd, Option.map_map]
  congr 1
  funext x
  refine Prod.ext ?_ ?_
  · simp
  · simp; omega
theorem sc_stop {t acc rest : List UInt8} {off : Nat} (h : Sc t acc off (34 :: rest)) : scanL t = some (acc, off + 1) := by
  unfold Sc at h
  rw [h, scanL_quote]
  simp
end Go.Proofs.YtkjpdciccablpaaGreatDoor
