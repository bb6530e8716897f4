/- The program's functions on resources: their contracts. -/
import Derived.Test.YtgckfiadnmjonabGreatDoorHRes1
import Derived.Test.YtgckfiadnmjonabGreatDoorL0b
import Derived.Test.YtgckfiadnmjonabGreatDoorHDescr5
namespace Go.Proofs.YtgckfiadnmjonabGreatDoor
open Go.RowKit
set_option linter.unusedVariables false
set_option linter.unusedSimpArgs false
theorem rerr_c (k i g st wy tr nx : Int) (tag : ByteArray) (w : World) (g0 : 0 ≤ g) (g1 : g ≤ 4294967295) (hs : tag.size ≤ 1000000) : Ret 13 #[rV k i g st wy tr nx tag] w (.int .i64 (rErr k i g st wy tr nx tag)) := by
  have c := fun w => poss_c2 k i g st wy tr nx tag w g0 g1
  have c2 := fun w => tcheck_c tag w hs
  unfold rErr
  cases hp : pOk k i g st wy tr nx with
  | false =>
    rw [hp] at c
    have C := Lib.hid c
    clear c c2
    go_enter Tryz.func13, Tryz.ntmps13
    go_wp2_with fail
    refine Calls.mono (C.out _) ?_
    rintro e w1 ⟨rfl, hb⟩
    go_wp2_with fail
    go_returns
    exact ⟨rfl, under hb⟩
  | true =>
    rw [hp] at c
    have C := Lib.hid c
    have C2 := Lib.hid c2
    clear c c2
    go_enter Tryz.func13, Tryz.ntmps13
    go_wp2_with fail
    refine Calls.mono (C.out _) ?_
    rintro e w1 ⟨rfl, hb⟩
    have r1 := (Row.new (W := w) (cs := rC k i g st wy tr nx tag) (t := 27)).on hb
    have hc : Below w.heap.size w w1 := under hb
    have y0 := r1.cell
    have y1 := r1.lt
    go_wp2_with fail
    refine Calls.mono (C2.out _) ?_
    rintro e w2 ⟨rfl, hb⟩
    go_wp2_with fail
    go_returns
    exact ⟨rfl, chain hc hb⟩
theorem chkE_bad {k i g st wy tr nx : Int} {tag : ByteArray} {al : Bool} {want : Int} (h : rErr k i g st wy tr nx tag ≠ 0) : chkE k i g st wy tr nx tag al want = rErr k i g st wy tr nx tag := by unfold chkE; rw [if_pos h]
theorem chkE_not {k i g st wy tr nx : Int} {tag : ByteArray} {want : Int} (h : rErr k i g st wy tr nx tag = 0) : chkE k i g st wy tr nx tag false want = 2 := by unfold chkE; rw [if_neg (by simp [h]), if_pos rfl]
theorem chkE_st {k i g st wy tr nx : Int} {tag : ByteArray} {want : Int} (h : rErr k i g st wy tr nx tag = 0) (hw : st ≠ want) : chkE k i g st wy tr nx tag true want = 8 := by unfold chkE; rw [if_neg (by simp [h]), if_neg (by simp), if_pos hw]
theorem chkE_ok {k i g st wy tr nx : Int} {tag : ByteArray} {want : Int} (h : rErr k i g st wy tr nx tag = 0) (hw : st = want) : chkE k i g st wy tr nx tag true want = 0 := by unfold chkE; rw [if_neg (by simp [h]), if_neg (by simp), if_neg (by simp [hw])]
set_option maxHeartbeats 4000000 in
set_option maxRecDepth 20000 in
theorem chk_c (k i g st wy tr nx : Int) (tag : ByteArray) (al : Bool) (want : Int) (w : World) (g0 : 0 ≤ g) (g1 : g ≤ 4294967295) (hs : tag.size ≤ 1000000) : Ret 18 #[rV k i g st wy tr nx tag, .bool al, .int .i64 want] w (.int .i64 (chkE k i g st wy tr nx tag al want)) := by
  have c := fun w => rerr_c k i g st wy tr nx tag w g0 g1 hs
  by_cases he : rErr k i g st wy tr nx tag = 0
  · rw [he] at c
    have CC := Lib.hid c
    clear c
    cases al with
    | false =>
      rw [chkE_not he]
      clear he
      go_enter Tryz.func18, Tryz.ntmps18
      go_wp2_with fail
      refine Calls.mono (CC.out _) ?_
      rintro e w1 ⟨rfl, hb⟩
      go_wp2_with fail
      go_returns
      exact ⟨rfl, under hb⟩
    | true =>
      by_cases hw : st = want
      · subst hw
        rw [chkE_ok he rfl]
        have q : (st != st) = false := by simp
        clear he
        go_enter Tryz.func18, Tryz.ntmps18
        go_wp2_with fail
        refine Calls.mono (CC.out _) ?_
        rintro e w1 ⟨rfl, hb⟩
        have r1 := (Row.new (W := w) (cs := rC k i g st wy tr nx tag) (t := 27)).on hb
        have y0 := r1.cell
        have y1 := r1.lt
        go_wp2_with fail
        go_returns
        exact ⟨rfl, under hb⟩
      · rw [chkE_st he hw]
        have q : (st != want) = true := by rw [bne_iff_ne]; exact hw
        clear he
        go_enter Tryz.func18, Tryz.ntmps18
        go_wp2_with fail
        refine Calls.mono (CC.out _) ?_
        rintro e w1 ⟨rfl, hb⟩
        have r1 := (Row.new (W := w) (cs := rC k i g st wy tr nx tag) (t := 27)).on hb
        have y0 := r1.cell
        have y1 := r1.lt
        go_wp2_with fail
        go_returns
        exact ⟨rfl, under hb⟩
  · rw [chkE_bad he]
    have q : (rErr k i g st wy tr nx tag != 0) = true := by rw [bne_iff_ne]; exact he
    generalize rErr k i g st wy tr nx tag = er at *
    have CC := Lib.hid c
    clear c
    go_enter Tryz.func18, Tryz.ntmps18
    go_wp2_with fail
    refine Calls.mono (CC.out _) ?_
    rintro e w1 ⟨rfl, hb⟩
    go_wp2_with fail
    go_returns
    exact ⟨rfl, under hb⟩
set_option maxHeartbeats 4000000 in
set_option maxRecDepth 20000 in
theorem over_c (k i g st wy tr nx : Int) (tag : ByteArray) (w : World) (g0 : 0 ≤ g) (g1 : g ≤ 4294967295) (hs : tag.size ≤ 1000000) : Ret 11 #[rV k i g st wy tr nx tag] w (overV k i g st wy tr nx tag) := by
  have c := fun w => rerr_c k i g st wy tr nx tag w g0 g1 hs
  unfold overV
  generalize rErr k i g st wy tr nx tag = er at *
  have CC := Lib.hid c
  clear c
  by_cases he : er = 0
  · rw [if_pos he]
    subst he
    by_cases h3 : st = 3
    · subst h3
      go_enter Tryz.func11, Tryz.ntmps11
      go_wp2_with fail
      refine Calls.mono (CC.out _) ?_
      rintro e w1 ⟨rfl, hb⟩
      have r1 := (Row.new (W := w) (cs := rC k i g 3 wy tr nx tag) (t := 27)).on hb
      have y0 := r1.cell
      have y1 := r1.lt
      go_wp2_with fail
      go_returns
      exact ⟨rfl, under hb⟩
    by_cases h4 : st = 4
    · subst h4
      go_enter Tryz.func11, Tryz.ntmps11
      go_wp2_with fail
      refine Calls.mono (CC.out _) ?_
      rintro e w1 ⟨rfl, hb⟩
      have r1 := (Row.new (W := w) (cs := rC k i g 4 wy tr nx tag) (t := 27)).on hb
      have y0 := r1.cell
      have y1 := r1.lt
      go_wp2_with fail
      go_returns
      exact ⟨rfl, under hb⟩
    · have q3 : (st == 3) = false := by rw [beq_eq_false_iff_ne]; exact h3
      have q4 : (st == 4) = false := by rw [beq_eq_false_iff_ne]; exact h4
      rw [decide_eq_false h3, decide_eq_false h4]
      go_enter Tryz.func11, Tryz.ntmps11
      go_wp2_with fail
      refine Calls.mono (CC.out _) ?_
      rintro e w1 ⟨rfl, hb⟩
      have r1 := (Row.new (W := w) (cs := rC k i g st wy tr nx tag) (t := 27)).on hb
      have y0 := r1.cell
      have y1 := r1.lt
      go_wp2_with fail
      go_returns
      exact ⟨rfl, under hb⟩
  · rw [if_neg he]
    have q : (er != 0) = true := by rw [bne_iff_ne]; exact he
    go_enter Tryz.func11, Tryz.ntmps11
    go_wp2_with fail
    refine Calls.mono (CC.out _) ?_
    rintro e w1 ⟨rfl, hb⟩
    go_wp2_with fail
    go_returns
    exact ⟨rfl, under hb⟩

set_option maxHeartbeats 8000000 in
set_option maxRecDepth 20000 in
theorem new_c (k i g : Int) (tag : ByteArray) (w : World) (g0 : 0 ≤ g) (g1 : g ≤ 4294967295) (hs : tag.size ≤ 1000000) : Ret 16 #[.agg #[.int .i64 k, .int .i64 i, .int .u32 g], .string tag] w (newV k i g tag) := by
  have c := fun w => rerr_c k i g 1 0 0 0 tag w g0 g1 hs
  unfold newV
  generalize rErr k i g 1 0 0 0 tag = er at *
  have CC := Lib.hid c
  clear c
  by_cases he : er = 0
  · rw [if_pos he]
    subst he
    go_enter Tryz.func16, Tryz.ntmps16
    go_wp2_with fail
    refine Calls.mono (CC.out _) ?_
    rintro e w1 ⟨rfl, hb⟩
    have r2 := ((Row.new (W := w.alloc (.cells #[.int .i64 k, .int .i64 i, .int .u32 g] 25)) (cs := rC 0 0 0 0 0 0 0 ⟨#[]⟩) (t := 27)).on (below_alloc _ (.cells (rC k i g 1 0 0 0 tag) 27))).on hb
    have r3 := (Row.new (W := (w.alloc (.cells #[.int .i64 k, .int .i64 i, .int .u32 g] 25)).alloc (.cells (rC 0 0 0 0 0 0 0 ⟨#[]⟩) 27)) (cs := rC k i g 1 0 0 0 tag) (t := 27)).on hb
    rw [World.size_alloc] at r2 r3
    rw [World.size_alloc] at r3
    have hc : Below w.heap.size w w1 := under hb
    clear hb
    have y2 := r2.cell
    have y2f := r2.free
    have y2l := r2.lt
    have y3 := r3.cell
    have y3l := r3.lt
    have hp : w.heap.size ≤ w.heap.size + 1 := Nat.le_succ _
    generalize w.heap.size + 1 + 1 = p3 at *
    generalize w.heap.size + 1 = p2 at *
    go_wp2_with fail
    clear y2 y2f y2l y3 y3l
    replace r2 := ((((((((r2.set 0 (.int .i64 k)).set 1 (.int .i64 i)).set 2 (.int .u32 g)).set 3 (.int .i64 1)).set 4 (.int .i64 0)).set 5 (.int .i64 0)).set 6 (.int .i64 0)).set 7 (.string tag))
    replace hc := ((((((((hc.setCell (p := ⟨p2, 0, none⟩) hp (.int .i64 k)).setCell (p := ⟨p2, 1, none⟩) hp (.int .i64 i)).setCell (p := ⟨p2, 2, none⟩) hp (.int .u32 g)).setCell (p := ⟨p2, 3, none⟩) hp (.int .i64 1)).setCell (p := ⟨p2, 4, none⟩) hp (.int .i64 0)).setCell (p := ⟨p2, 5, none⟩) hp (.int .i64 0)).setCell (p := ⟨p2, 6, none⟩) hp (.int .i64 0)).setCell (p := ⟨p2, 7, none⟩) hp (.string tag))
    simp only [List.setIfInBounds_toArray, List.set_cons_zero, List.set_cons_succ] at r2
    generalize hW : World.setCell _ _ _ = Z at *
    clear hW
    have q0 := r2.cell 0
    have q1 := r2.cell 1
    have q2 := r2.cell 2
    have q3 := r2.cell 3
    have q4 := r2.cell 4
    have q5 := r2.cell 5
    have q6 := r2.cell 6
    have q7 := r2.cell 7
    simp only [List.getElem?_toArray, List.getElem?_cons_succ, List.getElem?_cons_zero] at q0 q1 q2 q3 q4 q5 q6 q7
    clear r2 r3
    refine bodyPost_ret (v := .tuple #[rV k i g 1 0 0 0 tag, .int .i64 0]) (by simp [results, Tryz.results16, go_sem, q0, q1, q2, q3, q4, q5, q6, q7]) rfl ⟨rfl, hc⟩
  · rw [if_neg he]
    have q : (er != 0) = true := by rw [bne_iff_ne]; exact he
    go_enter Tryz.func16, Tryz.ntmps16
    go_wp2_with fail
    refine Calls.mono (CC.out _) ?_
    rintro e w1 ⟨rfl, hb⟩
    have r2 := ((Row.new (W := w.alloc (.cells #[.int .i64 k, .int .i64 i, .int .u32 g] 25)) (cs := rC 0 0 0 0 0 0 0 ⟨#[]⟩) (t := 27)).on (below_alloc _ (.cells (rC k i g 1 0 0 0 tag) 27))).on hb
    have r3 := (Row.new (W := (w.alloc (.cells #[.int .i64 k, .int .i64 i, .int .u32 g] 25)).alloc (.cells (rC 0 0 0 0 0 0 0 ⟨#[]⟩) 27)) (cs := rC k i g 1 0 0 0 tag) (t := 27)).on hb
    rw [World.size_alloc] at r2 r3
    rw [World.size_alloc] at r3
    have hc : Below w.heap.size w w1 := under hb
    clear hb
    have y2 := r2.cell
    have y2f := r2.free
    have y2l := r2.lt
    have y3 := r3.cell
    have y3l := r3.lt
    have hp : w.heap.size ≤ w.heap.size + 1 := Nat.le_succ _
    generalize w.heap.size + 1 + 1 = p3 at *
    generalize w.heap.size + 1 = p2 at *
    go_wp2_with fail
    clear y2 y2f y2l y3 y3l
    replace r2 := ((((((((r2.set 0 (.int .i64 0)).set 1 (.int .i64 0)).set 2 (.int .u32 0)).set 3 (.int .i64 0)).set 4 (.int .i64 0)).set 5 (.int .i64 0)).set 6 (.int .i64 0)).set 7 (.string ⟨#[]⟩))
    replace hc := ((((((((hc.setCell (p := ⟨p2, 0, none⟩) hp (.int .i64 0)).setCell (p := ⟨p2, 1, none⟩) hp (.int .i64 0)).setCell (p := ⟨p2, 2, none⟩) hp (.int .u32 0)).setCell (p := ⟨p2, 3, none⟩) hp (.int .i64 0)).setCell (p := ⟨p2, 4, none⟩) hp (.int .i64 0)).setCell (p := ⟨p2, 5, none⟩) hp (.int .i64 0)).setCell (p := ⟨p2, 6, none⟩) hp (.int .i64 0)).setCell (p := ⟨p2, 7, none⟩) hp (.string ⟨#[]⟩))
    simp only [List.setIfInBounds_toArray, List.set_cons_zero, List.set_cons_succ] at r2
    generalize hW : World.setCell _ _ _ = Z at *
    clear hW
    have q0 := r2.cell 0
    have q1 := r2.cell 1
    have q2 := r2.cell 2
    have q3 := r2.cell 3
    have q4 := r2.cell 4
    have q5 := r2.cell 5
    have q6 := r2.cell 6
    have q7 := r2.cell 7
    simp only [List.getElem?_toArray, List.getElem?_cons_succ, List.getElem?_cons_zero] at q0 q1 q2 q3 q4 q5 q6 q7
    clear r2 r3
    refine bodyPost_ret (v := .tuple #[r0V, .int .i64 er]) (by simp [results, Tryz.results16, go_sem, q0, q1, q2, q3, q4, q5, q6, q7]) rfl ⟨rfl, hc⟩

end Go.Proofs.YtgckfiadnmjonabGreatDoor

/- Package descr: read, Parse, ParseOuter: a text of a descriptor is read as it, any other text is refused. -/
namespace Go.Proofs.YtgckfiadnmjonabGreatDoor
open Go.RowKit
open Go.Lib (decDigits)

theorem kIdx_letter {k : Int} (h1 : 1 ≤ k) (h2 : k ≤ 3) : kIdx (letterB k) = k := by
  rcases (by omega : k = 1 ∨ k = 2 ∨ k = 3) with rfl | rfl | rfl <;> rfl
theorem letter_kIdx {x : UInt8} (h : 1 ≤ kIdx x) : letterB (kIdx x) = x := by
  unfold kIdx at h ⊢
  by_cases e1 : x = 102
  · rw [if_pos e1, e1]; rfl
  · by_cases e2 : x = 98
    · rw [if_neg e1, if_pos e2, e2]; rfl
    · by_cases e3 : x = 108
      · rw [if_neg e1, if_neg e2, if_pos e3, e3]; rfl
      · rw [if_neg e1, if_neg e2, if_neg e3] at h; omega
theorem of_list (l : List UInt8) : (ByteArray.mk l.toArray).data.toList = l := by simp
theorem cons_facts (x : UInt8) (r : List UInt8) : (ByteArray.mk (x :: r).toArray).toList.isEmpty = false ∧ (1 : Int) ≤ (ByteArray.mk (x :: r).toArray).size ∧ (ByteArray.mk (x :: r).toArray).extract 1 (ByteArray.mk (x :: r).toArray).size = ⟨r.toArray⟩ ∧ (ByteArray.mk (x :: r).toArray).extract 0 1 = ⟨#[x]⟩ := by
  have hs : (ByteArray.mk (x :: r).toArray).size = r.length + 1 := by rw [← len_bytes]; simp
  refine ⟨by rw [ByteArray.toList_eq]; simp, by omega, ?_, ?_⟩
  · apply str_ext
    rw [Lib.extract_to_end]
    simp
  · apply str_ext
    simp
theorem gParse_bound (l : List UInt8) : 0 ≤ gParse l ∧ gParse l ≤ 4294967295 := by
  cases h : isGen l with
  | true =>
    obtain ⟨n, h1, h2, h3⟩ := (isGen_iff l).1 h
    rw [← h3, (gParse_digits h1 h2).1]
    omega
  | false => rw [(gParse_not h).1]; omega
theorem read_is (c : UInt8) (hc : sgn c) (size : Int) (hsz : size ≤ 256) (s : ByteArray) (k sl g : Int) (h : IsD c size s.data.toList k sl g) (w : World) (hE : EnvP w) :
    Ret 68 #[.string s, .string ⟨#[c]⟩, .int .i64 size] w (.tuple #[nmV k sl g, .int .i64 0]) := by
  obtain ⟨hok, gm, g0, he⟩ := h
  obtain ⟨k1, k3, s0, s1, gz⟩ := dOk_iff.1 hok
  obtain ⟨f1, f2, f3, f4⟩ := cons_facts (letterB k) (decDigits sl.toNat)
  have hsz2 : s.size ≤ 22 := by
    have := (dTextL_len c (k := k) (s := sl) (g := g) (by omega) (by omega)).1
    rw [← he, len_bytes] at this
    exact this
  have es : s = dText c k sl g := str_ext (by rw [he, dText_list])
  have hcut := fun w hE => cut_c s c w hE (by omega)
  rw [he, cut_text hc] at hcut
  have ha : Lib.atoiAll (digits sl.toNat).data.toList = .ok sl := by
    rw [digits_list, atoi_dec _ (by omega)]
    congr 1
    omega
  have hz : (digits sl.toNat).size ≤ 100000 := by have := digits_size_le sl.toNat (by omega); omega
  have hat := fun w => atoi_ok (digits sl.toNat) hz sl ha w
  have hgp := fun w hE => parse_ok g.toNat w hE (by omega) (by omega)
  rw [Int.toNat_of_nonneg g0] at hgp
  have hck := fun w => nm_check_ok size k sl g w hok g0 gm
  have htx := fun w hE => nm_text c k sl g w hE k1 k3 s0 (by omega) g0 gm
  rw [← es] at htx
  have ek := kIdx_letter k1 k3
  have := read_ok c (letterB k) size sl g s _ _ _ true w hE f1 f2 f3 f4 hcut hat hgp g0 gm (by rw [ek]; exact hck) (by rw [ek]; exact htx)
  rw [ek] at this
  exact this
theorem read_not (c : UInt8) (size : Int) (hsz : size ≤ 256) (s : ByteArray) (hs : s.size ≤ 100000) (h : ∀ k sl g, ¬ IsD c size s.data.toList k sl g) (w : World) (hE : EnvP w) :
    Ret 68 #[.string s, .string ⟨#[c]⟩, .int .i64 size] w (.tuple #[nmV 0 0 0, .int .i64 9]) := by
  have hcut := fun w hE => cut_c s c w hE hs
  obtain ⟨fl, yl, fd, e, hfl, hyl, hall⟩ : ∃ fl yl fd, Lib.cut s.data.toList [c] = (fl, yl, fd) ∧ fl.length ≤ s.data.toList.length ∧ yl.length ≤ s.data.toList.length ∧ (s.data.toList = fl ++ c :: yl ∨ yl = []) := by
    rcases mem_split s.data.toList c with hm | ⟨pre, post, hm, he⟩
    · exact ⟨_, _, _, cut_no _ _ hm, Nat.le_refl _, by simp, .inr rfl⟩
    · refine ⟨pre, post, true, by rw [he]; exact cut_at _ _ _ hm, ?_, ?_, .inl he⟩
      · rw [he]; simp
      · rw [he]; simp; omega
  rw [e] at hcut
  rw [len_bytes] at hfl hyl
  have hy : (ByteArray.mk yl.toArray).size ≤ 100000 := by rw [← len_bytes, of_list]; omega
  cases fl with
  | nil => exact read_empty c size s _ _ w hE hcut
  | cons x r =>
    obtain ⟨f1, f2, f3, f4⟩ := cons_facts x r
    have hr : (ByteArray.mk r.toArray).size ≤ 100000 := by rw [← len_bytes, of_list]; simp at hfl; omega
    have hgp := fun w hE => parse_any ⟨yl.toArray⟩ w hE hy
    rw [of_list] at hgp
    obtain ⟨gb0, gb1⟩ := gParse_bound yl
    by_cases ha : ∃ v, Lib.atoiAll (ByteArray.mk r.toArray).data.toList = .ok v
    · obtain ⟨v, ha⟩ := ha
      have hat := fun w => atoi_ok ⟨r.toArray⟩ hr v ha w
      rcases gParseE_cases yl with hg | hg
      · obtain ⟨n, n1, n2, n3, hgv⟩ := gParseE_zero hg
        rw [hg, hgv] at hgp
        cases hok : dOk size (kIdx x) v n with
        | false =>
          have hck := fun w => nm_check_bad size (kIdx x) v n w hok (by omega) (by omega)
          exact read_check c x size v n s _ _ _ fd w hE f1 f2 f3 f4 hcut hat hgp (by omega) (by omega) hck
        | true =>
          obtain ⟨k1, k3, s0, s1, _⟩ := dOk_iff.1 hok
          have hck := fun w => nm_check_ok size (kIdx x) v n w hok (by omega) (by omega)
          have htx := fun w hE => nm_text c (kIdx x) v n w hE k1 k3 s0 (by omega) (by omega) (by omega)
          refine read_text c x size v n s _ _ _ fd w hE f1 f2 f3 f4 hcut hat hgp (by omega) (by omega) hck _ (str_beq_ne fun e' => ?_) htx
          exact h (kIdx x) v n ⟨hok, by omega, by omega, by rw [← e', dText_list]⟩
      · have hg0 : gParse yl = 0 := by
          cases hi : isGen yl with
          | true =>
            obtain ⟨n, n1, n2, n3⟩ := (isGen_iff yl).1 hi
            rw [← n3, (gParse_digits n1 n2).2] at hg
            omega
          | false => exact (gParse_not hi).1
        rw [hg, hg0] at hgp
        exact read_gen c x size v 0 s _ _ _ fd w hE f1 f2 f3 f4 hcut hat hgp (by omega) (by omega)
    · have hat := fun w hE => atoi_bad ⟨r.toArray⟩ hr (fun v hv => ha ⟨v, hv⟩) w hE
      exact read_atoi c x size (gParse yl) (gParseE yl) s _ _ _ fd w hE f1 f2 f3 f4 hcut hat hgp gb0 gb1
set_option maxHeartbeats 2000000 in
theorem o_parse (s : ByteArray) (k sl g e : Int) (w : World) (g0 : 0 ≤ g) (g1 : g ≤ 4294967295)
    (hr : ∀ w, EnvP w → Ret 68 #[.string s, .string ⟨#[58]⟩, .int .i64 64] w (.tuple #[nmV k sl g, .int .i64 e])) (hE : EnvP w) :
    Ret 49 #[.string s] w (.tuple #[dV k sl g, .int .i64 e]) := by
  have hgw : IntKind.u32.wrap g = g := by rw [IntKind.wrap_u32]; omega
  have HR := Lib.hid hr
  clear hr
  go_enter Tryz.func49, Tryz.ntmps49
  go_wp2_with fail
  refine (HR.out _ (hE.alloc _)).mono ?_
  rintro e w1 ⟨rfl, hb1⟩
  have c0 : w1.cell? ⟨w.heap.size, 0, none⟩ = some (.int .i64 0) := by rw [(bcell hb1).1 _ _ (by simp)]; simp
  have c1 : w1.cell? ⟨w.heap.size, 1, none⟩ = some (.int .i64 0) := by rw [(bcell hb1).1 _ _ (by simp)]; simp
  have c2 : w1.cell? ⟨w.heap.size, 2, none⟩ = some (.int .u32 0) := by rw [(bcell hb1).1 _ _ (by simp)]; simp
  have fr : ∀ o, w1.frozen? ⟨w.heap.size, o, none⟩ = false := fun o => by rw [(bcell hb1).2 _ _ (by simp)]; simp
  have z1 : w.heap.size < w1.heap.size := by have := hb1.size; simp at this; omega
  have z2 : w.heap.size < w1.heap.size + 1 := by omega
  have z3 : w.heap.size < w1.heap.size + 1 + 1 := by omega
  have hc1 := under (w := w) hb1
  clear hb1
  go_wp2_with go_in
  refine bodyPost_ret (v := .tuple #[dV k sl g, .int .i64 e]) (by simp [results, Tryz.results49, go_sem, c0, c1, c2, z1, z2, z3]) rfl ⟨rfl, ?_⟩
  repeat (refine Below.setCell ?_ (by simp) _)
  go_grown
theorem o_parse_is (s : ByteArray) (k sl g : Int) (h : IsD 58 64 s.data.toList k sl g) (w : World) (hE : EnvP w) : Ret 49 #[.string s] w (.tuple #[dV k sl g, .int .i64 0]) :=
  o_parse s k sl g 0 w h.g0 h.gm (fun w hE => read_is 58 (by simp [sgn]) 64 (by omega) s k sl g h w hE) hE
theorem o_parse_not (s : ByteArray) (hs : s.size ≤ 100000) (h : ∀ k sl g, ¬ IsD 58 64 s.data.toList k sl g) (w : World) (hE : EnvP w) : Ret 49 #[.string s] w (.tuple #[dV 0 0 0, .int .i64 9]) :=
  o_parse s 0 0 0 9 w (by omega) (by omega) (fun w hE => read_not 58 64 (by omega) s hs h w hE) hE
end Go.Proofs.YtgckfiadnmjonabGreatDoor
