/- The program's functions on resources: their contracts. -/
import Derived.Test.YtgckfiadnmjonaaGreatDoorHRes1
import Derived.Test.YtgckfiadnmjonaaGreatDoorL0b
import Derived.Test.YtgckfiadnmjonaaGreatDoorHDescr5
import Derived.Deep.LoopGhost
import Derived.Test.YtgckfiadnmjonaaGreatDoorHRune
import Derived.Test.YtgckfiadnmjonaaGreatDoorL0a
import Derived.Laws.AppendOwn
namespace Go.Proofs.YtgckfiadnmjonaaGreatDoor
open Go.RowKit
set_option linter.unusedVariables false
set_option linter.unusedSimpArgs false
theorem rerr_c (k i g st wy tr nx : Int) (tag : ByteArray) (w : World) (g0 : 0 ≤ g) (g1 : g ≤ 4294967295) (hs : tag.size ≤ 1000000) : Ret 12 #[rV k i g st wy tr nx tag] w (.int .i64 (rErr k i g st wy tr nx tag)) := by
  have c := fun w => poss_c2 k i g st wy tr nx tag w g0 g1
  have c2 := fun w => tcheck_c tag w hs
  unfold rErr
  cases hp : pOk k i g st wy tr nx with
  | false =>
    rw [hp] at c
    have C := Lib.hid c
    clear c c2
    go_enter Tryz.func12, Tryz.ntmps12
    go_wp2_with fail
    refine Calls.mono (C.out _) ?_
    rintro e w1 ⟨rfl, hb⟩
    go_wp2_with fail
    go_returns
    exact ⟨rfl, under hb⟩
  | true =>
    rw [hp] at c
    have C := Lib.hid c
    have C2 := Lib.hid c2
    clear c c2
    go_enter Tryz.func12, Tryz.ntmps12
    go_wp2_with fail
    refine Calls.mono (C.out _) ?_
    rintro e w1 ⟨rfl, hb⟩
    have r1 := (Row.new (W := w) (cs := rC k i g st wy tr nx tag) (t := 26)).on hb
    have hc : Below w.heap.size w w1 := under hb
    have y0 := r1.cell
    have y1 := r1.lt
    go_wp2_with fail
    refine Calls.mono (C2.out _) ?_
    rintro e w2 ⟨rfl, hb⟩
    go_wp2_with fail
    go_returns
    exact ⟨rfl, chain hc hb⟩
theorem chkE_bad {k i g st wy tr nx : Int} {tag : ByteArray} {al : Bool} {want : Int} (h : rErr k i g st wy tr nx tag ≠ 0) : chkE k i g st wy tr nx tag al want = rErr k i g st wy tr nx tag := by unfold chkE; rw [if_pos h]
theorem chkE_not {k i g st wy tr nx : Int} {tag : ByteArray} {want : Int} (h : rErr k i g st wy tr nx tag = 0) : chkE k i g st wy tr nx tag false want = 2 := by unfold chkE; rw [if_neg (by simp [h]), if_pos rfl]
theorem chkE_st {k i g st wy tr nx : Int} {tag : ByteArray} {want : Int} (h : rErr k i g st wy tr nx tag = 0) (hw : st ≠ want) : chkE k i g st wy tr nx tag true want = 8 := by unfold chkE; rw [if_neg (by simp [h]), if_neg (by simp), if_pos hw]
theorem chkE_ok {k i g st wy tr nx : Int} {tag : ByteArray} {want : Int} (h : rErr k i g st wy tr nx tag = 0) (hw : st = want) : chkE k i g st wy tr nx tag true want = 0 := by unfold chkE; rw [if_neg (by simp [h]), if_neg (by simp), if_neg (by simp [hw])]
set_option maxHeartbeats 4000000 in
set_option maxRecDepth 20000 in
theorem chk_c (k i g st wy tr nx : Int) (tag : ByteArray) (al : Bool) (want : Int) (w : World) (g0 : 0 ≤ g) (g1 : g ≤ 4294967295) (hs : tag.size ≤ 1000000) : Ret 27 #[rV k i g st wy tr nx tag, .bool al, .int .i64 want] w (.int .i64 (chkE k i g st wy tr nx tag al want)) := by
  have c := fun w => rerr_c k i g st wy tr nx tag w g0 g1 hs
  by_cases he : rErr k i g st wy tr nx tag = 0
  · rw [he] at c
    have CC := Lib.hid c
    clear c
    cases al with
    | false =>
      rw [chkE_not he]
      clear he
      go_enter Tryz.func27, Tryz.ntmps27
      go_wp2_with fail
      refine Calls.mono (CC.out _) ?_
      rintro e w1 ⟨rfl, hb⟩
      go_wp2_with fail
      go_returns
      exact ⟨rfl, under hb⟩
    | true =>
      by_cases hw : st = want
      · subst hw
        rw [chkE_ok he rfl]
        have q : (st != st) = false := by simp
        clear he
        go_enter Tryz.func27, Tryz.ntmps27
        go_wp2_with fail
        refine Calls.mono (CC.out _) ?_
        rintro e w1 ⟨rfl, hb⟩
        have r1 := (Row.new (W := w) (cs := rC k i g st wy tr nx tag) (t := 26)).on hb
        have y0 := r1.cell
        have y1 := r1.lt
        go_wp2_with fail
        go_returns
        exact ⟨rfl, under hb⟩
      · rw [chkE_st he hw]
        have q : (st != want) = true := by rw [bne_iff_ne]; exact hw
        clear he
        go_enter Tryz.func27, Tryz.ntmps27
        go_wp2_with fail
        refine Calls.mono (CC.out _) ?_
        rintro e w1 ⟨rfl, hb⟩
        have r1 := (Row.new (W := w) (cs := rC k i g st wy tr nx tag) (t := 26)).on hb
        have y0 := r1.cell
        have y1 := r1.lt
        go_wp2_with fail
        go_returns
        exact ⟨rfl, under hb⟩
  · rw [chkE_bad he]
    have q : (rErr k i g st wy tr nx tag != 0) = true := by rw [bne_iff_ne]; exact he
    generalize rErr k i g st wy tr nx tag = er at *
    have CC := Lib.hid c
    clear c
    go_enter Tryz.func27, Tryz.ntmps27
    go_wp2_with fail
    refine Calls.mono (CC.out _) ?_
    rintro e w1 ⟨rfl, hb⟩
    go_wp2_with fail
    go_returns
    exact ⟨rfl, under hb⟩
set_option maxHeartbeats 4000000 in
set_option maxRecDepth 20000 in
theorem over_c (k i g st wy tr nx : Int) (tag : ByteArray) (w : World) (g0 : 0 ≤ g) (g1 : g ≤ 4294967295) (hs : tag.size ≤ 1000000) : Ret 16 #[rV k i g st wy tr nx tag] w (overV k i g st wy tr nx tag) := by
  have c := fun w => rerr_c k i g st wy tr nx tag w g0 g1 hs
  unfold overV
  generalize rErr k i g st wy tr nx tag = er at *
  have CC := Lib.hid c
  clear c
  by_cases he : er = 0
  · rw [if_pos he]
    subst he
    by_cases h3 : st = 3
    · subst h3
      go_enter Tryz.func16, Tryz.ntmps16
      go_wp2_with fail
      refine Calls.mono (CC.out _) ?_
      rintro e w1 ⟨rfl, hb⟩
      have r1 := (Row.new (W := w) (cs := rC k i g 3 wy tr nx tag) (t := 26)).on hb
      have y0 := r1.cell
      have y1 := r1.lt
      go_wp2_with fail
      go_returns
      exact ⟨rfl, under hb⟩
    by_cases h4 : st = 4
    · subst h4
      go_enter Tryz.func16, Tryz.ntmps16
      go_wp2_with fail
      refine Calls.mono (CC.out _) ?_
      rintro e w1 ⟨rfl, hb⟩
      have r1 := (Row.new (W := w) (cs := rC k i g 4 wy tr nx tag) (t := 26)).on hb
      have y0 := r1.cell
      have y1 := r1.lt
      go_wp2_with fail
      go_returns
      exact ⟨rfl, under hb⟩
    · have q3 : (st == 3) = false := by rw [beq_eq_false_iff_ne]; exact h3
      have q4 : (st == 4) = false := by rw [beq_eq_false_iff_ne]; exact h4
      rw [decide_eq_false h3, decide_eq_false h4]
      go_enter Tryz.func16, Tryz.ntmps16
      go_wp2_with fail
      refine Calls.mono (CC.out _) ?_
      rintro e w1 ⟨rfl, hb⟩
      have r1 := (Row.new (W := w) (cs := rC k i g st wy tr nx tag) (t := 26)).on hb
      have y0 := r1.cell
      have y1 := r1.lt
      go_wp2_with fail
      go_returns
      exact ⟨rfl, under hb⟩
  · rw [if_neg he]
    have q : (er != 0) = true := by rw [bne_iff_ne]; exact he
    go_enter Tryz.func16, Tryz.ntmps16
    go_wp2_with fail
    refine Calls.mono (CC.out _) ?_
    rintro e w1 ⟨rfl, hb⟩
    go_wp2_with fail
    go_returns
    exact ⟨rfl, under hb⟩

set_option maxHeartbeats 8000000 in
set_option maxRecDepth 20000 in
theorem new_c (k i g : Int) (tag : ByteArray) (w : World) (g0 : 0 ≤ g) (g1 : g ≤ 4294967295) (hs : tag.size ≤ 1000000) : Ret 20 #[.agg #[.int .i64 k, .int .i64 i, .int .u32 g], .string tag] w (newV k i g tag) := by
  have c := fun w => rerr_c k i g 1 0 0 0 tag w g0 g1 hs
  unfold newV
  generalize rErr k i g 1 0 0 0 tag = er at *
  have CC := Lib.hid c
  clear c
  by_cases he : er = 0
  · rw [if_pos he]
    subst he
    go_enter Tryz.func20, Tryz.ntmps20
    go_wp2_with fail
    refine Calls.mono (CC.out _) ?_
    rintro e w1 ⟨rfl, hb⟩
    have r2 := ((Row.new (W := w.alloc (.cells #[.int .i64 k, .int .i64 i, .int .u32 g] 24)) (cs := rC 0 0 0 0 0 0 0 ⟨#[]⟩) (t := 26)).on (below_alloc _ (.cells (rC k i g 1 0 0 0 tag) 26))).on hb
    have r3 := (Row.new (W := (w.alloc (.cells #[.int .i64 k, .int .i64 i, .int .u32 g] 24)).alloc (.cells (rC 0 0 0 0 0 0 0 ⟨#[]⟩) 26)) (cs := rC k i g 1 0 0 0 tag) (t := 26)).on hb
    rw [World.size_alloc] at r2 r3
    rw [World.size_alloc] at r3
    have hc : Below w.heap.size w w1 := under hb
    clear hb
    have y2 := r2.cell
    have y2f := r2.free
    have y2l := r2.lt
    have y3 := r3.cell
    have y3l := r3.lt
    have hp : w.heap.size ≤ w.heap.size + 1 := Nat.le_succ _
    generalize w.heap.size + 1 + 1 = p3 at *
    generalize w.heap.size + 1 = p2 at *
    go_wp2_with fail
    clear y2 y2f y2l y3 y3l
    replace r2 := ((((((((r2.set 0 (.int .i64 k)).set 1 (.int .i64 i)).set 2 (.int .u32 g)).set 3 (.int .i64 1)).set 4 (.int .i64 0)).set 5 (.int .i64 0)).set 6 (.int .i64 0)).set 7 (.string tag))
    replace hc := ((((((((hc.setCell (p := ⟨p2, 0, none⟩) hp (.int .i64 k)).setCell (p := ⟨p2, 1, none⟩) hp (.int .i64 i)).setCell (p := ⟨p2, 2, none⟩) hp (.int .u32 g)).setCell (p := ⟨p2, 3, none⟩) hp (.int .i64 1)).setCell (p := ⟨p2, 4, none⟩) hp (.int .i64 0)).setCell (p := ⟨p2, 5, none⟩) hp (.int .i64 0)).setCell (p := ⟨p2, 6, none⟩) hp (.int .i64 0)).setCell (p := ⟨p2, 7, none⟩) hp (.string tag))
    simp only [List.setIfInBounds_toArray, List.set_cons_zero, List.set_cons_succ] at r2
    generalize hW : World.setCell _ _ _ = Z at *
    clear hW
    have q0 := r2.cell 0
    have q1 := r2.cell 1
    have q2 := r2.cell 2
    have q3 := r2.cell 3
    have q4 := r2.cell 4
    have q5 := r2.cell 5
    have q6 := r2.cell 6
    have q7 := r2.cell 7
    simp only [List.getElem?_toArray, List.getElem?_cons_succ, List.getElem?_cons_zero] at q0 q1 q2 q3 q4 q5 q6 q7
    clear r2 r3
    refine bodyPost_ret (v := .tuple #[rV k i g 1 0 0 0 tag, .int .i64 0]) (by simp [results, Tryz.results20, go_sem, q0, q1, q2, q3, q4, q5, q6, q7]) rfl ⟨rfl, hc⟩
  · rw [if_neg he]
    have q : (er != 0) = true := by rw [bne_iff_ne]; exact he
    go_enter Tryz.func20, Tryz.ntmps20
    go_wp2_with fail
    refine Calls.mono (CC.out _) ?_
    rintro e w1 ⟨rfl, hb⟩
    have r2 := ((Row.new (W := w.alloc (.cells #[.int .i64 k, .int .i64 i, .int .u32 g] 24)) (cs := rC 0 0 0 0 0 0 0 ⟨#[]⟩) (t := 26)).on (below_alloc _ (.cells (rC k i g 1 0 0 0 tag) 26))).on hb
    have r3 := (Row.new (W := (w.alloc (.cells #[.int .i64 k, .int .i64 i, .int .u32 g] 24)).alloc (.cells (rC 0 0 0 0 0 0 0 ⟨#[]⟩) 26)) (cs := rC k i g 1 0 0 0 tag) (t := 26)).on hb
    rw [World.size_alloc] at r2 r3
    rw [World.size_alloc] at r3
    have hc : Below w.heap.size w w1 := under hb
    clear hb
    have y2 := r2.cell
    have y2f := r2.free
    have y2l := r2.lt
    have y3 := r3.cell
    have y3l := r3.lt
    have hp : w.heap.size ≤ w.heap.size + 1 := Nat.le_succ _
    generalize w.heap.size + 1 + 1 = p3 at *
    generalize w.heap.size + 1 = p2 at *
    go_wp2_with fail
    clear y2 y2f y2l y3 y3l
    replace r2 := ((((((((r2.set 0 (.int .i64 0)).set 1 (.int .i64 0)).set 2 (.int .u32 0)).set 3 (.int .i64 0)).set 4 (.int .i64 0)).set 5 (.int .i64 0)).set 6 (.int .i64 0)).set 7 (.string ⟨#[]⟩))
    replace hc := ((((((((hc.setCell (p := ⟨p2, 0, none⟩) hp (.int .i64 0)).setCell (p := ⟨p2, 1, none⟩) hp (.int .i64 0)).setCell (p := ⟨p2, 2, none⟩) hp (.int .u32 0)).setCell (p := ⟨p2, 3, none⟩) hp (.int .i64 0)).setCell (p := ⟨p2, 4, none⟩) hp (.int .i64 0)).setCell (p := ⟨p2, 5, none⟩) hp (.int .i64 0)).setCell (p := ⟨p2, 6, none⟩) hp (.int .i64 0)).setCell (p := ⟨p2, 7, none⟩) hp (.string ⟨#[]⟩))
    simp only [List.setIfInBounds_toArray, List.set_cons_zero, List.set_cons_succ] at r2
    generalize hW : World.setCell _ _ _ = Z at *
    clear hW
    have q0 := r2.cell 0
    have q1 := r2.cell 1
    have q2 := r2.cell 2
    have q3 := r2.cell 3
    have q4 := r2.cell 4
    have q5 := r2.cell 5
    have q6 := r2.cell 6
    have q7 := r2.cell 7
    simp only [List.getElem?_toArray, List.getElem?_cons_succ, List.getElem?_cons_zero] at q0 q1 q2 q3 q4 q5 q6 q7
    clear r2 r3
    refine bodyPost_ret (v := .tuple #[r0V, .int .i64 er]) (by simp [results, Tryz.results20, go_sem, q0, q1, q2, q3, q4, q5, q6, q7]) rfl ⟨rfl, hc⟩

end Go.Proofs.YtgckfiadnmjonaaGreatDoor

/- Package descr: read, Parse, ParseOuter: a text of a descriptor is read as it, any other text is refused. -/
namespace Go.Proofs.YtgckfiadnmjonaaGreatDoor
open Go.RowKit
open Go.Lib (decDigits)

theorem kIdx_letter {k : Int} (h1 : 1 ≤ k) (h2 : k ≤ 3) : kIdx (letterB k) = k := by
  rcases (by omega : k = 1 ∨ k = 2 ∨ k = 3) with rfl | rfl | rfl <;> rfl
theorem letter_kIdx {x : UInt8} (h : 1 ≤ kIdx x) : letterB (kIdx x) = x := by
  unfold kIdx at h ⊢
  by_cases e1 : x = 102
  · rw [if_pos e1, e1]; rfl
  · by_cases e2 : x = 98
    · rw [if_neg e1, if_pos e2, e2]; rfl
    · by_cases e3 : x = 108
      · rw [if_neg e1, if_neg e2, if_pos e3, e3]; rfl
      · rw [if_neg e1, if_neg e2, if_neg e3] at h; omega
theorem of_list (l : List UInt8) : (ByteArray.mk l.toArray).data.toList = l := by simp
theorem cons_facts (x : UInt8) (r : List UInt8) : (ByteArray.mk (x :: r).toArray).toList.isEmpty = false ∧ (1 : Int) ≤ (ByteArray.mk (x :: r).toArray).size ∧ (ByteArray.mk (x :: r).toArray).extract 1 (ByteArray.mk (x :: r).toArray).size = ⟨r.toArray⟩ ∧ (ByteArray.mk (x :: r).toArray).extract 0 1 = ⟨#[x]⟩ := by
  have hs : (ByteArray.mk (x :: r).toArray).size = r.length + 1 := by rw [← len_bytes]; simp
  refine ⟨by rw [ByteArray.toList_eq]; simp, by omega, ?_, ?_⟩
  · apply str_ext
    rw [Lib.extract_to_end]
    simp
  · apply str_ext
    simp
theorem gParse_bound (l : List UInt8) : 0 ≤ gParse l ∧ gParse l ≤ 4294967295 := by
  cases h : isGen l with
  | true =>
    obtain ⟨n, h1, h2, h3⟩ := (isGen_iff l).1 h
    rw [← h3, (gParse_digits h1 h2).1]
    omega
  | false => rw [(gParse_not h).1]; omega
theorem read_is (c : UInt8) (hc : sgn c) (size : Int) (hsz : size ≤ 256) (s : ByteArray) (k sl g : Int) (h : IsD c size s.data.toList k sl g) (w : World) (hE : EnvP w) :
    Ret 86 #[.string s, .string ⟨#[c]⟩, .int .i64 size] w (.tuple #[nmV k sl g, .int .i64 0]) := by
  obtain ⟨hok, gm, g0, he⟩ := h
  obtain ⟨k1, k3, s0, s1, gz⟩ := dOk_iff.1 hok
  obtain ⟨f1, f2, f3, f4⟩ := cons_facts (letterB k) (decDigits sl.toNat)
  have hsz2 : s.size ≤ 22 := by
    have := (dTextL_len c (k := k) (s := sl) (g := g) (by omega) (by omega)).1
    rw [← he, len_bytes] at this
    exact this
  have es : s = dText c k sl g := str_ext (by rw [he, dText_list])
  have hcut := fun w hE => cut_c s c w hE (by omega)
  rw [he, cut_text hc] at hcut
  have ha : Lib.atoiAll (digits sl.toNat).data.toList = .ok sl := by
    rw [digits_list, atoi_dec _ (by omega)]
    congr 1
    omega
  have hz : (digits sl.toNat).size ≤ 100000 := by have := digits_size_le sl.toNat (by omega); omega
  have hat := fun w => atoi_ok (digits sl.toNat) hz sl ha w
  have hgp := fun w hE => parse_ok g.toNat w hE (by omega) (by omega)
  rw [Int.toNat_of_nonneg g0] at hgp
  have hck := fun w => nm_check_ok size k sl g w hok g0 gm
  have htx := fun w hE => nm_text c k sl g w hE k1 k3 s0 (by omega) g0 gm
  rw [← es] at htx
  have ek := kIdx_letter k1 k3
  have := read_ok c (letterB k) size sl g s _ _ _ true w hE f1 f2 f3 f4 hcut hat hgp g0 gm (by rw [ek]; exact hck) (by rw [ek]; exact htx)
  rw [ek] at this
  exact this
theorem read_not (c : UInt8) (size : Int) (hsz : size ≤ 256) (s : ByteArray) (hs : s.size ≤ 100000) (h : ∀ k sl g, ¬ IsD c size s.data.toList k sl g) (w : World) (hE : EnvP w) :
    Ret 86 #[.string s, .string ⟨#[c]⟩, .int .i64 size] w (.tuple #[nmV 0 0 0, .int .i64 9]) := by
  have hcut := fun w hE => cut_c s c w hE hs
  obtain ⟨fl, yl, fd, e, hfl, hyl, hall⟩ : ∃ fl yl fd, Lib.cut s.data.toList [c] = (fl, yl, fd) ∧ fl.length ≤ s.data.toList.length ∧ yl.length ≤ s.data.toList.length ∧ (s.data.toList = fl ++ c :: yl ∨ yl = []) := by
    rcases mem_split s.data.toList c with hm | ⟨pre, post, hm, he⟩
    · exact ⟨_, _, _, cut_no _ _ hm, Nat.le_refl _, by simp, .inr rfl⟩
    · refine ⟨pre, post, true, by rw [he]; exact cut_at _ _ _ hm, ?_, ?_, .inl he⟩
      · rw [he]; simp
      · rw [he]; simp; omega
  rw [e] at hcut
  rw [len_bytes] at hfl hyl
  have hy : (ByteArray.mk yl.toArray).size ≤ 100000 := by rw [← len_bytes, of_list]; omega
  cases fl with
  | nil => exact read_empty c size s _ _ w hE hcut
  | cons x r =>
    obtain ⟨f1, f2, f3, f4⟩ := cons_facts x r
    have hr : (ByteArray.mk r.toArray).size ≤ 100000 := by rw [← len_bytes, of_list]; simp at hfl; omega
    have hgp := fun w hE => parse_any ⟨yl.toArray⟩ w hE hy
    rw [of_list] at hgp
    obtain ⟨gb0, gb1⟩ := gParse_bound yl
    by_cases ha : ∃ v, Lib.atoiAll (ByteArray.mk r.toArray).data.toList = .ok v
    · obtain ⟨v, ha⟩ := ha
      have hat := fun w => atoi_ok ⟨r.toArray⟩ hr v ha w
      rcases gParseE_cases yl with hg | hg
      · obtain ⟨n, n1, n2, n3, hgv⟩ := gParseE_zero hg
        rw [hg, hgv] at hgp
        cases hok : dOk size (kIdx x) v n with
        | false =>
          have hck := fun w => nm_check_bad size (kIdx x) v n w hok (by omega) (by omega)
          exact read_check c x size v n s _ _ _ fd w hE f1 f2 f3 f4 hcut hat hgp (by omega) (by omega) hck
        | true =>
          obtain ⟨k1, k3, s0, s1, _⟩ := dOk_iff.1 hok
          have hck := fun w => nm_check_ok size (kIdx x) v n w hok (by omega) (by omega)
          have htx := fun w hE => nm_text c (kIdx x) v n w hE k1 k3 s0 (by omega) (by omega) (by omega)
          refine read_text c x size v n s _ _ _ fd w hE f1 f2 f3 f4 hcut hat hgp (by omega) (by omega) hck _ (str_beq_ne fun e' => ?_) htx
          exact h (kIdx x) v n ⟨hok, by omega, by omega, by rw [← e', dText_list]⟩
      · have hg0 : gParse yl = 0 := by
          cases hi : isGen yl with
          | true =>
            obtain ⟨n, n1, n2, n3⟩ := (isGen_iff yl).1 hi
            rw [← n3, (gParse_digits n1 n2).2] at hg
            omega
          | false => exact (gParse_not hi).1
        rw [hg, hg0] at hgp
        exact read_gen c x size v 0 s _ _ _ fd w hE f1 f2 f3 f4 hcut hat hgp (by omega) (by omega)
    · have hat := fun w hE => atoi_bad ⟨r.toArray⟩ hr (fun v hv => ha ⟨v, hv⟩) w hE
      exact read_atoi c x size (gParse yl) (gParseE yl) s _ _ _ fd w hE f1 f2 f3 f4 hcut hat hgp gb0 gb1
set_option maxHeartbeats 2000000 in
theorem o_parse (s : ByteArray) (k sl g e : Int) (w : World) (g0 : 0 ≤ g) (g1 : g ≤ 4294967295)
    (hr : ∀ w, EnvP w → Ret 86 #[.string s, .string ⟨#[58]⟩, .int .i64 64] w (.tuple #[nmV k sl g, .int .i64 e])) (hE : EnvP w) :
    Ret 69 #[.string s] w (.tuple #[dV k sl g, .int .i64 e]) := by
  have hgw : IntKind.u32.wrap g = g := by rw [IntKind.wrap_u32]; omega
  have HR := Lib.hid hr
  clear hr
  go_enter Tryz.func69, Tryz.ntmps69
  go_wp2_with fail
  refine (HR.out _ (hE.alloc _)).mono ?_
  rintro e w1 ⟨rfl, hb1⟩
  have c0 : w1.cell? ⟨w.heap.size, 0, none⟩ = some (.int .i64 0) := by rw [(bcell hb1).1 _ _ (by simp)]; simp
  have c1 : w1.cell? ⟨w.heap.size, 1, none⟩ = some (.int .i64 0) := by rw [(bcell hb1).1 _ _ (by simp)]; simp
  have c2 : w1.cell? ⟨w.heap.size, 2, none⟩ = some (.int .u32 0) := by rw [(bcell hb1).1 _ _ (by simp)]; simp
  have fr : ∀ o, w1.frozen? ⟨w.heap.size, o, none⟩ = false := fun o => by rw [(bcell hb1).2 _ _ (by simp)]; simp
  have z1 : w.heap.size < w1.heap.size := by have := hb1.size; simp at this; omega
  have z2 : w.heap.size < w1.heap.size + 1 := by omega
  have z3 : w.heap.size < w1.heap.size + 1 + 1 := by omega
  have hc1 := under (w := w) hb1
  clear hb1
  go_wp2_with go_in
  refine bodyPost_ret (v := .tuple #[dV k sl g, .int .i64 e]) (by simp [results, Tryz.results69, go_sem, c0, c1, c2, z1, z2, z3]) rfl ⟨rfl, ?_⟩
  repeat (refine Below.setCell ?_ (by simp) _)
  go_grown
theorem o_parse_is (s : ByteArray) (k sl g : Int) (h : IsD 58 64 s.data.toList k sl g) (w : World) (hE : EnvP w) : Ret 69 #[.string s] w (.tuple #[dV k sl g, .int .i64 0]) :=
  o_parse s k sl g 0 w h.g0 h.gm (fun w hE => read_is 58 (by simp [sgn]) 64 (by omega) s k sl g h w hE) hE
theorem o_parse_not (s : ByteArray) (hs : s.size ≤ 100000) (h : ∀ k sl g, ¬ IsD 58 64 s.data.toList k sl g) (w : World) (hE : EnvP w) : Ret 69 #[.string s] w (.tuple #[dV 0 0 0, .int .i64 9]) :=
  o_parse s 0 0 0 9 w (by omega) (by omega) (fun w hE => read_not 58 64 (by omega) s hs h w hE) hE
end Go.Proofs.YtgckfiadnmjonaaGreatDoor

/- The references of chapter 05: parts. -/
namespace Go.Proofs.YtgckfiadnmjonaaGreatDoor
open Go.RowKit
open Go.Lib (decDigits)

def kI (x : UInt8) : Int := if x = 102 then 1 else if x = 98 then 2 else if x = 108 then 3 else 0
def kU (x : UInt8) (k : Int) : Int := if kI x < k then kI x else 0
theorem kI_bound (x : UInt8) : 0 ≤ kI x ∧ kI x ≤ 3 := by unfold kI; split <;> (try split) <;> (try split) <;> omega
theorem kU_one (x : UInt8) : kU x 1 = 0 := by unfold kU; split <;> (have := kI_bound x; omega)
theorem kU_four (x : UInt8) : kU x 4 = kI x := by unfold kU; rw [if_pos (by have := kI_bound x; omega)]
theorem kI_letter {k : Int} (h1 : 1 ≤ k) (h3 : k ≤ 3) : kI (letterB k) = k := by
  rcases (by omega : k = 1 ∨ k = 2 ∨ k = 3) with rfl | rfl | rfl <;> rfl
theorem letter_kI {x : UInt8} (h : 0 < kI x) : letterB (kI x) = x := by
  unfold kI at h ⊢
  by_cases e1 : x = 102
  · rw [if_pos e1, e1]; rfl
  · by_cases e2 : x = 98
    · rw [if_neg e1, if_pos e2, e2]; rfl
    · by_cases e3 : x = 108
      · rw [if_neg e1, if_neg e2, if_pos e3, e3]; rfl
      · rw [if_neg e1, if_neg e2, if_neg e3] at h; omega
theorem kU_yes {x : UInt8} {k : Int} (h1 : 1 ≤ k) (h3 : k ≤ 3) (e : x = letterB k) : kU x (k + 1) = k := by
  unfold kU
  rw [e, kI_letter h1 h3, if_pos (by omega)]
theorem kU_no {x : UInt8} {k : Int} (h1 : 1 ≤ k) (e : x ≠ letterB k) : kU x (k + 1) = kU x k := by
  unfold kU
  have hb := kI_bound x
  by_cases h : kI x = k
  · exact absurd (by rw [← h]; exact (letter_kI (by omega)).symm) e
  · by_cases h2 : kI x < k
    · rw [if_pos (by omega), if_pos h2]
    · rw [if_neg (by omega), if_neg h2]
theorem at_mem (s : ByteArray) (pre : List UInt8) (c : UInt8) (post : List UInt8) (he : s.data.toList = pre ++ c :: post) (hm : c ∉ pre) (k : Nat) (h : k < pre.length) (hk : k < s.size) : s[k] ≠ c := by
  have e1 : s[k] = s.data.toList[k]'(by simpa using hk) := rfl
  intro e
  apply hm
  have e2 : pre[k] = c := by
    rw [← e, e1]
    have : (pre ++ c :: post)[k]'(by simp; omega) = pre[k] := List.getElem_append_left h
    rw [← this]
    congr 1
    exact he.symm
  rw [← e2]
  exact List.getElem_mem _
theorem at_here (s : ByteArray) (pre : List UInt8) (c : UInt8) (post : List UInt8) (he : s.data.toList = pre ++ c :: post) (hk : pre.length < s.size) : s[pre.length] = c := by
  have e1 : s[pre.length] = s.data.toList[pre.length]'(by simpa using hk) := rfl
  rw [e1]
  have : (pre ++ c :: post)[pre.length]'(by simp) = c := by simp
  rw [← this]
  congr 1
theorem no_mem (s : ByteArray) (c : UInt8) (hm : c ∉ s.data.toList) (k : Nat) (hk : k < s.size) : s[k] ≠ c := by
  have e1 : s[k] = s.data.toList[k]'(by simpa using hk) := rfl
  intro e
  apply hm
  rw [← e, e1]
  exact List.getElem_mem _
theorem byte_ne {a c : UInt8} {m : Int} (hm : (c.toNat : Int) = m) (h : a ≠ c) : ((a.toNat : Int) == m) = false ∧ ((a.toNat : Int) != m) = true := by
  have e : ((a.toNat : Int) == m) = false := by
    rw [beq_eq_false_iff_ne, ← hm]
    intro e
    exact h (UInt8.toNat_inj.1 (by omega))
  exact ⟨e, by rw [bne, e]; rfl⟩
theorem byte_eq {a c : UInt8} {m : Int} (hm : (c.toNat : Int) = m) (h : a = c) : ((a.toNat : Int) == m) = true ∧ ((a.toNat : Int) != m) = false := by
  have e : ((a.toNat : Int) == m) = true := by rw [beq_iff_eq, h, hm]
  exact ⟨e, by rw [bne, e]; rfl⟩

set_option maxHeartbeats 2000000 in
theorem parts_no (s : ByteArray) (hs : s.size ≤ 100000) (c : UInt8) (m : Int) (hm : (c.toNat : Int) = m) (hn : c ∉ s.data.toList) (w : World) :
    Ret 74 #[.string s, .int .u8 m] w (.tuple #[.int .i64 0, .int .u64 0, .int .u64 0, .bool false]) := by
  have hne := fun k hk => byte_ne hm (no_mem s c hn k hk)
  have HN := Lib.hid hne
  clear hne hn hm
  go_enter Tryz.func74, Tryz.ntmps74
  go_wp2_with fail
  go_loop [8] (fun at_ => ∃ k : Nat, k ≤ s.size ∧ at_ = .int .i64 k) (fun at_ => s.size - (intOf at_).toNat)
  case atStart => exact ⟨0, Nat.zero_le _, rfl⟩
  case round =>
    obtain ⟨k, hk, rfl⟩ := hrel
    by_cases hlt : k < s.size
    · obtain ⟨e1, e2⟩ := HN.out k hlt
      go_wp2_with fail
      go_round
      case rel => exact ⟨k + 1, by omega, by go_num⟩
      case measure => simp [intOf]; omega
    · have ek : ((k : Int) == (s.size : Int)) = true := by rw [beq_iff_eq]; omega
      go_wp2_with fail
      go_returns
      exact ⟨rfl, by go_grown⟩
set_option maxHeartbeats 2000000 in
theorem parts_short (s : ByteArray) (hs : s.size ≤ 100000) (c : UInt8) (m : Int) (hm : (c.toNat : Int) = m) (pre post : List UInt8) (he : s.data.toList = pre ++ c :: post) (hc : c ∉ pre) (hp : pre.length < 2) (w : World) :
    Ret 74 #[.string s, .int .u8 m] w (.tuple #[.int .i64 0, .int .u64 0, .int .u64 0, .bool false]) := by
  have hne := fun k h hk => byte_ne hm (at_mem s pre c post he hc k h hk)
  have hl : pre.length < s.size := by rw [← len_bytes, he]; simp
  have heq := byte_eq hm (at_here s pre c post he hl)
  have HN := Lib.hid hne
  have HQ := Lib.hid heq
  generalize pre.length = n at *
  clear hne hc hm he heq
  go_enter Tryz.func74, Tryz.ntmps74
  go_wp2_with fail
  go_loop [8] (fun at_ => ∃ k : Nat, k ≤ n ∧ at_ = .int .i64 k) (fun at_ => n - (intOf at_).toNat)
  case atStart => exact ⟨0, Nat.zero_le _, rfl⟩
  case round =>
    obtain ⟨k, hk, rfl⟩ := hrel
    by_cases hlt : k < n
    · have hls : k < s.size := by omega
      obtain ⟨e1, e2⟩ := HN.out k hlt hls
      go_wp2_with fail
      go_round
      case rel => exact ⟨k + 1, by omega, by go_num⟩
      case measure => simp [intOf]; omega
    · obtain rfl : k = n := by omega
      obtain ⟨e1, e2⟩ := HQ.out
      have ek : ((k : Int) == (s.size : Int)) = false := by rw [beq_eq_false_iff_ne]; omega
      go_wp2_with fail
      go_returns
      exact ⟨rfl, by go_grown⟩
def ptOk (x : UInt8) (r post : List UInt8) : Bool := numB r && (numB post && (decide (0 < kI x) && decide (numV post < 4294967296)))
set_option linter.unusedSimpArgs false in
set_option maxHeartbeats 4000000 in
set_option maxRecDepth 20000 in
theorem parts_at (s : ByteArray) (hs : s.size ≤ 100000) (c x : UInt8) (m : Int) (hm : (c.toNat : Int) = m) (r post : List UInt8) (he : s.data.toList = (x :: r) ++ c :: post) (hc : c ∉ x :: r) (hp : 1 ≤ r.length) (w : World) :
    Ret 74 #[.string s, .int .u8 m] w (.tuple #[.int .i64 (kI x), .int .u64 (numV r), .int .u64 (numV post), .bool (ptOk x r post)]) := by
  have hne := fun k h hk => byte_ne hm (at_mem s (x :: r) c post he hc k h hk)
  have hl : (x :: r).length < s.size := by rw [← len_bytes, he]; simp
  have heq := byte_eq hm (at_here s (x :: r) c post he hl)
  have HN := Lib.hid hne
  have HQ := Lib.hid heq
  have h2 : 2 ≤ (x :: r).length := by rw [List.length_cons]; omega
  have sx : s.extract 0 1 = ⟨#[x]⟩ := by
    apply str_ext
    rw [Lib.extract_data, he]
    simp
  have sr : s.extract 1 (x :: r).length = ⟨r.toArray⟩ := by
    apply str_ext
    rw [Lib.extract_data, he]
    simp
  have sp : s.extract ((x :: r).length + 1) s.size = ⟨post.toArray⟩ := by
    apply str_ext
    rw [Lib.extract_to_end, he]
    simp
  have hnr := ref_Number ⟨r.toArray⟩
  have hnp := ref_Number ⟨post.toArray⟩
  rw [of_list] at hnr hnp
  obtain ⟨a0, a1⟩ := numV_bound r
  obtain ⟨b0, b1⟩ := numV_bound post
  obtain ⟨x0, x1⟩ := kI_bound x
  have hfin : ptOk x r post = (numB r && (numB post && (decide (0 < kI x) && decide (numV post < 4294967296)))) := rfl
  generalize ptOk x r post = ok at hfin ⊢
  generalize numV r = a at *
  generalize numV post = b at *
  generalize numB r = p at *
  generalize numB post = q at *
  have HF := Lib.hid hfin
  have HR := Lib.hid hnr
  have HP := Lib.hid hnp
  clear hne hc hm he heq hnr hnp hfin hp
  generalize (x :: r).length = n at *
  go_enter Tryz.func74, Tryz.ntmps74
  go_wp2_with fail
  go_loop [8] (fun at_ => ∃ k : Nat, k ≤ n ∧ at_ = .int .i64 k) (fun at_ => n - (intOf at_).toNat)
  case atStart => exact ⟨0, Nat.zero_le _, rfl⟩
  case round =>
    obtain ⟨k, hk, rfl⟩ := hrel
    by_cases hlt : k < n
    · have hls : k < s.size := by omega
      obtain ⟨e1, e2⟩ := HN.out k hlt hls
      go_wp2_with fail
      go_round
      case rel => exact ⟨k + 1, by omega, by go_num⟩
      case measure => simp [intOf]; omega
    · obtain rfl : k = n := by omega
      obtain ⟨e1, e2⟩ := HQ.out
      have ek : ((k : Int) == (s.size : Int)) = false := by rw [beq_eq_false_iff_ne]; omega
      go_wp2_with fail
      go_loopw [9, 10] (fun kd t wr => ∃ j : Int, 1 ≤ j ∧ j ≤ 4 ∧ t = .int .i64 j ∧ kd = .int .i64 (kU x j) ∧ Below w.heap.size w wr) (fun _ t _ => 4 - (intOf t).toNat)
      case atStart => exact ⟨1, by omega, by omega, rfl, by rw [kU_one], by go_grown⟩
      case round =>
        obtain ⟨j, j1, j4, rfl, rfl, hbw⟩ := hrel
        by_cases hj : j ≤ 3
        · have hs1 : (1 : Int) ≤ (s.size : Int) := by omega
          by_cases hx : x = letterB j
          · have f1 : (x == letterB j) = true := beq_iff_eq.2 hx
            have hkU := kU_yes j1 hj hx
            have HK := Lib.hid hkU
            clear hx hkU
            go_wp2_with fail
            refine wp_region_held_drew (S := fun _ => True) (by kernel_rfl) trivial (fun hHeld => ?_)
            refine' wpAnyH_take (i := 0) (oi := _) (v := _) ?_ (by kernel_rfl) (by kernel_rfl) (by kernel_rfl) ?_ (Or.inl ⟨?_, ?_⟩) (by assumption) ?_
            rotate_left 2
            · (simp only [List.getElem?_toArray, List.getElem?_cons_succ, List.getElem?_cons_zero]; rfl)
            · first | exact fun _ _ _ h => h | exact fun _ _ _ h => nomatch h.1
            · rfl
            · (intro W hSW; (try dsimp only at hSW); go_split_ands; first | (go_simp; done) | (go_simp; with_reducible rfl))
            try simp only [Act.put, List.setIfInBounds_toArray, List.set_cons_zero, List.set_cons_succ]
            refine' wpAnyH_take (i := 1) (oi := _) (v := _) ?_ (by kernel_rfl) (by kernel_rfl) (by kernel_rfl) ?_ (Or.inl ⟨?_, ?_⟩) (by assumption) ?_
            rotate_left 2
            · (simp only [List.getElem?_toArray, List.getElem?_cons_succ, List.getElem?_cons_zero]; rfl)
            · first | exact fun _ _ _ h => h | exact fun _ _ _ h => nomatch h.1
            · rfl
            · (intro W hSW; (try dsimp only at hSW); go_split_ands; first | (go_simp; done) | (go_simp; with_reducible rfl))
            try simp only [Act.put, List.setIfInBounds_toArray, List.set_cons_zero, List.set_cons_succ]
            refine' wpAnyH_take (i := 2) (oi := _) (v := _) ?_ (by kernel_rfl) (by kernel_rfl) (by kernel_rfl) ?_ (Or.inl ⟨?_, ?_⟩) (by assumption) ?_
            rotate_left 2
            · (simp only [List.getElem?_toArray, List.getElem?_cons_succ, List.getElem?_cons_zero]; rfl)
            · first | exact fun _ _ _ h => h | exact fun _ _ _ h => nomatch h.1
            · rfl
            · (intro W hSW; (try dsimp only at hSW); go_split_ands; first | (go_simp; done) | (go_simp; with_reducible rfl))
            try simp only [Act.put, List.setIfInBounds_toArray, List.set_cons_zero, List.set_cons_succ]
            refine wpAnyH_ready (rs := [3]) (by kernel_rfl) (by simp) ?_
            refine' AllReadyH.cons (o := _) ?_ (fun K hK => ?_) AllReadyH.nil
            rotate_left 1
            · (simp only [List.getElem?_toArray, List.getElem?_cons_succ, List.getElem?_cons_zero]; rfl)
            go_simp
            refine (letter_c j _ j1 hj).mono ?_
            rintro e w1 ⟨rfl, rfl⟩
            go_simp
            refine hK.out _ _ trivial (fun hHeld => ?_)
            clear hK K
            refine' wpAnyH_take (i := 4) (oi := _) (v := _) ?_ (by kernel_rfl) (by kernel_rfl) (by kernel_rfl) ?_ (Or.inl ⟨?_, ?_⟩) (by assumption) ?_
            rotate_left 2
            · (simp only [List.getElem?_toArray, List.getElem?_cons_succ, List.getElem?_cons_zero]; rfl)
            · first | exact fun _ _ _ h => h | exact fun _ _ _ h => nomatch h.1
            · rfl
            · (intro W hSW; (try dsimp only at hSW); go_split_ands; first | (go_simp; done) | (go_simp; with_reducible rfl))
            try simp only [Act.put, List.setIfInBounds_toArray, List.set_cons_zero, List.set_cons_succ]
            refine wpAnyH_done (by kernel_rfl) ?_ _
            go_wp2_with fail
            go_roundw
            case rel => exact ⟨j + 1, by omega, by omega, by go_num, by rw [HK.out], by go_grown⟩
            case measure => simp [intOf]; omega
          · have f1 : (x == letterB j) = false := beq_eq_false_iff_ne.2 hx
            have hkU := kU_no j1 hx
            have HK := Lib.hid hkU
            clear hx hkU
            go_wp2_with fail
            refine wp_region_held_drew (S := fun _ => True) (by kernel_rfl) trivial (fun hHeld => ?_)
            refine' wpAnyH_take (i := 0) (oi := _) (v := _) ?_ (by kernel_rfl) (by kernel_rfl) (by kernel_rfl) ?_ (Or.inl ⟨?_, ?_⟩) (by assumption) ?_
            rotate_left 2
            · (simp only [List.getElem?_toArray, List.getElem?_cons_succ, List.getElem?_cons_zero]; rfl)
            · first | exact fun _ _ _ h => h | exact fun _ _ _ h => nomatch h.1
            · rfl
            · (intro W hSW; (try dsimp only at hSW); go_split_ands; first | (go_simp; done) | (go_simp; with_reducible rfl))
            try simp only [Act.put, List.setIfInBounds_toArray, List.set_cons_zero, List.set_cons_succ]
            refine' wpAnyH_take (i := 1) (oi := _) (v := _) ?_ (by kernel_rfl) (by kernel_rfl) (by kernel_rfl) ?_ (Or.inl ⟨?_, ?_⟩) (by assumption) ?_
            rotate_left 2
            · (simp only [List.getElem?_toArray, List.getElem?_cons_succ, List.getElem?_cons_zero]; rfl)
            · first | exact fun _ _ _ h => h | exact fun _ _ _ h => nomatch h.1
            · rfl
            · (intro W hSW; (try dsimp only at hSW); go_split_ands; first | (go_simp; done) | (go_simp; with_reducible rfl))
            try simp only [Act.put, List.setIfInBounds_toArray, List.set_cons_zero, List.set_cons_succ]
            refine' wpAnyH_take (i := 2) (oi := _) (v := _) ?_ (by kernel_rfl) (by kernel_rfl) (by kernel_rfl) ?_ (Or.inl ⟨?_, ?_⟩) (by assumption) ?_
            rotate_left 2
            · (simp only [List.getElem?_toArray, List.getElem?_cons_succ, List.getElem?_cons_zero]; rfl)
            · first | exact fun _ _ _ h => h | exact fun _ _ _ h => nomatch h.1
            · rfl
            · (intro W hSW; (try dsimp only at hSW); go_split_ands; first | (go_simp; done) | (go_simp; with_reducible rfl))
            try simp only [Act.put, List.setIfInBounds_toArray, List.set_cons_zero, List.set_cons_succ]
            refine wpAnyH_ready (rs := [3]) (by kernel_rfl) (by simp) ?_
            refine' AllReadyH.cons (o := _) ?_ (fun K hK => ?_) AllReadyH.nil
            rotate_left 1
            · (simp only [List.getElem?_toArray, List.getElem?_cons_succ, List.getElem?_cons_zero]; rfl)
            go_simp
            refine (letter_c j _ j1 hj).mono ?_
            rintro e w1 ⟨rfl, rfl⟩
            go_simp
            refine hK.out _ _ trivial (fun hHeld => ?_)
            clear hK K
            refine' wpAnyH_take (i := 4) (oi := _) (v := _) ?_ (by kernel_rfl) (by kernel_rfl) (by kernel_rfl) ?_ (Or.inl ⟨?_, ?_⟩) (by assumption) ?_
            rotate_left 2
            · (simp only [List.getElem?_toArray, List.getElem?_cons_succ, List.getElem?_cons_zero]; rfl)
            · first | exact fun _ _ _ h => h | exact fun _ _ _ h => nomatch h.1
            · rfl
            · (intro W hSW; (try dsimp only at hSW); go_split_ands; first | (go_simp; done) | (go_simp; with_reducible rfl))
            try simp only [Act.put, List.setIfInBounds_toArray, List.set_cons_zero, List.set_cons_succ]
            refine wpAnyH_done (by kernel_rfl) ?_ _
            go_wp2_with fail
            go_roundw
            case rel => exact ⟨j + 1, by omega, by omega, by go_num, by rw [HK.out], by go_grown⟩
            case measure => simp [intOf]; omega
        · obtain rfl : j = 4 := by omega
          rw [kU_four]
          have hn1 : (k : Int) + 1 ≤ (s.size : Int) := by omega
          have hsl : ∀ W, (Instr.slice 9 (.string s) (some (.int .i64 1)) (some (.int .i64 (k : Int))) none).run Tryz.prog W = .ok (.string ⟨r.toArray⟩) W := fun W => by
            have h := run_slice_string (P := Tryz.prog) W 9 s .i64 .i64 1 (k : Int) Tryz.underlying9 (by omega) (by omega) (by omega)
            rw [show (1 : Int).toNat = 1 from rfl, Int.toNat_natCast, sr] at h
            exact h
          go_wp2_with fail
          refine (HR.out _).mono ?_
          rintro e w1 ⟨rfl, hb1⟩
          have b1' := hbw.trans (hb1.mono hbw.size)
          go_wp2_with fail
          refine (HP.out _).mono ?_
          rintro e w2 ⟨rfl, hb2⟩
          have b2' := b1'.trans (hb2.mono b1'.size)
          go_wp2_with fail
          all_goals
            go_returns
            refine ⟨?_, b2'⟩
            rw [HF.out]
            first | rfl | (simp [*]; done) | (simp [*]; omega)
end Go.Proofs.YtgckfiadnmjonaaGreatDoor

/- The references of chapter 05: Parse, ParseOuter. -/
namespace Go.Proofs.YtgckfiadnmjonaaGreatDoor
open Go.RowKit
set_option linter.unusedVariables false
set_option linter.unusedSimpArgs false
open Go.Lib (decDigits)

theorem numB_dec (n : Nat) (h : n < 10000000000) : numB (decDigits n) = true ∧ numV (decDigits n) = n := by
  have hb : numB (decDigits n) = true := by
    unfold numB
    rw [decide_eq_true_iff, val_decDigits]
    exact ⟨nDigits_le_10 n h, rfl⟩
  refine ⟨hb, ?_⟩
  rw [(numB_val hb).1, val_decDigits]
set_option maxHeartbeats 2000000 in
theorem ro_parse_no (s : ByteArray) (kd a b : Int) (w : World) (k0 : 0 ≤ kd) (k3 : kd ≤ 3) (a0 : 0 ≤ a) (a1 : a ≤ 9999999999) (b0 : 0 ≤ b) (b1 : b ≤ 9999999999)
    (hp : ∀ w, Ret 74 #[.string s, .int .u8 58] w (.tuple #[.int .i64 kd, .int .u64 a, .int .u64 b, .bool false])) :
    Ret 49 #[.string s] w (.tuple #[dV 0 0 0, .int .i64 9]) := by
  have e1 : IntKind.i64.wrap a = a := by rw [IntKind.wrap_i64]; omega
  have HP := Lib.hid hp
  clear hp
  go_enter Tryz.func49, Tryz.ntmps49
  go_wp2_with fail
  refine (HP.out _).mono ?_
  rintro e w1 ⟨rfl, hb1⟩
  have c0 : w1.cell? ⟨w.heap.size, 0, none⟩ = some (.int .i64 0) := by rw [(bcell hb1).1 _ _ (by simp)]; simp
  have c1 : w1.cell? ⟨w.heap.size, 1, none⟩ = some (.int .i64 0) := by rw [(bcell hb1).1 _ _ (by simp)]; simp
  have c2 : w1.cell? ⟨w.heap.size, 2, none⟩ = some (.int .u32 0) := by rw [(bcell hb1).1 _ _ (by simp)]; simp
  have fr : ∀ o, w1.frozen? ⟨w.heap.size, o, none⟩ = false := fun o => by rw [(bcell hb1).2 _ _ (by simp)]; simp
  have z1 : w.heap.size < w1.heap.size := by have := hb1.size; simp at this; omega
  have z2 : w.heap.size < w1.heap.size + 1 := by omega
  have hc1 := under (w := w) hb1
  clear hb1
  go_wp2_with fail
  refine bodyPost_ret (v := .tuple #[dV 0 0 0, .int .i64 9]) (by simp [results, Tryz.results49, go_sem, c0, c1, c2, z1, z2]) rfl ⟨rfl, ?_⟩
  repeat (refine Below.setCell ?_ (by simp) _)
  go_grown
set_option maxHeartbeats 2000000 in
theorem ro_parse_chk (s : ByteArray) (kd a b : Int) (w : World) (k0 : 0 ≤ kd) (k3 : kd ≤ 3) (a0 : 0 ≤ a) (a1 : a ≤ 9999999999) (b0 : 0 ≤ b) (b1 : b ≤ 4294967295) (h : dOk 64 kd a b = false)
    (hp : ∀ w, Ret 74 #[.string s, .int .u8 58] w (.tuple #[.int .i64 kd, .int .u64 a, .int .u64 b, .bool true])) :
    Ret 49 #[.string s] w (.tuple #[dV 0 0 0, .int .i64 9]) := by
  have e1 : IntKind.i64.wrap a = a := by rw [IntKind.wrap_i64]; omega
  have e2 : IntKind.u32.wrap b = b := by rw [IntKind.wrap_u32]; omega
  have hk := fun w => ro_check kd a b w b0
  rw [dErr_bad h] at hk
  have HK := Lib.hid hk
  have HP := Lib.hid hp
  clear hp hk h
  go_enter Tryz.func49, Tryz.ntmps49
  go_wp2_with fail
  refine (HP.out _).mono ?_
  rintro e w1 ⟨rfl, hb1⟩
  have hc1 := under (w := w) hb1
  have c0 : w1.cell? ⟨w.heap.size, 0, none⟩ = some (.int .i64 0) := by rw [(bcell hb1).1 _ _ (by simp)]; simp
  have c1 : w1.cell? ⟨w.heap.size, 1, none⟩ = some (.int .i64 0) := by rw [(bcell hb1).1 _ _ (by simp)]; simp
  have c2 : w1.cell? ⟨w.heap.size, 2, none⟩ = some (.int .u32 0) := by rw [(bcell hb1).1 _ _ (by simp)]; simp
  have fr : ∀ o, w1.frozen? ⟨w.heap.size, o, none⟩ = false := fun o => by rw [(bcell hb1).2 _ _ (by simp)]; simp
  have z1 : w.heap.size < w1.heap.size := by have := hb1.size; simp at this; omega
  have z2 : w.heap.size < w1.heap.size + 1 := by omega
  clear hb1
  go_wp2_with fail
  refine (HK.out _).mono ?_
  rintro e w2 ⟨rfl, hb2⟩
  have hc2 := hc1.trans ((under (w := w1) hb2).mono hc1.size)
  have d0 := keep_cell (b := w.heap.size) (o := 0) hb2 (by simp; omega) (by go_simp; rfl)
  have d1 := keep_cell (b := w.heap.size) (o := 1) hb2 (by simp; omega) (by go_simp; rfl)
  have d2 := keep_cell (b := w.heap.size) (o := 2) hb2 (by simp; omega) (by go_simp; rfl)
  have fr2 : ∀ o, w2.frozen? ⟨w.heap.size, o, none⟩ = false := fun o => by rw [(bcell hb2).2 _ _ (by simp; omega)]; go_simp
  go_wp2_with fail
  refine bodyPost_ret (v := .tuple #[dV 0 0 0, .int .i64 9]) (by simp [results, Tryz.results49, go_sem, d0, d1, d2]) rfl ⟨rfl, ?_⟩
  repeat (refine Below.setCell ?_ (by simp) _)
  exact hc2
set_option maxHeartbeats 2000000 in
theorem ro_parse_ok (s : ByteArray) (kd a b : Int) (w : World) (b1 : b ≤ 4294967295) (b0 : 0 ≤ b) (h : dOk 64 kd a b = true)
    (hp : ∀ w, Ret 74 #[.string s, .int .u8 58] w (.tuple #[.int .i64 kd, .int .u64 a, .int .u64 b, .bool true])) :
    Ret 49 #[.string s] w (.tuple #[dV kd a b, .int .i64 0]) := by
  have hk := fun w => ro_check kd a b w b0
  rw [dErr_ok h] at hk
  rw [dOk_iff] at h
  obtain ⟨k1, k3, a0, a1, _⟩ := h
  have e1 : IntKind.i64.wrap a = a := by rw [IntKind.wrap_i64]; omega
  have e2 : IntKind.u32.wrap b = b := by rw [IntKind.wrap_u32]; omega
  have HK := Lib.hid hk
  have HP := Lib.hid hp
  clear hp hk
  go_enter Tryz.func49, Tryz.ntmps49
  go_wp2_with fail
  refine (HP.out _).mono ?_
  rintro e w1 ⟨rfl, hb1⟩
  have hc1 := under (w := w) hb1
  have c0 : w1.cell? ⟨w.heap.size, 0, none⟩ = some (.int .i64 0) := by rw [(bcell hb1).1 _ _ (by simp)]; simp
  have c1 : w1.cell? ⟨w.heap.size, 1, none⟩ = some (.int .i64 0) := by rw [(bcell hb1).1 _ _ (by simp)]; simp
  have c2 : w1.cell? ⟨w.heap.size, 2, none⟩ = some (.int .u32 0) := by rw [(bcell hb1).1 _ _ (by simp)]; simp
  have fr : ∀ o, w1.frozen? ⟨w.heap.size, o, none⟩ = false := fun o => by rw [(bcell hb1).2 _ _ (by simp)]; simp
  have z1 : w.heap.size < w1.heap.size := by have := hb1.size; simp at this; omega
  have z2 : w.heap.size < w1.heap.size + 1 := by omega
  clear hb1
  go_wp2_with fail
  refine (HK.out _).mono ?_
  rintro e w2 ⟨rfl, hb2⟩
  have hc2 := hc1.trans ((under (w := w1) hb2).mono hc1.size)
  have d0 := keep_cell (b := w.heap.size) (o := 0) hb2 (by simp; omega) (by go_simp; rfl)
  have d1 := keep_cell (b := w.heap.size) (o := 1) hb2 (by simp; omega) (by go_simp; rfl)
  have d2 := keep_cell (b := w.heap.size) (o := 2) hb2 (by simp; omega) (by go_simp; rfl)
  have fr2 : ∀ o, w2.frozen? ⟨w.heap.size, o, none⟩ = false := fun o => by rw [(bcell hb2).2 _ _ (by simp; omega)]; go_simp
  have g0 := keep_cell (b := w1.heap.size) (o := 0) (v := .int .i64 kd) hb2 (by simp) (by go_simp)
  have g1 := keep_cell (b := w1.heap.size) (o := 1) (v := .int .i64 a) hb2 (by simp) (by go_simp)
  have g2 := keep_cell (b := w1.heap.size) (o := 2) (v := .int .u32 b) hb2 (by simp) (by go_simp)
  go_wp2_with fail
  refine bodyPost_ret (v := .tuple #[dV kd a b, .int .i64 0]) (by simp [results, Tryz.results49, go_sem, d0, d1, d2]) rfl ⟨rfl, ?_⟩
  repeat (refine Below.setCell ?_ (by simp) _)
  exact hc2
theorem ro_parse_is (s : ByteArray) (k sl g : Int) (h : IsD 58 64 s.data.toList k sl g) (w : World) : Ret 49 #[.string s] w (.tuple #[dV k sl g, .int .i64 0]) := by
  obtain ⟨hok, gm, g0, he⟩ := h
  obtain ⟨k1, k3, s0, s1, gz⟩ := dOk_iff.1 hok
  have hc : sgn 58 := by simp [sgn]
  have hsz : s.size ≤ 22 := by
    have := (dTextL_len 58 (k := k) (s := sl) (g := g) (by omega) (by omega)).1
    rw [← he, len_bytes] at this
    exact this
  obtain ⟨n1, n2⟩ := numB_dec sl.toNat (by omega)
  obtain ⟨m1, m2⟩ := numB_dec g.toNat (by omega)
  have hp := fun w => parts_at s (by omega) 58 (letterB k) 58 rfl (decDigits sl.toNat) (decDigits g.toNat) (by rw [he]; rfl) (pre_not_mem hc k _) (decDigits_length_pos _) w
  have ho : ptOk (letterB k) (decDigits sl.toNat) (decDigits g.toNat) = true := by
    unfold ptOk
    rw [n1, m1, m2, kI_letter k1 k3]
    simp
    omega
  rw [ho, n2, m2, kI_letter k1 k3, Int.toNat_of_nonneg s0, Int.toNat_of_nonneg g0] at hp
  exact ro_parse_ok s k sl g w gm g0 hok hp
theorem ro_parse_not (s : ByteArray) (hs : s.size ≤ 100000) (h : ∀ k sl g, ¬ IsD 58 64 s.data.toList k sl g) (w : World) : Ret 49 #[.string s] w (.tuple #[dV 0 0 0, .int .i64 9]) := by
  rcases mem_split s.data.toList 58 with hm | ⟨pre, post, hm, he⟩
  · exact ro_parse_no s 0 0 0 w (by omega) (by omega) (by omega) (by omega) (by omega) (by omega) (fun w => parts_no s hs 58 58 rfl hm w)
  · by_cases hl : pre.length < 2
    · exact ro_parse_no s 0 0 0 w (by omega) (by omega) (by omega) (by omega) (by omega) (by omega) (fun w => parts_short s hs 58 58 rfl pre post he hm hl w)
    · cases pre with
      | nil => exact absurd (by simp) hl
      | cons x r =>
        have hp := fun w => parts_at s hs 58 x 58 rfl r post he hm (by simp at hl; omega) w
        obtain ⟨a0, a1⟩ := numV_bound r
        obtain ⟨b0, b1⟩ := numV_bound post
        obtain ⟨x0, x1⟩ := kI_bound x
        cases ho : ptOk x r post with
        | false =>
          rw [ho] at hp
          exact ro_parse_no s _ _ _ w x0 x1 a0 a1 b0 b1 hp
        | true =>
          rw [ho] at hp
          unfold ptOk at ho
          rw [Bool.and_eq_true, Bool.and_eq_true, Bool.and_eq_true, decide_eq_true_iff, decide_eq_true_iff] at ho
          obtain ⟨n1, m1, kp, bp⟩ := ho
          cases hok : dOk 64 (kI x) (numV r) (numV post) with
          | false => exact ro_parse_chk s _ _ _ w x0 x1 a0 a1 b0 (by omega) hok hp
          | true =>
            exfalso
            refine h (kI x) (numV r) (numV post) ⟨hok, by omega, b0, ?_⟩
            obtain ⟨v1, v2⟩ := numB_val n1
            obtain ⟨v3, v4⟩ := numB_val m1
            unfold dTextL
            rw [letter_kI kp, v1, v3, Int.toNat_natCast, Int.toNat_natCast, v2, v4]
            exact he
end Go.Proofs.YtgckfiadnmjonaaGreatDoor

/- The reference's Runes and Check (chapter 2): their contracts. -/
namespace Go.Proofs.YtgckfiadnmjonaaGreatDoor
open Go.RowKit
set_option linter.unusedVariables false
set_option linter.unusedSimpArgs false

theorem int_info : (Tryz.prog.info? 3).map (fun i => (i.zero, i.size, i.bytes)) = some (some (.int .i64 0), 1, 8) := by kernel_rfl
def cellsI (l : List Nat) : List Value := l.map fun (n : Nat) => Value.int .i64 (n : Int)
def OwnsI (base : Nat) (W : World) (v : Value) (l : List Nat) : Prop := W.ownsRow base 3 1 v l.length (cellsI l)
theorem OwnsI.on {b : Nat} {W W' : World} {v : Value} {l : List Nat} (h : OwnsI b W v l) (hb : Below W.heap.size W W') : OwnsI b W' v l := by
  refine ⟨h.1, ?_⟩
  rcases h.2 with h0 | ⟨g, cap, cur, h1, h2, h3, h4⟩
  · exact .inl h0
  · exact .inr ⟨g, cap, cur, h1, h2, (hb.block g (Array.getElem?_eq_some_iff.1 h3).1).trans h3, h4⟩
theorem OwnsI.len {b : Nat} {W : World} {v : Value} {l : List Nat} (h : OwnsI b W v l) : ∃ p c, v = .slice p l.length c := by
  rcases h.2 with ⟨rfl, h0⟩ | ⟨g, cap, cur, rfl, _⟩
  · exact ⟨none, 0, by rw [h0]⟩
  · exact ⟨_, _, rfl⟩
set_option maxHeartbeats 8000000 in
set_option maxRecDepth 100000 in
theorem runes_c (s : ByteArray) (w : World) (hs : s.size ≤ 1000000) : Calls Tryz.prog 57 #[.string s] w fun e w' =>
    Below w.heap.size w w' ∧ ((runesL s.data.toList = none ∧ e = .returned (.tuple #[.slice none 0 0, .bool false])) ∨ ∃ v rs, runesL s.data.toList = some rs ∧ e = .returned (.tuple #[v, .bool true]) ∧ OwnsI w.heap.size w' v rs) := by
  obtain ⟨i0, hi, hz0, hz1, hz2⟩ := info_parts int_info
  have HI0 := Lib.hid hi
  have HZ0 := Lib.hid hz0
  have HZ1 := Lib.hid hz1
  have HZ2 := Lib.hid hz2
  clear hi hz0 hz1 hz2
  go_enter Tryz.func57, Tryz.ntmps57
  go_wp2_with fail
  go_loopw [4, 5] (fun v iv wr => ∃ (pos : Nat) (acc : List Nat), iv = .int .i64 pos ∧ pos ≤ s.size ∧ acc.length ≤ pos ∧ runesL s.data.toList = (runesL (s.data.toList.drop pos)).map (acc ++ ·) ∧ OwnsI w.heap.size wr v acc ∧ Below w.heap.size w wr) (fun _ iv _ => s.size - (intOf iv).toNat)
  case atStart =>
    refine ⟨0, [], rfl, by omega, by simp, ?_, World.ownsRow_nil _ _ _ _, Below.refl _ _⟩
    rw [List.drop_zero]
    cases runesL s.data.toList <;> simp
  case round =>
    obtain ⟨pos, acc, rfl, hps, hal, hrs, hown, hB⟩ := hrel
    by_cases hp : pos < s.size
    · have hp2 : (pos : Int) < (s.size : Int) := by omega
      have hc := fun w => rune_c s pos w hs hp
      cases hr : rnAt s pos with
      | none =>
        rw [hr] at hc
        have hc' : ∀ w, Ret 77 #[.string s, .int .i64 pos] w (.tuple #[.int .i64 0, .int .i64 0]) := hc
        have HC := Lib.hid hc'
        clear hc'
        rw [runes_at_none hp hr] at hrs
        have HR := Lib.hid hrs
        have HB := Lib.hid hB
        have HO := Lib.hid hown
        clear hc hrs hB hown
        go_wp2_with fail
        refine Calls.mono (HC.out _) ?_
        rintro e w1 ⟨rfl, hb⟩
        go_wp2_with fail
        go_returns
        exact ⟨chain HB.out hb, .inl ⟨HR.out, rfl⟩⟩
      | some p =>
        obtain ⟨r, n⟩ := p
        rw [hr] at hc
        have hc' : ∀ w, Ret 77 #[.string s, .int .i64 pos] w (.tuple #[.int .i64 r, .int .i64 n]) := hc
        have HC := Lib.hid hc'
        clear hc'
        have hwd := rnAt_width hp hr
        rw [runes_at hp hr, Option.map_map] at hrs
        have HR := Lib.hid hrs
        have HB := Lib.hid hB
        have HO := Lib.hid hown
        have hn0 : ((n : Int) == 0) = false := by rw [beq_eq_false_iff_ne]; omega
        clear hc hrs hB hown
        go_wp2_with fail
        refine Calls.mono (HC.out _) ?_
        rintro e w1 ⟨rfl, hb⟩
        have hB := chain HB.out hb
        have hsz := hB.size
        have Q1 := Lib.hid ((HO.out.on hb).on (below_alloc w1 (.cells #[.int .i64 r] 3)))
        have hsrc : ∀ (j : Nat) (v : Value), ([.int .i64 (r : Int)] : List Value)[j]? = some v → (w1.alloc (.cells #[.int .i64 r] 3)).cell? ((⟨w1.heap.size, 0, none⟩ : Addr).add j) = some v := by
          intro j v hj
          match j, hj with
          | 0, hj => simp at hj; subst hj; simp [Addr.add]
        have HSRC := Lib.hid hsrc
        have HB2 := Lib.hid (hB.alloc hB.size (.cells #[.int .i64 r] 3))
        clear hB hb HO HB hsrc
        go_wp2_with (at_builtin; refine wpList_append_own _ rfl _ _ 58 rfl w.heap.size 3 i0 (.int .i64 0) 1 8 Tryz.underlying58 HI0.out HZ0.out HZ1.out HZ2.out rfl (by decide) _ _ _ rfl Q1.out ⟨w1.heap.size, 0, none⟩ 1 1 [.int .i64 (r : Int)] rfl rfl HSRC.out (by intro u hu; simp at hu; subst hu; rfl) (by unfold maxLen; omega) (by omega) (by simp; omega) ?_; intro v' w9 hown' hgrow hnil; have HOWN := Lib.hid hown'; have HGR := Lib.hid hgrow; clear hown' hgrow hnil)
        have hlo : ∀ k, _ = some k → w.heap.size ≤ k := fun k hk => (World.ownsRow.lt Q1.out k hk).1
        have hB6 : Below w.heap.size w w9 := HB2.out.grown HGR.out (by simp; omega) (fun k hk => hlo k hk)
        refine ⟨⟨pos + n, acc ++ [r], by go_num, by omega, by simp; omega, ?_, ?_, hB6⟩, by simp [intOf]; omega⟩
        · rw [HR.out]
          congr 1
          funext x
          simp
        · unfold OwnsI cellsI
          rw [List.map_append, List.length_append]
          exact HOWN.out
    · have hp2 : ¬ (pos : Int) < (s.size : Int) := by omega
      rw [List.drop_of_length_le (by rw [len_bytes]; omega), runesL_nil] at hrs
      have HR := Lib.hid hrs
      clear hrs
      go_wp2_with fail
      go_returns
      exact ⟨hB, .inr ⟨_, acc, by rw [HR.out]; simp, rfl, hown⟩⟩
theorem OwnsI.cell {b : Nat} {W : World} {v : Value} {l : List Nat} (h : OwnsI b W v l) (h0 : l ≠ []) : ∃ g c, v = .slice (some ⟨g, 0, none⟩) l.length c ∧ ∀ (k : Nat) (hk : k < l.length), W.cell? ⟨g, k, none⟩ = some (.int .i64 (l[k] : Nat)) := by
  rcases h.2 with ⟨_, hz⟩ | ⟨g, cap, cur, rfl, h2, h3, h4, h5, h6, h7⟩
  · exact absurd (List.eq_nil_of_length_eq_zero hz) h0
  · refine ⟨g, cap, rfl, fun k hk => ?_⟩
    have e : W.cell? ⟨g, k, none⟩ = cur[k]? := by simp [World.cell?, h3]
    rw [e]
    have h8 : (cur.toList.take (l.length * 1))[k]? = cur.toList[k]? := by rw [List.getElem?_take]; rw [if_pos (by omega)]
    rw [h7] at h8
    rw [← Array.getElem?_toList, ← h8]
    simp [cellsI, hk]
set_option maxHeartbeats 8000000 in
set_option maxRecDepth 100000 in
theorem rtcheck_c (s : ByteArray) (w : World) (hs : s.size ≤ 1000000) : Ret 35 #[.string s] w (.int .i64 (tagErr s.data.toList)) := by
  have c := fun w => runes_c s w hs
  have C := Lib.hid c
  clear c
  cases hr : runesL s.data.toList with
  | none =>
    rw [show tagErr s.data.toList = 16 by unfold tagErr tagOk; rw [hr]; rfl]
    go_enter Tryz.func35, Tryz.ntmps35
    go_wp2_with fail
    refine Calls.mono (C.out _) ?_
    rintro e w1 ⟨hb, ⟨-, rfl⟩ | ⟨v, rs, h, -⟩⟩
    · go_wp2_with fail
      go_returns
      exact ⟨rfl, hb⟩
    · rw [hr] at h
      cases h
  | some rs =>
    by_cases hl : 1 ≤ rs.length ∧ rs.length ≤ 24
    · have hne : rs ≠ [] := by intro e; rw [e] at hl; simp at hl
      have p1 : decide ((rs.length : Int) < 1) = false := decide_eq_false (by omega)
      have p2 : decide ((24 : Int) < (rs.length : Int)) = false := decide_eq_false (by omega)
      have hv : ∀ a, rs.all runeOk = a → tagErr s.data.toList = if a then 0 else 16 := by
        intro a ha
        unfold tagErr tagOk
        rw [hr]
        simp only [tagOf, decide_eq_true hl.1, decide_eq_true hl.2, ha, Bool.true_and]
      generalize tagErr s.data.toList = V at *
      have HV := Lib.hid hv
      clear hv
      go_enter Tryz.func35, Tryz.ntmps35
      go_wp2_with fail
      refine Calls.mono (C.out _) ?_
      rintro e w1 ⟨hb, ⟨h, -⟩ | ⟨v, rs', h, rfl, ho⟩⟩
      · rw [hr] at h
        cases h
      · rw [hr] at h
        injection h with h
        subst h
        obtain ⟨g, cc, rfl, hcell⟩ := ho.cell hne
        clear ho
        go_wp2_with fail
        go_loopw [5] (fun iv wr => ∃ (k : Nat), iv = .int .i64 k ∧ k ≤ rs.length ∧ wr = w1 ∧ (rs.take k).all runeOk = true) (fun iv _ => rs.length - (intOf iv).toNat)
        case atStart => exact ⟨0, rfl, by omega, rfl, by simp⟩
        case round =>
          obtain ⟨k, rfl, hk, rfl, hall⟩ := hrel
          by_cases hkl : k < rs.length
          · have hk2 : (k : Int) < (rs.length : Int) := by omega
            have hck := hcell k hkl
            have htk : rs.take (k + 1) = rs.take k ++ [rs[k]] := by rw [List.take_add_one, List.getElem?_eq_getElem hkl]; rfl
            cases hro : runeOk rs[k] with
            | true =>
              have h2 : 32 ≤ rs[k] ∧ rs[k] ≠ 127 := by unfold runeOk at hro; simpa using hro
              have q1 : decide ((rs[k] : Int) < 32) = false := decide_eq_false (by omega)
              have q2 : ((rs[k] : Int) == 127) = false := by rw [beq_eq_false_iff_ne]; omega
              have HT : (rs.take (k + 1)).all runeOk = true := by rw [htk, List.all_append, hall]; simp [hro]
              clear htk hall
              go_wp2_with fail
              exact ⟨⟨k + 1, by go_num, by omega, trivial, HT⟩, by simp [intOf]; omega⟩
            | false =>
              have hna : rs.all runeOk = false := by
                rw [List.all_eq_false]
                exact ⟨rs[k], List.getElem_mem hkl, by simp [hro]⟩
              have HN := Lib.hid hna
              clear hna htk hall
              by_cases h32 : rs[k] < 32
              · have q1 : decide ((rs[k] : Int) < 32) = true := decide_eq_true (by omega)
                go_wp2_with fail
                rw [show V = 16 from HV.out _ HN.out]
                go_returns
                exact ⟨rfl, hb⟩
              · have q1 : decide ((rs[k] : Int) < 32) = false := decide_eq_false (by omega)
                have q2 : ((rs[k] : Int) == 127) = true := by
                  unfold runeOk at hro
                  rw [decide_eq_true (show 32 ≤ rs[k] by omega)] at hro
                  simp at hro
                  rw [beq_iff_eq]
                  omega
                go_wp2_with fail
                rw [show V = 16 from HV.out _ HN.out]
                go_returns
                exact ⟨rfl, hb⟩
          · obtain rfl : k = rs.length := by omega
            rw [List.take_length] at hall
            have HA := Lib.hid hall
            clear hall
            go_wp2_with fail
            rw [show V = 0 from HV.out _ HA.out]
            go_returns
            exact ⟨rfl, hb⟩
    · have hv : tagErr s.data.toList = 16 := by
        unfold tagErr tagOk
        rw [hr]
        unfold tagOf
        rw [if_neg]
        intro h
        simp only [Bool.and_eq_true, decide_eq_true_iff] at h
        omega
      rw [hv]
      by_cases h1 : rs.length < 1
      · have p1 : decide ((rs.length : Int) < 1) = true := decide_eq_true (by omega)
        go_enter Tryz.func35, Tryz.ntmps35
        go_wp2_with fail
        refine Calls.mono (C.out _) ?_
        rintro e w1 ⟨hb, ⟨h, -⟩ | ⟨v, rs', h, rfl, ho⟩⟩
        · rw [hr] at h
          cases h
        · rw [hr] at h
          injection h with h
          subst h
          obtain ⟨pp, cc, rfl⟩ := ho.len
          go_wp2_with fail
          go_returns
          exact ⟨rfl, hb⟩
      · have p1 : decide ((rs.length : Int) < 1) = false := decide_eq_false (by omega)
        have p2 : decide ((24 : Int) < (rs.length : Int)) = true := decide_eq_true (by omega)
        go_enter Tryz.func35, Tryz.ntmps35
        go_wp2_with fail
        refine Calls.mono (C.out _) ?_
        rintro e w1 ⟨hb, ⟨h, -⟩ | ⟨v, rs', h, rfl, ho⟩⟩
        · rw [hr] at h
          cases h
        · rw [hr] at h
          injection h with h
          subst h
          obtain ⟨pp, cc, rfl⟩ := ho.len
          go_wp2_with fail
          go_returns
          exact ⟨rfl, hb⟩
end Go.Proofs.YtgckfiadnmjonaaGreatDoor

/- The reference's Quote and Unquote (chapter 2): their contracts. -/
namespace Go.Proofs.YtgckfiadnmjonaaGreatDoor
open Go.RowKit
set_option linter.unusedVariables false
set_option linter.unusedSimpArgs false

def OwnsB (base : Nat) (W : World) (v : Value) (l : List UInt8) : Prop := W.ownsRow base 5 1 v l.length (Lib.byteCells l)
theorem OwnsB.on {b : Nat} {W W' : World} {v : Value} {l : List UInt8} (h : OwnsB b W v l) (hb : Below W.heap.size W W') : OwnsB b W' v l := by
  refine ⟨h.1, ?_⟩
  rcases h.2 with h0 | ⟨g, cap, cur, h1, h2, h3, h4⟩
  · exact .inl h0
  · exact .inr ⟨g, cap, cur, h1, h2, (hb.block g (Array.getElem?_eq_some_iff.1 h3).1).trans h3, h4⟩
theorem OwnsB.new (W : World) (c : UInt8) : OwnsB W.heap.size (W.alloc (.cells #[.int .u8 (c.toNat : Int)] 5)) (.slice (some ⟨W.heap.size, 0, none⟩) 1 1) [c] := by
  refine ⟨by simp [Lib.byteCells], .inr ⟨W.heap.size, 1, #[.int .u8 (c.toNat : Int)], rfl, Nat.le_refl _, ?_, by simp, by unfold maxLen; omega, by simp, by simp [Lib.byteCells]⟩⟩
  exact (Row.new (W := W) (cs := #[.int .u8 (c.toNat : Int)]) (t := 5)).eq
/-- The text of bytes of its own. -/
theorem conv_own {b : Nat} {W : World} {v : Value} {l : List UInt8} (h : OwnsB b W v l) : (convert 108 9 v).run Tryz.prog W = .ok (.string ⟨l.toArray⟩) W := by
  rcases h.2 with ⟨rfl, h0⟩ | ⟨g, cap, cur, rfl, h2, h3, h4, h5, h6, h7⟩
  · obtain rfl : l = [] := List.eq_nil_of_length_eq_zero h0
    rw [List.length_nil] at *
    rw [run_convert_bytes_string W _ _ 5 none 0 0 Tryz.underlying108 Tryz.underlying5 Tryz.underlying9]
    rfl
  · refine run_convert_bytes_back (P := Tryz.prog) W 108 9 5 ⟨g, 0, none⟩ cap l Tryz.underlying108 Tryz.underlying5 Tryz.underlying9 (fun j hj => ?_)
    have e : W.cell? ((⟨g, 0, none⟩ : Addr).add j) = cur[j]? := by cases j <;> simp [World.cell?, h3, Addr.add]
    rw [e]
    have h8 : (cur.toList.take (l.length * 1))[j]? = cur.toList[j]? := by rw [List.getElem?_take]; rw [if_pos (by omega)]
    rw [h7] at h8
    rw [← Array.getElem?_toList, ← h8]
    simp [Lib.byteCells, hj]
theorem byte_src (W : World) (c : Int) : ∀ (j : Nat) (v : Value), ([.int .u8 c] : List Value)[j]? = some v → (W.alloc (.cells #[.int .u8 c] 5)).cell? ((⟨W.heap.size, 0, none⟩ : Addr).add j) = some v := by
  intro j v hj
  match j, hj with
  | 0, hj => simp at hj; subst hj; simp [Addr.add]
theorem byte_info : (Tryz.prog.info? 5).map (fun i => (i.zero, i.size, i.bytes)) = some (some (.int .u8 0), 1, 1) := by kernel_rfl
/-- What a row of bytes is behind an append of one. -/
theorem OwnsB.snoc {B : Nat} {W : World} {v : Value} {l : List UInt8} {c : UInt8} (h : W.ownsRow B 5 1 v (l.length + 1) (Lib.byteCells l ++ [.int .u8 (c.toNat : Int)])) : OwnsB B W v (l ++ [c]) := by
  unfold OwnsB
  rw [Lib.byteCells_append, List.length_append]
  exact h
theorem take_next (s : ByteArray) (k : Nat) (h : k < s.size) : s.data.toList.take (k + 1) = s.data.toList.take k ++ [s[k]] := by
  have h' : k < s.data.toList.length := by rw [len_bytes]; exact h
  rw [List.take_add_one, List.getElem?_eq_getElem h']
  rfl
set_option maxHeartbeats 8000000 in
set_option maxRecDepth 100000 in
theorem rtquote_c (s : ByteArray) (w : World) (hs : s.size ≤ 1000000) : Ret 44 #[.string s] w (quoteV s.data.toList) := by
  have c := fun w => rtcheck_c s w hs
  unfold tagErr at c
  unfold quoteV
  by_cases hok : tagOk s.data.toList = true
  · rw [if_pos hok] at c ⊢
    have C := Lib.hid c
    clear c
    obtain ⟨i0, hi, hz0, hz1, hz2⟩ := info_parts byte_info
    have HI0 := Lib.hid hi
    have HZ0 := Lib.hid hz0
    have HZ1 := Lib.hid hz1
    have HZ2 := Lib.hid hz2
    clear hi hz0 hz1 hz2
    go_enter Tryz.func44, Tryz.ntmps44
    go_wp2_with fail
    refine Calls.mono (C.out _) ?_
    rintro e w1 ⟨rfl, hb⟩
    go_wp2_with fail
    have hq := OwnsB.new w1 34
    have hc := hb.alloc hb.size (.cells #[.int .u8 34] 5)
    have hw0 : w.heap.size ≤ w1.heap.size := hb.size
    go_loopw [4, 5] (fun v iv wr => ∃ (k : Nat), iv = .int .i64 k ∧ k ≤ s.size ∧ OwnsB w1.heap.size wr v (34 :: escL (s.data.toList.take k)) ∧ Below w.heap.size w wr ∧ w1.heap.size ≤ wr.heap.size) (fun _ iv _ => s.size - (intOf iv).toNat)
    case atStart => exact ⟨0, rfl, by omega, hq, hc, by simp⟩
    case round =>
      clear hq hc hb
      obtain ⟨k, rfl, hk, ho, hB, hw2⟩ := hrel
      have hel : (34 :: escL (s.data.toList.take k) : List UInt8).length ≤ 2000001 := by
        have h1 := (escL_len (s.data.toList.take k)).2
        have h2 := List.length_take_le' k s.data.toList
        rw [len_bytes] at h2
        simp
        omega
      by_cases hkl : k < s.size
      · have hk2 : (k : Int) < (s.size : Int) := by omega
        have htk : (34 :: escL (s.data.toList.take (k + 1)) : List UInt8) = (34 :: escL (s.data.toList.take k)) ++ escB s[k] := by
          rw [take_next s k hkl, escL_append]
          simp [escL]
        have x0 := sIdx s k k rfl hkl
        generalize hcx : s[k] = cx at *
        clear hcx
        generalize (34 :: escL (s.data.toList.take k) : List UInt8) = pre at *
        have HTK := Lib.hid htk
        clear htk
        by_cases hq : cx = 34 ∨ cx = 92
        · have he : escB cx = [92, cx] := by unfold escB; rw [if_pos hq]
          rw [he] at HTK
          have Q1 := Lib.hid (ho.on (below_alloc wr (.cells #[.int .u8 92] 5)))
          have HSRC := Lib.hid (byte_src wr 92)
          have HB2 := Lib.hid (hB.alloc hB.size (.cells #[.int .u8 92] 5))
          have HHQ := Lib.hid hq
          clear ho hB he hq
          have hcase : ((cx.toNat : Int) == 34) = true ∨ (((cx.toNat : Int) == 34) = false ∧ ((cx.toNat : Int) == 92) = true) := by
            rcases HHQ.out with h | h
            · exact .inl (byt_is h 34 rfl).2
            · exact .inr ⟨(byt_not (a := cx) (c := 34) (by rw [h]; decide) 34 rfl).2, (byt_is h 92 rfl).2⟩

          rcases hcase with k1 | ⟨k1, k2⟩
          all_goals
            go_wp2_with (at_builtin; refine wpList_append_own _ rfl _ _ 108 rfl w1.heap.size 5 i0 (.int .u8 0) 1 1 Tryz.underlying108 HI0.out HZ0.out HZ1.out HZ2.out rfl (by decide) _ _ _ rfl Q1.out ⟨wr.heap.size, 0, none⟩ 1 1 [.int .u8 92] rfl rfl HSRC.out (by intro u hu; simp at hu; subst hu; rfl) (by unfold maxLen; omega) (by omega) (by simp; omega) ?_)
            intro v2 w9 hown' hgrow hnil
            have hlo : ∀ k, _ = some k → w1.heap.size ≤ k := fun k hk => (World.ownsRow.lt Q1.out k hk).1
            have hB9 := HB2.out.grown hgrow (by simp; omega) (fun k hk => Nat.le_trans hw0 (hlo k hk))
            have hz9 : w1.heap.size ≤ w9.heap.size := by have := hgrow.size; simp at this; omega
            have ho9 : OwnsB w1.heap.size w9 v2 (pre ++ [92]) := OwnsB.snoc (c := 92) hown'
            have Q2 := Lib.hid (ho9.on (below_alloc w9 (.cells #[.int .u8 (cx.toNat : Int)] 5)))
            have HSRC2 := Lib.hid (byte_src w9 cx.toNat)
            have HB3 := Lib.hid (hB9.alloc hB9.size (.cells #[.int .u8 (cx.toNat : Int)] 5))
            have hpl : (pre ++ [92]).length ≤ 2000002 := by rw [List.length_append]; simp; omega
            clear hown' hgrow hnil hlo hB9 ho9
            go_wp2_with (at_builtin; refine wpList_append_own _ rfl _ _ 108 rfl w1.heap.size 5 i0 (.int .u8 0) 1 1 Tryz.underlying108 HI0.out HZ0.out HZ1.out HZ2.out rfl (by decide) _ _ _ rfl Q2.out ⟨w9.heap.size, 0, none⟩ 1 1 [.int .u8 (cx.toNat : Int)] rfl rfl HSRC2.out (by intro u hu; simp at hu; subst hu; rfl) (by unfold maxLen; omega) (by omega) (by simp; omega) ?_)
            intro v3 w10 hown' hgrow hnil
            have hlo : ∀ k, _ = some k → w1.heap.size ≤ k := fun k hk => (World.ownsRow.lt Q2.out k hk).1
            have HO := Lib.hid (OwnsB.snoc (l := pre ++ [92]) (c := cx) (by rw [List.length_append]; exact hown'))
            have HG := Lib.hid hgrow
            clear hown' hgrow hnil
            go_wp2_with fail
            refine ⟨⟨k + 1, by go_num, by omega, ?_, HB3.out.grown HG.out (by simp; omega) (fun k hk => Nat.le_trans hw0 (hlo k hk)), ?_⟩, by simp [intOf]; omega⟩
            · rw [HTK.out]
              have := HO.out
              rw [List.append_assoc] at this
              exact this
            · have := HG.out.size
              simp at this
              omega
        · have he : escB cx = [cx] := by unfold escB; rw [if_neg hq]
          rw [he] at HTK
          obtain ⟨-, k1⟩ := byt_not (a := cx) (c := 34) (fun e => hq (.inl e)) 34 rfl
          obtain ⟨-, k2⟩ := byt_not (a := cx) (c := 92) (fun e => hq (.inr e)) 92 rfl
          have Q1 := Lib.hid (ho.on (below_alloc wr (.cells #[.int .u8 (cx.toNat : Int)] 5)))
          have HSRC := Lib.hid (byte_src wr cx.toNat)
          have HB2 := Lib.hid (hB.alloc hB.size (.cells #[.int .u8 (cx.toNat : Int)] 5))
          clear ho hB he
          go_wp2_with (at_builtin; refine wpList_append_own _ rfl _ _ 108 rfl w1.heap.size 5 i0 (.int .u8 0) 1 1 Tryz.underlying108 HI0.out HZ0.out HZ1.out HZ2.out rfl (by decide) _ _ _ rfl Q1.out ⟨wr.heap.size, 0, none⟩ 1 1 [.int .u8 (cx.toNat : Int)] rfl rfl HSRC.out (by intro u hu; simp at hu; subst hu; rfl) (by unfold maxLen; omega) (by omega) (by simp; omega) ?_; intro v' w9 hown' hgrow hnil; have HOWN1 := Lib.hid hown'; have HGR1 := Lib.hid hgrow; clear hown' hgrow hnil)
          have hlo : ∀ k, _ = some k → w1.heap.size ≤ k := fun k hk => (World.ownsRow.lt Q1.out k hk).1
          refine ⟨⟨k + 1, by go_num, by omega, ?_, HB2.out.grown HGR1.out (by simp; omega) (fun k hk => Nat.le_trans hw0 (hlo k hk)), ?_⟩, by simp [intOf]; omega⟩
          · rw [HTK.out]
            exact OwnsB.snoc HOWN1.out
          · have := HGR1.out.size
            simp at this
            omega
      · obtain rfl : k = s.size := by omega
        have hk2 : ¬ (s.size : Int) < (s.size : Int) := by omega
        have hte : s.data.toList.take s.size = s.data.toList := List.take_of_length_le (by rw [len_bytes]; exact Nat.le_refl _)
        rw [hte] at ho hel
        have Q1 := Lib.hid (ho.on (below_alloc wr (.cells #[.int .u8 34] 5)))
        have HSRC := Lib.hid (byte_src wr 34)
        have HB2 := Lib.hid (hB.alloc hB.size (.cells #[.int .u8 34] 5))
        clear ho hB
        go_wp2_with (at_builtin; refine wpList_append_own _ rfl _ _ 108 rfl w1.heap.size 5 i0 (.int .u8 0) 1 1 Tryz.underlying108 HI0.out HZ0.out HZ1.out HZ2.out rfl (by decide) _ _ _ rfl Q1.out ⟨wr.heap.size, 0, none⟩ 1 1 [.int .u8 34] rfl rfl HSRC.out (by intro u hu; simp at hu; subst hu; rfl) (by unfold maxLen; omega) (by omega) (by simp; omega) ?_)
        intro v2 w9 hown' hgrow hnil
        have hlo : ∀ k, _ = some k → w1.heap.size ≤ k := fun k hk => (World.ownsRow.lt Q1.out k hk).1
        have hcv := conv_own (OwnsB.snoc (c := 34) hown')
        have HG := Lib.hid hgrow
        clear hown' hgrow hnil
        go_wp2_with fail
        go_returns
        exact ⟨by simp [quoteL], HB2.out.grown HG.out (by simp; omega) (fun k hk => Nat.le_trans hw0 (hlo k hk))⟩
  · rw [if_neg hok] at c ⊢
    have C := Lib.hid c
    clear c
    go_enter Tryz.func44, Tryz.ntmps44
    go_wp2_with fail
    refine Calls.mono (C.out _) ?_
    rintro e w1 ⟨rfl, hb⟩
    go_wp2_with fail
    go_returns
    exact ⟨rfl, hb⟩
end Go.Proofs.YtgckfiadnmjonaaGreatDoor

/- The reference's Unquote (chapter 2): its contract. -/
namespace Go.Proofs.YtgckfiadnmjonaaGreatDoor
open Go.RowKit
set_option linter.unusedVariables false
set_option linter.unusedSimpArgs false
theorem sc_first (t : List UInt8) : Sc t [] 0 t := by
  unfold Sc
  cases scanL t <;> simp
/-- One byte further. -/
theorem sc_plain {t acc rest : List UInt8} {off : Nat} {c : UInt8} (h : Sc t acc off (c :: rest)) (h1 : c ≠ 34) (h2 : c ≠ 92) : Sc t (acc ++ [c]) (off + 1) rest := by
  unfold Sc at *
  rw [h, scanL_cons _ _ h1 h2, Option.map_map]
  congr 1
  funext x
  refine Prod.ext ?_ ?_
  · simp
  · simp; omega
theorem sc_esc {t acc rest : List UInt8} {off : Nat} {d : UInt8} (h : Sc t acc off (92 :: d :: rest)) (hd : d = 34 ∨ d = 92) : Sc t (acc ++ [d]) (off + 2) rest := by
  unfold Sc at *
  rw [h, scanL_slash, if_pos hd, Option.map_map]
  congr 1
  funext x
  refine Prod.ext ?_ ?_
  · simp
  · simp; omega
theorem sc_stop {t acc rest : List UInt8} {off : Nat} (h : Sc t acc off (34 :: rest)) : scanL t = some (acc, off + 1) := by
  unfold Sc at h
  rw [h, scanL_quote]
  simp
set_option maxHeartbeats 8000000 in
set_option maxRecDepth 100000 in
theorem rtunq_c (s : ByteArray) (w : World) (hs : s.size ≤ 1000000) : Ret 51 #[.string s] w (unqV s.data.toList) := by
  by_cases hz : s.size = 0
  · have hz2 : ((s.size : Int) == 0) = true := by rw [hz]; rfl
    have e : s.data.toList = [] := List.eq_nil_of_length_eq_zero (by rw [len_bytes]; exact hz)
    rw [e]
    show Ret _ _ _ (unqBad 9)
    go_enter Tryz.func51, Tryz.ntmps51
    go_wp2_with fail
    go_returns
    exact ⟨rfl, Below.refl _ _⟩
  · have hz2 : ((s.size : Int) == 0) = false := by rw [beq_eq_false_iff_ne]; omega
    have hz3 : 0 < s.size := by omega
    have x0 := sIdx s 0 0 rfl hz3
    have hd0 := drop_cons s 0 hz3
    rw [List.drop_zero] at hd0
    by_cases hq : s[0] = 34
    · rw [hq] at hd0
      obtain ⟨k1, -⟩ := byt_is hq 34 rfl
      rw [hd0]
      obtain ⟨t, ht⟩ : ∃ t, t = s.data.toList.drop (0 + 1) := ⟨_, rfl⟩
      rw [← ht]
      have hs0 : Sc t [] 0 (s.data.toList.drop 1) := by rw [show s.data.toList.drop 1 = t from ht.symm]; exact sc_first t
      have HS0 := Lib.hid hs0
      obtain ⟨i0, hi, hz0, hz1, hz2'⟩ := info_parts byte_info
      have HI0 := Lib.hid hi
      have HZ0 := Lib.hid hz0
      have HZ1 := Lib.hid hz1
      have HZ2 := Lib.hid hz2'
      clear hi hz0 hz1 hz2' hd0 ht hs0 hz
      go_enter Tryz.func51, Tryz.ntmps51
      go_wp2_with fail
      clear x0 k1 hq hz2
      go_loopw [5, 6] (fun v iv wr => ∃ (k : Nat) (acc : List UInt8), iv = .int .i64 k ∧ 1 ≤ k ∧ k ≤ s.size ∧ acc.length ≤ k ∧ OwnsB w.heap.size wr v acc ∧ Below w.heap.size w wr ∧ Sc t acc (k - 1) (s.data.toList.drop k)) (fun _ iv _ => s.size - (intOf iv).toNat)
      case atStart => exact ⟨1, [], rfl, by omega, by omega, by simp, World.ownsRow_nil _ _ _ _, Below.refl _ _, HS0.out⟩
      case round =>
        clear HS0
        obtain ⟨k, acc, rfl, h1, hk, hal, ho, hB, hS⟩ := hrel
        have hsz := hB.size
        by_cases hkl : k < s.size
        · have hk2 : decide ((s.size : Int) ≤ (k : Int)) = false := decide_eq_false (by omega)
          have x0 := sIdx s k k rfl hkl
          rw [drop_cons s k hkl] at hS
          by_cases h34 : s[k] = 34
          · obtain ⟨-, k1⟩ := byt_is h34 34 rfl
            rw [h34] at hS
            have hst := sc_stop hS
            rw [show k - 1 + 1 = k by omega] at hst
            have hv := unqV_some hst
            have c := fun w => rtcheck_c ⟨acc.toArray⟩ w (by rw [← len_bytes]; simp; omega)
            unfold tagErr at c
            rw [show (⟨acc.toArray⟩ : ByteArray).data.toList = acc by simp] at c
            cases hok : tagOk acc with
            | true =>
              rw [hok] at c hv
              simp only [if_true] at c hv
              have HV := Lib.hid hv
              have C := Lib.hid c
              have cv := conv_own ho
              have HO := Lib.hid ho
              clear hv c hst hS ho
              go_wp2_with fail
              refine Calls.mono (C.out _) ?_
              rintro e w1 ⟨rfl, hb⟩
              have cv2 := conv_own (HO.out.on hb)
              go_wp2_with fail
              rw [HV.out]
              go_returns
              exact ⟨rfl, chain hB hb⟩
            | false =>
              rw [hok] at c hv
              simp only [Bool.false_eq_true, if_false] at c hv
              have HV := Lib.hid hv
              have C := Lib.hid c
              have cv := conv_own ho
              clear hv c hst hS ho
              go_wp2_with fail
              refine Calls.mono (C.out _) ?_
              rintro e w1 ⟨rfl, hb⟩
              go_wp2_with fail
              rw [HV.out]
              go_returns
              exact ⟨rfl, chain hB hb⟩
          · obtain ⟨-, k1⟩ := byt_not h34 34 rfl
            by_cases h92 : s[k] = 92
            · obtain ⟨-, k3⟩ := byt_is h92 92 rfl
              rw [h92] at hS
              by_cases hk3 : k + 1 < s.size
              · have hk4 : decide ((s.size : Int) ≤ (k : Int) + 1) = false := decide_eq_false (by omega)
                have x1 := sIdx s (k + 1) ((k : Int) + 1) (by omega) hk3
                rw [drop_cons s (k + 1) hk3] at hS
                generalize hcx : s[k + 1] = cx at *
                clear hcx
                by_cases hq : cx = 34 ∨ cx = 92
                · have hS2 := sc_esc hS hq
                  rw [show k - 1 + 2 = k + 2 - 1 by omega] at hS2
                  have HS := Lib.hid hS2
                  have Q1 := Lib.hid (ho.on (below_alloc wr (.cells #[.int .u8 (cx.toNat : Int)] 5)))
                  have HSRC := Lib.hid (byte_src wr cx.toNat)
                  have HB2 := Lib.hid (hB.alloc hB.size (.cells #[.int .u8 (cx.toNat : Int)] 5))
                  have hcase : ((cx.toNat : Int) != 34) = false ∨ (((cx.toNat : Int) != 34) = true ∧ ((cx.toNat : Int) != 92) = false) := by
                    rcases hq with h | h
                    · exact .inl (byt_is h 34 rfl).1
                    · exact .inr ⟨(byt_not (a := cx) (c := 34) (by rw [h]; decide) 34 rfl).1, (byt_is h 92 rfl).1⟩
                  clear hS hS2 ho hB hq
                  rcases hcase with k5 | ⟨k5, k6⟩
                  all_goals
                    go_wp2_with (at_builtin; refine wpList_append_own _ rfl _ _ 108 rfl w.heap.size 5 i0 (.int .u8 0) 1 1 Tryz.underlying108 HI0.out HZ0.out HZ1.out HZ2.out rfl (by decide) _ _ _ rfl Q1.out ⟨wr.heap.size, 0, none⟩ 1 1 [.int .u8 (cx.toNat : Int)] rfl rfl HSRC.out (by intro u hu; simp at hu; subst hu; rfl) (by unfold maxLen; omega) (by omega) (by simp; omega) ?_)
                    intro v2 w9 hown' hgrow hnil
                    have hlo : ∀ k, _ = some k → w.heap.size ≤ k := fun k hk => (World.ownsRow.lt Q1.out k hk).1
                    have HO := Lib.hid (OwnsB.snoc (l := acc) (c := cx) hown')
                    have HG := Lib.hid hgrow
                    clear hown' hgrow hnil
                    go_wp2_with fail
                    exact ⟨⟨k + 2, acc ++ [cx], by go_num, by omega, by omega, by simp; omega, HO.out, HB2.out.grown HG.out (by simp; omega) (fun k hk => hlo k hk), HS.out⟩, by simp [intOf]; omega⟩
                · have hv : unqV (34 :: t) = unqBad 9 := unqV_none (by
                    unfold Sc at hS
                    rw [hS, scanL_slash, if_neg hq]
                    rfl)
                  have HV := Lib.hid hv
                  obtain ⟨k5, -⟩ := byt_not (a := cx) (c := 34) (fun e => hq (.inl e)) 34 rfl
                  obtain ⟨k6, -⟩ := byt_not (a := cx) (c := 92) (fun e => hq (.inr e)) 92 rfl
                  clear hv hS
                  go_wp2_with fail
                  rw [HV.out]
                  go_returns
                  exact ⟨rfl, hB⟩
              · have hk4 : decide ((s.size : Int) ≤ (k : Int) + 1) = true := decide_eq_true (by omega)
                have hv : unqV (34 :: t) = unqBad 9 := unqV_none (by
                  unfold Sc at hS
                  rw [hS, List.drop_of_length_le (by rw [len_bytes]; omega)]
                  rfl)
                have HV := Lib.hid hv
                clear hv hS
                go_wp2_with fail
                rw [HV.out]
                go_returns
                exact ⟨rfl, hB⟩
            · obtain ⟨-, k3⟩ := byt_not h92 92 rfl
              generalize hcx : s[k] = cx at *
              clear hcx
              have hS2 := sc_plain hS h34 h92
              rw [show k - 1 + 1 = k + 1 - 1 by omega] at hS2
              have HS := Lib.hid hS2
              have Q1 := Lib.hid (ho.on (below_alloc wr (.cells #[.int .u8 (cx.toNat : Int)] 5)))
              have HSRC := Lib.hid (byte_src wr cx.toNat)
              have HB2 := Lib.hid (hB.alloc hB.size (.cells #[.int .u8 (cx.toNat : Int)] 5))
              clear hS hS2 ho hB
              go_wp2_with (at_builtin; refine wpList_append_own _ rfl _ _ 108 rfl w.heap.size 5 i0 (.int .u8 0) 1 1 Tryz.underlying108 HI0.out HZ0.out HZ1.out HZ2.out rfl (by decide) _ _ _ rfl Q1.out ⟨wr.heap.size, 0, none⟩ 1 1 [.int .u8 (cx.toNat : Int)] rfl rfl HSRC.out (by intro u hu; simp at hu; subst hu; rfl) (by unfold maxLen; omega) (by omega) (by simp; omega) ?_)
              intro v2 w9 hown' hgrow hnil
              have hlo : ∀ k, _ = some k → w.heap.size ≤ k := fun k hk => (World.ownsRow.lt Q1.out k hk).1
              have HO := Lib.hid (OwnsB.snoc (l := acc) (c := cx) hown')
              have HG := Lib.hid hgrow
              clear hown' hgrow hnil
              go_wp2_with fail
              exact ⟨⟨k + 1, acc ++ [cx], by go_num, by omega, by omega, by simp; omega, HO.out, HB2.out.grown HG.out (by simp; omega) (fun k hk => hlo k hk), HS.out⟩, by simp [intOf]; omega⟩
        · obtain rfl : k = s.size := by omega
          have hk2 : decide ((s.size : Int) ≤ (s.size : Int)) = true := decide_eq_true (by omega)
          have hv : unqV (34 :: t) = unqBad 9 := unqV_none (by
            unfold Sc at hS
            rw [hS, List.drop_of_length_le (by rw [len_bytes]; exact Nat.le_refl _)]
            rfl)
          have HV := Lib.hid hv
          clear hv hS
          go_wp2_with fail
          rw [HV.out]
          go_returns
          exact ⟨rfl, hB⟩
    · obtain ⟨k1, -⟩ := byt_not hq 34 rfl
      have hv : unqV s.data.toList = unqBad 9 := unqV_head (by
        rw [hd0]
        simp only [Lib.hasPrefix, List.isPrefixOf]
        have : ((34 : UInt8) == s[0]) = false := by rw [beq_eq_false_iff_ne]; exact fun e => hq e.symm
        rw [this]
        rfl)
      rw [hv]
      go_enter Tryz.func51, Tryz.ntmps51
      go_wp2_with fail
      go_returns
      exact ⟨rfl, Below.refl _ _⟩
end Go.Proofs.YtgckfiadnmjonaaGreatDoor
