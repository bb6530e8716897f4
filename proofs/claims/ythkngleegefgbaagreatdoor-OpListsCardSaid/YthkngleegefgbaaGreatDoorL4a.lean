/- The program's ParseAll: what a round of it leaves. -/
import Derived.Test.YthkngleegefgbaaGreatDoorHOp8
import Derived.Test.YthkngleegefgbaaGreatDoorL2a
import Derived.Test.YthkngleegefgbaaGreatDoorL0b
import Derived.Sort.CutIn
namespace Go.Proofs.YthkngleegefgbaaGreatDoor
open Go.RowKit Go.Shelf
set_option linter.unusedVariables false
set_option linter.unusedSimpArgs false
theorem op_info : (Tryz.prog.info? 23).map (fun i => (i.zero, i.size, i.bytes)) = some (some (.agg #[.int .i64 0, .int .i64 0, .int .i64 0, .int .i64 0, .int .i64 0, .string ⟨#[]⟩]), 6, 56) := by kernel_rfl
/-- What a round has kept so far. -/
structure Mid (B n0 b0 : Nat) (W W' : World) : Prop where
  keeps : KeepsFrom B W W'
  below : Below n0 W W'
  boxes : ∀ (x : Nat) (cs : Array Value) (t : TypeId), (x = b0 ∨ x = b0 + 1 ∨ x = b0 + 2) → (t = 9 ∨ t = 3) → Row W x cs t → Row W' x cs t
theorem mid_refl (B n0 b0 : Nat) (W : World) : Mid B n0 b0 W W := ⟨KeepsFrom.refl _ _, Below.refl _ _, fun _ _ _ _ _ h => h⟩
theorem Mid.set {B n0 b0 : Nat} {W W' : World} (h : Mid B n0 b0 W W') {y : Nat} (hy : n0 ≤ y) (h1 : y ≠ b0) (h2 : y ≠ b0 + 1) (h3 : y ≠ b0 + 2) (j : Nat) (v : Value) : Mid B n0 b0 W (W'.setCell ⟨y, j, none⟩ v) :=
  ⟨h.keeps.trans ((KeepsOthers.setCell _ _ _).from _), h.below.setCell (p := ⟨y, j, none⟩) hy _, fun x cs t hx ht hr => (h.boxes x cs t hx ht hr).other (by omega) j v⟩
theorem Mid.on {B n0 b0 : Nat} {W W' W2 : World} (h : Mid B n0 b0 W W') (hn : n0 ≤ W.heap.size) (hb : Below W'.heap.size W' W2) : Mid B n0 b0 W W2 :=
  ⟨h.keeps.trans ⟨hb.size, fun k o _ hk _ => (hb.block k (Array.getElem?_eq_some_iff.1 hk).1).trans hk⟩, h.below.trans (hb.mono (Nat.le_trans hn h.below.size)), fun x cs t hx ht hr => (h.boxes x cs t hx ht hr).on hb⟩
theorem Mid.drew {B n0 b0 : Nat} {W W' : World} (h : Mid B n0 b0 W W') : Mid B n0 b0 W W'.drew :=
  ⟨h.keeps.trans ((KeepsOthers.drew _).from _), h.below.drew, fun x cs t hx ht hr => ⟨(h.boxes x cs t hx ht hr).eq⟩⟩
theorem Mid.app {B n0 b0 : Nat} {W W' w1 : World} (h : Mid B n0 b0 W W') (hn : n0 ≤ W.heap.size) {tmp : Obj} {v : Value} {l : List OpR} {base : Nat} (hbase : n0 ≤ base) (hr : OwnsO base W' v l) (hg : (W'.alloc tmp).grownBy w1 v.ownBlock) : Mid B n0 b0 W w1 := by
  have h2 := h.on hn (below_alloc W' tmp)
  have hr2 := hr.on (below_alloc W' tmp)
  refine ⟨h2.keeps.trans ⟨hg.size, fun k o _ hk ho => (hg.block k (Array.getElem?_eq_some_iff.1 hk).1 (fun e => ?_)).trans hk⟩, h2.below.grown hg (Nat.le_trans hn h2.below.size) (fun k e => ?_), fun x cs t hx ht hq => ?_⟩
  · rcases hr2.2 with ⟨rfl, _⟩ | ⟨g, cap, cur, rfl, _, h3, _⟩
    · cases e
    · obtain rfl : k = g := by simpa [Value.ownBlock] using e
      rw [h3] at hk
      injection hk with hk
      rw [← hk] at ho
      cases ho
  · exact Nat.le_trans hbase (World.ownsRow.lt hr2 k e).1
  · have q := h2.boxes x cs t hx ht hq
    exact ⟨(hg.block _ q.lt (row_apart q (by rcases ht with rfl | rfl <;> decide) hr2)).trans q.eq⟩
/-- Rows that are no operations' stay behind an append. -/
theorem row_app {W' w1 : World} {tmp : Obj} {v : Value} {l : List OpR} {base x : Nat} {cs : Array Value} {t : TypeId} (hr : OwnsO base W' v l) (hg : (W'.alloc tmp).grownBy w1 v.ownBlock) (q : Row W' x cs t) (ht : t ≠ 23) : Row w1 x cs t := by
  have q2 := q.on (below_alloc W' tmp)
  exact ⟨(hg.block _ q2.lt (row_apart q2 ht (hr.on (below_alloc W' tmp)))).trans q2.eq⟩
theorem OwnsO.kept {b : Nat} {W W' : World} {v : Value} {l : List OpR} {row : Option Nat} (h : OwnsO b W v l) (hg : W.grownBy W' row) (hrow : ∀ r, row = some r → ∃ o : Obj, W.heap[r]? = some o ∧ o.isCells = false) : OwnsO b W' v l := by
  refine ⟨h.1, ?_⟩
  rcases h.2 with h0 | ⟨g, cap, cur, h1, h2, h3, h4⟩
  · exact .inl h0
  · exact .inr ⟨g, cap, cur, h1, h2, (row_kept (⟨h3⟩ : Row W g cur _) hg hrow).eq, h4⟩
theorem OwnsO.far {b : Nat} {W : World} {v : Value} {l : List OpR} (h : OwnsO b W v l) {y : Nat} (hy : y < b) (j : Nat) (u : Value) : OwnsO b (W.setCell ⟨y, j, none⟩ u) v l := by
  refine ⟨h.1, ?_⟩
  rcases h.2 with h0 | ⟨g, cap, cur, h1, h2, h3, h4⟩
  · exact .inl h0
  · exact .inr ⟨g, cap, cur, h1, h2, (Row.other (⟨h3⟩ : Row W g cur _) (by omega) j u).eq, h4⟩
theorem skip_empty {x : ByteArray} (h : x.data.toList = []) : skipL x.data.toList = true := by rw [h]; rfl
theorem head_at {x : ByteArray} (h : 0 < x.size) : x.data.toList = x[0] :: x.data.toList.tail := by
  have hl := len_bytes x
  cases hh : x.data.toList with
  | nil => rw [hh] at hl; simp at hl; omega
  | cons a l =>
    have e : x[0] = x.data.toList[0]'(by rw [hl]; exact h) := rfl
    rw [e]
    simp [hh]
theorem skip_at {x : ByteArray} (h : 0 < x.size) : skipL x.data.toList = decide (x[0] = 35) := by
  rw [head_at h]
  unfold skipL
  simp
  rw [Bool.eq_iff_iff, beq_iff_eq, decide_eq_true_iff]
/-- Two rounds. -/
structure IP (w : World) (b0 : Nat) (pre : List Pc) (W : World) : Prop where
  r2 : Row W w.heap.size #[.slice none 0 0] 34
  r3 : Row W (w.heap.size + 1) #[.int .i64 0] 3
  r4 : Row W (w.heap.size + 2) #[.int .i64 0] 25
  out : ∃ v acc, Row W (w.heap.size + 3) #[v] 34 ∧ OwnsO (b0 + 3) W v acc ∧ acc.length ≤ 2000 ∧ SoFar (pcsL pre) acc
  cnt : Row W (w.heap.size + 4) #[.int .i64 pre.length] 3
  below : Below w.heap.size w W
  big : b0 + 3 ≤ W.heap.size
def IPx (w : World) (pre : List Pc) (W : World) : Prop := ∃ (n : Nat) (e : Int), Row W w.heap.size #[.slice none 0 0] 34 ∧ Row W (w.heap.size + 1) #[.int .i64 n] 3 ∧ Row W (w.heap.size + 2) #[.int .i64 e] 25 ∧ Stops (pcsL pre) ([], n, e) ∧ Below w.heap.size w W
theorem ip_own (w : World) (b0 B : Nat) (hB : w.heap.size ≤ B) : OwnFrom B (IP w b0) := fun s X Y row hs hg hr => by
  have hr2 : ∀ r, row = some r → ∃ o : Obj, X.heap[r]? = some o ∧ o.isCells = false := fun r e => (hr r e).2
  obtain ⟨v, acc, h1, h2, h3, h4⟩ := hs.out
  exact ⟨row_kept hs.r2 hg hr2, row_kept hs.r3 hg hr2, row_kept hs.r4 hg hr2, ⟨v, acc, row_kept h1 hg hr2, h2.kept hg hr2, h3, h4⟩, row_kept hs.cnt hg hr2, ownFrom_below (β := Unit) (Nat.le_refl _) hB () X Y row hs.below hg hr, Nat.le_trans hs.big hg.size⟩
theorem ipx_own (w : World) (B : Nat) (hB : w.heap.size ≤ B) : OwnFrom B (IPx w) := fun s X Y row hs hg hr => by
  have hr2 : ∀ r, row = some r → ∃ o : Obj, X.heap[r]? = some o ∧ o.isCells = false := fun r e => (hr r e).2
  obtain ⟨n, e, h1, h2, h3, h4, h5⟩ := hs
  exact ⟨n, e, row_kept h1 hg hr2, row_kept h2 hg hr2, row_kept h3 hg hr2, h4, ownFrom_below (β := Unit) (Nat.le_refl _) hB () X Y row h5 hg hr⟩
theorem ip_box {w : World} {b0 : Nat} (hb : b0 = w.heap.size + 5) {pre : List Pc} {W : World} (h : IP w b0 pre W) (v : Value) : IP w b0 pre (W.setCell ⟨b0, 0, none⟩ v) := by
  obtain ⟨u, acc, h1, h2, h3, h4⟩ := h.out
  exact ⟨h.r2.other (by omega) 0 v, h.r3.other (by omega) 0 v, h.r4.other (by omega) 0 v, ⟨u, acc, h1.other (by omega) 0 v, h2.far (by omega) 0 v, h3, h4⟩, h.cnt.other (by omega) 0 v, h.below.setCell (p := ⟨b0, 0, none⟩) (by simp; omega) v, by have := h.big; simpa using this⟩
end Go.Proofs.YthkngleegefgbaaGreatDoor

/- The program's ParseAll: its contract. -/
namespace Go.Proofs.YthkngleegefgbaaGreatDoor
open Go.RowKit Go.Shelf
set_option linter.unusedVariables false
set_option linter.unusedSimpArgs false
set_option maxHeartbeats 40000000
set_option maxRecDepth 20000
attribute [local go_sem] Oper.semAt_some
theorem row_up {W : World} {x n : Nat} {cs : Array Value} {t : TypeId} {o : Obj} (h : Row W x cs t) : Row (W.alloc o) x cs t := h.on (below_alloc W o)
theorem row_top {W : World} {n : Nat} (hn : W.heap.size = n) (cs : Array Value) (t : TypeId) : Row (W.alloc (.cells cs t)) n cs t := by rw [← hn]; exact Row.new
/-- Five blocks laid, one behind the other; and three more. -/
theorem five (w : World) (c0 c1 c2 c3 c4 : Array Value) (t0 t1 t2 t3 t4 : TypeId) : ∃ W, W = ((((w.alloc (.cells c0 t0)).alloc (.cells c1 t1)).alloc (.cells c2 t2)).alloc (.cells c3 t3)).alloc (.cells c4 t4) ∧ W.heap.size = w.heap.size + 5 ∧ Below w.heap.size w W ∧
    Row W w.heap.size c0 t0 ∧ Row W (w.heap.size + 1) c1 t1 ∧ Row W (w.heap.size + 2) c2 t2 ∧ Row W (w.heap.size + 3) c3 t3 ∧ Row W (w.heap.size + 4) c4 t4 := by
  refine ⟨_, rfl, by simp, by go_grown, ?_, ?_, ?_, ?_, ?_⟩
  · exact row_up (n := 0) (row_up (n := 0) (row_up (n := 0) (row_up (n := 0) (row_top rfl _ _))))
  · exact row_up (n := 0) (row_up (n := 0) (row_up (n := 0) (row_top (by simp) _ _)))
  · exact row_up (n := 0) (row_up (n := 0) (row_top (by simp) _ _))
  · exact row_up (n := 0) (row_top (by simp) _ _)
  · exact row_top (by simp) _ _
theorem three (w : World) (c0 c1 c2 : Array Value) (t0 t1 t2 : TypeId) : ∃ W, W = ((w.alloc (.cells c0 t0)).alloc (.cells c1 t1)).alloc (.cells c2 t2) ∧ W.heap.size = w.heap.size + 3 ∧ Below w.heap.size w W ∧
    Row W w.heap.size c0 t0 ∧ Row W (w.heap.size + 1) c1 t1 ∧ Row W (w.heap.size + 2) c2 t2 := by
  refine ⟨_, rfl, by simp, by go_grown, ?_, ?_, ?_⟩
  · exact row_up (n := 0) (row_up (n := 0) (row_top rfl _ _))
  · exact row_up (n := 0) (row_top (by simp) _ _)
  · exact row_top (by simp) _ _
theorem op_src (W : World) (kd : Int) (f : Fl) : ∀ (j : Nat) (v : Value), ([.int .i64 kd, .int .i64 f.m, .int .i64 f.a, .int .i64 f.b, .int .i64 f.c, .string f.tag] : List Value)[j]? = some v → (W.alloc (.cells #[.int .i64 kd, .int .i64 f.m, .int .i64 f.a, .int .i64 f.b, .int .i64 f.c, .string f.tag] 23)).cell? ((⟨W.heap.size, 0, none⟩ : Addr).add j) = some v := by
  intro j v hv
  rw [show (⟨W.heap.size, 0, none⟩ : Addr).add j = ⟨W.heap.size, j, none⟩ by simp [Addr.add]; omega, Row.cell (Row.new (W := W)) j]
  simpa using hv
def ParseAllP (s : ByteArray) (b : Nat) (e : Ending) (w' : World) : Prop := ∃ v, e = .returned (.tuple #[v, .int .i64 (parseAllR s.data.toList).2.1, .int .i64 (parseAllR s.data.toList).2.2]) ∧ OwnsO b w' v (parseAllR s.data.toList).1
theorem owns_nil (b : Nat) (W : World) : OwnsO b W (.slice none 0 0) [] := World.ownsRow_nil _ _ _ _
theorem parseAll_c (s : ByteArray) (w : World) (hE : EnvL w) (hs : s.size ≤ 100000) : Calls Tryz.prog 17 #[.string s] w fun e w' => ParseAllP s w.heap.size e w' ∧ Below w.heap.size w w' := by
  have hsl := len_bytes s
  by_cases hbig : (65536 : Int) < s.size
  · have hr : parseAllR s.data.toList = ([], 0, 10) := by unfold parseAllR; rw [if_pos (by rw [hsl]; omega)]
    unfold ParseAllP
    rw [hr]
    clear hr
    go_enter Tryz.func17, Tryz.ntmps17
    go_wp2_with fail
    go_returns
    exact ⟨⟨_, rfl, owns_nil _ _⟩, by go_grown⟩
  · have hr : parseAllR s.data.toList = allR (cutAll 10 s.data.toList) 0 [] := by unfold parseAllR; rw [if_neg (by rw [hsl]; omega)]
    unfold ParseAllP
    rw [hr]
    clear hr
    have HE := Lib.hid hE
    have HC := Lib.hid (splitSeq_c s 10)
    obtain ⟨i0, hi, hz0, hz1, hz2⟩ := info_parts op_info
    have HI0 := Lib.hid hi
    have HZ0 := Lib.hid hz0
    have HZ1 := Lib.hid hz1
    have HZ2 := Lib.hid hz2
    clear hE hsl hi hz0 hz1 hz2
    refine (callsIn_wide (n := 3)).1 ?_
    refine callsIn_of_wp_marks Tryz.func17 rfl trivial ?_ rfl
    simp only [Tryz.ntmps17, List.size_toArray, List.length_cons, List.length_nil, Nat.reduceAdd, Nat.reduceSub, Array.replicate_succ, Array.replicate_zero, List.push_toArray, List.append_toArray, List.nil_append, List.cons_append]
    refine wpIn_wide.2 ?_
    go_upto_region 5 with fail
    obtain ⟨W5, hW5, hz5, hb5, q2, q3, q4, q5, q6⟩ := five w #[.slice none 0 0] #[.int .i64 0] #[.int .i64 0] #[.slice none 0 0] #[.int .i64 0] 34 3 25 34 3
    rw [← hW5]
    clear hW5
    simp only [Nat.add_assoc, Nat.reduceAdd]
    go_wp2_with fail
    refine Calls.mono (HC.out _) ?_
    rintro e W8 ⟨rfl, hW8⟩
    obtain ⟨W9, hW9, hz9, hb9, s0, s1, s2⟩ := three W5 #[.string s] #[.string ⟨#[10]⟩] #[.int .i64 0] 9 9 3
    rw [← hW9] at hW8
    subst hW8
    clear hW9
    replace q2 := q2.on hb9
    replace q3 := q3.on hb9
    replace q4 := q4.on hb9
    replace q5 := q5.on hb9
    replace q6 := q6.on hb9
    have hc := chain hb5 hb9
    clear hb5 hb9
    generalize W5.heap.size = b0 at *
    have HB0 := Lib.hid hz5
    have HZ9 := Lib.hid hz9
    clear hz5 hz9
    go_wp2_with fail
    have hz5 := Nat.le_of_eq HB0.out
    have hz5b := Nat.le_of_eq HB0.out.symm
    have hz9 := Nat.le_of_eq HZ9.out
    have hz9b := Nat.le_of_eq HZ9.out.symm
    clear HB0 HZ9
    refine wpIn_wide.1 (?_ : Code.wpIn Fence.wide 3 _ _ _ _ _)
    refine wpIn_rangeBox (by omega) (gf := 86) (lb := #[.pointer (some ⟨b0 + 1, 0, none⟩), .pointer (some ⟨b0, 0, none⟩), .pointer (some ⟨b0 + 2, 0, none⟩)]) rfl (enters_of Tryz.func86 (by kernel_rfl) rfl) (b := b0) (by omega)
      (fun W hW => split_seq 2 (by omega) b0 w.heap.size 10 s hs W (s0.on hW) (s1.on hW) (s2.on hW)) kpS_t (kpS_b (by omega) (by omega)) (fun _ => rfl)
      (IP w b0) (fun c pre W => c = .ret ∧ IPx w pre W) (ip_own w b0 _ (by omega)) (fun c s X Y row hs hg hr => ⟨hs.1, ipx_own w _ (by omega) s X Y row hs.2 hg hr⟩) (fun s V v h => ip_box (by omega) h v)
      ⟨q2, q3, q4, ⟨_, [], q5, owns_nil _ _, by simp, soFar_nil⟩, q6, hc, by omega⟩
      (fun x => { tmps := #[.string s, undef, .pointer (some ⟨w.heap.size, 0, none⟩), .pointer (some ⟨w.heap.size + 1, 0, none⟩), .pointer (some ⟨w.heap.size + 2, 0, none⟩), .pointer (some ⟨w.heap.size + 3, 0, none⟩), .pointer (some ⟨w.heap.size + 4, 0, none⟩), .string x.1, undef, undef, .string s, .int .i64 s.size, .bool false, .string s, .func (.func 86) #[] #[.pointer (some ⟨b0 + 1, 0, none⟩), .pointer (some ⟨b0, 0, none⟩), .pointer (some ⟨b0 + 2, 0, none⟩)], .string x.1, undef, undef, undef, undef, undef, undef, undef, undef, undef, undef, undef, undef, undef, undef, undef, undef, undef, undef, undef, undef, undef, undef, undef, undef, undef, undef, undef], defers := [] })
      ?assign ?body ?done ?stop
    case assign =>
      intro l x W K hK
      gi_wp2
      exact hK
    case body =>
      rintro l pre x W ⟨r2, r3, r4, ⟨v, acc, r5, ho, hal, hso⟩, r6, hB, hbig⟩ hlen
      have hw6 : IntKind.i64.wrap ((pre.length : Int) + 1) = (pre.length : Int) + 1 := IntWalk.i64_in _ ⟨by omega, by omega⟩
      have hw7 : wrap64 ((pre.length : Int) + 1) = (pre.length : Int) + 1 := IntWalk.wrap64_in _ ⟨by omega, by omega⟩
      have y6 := r6.cell
      have u6 := r6.free
      have z6 := r6.lt
      have hx := x.2
      have t2 := r2.other (y := w.heap.size + 4) (by omega) 0 (.int .i64 ((pre.length : Int) + 1))
      have t3 := r3.other (y := w.heap.size + 4) (by omega) 0 (.int .i64 ((pre.length : Int) + 1))
      have t4 := r4.other (y := w.heap.size + 4) (by omega) 0 (.int .i64 ((pre.length : Int) + 1))
      have t5 := r5.other (y := w.heap.size + 4) (by omega) 0 (.int .i64 ((pre.length : Int) + 1))
      have t6 := r6.set 0 (.int .i64 ((pre.length : Int) + 1))
      simp only [List.setIfInBounds_toArray, List.set_cons_zero] at t6
      have tw := ho.far (y := w.heap.size + 4) (by omega) 0 (.int .i64 ((pre.length : Int) + 1))
      have tB := hB.setCell (p := ⟨w.heap.size + 4, 0, none⟩) (by simp) (.int .i64 ((pre.length : Int) + 1))
      have md := (mid_refl W8.heap.size w.heap.size b0 W).set (y := w.heap.size + 4) (by omega) (by omega) (by omega) (by omega) 0 (.int .i64 ((pre.length : Int) + 1))
      have hpl : ((pre ++ [x]).length : Int) = (pre.length : Int) + 1 := by simp
      have hnW := hB.size
      clear r2 r3 r4 r5 ho
      by_cases hemp : x.1.data.toList = []
      · have hq : x.1.toList.isEmpty = true := by rw [ByteArray.toList_eq, hemp]; rfl
        have hso2 := soFar_skip hso (skip_empty hemp)
        rw [← pcsL_snoc] at hso2
        have HSO := Lib.hid hso2
        have HPL := Lib.hid hpl
        clear hso hso2 hpl hemp
        gi_wp2_with fail
        exact ⟨md.keeps, ⟨md.below, md.boxes⟩, ⟨t2, t3, t4, ⟨v, acc, t5, tw, hal, HSO.out⟩, by rw [HPL.out]; exact t6, tB, Nat.le_trans hbig md.keeps.size⟩⟩
      · have hpos : 0 < x.1.size := by
          rcases Nat.eq_zero_or_pos x.1.size with h | h
          · exact absurd (List.eq_nil_of_length_eq_zero (by rw [len_bytes]; exact h)) hemp
          · exact h
        have hq : x.1.toList.isEmpty = false := by rw [ByteArray.toList_eq]; cases hh : x.1.data.toList with | nil => exact absurd hh hemp | cons a l => rfl
        have hk := skip_at hpos
        have h35 := ch_beq (c := x.1[0]) (n := 35) (by decide)
        change _ = decide (x.1[0] = 35) at h35
        have hp0 : (0 : Int) < x.1.size := by omega
        clear hemp
        cases hd : decide (x.1[0] = 35)
        · rw [hd] at hk h35
          obtain ⟨a0, c0, rfl⟩ := ownsRow_len tw
          have y5 := t5.cell
          have HSO := Lib.hid hso
          have HK := Lib.hid hk
          clear hso hd hk
          by_cases h2000 : acc.length = 2000
          · have h20 : ((acc.length : Int) == 2000) = true := by rw [beq_iff_eq]; omega
            have HST := stops_many HSO.out HK.out h2000
            rw [← pcsL_snoc, pcsL_len] at HST
            clear h2000
            gi_upto_region 10 with fail
            refine wpIn_region_round (S := (fun W' => ∀ j, W'.cell? ⟨w.heap.size + 4, j, none⟩ = (#[.int .i64 ((pre.length : Int) + 1)] : Array Value)[j]?)) (by kernel_rfl) (by kernel_rfl) t6.cell (fun hHeld => ?_)
            replace t2 := t2.drew
            replace t3 := t3.drew
            replace t4 := t4.drew
            replace t5 := t5.drew
            replace t6 := t6.drew
            replace tB := tB.drew
            replace md := md.drew
            generalize (W.setCell ⟨w.heap.size + 4, 0, none⟩ (.int .i64 ((pre.length : Int) + 1))).drew = U0 at *
            refine' wpAnyH_take (i := 0) (oi := _) (v := _) ?_ (by kernel_rfl) (by kernel_rfl) (by kernel_rfl) ?_ (Or.inl ⟨?_, ?_⟩) (by assumption) ?_
            rotate_left 2
            · (simp only [List.getElem?_toArray, List.getElem?_cons_succ, List.getElem?_cons_zero]; rfl)
            · first | exact fun _ _ _ h => h | exact fun _ _ _ h => nomatch h.1
            · rfl
            · (intro W hSW; (try dsimp only at hSW); go_split_ands; first | (go_simp; done) | (go_simp; with_reducible rfl))
            try simp only [Act.put, List.setIfInBounds_toArray, List.set_cons_zero, List.set_cons_succ]
            clear hHeld
            have yt2 := t2.cell
            have ut2 := t2.free
            have zt2 := t2.lt
            refine wpAnyH_ready (rs := [1]) (by kernel_rfl) (by simp) ?_
            refine' AllReadyH.cons (o := _) ?_ (fun K hK => ?_) AllReadyH.nil
            rotate_left 1
            · (simp only [List.getElem?_toArray, List.getElem?_cons_succ, List.getElem?_cons_zero]; rfl)
            go_simp
            clear yt2 ut2 zt2
            replace t3 := t3.other (y := w.heap.size) (by omega) 0 (.slice none 0 0)
            replace t4 := t4.other (y := w.heap.size) (by omega) 0 (.slice none 0 0)
            replace t5 := t5.other (y := w.heap.size) (by omega) 0 (.slice none 0 0)
            replace t6 := t6.other (y := w.heap.size) (by omega) 0 (.slice none 0 0)
            replace t2 := t2.set 0 (.slice none 0 0)
            simp only [List.setIfInBounds_toArray, List.set_cons_zero] at t2
            replace tB := tB.setCell (p := ⟨w.heap.size, 0, none⟩) (by simp) (.slice none 0 0)
            replace md := md.set (y := w.heap.size) (by omega) (by omega) (by omega) (by omega) 0 (.slice none 0 0)
            generalize hU : World.setCell _ _ _ = U1 at *
            clear hU
            refine hK.out _ _ t6.cell (fun _ => ?_)
            clear hK K
            have yt3 := t3.cell
            have ut3 := t3.free
            have zt3 := t3.lt
            refine wpAnyH_ready (rs := [2]) (by kernel_rfl) (by simp) ?_
            refine' AllReadyH.cons (o := _) ?_ (fun K hK => ?_) AllReadyH.nil
            rotate_left 1
            · (simp only [List.getElem?_toArray, List.getElem?_cons_succ, List.getElem?_cons_zero]; rfl)
            go_simp
            clear yt3 ut3 zt3
            replace t2 := t2.other (y := w.heap.size + 1) (by omega) 0 (.int .i64 ((pre.length : Int) + 1))
            replace t4 := t4.other (y := w.heap.size + 1) (by omega) 0 (.int .i64 ((pre.length : Int) + 1))
            replace t5 := t5.other (y := w.heap.size + 1) (by omega) 0 (.int .i64 ((pre.length : Int) + 1))
            replace t6 := t6.other (y := w.heap.size + 1) (by omega) 0 (.int .i64 ((pre.length : Int) + 1))
            replace t3 := t3.set 0 (.int .i64 ((pre.length : Int) + 1))
            simp only [List.setIfInBounds_toArray, List.set_cons_zero] at t3
            replace tB := tB.setCell (p := ⟨w.heap.size + 1, 0, none⟩) (by simp) (.int .i64 ((pre.length : Int) + 1))
            replace md := md.set (y := w.heap.size + 1) (by omega) (by omega) (by omega) (by omega) 0 (.int .i64 ((pre.length : Int) + 1))
            generalize hU : World.setCell _ _ _ = U2 at *
            clear hU
            refine hK.out _ _ t6.cell (fun _ => ?_)
            clear hK K
            have yt4 := t4.cell
            have ut4 := t4.free
            have zt4 := t4.lt
            refine wpAnyH_ready (rs := [3]) (by kernel_rfl) (by simp) ?_
            refine' AllReadyH.cons (o := _) ?_ (fun K hK => ?_) AllReadyH.nil
            rotate_left 1
            · (simp only [List.getElem?_toArray, List.getElem?_cons_succ, List.getElem?_cons_zero]; rfl)
            go_simp
            clear yt4 ut4 zt4
            replace t2 := t2.other (y := w.heap.size + 2) (by omega) 0 (.int .i64 11)
            replace t3 := t3.other (y := w.heap.size + 2) (by omega) 0 (.int .i64 11)
            replace t5 := t5.other (y := w.heap.size + 2) (by omega) 0 (.int .i64 11)
            replace t6 := t6.other (y := w.heap.size + 2) (by omega) 0 (.int .i64 11)
            replace t4 := t4.set 0 (.int .i64 11)
            simp only [List.setIfInBounds_toArray, List.set_cons_zero] at t4
            replace tB := tB.setCell (p := ⟨w.heap.size + 2, 0, none⟩) (by simp) (.int .i64 11)
            replace md := md.set (y := w.heap.size + 2) (by omega) (by omega) (by omega) (by omega) 0 (.int .i64 11)
            generalize hU : World.setCell _ _ _ = U3 at *
            clear hU
            refine hK.out _ _ t6.cell (fun _ => ?_)
            clear hK K
            refine wpAnyH_done (by kernel_rfl) ?_ _
            refine ⟨(by intro h; cases h), ?_⟩
            gi_wp2_with fail
            exact ⟨md.keeps, rfl, _, _, t2, t3, t4, HST, tB⟩
          · have h20 : ((acc.length : Int) == 2000) = false := by rw [beq_eq_false_iff_ne]; omega
            have hE6 := HE.out.on tB
            have H20 := Lib.hid h2000
            clear h2000
            gi_wp2_with fail
            refine ⟨trivial, ?_⟩
            refine (CallsIn.inRound l (callsIn_wide.2 (parse_c x.1 _ hE6 hx))).mono ?_
            rintro e V1 ⟨hP | hP, hn⟩
            · obtain ⟨kd, f, hok, htx, rfl⟩ := hP
              replace t2 := t2.on hn
              replace t3 := t3.on hn
              replace t4 := t4.on hn
              replace t5 := t5.on hn
              replace t6 := t6.on hn
              replace tw := tw.on hn
              replace tB := chain tB hn
              replace md := md.on hnW hn
              clear hn y5 y6 u6 z6 hE6
              clear h35 hp0 hq
              gi_upto_region 12 with fail
              have hn := below_alloc V1 (.cells #[.int .i64 kd, .int .i64 f.m, .int .i64 f.a, .int .i64 f.b, .int .i64 f.c, .string f.tag] 23)
              have t8 := Row.new (W := V1) (cs := #[.int .i64 kd, .int .i64 f.m, .int .i64 f.a, .int .i64 f.b, .int .i64 f.c, .string f.tag]) (t := 23)
              replace t2 := t2.on hn
              replace t3 := t3.on hn
              replace t4 := t4.on hn
              replace t5 := t5.on hn
              replace t6 := t6.on hn
              replace tw := tw.on hn
              replace tB := chain tB hn
              replace md := md.on hnW hn
              clear hn
              generalize V1.alloc (.cells #[.int .i64 kd, .int .i64 f.m, .int .i64 f.a, .int .i64 f.b, .int .i64 f.c, .string f.tag] 23) = V2 at *
              generalize V1.heap.size = b8 at *
              have y5 := t5.cell
              have y8 := t8.cell
              have z8 := t8.lt
              have Q2 := Lib.hid (tw.on (below_alloc V2 (.cells #[.int .i64 kd, .int .i64 f.m, .int .i64 f.a, .int .i64 f.b, .int .i64 f.c, .string f.tag] 23)))
              have HSRC := Lib.hid (op_src V2 kd f)
              have h2k : acc.length < 2000 := by have := H20.out; omega
              have hbb : b0 + 3 ≤ V2.heap.size := by have := md.keeps.size; omega
              gi_wp2_with (gi_at_builtin; refine wpListIn_append_own _ rfl _ _ 34 rfl (b0 + 3) 23 i0 (.agg #[.int .i64 0, .int .i64 0, .int .i64 0, .int .i64 0, .int .i64 0, .string ⟨#[]⟩]) 6 56 Tryz.underlying34 HI0.out HZ0.out HZ1.out HZ2.out rfl (by decide) _ _ _ rfl Q2.out ⟨V2.heap.size, 0, none⟩ 1 1 [.int .i64 kd, .int .i64 f.m, .int .i64 f.a, .int .i64 f.b, .int .i64 f.c, .string f.tag] rfl rfl HSRC.out (by intro u hu; simp at hu; rcases hu with rfl | rfl | rfl | rfl | rfl | rfl <;> rfl) (by unfold maxLen; omega) (by omega) (by have := tB.size; first | omega | (simp; omega)) ?_)
              intro v2 w1 hown hgrow hnil
              clear y5 y8 z8 hnil
              obtain ⟨g2, c2, rfl⟩ := ownsRow_succ hown
              replace t2 := row_app tw hgrow t2 (by decide)
              replace t3 := row_app tw hgrow t3 (by decide)
              replace t4 := row_app tw hgrow t4 (by decide)
              replace t5 := row_app tw hgrow t5 (by decide)
              replace t6 := row_app tw hgrow t6 (by decide)
              replace md := md.app hnW (by omega) tw hgrow
              replace tB := hB.trans md.below
              have tw2 : OwnsO (b0 + 3) w1 (.slice (some ⟨g2, 0, none⟩) (acc.length + 1) c2) (acc ++ [(kd, f)]) := by
                unfold OwnsO
                rw [cellsO_snoc]
                simpa using hown
              have HTW := Lib.hid tw2
              clear hown hgrow tw Q2 HSRC tw2
              have y5 := t5.cell
              have u5 := t5.free
              have z5 := t5.lt
              gi_wp2_with fail
              clear y5 u5 z5
              have tw3 := HTW.out.set t5 (by decide) 0 (.slice (some ⟨g2, 0, none⟩) (acc.length + 1) c2)
              replace t2 := t2.other (y := w.heap.size + 3) (by omega) 0 (.slice (some ⟨g2, 0, none⟩) (acc.length + 1) c2)
              replace t3 := t3.other (y := w.heap.size + 3) (by omega) 0 (.slice (some ⟨g2, 0, none⟩) (acc.length + 1) c2)
              replace t4 := t4.other (y := w.heap.size + 3) (by omega) 0 (.slice (some ⟨g2, 0, none⟩) (acc.length + 1) c2)
              replace t6 := t6.other (y := w.heap.size + 3) (by omega) 0 (.slice (some ⟨g2, 0, none⟩) (acc.length + 1) c2)
              replace t5 := t5.set 0 (.slice (some ⟨g2, 0, none⟩) (acc.length + 1) c2)
              simp only [List.setIfInBounds_toArray, List.set_cons_zero] at t5
              replace tB := tB.setCell (p := ⟨w.heap.size + 3, 0, none⟩) (by simp) (.slice (some ⟨g2, 0, none⟩) (acc.length + 1) c2)
              replace md := md.set (y := w.heap.size + 3) (by omega) (by omega) (by omega) (by omega) 0 (.slice (some ⟨g2, 0, none⟩) (acc.length + 1) c2)
              have hso2 := soFar_op HSO.out HK.out H20.out (p := (kd, f)) ⟨hok, htx⟩
              rw [← pcsL_snoc] at hso2
              exact ⟨md.keeps, ⟨md.below, md.boxes⟩, ⟨t2, t3, t4, ⟨_, acc ++ [(kd, f)], t5, tw3, by simp; omega, hso2⟩, by rw [hpl]; exact t6, tB, Nat.le_trans hbig md.keeps.size⟩⟩
            · obtain ⟨hno, rfl⟩ := hP
              replace t2 := t2.on hn
              replace t3 := t3.on hn
              replace t4 := t4.on hn
              replace t5 := t5.on hn
              replace t6 := t6.on hn
              replace tw := tw.on hn
              replace tB := chain tB hn
              replace md := md.on hnW hn
              clear hn y5 y6 u6 z6 hE6
              clear h35 hp0 hq
              gi_upto_region 12 with fail
              have hn := below_alloc V1 (.cells #[.int .i64 0, .int .i64 0, .int .i64 0, .int .i64 0, .int .i64 0, .string ⟨#[]⟩] 23)
              have t8 := Row.new (W := V1) (cs := #[.int .i64 0, .int .i64 0, .int .i64 0, .int .i64 0, .int .i64 0, .string ⟨#[]⟩]) (t := 23)
              replace t2 := t2.on hn
              replace t3 := t3.on hn
              replace t4 := t4.on hn
              replace t5 := t5.on hn
              replace t6 := t6.on hn
              replace tw := tw.on hn
              replace tB := chain tB hn
              replace md := md.on hnW hn
              clear hn
              generalize V1.alloc (.cells #[.int .i64 0, .int .i64 0, .int .i64 0, .int .i64 0, .int .i64 0, .string ⟨#[]⟩] 23) = V2 at *
              generalize V1.heap.size = b8 at *
              have HST := stops_form HSO.out HK.out H20.out (fun p hp => hno p.1 p.2 hp.1 hp.2)
              rw [← pcsL_snoc, pcsL_len] at HST
              clear hno
              gi_upto_region 13 with fail
              refine wpIn_region_round (S := (fun W' => ∀ j, W'.cell? ⟨w.heap.size + 4, j, none⟩ = (#[.int .i64 ((pre.length : Int) + 1)] : Array Value)[j]?)) (by kernel_rfl) (by kernel_rfl) t6.cell (fun hHeld => ?_)
              replace t2 := t2.drew
              replace t3 := t3.drew
              replace t4 := t4.drew
              replace t5 := t5.drew
              replace t6 := t6.drew
              replace tB := tB.drew
              replace md := md.drew
              generalize V2.drew = U0 at *
              refine' wpAnyH_take (i := 0) (oi := _) (v := _) ?_ (by kernel_rfl) (by kernel_rfl) (by kernel_rfl) ?_ (Or.inl ⟨?_, ?_⟩) (by assumption) ?_
              rotate_left 2
              · (simp only [List.getElem?_toArray, List.getElem?_cons_succ, List.getElem?_cons_zero]; rfl)
              · first | exact fun _ _ _ h => h | exact fun _ _ _ h => nomatch h.1
              · rfl
              · (intro W hSW; (try dsimp only at hSW); go_split_ands; first | (go_simp; done) | (go_simp; with_reducible rfl))
              try simp only [Act.put, List.setIfInBounds_toArray, List.set_cons_zero, List.set_cons_succ]
              refine' wpAnyH_take (i := 1) (oi := _) (v := _) ?_ (by kernel_rfl) (by kernel_rfl) (by kernel_rfl) ?_ (Or.inl ⟨?_, ?_⟩) (by assumption) ?_
              rotate_left 2
              · (simp only [List.getElem?_toArray, List.getElem?_cons_succ, List.getElem?_cons_zero]; rfl)
              · first | exact fun _ _ _ h => h | exact fun _ _ _ h => nomatch h.1
              · rfl
              · (intro W hSW; (try dsimp only at hSW); go_split_ands; first | (go_simp; done) | (go_simp; with_reducible rfl))
              try simp only [Act.put, List.setIfInBounds_toArray, List.set_cons_zero, List.set_cons_succ]
              clear hHeld
              have yt2 := t2.cell
              have ut2 := t2.free
              have zt2 := t2.lt
              refine wpAnyH_ready (rs := [2]) (by kernel_rfl) (by simp) ?_
              refine' AllReadyH.cons (o := _) ?_ (fun K hK => ?_) AllReadyH.nil
              rotate_left 1
              · (simp only [List.getElem?_toArray, List.getElem?_cons_succ, List.getElem?_cons_zero]; rfl)
              go_simp
              clear yt2 ut2 zt2
              replace t3 := t3.other (y := w.heap.size) (by omega) 0 (.slice none 0 0)
              replace t4 := t4.other (y := w.heap.size) (by omega) 0 (.slice none 0 0)
              replace t5 := t5.other (y := w.heap.size) (by omega) 0 (.slice none 0 0)
              replace t6 := t6.other (y := w.heap.size) (by omega) 0 (.slice none 0 0)
              replace t2 := t2.set 0 (.slice none 0 0)
              simp only [List.setIfInBounds_toArray, List.set_cons_zero] at t2
              replace tB := tB.setCell (p := ⟨w.heap.size, 0, none⟩) (by simp) (.slice none 0 0)
              replace md := md.set (y := w.heap.size) (by omega) (by omega) (by omega) (by omega) 0 (.slice none 0 0)
              generalize hU : World.setCell _ _ _ = U1 at *
              clear hU
              refine hK.out _ _ t6.cell (fun _ => ?_)
              clear hK K
              have yt3 := t3.cell
              have ut3 := t3.free
              have zt3 := t3.lt
              refine wpAnyH_ready (rs := [3]) (by kernel_rfl) (by simp) ?_
              refine' AllReadyH.cons (o := _) ?_ (fun K hK => ?_) AllReadyH.nil
              rotate_left 1
              · (simp only [List.getElem?_toArray, List.getElem?_cons_succ, List.getElem?_cons_zero]; rfl)
              go_simp
              clear yt3 ut3 zt3
              replace t2 := t2.other (y := w.heap.size + 1) (by omega) 0 (.int .i64 ((pre.length : Int) + 1))
              replace t4 := t4.other (y := w.heap.size + 1) (by omega) 0 (.int .i64 ((pre.length : Int) + 1))
              replace t5 := t5.other (y := w.heap.size + 1) (by omega) 0 (.int .i64 ((pre.length : Int) + 1))
              replace t6 := t6.other (y := w.heap.size + 1) (by omega) 0 (.int .i64 ((pre.length : Int) + 1))
              replace t3 := t3.set 0 (.int .i64 ((pre.length : Int) + 1))
              simp only [List.setIfInBounds_toArray, List.set_cons_zero] at t3
              replace tB := tB.setCell (p := ⟨w.heap.size + 1, 0, none⟩) (by simp) (.int .i64 ((pre.length : Int) + 1))
              replace md := md.set (y := w.heap.size + 1) (by omega) (by omega) (by omega) (by omega) 0 (.int .i64 ((pre.length : Int) + 1))
              generalize hU : World.setCell _ _ _ = U2 at *
              clear hU
              refine hK.out _ _ t6.cell (fun _ => ?_)
              clear hK K
              have yt4 := t4.cell
              have ut4 := t4.free
              have zt4 := t4.lt
              refine wpAnyH_ready (rs := [4]) (by kernel_rfl) (by simp) ?_
              refine' AllReadyH.cons (o := _) ?_ (fun K hK => ?_) AllReadyH.nil
              rotate_left 1
              · (simp only [List.getElem?_toArray, List.getElem?_cons_succ, List.getElem?_cons_zero]; rfl)
              go_simp
              clear yt4 ut4 zt4
              replace t2 := t2.other (y := w.heap.size + 2) (by omega) 0 (.int .i64 9)
              replace t3 := t3.other (y := w.heap.size + 2) (by omega) 0 (.int .i64 9)
              replace t5 := t5.other (y := w.heap.size + 2) (by omega) 0 (.int .i64 9)
              replace t6 := t6.other (y := w.heap.size + 2) (by omega) 0 (.int .i64 9)
              replace t4 := t4.set 0 (.int .i64 9)
              simp only [List.setIfInBounds_toArray, List.set_cons_zero] at t4
              replace tB := tB.setCell (p := ⟨w.heap.size + 2, 0, none⟩) (by simp) (.int .i64 9)
              replace md := md.set (y := w.heap.size + 2) (by omega) (by omega) (by omega) (by omega) 0 (.int .i64 9)
              generalize hU : World.setCell _ _ _ = U3 at *
              clear hU
              refine hK.out _ _ t6.cell (fun _ => ?_)
              clear hK K
              refine wpAnyH_done (by kernel_rfl) ?_ _
              refine ⟨(by intro h; cases h), ?_⟩
              gi_wp2_with fail
              exact ⟨md.keeps, rfl, _, _, t2, t3, t4, HST, tB⟩
        · rw [hd] at hk h35
          have hso2 := soFar_skip hso hk
          rw [← pcsL_snoc] at hso2
          have HSO := Lib.hid hso2
          have HPL := Lib.hid hpl
          clear hso hso2 hpl hk hd
          gi_wp2_with fail
          exact ⟨md.keeps, ⟨md.below, md.boxes⟩, ⟨t2, t3, t4, ⟨v, acc, t5, tw, hal, HSO.out⟩, by rw [HPL.out]; exact t6, tB, Nat.le_trans hbig md.keeps.size⟩⟩
    case done =>
      rintro D ys W hD hS ⟨r2, r3, r4, ⟨v, acc, r5, ho, hal, hso⟩, r6, hB, hbig⟩ hK
      have hres : allR (cutAll 10 s.data.toList) 0 [] = (acc, 0, 0) := by rw [← hS]; exact soFar_len hso
      have HRES := Lib.hid hres
      have y5 := r5.cell
      have y2 := r2.cell
      have u2 := r2.free
      have z2 := r2.lt
      have y3 := r3.cell
      have u3 := r3.free
      have z3 := r3.lt
      have y4 := r4.cell
      have u4 := r4.free
      have z4 := r4.lt
      obtain ⟨a0, c0, rfl⟩ := ownsRow_len ho
      clear hres hso hS
      gi_wp2
      go_wp2_with fail
      clear y2 u2 z2 y3 u3 z3 y4 u4 z4 y5
      have k2 := ((r2.set 0 (.slice a0 acc.length c0)).other (y := w.heap.size + 1) (by omega) 0 (.int .i64 0)).other (y := w.heap.size + 2) (by omega) 0 (.int .i64 0)
      have k3 := ((r3.other (y := w.heap.size) (by omega) 0 (.slice a0 acc.length c0)).set 0 (.int .i64 0)).other (y := w.heap.size + 2) (by omega) 0 (.int .i64 0)
      have k4 := ((r4.other (y := w.heap.size) (by omega) 0 (.slice a0 acc.length c0)).other (y := w.heap.size + 1) (by omega) 0 (.int .i64 0)).set 0 (.int .i64 0)
      have ko := ((ho.far (y := w.heap.size) (by omega) 0 (.slice a0 acc.length c0)).far (y := w.heap.size + 1) (by omega) 0 (.int .i64 0)).far (y := w.heap.size + 2) (by omega) 0 (.int .i64 0)
      have kB := ((hB.setCell (p := ⟨w.heap.size, 0, none⟩) (by simp) (.slice a0 acc.length c0)).setCell (p := ⟨w.heap.size + 1, 0, none⟩) (by simp) (.int .i64 0)).setCell (p := ⟨w.heap.size + 2, 0, none⟩) (by simp) (.int .i64 0)
      have kK := (((KeepsOthers.setCell W ⟨w.heap.size, 0, none⟩ (.slice a0 acc.length c0)).trans (KeepsOthers.setCell _ ⟨w.heap.size + 1, 0, none⟩ (.int .i64 0))).trans (KeepsOthers.setCell _ ⟨w.heap.size + 2, 0, none⟩ (.int .i64 0))).same D _ hK rfl
      simp only [List.setIfInBounds_toArray, List.set_cons_zero] at k2 k3 k4
      generalize ((W.setCell ⟨w.heap.size, 0, none⟩ (.slice a0 acc.length c0)).setCell ⟨w.heap.size + 1, 0, none⟩ (.int .i64 0)).setCell ⟨w.heap.size + 2, 0, none⟩ (.int .i64 0) = Z at *
      have HB2 := kB.trans (belowK_b (w := w) (Nat.le_refl _) Z D _ (.deferred none) (by omega) kK rfl rfl)
      have j2 := Row.cell (W := Z.putObj D (.deferred none)) ⟨(World.putObj_heap_other (by omega)).trans k2.eq⟩ 0
      have j3 := Row.cell (W := Z.putObj D (.deferred none)) ⟨(World.putObj_heap_other (by omega)).trans k3.eq⟩ 0
      have j4 := Row.cell (W := Z.putObj D (.deferred none)) ⟨(World.putObj_heap_other (by omega)).trans k4.eq⟩ 0
      refine ⟨by simp, .inl ⟨_, _, rfl, run_takeDeferred kK, ?_⟩⟩
      refine ⟨.tuple #[.slice a0 acc.length c0, .int .i64 0, .int .i64 0], ?_, ⟨_, by rw [HRES.out]; rfl, by rw [HRES.out]; exact (ko.kept (grownBy_putObj' Z D _) (fun r e => by cases e; exact ⟨_, kK, rfl⟩)).base (by omega)⟩, HB2⟩
      simp [results, Tryz.f17, Tryz.results17, go_sem, j2, j3, j4]
    case stop =>
      rintro D c pre W hD hSp ⟨rfl, n, e, k2, k3, k4, hst, kB⟩ kK
      have hres : allR (cutAll 10 s.data.toList) 0 [] = ([], n, e) := by
        obtain ⟨rest, hr⟩ := hSp
        rw [← hr]
        exact hst rest
      have HRES := Lib.hid hres
      clear hres hst hSp
      obtain ⟨Z, rfl⟩ : ∃ Z, Z = W := ⟨_, rfl⟩
      gi_wp2
      have HB2 := kB.trans (belowK_b (w := w) (Nat.le_refl _) Z D _ (.deferred none) (by omega) kK rfl rfl)
      have j2 := Row.cell (W := Z.putObj D (.deferred none)) ⟨(World.putObj_heap_other (by omega)).trans k2.eq⟩ 0
      have j3 := Row.cell (W := Z.putObj D (.deferred none)) ⟨(World.putObj_heap_other (by omega)).trans k3.eq⟩ 0
      have j4 := Row.cell (W := Z.putObj D (.deferred none)) ⟨(World.putObj_heap_other (by omega)).trans k4.eq⟩ 0
      refine ⟨by simp, .inl ⟨_, _, rfl, run_takeDeferred kK, ?_⟩⟩
      refine ⟨.tuple #[.slice none 0 0, .int .i64 n, .int .i64 e], ?_, ⟨_, by rw [HRES.out], by rw [HRES.out]; exact owns_nil _ _⟩, HB2⟩
      simp [results, Tryz.f17, Tryz.results17, go_sem, j2, j3, j4]
end Go.Proofs.YthkngleegefgbaaGreatDoor
