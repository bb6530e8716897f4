/- fields.Refs and the reference's; slices.Equal of references. -/
import Derived.Test.YtpegkcmomkdoeaaDoorFieldTxt
import Derived.RangeFuncBox
namespace Go.Proofs.YtpegkcmomkdoeaaDoor
open Go.RowKit Go.Shelf
set_option linter.unusedVariables false
set_option linter.unusedSimpArgs false
attribute [local go_sem] Oper.semAt_some

theorem ref_info : (Tryd.prog.info? 24).map (fun i => (i.zero, i.size, i.bytes)) = some (some (.agg #[.int .i64 0, .int .u32 0]), 2, 16) := by kernel_rfl
theorem row_srcR {W : World} {x : Nat} {xs : List Value} {t : TypeId} (h : Row W x xs.toArray t) : ∀ (j : Nat) (v : Value), xs[j]? = some v → W.cell? ((⟨x, 0, none⟩ : Addr).add j) = some v := by
  intro j v hv
  rw [show (⟨x, 0, none⟩ : Addr).add j = ⟨x, j, none⟩ by simp [Addr.add]; omega, h.cell j]
  simpa using hv
/-- The cells of references, one behind the other. -/
def cellsR (l : List Rf) : List Value := l.flatMap fun r => [.int .i64 r.1, .int .u32 r.2]
theorem cellsR_snoc (l : List Rf) (r : Rf) : cellsR (l ++ [r]) = cellsR l ++ [.int .i64 r.1, .int .u32 r.2] := by simp [cellsR]
/-- The slice v holds these references, in memory of the call's own. -/
def OwnsR (base : Nat) (W : World) (v : Value) (l : List Rf) : Prop := W.ownsRow base 24 2 v l.length (cellsR l)
theorem OwnsR.base {b b' : Nat} {W : World} {v : Value} {l : List Rf} (h : OwnsR b W v l) (hb : b' ≤ b) : OwnsR b' W v l := by
  refine ⟨h.1, ?_⟩
  rcases h.2 with h0 | ⟨g, cap, cur, h1, h2, h3⟩
  · exact .inl h0
  · exact .inr ⟨g, cap, cur, h1, Nat.le_trans hb h2, h3⟩
theorem OwnsR.on {b : Nat} {W W' : World} {v : Value} {l : List Rf} (h : OwnsR b W v l) (hb : Below W.heap.size W W') : OwnsR b W' v l := by
  refine ⟨h.1, ?_⟩
  rcases h.2 with h0 | ⟨g, cap, cur, h1, h2, h3, h4⟩
  · exact .inl h0
  · exact .inr ⟨g, cap, cur, h1, h2, (hb.block g (Array.getElem?_eq_some_iff.1 h3).1).trans h3, h4⟩
theorem OwnsR.set {b : Nat} {W : World} {v : Value} {l : List Rf} (h : OwnsR b W v l) {y : Nat} (hy : y < b) (j : Nat) (u : Value) : OwnsR b (W.setCell ⟨y, j, none⟩ u) v l := by
  refine ⟨h.1, ?_⟩
  rcases h.2 with h0 | ⟨g, cap, cur, h1, h2, h3, h4⟩
  · exact .inl h0
  · exact .inr ⟨g, cap, cur, h1, h2, (Row.other (⟨h3⟩ : Row W g cur _) (by omega) j u).eq, h4⟩
theorem own_cells {b : Nat} {W : World} {e : TypeId} {n k : Nat} {v : Value} {xs : List Value} (h : W.ownsRow b e n v k xs) : ∀ (j : Nat) (o : Obj), v.ownBlock = some j → W.heap[j]? = some o → o.isCells = true := by
  intro j o hj ho
  rcases h.2 with ⟨rfl, _⟩ | ⟨g, cap, cur, rfl, _, h3, _⟩
  · cases hj
  · obtain rfl : g = j := by simpa [Value.ownBlock] using hj
    rw [h3] at ho
    injection ho with ho
    rw [← ho]
    rfl
theorem keep2 {b y : Nat} {W w1 : World} {v u : Value} {l : List Rf} {t : TypeId} (h : OwnsR b W v l) (q : Row W y #[u] t) (hg : W.grownBy w1 v.ownBlock) (hy : y < b) : w1.cell? ⟨y, 0, none⟩ = some u ∧ w1.frozen? ⟨y, 0, none⟩ = false := by
  have f1 : Row w1 y #[u] t := ⟨(hg.block _ q.lt (fun e => by have := (World.ownsRow.lt h _ e.symm).1; omega)).trans q.eq⟩
  exact ⟨f1.cell 0, f1.free 0⟩
def refsOf (a b c d : Rf) : List Rf := (full a b c d).map (·.2)
set_option maxHeartbeats 16000000 in
set_option maxRecDepth 20000 in
theorem frefs_c (n s0 g0 s1 g1 s2 g2 s3 g3 : Int) (h : Bool) (w : World) :
    Calls Tryd.prog 16 #[obV n s0 g0 s1 g1 s2 g2 s3 g3 h] w fun e w' => ∃ v, e = .returned v ∧ OwnsR w.heap.size w' v (refsOf (s0, g0) (s1, g1) (s2, g2) (s3, g3)) ∧ Below w.heap.size w w' := by
  obtain ⟨i0, hi, hz0, hz1, hz2⟩ := info_parts ref_info
  have HI := Lib.hid (And.intro hi (And.intro hz0 (And.intro hz1 hz2)))
  clear hi hz0 hz1 hz2
  refine (callsIn_wide (n := 3)).1 ?_
  refine callsIn_of_wp_marks Tryd.func16 rfl trivial ?_ rfl
  simp only [Tryd.ntmps16, List.size_toArray, List.length_cons, List.length_nil, Nat.reduceAdd, Nat.reduceSub, Array.replicate_succ, Array.replicate_zero, List.push_toArray, List.append_toArray, List.nil_append, List.cons_append]
  refine wpIn_wide.2 ?_
  go_wp2_with (go_at_call 30; refine (callsIn_wide.1 (full_in 3 _ _ _ _ _ _ _ _ _ _ _)).mono ?_; rintro e w' ⟨rfl, rfl⟩)
  have r1 : Row (((w.alloc (.cells (obC n s0 g0 s1 g1 s2 g2 s3 g3 h) 27)).alloc (.cells #[.slice none 0 0] 37)).alloc (.cells (obC n s0 g0 s1 g1 s2 g2 s3 g3 h) 27)) (w.heap.size + 1) #[.slice none 0 0] 37 := by
    have := (Row.new (W := w.alloc (.cells (obC n s0 g0 s1 g1 s2 g2 s3 g3 h) 27)) (cs := #[.slice none 0 0]) (t := 37)).on (below_alloc _ (.cells (obC n s0 g0 s1 g1 s2 g2 s3 g3 h) 27))
    simpa using this
  have r2 : Row (((w.alloc (.cells (obC n s0 g0 s1 g1 s2 g2 s3 g3 h) 27)).alloc (.cells #[.slice none 0 0] 37)).alloc (.cells (obC n s0 g0 s1 g1 s2 g2 s3 g3 h) 27)) (w.heap.size + 1 + 1) (obC n s0 g0 s1 g1 s2 g2 s3 g3 h) 27 := by
    have := (Row.new (W := (w.alloc (.cells (obC n s0 g0 s1 g1 s2 g2 s3 g3 h) 27)).alloc (.cells #[.slice none 0 0] 37)) (cs := obC n s0 g0 s1 g1 s2 g2 s3 g3 h) (t := 27))
    simpa using this
  have hB0 : Below w.heap.size w (((w.alloc (.cells (obC n s0 g0 s1 g1 s2 g2 s3 g3 h) 27)).alloc (.cells #[.slice none 0 0] 37)).alloc (.cells (obC n s0 g0 s1 g1 s2 g2 s3 g3 h) 27)) := by go_grown
  obtain ⟨W0, hW0⟩ : ∃ W0, (((w.alloc (.cells (obC n s0 g0 s1 g1 s2 g2 s3 g3 h) 27)).alloc (.cells #[.slice none 0 0] 37)).alloc (.cells (obC n s0 g0 s1 g1 s2 g2 s3 g3 h) 27)) = W0 := ⟨_, rfl⟩
  rw [hW0] at r1 r2 hB0
  simp only [obC] at hW0
  rw [hW0]
  clear hW0
  have hsz := r2.lt
  have hro : Fence.wide.round = none := rfl
  refine wpIn_wide.1 (?_ : Code.wpIn Fence.wide 3 _ _ _ _ _)
  refine wpIn_rangeFunc_ownH hro (by omega) (gf := 42) (lb := #[.pointer (some ⟨w.heap.size + 1 + 1, 0, none⟩)]) rfl trivial (enters_of Tryd.func42 (by kernel_rfl) rfl)
    (full_stops 2 (w.heap.size + 1 + 1) (by omega) n s0 g0 s1 g1 s2 g2 s3 g3 h (Below w.heap.size) W0 hsz r2) belowK_t (belowK_b (by omega)) (Below.refl _ _) (fun _ => rfl)
    (fun pre W => (∃ v, Row W (w.heap.size + 1) #[v] 37 ∧ OwnsR (w.heap.size + 1 + 1) W v (pre.map (·.2))) ∧ Below w.heap.size w W)
    (fun _ _ _ => False)
    (OwnFrom.and (Own.from (fun s A B row hs hg hr => by
      obtain ⟨v, h1, h2⟩ := hs
      refine ⟨v, row_kept h1 hg hr, ?_⟩
      refine h2.kept hg ?_
      rcases h2.2 with ⟨rfl, _⟩ | ⟨g, cap, cur, rfl, _, hgb, _⟩
      · exact .inl rfl
      · refine .inr fun e' => ?_
        obtain ⟨o, ho, hc⟩ := hr g e'.symm
        rw [hgb] at ho
        injection ho with ho
        rw [← ho] at hc
        cases hc) _) (ownFrom_below (Nat.le_refl _) (by omega)))
    (fun _ _ _ _ _ hs _ _ => hs)
    ⟨⟨_, r1, World.ownsRow_nil _ _ _ _⟩, hB0⟩
    (fun x a' W => ∃ Bx, w.heap.size + 1 < Bx ∧ Row W Bx #[.int .i64 x.2.1, .int .u32 x.2.2] 24 ∧ a' = { tmps := #[obV n s0 g0 s1 g1 s2 g2 s3 g3 h, .pointer (some ⟨w.heap.size, 0, none⟩), .slice none 0 0, .pointer (some ⟨w.heap.size + 1, 0, none⟩), undef, .pointer (some ⟨Bx, 0, none⟩), .agg #[.int .i64 n, .int .i64 s0, .int .u32 g0, .int .i64 s1, .int .u32 g1, .int .i64 s2, .int .u32 g2, .int .i64 s3, .int .u32 g3, .bool h], .func (.func 42) #[] #[.pointer (some ⟨w.heap.size + 1 + 1, 0, none⟩)], .int .i64 x.1, .agg #[.int .i64 x.2.1, .int .u32 x.2.2], undef, undef, undef, undef, undef], defers := [] })
    (fun x a' _ X Y row hs hg hr => by obtain ⟨Bx, h1, h2, h3⟩ := hs; exact ⟨Bx, h1, row_kept h2 hg (fun r e => (hr r e).2), h3⟩)
    ?assign ?body ?done ?stop
  case assign =>
    rintro l pre x W K ⟨⟨v, q1, q2⟩, hB⟩ hK
    have z1 := q1.lt
    gi_wp2
    have kb := below_alloc W (.cells #[.int .i64 x.2.1, .int .u32 x.2.2] 24)
    exact hK _ _ ((KeepsOthers.alloc _ _).from _) ((Below.refl _ W).alloc hB.size _) ⟨⟨v, q1.on kb, q2.on kb⟩, hB.alloc hB.size _⟩ ⟨W.heap.size, z1, Row.new, rfl⟩
  case body =>
    rintro l pre x a' W hl ⟨r, hr⟩ ⟨⟨v, q1, q2⟩, hB⟩ ⟨Bx, hBx, qx, rfl⟩ hlt
    obtain ⟨hi, hz0, hz1, hz2⟩ := HI.out
    have HI0 := Lib.hid hi
    have HZ0 := Lib.hid hz0
    have HZ1 := Lib.hid hz1
    have HZ2 := Lib.hid hz2
    have z1 := q1.lt
    have zx := qx.lt
    have y1 := q1.cell 0
    have u1 := q1.free 0
    have yx := qx.cell
    have hwz := hB.size
    have hle : w.heap.size + 1 + 1 ≤ W.heap.size := by omega
    have hpl : (pre.map (·.2)).length = pre.length := by simp
    have hlt' : (pre.map (·.2)).length < 4 := by rw [hpl]; exact hlt
    have kb := below_alloc W (.cells #[.int .i64 x.2.1, .int .u32 x.2.2] 24)
    have q3 := q2.on kb
    have q4 := q1.on kb
    have hB5 : Below w.heap.size w (W.alloc (.cells #[.int .i64 x.2.1, .int .u32 x.2.2] 24)) := hB.alloc hB.size _
    have hsrc := row_srcR (xs := [.int .i64 x.2.1, .int .u32 x.2.2]) (Row.new (W := W) (cs := #[.int .i64 x.2.1, .int .u32 x.2.2]) (t := 24))
    have Q3 := Lib.hid q3
    have Q4 := Lib.hid q4
    have HSRC := Lib.hid hsrc
    have HPL := Lib.hid hpl
    clear hi hz0 hz1 hz2 q2 q3 q4 hsrc hpl q1
    gi_wp2_with (gi_at_builtin; refine wpListIn_append_own _ rfl _ _ 37 rfl (w.heap.size + 1 + 1) 24 i0 (.agg #[.int .i64 0, .int .u32 0]) 2 16 Tryd.underlying37 HI0.out HZ0.out HZ1.out HZ2.out rfl (by decide) _ _ _ rfl Q3.out ⟨W.heap.size, 0, none⟩ 1 1 [.int .i64 x.2.1, .int .u32 x.2.2] rfl rfl HSRC.out (by intro u hu; simp at hu; rcases hu with rfl | rfl <;> rfl) (by unfold maxLen; omega) (by omega) (by first | (simp; done) | (simp; omega)) ?_; intro v' w1 hown' hgrow hnil; obtain ⟨g', cap', rfl⟩ := ownsRow_succ hown'; obtain ⟨y5, u5⟩ := keep2 Q3.out Q4.out hgrow (by omega); have HOWN := Lib.hid hown'; have HGR := Lib.hid hgrow; clear hown' hgrow hnil)
    have hlo : ∀ k, v.ownBlock = some k → w.heap.size + 1 + 1 ≤ k := fun k hk => (World.ownsRow.lt Q3.out _ hk).1
    have f1 : Row _ (w.heap.size + 1) #[v] 37 := ⟨(HGR.out.block _ (by first | (simp; done) | (simp; omega)) (fun e => by have := hlo _ e.symm; omega)).trans Q4.out.eq⟩
    have kk := (KeepsOthers.alloc W (.cells #[.int .i64 x.2.1, .int .u32 x.2.2] 24)).trans (KeepsOthers.of_grownBy HGR.out (own_cells Q3.out))
    have hB6 := ((Below.refl w.heap.size W).alloc hB.size (.cells #[.int .i64 x.2.1, .int .u32 x.2.2] 24)).grown HGR.out (by first | (simp; done) | (simp; omega)) (fun k hk => by have := hlo k hk; omega)
    have ho := HOWN.out
    rw [HPL.out] at ho
    have hBz := hB6.setCell (p := ⟨w.heap.size + 1, 0, none⟩) (by simp) (.slice (some ⟨g', 0, none⟩) (pre.length + 1) cap')
    refine ⟨(kk.trans (KeepsOthers.setCell _ _ _)).from _, hBz, ⟨_, f1.set 0 (.slice (some ⟨g', 0, none⟩) (pre.length + 1) cap'), OwnsR.set ?_ (by omega) _ _⟩, hB.trans hBz⟩
    rw [List.map_append]
    unfold OwnsR
    rw [List.map_cons, List.map_nil, cellsR_snoc, List.length_append, HPL.out]
    exact ho
  case done =>
    rintro D zs W hD rfl ⟨⟨v, q1, q2⟩, hB⟩ hK
    have y1 := q1.cell 0
    go_wp2_with fail
    refine ⟨by simp, .inl ⟨_, _, rfl, run_takeDeferred hK, ?_⟩⟩
    have q2' : OwnsR (w.heap.size + 1 + 1) (W.putObj D (.deferred none)) v (refsOf (s0, g0) (s1, g1) (s2, g2) (s3, g3)) := ownsRow_putObj q2 _ hK rfl
    refine ⟨v, ?_, ⟨v, rfl, q2'.base (by omega), hB.trans (belowK_b (w := w) (Nat.le_refl _) W D _ _ (by omega) hK rfl rfl)⟩⟩
    simp [results, Tryd.f16, Tryd.results16, go_sem]
  case stop =>
    rintro D c pre W _ _ h _
    exact h.elim
end Go.Proofs.YtpegkcmomkdoeaaDoor
