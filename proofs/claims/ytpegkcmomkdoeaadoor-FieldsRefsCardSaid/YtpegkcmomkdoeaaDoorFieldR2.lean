/- The reference's Refs; slices.Equal at references. -/
import Derived.Test.YtpegkcmomkdoeaaDoorFieldR
import Derived.Test.YtpegkcmomkdoeaaDoorFieldRef
namespace Go.Proofs.YtpegkcmomkdoeaaDoor
open Go.RowKit
set_option linter.unusedVariables false
set_option linter.unusedSimpArgs false
set_option maxHeartbeats 16000000 in
set_option maxRecDepth 20000 in
theorem rrefs_c (n s0 g0 s1 g1 s2 g2 s3 g3 : Int) (h : Bool) (w : World) :
    Calls Tryd.prog 17 #[obV n s0 g0 s1 g1 s2 g2 s3 g3 h] w fun e w' => ∃ v, e = .returned v ∧ OwnsR w.heap.size w' v (refsOf (s0, g0) (s1, g1) (s2, g2) (s3, g3)) ∧ Below w.heap.size w w' := by
  obtain ⟨i0, hi, hz0, hz1, hz2⟩ := info_parts ref_info
  have HI0 := Lib.hid hi
  have HZ0 := Lib.hid hz0
  have HZ1 := Lib.hid hz1
  have HZ2 := Lib.hid hz2
  clear hi hz0 hz1 hz2
  have r0 : Row (w.alloc (.cells (obC n s0 g0 s1 g1 s2 g2 s3 g3 h) 31)) w.heap.size (obC n s0 g0 s1 g1 s2 g2 s3 g3 h) 31 := Row.new
  have R0 := Lib.hid r0
  clear r0
  go_enter Tryd.func17, Tryd.ntmps17
  go_wp2_with fail
  go_loopw [3, 4] (fun v i wr => ∃ k : Nat, k ≤ 4 ∧ i = .int .i64 k ∧ Row wr w.heap.size (obC n s0 g0 s1 g1 s2 g2 s3 g3 h) 31 ∧ OwnsR (w.heap.size + 1) wr v ((fpre (s0, g0) (s1, g1) (s2, g2) (s3, g3) k).map (·.2)) ∧ Below w.heap.size w wr) (fun _ i _ => 4 - (intOf i).toNat)
  case atStart => exact ⟨0, by omega, rfl, R0.out, World.ownsRow_nil _ _ _ _, by go_grown⟩
  case round =>
    obtain ⟨k, hk, rfl, q0, q1, hB⟩ := hrel
    have z0 := q0.lt
    have hle : w.heap.size + 1 ≤ wr.heap.size := z0
    have hlen := fpre_len (s0, g0) (s1, g1) (s2, g2) (s3, g3) k
    rcases (by omega : k = 0 ∨ k = 1 ∨ k = 2 ∨ k = 3 ∨ k = 4) with rfl | rfl | rfl | rfl | rfl
    · have hlt := hlen (by omega)
      have hq := ref_neq0 s0 g0
      cases hnn : rNone (s0, g0) with
      | true =>
        rw [hnn] at hq
        have c0 : ∀ j, wr.cell? ⟨w.heap.size, j, none⟩ = (obC n s0 g0 s1 g1 s2 g2 s3 g3 h)[j]? := q0.cell
        rw [← fpre_none (s0, g0) (s1, g1) (s2, g2) (s3, g3) 0 (s0, g0) (.inl ⟨rfl, rfl⟩) hnn] at q1
        have Q1 := Lib.hid q1
        have Q0 := Lib.hid q0
        clear q1 q0 hlen hlt hnn R0
        go_wp2_with fail
        refine ⟨⟨0 + 1, by omega, by go_num, Q0.out, Q1.out, hB⟩, by simp [intOf]⟩
      | false =>
        rw [hnn] at hq
        have c0 : ∀ j, wr.cell? ⟨w.heap.size, j, none⟩ = (obC n s0 g0 s1 g1 s2 g2 s3 g3 h)[j]? := q0.cell
        have hfs := fpre_some (s0, g0) (s1, g1) (s2, g2) (s3, g3) 0 (s0, g0) (.inl ⟨rfl, rfl⟩) hnn
        obtain ⟨pre, hpre⟩ : ∃ pre, (fpre (s0, g0) (s1, g1) (s2, g2) (s3, g3) 0).map (·.2) = pre := ⟨_, rfl⟩
        have hpl : pre.length < 4 := by rw [← hpre, List.length_map]; exact hlt
        have hpn : (fpre (s0, g0) (s1, g1) (s2, g2) (s3, g3) (0 + 1)).map (·.2) = pre ++ [(s0, g0)] := by rw [← hfs, List.map_append, hpre]; rfl
        rw [hpre] at q1
        have kb := below_alloc wr (.cells #[.int .i64 s0, .int .u32 g0] 24)
        have Q3 := Lib.hid (q1.on kb)
        have Q4 := Lib.hid (q0.on kb)
        have HSRC := Lib.hid (row_srcR (xs := [.int .i64 s0, .int .u32 g0]) (Row.new (W := wr) (cs := #[.int .i64 s0, .int .u32 g0]) (t := 24)))
        have HPN := Lib.hid hpn
        clear q1 q0 hlen hlt hnn R0 hfs hpre hpn kb
        go_wp2_with (at_builtin; refine wpList_append_own _ rfl _ _ 37 rfl (w.heap.size + 1) 24 i0 (.agg #[.int .i64 0, .int .u32 0]) 2 16 Tryd.underlying37 HI0.out HZ0.out HZ1.out HZ2.out rfl (by decide) _ _ _ rfl Q3.out ⟨wr.heap.size, 0, none⟩ 1 1 [.int .i64 s0, .int .u32 g0] rfl rfl HSRC.out (by intro u hu; simp at hu; rcases hu with rfl | rfl <;> rfl) (by unfold maxLen; omega) (by omega) (by first | (simp; done) | (simp; omega)) ?_; intro v' w1 hown' hgrow hnil; have HOWN := Lib.hid hown'; have HGR := Lib.hid hgrow; clear hown' hgrow hnil)
        have hlo : ∀ k, _ = some k → w.heap.size + 1 ≤ k := fun k hk => (World.ownsRow.lt Q3.out k hk).1
        have f0 : Row w1 w.heap.size (obC n s0 g0 s1 g1 s2 g2 s3 g3 h) 31 := ⟨(HGR.out.block _ (by first | (simp; done) | (simp; omega)) (fun e => by have := hlo _ e.symm; omega)).trans Q4.out.eq⟩
        have hB6 : Below w.heap.size w w1 := (hB.alloc hB.size (.cells #[.int .i64 s0, .int .u32 g0] 24)).grown HGR.out (by first | (simp; done) | (simp; omega)) (fun k hk => by have := hlo k hk; omega)
        refine ⟨⟨0 + 1, by omega, by go_num, f0, ?_, hB6⟩, by simp [intOf]⟩
        rw [HPN.out]
        unfold OwnsR
        rw [cellsR_snoc, List.length_append]
        exact HOWN.out
    · have hlt := hlen (by omega)
      have hq := ref_neq0 s1 g1
      cases hnn : rNone (s1, g1) with
      | true =>
        rw [hnn] at hq
        have c0 : ∀ j, wr.cell? ⟨w.heap.size, j, none⟩ = (obC n s0 g0 s1 g1 s2 g2 s3 g3 h)[j]? := q0.cell
        rw [← fpre_none (s0, g0) (s1, g1) (s2, g2) (s3, g3) 1 (s1, g1) (.inr (.inl ⟨rfl, rfl⟩)) hnn] at q1
        have Q1 := Lib.hid q1
        have Q0 := Lib.hid q0
        clear q1 q0 hlen hlt hnn R0
        go_wp2_with fail
        refine ⟨⟨1 + 1, by omega, by go_num, Q0.out, Q1.out, hB⟩, by simp [intOf]⟩
      | false =>
        rw [hnn] at hq
        have c0 : ∀ j, wr.cell? ⟨w.heap.size, j, none⟩ = (obC n s0 g0 s1 g1 s2 g2 s3 g3 h)[j]? := q0.cell
        have hfs := fpre_some (s0, g0) (s1, g1) (s2, g2) (s3, g3) 1 (s1, g1) (.inr (.inl ⟨rfl, rfl⟩)) hnn
        obtain ⟨pre, hpre⟩ : ∃ pre, (fpre (s0, g0) (s1, g1) (s2, g2) (s3, g3) 1).map (·.2) = pre := ⟨_, rfl⟩
        have hpl : pre.length < 4 := by rw [← hpre, List.length_map]; exact hlt
        have hpn : (fpre (s0, g0) (s1, g1) (s2, g2) (s3, g3) (1 + 1)).map (·.2) = pre ++ [(s1, g1)] := by rw [← hfs, List.map_append, hpre]; rfl
        rw [hpre] at q1
        have kb := below_alloc wr (.cells #[.int .i64 s1, .int .u32 g1] 24)
        have Q3 := Lib.hid (q1.on kb)
        have Q4 := Lib.hid (q0.on kb)
        have HSRC := Lib.hid (row_srcR (xs := [.int .i64 s1, .int .u32 g1]) (Row.new (W := wr) (cs := #[.int .i64 s1, .int .u32 g1]) (t := 24)))
        have HPN := Lib.hid hpn
        clear q1 q0 hlen hlt hnn R0 hfs hpre hpn kb
        go_wp2_with (at_builtin; refine wpList_append_own _ rfl _ _ 37 rfl (w.heap.size + 1) 24 i0 (.agg #[.int .i64 0, .int .u32 0]) 2 16 Tryd.underlying37 HI0.out HZ0.out HZ1.out HZ2.out rfl (by decide) _ _ _ rfl Q3.out ⟨wr.heap.size, 0, none⟩ 1 1 [.int .i64 s1, .int .u32 g1] rfl rfl HSRC.out (by intro u hu; simp at hu; rcases hu with rfl | rfl <;> rfl) (by unfold maxLen; omega) (by omega) (by first | (simp; done) | (simp; omega)) ?_; intro v' w1 hown' hgrow hnil; have HOWN := Lib.hid hown'; have HGR := Lib.hid hgrow; clear hown' hgrow hnil)
        have hlo : ∀ k, _ = some k → w.heap.size + 1 ≤ k := fun k hk => (World.ownsRow.lt Q3.out k hk).1
        have f0 : Row w1 w.heap.size (obC n s0 g0 s1 g1 s2 g2 s3 g3 h) 31 := ⟨(HGR.out.block _ (by first | (simp; done) | (simp; omega)) (fun e => by have := hlo _ e.symm; omega)).trans Q4.out.eq⟩
        have hB6 : Below w.heap.size w w1 := (hB.alloc hB.size (.cells #[.int .i64 s1, .int .u32 g1] 24)).grown HGR.out (by first | (simp; done) | (simp; omega)) (fun k hk => by have := hlo k hk; omega)
        refine ⟨⟨1 + 1, by omega, by go_num, f0, ?_, hB6⟩, by simp [intOf]⟩
        rw [HPN.out]
        unfold OwnsR
        rw [cellsR_snoc, List.length_append]
        exact HOWN.out
    · have hlt := hlen (by omega)
      have hq := ref_neq0 s2 g2
      cases hnn : rNone (s2, g2) with
      | true =>
        rw [hnn] at hq
        have c0 : ∀ j, wr.cell? ⟨w.heap.size, j, none⟩ = (obC n s0 g0 s1 g1 s2 g2 s3 g3 h)[j]? := q0.cell
        rw [← fpre_none (s0, g0) (s1, g1) (s2, g2) (s3, g3) 2 (s2, g2) (.inr (.inr (.inl ⟨rfl, rfl⟩))) hnn] at q1
        have Q1 := Lib.hid q1
        have Q0 := Lib.hid q0
        clear q1 q0 hlen hlt hnn R0
        go_wp2_with fail
        refine ⟨⟨2 + 1, by omega, by go_num, Q0.out, Q1.out, hB⟩, by simp [intOf]⟩
      | false =>
        rw [hnn] at hq
        have c0 : ∀ j, wr.cell? ⟨w.heap.size, j, none⟩ = (obC n s0 g0 s1 g1 s2 g2 s3 g3 h)[j]? := q0.cell
        have hfs := fpre_some (s0, g0) (s1, g1) (s2, g2) (s3, g3) 2 (s2, g2) (.inr (.inr (.inl ⟨rfl, rfl⟩))) hnn
        obtain ⟨pre, hpre⟩ : ∃ pre, (fpre (s0, g0) (s1, g1) (s2, g2) (s3, g3) 2).map (·.2) = pre := ⟨_, rfl⟩
        have hpl : pre.length < 4 := by rw [← hpre, List.length_map]; exact hlt
        have hpn : (fpre (s0, g0) (s1, g1) (s2, g2) (s3, g3) (2 + 1)).map (·.2) = pre ++ [(s2, g2)] := by rw [← hfs, List.map_append, hpre]; rfl
        rw [hpre] at q1
        have kb := below_alloc wr (.cells #[.int .i64 s2, .int .u32 g2] 24)
        have Q3 := Lib.hid (q1.on kb)
        have Q4 := Lib.hid (q0.on kb)
        have HSRC := Lib.hid (row_srcR (xs := [.int .i64 s2, .int .u32 g2]) (Row.new (W := wr) (cs := #[.int .i64 s2, .int .u32 g2]) (t := 24)))
        have HPN := Lib.hid hpn
        clear q1 q0 hlen hlt hnn R0 hfs hpre hpn kb
        go_wp2_with (at_builtin; refine wpList_append_own _ rfl _ _ 37 rfl (w.heap.size + 1) 24 i0 (.agg #[.int .i64 0, .int .u32 0]) 2 16 Tryd.underlying37 HI0.out HZ0.out HZ1.out HZ2.out rfl (by decide) _ _ _ rfl Q3.out ⟨wr.heap.size, 0, none⟩ 1 1 [.int .i64 s2, .int .u32 g2] rfl rfl HSRC.out (by intro u hu; simp at hu; rcases hu with rfl | rfl <;> rfl) (by unfold maxLen; omega) (by omega) (by first | (simp; done) | (simp; omega)) ?_; intro v' w1 hown' hgrow hnil; have HOWN := Lib.hid hown'; have HGR := Lib.hid hgrow; clear hown' hgrow hnil)
        have hlo : ∀ k, _ = some k → w.heap.size + 1 ≤ k := fun k hk => (World.ownsRow.lt Q3.out k hk).1
        have f0 : Row w1 w.heap.size (obC n s0 g0 s1 g1 s2 g2 s3 g3 h) 31 := ⟨(HGR.out.block _ (by first | (simp; done) | (simp; omega)) (fun e => by have := hlo _ e.symm; omega)).trans Q4.out.eq⟩
        have hB6 : Below w.heap.size w w1 := (hB.alloc hB.size (.cells #[.int .i64 s2, .int .u32 g2] 24)).grown HGR.out (by first | (simp; done) | (simp; omega)) (fun k hk => by have := hlo k hk; omega)
        refine ⟨⟨2 + 1, by omega, by go_num, f0, ?_, hB6⟩, by simp [intOf]⟩
        rw [HPN.out]
        unfold OwnsR
        rw [cellsR_snoc, List.length_append]
        exact HOWN.out
    · have hlt := hlen (by omega)
      have hq := ref_neq0 s3 g3
      cases hnn : rNone (s3, g3) with
      | true =>
        rw [hnn] at hq
        have c0 : ∀ j, wr.cell? ⟨w.heap.size, j, none⟩ = (obC n s0 g0 s1 g1 s2 g2 s3 g3 h)[j]? := q0.cell
        rw [← fpre_none (s0, g0) (s1, g1) (s2, g2) (s3, g3) 3 (s3, g3) (.inr (.inr (.inr ⟨rfl, rfl⟩))) hnn] at q1
        have Q1 := Lib.hid q1
        have Q0 := Lib.hid q0
        clear q1 q0 hlen hlt hnn R0
        go_wp2_with fail
        refine ⟨⟨3 + 1, by omega, by go_num, Q0.out, Q1.out, hB⟩, by simp [intOf]⟩
      | false =>
        rw [hnn] at hq
        have c0 : ∀ j, wr.cell? ⟨w.heap.size, j, none⟩ = (obC n s0 g0 s1 g1 s2 g2 s3 g3 h)[j]? := q0.cell
        have hfs := fpre_some (s0, g0) (s1, g1) (s2, g2) (s3, g3) 3 (s3, g3) (.inr (.inr (.inr ⟨rfl, rfl⟩))) hnn
        obtain ⟨pre, hpre⟩ : ∃ pre, (fpre (s0, g0) (s1, g1) (s2, g2) (s3, g3) 3).map (·.2) = pre := ⟨_, rfl⟩
        have hpl : pre.length < 4 := by rw [← hpre, List.length_map]; exact hlt
        have hpn : (fpre (s0, g0) (s1, g1) (s2, g2) (s3, g3) (3 + 1)).map (·.2) = pre ++ [(s3, g3)] := by rw [← hfs, List.map_append, hpre]; rfl
        rw [hpre] at q1
        have kb := below_alloc wr (.cells #[.int .i64 s3, .int .u32 g3] 24)
        have Q3 := Lib.hid (q1.on kb)
        have Q4 := Lib.hid (q0.on kb)
        have HSRC := Lib.hid (row_srcR (xs := [.int .i64 s3, .int .u32 g3]) (Row.new (W := wr) (cs := #[.int .i64 s3, .int .u32 g3]) (t := 24)))
        have HPN := Lib.hid hpn
        clear q1 q0 hlen hlt hnn R0 hfs hpre hpn kb
        go_wp2_with (at_builtin; refine wpList_append_own _ rfl _ _ 37 rfl (w.heap.size + 1) 24 i0 (.agg #[.int .i64 0, .int .u32 0]) 2 16 Tryd.underlying37 HI0.out HZ0.out HZ1.out HZ2.out rfl (by decide) _ _ _ rfl Q3.out ⟨wr.heap.size, 0, none⟩ 1 1 [.int .i64 s3, .int .u32 g3] rfl rfl HSRC.out (by intro u hu; simp at hu; rcases hu with rfl | rfl <;> rfl) (by unfold maxLen; omega) (by omega) (by first | (simp; done) | (simp; omega)) ?_; intro v' w1 hown' hgrow hnil; have HOWN := Lib.hid hown'; have HGR := Lib.hid hgrow; clear hown' hgrow hnil)
        have hlo : ∀ k, _ = some k → w.heap.size + 1 ≤ k := fun k hk => (World.ownsRow.lt Q3.out k hk).1
        have f0 : Row w1 w.heap.size (obC n s0 g0 s1 g1 s2 g2 s3 g3 h) 31 := ⟨(HGR.out.block _ (by first | (simp; done) | (simp; omega)) (fun e => by have := hlo _ e.symm; omega)).trans Q4.out.eq⟩
        have hB6 : Below w.heap.size w w1 := (hB.alloc hB.size (.cells #[.int .i64 s3, .int .u32 g3] 24)).grown HGR.out (by first | (simp; done) | (simp; omega)) (fun k hk => by have := hlo k hk; omega)
        refine ⟨⟨3 + 1, by omega, by go_num, f0, ?_, hB6⟩, by simp [intOf]⟩
        rw [HPN.out]
        unfold OwnsR
        rw [cellsR_snoc, List.length_append]
        exact HOWN.out
    · have Q1 := Lib.hid q1
      clear q1 q0 hlen R0
      go_wp2_with fail
      go_ret
      exact ⟨_, rfl, Q1.out.base (by omega), hB⟩
/-- The slice v holds these references. -/
def HoldsR (W : World) (v : Value) (l : List Rf) : Prop := (v = .slice none 0 0 ∧ l = []) ∨
  ∃ g o c, v = .slice (some ⟨g, o, none⟩) l.length c ∧ ∀ (j : Nat) (r : Rf), l[j]? = some r → W.cell? ⟨g, o + j * 2, none⟩ = some (.int .i64 r.1) ∧ W.cell? ⟨g, o + j * 2 + 1, none⟩ = some (.int .u32 r.2)
theorem cellsR_get (l : List Rf) : ∀ (j : Nat) (r : Rf), l[j]? = some r → (cellsR l)[j * 2]? = some (.int .i64 r.1) ∧ (cellsR l)[j * 2 + 1]? = some (.int .u32 r.2) := by
  induction l with
  | nil => intro j r h; simp at h
  | cons x l ih =>
    intro j r h
    cases j with
    | zero => simp at h; subst h; simp [cellsR]
    | succ j =>
      obtain ⟨h1, h2⟩ := ih j r (by simpa using h)
      rw [show (j + 1) * 2 = j * 2 + 2 by omega, show cellsR (x :: l) = .int .i64 x.1 :: .int .u32 x.2 :: cellsR l by simp [cellsR]]
      exact ⟨by simpa using h1, by simpa using h2⟩
theorem OwnsR.holds {b : Nat} {W : World} {v : Value} {l : List Rf} (h : OwnsR b W v l) : HoldsR W v l := by
  rcases h.2 with ⟨h0, h1⟩ | ⟨g, cap, cur, h1, h2, h3, h4, h5, h6, h7⟩
  · exact .inl ⟨h0, List.eq_nil_of_length_eq_zero h1⟩
  · refine .inr ⟨g, 0, cap, h1, fun j r hj => ?_⟩
    obtain ⟨c1, c2⟩ := cellsR_get l j r hj
    have hjl : j < l.length := (List.getElem?_eq_some_iff.1 hj).1
    have key : ∀ i, i < l.length * 2 → W.cell? ⟨g, 0 + i, none⟩ = (cellsR l)[i]? := fun i hi => by
      rw [Nat.zero_add, Row.cell (⟨h3⟩ : Row W g cur _) i, ← h7, List.getElem?_take, if_pos hi, Array.getElem?_toList]
    refine ⟨(key _ (by omega)).trans c1, ?_⟩
    rw [Nat.add_assoc]
    exact (key _ (by omega)).trans c2
theorem HoldsR.len {W : World} {v : Value} {l : List Rf} (h : HoldsR W v l) : ∃ p c, v = .slice p l.length c := by
  rcases h with ⟨rfl, rfl⟩ | ⟨g, o, c, rfl, _⟩
  · exact ⟨none, 0, rfl⟩
  · exact ⟨_, c, rfl⟩
theorem neq_refs (r q : Rf) : ∀ W, (binOp .neq 24 (.agg #[.int .i64 r.1, .int .u32 r.2]) (.agg #[.int .i64 q.1, .int .u32 q.2])).run Tryd.prog W = .ok (.bool (!decide (r = q))) W := by
  intro W
  obtain ⟨a, b⟩ := r
  obtain ⟨c, d⟩ := q
  go_simp
  by_cases hs : a = c <;> by_cases hg : b = d <;> simp_all
set_option maxHeartbeats 16000000 in
set_option maxRecDepth 20000 in
theorem equal_c (v u : Value) (l m : List Rf) (w : World) (hv : HoldsR w v l) (hu : HoldsR w u m) (hl : l.length ≤ 100000) (hm : m.length ≤ 100000) :
    Ret 15 #[v, u] w (.bool (decide (l = m))) := by
  obtain ⟨p, c, hve⟩ := hv.len
  obtain ⟨q, d, hue⟩ := hu.len
  by_cases hlm : l.length = m.length
  · have HV := Lib.hid hv
    have HU := Lib.hid hu
    subst hve
    subst hue
    rw [← hlm] at HU ⊢
    have HLM := Lib.hid hlm
    obtain ⟨N, hN⟩ : ∃ N, l.length = N := ⟨_, rfl⟩
    rw [hN] at HV HU HLM hl ⊢
    have HN := Lib.hid hN
    clear hv hu hlm hm hN
    go_enter Tryd.func15, Tryd.ntmps15
    go_wp2_with fail
    go_loopw [13] (fun i wr => ∃ k : Nat, k ≤ N ∧ i = .int .i64 k ∧ l.take k = m.take k ∧ (∃ nd, wr = w.drewN nd)) (fun i _ => N - (intOf i).toNat)
    case atStart => exact ⟨0, by omega, rfl, rfl, 0, rfl⟩
    case round =>
      obtain ⟨k, hk, rfl, hlk, nd, hwr⟩ := hrel
      have HLK := Lib.hid hlk
      have HWR := Lib.hid hwr
      clear hlk hwr
      by_cases hlt : k < N
      · have hkl : k < l.length := by rw [HN.out]; exact hlt
        have hkm : k < m.length := by rw [← HLM.out]; exact hlt
        rcases HV.out with ⟨h1, h2⟩ | ⟨ga, oa, ca, hva, ha⟩
        · exact absurd hkl (by rw [h2]; simp)
        rcases HU.out with ⟨h1, h2⟩ | ⟨gb, ob, cb, hvb, hb⟩
        · exact absurd hkm (by rw [h2]; simp)
        obtain ⟨x0, x1⟩ := ha k l[k] (List.getElem?_eq_getElem hkl)
        obtain ⟨y0, y1⟩ := hb k m[k] (List.getElem?_eq_getElem hkm)
        injection hva with hp1 hp2 hp3
        injection hvb with hp4 hp5 hp6
        subst hp1 hp4
        have X0 : wr.cell? ⟨ga, oa + k * 2, none⟩ = some (.int .i64 l[k].1) := by rw [HWR.out]; exact x0
        have X1 : wr.cell? ⟨ga, oa + k * 2 + 1, none⟩ = some (.int .u32 l[k].2) := by rw [HWR.out]; exact x1
        have Y0 : wr.cell? ⟨gb, ob + k * 2, none⟩ = some (.int .i64 m[k].1) := by rw [HWR.out]; exact y0
        have Y1 : wr.cell? ⟨gb, ob + k * 2 + 1, none⟩ = some (.int .u32 m[k].2) := by rw [HWR.out]; exact y1
        have hq := neq_refs l[k] m[k]
        have htl : l.take (k + 1) = l.take k ++ [l[k]] := by rw [List.take_succ_eq_append_getElem hkl]
        have htm : m.take (k + 1) = m.take k ++ [m[k]] := by rw [List.take_succ_eq_append_getElem hkm]
        have hne : l[k] ≠ m[k] → l ≠ m := fun h e => h (by simp only [e])
        have HTL := Lib.hid htl
        have HTM := Lib.hid htm
        have HNE := Lib.hid hne
        generalize l[k] = a at *
        generalize m[k] = b at *
        clear ha hb x0 x1 y0 y1 htl htm hne hp2 hp3 hp5 hp6 HV HU hkl hkm
        have hlt' : (k : Int) < (N : Int) := by omega
        by_cases hab : a = b
        · have e : decide (a = b) = true := decide_eq_true hab
          rw [e] at hq
          have HAB := Lib.hid hab
          clear e hab
          go_wp2_with fail
          refine wp_region_held_drew (S := fun W' => W'.cell? ⟨ga, oa + k * 2, none⟩ = some (.int .i64 a.1) ∧ W'.cell? ⟨ga, oa + k * 2 + 1, none⟩ = some (.int .u32 a.2) ∧ W'.cell? ⟨gb, ob + k * 2, none⟩ = some (.int .i64 b.1) ∧ W'.cell? ⟨gb, ob + k * 2 + 1, none⟩ = some (.int .u32 b.2)) (by kernel_rfl) ⟨X0, X1, Y0, Y1⟩ (fun hHeld => ?_)
          refine' wpAnyH_take (i := 0) (oi := _) (v := _) ?_ (by kernel_rfl) (by kernel_rfl) (by kernel_rfl) ?_ (Or.inl ⟨?_, ?_⟩) (by assumption) ?_
          rotate_left 2
          · (simp only [List.getElem?_toArray, List.getElem?_cons_succ, List.getElem?_cons_zero]; rfl)
          · first | exact fun _ _ _ h => h | exact fun _ _ _ h => nomatch h.1
          · rfl
          · (intro W hSW; (try dsimp only at hSW); go_split_ands; first | (go_simp; done) | (go_simp; with_reducible rfl))
          try simp only [Act.put, List.setIfInBounds_toArray, List.set_cons_zero, List.set_cons_succ]
          refine' wpAnyH_take (i := 1) (oi := _) (v := _) ?_ (by kernel_rfl) (by kernel_rfl) (by kernel_rfl) ?_ (Or.inl ⟨?_, ?_⟩) (by assumption) ?_
          rotate_left 2
          · (simp only [List.getElem?_toArray, List.getElem?_cons_succ, List.getElem?_cons_zero]; rfl)
          · first | exact fun _ _ _ h => h | exact fun _ _ _ h => nomatch h.1
          · rfl
          · (intro W hSW; (try dsimp only at hSW); go_split_ands; first | (go_simp; done) | (go_simp; with_reducible rfl))
          try simp only [Act.put, List.setIfInBounds_toArray, List.set_cons_zero, List.set_cons_succ]
          refine' wpAnyH_take (i := 2) (oi := _) (v := _) ?_ (by kernel_rfl) (by kernel_rfl) (by kernel_rfl) ?_ (Or.inl ⟨?_, ?_⟩) (by assumption) ?_
          rotate_left 2
          · (simp only [List.getElem?_toArray, List.getElem?_cons_succ, List.getElem?_cons_zero]; rfl)
          · first | exact fun _ _ _ h => h | exact fun _ _ _ h => nomatch h.1
          · rfl
          · (intro W hSW; (try dsimp only at hSW); go_split_ands; first | (go_simp; done) | (go_simp; with_reducible rfl))
          try simp only [Act.put, List.setIfInBounds_toArray, List.set_cons_zero, List.set_cons_succ]
          refine' wpAnyH_take (i := 3) (oi := _) (v := _) ?_ (by kernel_rfl) (by kernel_rfl) (by kernel_rfl) ?_ (Or.inl ⟨?_, ?_⟩) (by assumption) ?_
          rotate_left 2
          · (simp only [List.getElem?_toArray, List.getElem?_cons_succ, List.getElem?_cons_zero]; rfl)
          · first | exact fun _ _ _ h => h | exact fun _ _ _ h => nomatch h.1
          · rfl
          · (intro W hSW; (try dsimp only at hSW); go_split_ands; first | (go_simp; done) | (go_simp; with_reducible rfl))
          try simp only [Act.put, List.setIfInBounds_toArray, List.set_cons_zero, List.set_cons_succ]
          refine' wpAnyH_take (i := 4) (oi := _) (v := _) ?_ (by kernel_rfl) (by kernel_rfl) (by kernel_rfl) ?_ (Or.inl ⟨?_, ?_⟩) (by assumption) ?_
          rotate_left 2
          · (simp only [List.getElem?_toArray, List.getElem?_cons_succ, List.getElem?_cons_zero]; rfl)
          · first | exact fun _ _ _ h => h | exact fun _ _ _ h => nomatch h.1
          · rfl
          · (intro W hSW; (try dsimp only at hSW); go_split_ands; first | (go_simp; done) | (go_simp; with_reducible rfl))
          try simp only [Act.put, List.setIfInBounds_toArray, List.set_cons_zero, List.set_cons_succ]
          refine' wpAnyH_take (i := 5) (oi := _) (v := _) ?_ (by kernel_rfl) (by kernel_rfl) (by kernel_rfl) ?_ (Or.inl ⟨?_, ?_⟩) (by assumption) ?_
          rotate_left 2
          · (simp only [List.getElem?_toArray, List.getElem?_cons_succ, List.getElem?_cons_zero]; rfl)
          · first | exact fun _ _ _ h => h | exact fun _ _ _ h => nomatch h.1
          · rfl
          · (intro W hSW; (try dsimp only at hSW); go_split_ands; first | (go_simp; done) | (go_simp; with_reducible rfl))
          try simp only [Act.put, List.setIfInBounds_toArray, List.set_cons_zero, List.set_cons_succ]
          refine' wpAnyH_take (i := 6) (oi := _) (v := _) ?_ (by kernel_rfl) (by kernel_rfl) (by kernel_rfl) ?_ (Or.inl ⟨?_, ?_⟩) (by assumption) ?_
          rotate_left 2
          · (simp only [List.getElem?_toArray, List.getElem?_cons_succ, List.getElem?_cons_zero]; rfl)
          · first | exact fun _ _ _ h => h | exact fun _ _ _ h => nomatch h.1
          · rfl
          · (intro W hSW; (try dsimp only at hSW); go_split_ands; first | (go_simp; done) | (go_simp; with_reducible rfl))
          try simp only [Act.put, List.setIfInBounds_toArray, List.set_cons_zero, List.set_cons_succ]
          refine' wpAnyH_take (i := 7) (oi := _) (v := _) ?_ (by kernel_rfl) (by kernel_rfl) (by kernel_rfl) ?_ (Or.inl ⟨?_, ?_⟩) (by assumption) ?_
          rotate_left 2
          · (simp only [List.getElem?_toArray, List.getElem?_cons_succ, List.getElem?_cons_zero]; rfl)
          · first | exact fun _ _ _ h => h | exact fun _ _ _ h => nomatch h.1
          · rfl
          · (intro W hSW; (try dsimp only at hSW); go_split_ands; first | (go_simp; done) | (go_simp; with_reducible rfl))
          try simp only [Act.put, List.setIfInBounds_toArray, List.set_cons_zero, List.set_cons_succ]
          refine' wpAnyH_take (i := 8) (oi := _) (v := _) ?_ (by kernel_rfl) (by kernel_rfl) (by kernel_rfl) ?_ (Or.inl ⟨?_, ?_⟩) (by assumption) ?_
          rotate_left 2
          · (simp only [List.getElem?_toArray, List.getElem?_cons_succ, List.getElem?_cons_zero]; rfl)
          · first | exact fun _ _ _ h => h | exact fun _ _ _ h => nomatch h.1
          · rfl
          · (intro W hSW; (try dsimp only at hSW); go_split_ands; first | (go_simp; done) | (go_simp; with_reducible rfl))
          try simp only [Act.put, List.setIfInBounds_toArray, List.set_cons_zero, List.set_cons_succ]
          refine wpAnyH_done (by kernel_rfl) ?_ _
          go_wp2_with fail
          refine ⟨⟨k + 1, by omega, by go_num, by rw [HTL.out, HTM.out, HLK.out, HAB.out], nd + 1, by rw [HWR.out]; rfl⟩, by simp [intOf]; omega⟩
        · have e : decide (a = b) = false := decide_eq_false hab
          rw [e] at hq
          have HAB := Lib.hid hab
          clear e hab
          go_wp2_with fail
          refine wp_region_held_drew (S := fun W' => W'.cell? ⟨ga, oa + k * 2, none⟩ = some (.int .i64 a.1) ∧ W'.cell? ⟨ga, oa + k * 2 + 1, none⟩ = some (.int .u32 a.2) ∧ W'.cell? ⟨gb, ob + k * 2, none⟩ = some (.int .i64 b.1) ∧ W'.cell? ⟨gb, ob + k * 2 + 1, none⟩ = some (.int .u32 b.2)) (by kernel_rfl) ⟨X0, X1, Y0, Y1⟩ (fun hHeld => ?_)
          refine' wpAnyH_take (i := 0) (oi := _) (v := _) ?_ (by kernel_rfl) (by kernel_rfl) (by kernel_rfl) ?_ (Or.inl ⟨?_, ?_⟩) (by assumption) ?_
          rotate_left 2
          · (simp only [List.getElem?_toArray, List.getElem?_cons_succ, List.getElem?_cons_zero]; rfl)
          · first | exact fun _ _ _ h => h | exact fun _ _ _ h => nomatch h.1
          · rfl
          · (intro W hSW; (try dsimp only at hSW); go_split_ands; first | (go_simp; done) | (go_simp; with_reducible rfl))
          try simp only [Act.put, List.setIfInBounds_toArray, List.set_cons_zero, List.set_cons_succ]
          refine' wpAnyH_take (i := 1) (oi := _) (v := _) ?_ (by kernel_rfl) (by kernel_rfl) (by kernel_rfl) ?_ (Or.inl ⟨?_, ?_⟩) (by assumption) ?_
          rotate_left 2
          · (simp only [List.getElem?_toArray, List.getElem?_cons_succ, List.getElem?_cons_zero]; rfl)
          · first | exact fun _ _ _ h => h | exact fun _ _ _ h => nomatch h.1
          · rfl
          · (intro W hSW; (try dsimp only at hSW); go_split_ands; first | (go_simp; done) | (go_simp; with_reducible rfl))
          try simp only [Act.put, List.setIfInBounds_toArray, List.set_cons_zero, List.set_cons_succ]
          refine' wpAnyH_take (i := 2) (oi := _) (v := _) ?_ (by kernel_rfl) (by kernel_rfl) (by kernel_rfl) ?_ (Or.inl ⟨?_, ?_⟩) (by assumption) ?_
          rotate_left 2
          · (simp only [List.getElem?_toArray, List.getElem?_cons_succ, List.getElem?_cons_zero]; rfl)
          · first | exact fun _ _ _ h => h | exact fun _ _ _ h => nomatch h.1
          · rfl
          · (intro W hSW; (try dsimp only at hSW); go_split_ands; first | (go_simp; done) | (go_simp; with_reducible rfl))
          try simp only [Act.put, List.setIfInBounds_toArray, List.set_cons_zero, List.set_cons_succ]
          refine' wpAnyH_take (i := 3) (oi := _) (v := _) ?_ (by kernel_rfl) (by kernel_rfl) (by kernel_rfl) ?_ (Or.inl ⟨?_, ?_⟩) (by assumption) ?_
          rotate_left 2
          · (simp only [List.getElem?_toArray, List.getElem?_cons_succ, List.getElem?_cons_zero]; rfl)
          · first | exact fun _ _ _ h => h | exact fun _ _ _ h => nomatch h.1
          · rfl
          · (intro W hSW; (try dsimp only at hSW); go_split_ands; first | (go_simp; done) | (go_simp; with_reducible rfl))
          try simp only [Act.put, List.setIfInBounds_toArray, List.set_cons_zero, List.set_cons_succ]
          refine' wpAnyH_take (i := 4) (oi := _) (v := _) ?_ (by kernel_rfl) (by kernel_rfl) (by kernel_rfl) ?_ (Or.inl ⟨?_, ?_⟩) (by assumption) ?_
          rotate_left 2
          · (simp only [List.getElem?_toArray, List.getElem?_cons_succ, List.getElem?_cons_zero]; rfl)
          · first | exact fun _ _ _ h => h | exact fun _ _ _ h => nomatch h.1
          · rfl
          · (intro W hSW; (try dsimp only at hSW); go_split_ands; first | (go_simp; done) | (go_simp; with_reducible rfl))
          try simp only [Act.put, List.setIfInBounds_toArray, List.set_cons_zero, List.set_cons_succ]
          refine' wpAnyH_take (i := 5) (oi := _) (v := _) ?_ (by kernel_rfl) (by kernel_rfl) (by kernel_rfl) ?_ (Or.inl ⟨?_, ?_⟩) (by assumption) ?_
          rotate_left 2
          · (simp only [List.getElem?_toArray, List.getElem?_cons_succ, List.getElem?_cons_zero]; rfl)
          · first | exact fun _ _ _ h => h | exact fun _ _ _ h => nomatch h.1
          · rfl
          · (intro W hSW; (try dsimp only at hSW); go_split_ands; first | (go_simp; done) | (go_simp; with_reducible rfl))
          try simp only [Act.put, List.setIfInBounds_toArray, List.set_cons_zero, List.set_cons_succ]
          refine' wpAnyH_take (i := 6) (oi := _) (v := _) ?_ (by kernel_rfl) (by kernel_rfl) (by kernel_rfl) ?_ (Or.inl ⟨?_, ?_⟩) (by assumption) ?_
          rotate_left 2
          · (simp only [List.getElem?_toArray, List.getElem?_cons_succ, List.getElem?_cons_zero]; rfl)
          · first | exact fun _ _ _ h => h | exact fun _ _ _ h => nomatch h.1
          · rfl
          · (intro W hSW; (try dsimp only at hSW); go_split_ands; first | (go_simp; done) | (go_simp; with_reducible rfl))
          try simp only [Act.put, List.setIfInBounds_toArray, List.set_cons_zero, List.set_cons_succ]
          refine' wpAnyH_take (i := 7) (oi := _) (v := _) ?_ (by kernel_rfl) (by kernel_rfl) (by kernel_rfl) ?_ (Or.inl ⟨?_, ?_⟩) (by assumption) ?_
          rotate_left 2
          · (simp only [List.getElem?_toArray, List.getElem?_cons_succ, List.getElem?_cons_zero]; rfl)
          · first | exact fun _ _ _ h => h | exact fun _ _ _ h => nomatch h.1
          · rfl
          · (intro W hSW; (try dsimp only at hSW); go_split_ands; first | (go_simp; done) | (go_simp; with_reducible rfl))
          try simp only [Act.put, List.setIfInBounds_toArray, List.set_cons_zero, List.set_cons_succ]
          refine' wpAnyH_take (i := 8) (oi := _) (v := _) ?_ (by kernel_rfl) (by kernel_rfl) (by kernel_rfl) ?_ (Or.inl ⟨?_, ?_⟩) (by assumption) ?_
          rotate_left 2
          · (simp only [List.getElem?_toArray, List.getElem?_cons_succ, List.getElem?_cons_zero]; rfl)
          · first | exact fun _ _ _ h => h | exact fun _ _ _ h => nomatch h.1
          · rfl
          · (intro W hSW; (try dsimp only at hSW); go_split_ands; first | (go_simp; done) | (go_simp; with_reducible rfl))
          try simp only [Act.put, List.setIfInBounds_toArray, List.set_cons_zero, List.set_cons_succ]
          refine wpAnyH_done (by kernel_rfl) ?_ _
          go_wp2_with fail
          go_ret
          refine ⟨by rw [decide_eq_false (HNE.out HAB.out)]; rfl, ?_⟩
          rw [HWR.out]
          exact (below_drewN (Below.refl _ _) nd).drew
      · obtain rfl : k = N := by omega
        go_wp2_with fail
        go_ret
        have h1 := HLK.out
        rw [List.take_of_length_le (by rw [HN.out]; omega), List.take_of_length_le (by rw [← HLM.out]; omega)] at h1
        refine ⟨by rw [decide_eq_true h1]; rfl, ?_⟩
        rw [HWR.out]
        exact below_drewN (Below.refl _ _) nd
  · have hd : decide (l = m) = false := decide_eq_false (fun e => hlm (by rw [e]))
    have hn : ((l.length : Int) == (m.length : Int)) = false := by rw [beq_eq_false_iff_ne]; omega
    have hn2 : ((l.length : Int) != (m.length : Int)) = true := by rw [bne, hn]; rfl
    rw [hd]
    subst hve
    subst hue
    clear hv hu hlm hd
    go_enter Tryd.func15, Tryd.ntmps15
    go_wp2_with fail
    go_ret
    exact ⟨rfl, by go_grown⟩
end Go.Proofs.YtpegkcmomkdoeaaDoor
