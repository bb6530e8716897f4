/- FieldsRefs. -/
import Derived.Test.YtpegkcmomkdoeaaDoorLaw13c
import Derived.Test.YtpegkcmomkdoeaaDoorMade13
import Derived.Laws.CopyRow
namespace Go.Proofs.YtpegkcmomkdoeaaDoor
open Go.RowKit
set_option linter.unusedVariables false
set_option linter.unusedSimpArgs false
theorem OwnsR.grown {b : Nat} {W W' : World} {v : Value} {l : List Rf} {row : Option Nat} (h : OwnsR b W v l) (hg : W.grownBy W' row) (hne : ∀ k, v.ownBlock = some k → row ≠ some k) : OwnsR b W' v l := by
  have hlt := World.ownsRow.lt h
  refine ⟨h.1, ?_⟩
  rcases h.2 with h0 | ⟨g, cap, cur, h1, h2, h3, h4⟩
  · exact .inl h0
  · subst h1
    exact .inr ⟨g, cap, cur, rfl, h2, (hg.block g (hlt g rfl).2 (fun e => hne g rfl e.symm)).trans h3, h4⟩
theorem OwnsR.keep {b : Nat} {W W' : World} {v : Value} {l : List Rf} (h : OwnsR b W v l) (hk : ∀ x, v.ownBlock = some x → W'.heap[x]? = W.heap[x]?) : OwnsR b W' v l := by
  refine ⟨h.1, ?_⟩
  rcases h.2 with h0 | ⟨g, cap, cur, h1, h2, h3, h4⟩
  · exact .inl h0
  · subst h1
    exact .inr ⟨g, cap, cur, rfl, h2, (hk g rfl).trans h3, h4⟩
/-- What is gathered of the first fields. -/
def preR (F : Nat → Rf) : Nat → List Rf
  | 0 => []
  | k + 1 => if rNone (F k) then preR F k else preR F k ++ [F k]
theorem preR_len (F : Nat → Rf) (k : Nat) : (preR F k).length ≤ k := by
  induction k with
  | zero => simp [preR]
  | succ k ih =>
    unfold preR
    split
    · omega
    · rw [List.length_append]
      show _ + 1 ≤ k + 1
      omega
theorem zc_len (z : Array Value) (n : Nat) : (Builtin.zeroCells z n).toList.length = n * z.size := by simp [Builtin.zeroCells]
theorem zc_one (n : Nat) : ∀ v ∈ (Builtin.zeroCells #[.int .i64 0, .int .u32 0] n).toList, v.oneCell' = true := by
  intro v hv
  rw [Array.mem_toList_iff] at hv
  unfold Builtin.zeroCells at hv
  obtain ⟨i, -, rfl⟩ := Array.mem_map.1 hv
  have : i % 2 = 0 ∨ i % 2 = 1 := by omega
  show (_ : Value).oneCell' = true
  rw [show (#[Value.int .i64 0, .int .u32 0] : Array Value).size = 2 from rfl]
  rcases this with h | h <;> rw [h] <;> rfl
theorem clear_run (W : World) (ty : TypeId) (v : Value) (l : List Rf) (b B : Nat) (w0 : World) (h : OwnsR b W v l) (hB : Below B w0 W) (hb : B ≤ b) :
    ∃ W', (Builtin.clear_ #[37] ty #[v]).run Tryd.prog W = .ok (.tuple #[]) W' ∧ Below B w0 W' ∧ W'.heap.size = W.heap.size ∧ ∀ x, v.ownBlock ≠ some x → W'.heap[x]? = W.heap[x]? := by
  rcases h.2 with ⟨rfl, h0⟩ | ⟨g, cap, cur, rfl, h2, h3, h4⟩
  · refine ⟨W, ?_, hB, rfl, fun _ _ => rfl⟩
    simp [Builtin.clear_, go_sem, Tryd.underlying37]
  · obtain ⟨h5, h6, h7, h8⟩ := h4
    by_cases hn : l.length = 0
    · refine ⟨W, ?_, hB, rfl, fun _ _ => rfl⟩
      rw [hn]
      simp [Builtin.clear_, go_sem, Tryd.underlying37]
    · obtain ⟨m, hm⟩ : ∃ m, l.length = m + 1 := ⟨l.length - 1, by omega⟩
      have hz : (Builtin.zeroCells #[.int .i64 0, .int .u32 0] l.length).toList.length = l.length * 2 := by rw [zc_len]; simp
      obtain ⟨XS, hst⟩ : ∃ XS, (storeCells ⟨g, 0, none⟩ (Builtin.zeroCells #[.int .i64 0, .int .u32 0] l.length).toList).run Tryd.prog W = .ok () (W.setRow g XS) :=
        ⟨_, run_storeCells_at (P := Tryd.prog) g 0 24 (Builtin.zeroCells #[.int .i64 0, .int .u32 0] l.length).toList 0 cur W h3 (by rw [hz, h7]; have := Nat.mul_le_mul_right 2 h5; omega) (zc_one _)⟩
      obtain ⟨i0, hi, hz0, hz1, hz2⟩ := info_parts ref_info
      refine ⟨W.setRow g XS, ?_, below_setRow hB (Nat.le_trans hb h2) _, ?_, fun x hx => ?_⟩
      · have hz9 : Tryd.t24.zero = some (.agg #[.int .i64 0, .int .u32 0]) := by kernel_rfl
        rw [hm] at hst ⊢
        simp [Builtin.clear_, go_sem, Tryd.underlying37, hz9, hst, zeroValue]
      · simp [World.setRow]
      · simp only [World.setRow, Array.getElem?_modify]
        rw [if_neg (fun e => hx (by rw [Value.ownBlock, e]))]
set_option maxHeartbeats 16000000 in
set_option maxRecDepth 20000 in
theorem refs_core (n a1 a2 a3 a4 b1 b2 b3 b4 N s0 g0 s1 g1 s2 g2 s3 g3 : Int) (h : Bool) (F : Nat → Rf) (L : List Rf) (w : World) (hE : EnvP w) (N0 : 0 ≤ N) (N1 : N ≤ 4) (hL : preR F N.toNat = L)
    (c1 : ∀ w, Ret 27 #[.int .u8 n, .agg #[.int .u8 a1, .int .u8 a2, .int .u8 a3, .int .u8 a4], .agg #[.int .u32 b1, .int .u32 b2, .int .u32 b3, .int .u32 b4]] w (obV N s0 g0 s1 g1 s2 g2 s3 g3 h))
    (c2 : ∀ w, Calls Tryd.prog 16 #[obV N s0 g0 s1 g1 s2 g2 s3 g3 h] w fun e w' => ∃ v, e = .returned v ∧ OwnsR w.heap.size w' v L ∧ Below w.heap.size w w')
    (c3 : ∀ (k : Nat), (k : Int) < N → ∀ w, Ret 19 #[obV N s0 g0 s1 g1 s2 g2 s3 g3 h, .int .i64 k] w (.tuple #[refV (F k).1 (F k).2, .int .i64 0]))
    (c4 : ∀ w, Ret 11 #[.int .i64 N, .bool h] w (.tuple #[obV N 0 0 0 0 0 0 0 0 h, .int .i64 0]))
    (c5 : ∀ w, Calls Tryd.prog 16 #[obV N 0 0 0 0 0 0 0 0 h] w fun e w' => ∃ v, e = .returned v ∧ OwnsR w.heap.size w' v [] ∧ Below w.heap.size w w')
    (c6 : ∀ (v u : Value) w, HoldsR w v L → HoldsR w u L → Ret 15 #[v, u] w (.bool true)) :
    Ret 9 #[.int .u8 n, .agg #[.int .u8 a1, .int .u8 a2, .int .u8 a3, .int .u8 a4], .agg #[.int .u32 b1, .int .u32 b2, .int .u32 b3, .int .u32 b4]] w (.bool true) := by
  obtain ⟨i0, hi, hz0, hz1, hz2⟩ := info_parts ref_info
  have HI0 := Lib.hid hi
  have HZ0 := Lib.hid hz0
  have HZ1 := Lib.hid hz1
  have HZ2 := Lib.hid hz2
  have C1 := Lib.hid c1
  have C2 := Lib.hid c2
  have C3 := Lib.hid c3
  have C4 := Lib.hid c4
  have C5 := Lib.hid c5
  have C6 := Lib.hid c6
  have HE := Lib.hid hE
  have HL := Lib.hid hL
  clear hi hz0 hz1 hz2 c1 c2 c3 c4 c5 c6 hE hL
  go_enter Tryd.func9, Tryd.ntmps9
  go_wp2_with fail
  refine Calls.mono (C1.out _) ?_
  rintro e w1 ⟨rfl, hb⟩
  have hc : Below w.heap.size w w1 := under hb
  clear hb
  go_wp2_with fail
  have r1 := Row.new (W := w1) (cs := obC N s0 g0 s1 g1 s2 g2 s3 g3 h) (t := 27)
  have hp : w.heap.size ≤ w1.heap.size := hc.size
  replace hc := hc.alloc hc.size (.cells (obC N s0 g0 s1 g1 s2 g2 s3 g3 h) 27)
  refine Calls.mono (C2.out _) ?_
  rintro e w2 ⟨vl, rfl, hl, hb⟩
  replace r1 := r1.on hb
  replace hc := chain hc hb
  clear hb
  rw [World.size_alloc] at hl
  generalize w1.heap.size = p1 at *
  have hlk : ∀ k, vl.ownBlock = some k → k < w2.heap.size := fun k hk => (World.ownsRow.lt hl k hk).2
  have hpb : p1 < w2.heap.size := r1.lt
  obtain ⟨B, hB⟩ : ∃ B, w2.heap.size = B := ⟨_, rfl⟩
  rw [hB] at hlk hpb
  have HLK := Lib.hid hlk
  clear hlk
  have y1 := r1.cell
  have z1 := r1.lt
  go_wp2_with fail
  go_loopw [9, 23] (fun v i wr => ∃ k : Nat, (k : Int) ≤ N ∧ i = .int .i64 k ∧ Row wr p1 (obC N s0 g0 s1 g1 s2 g2 s3 g3 h) 27 ∧ OwnsR (p1 + 1) wr vl L ∧ OwnsR B wr v (preR F k) ∧ B ≤ wr.heap.size ∧ Below w.heap.size w wr) (fun _ i _ => (N - intOf i).toNat)
  case atStart => exact ⟨0, by omega, rfl, r1, hl, World.ownsRow_nil _ _ _ _, by omega, hc⟩
  case round =>
    clear y1 z1 r1 hl hc
    obtain ⟨k, hk, rfl, r1, hl, q1, hz, hc⟩ := hrel
    have y1 := r1.cell
    have z1 := r1.lt
    by_cases hkN : (k : Int) < N
    · have hget := C3.out k hkN
      have hpl := preR_len F k
      have hnx : preR F (k + 1) = if rNone (F k) then preR F k else preR F k ++ [F k] := rfl
      generalize F k = r at *
      obtain ⟨s, g⟩ := r
      have HNX := Lib.hid hnx
      have HG := Lib.hid hget
      have R1 := Lib.hid r1
      have HLL := Lib.hid hl
      have Q1 := Lib.hid q1
      clear hnx hget r1 hl q1
      go_wp2_with fail
      refine Calls.mono (HG.out _) ?_
      rintro e u ⟨rfl, hb⟩
      have r1 := R1.out.on hb
      have hl := HLL.out.on hb
      have q1 := Q1.out.on hb
      replace hz : B ≤ u.heap.size := Nat.le_trans hz hb.size
      replace hc := chain hc hb
      clear hb R1 HLL Q1 y1 z1
      have hu := below_alloc u (.cells (refC s g) 24)
      have hq := ref_neq0 s g
      cases hnn : rNone (s, g) with
      | true =>
        rw [hnn] at hq
        have R1 := Lib.hid (r1.on hu)
        have HLL := Lib.hid (hl.on hu)
        have Q1 := Lib.hid (q1.on hu)
        have HC := Lib.hid (hc.alloc hc.size (.cells (refC s g) 24))
        clear r1 hl q1 hu hc
        go_wp2_with fail
        refine ⟨⟨k + 1, by omega, by go_num, R1.out, HLL.out, ?_, by simp; omega, HC.out⟩, by simp [intOf]; omega⟩
        rw [HNX.out, hnn]
        exact Q1.out
      | false =>
        rw [hnn] at hq
        have hu2 := below_alloc (u.alloc (.cells (refC s g) 24)) (.cells (refC s g) 24)
        have R1 := Lib.hid ((r1.on hu).on hu2)
        have HLL := Lib.hid ((hl.on hu).on hu2)
        have Q3 := Lib.hid ((q1.on hu).on hu2)
        have HC := Lib.hid ((hc.alloc hc.size (.cells (refC s g) 24)).alloc (by simp; have := hc.size; omega) (.cells (refC s g) 24))
        have hsrc := row_srcR (xs := [.int .i64 s, .int .u32 g]) (Row.new (W := u.alloc (.cells (refC s g) 24)) (cs := refC s g) (t := 24))
        rw [World.size_alloc] at hsrc
        have HSRC := Lib.hid hsrc
        clear r1 hl q1 hu hu2 hc hsrc
        generalize hpp : preR F k = pre at *
        clear hpp
        go_wp2_with (at_builtin; refine wpList_append_own _ rfl _ _ 37 rfl B 24 i0 (.agg #[.int .i64 0, .int .u32 0]) 2 16 Tryd.underlying37 HI0.out HZ0.out HZ1.out HZ2.out rfl (by decide) _ _ _ rfl Q3.out ⟨u.heap.size + 1, 0, none⟩ 1 1 [.int .i64 s, .int .u32 g] rfl rfl HSRC.out (by intro u hu; simp at hu; rcases hu with rfl | rfl <;> rfl) (by unfold maxLen; omega) (by omega) (by first | (simp; done) | (simp; omega)) ?_; intro v' w9 hown' hgrow hnil; have HOWN := Lib.hid hown'; have HGR := Lib.hid hgrow; clear hown' hgrow hnil)
        have hlo : ∀ k, _ = some k → B ≤ k := fun k hk => (World.ownsRow.lt Q3.out k hk).1
        have f0 : Row w9 p1 (obC N s0 g0 s1 g1 s2 g2 s3 g3 h) 27 := ⟨(HGR.out.block _ R1.out.lt (fun e => by have := hlo _ e.symm; omega)).trans R1.out.eq⟩
        have f1 : OwnsR (p1 + 1) w9 vl L := HLL.out.grown HGR.out (fun k hk e => by have := hlo _ e; have := HLK.out k hk; omega)
        have hw9 : B ≤ w9.heap.size := by have := HGR.out.size; simp at this; omega
        have hB6 : Below w.heap.size w w9 := HC.out.grown HGR.out (by first | (simp; done) | (simp; omega)) (fun k hk => by have := hlo k hk; omega)
        refine ⟨⟨k + 1, by omega, by go_num, f0, f1, ?_, hw9, hB6⟩, by simp [intOf]; omega⟩
        rw [HNX.out, hnn]
        unfold OwnsR
        simp only [Bool.false_eq_true, if_false]
        rw [cellsR_snoc, List.length_append]
        exact HOWN.out
    · obtain rfl : (k : Int) = N := by omega
      rw [show preR F k = L from HL.out] at q1
      clear HL C3
      go_wp2_with fail
      refine Calls.mono (C4.out _) ?_
      rintro e u ⟨rfl, hb⟩
      replace r1 := r1.on hb
      replace hl := hl.on hb
      replace q1 := q1.on hb
      replace hz : B ≤ u.heap.size := Nat.le_trans hz hb.size
      replace hc := chain hc hb
      clear hb y1 z1
      have y1 := r1.cell
      have z1 := r1.lt
      go_wp2_with fail
      clear y1 z1
      have r5 := Row.new (W := u) (cs := obC k 0 0 0 0 0 0 0 0 h) (t := 27)
      replace r1 := r1.on (below_alloc u (.cells (obC k 0 0 0 0 0 0 0 0 h) 27))
      replace hl := hl.on (below_alloc u (.cells (obC k 0 0 0 0 0 0 0 0 h) 27))
      replace q1 := q1.on (below_alloc u (.cells (obC k 0 0 0 0 0 0 0 0 h) 27))
      replace hc := hc.alloc hc.size (.cells (obC k 0 0 0 0 0 0 0 0 h) 27)
      generalize u.alloc (.cells (obC k 0 0 0 0 0 0 0 0 h) 27) = X at *
      generalize u.heap.size = p5 at *
      refine Calls.mono (C5.out _) ?_
      rintro e X1 ⟨v5, rfl, h5, hb⟩
      replace r1 := r1.on hb
      replace hl := hl.on hb
      replace q1 := q1.on hb
      replace hc := chain hc hb
      clear hb r5
      obtain ⟨pp, cc, rfl⟩ := h5.holds.len
      clear h5
      go_wp2_with fail
      refine Calls.mono (C6.out _ _ _ hl.holds q1.holds) ?_
      rintro e X2 ⟨rfl, hb⟩
      replace r1 := r1.on hb
      replace hl := hl.on hb
      replace q1 := q1.on hb
      replace hc := chain hc hb
      clear hb
      obtain ⟨X3, hcl, hcb, hcs, hck⟩ := clear_run X2 0 vl L (p1 + 1) w.heap.size w hl hc (by omega)
      have r1' : Row X3 p1 (obC k s0 g0 s1 g1 s2 g2 s3 g3 h) 27 := ⟨(hck p1 (fun e => by have := (World.ownsRow.lt hl p1 e).1; omega)).trans r1.eq⟩
      have q1' := OwnsR.keep (W' := X3) q1 (fun x hx => hck x (fun e => by have := (World.ownsRow.lt q1 x hx).1; have := HLK.out x e; omega))
      have R1 := Lib.hid r1'
      have Q1 := Lib.hid q1'
      have HCB := Lib.hid hcb
      have y1 : ∀ j, X3.cell? ⟨p1, j, none⟩ = _ := r1'.cell
      have z1 : p1 < X3.heap.size := r1'.lt
      clear r1 r1' q1 q1' hcb hl hc hck hcs
      go_wp2_with fail
      refine Calls.mono (C2.out _) ?_
      rintro e X4 ⟨v6, rfl, h6, hb⟩
      have q1 := Q1.out.on hb
      have hc := chain HCB.out hb
      clear hb Q1 HCB R1 y1 z1
      go_wp2_with fail
      refine Calls.mono (C6.out _ _ _ h6.holds q1.holds) ?_
      rintro e X5 ⟨rfl, hb⟩
      replace hc := chain hc hb
      clear hb h6 q1
      go_wp2_with fail
      refine Calls.mono (works _ (HE.out.on hc)) ?_
      rintro e X6 ⟨rfl, hb⟩
      replace hc := chain hc hb
      clear hb
      go_wp2_with fail
      go_returns
      exact ⟨rfl, hc⟩
theorem preR_refs (N : Int) (A B C D : Rf) (h : Bool) (ho : oOk N A B C D h = true) : preR (fun k => oldF k A B C D) N.toNat = refsOf A B C D := by
  obtain ⟨⟨n0, n1⟩, -, f0, f1, f2, f3⟩ := oOk_iff.1 ho
  rcases (by omega : N = 0 ∨ N = 1 ∨ N = 2 ∨ N = 3 ∨ N = 4) with rfl | rfl | rfl | rfl | rfl
  · rw [fOk_over f0 (by omega), fOk_over f1 (by omega), fOk_over f2 (by omega), fOk_over f3 (by omega)]; rfl
  · rw [fOk_over f1 (by omega), fOk_over f2 (by omega), fOk_over f3 (by omega)]
    unfold refsOf
    rw [full_eq]
    cases hA : rNone A <;> simp [preR, oldF, hA, rNone_0]
  · rw [fOk_over f2 (by omega), fOk_over f3 (by omega)]
    unfold refsOf
    rw [full_eq]
    cases hA : rNone A <;> cases hB : rNone B <;> simp [preR, oldF, hA, hB, rNone_0]
  · rw [fOk_over f3 (by omega)]
    unfold refsOf
    rw [full_eq]
    cases hA : rNone A <;> cases hB : rNone B <;> cases hC : rNone C <;> simp [preR, oldF, hA, hB, hC, rNone_0]
  · unfold refsOf
    rw [full_eq]
    cases hA : rNone A <;> cases hB : rNone B <;> cases hC : rNone C <;> cases hD : rNone D <;> simp [preR, oldF, hA, hB, hC, hD]
theorem refs_walk (n a1 a2 a3 a4 b1 b2 b3 b4 : Int) (w : World) (hE : EnvP w) (n0 : 0 ≤ n) (n1 : n ≤ 255) (u0 : 0 ≤ a1) (v0 : a1 ≤ 255) (u1 : 0 ≤ a2) (v1 : a2 ≤ 255) (u2 : 0 ≤ a3) (v2 : a3 ≤ 255) (u3 : 0 ≤ a4) (v3 : a4 ≤ 255)
    (p0 : 0 ≤ b1) (q0 : b1 ≤ 4294967295) (p1 : 0 ≤ b2) (q1 : b2 ≤ 4294967295) (p2 : 0 ≤ b3) (q2 : b3 ≤ 4294967295) (p3 : 0 ≤ b4) (q3 : b4 ≤ 4294967295) :
    Ret 9 #[.int .u8 n, .agg #[.int .u8 a1, .int .u8 a2, .int .u8 a3, .int .u8 a4], .agg #[.int .u32 b1, .int .u32 b2, .int .u32 b3, .int .u32 b4]] w (.bool true) := by
  obtain ⟨N, A, B, C, D, h, ho, c1⟩ := made_c n a1 a2 a3 a4 b1 b2 b3 b4 n0 n1 u0 v0 u1 v1 u2 v2 u3 v3 p0 q0 p1 q1 p2 q2 p3 q3
  obtain ⟨⟨m0, m1⟩, mh, -⟩ := oOk_iff.1 ho
  have hn : oOk N (0, 0) (0, 0) (0, 0) (0, 0) h = true := oOk_iff.2 ⟨⟨m0, m1⟩, mh, fOk_zero _ _, fOk_zero _ _, fOk_zero _ _, fOk_zero _ _⟩
  have c4 := fun w => fnew_c N h w
  unfold newN newH oErr at c4
  rw [hn] at c4
  have hlen : (refsOf A B C D).length ≤ 100000 := by
    unfold refsOf full
    rw [List.length_map]
    exact Nat.le_trans (List.length_filter_le _ _) (by simp)
  refine refs_core n a1 a2 a3 a4 b1 b2 b3 b4 N A.1 A.2 B.1 B.2 C.1 C.2 D.1 D.2 h _ (refsOf A B C D) w hE m0 m1 (preR_refs N A B C D h ho) c1 (fun w => frefs_c N A.1 A.2 B.1 B.2 C.1 C.2 D.1 D.2 h w) (fun k hk w => ?_) c4 (fun w => frefs_c N 0 0 0 0 0 0 0 0 h w) (fun v u w hv hu => ?_)
  · have c := fget_c N A B C D h k w
    unfold getO inR at c
    rw [if_pos ho, decide_eq_true (by omega : 0 ≤ (k : Int) ∧ (k : Int) < N)] at c
    exact c
  · have c := equal_c v u _ _ w hv hu hlen hlen
    rw [decide_eq_true rfl] at c
    exact c
end Go.Proofs.YtpegkcmomkdoeaaDoor
