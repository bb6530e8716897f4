/- The program's Text: its contract. -/
import Derived.Test.YtgckfiadnmjonabGreatDoorHRes3
import Derived.Test.YtgckfiadnmjonabGreatDoorL0b
import Derived.Test.YtgckfiadnmjonabGreatDoorL0a
import Derived.Laws.AppendOwn
namespace Go.Proofs.YtgckfiadnmjonabGreatDoor
open Go.RowKit
set_option linter.unusedVariables false
set_option linter.unusedSimpArgs false
theorem str_info : (Tryz.prog.info? 9).map (fun i => (i.zero, i.size, i.bytes)) = some (some (.string ⟨#[]⟩), 1, 16) := by kernel_rfl
theorem str_src1 (W : World) (c : ByteArray) : ∀ (j : Nat) (v : Value), ([.string c] : List Value)[j]? = some v → (W.alloc (.cells #[.string c] 9)).cell? ((⟨W.heap.size, 0, none⟩ : Addr).add j) = some v := by
  intro j v hj
  match j, hj with
  | 0, hj => simp at hj; subst hj; simp [Addr.add]
theorem str_src2 (W : World) (c d : ByteArray) : ∀ (j : Nat) (v : Value), ([.string c, .string d] : List Value)[j]? = some v → (W.alloc (.cells #[.string c, .string d] 9)).cell? ((⟨W.heap.size, 0, none⟩ : Addr).add j) = some v := by
  intro j v hj
  match j, hj with
  | 0, hj => simp at hj; subst hj; simp [Addr.add]
  | 1, hj => simp at hj; subst hj; simp [Addr.add]
theorem join_len (l : List ByteArray) (h0 : l.length ≤ 10) (h : ∀ x ∈ l, x.size ≤ 10000000) : (Lib.join (l.map (·.data.toList)) (⟨#[32]⟩ : ByteArray).data.toList).length ≤ 140737488355328 := by
  have key : ∀ (m : List (List UInt8)), (∀ x ∈ m, x.length ≤ 10000000) → (Lib.join m [32]).length ≤ m.length * 10000001 := by
    intro m
    induction m with
    | nil => intro _; simp [Lib.join, List.intercalate]
    | cons x m ih =>
      intro hm
      have h1 := hm x (by simp)
      have h2 := ih (fun y hy => hm y (by simp [hy]))
      cases m with
      | nil => simp [Lib.join, List.intercalate]; omega
      | cons y m =>
        rw [show Lib.join (x :: y :: m) [32] = x ++ 32 :: Lib.join (y :: m) [32] by simp [Lib.join, List.intercalate]]
        simp only [List.length_append, List.length_cons] at *
        omega
  have := key (l.map (·.data.toList)) (by intro x hx; obtain ⟨y, hy, rfl⟩ := List.mem_map.1 hx; rw [len_bytes]; exact h y hy)
  rw [List.length_map] at this
  show (Lib.join _ [32]).length ≤ _
  omega
theorem join3_len (a b c : ByteArray) (h : a.size ≤ 1000 ∧ b.size ≤ 1000 ∧ c.size ≤ 10000000) : (Lib.join ([a, b, c].map (·.data.toList)) [32]).length ≤ 140737488355328 := by
  simp [Lib.join, List.intercalate]
  omega
def OwnsS (base : Nat) (W : World) (v : Value) (l : List ByteArray) : Prop := W.ownsRow base 9 1 v l.length (l.map Value.string)
theorem OwnsS.on {b : Nat} {W W' : World} {v : Value} {l : List ByteArray} (h : OwnsS b W v l) (hb : Below W.heap.size W W') : OwnsS b W' v l := by
  refine ⟨h.1, ?_⟩
  rcases h.2 with h0 | ⟨g, cap, cur, h1, h2, h3, h4⟩
  · exact .inl h0
  · exact .inr ⟨g, cap, cur, h1, h2, (hb.block g (Array.getElem?_eq_some_iff.1 h3).1).trans h3, h4⟩
theorem OwnsS.new (W : World) (l : List ByteArray) (h0 : l.length ≤ 1000) : OwnsS W.heap.size (W.alloc (.cells (l.map Value.string).toArray 9)) (.slice (some ⟨W.heap.size, 0, none⟩) l.length l.length) l := by
  refine ⟨by simp, .inr ⟨W.heap.size, l.length, (l.map Value.string).toArray, rfl, Nat.le_refl _, ?_, Nat.le_refl _, by unfold maxLen; omega, by simp, by rw [List.take_of_length_le (by simp)]⟩⟩
  exact (Row.new (W := W) (cs := (l.map Value.string).toArray) (t := 9)).eq
theorem OwnsS.cell {b : Nat} {W : World} {v : Value} {l : List ByteArray} (h : OwnsS b W v l) (h0 : l ≠ []) : ∃ g c, v = .slice (some ⟨g, 0, none⟩) l.length c ∧ g < W.heap.size ∧ l.length ≤ c ∧ ∀ (j : Nat) x, l[j]? = some x → W.cell? ⟨g, 0 + j, none⟩ = some (.string x) := by
  rcases h.2 with ⟨_, hz⟩ | ⟨g, cap, cur, rfl, h2, h3, h4, h5, h6, h7⟩
  · exact absurd (List.eq_nil_of_length_eq_zero hz) h0
  · refine ⟨g, cap, rfl, (Array.getElem?_eq_some_iff.1 h3).1, h4, fun j x hj => ?_⟩
    have hl : j < l.length := (List.getElem?_eq_some_iff.1 hj).1
    have e : W.cell? ⟨g, 0 + j, none⟩ = cur[j]? := by simp [World.cell?, h3]
    rw [e]
    have h8 : (cur.toList.take (l.length * 1))[j]? = cur.toList[j]? := by rw [List.getElem?_take]; rw [if_pos (by omega)]
    rw [h7] at h8
    rw [← Array.getElem?_toList, ← h8]
    simp [hj]

set_option maxHeartbeats 8000000 in
set_option maxRecDepth 20000 in
theorem text_1 (k i g st wy tr nx : Int) (tag nm : ByteArray) (O Q : ByteArray) (w : World) (hE : Env w) (hsz : O.size ≤ 1000 ∧ nm.size ≤ 1000 ∧ Q.size ≤ 10000000)
    (hix : ∀ w, (Instr.index 62 shapesV (.int .i64 st)).run Tryz.prog w = .ok (.agg #[.string nm, .int .i64 0, .bool false]) w)
    (c1 : ∀ w, Ret 13 #[rV k i g st wy tr nx tag] w (.int .i64 0))
    (c2 : ∀ w, Env w → Ret 23 #[.agg #[.int .i64 k, .int .i64 i, .int .u32 g]] w (.tuple #[.string O, .int .i64 0]))
    (c3 : ∀ w, Ret 24 #[.string tag] w (.tuple #[.string Q, .int .i64 0])) :
    Ret 12 #[rV k i g st wy tr nx tag] w (.tuple #[.string ⟨(Lib.join [O.data.toList, nm.data.toList, Q.data.toList] [32]).toArray⟩, .int .i64 0]) := by
  have C1 := Lib.hid c1
  have C2 := Lib.hid c2
  have C3 := Lib.hid c3
  have HE := Lib.hid hE
  obtain ⟨i0, hi, hz0, hz1, hz2⟩ := info_parts str_info
  have HI0 := Lib.hid hi
  have HZ0 := Lib.hid hz0
  have HZ1 := Lib.hid hz1
  have HZ2 := Lib.hid hz2
  clear c1 c2 c3 hE hi hz0 hz1 hz2
  go_enter Tryz.func12, Tryz.ntmps12
  go_wp2_with fail
  have r1 := Row.new (W := w) (cs := (rC k i g st wy tr nx tag)) (t := 27)
  have hc := (Below.refl w.heap.size w).alloc (Nat.le_refl _) (.cells (rC k i g st wy tr nx tag) 27)
  generalize w.alloc (.cells (rC k i g st wy tr nx tag) 27) = W at *
  generalize hp1 : w.heap.size = p1 at r1
  refine Calls.mono (C1.out _) ?_
  rintro e w1 ⟨rfl, hb⟩
  replace r1 := r1.on hb
  replace hc := chain hc hb
  clear hb
  have y0 := r1.cell
  have y1 := r1.lt
  go_wp2_with fail
  clear y0 y1
  refine Calls.mono (C2.out _ (HE.out.on hc)) ?_
  rintro e w2 ⟨rfl, hb⟩
  replace r1 := r1.on hb
  replace hc := chain hc hb
  clear hb
  have y0 := r1.cell
  have y1 := r1.lt
  go_wp2_with fail
  clear y0 y1
  refine Calls.mono (C3.out _) ?_
  rintro e w3 ⟨rfl, hb⟩
  replace r1 := r1.on hb
  replace hc := chain hc hb
  clear hb
  have y0 := r1.cell
  have y1 := r1.lt
  go_wp2_with fail
  clear y0 y1
  go_cut [8] (fun v wx => ∃ x2, v = .pointer (some ⟨x2, 0, none⟩) ∧ Row wx p1 (rC k i g st wy tr nx tag) 27 ∧ Row wx x2 #[.string nm, .int .i64 0, .bool false] 61 ∧ Below w.heap.size w wx)
  case first =>
    refine wp_region_held_drew (S := fun W' => (∀ j, W'.cell? ⟨p1, j, none⟩ = (rC k i g st wy tr nx tag)[j]?)) (by kernel_rfl) r1.cell (fun hHeld => ?_)
    replace r1 := r1.drew
    replace hc := hc.drew
    generalize w3.drew = X_0 at *
    refine' wpAnyH_take (i := 1) (oi := _) (v := _) ?_ (by kernel_rfl) (by kernel_rfl) (by kernel_rfl) ?_ (Or.inl ⟨?_, ?_⟩) (by assumption) ?_
    rotate_left 2
    · (simp only [List.getElem?_toArray, List.getElem?_cons_succ, List.getElem?_cons_zero]; rfl)
    · first | exact fun _ _ _ h => h | exact fun _ _ _ h => nomatch h.1
    · rfl
    · (intro W hSW; (try dsimp only at hSW); go_split_ands; first | (go_simp; done) | (go_simp; with_reducible rfl))
    try simp only [Act.put, List.setIfInBounds_toArray, List.set_cons_zero, List.set_cons_succ]
    refine' wpAnyH_take (i := 2) (oi := _) (v := _) ?_ (by kernel_rfl) (by kernel_rfl) (by kernel_rfl) ?_ (Or.inl ⟨?_, ?_⟩) (by assumption) ?_
    rotate_left 2
    · (simp only [List.getElem?_toArray, List.getElem?_cons_succ, List.getElem?_cons_zero]; rfl)
    · first | exact fun _ _ _ h => h | exact fun _ _ _ h => nomatch h.1
    · rfl
    · (intro W hSW; (try dsimp only at hSW); go_split_ands; first | (go_simp; done) | (go_simp; with_reducible rfl))
    try simp only [Act.put, List.setIfInBounds_toArray, List.set_cons_zero, List.set_cons_succ]
    clear hHeld
    refine wpAnyH_ready (rs := [0, 4]) (by kernel_rfl) (by simp) ?_
    refine' AllReadyH.cons (o := _) (by simp only [List.getElem?_toArray, List.getElem?_cons_succ, List.getElem?_cons_zero]; rfl) (fun K hK => ?_) (AllReadyH.cons (o := _) (by simp only [List.getElem?_toArray, List.getElem?_cons_succ, List.getElem?_cons_zero]; rfl) (fun K hK => ?_) AllReadyH.nil)
    · go_simp
      refine Calls.mono (shapes_c _) ?_
      rintro e X_1 ⟨rfl, hn⟩
      replace r1 := r1.on hn
      replace hc := chain hc hn
      clear hn
      go_simp
      refine hK.out _ _ r1.cell (fun hHeld => ?_)
      clear hK K
      refine' wpAnyH_take (i := 3) (oi := _) (v := _) ?_ (by kernel_rfl) (by kernel_rfl) (by kernel_rfl) ?_ (Or.inl ⟨?_, ?_⟩) (by assumption) ?_
      rotate_left 2
      · (simp only [List.getElem?_toArray, List.getElem?_cons_succ, List.getElem?_cons_zero]; rfl)
      · first | exact fun _ _ _ h => h | exact fun _ _ _ h => nomatch h.1
      · rfl
      · (intro W hSW; (try dsimp only at hSW); go_split_ands; first | (go_simp; done) | (go_simp; with_reducible rfl))
      try simp only [Act.put, List.setIfInBounds_toArray, List.set_cons_zero, List.set_cons_succ]
      clear hHeld
      refine wpAnyH_ready (rs := [4]) (by kernel_rfl) (by simp) ?_
      refine' AllReadyH.cons (o := _) ?_ (fun K hK => ?_) AllReadyH.nil
      rotate_left 1
      · (simp only [List.getElem?_toArray, List.getElem?_cons_succ, List.getElem?_cons_zero]; rfl)
      go_simp
      have hn := below_alloc X_1 (.cells #[.string ⟨#[]⟩, .int .i64 0, .bool false] 61)
      have r2 := Row.new (W := X_1) (cs := #[.string ⟨#[]⟩, .int .i64 0, .bool false]) (t := 61)
      have hxy : X_1.heap.size ≠ p1 := Nat.ne_of_gt r1.lt
      have hx2 : w.heap.size ≤ X_1.heap.size := hc.size
      replace r1 := r1.on hn
      replace hc := chain hc hn
      clear hn
      generalize X_1.alloc (.cells #[.string ⟨#[]⟩, .int .i64 0, .bool false] 61) = X_2 at *
      generalize X_1.heap.size = x2 at *
      refine hK.out _ _ r1.cell (fun _ => ?_)
      clear hK K
      have y0 := r2.cell
      have y1 := r2.free
      have y2 := r2.lt
      refine wpAnyH_ready (rs := [5]) (by kernel_rfl) (by simp) ?_
      refine' AllReadyH.cons (o := _) ?_ (fun K hK => ?_) AllReadyH.nil
      rotate_left 1
      · (simp only [List.getElem?_toArray, List.getElem?_cons_succ, List.getElem?_cons_zero]; rfl)
      go_simp
      clear y0 y1 y2
      replace r1 := ((r1.other hxy 0 (.string nm)).other hxy 1 (.int .i64 0)).other hxy 2 (.bool false)
      replace r2 := ((r2.set 0 (.string nm)).set 1 (.int .i64 0)).set 2 (.bool false)
      replace hc := ((hc.setCell (p := ⟨x2, 0, none⟩) hx2 (.string nm)).setCell (p := ⟨x2, 1, none⟩) hx2 (.int .i64 0)).setCell (p := ⟨x2, 2, none⟩) hx2 (.bool false)
      simp only [List.setIfInBounds_toArray, List.set_cons_zero, List.set_cons_succ] at r2
      generalize hW : World.setCell _ _ _ = V at *
      clear hW
      refine hK.out _ _ r1.cell (fun _ => ?_)
      clear hK K
      refine wpAnyH_done (by kernel_rfl) ?_ _
      go_wp2_with fail
      go_meet
      exact ⟨_, rfl, r1, r2, hc⟩
    · go_simp
      have hn := below_alloc X_0 (.cells #[.string ⟨#[]⟩, .int .i64 0, .bool false] 61)
      have r2 := Row.new (W := X_0) (cs := #[.string ⟨#[]⟩, .int .i64 0, .bool false]) (t := 61)
      have hxy : X_0.heap.size ≠ p1 := Nat.ne_of_gt r1.lt
      have hx2 : w.heap.size ≤ X_0.heap.size := hc.size
      replace r1 := r1.on hn
      replace hc := chain hc hn
      clear hn
      generalize X_0.alloc (.cells #[.string ⟨#[]⟩, .int .i64 0, .bool false] 61) = X_2 at *
      generalize X_0.heap.size = x2 at *
      refine hK.out _ _ r1.cell (fun _ => ?_)
      clear hK K
      refine wpAnyH_ready (rs := [0]) (by kernel_rfl) (by simp) ?_
      refine' AllReadyH.cons (o := _) ?_ (fun K hK => ?_) AllReadyH.nil
      rotate_left 1
      · (simp only [List.getElem?_toArray, List.getElem?_cons_succ, List.getElem?_cons_zero]; rfl)
      go_simp
      refine Calls.mono (shapes_c _) ?_
      rintro e X_3 ⟨rfl, hn⟩
      replace r1 := r1.on hn
      replace r2 := r2.on hn
      replace hc := chain hc hn
      clear hn
      go_simp
      refine hK.out _ _ r1.cell (fun _ => ?_)
      clear hK K
      refine' wpAnyH_take (i := 3) (oi := _) (v := _) ?_ (by kernel_rfl) (by kernel_rfl) (by kernel_rfl) ?_ (Or.inl ⟨?_, ?_⟩) (by assumption) ?_
      rotate_left 2
      · (simp only [List.getElem?_toArray, List.getElem?_cons_succ, List.getElem?_cons_zero]; rfl)
      · first | exact fun _ _ _ h => h | exact fun _ _ _ h => nomatch h.1
      · rfl
      · (intro W hSW; (try dsimp only at hSW); go_split_ands; first | (go_simp; done) | (go_simp; with_reducible rfl))
      try simp only [Act.put, List.setIfInBounds_toArray, List.set_cons_zero, List.set_cons_succ]
      have y0 := r2.cell
      have y1 := r2.free
      have y2 := r2.lt
      refine wpAnyH_ready (rs := [5]) (by kernel_rfl) (by simp) ?_
      refine' AllReadyH.cons (o := _) ?_ (fun K hK => ?_) AllReadyH.nil
      rotate_left 1
      · (simp only [List.getElem?_toArray, List.getElem?_cons_succ, List.getElem?_cons_zero]; rfl)
      go_simp
      clear y0 y1 y2
      replace r1 := ((r1.other hxy 0 (.string nm)).other hxy 1 (.int .i64 0)).other hxy 2 (.bool false)
      replace r2 := ((r2.set 0 (.string nm)).set 1 (.int .i64 0)).set 2 (.bool false)
      replace hc := ((hc.setCell (p := ⟨x2, 0, none⟩) hx2 (.string nm)).setCell (p := ⟨x2, 1, none⟩) hx2 (.int .i64 0)).setCell (p := ⟨x2, 2, none⟩) hx2 (.bool false)
      simp only [List.setIfInBounds_toArray, List.set_cons_zero, List.set_cons_succ] at r2
      generalize hW : World.setCell _ _ _ = V at *
      clear hW
      refine hK.out _ _ r1.cell (fun _ => ?_)
      clear hK K
      refine wpAnyH_done (by kernel_rfl) ?_ _
      go_wp2_with fail
      go_meet
      exact ⟨_, rfl, r1, r2, hc⟩
  case rest =>
    clear r1 hc
    obtain ⟨x2, rfl, r1, r2, hc⟩ := hcut
    have y0 := r1.cell
    have y1 := r1.lt
    have y2 := r2.cell
    have y3 := r2.lt
    go_upto_region 16 with fail
    clear y0 y1 y2 y3 r1 r2
    have h0 : OwnsS wc.heap.size (wc.alloc (.cells #[.string O, .string nm] 9)) (.slice (some ⟨wc.heap.size, 0, none⟩) 2 2) [O, nm] := OwnsS.new wc [O, nm] (by simp)
    have hB : w.heap.size ≤ wc.heap.size := hc.size
    have hc2 := hc.alloc hc.size (.cells #[.string O, .string nm] 9)
    have hB2 : wc.heap.size ≤ (wc.alloc (.cells #[.string O, .string nm] 9)).heap.size := by simp
    generalize wc.alloc (.cells #[.string O, .string nm] 9) = Y0 at *
    have Q1 := Lib.hid (h0.on (below_alloc Y0 (.cells #[.string Q] 9)))
    have HSRC := Lib.hid (str_src1 Y0 Q)
    have HC := Lib.hid (hc2.alloc hc2.size (.cells #[.string Q] 9))
    clear h0 hc2 hc
    generalize wc.heap.size = B at *
    go_wp2_with (at_builtin; refine wpList_append_own _ rfl _ _ 49 rfl B 9 i0 (.string ⟨#[]⟩) 1 16 Tryz.underlying49 HI0.out HZ0.out HZ1.out HZ2.out rfl (by decide) _ _ _ rfl Q1.out ⟨Y0.heap.size, 0, none⟩ 1 1 [.string Q] rfl rfl HSRC.out (by intro u hu; simp at hu; subst hu; rfl) (by unfold maxLen; simp) (by simp) (by simp; omega) ?_)
    intro v2 w9 hown' hgrow hnil
    have hlo : ∀ k, _ = some k → B ≤ k := fun k hk => (World.ownsRow.lt Q1.out k hk).1
    have hc9 := HC.out.grown hgrow (by simp; omega) (fun k hk => Nat.le_trans hB (hlo k hk))
    have ho9 : OwnsS B w9 v2 [O, nm, Q] := hown'
    obtain ⟨gg, cc, rfl, hg1, hg2, hg3⟩ := ho9.cell (by simp)
    have hj := Tryz.strings_Join gg 0 cc [O, nm, Q] ⟨#[32]⟩ w9 hg3 hg1 (by simp) hg2 (join3_len O nm Q ⟨hsz.1, hsz.2.1, hsz.2.2⟩)
    have HJ := Lib.hid hj
    clear hown' hgrow hnil hj ho9 hg3
    go_wp2_with fail
    refine Calls.mono HJ.out ?_
    rintro e w10 ⟨rfl, hb⟩
    have hc10 := chain hc9 hb
    go_wp2_with fail
    go_returns
    exact ⟨rfl, by first | exact hc10 | (rw [← hp1]; exact hc10)⟩

set_option maxHeartbeats 8000000 in
set_option maxRecDepth 20000 in
theorem text_3 (k i g st wy tr nx : Int) (tag nm : ByteArray) (O Q : ByteArray) (R D : ByteArray) (w : World) (hE : Env w) (hsz : O.size ≤ 1000 ∧ nm.size ≤ 1000 ∧ Q.size ≤ 10000000)
    (hix : ∀ w, (Instr.index 62 shapesV (.int .i64 st)).run Tryz.prog w = .ok (.agg #[.string nm, .int .i64 3, .bool false]) w)
    (c1 : ∀ w, Ret 13 #[rV k i g st wy tr nx tag] w (.int .i64 0))
    (c2 : ∀ w, Env w → Ret 23 #[.agg #[.int .i64 k, .int .i64 i, .int .u32 g]] w (.tuple #[.string O, .int .i64 0]))
    (c3 : ∀ w, Ret 24 #[.string tag] w (.tuple #[.string Q, .int .i64 0])) (hrx : ∀ w, (Instr.index 64 reasonsV (.int .i64 wy)).run Tryz.prog w = .ok (.string R) w) (c4 : ∀ w, Env w → Ret 27 #[.int .i64 tr] w (.string D)) (hs2 : R.size ≤ 1000 ∧ D.size ≤ 1000) :
    Ret 12 #[rV k i g st wy tr nx tag] w (.tuple #[.string ⟨(Lib.join [O.data.toList, nm.data.toList, R.data.toList, D.data.toList, Q.data.toList] [32]).toArray⟩, .int .i64 0]) := by
  have C4 := Lib.hid c4
  clear c4
  have C1 := Lib.hid c1
  have C2 := Lib.hid c2
  have C3 := Lib.hid c3
  have HE := Lib.hid hE
  obtain ⟨i0, hi, hz0, hz1, hz2⟩ := info_parts str_info
  have HI0 := Lib.hid hi
  have HZ0 := Lib.hid hz0
  have HZ1 := Lib.hid hz1
  have HZ2 := Lib.hid hz2
  clear c1 c2 c3 hE hi hz0 hz1 hz2
  go_enter Tryz.func12, Tryz.ntmps12
  go_wp2_with fail
  have r1 := Row.new (W := w) (cs := (rC k i g st wy tr nx tag)) (t := 27)
  have hc := (Below.refl w.heap.size w).alloc (Nat.le_refl _) (.cells (rC k i g st wy tr nx tag) 27)
  generalize w.alloc (.cells (rC k i g st wy tr nx tag) 27) = W at *
  generalize hp1 : w.heap.size = p1 at r1
  refine Calls.mono (C1.out _) ?_
  rintro e w1 ⟨rfl, hb⟩
  replace r1 := r1.on hb
  replace hc := chain hc hb
  clear hb
  have y0 := r1.cell
  have y1 := r1.lt
  go_wp2_with fail
  clear y0 y1
  refine Calls.mono (C2.out _ (HE.out.on hc)) ?_
  rintro e w2 ⟨rfl, hb⟩
  replace r1 := r1.on hb
  replace hc := chain hc hb
  clear hb
  have y0 := r1.cell
  have y1 := r1.lt
  go_wp2_with fail
  clear y0 y1
  refine Calls.mono (C3.out _) ?_
  rintro e w3 ⟨rfl, hb⟩
  replace r1 := r1.on hb
  replace hc := chain hc hb
  clear hb
  have y0 := r1.cell
  have y1 := r1.lt
  go_wp2_with fail
  clear y0 y1
  go_cut [8] (fun v wx => ∃ x2, v = .pointer (some ⟨x2, 0, none⟩) ∧ Row wx p1 (rC k i g st wy tr nx tag) 27 ∧ Row wx x2 #[.string nm, .int .i64 3, .bool false] 61 ∧ Below w.heap.size w wx)
  case first =>
    refine wp_region_held_drew (S := fun W' => (∀ j, W'.cell? ⟨p1, j, none⟩ = (rC k i g st wy tr nx tag)[j]?)) (by kernel_rfl) r1.cell (fun hHeld => ?_)
    replace r1 := r1.drew
    replace hc := hc.drew
    generalize w3.drew = X_0 at *
    refine' wpAnyH_take (i := 1) (oi := _) (v := _) ?_ (by kernel_rfl) (by kernel_rfl) (by kernel_rfl) ?_ (Or.inl ⟨?_, ?_⟩) (by assumption) ?_
    rotate_left 2
    · (simp only [List.getElem?_toArray, List.getElem?_cons_succ, List.getElem?_cons_zero]; rfl)
    · first | exact fun _ _ _ h => h | exact fun _ _ _ h => nomatch h.1
    · rfl
    · (intro W hSW; (try dsimp only at hSW); go_split_ands; first | (go_simp; done) | (go_simp; with_reducible rfl))
    try simp only [Act.put, List.setIfInBounds_toArray, List.set_cons_zero, List.set_cons_succ]
    refine' wpAnyH_take (i := 2) (oi := _) (v := _) ?_ (by kernel_rfl) (by kernel_rfl) (by kernel_rfl) ?_ (Or.inl ⟨?_, ?_⟩) (by assumption) ?_
    rotate_left 2
    · (simp only [List.getElem?_toArray, List.getElem?_cons_succ, List.getElem?_cons_zero]; rfl)
    · first | exact fun _ _ _ h => h | exact fun _ _ _ h => nomatch h.1
    · rfl
    · (intro W hSW; (try dsimp only at hSW); go_split_ands; first | (go_simp; done) | (go_simp; with_reducible rfl))
    try simp only [Act.put, List.setIfInBounds_toArray, List.set_cons_zero, List.set_cons_succ]
    clear hHeld
    refine wpAnyH_ready (rs := [0, 4]) (by kernel_rfl) (by simp) ?_
    refine' AllReadyH.cons (o := _) (by simp only [List.getElem?_toArray, List.getElem?_cons_succ, List.getElem?_cons_zero]; rfl) (fun K hK => ?_) (AllReadyH.cons (o := _) (by simp only [List.getElem?_toArray, List.getElem?_cons_succ, List.getElem?_cons_zero]; rfl) (fun K hK => ?_) AllReadyH.nil)
    · go_simp
      refine Calls.mono (shapes_c _) ?_
      rintro e X_1 ⟨rfl, hn⟩
      replace r1 := r1.on hn
      replace hc := chain hc hn
      clear hn
      go_simp
      refine hK.out _ _ r1.cell (fun hHeld => ?_)
      clear hK K
      refine' wpAnyH_take (i := 3) (oi := _) (v := _) ?_ (by kernel_rfl) (by kernel_rfl) (by kernel_rfl) ?_ (Or.inl ⟨?_, ?_⟩) (by assumption) ?_
      rotate_left 2
      · (simp only [List.getElem?_toArray, List.getElem?_cons_succ, List.getElem?_cons_zero]; rfl)
      · first | exact fun _ _ _ h => h | exact fun _ _ _ h => nomatch h.1
      · rfl
      · (intro W hSW; (try dsimp only at hSW); go_split_ands; first | (go_simp; done) | (go_simp; with_reducible rfl))
      try simp only [Act.put, List.setIfInBounds_toArray, List.set_cons_zero, List.set_cons_succ]
      clear hHeld
      refine wpAnyH_ready (rs := [4]) (by kernel_rfl) (by simp) ?_
      refine' AllReadyH.cons (o := _) ?_ (fun K hK => ?_) AllReadyH.nil
      rotate_left 1
      · (simp only [List.getElem?_toArray, List.getElem?_cons_succ, List.getElem?_cons_zero]; rfl)
      go_simp
      have hn := below_alloc X_1 (.cells #[.string ⟨#[]⟩, .int .i64 0, .bool false] 61)
      have r2 := Row.new (W := X_1) (cs := #[.string ⟨#[]⟩, .int .i64 0, .bool false]) (t := 61)
      have hxy : X_1.heap.size ≠ p1 := Nat.ne_of_gt r1.lt
      have hx2 : w.heap.size ≤ X_1.heap.size := hc.size
      replace r1 := r1.on hn
      replace hc := chain hc hn
      clear hn
      generalize X_1.alloc (.cells #[.string ⟨#[]⟩, .int .i64 0, .bool false] 61) = X_2 at *
      generalize X_1.heap.size = x2 at *
      refine hK.out _ _ r1.cell (fun _ => ?_)
      clear hK K
      have y0 := r2.cell
      have y1 := r2.free
      have y2 := r2.lt
      refine wpAnyH_ready (rs := [5]) (by kernel_rfl) (by simp) ?_
      refine' AllReadyH.cons (o := _) ?_ (fun K hK => ?_) AllReadyH.nil
      rotate_left 1
      · (simp only [List.getElem?_toArray, List.getElem?_cons_succ, List.getElem?_cons_zero]; rfl)
      go_simp
      clear y0 y1 y2
      replace r1 := ((r1.other hxy 0 (.string nm)).other hxy 1 (.int .i64 3)).other hxy 2 (.bool false)
      replace r2 := ((r2.set 0 (.string nm)).set 1 (.int .i64 3)).set 2 (.bool false)
      replace hc := ((hc.setCell (p := ⟨x2, 0, none⟩) hx2 (.string nm)).setCell (p := ⟨x2, 1, none⟩) hx2 (.int .i64 3)).setCell (p := ⟨x2, 2, none⟩) hx2 (.bool false)
      simp only [List.setIfInBounds_toArray, List.set_cons_zero, List.set_cons_succ] at r2
      generalize hW : World.setCell _ _ _ = V at *
      clear hW
      refine hK.out _ _ r1.cell (fun _ => ?_)
      clear hK K
      refine wpAnyH_done (by kernel_rfl) ?_ _
      go_wp2_with fail
      go_meet
      exact ⟨_, rfl, r1, r2, hc⟩
    · go_simp
      have hn := below_alloc X_0 (.cells #[.string ⟨#[]⟩, .int .i64 0, .bool false] 61)
      have r2 := Row.new (W := X_0) (cs := #[.string ⟨#[]⟩, .int .i64 0, .bool false]) (t := 61)
      have hxy : X_0.heap.size ≠ p1 := Nat.ne_of_gt r1.lt
      have hx2 : w.heap.size ≤ X_0.heap.size := hc.size
      replace r1 := r1.on hn
      replace hc := chain hc hn
      clear hn
      generalize X_0.alloc (.cells #[.string ⟨#[]⟩, .int .i64 0, .bool false] 61) = X_2 at *
      generalize X_0.heap.size = x2 at *
      refine hK.out _ _ r1.cell (fun _ => ?_)
      clear hK K
      refine wpAnyH_ready (rs := [0]) (by kernel_rfl) (by simp) ?_
      refine' AllReadyH.cons (o := _) ?_ (fun K hK => ?_) AllReadyH.nil
      rotate_left 1
      · (simp only [List.getElem?_toArray, List.getElem?_cons_succ, List.getElem?_cons_zero]; rfl)
      go_simp
      refine Calls.mono (shapes_c _) ?_
      rintro e X_3 ⟨rfl, hn⟩
      replace r1 := r1.on hn
      replace r2 := r2.on hn
      replace hc := chain hc hn
      clear hn
      go_simp
      refine hK.out _ _ r1.cell (fun _ => ?_)
      clear hK K
      refine' wpAnyH_take (i := 3) (oi := _) (v := _) ?_ (by kernel_rfl) (by kernel_rfl) (by kernel_rfl) ?_ (Or.inl ⟨?_, ?_⟩) (by assumption) ?_
      rotate_left 2
      · (simp only [List.getElem?_toArray, List.getElem?_cons_succ, List.getElem?_cons_zero]; rfl)
      · first | exact fun _ _ _ h => h | exact fun _ _ _ h => nomatch h.1
      · rfl
      · (intro W hSW; (try dsimp only at hSW); go_split_ands; first | (go_simp; done) | (go_simp; with_reducible rfl))
      try simp only [Act.put, List.setIfInBounds_toArray, List.set_cons_zero, List.set_cons_succ]
      have y0 := r2.cell
      have y1 := r2.free
      have y2 := r2.lt
      refine wpAnyH_ready (rs := [5]) (by kernel_rfl) (by simp) ?_
      refine' AllReadyH.cons (o := _) ?_ (fun K hK => ?_) AllReadyH.nil
      rotate_left 1
      · (simp only [List.getElem?_toArray, List.getElem?_cons_succ, List.getElem?_cons_zero]; rfl)
      go_simp
      clear y0 y1 y2
      replace r1 := ((r1.other hxy 0 (.string nm)).other hxy 1 (.int .i64 3)).other hxy 2 (.bool false)
      replace r2 := ((r2.set 0 (.string nm)).set 1 (.int .i64 3)).set 2 (.bool false)
      replace hc := ((hc.setCell (p := ⟨x2, 0, none⟩) hx2 (.string nm)).setCell (p := ⟨x2, 1, none⟩) hx2 (.int .i64 3)).setCell (p := ⟨x2, 2, none⟩) hx2 (.bool false)
      simp only [List.setIfInBounds_toArray, List.set_cons_zero, List.set_cons_succ] at r2
      generalize hW : World.setCell _ _ _ = V at *
      clear hW
      refine hK.out _ _ r1.cell (fun _ => ?_)
      clear hK K
      refine wpAnyH_done (by kernel_rfl) ?_ _
      go_wp2_with fail
      go_meet
      exact ⟨_, rfl, r1, r2, hc⟩
  case rest =>
    clear r1 hc
    obtain ⟨x2, rfl, r1, r2, hc⟩ := hcut
    have y0 := r1.cell
    have y1 := r1.lt
    have y2 := r2.cell
    have y3 := r2.lt
    go_upto_region 13 with fail
    clear y0 y1 y2 y3
    have hn := below_alloc wc (.cells #[.string O, .string nm] 9)
    have q0 : OwnsS wc.heap.size (wc.alloc (.cells #[.string O, .string nm] 9)) (.slice (some ⟨wc.heap.size, 0, none⟩) 2 2) [O, nm] := OwnsS.new wc [O, nm] (by simp)
    have hB : w.heap.size ≤ wc.heap.size := hc.size
    have hx1 : p1 < wc.heap.size := r1.lt
    have hx2 : x2 < wc.heap.size := r2.lt
    replace r1 := r1.on hn
    replace r2 := r2.on hn
    replace hc := chain hc hn
    have hB2 : wc.heap.size ≤ (wc.alloc (.cells #[.string O, .string nm] 9)).heap.size := hn.size
    clear hn
    generalize wc.alloc (.cells #[.string O, .string nm] 9) = Y0 at *
    generalize wc.heap.size = B at *
    go_cut [9] (fun v wx => Row wx p1 (rC k i g st wy tr nx tag) 27 ∧ Row wx x2 #[.string nm, .int .i64 3, .bool false] 61 ∧ OwnsS B wx v [O, nm, R, D] ∧ Below w.heap.size w wx ∧ B ≤ wx.heap.size)
    case first =>
      refine wp_region_held_drew (S := fun W' => (∀ j, W'.cell? ⟨p1, j, none⟩ = (rC k i g st wy tr nx tag)[j]?)) (by kernel_rfl) r1.cell (fun hHeld => ?_)
      replace r1 := r1.drew
      replace r2 := r2.drew
      replace q0 : OwnsS B Y0.drew _ _ := q0
      replace hc := hc.drew
      replace hB2 : B ≤ Y0.drew.heap.size := hB2
      generalize Y0.drew = Y1 at *
      refine' wpAnyH_take (i := 0) (oi := _) (v := _) ?_ (by kernel_rfl) (by kernel_rfl) (by kernel_rfl) ?_ (Or.inl ⟨?_, ?_⟩) (by assumption) ?_
      rotate_left 2
      · (simp only [List.getElem?_toArray, List.getElem?_cons_succ, List.getElem?_cons_zero]; rfl)
      · first | exact fun _ _ _ h => h | exact fun _ _ _ h => nomatch h.1
      · rfl
      · (intro W hSW; (try dsimp only at hSW); go_split_ands; first | (go_simp; done) | (go_simp; with_reducible rfl))
      try simp only [Act.put, List.setIfInBounds_toArray, List.set_cons_zero, List.set_cons_succ]
      refine' wpAnyH_take (i := 2) (oi := _) (v := _) ?_ (by kernel_rfl) (by kernel_rfl) (by kernel_rfl) ?_ (Or.inl ⟨?_, ?_⟩) (by assumption) ?_
      rotate_left 2
      · (simp only [List.getElem?_toArray, List.getElem?_cons_succ, List.getElem?_cons_zero]; rfl)
      · first | exact fun _ _ _ h => h | exact fun _ _ _ h => nomatch h.1
      · rfl
      · (intro W hSW; (try dsimp only at hSW); go_split_ands; first | (go_simp; done) | (go_simp; with_reducible rfl))
      try simp only [Act.put, List.setIfInBounds_toArray, List.set_cons_zero, List.set_cons_succ]
      refine' wpAnyH_take (i := 3) (oi := _) (v := _) ?_ (by kernel_rfl) (by kernel_rfl) (by kernel_rfl) ?_ (Or.inl ⟨?_, ?_⟩) (by assumption) ?_
      rotate_left 2
      · (simp only [List.getElem?_toArray, List.getElem?_cons_succ, List.getElem?_cons_zero]; rfl)
      · first | exact fun _ _ _ h => h | exact fun _ _ _ h => nomatch h.1
      · rfl
      · (intro W hSW; (try dsimp only at hSW); go_split_ands; first | (go_simp; done) | (go_simp; with_reducible rfl))
      try simp only [Act.put, List.setIfInBounds_toArray, List.set_cons_zero, List.set_cons_succ]
      refine' wpAnyH_take (i := 5) (oi := _) (v := _) ?_ (by kernel_rfl) (by kernel_rfl) (by kernel_rfl) ?_ (Or.inl ⟨?_, ?_⟩) (by assumption) ?_
      rotate_left 2
      · (simp only [List.getElem?_toArray, List.getElem?_cons_succ, List.getElem?_cons_zero]; rfl)
      · first | exact fun _ _ _ h => h | exact fun _ _ _ h => nomatch h.1
      · rfl
      · (intro W hSW; (try dsimp only at hSW); go_split_ands; first | (go_simp; done) | (go_simp; with_reducible rfl))
      try simp only [Act.put, List.setIfInBounds_toArray, List.set_cons_zero, List.set_cons_succ]
      refine' wpAnyH_take (i := 6) (oi := _) (v := _) ?_ (by kernel_rfl) (by kernel_rfl) (by kernel_rfl) ?_ (Or.inl ⟨?_, ?_⟩) (by assumption) ?_
      rotate_left 2
      · (simp only [List.getElem?_toArray, List.getElem?_cons_succ, List.getElem?_cons_zero]; rfl)
      · first | exact fun _ _ _ h => h | exact fun _ _ _ h => nomatch h.1
      · rfl
      · (intro W hSW; (try dsimp only at hSW); go_split_ands; first | (go_simp; done) | (go_simp; with_reducible rfl))
      try simp only [Act.put, List.setIfInBounds_toArray, List.set_cons_zero, List.set_cons_succ]
      clear hHeld
      refine wpAnyH_ready (rs := [1]) (by kernel_rfl) (by simp) ?_
      refine' AllReadyH.cons (o := _) (by simp only [List.getElem?_toArray, List.getElem?_cons_succ, List.getElem?_cons_zero]; rfl) (fun K hK => ?_) AllReadyH.nil
      go_simp
      refine Calls.mono (reasons_c _) ?_
      rintro e Y2 ⟨rfl, hn⟩
      replace r1 := r1.on hn
      replace r2 := r2.on hn
      replace q0 := q0.on hn
      replace hc := chain hc hn
      replace hB2 : B ≤ Y2.heap.size := Nat.le_trans hB2 hn.size
      clear hn
      go_simp
      refine hK.out _ _ r1.cell (fun hHeld => ?_)
      clear hK K
      refine' wpAnyH_take (i := 4) (oi := _) (v := _) ?_ (by kernel_rfl) (by kernel_rfl) (by kernel_rfl) ?_ (Or.inl ⟨?_, ?_⟩) (by assumption) ?_
      rotate_left 2
      · (simp only [List.getElem?_toArray, List.getElem?_cons_succ, List.getElem?_cons_zero]; rfl)
      · first | exact fun _ _ _ h => h | exact fun _ _ _ h => nomatch h.1
      · rfl
      · (intro W hSW; (try dsimp only at hSW); go_split_ands; first | (go_simp; done) | (go_simp; with_reducible rfl))
      try simp only [Act.put, List.setIfInBounds_toArray, List.set_cons_zero, List.set_cons_succ]
      clear hHeld
      refine wpAnyH_ready (rs := [7]) (by kernel_rfl) (by simp) ?_
      refine' AllReadyH.cons (o := _) (by simp only [List.getElem?_toArray, List.getElem?_cons_succ, List.getElem?_cons_zero]; rfl) (fun K hK => ?_) AllReadyH.nil
      go_simp
      refine Calls.mono (C4.out _ (HE.out.on hc)) ?_
      rintro e Y3 ⟨rfl, hn⟩
      replace r1 := r1.on hn
      replace r2 := r2.on hn
      replace q0 := q0.on hn
      replace hc := chain hc hn
      replace hB2 : B ≤ Y3.heap.size := Nat.le_trans hB2 hn.size
      clear hn
      go_simp
      refine hK.out _ _ r1.cell (fun hHeld => ?_)
      clear hK K
      clear hHeld
      refine wpAnyH_ready (rs := [8]) (by kernel_rfl) (by simp) ?_
      refine' AllReadyH.cons (o := _) ?_ (fun K hK => ?_) AllReadyH.nil
      rotate_left 1
      · (simp only [List.getElem?_toArray, List.getElem?_cons_succ, List.getElem?_cons_zero]; rfl)
      go_simp
      have hn := below_alloc Y3 (.cells #[.string R, .string D] 9)
      have hsrc := str_src2 Y3 R D
      replace r1 := r1.on hn
      replace r2 := r2.on hn
      replace q0 := q0.on hn
      replace hc := chain hc hn
      replace hB2 := Nat.le_trans hB2 hn.size
      clear hn
      generalize Y3.alloc (.cells #[.string R, .string D] 9) = Z0 at *
      generalize Y3.heap.size = a2 at *
      refine hK.out _ _ r1.cell (fun _ => ?_)
      clear hK K
      refine wpAnyH_ready (rs := [9]) (by kernel_rfl) (by simp) ?_
      refine' AllReadyH.cons (o := _) (by simp only [List.getElem?_toArray, List.getElem?_cons_succ, List.getElem?_cons_zero]; rfl) (fun K hK => ?_) AllReadyH.nil
      obtain ⟨v9, w9, hr, hown', hgrow, hnil⟩ := run_append_own (P := Tryz.prog) (w := Z0) B 49 49 9 i0 (.string ⟨#[]⟩) 1 16 Tryz.underlying49 HI0.out HZ0.out HZ1.out HZ2.out rfl (by decide) _ _ _ q0 ⟨a2, 0, none⟩ 2 2 [.string R, .string D] rfl hsrc (by intro u hu; simp at hu; rcases hu with rfl | rfl <;> rfl) (by unfold maxLen; simp) (by simp) hB2
      rw [if_pos (by rfl)]
      unfold Oper.wp execOp
      simp only [resolve, invoke, builtin, Sem.run_bind, Sem.run_pure, Result.andThen_ok, List.map_toArray, List.map_cons, List.map_nil]
      show Oper.upon _ _ _ _ _ ((Sem.run _ (Builtin.append_ #[49, 49] 49 #[.slice (some ⟨B, 0, none⟩) 2 2, .slice (some ⟨a2, 0, none⟩) 2 2]) Z0).andThen _)
      rw [hr]
      simp only [Result.andThen]
      rw [Oper.upon_value]
      have hlo : ∀ k, _ = some k → B ≤ k := fun k hk => (World.ownsRow.lt q0 k hk).1
      have r1 : Row w9 p1 (rC k i g st wy tr nx tag) 27 := ⟨(hgrow.block p1 r1.lt (fun e => by have := hlo _ e.symm; omega)).trans r1.eq⟩
      have r2 : Row w9 x2 #[.string nm, .int .i64 3, .bool false] 61 := ⟨(hgrow.block x2 r2.lt (fun e => by have := hlo _ e.symm; omega)).trans r2.eq⟩
      have hc9 : Below w.heap.size w w9 := hc.grown hgrow (by omega) (fun k hk => Nat.le_trans hB (hlo k hk))
      have hB9 : B ≤ w9.heap.size := Nat.le_trans hB2 hgrow.size
      refine hK.out _ _ r1.cell (fun hHeld => ?_)
      clear hK K hr hgrow hnil
      refine' wpAnyH_take (i := 10) (oi := _) (v := _) ?_ (by kernel_rfl) (by kernel_rfl) (by kernel_rfl) ?_ (Or.inl ⟨?_, ?_⟩) (by assumption) ?_
      rotate_left 2
      · (simp only [List.getElem?_toArray, List.getElem?_cons_succ, List.getElem?_cons_zero]; rfl)
      · first | exact fun _ _ _ h => h | exact fun _ _ _ h => nomatch h.1
      · rfl
      · (intro W hSW; (try dsimp only at hSW); go_split_ands; first | (go_simp; done) | (go_simp; with_reducible rfl))
      try simp only [Act.put, List.setIfInBounds_toArray, List.set_cons_zero, List.set_cons_succ]
      refine wpAnyH_done (by kernel_rfl) ?_ _
      go_wp2_with fail
      go_meet
      exact ⟨r1, r2, hown', hc9, hB9⟩
    case rest =>
      clear r1 r2 q0 hc hB2
      obtain ⟨r1, r2, q0, hc, hB2⟩ := hcut
      have y0 := r1.cell
      have y1 := r1.lt
      have y2 := r2.cell
      have y3 := r2.lt
      have QQ := Lib.hid (q0.on (below_alloc wc (.cells #[.string Q] 9)))
      have HSRC := Lib.hid (str_src1 wc Q)
      have HCC := Lib.hid (hc.alloc hc.size (.cells #[.string Q] 9))
      clear q0 hc
      go_wp2_with (at_builtin; refine wpList_append_own _ rfl _ _ 49 rfl B 9 i0 (.string ⟨#[]⟩) 1 16 Tryz.underlying49 HI0.out HZ0.out HZ1.out HZ2.out rfl (by decide) _ _ _ rfl QQ.out ⟨wc.heap.size, 0, none⟩ 1 1 [.string Q] rfl rfl HSRC.out (by intro u hu; simp at hu; subst hu; rfl) (by unfold maxLen; simp) (by simp) (by simp; omega) ?_)
      intro v2 w9 hown' hgrow hnil
      have hlo9 : ∀ k, _ = some k → B ≤ k := fun k hk => (World.ownsRow.lt QQ.out k hk).1
      have hc9 := HCC.out.grown hgrow (by simp; omega) (fun k hk => Nat.le_trans hB (hlo9 k hk))
      have ho9 : OwnsS B w9 v2 [O, nm, R, D, Q] := hown'
      obtain ⟨gg, cc, rfl, hg1, hg2, hg3⟩ := ho9.cell (by simp)
      have hj := Tryz.strings_Join gg 0 cc [O, nm, R, D, Q] ⟨#[32]⟩ w9 hg3 hg1 (by simp) hg2 (join_len _ (by simp) (by simp; omega))
      have HJ := Lib.hid hj
      clear hown' hgrow hnil hj ho9 hg3
      go_wp2_with fail
      refine Calls.mono HJ.out ?_
      rintro e w10 ⟨rfl, hb⟩
      have hc10 := chain hc9 hb
      go_wp2_with fail
      go_returns
      exact ⟨rfl, by first | exact hc10 | (rw [← hp1]; exact hc10)⟩

set_option maxHeartbeats 8000000 in
set_option maxRecDepth 20000 in
theorem text_2 (k i g st wy tr nx : Int) (tag nm : ByteArray) (O Q : ByteArray) (R D D2 : ByteArray) (w : World) (hE : Env w) (hsz : O.size ≤ 1000 ∧ nm.size ≤ 1000 ∧ Q.size ≤ 10000000)
    (hix : ∀ w, (Instr.index 62 shapesV (.int .i64 st)).run Tryz.prog w = .ok (.agg #[.string nm, .int .i64 3, .bool true]) w)
    (c1 : ∀ w, Ret 13 #[rV k i g st wy tr nx tag] w (.int .i64 0))
    (c2 : ∀ w, Env w → Ret 23 #[.agg #[.int .i64 k, .int .i64 i, .int .u32 g]] w (.tuple #[.string O, .int .i64 0]))
    (c3 : ∀ w, Ret 24 #[.string tag] w (.tuple #[.string Q, .int .i64 0])) (hrx : ∀ w, (Instr.index 64 reasonsV (.int .i64 wy)).run Tryz.prog w = .ok (.string R) w) (c4 : ∀ w, Env w → Ret 27 #[.int .i64 tr] w (.string D)) (hs2 : R.size ≤ 1000 ∧ D.size ≤ 1000 ∧ D2.size ≤ 1000) (c5 : ∀ w, Env w → Ret 28 #[.int .i64 nx, .int .i64 10] w (.string D2)) :
    Ret 12 #[rV k i g st wy tr nx tag] w (.tuple #[.string ⟨(Lib.join [O.data.toList, nm.data.toList, R.data.toList, D.data.toList, D2.data.toList, Q.data.toList] [32]).toArray⟩, .int .i64 0]) := by
  have C4 := Lib.hid c4
  clear c4
  have C5 := Lib.hid c5
  clear c5
  have C1 := Lib.hid c1
  have C2 := Lib.hid c2
  have C3 := Lib.hid c3
  have HE := Lib.hid hE
  obtain ⟨i0, hi, hz0, hz1, hz2⟩ := info_parts str_info
  have HI0 := Lib.hid hi
  have HZ0 := Lib.hid hz0
  have HZ1 := Lib.hid hz1
  have HZ2 := Lib.hid hz2
  clear c1 c2 c3 hE hi hz0 hz1 hz2
  go_enter Tryz.func12, Tryz.ntmps12
  go_wp2_with fail
  have r1 := Row.new (W := w) (cs := (rC k i g st wy tr nx tag)) (t := 27)
  have hc := (Below.refl w.heap.size w).alloc (Nat.le_refl _) (.cells (rC k i g st wy tr nx tag) 27)
  generalize w.alloc (.cells (rC k i g st wy tr nx tag) 27) = W at *
  generalize hp1 : w.heap.size = p1 at r1
  refine Calls.mono (C1.out _) ?_
  rintro e w1 ⟨rfl, hb⟩
  replace r1 := r1.on hb
  replace hc := chain hc hb
  clear hb
  have y0 := r1.cell
  have y1 := r1.lt
  go_wp2_with fail
  clear y0 y1
  refine Calls.mono (C2.out _ (HE.out.on hc)) ?_
  rintro e w2 ⟨rfl, hb⟩
  replace r1 := r1.on hb
  replace hc := chain hc hb
  clear hb
  have y0 := r1.cell
  have y1 := r1.lt
  go_wp2_with fail
  clear y0 y1
  refine Calls.mono (C3.out _) ?_
  rintro e w3 ⟨rfl, hb⟩
  replace r1 := r1.on hb
  replace hc := chain hc hb
  clear hb
  have y0 := r1.cell
  have y1 := r1.lt
  go_wp2_with fail
  clear y0 y1
  go_cut [8] (fun v wx => ∃ x2, v = .pointer (some ⟨x2, 0, none⟩) ∧ Row wx p1 (rC k i g st wy tr nx tag) 27 ∧ Row wx x2 #[.string nm, .int .i64 3, .bool true] 61 ∧ Below w.heap.size w wx)
  case first =>
    refine wp_region_held_drew (S := fun W' => (∀ j, W'.cell? ⟨p1, j, none⟩ = (rC k i g st wy tr nx tag)[j]?)) (by kernel_rfl) r1.cell (fun hHeld => ?_)
    replace r1 := r1.drew
    replace hc := hc.drew
    generalize w3.drew = X_0 at *
    refine' wpAnyH_take (i := 1) (oi := _) (v := _) ?_ (by kernel_rfl) (by kernel_rfl) (by kernel_rfl) ?_ (Or.inl ⟨?_, ?_⟩) (by assumption) ?_
    rotate_left 2
    · (simp only [List.getElem?_toArray, List.getElem?_cons_succ, List.getElem?_cons_zero]; rfl)
    · first | exact fun _ _ _ h => h | exact fun _ _ _ h => nomatch h.1
    · rfl
    · (intro W hSW; (try dsimp only at hSW); go_split_ands; first | (go_simp; done) | (go_simp; with_reducible rfl))
    try simp only [Act.put, List.setIfInBounds_toArray, List.set_cons_zero, List.set_cons_succ]
    refine' wpAnyH_take (i := 2) (oi := _) (v := _) ?_ (by kernel_rfl) (by kernel_rfl) (by kernel_rfl) ?_ (Or.inl ⟨?_, ?_⟩) (by assumption) ?_
    rotate_left 2
    · (simp only [List.getElem?_toArray, List.getElem?_cons_succ, List.getElem?_cons_zero]; rfl)
    · first | exact fun _ _ _ h => h | exact fun _ _ _ h => nomatch h.1
    · rfl
    · (intro W hSW; (try dsimp only at hSW); go_split_ands; first | (go_simp; done) | (go_simp; with_reducible rfl))
    try simp only [Act.put, List.setIfInBounds_toArray, List.set_cons_zero, List.set_cons_succ]
    clear hHeld
    refine wpAnyH_ready (rs := [0, 4]) (by kernel_rfl) (by simp) ?_
    refine' AllReadyH.cons (o := _) (by simp only [List.getElem?_toArray, List.getElem?_cons_succ, List.getElem?_cons_zero]; rfl) (fun K hK => ?_) (AllReadyH.cons (o := _) (by simp only [List.getElem?_toArray, List.getElem?_cons_succ, List.getElem?_cons_zero]; rfl) (fun K hK => ?_) AllReadyH.nil)
    · go_simp
      refine Calls.mono (shapes_c _) ?_
      rintro e X_1 ⟨rfl, hn⟩
      replace r1 := r1.on hn
      replace hc := chain hc hn
      clear hn
      go_simp
      refine hK.out _ _ r1.cell (fun hHeld => ?_)
      clear hK K
      refine' wpAnyH_take (i := 3) (oi := _) (v := _) ?_ (by kernel_rfl) (by kernel_rfl) (by kernel_rfl) ?_ (Or.inl ⟨?_, ?_⟩) (by assumption) ?_
      rotate_left 2
      · (simp only [List.getElem?_toArray, List.getElem?_cons_succ, List.getElem?_cons_zero]; rfl)
      · first | exact fun _ _ _ h => h | exact fun _ _ _ h => nomatch h.1
      · rfl
      · (intro W hSW; (try dsimp only at hSW); go_split_ands; first | (go_simp; done) | (go_simp; with_reducible rfl))
      try simp only [Act.put, List.setIfInBounds_toArray, List.set_cons_zero, List.set_cons_succ]
      clear hHeld
      refine wpAnyH_ready (rs := [4]) (by kernel_rfl) (by simp) ?_
      refine' AllReadyH.cons (o := _) ?_ (fun K hK => ?_) AllReadyH.nil
      rotate_left 1
      · (simp only [List.getElem?_toArray, List.getElem?_cons_succ, List.getElem?_cons_zero]; rfl)
      go_simp
      have hn := below_alloc X_1 (.cells #[.string ⟨#[]⟩, .int .i64 0, .bool false] 61)
      have r2 := Row.new (W := X_1) (cs := #[.string ⟨#[]⟩, .int .i64 0, .bool false]) (t := 61)
      have hxy : X_1.heap.size ≠ p1 := Nat.ne_of_gt r1.lt
      have hx2 : w.heap.size ≤ X_1.heap.size := hc.size
      replace r1 := r1.on hn
      replace hc := chain hc hn
      clear hn
      generalize X_1.alloc (.cells #[.string ⟨#[]⟩, .int .i64 0, .bool false] 61) = X_2 at *
      generalize X_1.heap.size = x2 at *
      refine hK.out _ _ r1.cell (fun _ => ?_)
      clear hK K
      have y0 := r2.cell
      have y1 := r2.free
      have y2 := r2.lt
      refine wpAnyH_ready (rs := [5]) (by kernel_rfl) (by simp) ?_
      refine' AllReadyH.cons (o := _) ?_ (fun K hK => ?_) AllReadyH.nil
      rotate_left 1
      · (simp only [List.getElem?_toArray, List.getElem?_cons_succ, List.getElem?_cons_zero]; rfl)
      go_simp
      clear y0 y1 y2
      replace r1 := ((r1.other hxy 0 (.string nm)).other hxy 1 (.int .i64 3)).other hxy 2 (.bool true)
      replace r2 := ((r2.set 0 (.string nm)).set 1 (.int .i64 3)).set 2 (.bool true)
      replace hc := ((hc.setCell (p := ⟨x2, 0, none⟩) hx2 (.string nm)).setCell (p := ⟨x2, 1, none⟩) hx2 (.int .i64 3)).setCell (p := ⟨x2, 2, none⟩) hx2 (.bool true)
      simp only [List.setIfInBounds_toArray, List.set_cons_zero, List.set_cons_succ] at r2
      generalize hW : World.setCell _ _ _ = V at *
      clear hW
      refine hK.out _ _ r1.cell (fun _ => ?_)
      clear hK K
      refine wpAnyH_done (by kernel_rfl) ?_ _
      go_wp2_with fail
      go_meet
      exact ⟨_, rfl, r1, r2, hc⟩
    · go_simp
      have hn := below_alloc X_0 (.cells #[.string ⟨#[]⟩, .int .i64 0, .bool false] 61)
      have r2 := Row.new (W := X_0) (cs := #[.string ⟨#[]⟩, .int .i64 0, .bool false]) (t := 61)
      have hxy : X_0.heap.size ≠ p1 := Nat.ne_of_gt r1.lt
      have hx2 : w.heap.size ≤ X_0.heap.size := hc.size
      replace r1 := r1.on hn
      replace hc := chain hc hn
      clear hn
      generalize X_0.alloc (.cells #[.string ⟨#[]⟩, .int .i64 0, .bool false] 61) = X_2 at *
      generalize X_0.heap.size = x2 at *
      refine hK.out _ _ r1.cell (fun _ => ?_)
      clear hK K
      refine wpAnyH_ready (rs := [0]) (by kernel_rfl) (by simp) ?_
      refine' AllReadyH.cons (o := _) ?_ (fun K hK => ?_) AllReadyH.nil
      rotate_left 1
      · (simp only [List.getElem?_toArray, List.getElem?_cons_succ, List.getElem?_cons_zero]; rfl)
      go_simp
      refine Calls.mono (shapes_c _) ?_
      rintro e X_3 ⟨rfl, hn⟩
      replace r1 := r1.on hn
      replace r2 := r2.on hn
      replace hc := chain hc hn
      clear hn
      go_simp
      refine hK.out _ _ r1.cell (fun _ => ?_)
      clear hK K
      refine' wpAnyH_take (i := 3) (oi := _) (v := _) ?_ (by kernel_rfl) (by kernel_rfl) (by kernel_rfl) ?_ (Or.inl ⟨?_, ?_⟩) (by assumption) ?_
      rotate_left 2
      · (simp only [List.getElem?_toArray, List.getElem?_cons_succ, List.getElem?_cons_zero]; rfl)
      · first | exact fun _ _ _ h => h | exact fun _ _ _ h => nomatch h.1
      · rfl
      · (intro W hSW; (try dsimp only at hSW); go_split_ands; first | (go_simp; done) | (go_simp; with_reducible rfl))
      try simp only [Act.put, List.setIfInBounds_toArray, List.set_cons_zero, List.set_cons_succ]
      have y0 := r2.cell
      have y1 := r2.free
      have y2 := r2.lt
      refine wpAnyH_ready (rs := [5]) (by kernel_rfl) (by simp) ?_
      refine' AllReadyH.cons (o := _) ?_ (fun K hK => ?_) AllReadyH.nil
      rotate_left 1
      · (simp only [List.getElem?_toArray, List.getElem?_cons_succ, List.getElem?_cons_zero]; rfl)
      go_simp
      clear y0 y1 y2
      replace r1 := ((r1.other hxy 0 (.string nm)).other hxy 1 (.int .i64 3)).other hxy 2 (.bool true)
      replace r2 := ((r2.set 0 (.string nm)).set 1 (.int .i64 3)).set 2 (.bool true)
      replace hc := ((hc.setCell (p := ⟨x2, 0, none⟩) hx2 (.string nm)).setCell (p := ⟨x2, 1, none⟩) hx2 (.int .i64 3)).setCell (p := ⟨x2, 2, none⟩) hx2 (.bool true)
      simp only [List.setIfInBounds_toArray, List.set_cons_zero, List.set_cons_succ] at r2
      generalize hW : World.setCell _ _ _ = V at *
      clear hW
      refine hK.out _ _ r1.cell (fun _ => ?_)
      clear hK K
      refine wpAnyH_done (by kernel_rfl) ?_ _
      go_wp2_with fail
      go_meet
      exact ⟨_, rfl, r1, r2, hc⟩
  case rest =>
    clear r1 hc
    obtain ⟨x2, rfl, r1, r2, hc⟩ := hcut
    have y0 := r1.cell
    have y1 := r1.lt
    have y2 := r2.cell
    have y3 := r2.lt
    go_upto_region 13 with fail
    clear y0 y1 y2 y3
    have hn := below_alloc wc (.cells #[.string O, .string nm] 9)
    have q0 : OwnsS wc.heap.size (wc.alloc (.cells #[.string O, .string nm] 9)) (.slice (some ⟨wc.heap.size, 0, none⟩) 2 2) [O, nm] := OwnsS.new wc [O, nm] (by simp)
    have hB : w.heap.size ≤ wc.heap.size := hc.size
    have hx1 : p1 < wc.heap.size := r1.lt
    have hx2 : x2 < wc.heap.size := r2.lt
    replace r1 := r1.on hn
    replace r2 := r2.on hn
    replace hc := chain hc hn
    have hB2 : wc.heap.size ≤ (wc.alloc (.cells #[.string O, .string nm] 9)).heap.size := hn.size
    clear hn
    generalize wc.alloc (.cells #[.string O, .string nm] 9) = Y0 at *
    generalize wc.heap.size = B at *
    go_cut [9] (fun v wx => Row wx p1 (rC k i g st wy tr nx tag) 27 ∧ Row wx x2 #[.string nm, .int .i64 3, .bool true] 61 ∧ OwnsS B wx v [O, nm, R, D] ∧ Below w.heap.size w wx ∧ B ≤ wx.heap.size)
    case first =>
      refine wp_region_held_drew (S := fun W' => (∀ j, W'.cell? ⟨p1, j, none⟩ = (rC k i g st wy tr nx tag)[j]?)) (by kernel_rfl) r1.cell (fun hHeld => ?_)
      replace r1 := r1.drew
      replace r2 := r2.drew
      replace q0 : OwnsS B Y0.drew _ _ := q0
      replace hc := hc.drew
      replace hB2 : B ≤ Y0.drew.heap.size := hB2
      generalize Y0.drew = Y1 at *
      refine' wpAnyH_take (i := 0) (oi := _) (v := _) ?_ (by kernel_rfl) (by kernel_rfl) (by kernel_rfl) ?_ (Or.inl ⟨?_, ?_⟩) (by assumption) ?_
      rotate_left 2
      · (simp only [List.getElem?_toArray, List.getElem?_cons_succ, List.getElem?_cons_zero]; rfl)
      · first | exact fun _ _ _ h => h | exact fun _ _ _ h => nomatch h.1
      · rfl
      · (intro W hSW; (try dsimp only at hSW); go_split_ands; first | (go_simp; done) | (go_simp; with_reducible rfl))
      try simp only [Act.put, List.setIfInBounds_toArray, List.set_cons_zero, List.set_cons_succ]
      refine' wpAnyH_take (i := 2) (oi := _) (v := _) ?_ (by kernel_rfl) (by kernel_rfl) (by kernel_rfl) ?_ (Or.inl ⟨?_, ?_⟩) (by assumption) ?_
      rotate_left 2
      · (simp only [List.getElem?_toArray, List.getElem?_cons_succ, List.getElem?_cons_zero]; rfl)
      · first | exact fun _ _ _ h => h | exact fun _ _ _ h => nomatch h.1
      · rfl
      · (intro W hSW; (try dsimp only at hSW); go_split_ands; first | (go_simp; done) | (go_simp; with_reducible rfl))
      try simp only [Act.put, List.setIfInBounds_toArray, List.set_cons_zero, List.set_cons_succ]
      refine' wpAnyH_take (i := 3) (oi := _) (v := _) ?_ (by kernel_rfl) (by kernel_rfl) (by kernel_rfl) ?_ (Or.inl ⟨?_, ?_⟩) (by assumption) ?_
      rotate_left 2
      · (simp only [List.getElem?_toArray, List.getElem?_cons_succ, List.getElem?_cons_zero]; rfl)
      · first | exact fun _ _ _ h => h | exact fun _ _ _ h => nomatch h.1
      · rfl
      · (intro W hSW; (try dsimp only at hSW); go_split_ands; first | (go_simp; done) | (go_simp; with_reducible rfl))
      try simp only [Act.put, List.setIfInBounds_toArray, List.set_cons_zero, List.set_cons_succ]
      refine' wpAnyH_take (i := 5) (oi := _) (v := _) ?_ (by kernel_rfl) (by kernel_rfl) (by kernel_rfl) ?_ (Or.inl ⟨?_, ?_⟩) (by assumption) ?_
      rotate_left 2
      · (simp only [List.getElem?_toArray, List.getElem?_cons_succ, List.getElem?_cons_zero]; rfl)
      · first | exact fun _ _ _ h => h | exact fun _ _ _ h => nomatch h.1
      · rfl
      · (intro W hSW; (try dsimp only at hSW); go_split_ands; first | (go_simp; done) | (go_simp; with_reducible rfl))
      try simp only [Act.put, List.setIfInBounds_toArray, List.set_cons_zero, List.set_cons_succ]
      refine' wpAnyH_take (i := 6) (oi := _) (v := _) ?_ (by kernel_rfl) (by kernel_rfl) (by kernel_rfl) ?_ (Or.inl ⟨?_, ?_⟩) (by assumption) ?_
      rotate_left 2
      · (simp only [List.getElem?_toArray, List.getElem?_cons_succ, List.getElem?_cons_zero]; rfl)
      · first | exact fun _ _ _ h => h | exact fun _ _ _ h => nomatch h.1
      · rfl
      · (intro W hSW; (try dsimp only at hSW); go_split_ands; first | (go_simp; done) | (go_simp; with_reducible rfl))
      try simp only [Act.put, List.setIfInBounds_toArray, List.set_cons_zero, List.set_cons_succ]
      clear hHeld
      refine wpAnyH_ready (rs := [1]) (by kernel_rfl) (by simp) ?_
      refine' AllReadyH.cons (o := _) (by simp only [List.getElem?_toArray, List.getElem?_cons_succ, List.getElem?_cons_zero]; rfl) (fun K hK => ?_) AllReadyH.nil
      go_simp
      refine Calls.mono (reasons_c _) ?_
      rintro e Y2 ⟨rfl, hn⟩
      replace r1 := r1.on hn
      replace r2 := r2.on hn
      replace q0 := q0.on hn
      replace hc := chain hc hn
      replace hB2 : B ≤ Y2.heap.size := Nat.le_trans hB2 hn.size
      clear hn
      go_simp
      refine hK.out _ _ r1.cell (fun hHeld => ?_)
      clear hK K
      refine' wpAnyH_take (i := 4) (oi := _) (v := _) ?_ (by kernel_rfl) (by kernel_rfl) (by kernel_rfl) ?_ (Or.inl ⟨?_, ?_⟩) (by assumption) ?_
      rotate_left 2
      · (simp only [List.getElem?_toArray, List.getElem?_cons_succ, List.getElem?_cons_zero]; rfl)
      · first | exact fun _ _ _ h => h | exact fun _ _ _ h => nomatch h.1
      · rfl
      · (intro W hSW; (try dsimp only at hSW); go_split_ands; first | (go_simp; done) | (go_simp; with_reducible rfl))
      try simp only [Act.put, List.setIfInBounds_toArray, List.set_cons_zero, List.set_cons_succ]
      clear hHeld
      refine wpAnyH_ready (rs := [7]) (by kernel_rfl) (by simp) ?_
      refine' AllReadyH.cons (o := _) (by simp only [List.getElem?_toArray, List.getElem?_cons_succ, List.getElem?_cons_zero]; rfl) (fun K hK => ?_) AllReadyH.nil
      go_simp
      refine Calls.mono (C4.out _ (HE.out.on hc)) ?_
      rintro e Y3 ⟨rfl, hn⟩
      replace r1 := r1.on hn
      replace r2 := r2.on hn
      replace q0 := q0.on hn
      replace hc := chain hc hn
      replace hB2 : B ≤ Y3.heap.size := Nat.le_trans hB2 hn.size
      clear hn
      go_simp
      refine hK.out _ _ r1.cell (fun hHeld => ?_)
      clear hK K
      clear hHeld
      refine wpAnyH_ready (rs := [8]) (by kernel_rfl) (by simp) ?_
      refine' AllReadyH.cons (o := _) ?_ (fun K hK => ?_) AllReadyH.nil
      rotate_left 1
      · (simp only [List.getElem?_toArray, List.getElem?_cons_succ, List.getElem?_cons_zero]; rfl)
      go_simp
      have hn := below_alloc Y3 (.cells #[.string R, .string D] 9)
      have hsrc := str_src2 Y3 R D
      replace r1 := r1.on hn
      replace r2 := r2.on hn
      replace q0 := q0.on hn
      replace hc := chain hc hn
      replace hB2 := Nat.le_trans hB2 hn.size
      clear hn
      generalize Y3.alloc (.cells #[.string R, .string D] 9) = Z0 at *
      generalize Y3.heap.size = a2 at *
      refine hK.out _ _ r1.cell (fun _ => ?_)
      clear hK K
      refine wpAnyH_ready (rs := [9]) (by kernel_rfl) (by simp) ?_
      refine' AllReadyH.cons (o := _) (by simp only [List.getElem?_toArray, List.getElem?_cons_succ, List.getElem?_cons_zero]; rfl) (fun K hK => ?_) AllReadyH.nil
      obtain ⟨v9, w9, hr, hown', hgrow, hnil⟩ := run_append_own (P := Tryz.prog) (w := Z0) B 49 49 9 i0 (.string ⟨#[]⟩) 1 16 Tryz.underlying49 HI0.out HZ0.out HZ1.out HZ2.out rfl (by decide) _ _ _ q0 ⟨a2, 0, none⟩ 2 2 [.string R, .string D] rfl hsrc (by intro u hu; simp at hu; rcases hu with rfl | rfl <;> rfl) (by unfold maxLen; simp) (by simp) hB2
      rw [if_pos (by rfl)]
      unfold Oper.wp execOp
      simp only [resolve, invoke, builtin, Sem.run_bind, Sem.run_pure, Result.andThen_ok, List.map_toArray, List.map_cons, List.map_nil]
      show Oper.upon _ _ _ _ _ ((Sem.run _ (Builtin.append_ #[49, 49] 49 #[.slice (some ⟨B, 0, none⟩) 2 2, .slice (some ⟨a2, 0, none⟩) 2 2]) Z0).andThen _)
      rw [hr]
      simp only [Result.andThen]
      rw [Oper.upon_value]
      have hlo : ∀ k, _ = some k → B ≤ k := fun k hk => (World.ownsRow.lt q0 k hk).1
      have r1 : Row w9 p1 (rC k i g st wy tr nx tag) 27 := ⟨(hgrow.block p1 r1.lt (fun e => by have := hlo _ e.symm; omega)).trans r1.eq⟩
      have r2 : Row w9 x2 #[.string nm, .int .i64 3, .bool true] 61 := ⟨(hgrow.block x2 r2.lt (fun e => by have := hlo _ e.symm; omega)).trans r2.eq⟩
      have hc9 : Below w.heap.size w w9 := hc.grown hgrow (by omega) (fun k hk => Nat.le_trans hB (hlo k hk))
      have hB9 : B ≤ w9.heap.size := Nat.le_trans hB2 hgrow.size
      refine hK.out _ _ r1.cell (fun hHeld => ?_)
      clear hK K hr hgrow hnil
      refine' wpAnyH_take (i := 10) (oi := _) (v := _) ?_ (by kernel_rfl) (by kernel_rfl) (by kernel_rfl) ?_ (Or.inl ⟨?_, ?_⟩) (by assumption) ?_
      rotate_left 2
      · (simp only [List.getElem?_toArray, List.getElem?_cons_succ, List.getElem?_cons_zero]; rfl)
      · first | exact fun _ _ _ h => h | exact fun _ _ _ h => nomatch h.1
      · rfl
      · (intro W hSW; (try dsimp only at hSW); go_split_ands; first | (go_simp; done) | (go_simp; with_reducible rfl))
      try simp only [Act.put, List.setIfInBounds_toArray, List.set_cons_zero, List.set_cons_succ]
      refine wpAnyH_done (by kernel_rfl) ?_ _
      go_wp2_with fail
      go_meet
      exact ⟨r1, r2, hown', hc9, hB9⟩
    case rest =>
      clear r1 r2 q0 hc hB2
      obtain ⟨r1, r2, q0, hc, hB2⟩ := hcut
      have y0 := r1.cell
      have y1 := r1.lt
      have y2 := r2.cell
      have y3 := r2.lt
      go_wp2_with fail
      refine Calls.mono (C5.out _ (HE.out.on hc)) ?_
      rintro e w5 ⟨rfl, hb⟩
      replace q0 := q0.on hb
      replace hB2 : B ≤ w5.heap.size := Nat.le_trans hB2 hb.size
      replace hc := chain hc hb
      clear hb r1 r2 y0 y1 y2 y3
      have Q1 := Lib.hid (q0.on (below_alloc w5 (.cells #[.string D2] 9)))
      have HS1 := Lib.hid (str_src1 w5 D2)
      have HC1 := Lib.hid (hc.alloc hc.size (.cells #[.string D2] 9))
      clear q0 hc
      go_wp2_with (at_builtin; refine wpList_append_own _ rfl _ _ 49 rfl B 9 i0 (.string ⟨#[]⟩) 1 16 Tryz.underlying49 HI0.out HZ0.out HZ1.out HZ2.out rfl (by decide) _ _ _ rfl Q1.out ⟨w5.heap.size, 0, none⟩ 1 1 [.string D2] rfl rfl HS1.out (by intro u hu; simp at hu; subst hu; rfl) (by unfold maxLen; simp) (by simp) (by simp; omega) ?_)
      intro v1 w6 hown' hgrow hnil
      have hlo1 : ∀ k, _ = some k → B ≤ k := fun k hk => (World.ownsRow.lt Q1.out k hk).1
      have hc := HC1.out.grown hgrow (by simp; omega) (fun k hk => Nat.le_trans hB (hlo1 k hk))
      have q0 : OwnsS B w6 v1 [O, nm, R, D, D2] := hown'
      have hB3 : B ≤ w6.heap.size := by have := hgrow.size; simp at this; omega
      clear hown' hgrow hnil hlo1 Q1 HC1
      have QQ := Lib.hid (q0.on (below_alloc w6 (.cells #[.string Q] 9)))
      have HSRC := Lib.hid (str_src1 w6 Q)
      have HCC := Lib.hid (hc.alloc hc.size (.cells #[.string Q] 9))
      clear q0 hc
      go_wp2_with (at_builtin; refine wpList_append_own _ rfl _ _ 49 rfl B 9 i0 (.string ⟨#[]⟩) 1 16 Tryz.underlying49 HI0.out HZ0.out HZ1.out HZ2.out rfl (by decide) _ _ _ rfl QQ.out ⟨w6.heap.size, 0, none⟩ 1 1 [.string Q] rfl rfl HSRC.out (by intro u hu; simp at hu; subst hu; rfl) (by unfold maxLen; simp) (by simp) (by simp; omega) ?_)
      intro v2 w9 hown' hgrow hnil
      have hlo9 : ∀ k, _ = some k → B ≤ k := fun k hk => (World.ownsRow.lt QQ.out k hk).1
      have hc9 := HCC.out.grown hgrow (by simp; omega) (fun k hk => Nat.le_trans hB (hlo9 k hk))
      have ho9 : OwnsS B w9 v2 [O, nm, R, D, D2, Q] := hown'
      obtain ⟨gg, cc, rfl, hg1, hg2, hg3⟩ := ho9.cell (by simp)
      have hj := Tryz.strings_Join gg 0 cc [O, nm, R, D, D2, Q] ⟨#[32]⟩ w9 hg3 hg1 (by simp) hg2 (join_len _ (by simp) (by simp; omega))
      have HJ := Lib.hid hj
      clear hown' hgrow hnil hj ho9 hg3
      go_wp2_with fail
      refine Calls.mono HJ.out ?_
      rintro e w10 ⟨rfl, hb⟩
      have hc10 := chain hc9 hb
      go_wp2_with fail
      go_returns
      exact ⟨rfl, by first | exact hc10 | (rw [← hp1]; exact hc10)⟩

end Go.Proofs.YtgckfiadnmjonabGreatDoor
