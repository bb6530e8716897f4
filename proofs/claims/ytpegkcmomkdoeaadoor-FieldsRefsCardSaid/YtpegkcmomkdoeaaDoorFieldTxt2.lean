/- fields.Text: what it does ahead of its loop. -/
import Derived.Test.YtpegkcmomkdoeaaDoorFieldTxt
import Derived.Deep.DeepCutAuto
namespace Go.Proofs.YtpegkcmomkdoeaaDoor
open Go.RowKit Go.Shelf
set_option linter.unusedVariables false
set_option linter.unusedSimpArgs false
attribute [local go_sem] Oper.semAt_some
theorem row_src {W : World} {x : Nat} {xs : List Value} {t : TypeId} (h : Row W x xs.toArray t) : ∀ (j : Nat) (v : Value), xs[j]? = some v → W.cell? ((⟨x, 0, none⟩ : Addr).add j) = some v := by
  intro j v hv
  rw [show (⟨x, 0, none⟩ : Addr).add j = ⟨x, j, none⟩ by simp [Addr.add]; omega, h.cell j]
  simpa using hv
/-- The words ahead of the loop: kw, and a dash for each field. -/
def Words (w : World) (y n : Nat) (kw : Value) (oc : Array Value) (wx : World) : Prop :=
  ∃ g cap cur, Row wx y #[.slice (some ⟨g, 0, none⟩) (n + 1) cap] 61 ∧ Row wx g cur 9 ∧ cur.toList.take (n + 1) = kw :: List.replicate n (.string ⟨#[45]⟩) ∧ n + 1 ≤ cap ∧ cap ≤ maxLen ∧ cur.size = cap ∧
    Row wx w.heap.size oc 27 ∧ Below w.heap.size w wx ∧ w.heap.size < g ∧ w.heap.size < y ∧ g ≠ y
set_option maxHeartbeats 16000000 in
set_option maxRecDepth 20000 in
theorem ftext_obj (n : Nat) (s0 g0 s1 g1 s2 g2 s3 g3 : Int) (w : World) (hE : Env w) (hn : n ≤ 4) (hok : oOk n (s0, g0) (s1, g1) (s2, g2) (s3, g3) false = true) :
    Ret 23 #[obV n s0 g0 s1 g1 s2 g2 s3 g3 false] w (.tuple #[.string (oText n (s0, g0) (s1, g1) (s2, g2) (s3, g3) false), .int .i64 0]) := by
  have hk := fun w => fcheck_c n s0 g0 s1 g1 s2 g2 s3 g3 false w
  rw [show oErr n (s0, g0) (s1, g1) (s2, g2) (s3, g3) false = 0 by unfold oErr; rw [hok]; rfl] at hk
  have HK := Lib.hid hk
  have hP := full_ok hok
  have HP := Lib.hid hP
  have HOK := Lib.hid hok
  clear hP hok
  have r0 : Row (w.alloc (.cells (obC n s0 g0 s1 g1 s2 g2 s3 g3 false) 27)) w.heap.size (obC n s0 g0 s1 g1 s2 g2 s3 g3 false) 27 := Row.new
  have HR0 := Lib.hid r0
  clear hk r0
  refine (callsIn_wide (n := 3)).1 ?_
  refine callsIn_of_wp_marks Tryd.func23 rfl trivial ?_ rfl
  simp only [Tryd.ntmps23, List.size_toArray, List.length_cons, List.length_nil, Nat.reduceAdd, Nat.reduceSub, Array.replicate_succ, Array.replicate_zero, List.push_toArray, List.append_toArray, List.nil_append, List.cons_append]
  refine wpIn_wide.2 ?_
  go_wp2_with fail
  refine Calls.mono (HK.out _) ?_
  rintro e w1 ⟨rfl, hb1⟩
  have a0 := HR0.out.on hb1
  have hc1 : Below w.heap.size w w1 := under hb1
  have z0 := a0.lt
  have c0 := a0.cell
  clear hb1 HR0
  go_wp2_with fail
  have b1 : Row ((w1.alloc (.cells #[.string ⟨#[111, 98, 106, 101, 99, 116]⟩] 9)).alloc (.cells #[.slice (some ⟨w1.heap.size, 0, none⟩) 1 1] 61)) w1.heap.size #[.string ⟨#[111, 98, 106, 101, 99, 116]⟩] 9 := Row.new.on (below_alloc _ _)
  have b2 : Row ((w1.alloc (.cells #[.string ⟨#[111, 98, 106, 101, 99, 116]⟩] 9)).alloc (.cells #[.slice (some ⟨w1.heap.size, 0, none⟩) 1 1] 61)) (w1.heap.size + 1) #[.slice (some ⟨w1.heap.size, 0, none⟩) 1 1] 61 := by simpa using Row.new (W := w1.alloc (.cells #[.string ⟨#[111, 98, 106, 101, 99, 116]⟩] 9)) (cs := #[.slice (some ⟨w1.heap.size, 0, none⟩) 1 1]) (t := 61)
  have b0 := (a0.on (below_alloc w1 (.cells #[.string ⟨#[111, 98, 106, 101, 99, 116]⟩] 9))).on (below_alloc _ (.cells #[.slice (some ⟨w1.heap.size, 0, none⟩) 1 1] 61))
  have hcW : Below w.heap.size w ((w1.alloc (.cells #[.string ⟨#[111, 98, 106, 101, 99, 116]⟩] 9)).alloc (.cells #[.slice (some ⟨w1.heap.size, 0, none⟩) 1 1] 61)) := (hc1.alloc hc1.size _).alloc (by simp; have := hc1.size; omega) _
  have zz : w.heap.size < w1.heap.size := z0
  clear a0 c0 z0 hc1
  generalize hW : ((w1.alloc (.cells #[.string ⟨#[111, 98, 106, 101, 99, 116]⟩] 9)).alloc (.cells #[.slice (some ⟨w1.heap.size, 0, none⟩) 1 1] 61)) = W at *
  clear hW
  generalize hX1 : w1.heap.size = x1 at *
  clear hX1
  go_cut [24] from 8 to 43 (fun s24 wx => Words w (x1 + 1) n (.string ⟨#[111, 98, 106, 101, 99, 116]⟩) (obC n s0 g0 s1 g1 s2 g2 s3 g3 false) wx)
  case first =>
    refine wp_region_held_np (S := fun W' => ∀ j, W'.cell? ⟨w.heap.size, j, none⟩ = (obC n s0 g0 s1 g1 s2 g2 s3 g3 false)[j]?) (by kernel_rfl) b0.cell (fun hHeld => ?_)
    replace b0 := b0.drew
    replace b1 := b1.drew
    replace b2 := b2.drew
    replace hcW := hcW.drew
    generalize W.drew = V at *
    refine' wpAnyH_take (i := 2) (oi := _) (v := _) ?_ (by kernel_rfl) (by kernel_rfl) (by kernel_rfl) ?_ (Or.inl ⟨?_, ?_⟩) (by assumption) ?_
    rotate_left 2
    · (simp only [List.getElem?_toArray, List.getElem?_cons_succ, List.getElem?_cons_zero]; rfl)
    · first | exact fun _ _ _ h => h | exact fun _ _ _ h => nomatch h.1
    · rfl
    · (intro W hSW; (try dsimp only at hSW); go_split_ands; first | (go_simp; done) | (go_simp; with_reducible rfl))
    try simp only [Act.put, List.setIfInBounds_toArray, List.set_cons_zero, List.set_cons_succ]
    refine' wpAnyH_take (i := 3) (oi := _) (v := _) ?_ (by kernel_rfl) (by kernel_rfl) (by kernel_rfl) ?_ (Or.inl ⟨?_, ?_⟩) (by assumption) ?_
    rotate_left 2
    · (simp only [List.getElem?_toArray, List.getElem?_cons_succ, List.getElem?_cons_zero]; rfl)
    · first | exact fun _ _ _ h => h | exact fun _ _ _ h => nomatch h.1
    · rfl
    · (intro W hSW; (try dsimp only at hSW); go_split_ands; first | (go_simp; done) | (go_simp; with_reducible rfl))
    try simp only [Act.put, List.setIfInBounds_toArray, List.set_cons_zero, List.set_cons_succ]
    refine wpAnyH_ready (rs := [0, 1]) (by kernel_rfl) (by simp) ?_
    refine AllReadyH.cons (o := ?o0a) ?l0a (fun K hK => ?m0a) (AllReadyH.cons (o := ?o1a) ?l1a (fun K hK => ?m1a) (AllReadyH.nil))
    case l0a => (simp only [List.getElem?_toArray, List.getElem?_cons_succ, List.getElem?_cons_zero]; rfl)
    case l1a => (simp only [List.getElem?_toArray, List.getElem?_cons_succ, List.getElem?_cons_zero]; rfl)
    case' m0a =>
      have y2 := b2.cell
      go_simp
      refine hK.out _ _ b0.cell (fun _ => ?_)
      clear hK K y2
      refine wpAnyH_ready (rs := [1]) (by kernel_rfl) (by simp) ?_
      refine' AllReadyH.cons (o := _) ?_ (fun K hK => ?_) AllReadyH.nil
      rotate_left 1
      · (simp only [List.getElem?_toArray, List.getElem?_cons_succ, List.getElem?_cons_zero]; rfl)
      go_simp
      have d3 : Row (V.alloc (.cells #[.string ⟨#[45]⟩] 9)) V.heap.size #[.string ⟨#[45]⟩] 9 := Row.new
      have hb := below_alloc V (.cells #[.string ⟨#[45]⟩] 9)
      replace b0 := b0.on hb
      replace b1 := b1.on hb
      replace b2 := b2.on hb
      replace hcW := chain hcW hb
      generalize V.alloc _ = D at b0 b1 b2 d3 hcW ⊢
      generalize V.heap.size = x2 at d3 ⊢
      refine hK.out _ _ b0.cell (fun _ => ?_)
      clear hK K hb
      refine wpAnyH_ready (rs := [4]) (by kernel_rfl) (by simp) ?_
      refine' AllReadyH.cons (o := _) ?_ (fun K hK => ?_) AllReadyH.nil
      rotate_left 1
      · (simp only [List.getElem?_toArray, List.getElem?_cons_succ, List.getElem?_cons_zero]; rfl)
      go_simp
      refine (repeat_c ⟨#[45]⟩ x2 0 1 n _ d3.lt (d3.cell 0) (by omega)).mono ?_
      rintro e D2 ⟨rfl, hb3, f3⟩
      replace b0 := b0.on hb3
      replace b1 := b1.on hb3
      replace b2 := b2.on hb3
      replace hcW := chain hcW hb3
      go_simp
      refine hK.out _ _ b0.cell (fun _ => ?_)
      generalize D.heap.size = x3 at f3 ⊢
      clear hK K hb3
    case' m1a =>
      go_simp
      have d3 : Row (V.alloc (.cells #[.string ⟨#[45]⟩] 9)) V.heap.size #[.string ⟨#[45]⟩] 9 := Row.new
      have hb := below_alloc V (.cells #[.string ⟨#[45]⟩] 9)
      replace b0 := b0.on hb
      replace b1 := b1.on hb
      replace b2 := b2.on hb
      replace hcW := chain hcW hb
      generalize V.alloc _ = D at b0 b1 b2 d3 hcW ⊢
      generalize V.heap.size = x2 at d3 ⊢
      refine hK.out _ _ b0.cell (fun _ => ?_)
      clear hK K hb
      refine wpAnyH_ready (rs := [0, 4]) (by kernel_rfl) (by simp) ?_
      refine AllReadyH.cons (o := ?o0b) ?l0b (fun K hK => ?m0b) (AllReadyH.cons (o := ?o4b) ?l4b (fun K hK => ?m4b) (AllReadyH.nil))
      case l0b => (simp only [List.getElem?_toArray, List.getElem?_cons_succ, List.getElem?_cons_zero]; rfl)
      case l4b => (simp only [List.getElem?_toArray, List.getElem?_cons_succ, List.getElem?_cons_zero]; rfl)
    case' m0b =>
      have y2 := b2.cell
      go_simp
      refine hK.out _ _ b0.cell (fun _ => ?_)
      clear hK K y2
      refine wpAnyH_ready (rs := [4]) (by kernel_rfl) (by simp) ?_
      refine' AllReadyH.cons (o := _) ?_ (fun K hK => ?_) AllReadyH.nil
      rotate_left 1
      · (simp only [List.getElem?_toArray, List.getElem?_cons_succ, List.getElem?_cons_zero]; rfl)
      go_simp
      refine (repeat_c ⟨#[45]⟩ x2 0 1 n _ d3.lt (d3.cell 0) (by omega)).mono ?_
      rintro e D2 ⟨rfl, hb3, f3⟩
      replace b0 := b0.on hb3
      replace b1 := b1.on hb3
      replace b2 := b2.on hb3
      replace hcW := chain hcW hb3
      go_simp
      refine hK.out _ _ b0.cell (fun _ => ?_)
      generalize D.heap.size = x3 at f3 ⊢
      clear hK K hb3
    case' m4b =>
      go_simp
      refine (repeat_c ⟨#[45]⟩ x2 0 1 n _ d3.lt (d3.cell 0) (by omega)).mono ?_
      rintro e D2 ⟨rfl, hb3, f3⟩
      replace b0 := b0.on hb3
      replace b1 := b1.on hb3
      replace b2 := b2.on hb3
      replace hcW := chain hcW hb3
      go_simp
      refine hK.out _ _ b0.cell (fun _ => ?_)
      generalize D.heap.size = x3 at f3 ⊢
      clear hK K hb3
      have y2 := b2.cell
      refine wpAnyH_ready (rs := [0]) (by kernel_rfl) (by simp) ?_
      refine' AllReadyH.cons (o := _) ?_ (fun K hK => ?_) AllReadyH.nil
      rotate_left 1
      · (simp only [List.getElem?_toArray, List.getElem?_cons_succ, List.getElem?_cons_zero]; rfl)
      go_simp
      refine hK.out _ _ b0.cell (fun _ => ?_)
      clear hK K y2
    all_goals
      refine wpAnyH_ready (rs := [5]) (by kernel_rfl) (by simp) ?_
      refine' AllReadyH.cons (o := _) ?_ (fun K hK => ?_) AllReadyH.nil
      rotate_left 1
      · (simp only [List.getElem?_toArray, List.getElem?_cons_succ, List.getElem?_cons_zero]; rfl)
      go_simp
      have i4 : Row (D2.alloc (.cells #[.slice (some ⟨x1, 0, none⟩) 1 1, .slice (some ⟨x3, 0, none⟩) n n] 61)) D2.heap.size #[.slice (some ⟨x1, 0, none⟩) 1 1, .slice (some ⟨x3, 0, none⟩) n n] 61 := Row.new
      have hb := below_alloc D2 (.cells #[.slice (some ⟨x1, 0, none⟩) 1 1, .slice (some ⟨x3, 0, none⟩) n n] 61)
      replace b0 := b0.on hb
      replace b1 := b1.on hb
      replace b2 := b2.on hb
      replace f3 := f3.on hb
      replace hcW := chain hcW hb
      generalize D2.alloc _ = D4 at b0 b1 b2 f3 i4 hcW ⊢
      generalize D2.heap.size = x4 at i4 ⊢
      refine hK.out _ _ b0.cell (fun _ => ?_)
      clear hK K hb
      refine wpAnyH_ready (rs := [6]) (by kernel_rfl) (by simp) ?_
      refine' AllReadyH.cons (o := _) ?_ (fun K hK => ?_) AllReadyH.nil
      rotate_left 1
      · (simp only [List.getElem?_toArray, List.getElem?_cons_succ, List.getElem?_cons_zero]; rfl)
      go_simp
      have hgy := b2.lt
      refine (concat_c x4 ⟨x1, 0, none⟩ ⟨x3, 0, none⟩ 1 n [.string ⟨#[111, 98, 106, 101, 99, 116]⟩] (List.replicate n (.string ⟨#[45]⟩)) _ (by rw [List.length_replicate]; exact i4) (row_src b1) (row_src f3) b1.lt f3.lt (by simp) (by simp) (by simp; omega) (by intro v hv; rw [List.mem_singleton.1 hv]; rfl) (by intro v hv; rw [List.eq_of_mem_replicate hv]; rfl)).mono ?_
      rintro e w5 ⟨v, rfl, ho, hb5⟩
      replace b0 := b0.on hb5
      replace b2 := b2.on hb5
      replace hcW := chain hcW hb5
      have zg := b2.lt
      rw [List.length_replicate] at ho
      rcases ho.2 with ⟨_, h0⟩ | ⟨g, cap, cur, rfl, hgb, hrow, hle, hm, hsz, htake⟩
      · simp at h0
      go_simp
      refine hK.out _ _ b0.cell (fun _ => ?_)
      clear hK K
      simp only [List.length_cons, List.length_nil, Nat.zero_add, Nat.mul_one] at hle htake hsz
      have y2 := b2.cell
      have u2 := b2.free
      refine wpAnyH_ready (rs := [7]) (by kernel_rfl) (by simp) ?_
      refine' AllReadyH.cons (o := _) ?_ (fun K hK => ?_) AllReadyH.nil
      rotate_left 1
      · (simp only [List.getElem?_toArray, List.getElem?_cons_succ, List.getElem?_cons_zero]; rfl)
      go_simp
      have j0 := b0.other (y := x1 + 1) (by omega) 0 (.slice (some ⟨g, 0, none⟩) (1 + n) cap)
      have jg := Row.other (⟨hrow⟩ : Row w5 g cur 9) (y := x1 + 1) (by omega) 0 (.slice (some ⟨g, 0, none⟩) (1 + n) cap)
      have j2 := b2.set 0 (.slice (some ⟨g, 0, none⟩) (1 + n) cap)
      have hj : Below w.heap.size w (w5.setCell ⟨x1 + 1, 0, none⟩ (.slice (some ⟨g, 0, none⟩) (1 + n) cap)) := hcW.setCell (p := ⟨x1 + 1, 0, none⟩) (by simp; omega) _
      refine hK.out _ _ j0.cell (fun _ => ?_)
      clear hK K
      refine wpAnyH_done (by kernel_rfl) ?_ _
      refine ⟨rfl, ?_⟩
      go_wp2_with fail
      go_meet
      refine ⟨g, cap, cur, ?_, jg, ?_, by omega, hm, by omega, j0, hj, by omega, by omega, by omega⟩
      · rw [Nat.add_comm n 1]
        simpa using j2
      · rw [Nat.add_comm n 1, htake]
        rfl
  case rest =>
    obtain ⟨g, cap, cur, jy, jg, htake, hle, hm, hsz, j0, hj, hg1, hy1, hgy⟩ := hcut
    have c0 := j0.cell
    go_wp2_with (go_at_call 30; refine (callsIn_wide.1 (full_in 3 _ _ _ _ _ _ _ _ _ _ _)).mono ?_; rintro e w' ⟨rfl, rfl⟩)
    have kb := below_alloc wc (.cells (obC n s0 g0 s1 g1 s2 g2 s3 g3 false) 27)
    replace jy := jy.on kb
    replace jg := jg.on kb
    replace hj := chain hj kb
    have jn : Row (wc.alloc (.cells (obC n s0 g0 s1 g1 s2 g2 s3 g3 false) 27)) wc.heap.size (obC n s0 g0 s1 g1 s2 g2 s3 g3 false) 27 := Row.new
    clear c0 j0 kb
    generalize hW8 : wc.alloc (.cells (obC n s0 g0 s1 g1 s2 g2 s3 g3 false) 27) = W8 at *
    clear hW8
    generalize hbn : wc.heap.size = bn at *
    clear hbn
    have hro : Fence.wide.round = none := rfl
    have HE := Lib.hid hE
    clear hE
    refine wpIn_wide.1 (?_ : Code.wpIn Fence.wide 3 _ _ _ _ _)
    refine wpIn_rangeFunc_ownH hro (by omega) (gf := 42) (lb := #[.pointer (some ⟨bn, 0, none⟩)]) rfl trivial (enters_of Tryd.func42 (by kernel_rfl) rfl)
      (full_stopsP (fun x => 0 ≤ x.1 ∧ x.1 < (n : Int) ∧ rOk x.2 = true) 2 bn (by omega) n s0 g0 s1 g1 s2 g2 s3 g3 false (Below w.heap.size) W8 jn.lt jn HP.out) belowK_t (belowK_b (by have := hj.size; omega)) (Below.refl _ _) (fun _ => rfl)
      (fun pre W => ((∃ cur, Row W g cur 9 ∧ cur.size = cap ∧ cur.toList.take (n + 1) = .string ⟨#[111, 98, 106, 101, 99, 116]⟩ :: wordsOf n (pre.map (·.1))) ∧ W.cell? ⟨x1 + 1, 0, none⟩ = some (.slice (some ⟨g, 0, none⟩) (n + 1) cap)) ∧ Below w.heap.size w W)
      (fun _ _ _ => False)
      (OwnFrom.and (Own.from (fun s A B row hs hg hr => ⟨by obtain ⟨cur, h1, h2⟩ := hs.1; exact ⟨cur, row_kept h1 hg hr, h2⟩, cell_kept hs.2 hg hr⟩) _) (ownFrom_below (Nat.le_refl _) (by have := hj.size; omega)))
      (fun _ _ _ _ _ hs _ _ => hs)
      ⟨⟨⟨cur, jg, hsz, htake⟩, jy.cell 0⟩, hj⟩
      (fun x a' W => ∃ Bx, x1 + 1 < Bx ∧ g < Bx ∧ Row W Bx (refC x.1.2.1 x.1.2.2) 24 ∧ a' = { tmps := #[obV n s0 g0 s1 g1 s2 g2 s3 g3 false, .pointer (some ⟨w.heap.size, 0, none⟩), .string ⟨#[]⟩, .int .i64 0, .int .i64 0, .pointer (some ⟨x1 + 1, 0, none⟩), .int .i64 x.1.1, .pointer (some ⟨Bx, 0, none⟩), u8, u9, u10, u11, u12, u13, u14, u15, u16, u17, u18, u19, u20, u21, u22, u23, u24, .agg #[.int .i64 n, .int .i64 s0, .int .u32 g0, .int .i64 s1, .int .u32 g1, .int .i64 s2, .int .u32 g2, .int .i64 s3, .int .u32 g3, .bool false], .func (.func 42) #[] #[.pointer (some ⟨bn, 0, none⟩)], .int .i64 x.1.1, .agg #[.int .i64 x.1.2.1, .int .u32 x.1.2.2], u29, u30, u31, u32, u33, u34, u35, u36, u37, u38, u39, u40, u41, u42, u43], defers := [] })
      (fun x a' _ X Y row hs hg hr => by obtain ⟨Bx, h1, h2, h3, h4⟩ := hs; exact ⟨Bx, h1, h2, row_kept h3 hg (fun r e => (hr r e).2), h4⟩)
      ?assign ?body ?done ?stop
    case assign =>
      rintro l pre x W K ⟨⟨⟨cur, q1, q2, q3⟩, q4⟩, hB⟩ hK
      have z1 : x1 + 1 < W.heap.size := lt_of_cell q4
      have z2 := q1.lt
      gi_wp2
      exact hK _ _ ((KeepsOthers.alloc _ _).from _) ((Below.refl _ W).alloc hB.size _) ⟨⟨⟨cur, q1.on (below_alloc W _), q2, q3⟩, keep_cell (below_alloc W _) z1 q4⟩, hB.alloc hB.size _⟩ ⟨W.heap.size, z1, z2, Row.new, rfl⟩
    case body =>
      rintro l pre x a' W hl ⟨r, hr⟩ ⟨⟨⟨cur, q1, q2, q3⟩, q4⟩, hB⟩ ⟨Bx, hBx, hBg, qx, rfl⟩ hlt
      obtain ⟨hx0, hx1, hx2⟩ := x.2
      obtain ⟨⟨i, s, g'⟩, hX⟩ : ∃ X : Int × Rf, x.1 = X := ⟨_, rfl⟩
      rw [hX] at hx0 hx1 hx2 qx ⊢
      simp only at hx0 hx1 hx2 qx ⊢
      obtain ⟨t0, t1, t2, t3⟩ := rOk_iff.1 hx2
      simp only at t0 t1 t2 t3
      obtain ⟨k, rfl⟩ := Int.eq_ofNat_of_zero_le hx0
      obtain ⟨sl, rfl⟩ := Int.eq_ofNat_of_zero_le t0
      obtain ⟨gn, rfl⟩ := Int.eq_ofNat_of_zero_le (show 0 ≤ g' by omega)
      have hnn := rOk_none hx2
      have hE1 := HE.out.on hB
      have z1 : x1 + 1 < W.heap.size := lt_of_cell q4
      have p1 := digits_size_le sl (by omega)
      have p2 := digits_size_le gn (by omega)
      have a1 := add_run (a := digits sl) (b := ⟨#[46]⟩) rfl (by simp only [show (ByteArray.mk #[46]).size = 1 from rfl]; omega)
      have a2 := add_run (a := digits sl ++ ⟨#[46]⟩) (b := digits gn) rfl (by simp only [ByteArray.size_append, show (ByteArray.mk #[46]).size = 1 from rfl]; omega)
      have ei : Lib.itoa (sl : Int) = Go.Lib.decDigits sl := Lib.itoa_nonneg sl
      have ed : (⟨(Go.Lib.decDigits sl).toArray⟩ : ByteArray) = digits sl := rfl
      have eg : (⟨(Go.Lib.decDigits gn).toArray⟩ : ByteArray) = digits gn := rfl
      have c1 := fun w hE => strconv_Itoa (sl : Int) w hE (by omega) (by omega)
      have c2 := fun w hE => strconv_FormatUint gn (by omega) w hE
      rw [ei, ed] at c1
      rw [eg] at c2
      have e1 : IntKind.i64.wrap ((k : Int) + 1) = ((k + 1 : Nat) : Int) := by rw [IntKind.wrap_i64]; omega
      have e2 : IntKind.u64.wrap (gn : Int) = (gn : Int) := by rw [IntKind.wrap_u64]; omega
      have hkn : k < n := by omega
      have ht : rText ((sl : Int), (gn : Int)) = digits sl ++ ⟨#[46]⟩ ++ digits gn := by unfold rText; rw [hnn]; rfl
      have HXX := Lib.hid hX
      have C1 := Lib.hid c1
      have C2 := Lib.hid c2
      have HT := Lib.hid ht
      have HQ := Lib.hid q3
      have HQ2 := Lib.hid q2
      have HLE := Lib.hid hle
      have HKN := Lib.hid hkn
      clear hX ei ed eg c1 c2 ht q3 q2 hx2 hnn hx0 t0 t1 t2 t3 hx1 htake hle hkn hsz hn
      have qc := qx.cell
      gi_wp2
      refine wpIn_region_round (S := fun W' => (∀ j, W'.cell? ⟨Bx, j, none⟩ = (refC sl gn)[j]?) ∧ W'.cell? ⟨x1 + 1, 0, none⟩ = some (.slice (some ⟨g, 0, none⟩) (n + 1) cap)) (by kernel_rfl) (by kernel_rfl) ⟨qc, q4⟩ (fun hHeld => ?_)
      refine' wpAnyH_take (i := 0) (oi := _) (v := _) ?_ (by kernel_rfl) (by kernel_rfl) (by kernel_rfl) ?_ (Or.inl ⟨?_, ?_⟩) (by assumption) ?_
      rotate_left 2
      · (simp only [List.getElem?_toArray, List.getElem?_cons_succ, List.getElem?_cons_zero]; rfl)
      · first | exact fun _ _ _ h => h | exact fun _ _ _ h => nomatch h.1
      · rfl
      · (intro W hSW; (try dsimp only at hSW); go_split_ands; first | (go_simp; done) | (go_simp; with_reducible rfl))
      try simp only [Act.put, List.setIfInBounds_toArray, List.set_cons_zero, List.set_cons_succ]
      refine' wpAnyH_take (i := 1) (oi := _) (v := _) ?_ (by kernel_rfl) (by kernel_rfl) (by kernel_rfl) ?_ (Or.inl ⟨?_, ?_⟩) (by assumption) ?_
      rotate_left 2
      · (simp only [List.getElem?_toArray, List.getElem?_cons_succ, List.getElem?_cons_zero]; rfl)
      · first | exact fun _ _ _ h => h | exact fun _ _ _ h => nomatch h.1
      · rfl
      · (intro W hSW; (try dsimp only at hSW); go_split_ands; first | (go_simp; done) | (go_simp; with_reducible rfl))
      try simp only [Act.put, List.setIfInBounds_toArray, List.set_cons_zero, List.set_cons_succ]
      refine' wpAnyH_take (i := 2) (oi := _) (v := _) ?_ (by kernel_rfl) (by kernel_rfl) (by kernel_rfl) ?_ (Or.inl ⟨?_, ?_⟩) (by assumption) ?_
      rotate_left 2
      · (simp only [List.getElem?_toArray, List.getElem?_cons_succ, List.getElem?_cons_zero]; rfl)
      · first | exact fun _ _ _ h => h | exact fun _ _ _ h => nomatch h.1
      · rfl
      · (intro W hSW; (try dsimp only at hSW); go_split_ands; first | (go_simp; done) | (go_simp; with_reducible rfl))
      try simp only [Act.put, List.setIfInBounds_toArray, List.set_cons_zero, List.set_cons_succ]
      refine' wpAnyH_take (i := 3) (oi := _) (v := _) ?_ (by kernel_rfl) (by kernel_rfl) (by kernel_rfl) ?_ (Or.inl ⟨?_, ?_⟩) (by assumption) ?_
      rotate_left 2
      · (simp only [List.getElem?_toArray, List.getElem?_cons_succ, List.getElem?_cons_zero]; rfl)
      · first | exact fun _ _ _ h => h | exact fun _ _ _ h => nomatch h.1
      · rfl
      · (intro W hSW; (try dsimp only at hSW); go_split_ands; first | (go_simp; done) | (go_simp; with_reducible rfl))
      try simp only [Act.put, List.setIfInBounds_toArray, List.set_cons_zero, List.set_cons_succ]
      refine' wpAnyH_take (i := 4) (oi := _) (v := _) ?_ (by kernel_rfl) (by kernel_rfl) (by kernel_rfl) ?_ (Or.inl ⟨?_, ?_⟩) (by assumption) ?_
      rotate_left 2
      · (simp only [List.getElem?_toArray, List.getElem?_cons_succ, List.getElem?_cons_zero]; rfl)
      · first | exact fun _ _ _ h => h | exact fun _ _ _ h => nomatch h.1
      · rfl
      · (intro W hSW; (try dsimp only at hSW); go_split_ands; first | (go_simp; done) | (go_simp; with_reducible rfl))
      try simp only [Act.put, List.setIfInBounds_toArray, List.set_cons_zero, List.set_cons_succ]
      refine' wpAnyH_take (i := 7) (oi := _) (v := _) ?_ (by kernel_rfl) (by kernel_rfl) (by kernel_rfl) ?_ (Or.inl ⟨?_, ?_⟩) (by assumption) ?_
      rotate_left 2
      · (simp only [List.getElem?_toArray, List.getElem?_cons_succ, List.getElem?_cons_zero]; rfl)
      · first | exact fun _ _ _ h => h | exact fun _ _ _ h => nomatch h.1
      · rfl
      · (intro W hSW; (try dsimp only at hSW); go_split_ands; first | (go_simp; done) | (go_simp; with_reducible rfl))
      try simp only [Act.put, List.setIfInBounds_toArray, List.set_cons_zero, List.set_cons_succ]
      refine' wpAnyH_take (i := 8) (oi := _) (v := _) ?_ (by kernel_rfl) (by kernel_rfl) (by kernel_rfl) ?_ (Or.inl ⟨?_, ?_⟩) (by assumption) ?_
      rotate_left 2
      · (simp only [List.getElem?_toArray, List.getElem?_cons_succ, List.getElem?_cons_zero]; rfl)
      · first | exact fun _ _ _ h => h | exact fun _ _ _ h => nomatch h.1
      · rfl
      · (intro W hSW; (try dsimp only at hSW); go_split_ands; first | (go_simp; done) | (go_simp; with_reducible rfl))
      try simp only [Act.put, List.setIfInBounds_toArray, List.set_cons_zero, List.set_cons_succ]
      refine' wpAnyH_take (i := 9) (oi := _) (v := _) ?_ (by kernel_rfl) (by kernel_rfl) (by kernel_rfl) ?_ (Or.inl ⟨?_, ?_⟩) (by assumption) ?_
      rotate_left 2
      · (simp only [List.getElem?_toArray, List.getElem?_cons_succ, List.getElem?_cons_zero]; rfl)
      · first | exact fun _ _ _ h => h | exact fun _ _ _ h => nomatch h.1
      · rfl
      · (intro W hSW; (try dsimp only at hSW); go_split_ands; first | (go_simp; done) | (go_simp; with_reducible rfl))
      try simp only [Act.put, List.setIfInBounds_toArray, List.set_cons_zero, List.set_cons_succ]
      refine wpAnyH_ready (rs := [5]) (by kernel_rfl) (by simp) ?_
      refine' AllReadyH.cons (o := _) ?_ (fun K hK => ?_) AllReadyH.nil
      rotate_left 1
      · (simp only [List.getElem?_toArray, List.getElem?_cons_succ, List.getElem?_cons_zero]; rfl)
      go_simp
      refine (C1.out _ hE1.drew).mono ?_
      rintro e w2 ⟨rfl, hb2⟩
      have kk2 : KeepsOthers W w2 := (KeepsOthers.drew W).trans (keeps_below hb2)
      have qq1 := q1.drew.on hb2
      have qqx := qx.drew.on hb2
      have qq4 := keep_cell hb2 z1 q4
      have B2 : Below W.heap.size W w2 := off_drew hb2
      have hE2 := HE.out.on (chain hB B2)
      have hB2 := B2.mono hB.size
      have z2 : x1 + 1 < w2.heap.size := Nat.lt_of_lt_of_le z1 B2.size
      go_simp
      refine hK.out _ _ ⟨qqx.cell, qq4⟩ (fun hHeld => ?_)
      clear hK K
      refine' wpAnyH_take (i := 6) (oi := _) (v := _) ?_ (by kernel_rfl) (by kernel_rfl) (by kernel_rfl) ?_ (Or.inl ⟨?_, ?_⟩) (by assumption) ?_
      rotate_left 2
      · (simp only [List.getElem?_toArray, List.getElem?_cons_succ, List.getElem?_cons_zero]; rfl)
      · first | exact fun _ _ _ h => h | exact fun _ _ _ h => nomatch h.1
      · rfl
      · (intro W hSW; (try dsimp only at hSW); go_split_ands; first | (go_simp; done) | (go_simp; with_reducible rfl))
      try simp only [Act.put, List.setIfInBounds_toArray, List.set_cons_zero, List.set_cons_succ]
      refine wpAnyH_ready (rs := [10]) (by kernel_rfl) (by simp) ?_
      refine' AllReadyH.cons (o := _) ?_ (fun K hK => ?_) AllReadyH.nil
      rotate_left 1
      · (simp only [List.getElem?_toArray, List.getElem?_cons_succ, List.getElem?_cons_zero]; rfl)
      go_simp
      refine (C2.out _ hE2.tabIs).mono ?_
      rintro e w3 ⟨rfl, hb3⟩
      have kk3 : KeepsOthers W w3 := kk2.trans (keeps_below hb3)
      have vv1 := qq1.on hb3
      have vvx := qqx.on hb3
      have vv4 := keep_cell hb3 z2 qq4
      have hB3 : Below w.heap.size W w3 := hB2.trans (hb3.mono (Nat.le_trans hB.size hB2.size))
      go_simp
      refine hK.out _ _ ⟨vvx.cell, vv4⟩ (fun hHeld => ?_)
      clear hK K
      have hkn := HKN.out
      have ix1 : (k : Int) + 1 < (n : Int) + 1 := by omega
      have ix0 : 0 ≤ (k : Int) + 1 := by omega
      have hks : k + 1 < cur.size := by have h1 := HQ2.out; have h2 := HLE.out; omega
      have gc : w3.cell? ⟨g, k + 1, none⟩ = some cur[k + 1] := (vv1.cell _).trans (by simp [hks])
      have gf := vv1.free
      refine' wpAnyH_take (i := 11) (oi := _) (v := _) ?_ (by kernel_rfl) (by kernel_rfl) (by kernel_rfl) ?_ (Or.inl ⟨?_, ?_⟩) (by assumption) ?_
      rotate_left 2
      · (simp only [List.getElem?_toArray, List.getElem?_cons_succ, List.getElem?_cons_zero]; rfl)
      · first | exact fun _ _ _ h => h | exact fun _ _ _ h => nomatch h.1
      · rfl
      · (intro W hSW; (try dsimp only at hSW); go_split_ands; first | (go_simp; done) | (go_simp; with_reducible rfl))
      try simp only [Act.put, List.setIfInBounds_toArray, List.set_cons_zero, List.set_cons_succ]
      refine' wpAnyH_take (i := 12) (oi := _) (v := _) ?_ (by kernel_rfl) (by kernel_rfl) (by kernel_rfl) ?_ (Or.inl ⟨?_, ?_⟩) (by assumption) ?_
      rotate_left 2
      · (simp only [List.getElem?_toArray, List.getElem?_cons_succ, List.getElem?_cons_zero]; rfl)
      · first | exact fun _ _ _ h => h | exact fun _ _ _ h => nomatch h.1
      · rfl
      · (intro W hSW; (try dsimp only at hSW); go_split_ands; first | (go_simp; done) | (go_simp; with_reducible rfl))
      try simp only [Act.put, List.setIfInBounds_toArray, List.set_cons_zero, List.set_cons_succ]
      refine wpAnyH_ready (rs := [13]) (by kernel_rfl) (by simp) ?_
      refine' AllReadyH.cons (o := _) ?_ (fun K hK => ?_) AllReadyH.nil
      rotate_left 1
      · (simp only [List.getElem?_toArray, List.getElem?_cons_succ, List.getElem?_cons_zero]; rfl)
      go_simp
      have fx := (vvx.other (y := g) (by omega) (k + 1) (.string (digits sl ++ ⟨#[46]⟩ ++ digits gn))).cell
      have f4 := cell_other (j := k + 1) vv4 hgy (.string (digits sl ++ ⟨#[46]⟩ ++ digits gn))
      have fg := vv1.set (k + 1) (.string (digits sl ++ ⟨#[46]⟩ ++ digits gn))
      have hBz := hB3.setCell (p := ⟨g, k + 1, none⟩) (by simp; omega) (.string (digits sl ++ ⟨#[46]⟩ ++ digits gn))
      refine hK.out _ _ ⟨fx, f4⟩ (fun _ => ?_)
      clear hK K
      refine wpAnyH_done (by kernel_rfl) ?_ _
      refine ⟨(by intro h; cases h), ?_⟩
      refine ⟨(kk3.trans (KeepsOthers.setCell _ _ _)).from _, hBz, ⟨⟨_, fg, by have h1 := HQ2.out; simpa using h1, ?_⟩, f4⟩, hB.trans hBz⟩
      rw [List.map_append, List.map_cons, List.map_nil, HXX.out, wordsOf_snoc, Array.toList_setIfInBounds, List.take_set, HQ.out, HT.out]
      rfl
    case done =>
      rintro D zs W hD hS ⟨⟨⟨cur, q1, q2, q3⟩, q4⟩, hB⟩ hK
      rw [hS, words_full hn HOK.out] at q3
      have hn1 : n ≤ 4 := hn
      obtain ⟨xs, hxs⟩ : ∃ xs : List ByteArray, xs = ⟨(kindL false).toArray⟩ :: (([(s0, g0), (s1, g1), (s2, g2), (s3, g3)] : List Rf).take n).map rText := ⟨_, rfl⟩
      have hxl : xs.length = n + 1 := by rw [hxs]; simp; omega
      have hxv : xs.map Value.string = cur.toList.take (n + 1) := by rw [q3, hxs, List.map_cons, List.map_map]; rfl
      have hxj : (⟨(Lib.join (xs.map (·.data.toList)) [32]).toArray⟩ : ByteArray) = oText n (s0, g0) (s1, g1) (s2, g2) (s3, g3) false := by
        unfold oText oL oWords
        rw [hxs, List.map_cons, List.map_map, show ((fun x : ByteArray => x.data.toList) ∘ rText) = rL from funext rText_list, Int.toNat_natCast]
      have hln : (Lib.join (xs.map (·.data.toList)) [32]).length ≤ 140737488355328 := by
        have h1 := congrArg (fun b : ByteArray => b.data.toList.length) hxj
        simp only [oText_list] at h1
        have h2 := (oL_len HOK.out).1
        omega
      have hjn := Tryd.strings_Join g 0 cap xs ⟨#[32]⟩ W (fun j x hx => by
          have hj : j < n + 1 := by
            rcases Nat.lt_or_ge j xs.length with h | h
            · omega
            · rw [List.getElem?_eq_none h] at hx; cases hx
          rw [Nat.zero_add, q1.cell j]
          have h1 : (xs.map Value.string)[j]? = some (.string x) := by rw [List.getElem?_map, hx]; rfl
          rw [hxv, List.getElem?_take, if_pos hj] at h1
          simpa using h1) q1.lt (by omega) (by omega) hln
      rw [hxl, hxj] at hjn
      have HJ := Lib.hid hjn
      have HO := Lib.hid hxj
      have hDW : D < W.heap.size := (Array.getElem?_eq_some_iff.1 hK).1
      clear hjn hxj hln hxs hxl hxv q3 hS htake hle hsz hn hn1 q2
      go_wp2_with fail
      refine HJ.out.mono ?_
      rintro e w3 ⟨rfl, hb3⟩
      have hK3 := (hb3.block D hDW).trans hK
      go_wp2_with fail
      refine ⟨by simp, .inl ⟨_, _, rfl, run_takeDeferred hK3, ?_⟩⟩
      refine ⟨.tuple #[.string (oText n (s0, g0) (s1, g1) (s2, g2) (s3, g3) false), .int .i64 0], ?_, rfl, (chain hB hb3).trans (belowK_b (w := w) (Nat.le_refl _) _ D _ _ (by have := hj.size; omega) hK3 rfl rfl)⟩
      simp [results, Tryd.f23, Tryd.results23, go_sem]
    case stop =>
      rintro D c pre W _ _ h _
      exact h.elim
set_option maxHeartbeats 16000000 in
set_option maxRecDepth 20000 in
theorem ftext_han (n : Nat) (s0 g0 s1 g1 s2 g2 s3 g3 : Int) (w : World) (hE : Env w) (hn : n ≤ 4) (hok : oOk n (s0, g0) (s1, g1) (s2, g2) (s3, g3) true = true) :
    Ret 23 #[obV n s0 g0 s1 g1 s2 g2 s3 g3 true] w (.tuple #[.string (oText n (s0, g0) (s1, g1) (s2, g2) (s3, g3) true), .int .i64 0]) := by
  have hk := fun w => fcheck_c n s0 g0 s1 g1 s2 g2 s3 g3 true w
  rw [show oErr n (s0, g0) (s1, g1) (s2, g2) (s3, g3) true = 0 by unfold oErr; rw [hok]; rfl] at hk
  have HK := Lib.hid hk
  have hP := full_ok hok
  have HP := Lib.hid hP
  have HOK := Lib.hid hok
  clear hP hok
  have r0 : Row (w.alloc (.cells (obC n s0 g0 s1 g1 s2 g2 s3 g3 true) 27)) w.heap.size (obC n s0 g0 s1 g1 s2 g2 s3 g3 true) 27 := Row.new
  have HR0 := Lib.hid r0
  clear hk r0
  refine (callsIn_wide (n := 3)).1 ?_
  refine callsIn_of_wp_marks Tryd.func23 rfl trivial ?_ rfl
  simp only [Tryd.ntmps23, List.size_toArray, List.length_cons, List.length_nil, Nat.reduceAdd, Nat.reduceSub, Array.replicate_succ, Array.replicate_zero, List.push_toArray, List.append_toArray, List.nil_append, List.cons_append]
  refine wpIn_wide.2 ?_
  go_wp2_with fail
  refine Calls.mono (HK.out _) ?_
  rintro e w1 ⟨rfl, hb1⟩
  have a0 := HR0.out.on hb1
  have hc1 : Below w.heap.size w w1 := under hb1
  have z0 := a0.lt
  have c0 := a0.cell
  clear hb1 HR0
  go_wp2_with fail
  have b1 : Row ((w1.alloc (.cells #[.string ⟨#[104, 97, 110, 100, 108, 101]⟩] 9)).alloc (.cells #[.slice (some ⟨w1.heap.size, 0, none⟩) 1 1] 61)) w1.heap.size #[.string ⟨#[104, 97, 110, 100, 108, 101]⟩] 9 := Row.new.on (below_alloc _ _)
  have b2 : Row ((w1.alloc (.cells #[.string ⟨#[104, 97, 110, 100, 108, 101]⟩] 9)).alloc (.cells #[.slice (some ⟨w1.heap.size, 0, none⟩) 1 1] 61)) (w1.heap.size + 1) #[.slice (some ⟨w1.heap.size, 0, none⟩) 1 1] 61 := by simpa using Row.new (W := w1.alloc (.cells #[.string ⟨#[104, 97, 110, 100, 108, 101]⟩] 9)) (cs := #[.slice (some ⟨w1.heap.size, 0, none⟩) 1 1]) (t := 61)
  have b0 := (a0.on (below_alloc w1 (.cells #[.string ⟨#[104, 97, 110, 100, 108, 101]⟩] 9))).on (below_alloc _ (.cells #[.slice (some ⟨w1.heap.size, 0, none⟩) 1 1] 61))
  have hcW : Below w.heap.size w ((w1.alloc (.cells #[.string ⟨#[104, 97, 110, 100, 108, 101]⟩] 9)).alloc (.cells #[.slice (some ⟨w1.heap.size, 0, none⟩) 1 1] 61)) := (hc1.alloc hc1.size _).alloc (by simp; have := hc1.size; omega) _
  have zz : w.heap.size < w1.heap.size := z0
  clear a0 c0 z0 hc1
  generalize hW : ((w1.alloc (.cells #[.string ⟨#[104, 97, 110, 100, 108, 101]⟩] 9)).alloc (.cells #[.slice (some ⟨w1.heap.size, 0, none⟩) 1 1] 61)) = W at *
  clear hW
  generalize hX1 : w1.heap.size = x1 at *
  clear hX1
  go_cut [24] from 8 to 43 (fun s24 wx => Words w (x1 + 1) n (.string ⟨#[104, 97, 110, 100, 108, 101]⟩) (obC n s0 g0 s1 g1 s2 g2 s3 g3 true) wx)
  case first =>
    refine wp_region_held_np (S := fun W' => ∀ j, W'.cell? ⟨w.heap.size, j, none⟩ = (obC n s0 g0 s1 g1 s2 g2 s3 g3 true)[j]?) (by kernel_rfl) b0.cell (fun hHeld => ?_)
    replace b0 := b0.drew
    replace b1 := b1.drew
    replace b2 := b2.drew
    replace hcW := hcW.drew
    generalize W.drew = V at *
    refine' wpAnyH_take (i := 2) (oi := _) (v := _) ?_ (by kernel_rfl) (by kernel_rfl) (by kernel_rfl) ?_ (Or.inl ⟨?_, ?_⟩) (by assumption) ?_
    rotate_left 2
    · (simp only [List.getElem?_toArray, List.getElem?_cons_succ, List.getElem?_cons_zero]; rfl)
    · first | exact fun _ _ _ h => h | exact fun _ _ _ h => nomatch h.1
    · rfl
    · (intro W hSW; (try dsimp only at hSW); go_split_ands; first | (go_simp; done) | (go_simp; with_reducible rfl))
    try simp only [Act.put, List.setIfInBounds_toArray, List.set_cons_zero, List.set_cons_succ]
    refine' wpAnyH_take (i := 3) (oi := _) (v := _) ?_ (by kernel_rfl) (by kernel_rfl) (by kernel_rfl) ?_ (Or.inl ⟨?_, ?_⟩) (by assumption) ?_
    rotate_left 2
    · (simp only [List.getElem?_toArray, List.getElem?_cons_succ, List.getElem?_cons_zero]; rfl)
    · first | exact fun _ _ _ h => h | exact fun _ _ _ h => nomatch h.1
    · rfl
    · (intro W hSW; (try dsimp only at hSW); go_split_ands; first | (go_simp; done) | (go_simp; with_reducible rfl))
    try simp only [Act.put, List.setIfInBounds_toArray, List.set_cons_zero, List.set_cons_succ]
    refine wpAnyH_ready (rs := [0, 1]) (by kernel_rfl) (by simp) ?_
    refine AllReadyH.cons (o := ?o0a) ?l0a (fun K hK => ?m0a) (AllReadyH.cons (o := ?o1a) ?l1a (fun K hK => ?m1a) (AllReadyH.nil))
    case l0a => (simp only [List.getElem?_toArray, List.getElem?_cons_succ, List.getElem?_cons_zero]; rfl)
    case l1a => (simp only [List.getElem?_toArray, List.getElem?_cons_succ, List.getElem?_cons_zero]; rfl)
    case' m0a =>
      have y2 := b2.cell
      go_simp
      refine hK.out _ _ b0.cell (fun _ => ?_)
      clear hK K y2
      refine wpAnyH_ready (rs := [1]) (by kernel_rfl) (by simp) ?_
      refine' AllReadyH.cons (o := _) ?_ (fun K hK => ?_) AllReadyH.nil
      rotate_left 1
      · (simp only [List.getElem?_toArray, List.getElem?_cons_succ, List.getElem?_cons_zero]; rfl)
      go_simp
      have d3 : Row (V.alloc (.cells #[.string ⟨#[45]⟩] 9)) V.heap.size #[.string ⟨#[45]⟩] 9 := Row.new
      have hb := below_alloc V (.cells #[.string ⟨#[45]⟩] 9)
      replace b0 := b0.on hb
      replace b1 := b1.on hb
      replace b2 := b2.on hb
      replace hcW := chain hcW hb
      generalize V.alloc _ = D at b0 b1 b2 d3 hcW ⊢
      generalize V.heap.size = x2 at d3 ⊢
      refine hK.out _ _ b0.cell (fun _ => ?_)
      clear hK K hb
      refine wpAnyH_ready (rs := [4]) (by kernel_rfl) (by simp) ?_
      refine' AllReadyH.cons (o := _) ?_ (fun K hK => ?_) AllReadyH.nil
      rotate_left 1
      · (simp only [List.getElem?_toArray, List.getElem?_cons_succ, List.getElem?_cons_zero]; rfl)
      go_simp
      refine (repeat_c ⟨#[45]⟩ x2 0 1 n _ d3.lt (d3.cell 0) (by omega)).mono ?_
      rintro e D2 ⟨rfl, hb3, f3⟩
      replace b0 := b0.on hb3
      replace b1 := b1.on hb3
      replace b2 := b2.on hb3
      replace hcW := chain hcW hb3
      go_simp
      refine hK.out _ _ b0.cell (fun _ => ?_)
      generalize D.heap.size = x3 at f3 ⊢
      clear hK K hb3
    case' m1a =>
      go_simp
      have d3 : Row (V.alloc (.cells #[.string ⟨#[45]⟩] 9)) V.heap.size #[.string ⟨#[45]⟩] 9 := Row.new
      have hb := below_alloc V (.cells #[.string ⟨#[45]⟩] 9)
      replace b0 := b0.on hb
      replace b1 := b1.on hb
      replace b2 := b2.on hb
      replace hcW := chain hcW hb
      generalize V.alloc _ = D at b0 b1 b2 d3 hcW ⊢
      generalize V.heap.size = x2 at d3 ⊢
      refine hK.out _ _ b0.cell (fun _ => ?_)
      clear hK K hb
      refine wpAnyH_ready (rs := [0, 4]) (by kernel_rfl) (by simp) ?_
      refine AllReadyH.cons (o := ?o0b) ?l0b (fun K hK => ?m0b) (AllReadyH.cons (o := ?o4b) ?l4b (fun K hK => ?m4b) (AllReadyH.nil))
      case l0b => (simp only [List.getElem?_toArray, List.getElem?_cons_succ, List.getElem?_cons_zero]; rfl)
      case l4b => (simp only [List.getElem?_toArray, List.getElem?_cons_succ, List.getElem?_cons_zero]; rfl)
    case' m0b =>
      have y2 := b2.cell
      go_simp
      refine hK.out _ _ b0.cell (fun _ => ?_)
      clear hK K y2
      refine wpAnyH_ready (rs := [4]) (by kernel_rfl) (by simp) ?_
      refine' AllReadyH.cons (o := _) ?_ (fun K hK => ?_) AllReadyH.nil
      rotate_left 1
      · (simp only [List.getElem?_toArray, List.getElem?_cons_succ, List.getElem?_cons_zero]; rfl)
      go_simp
      refine (repeat_c ⟨#[45]⟩ x2 0 1 n _ d3.lt (d3.cell 0) (by omega)).mono ?_
      rintro e D2 ⟨rfl, hb3, f3⟩
      replace b0 := b0.on hb3
      replace b1 := b1.on hb3
      replace b2 := b2.on hb3
      replace hcW := chain hcW hb3
      go_simp
      refine hK.out _ _ b0.cell (fun _ => ?_)
      generalize D.heap.size = x3 at f3 ⊢
      clear hK K hb3
    case' m4b =>
      go_simp
      refine (repeat_c ⟨#[45]⟩ x2 0 1 n _ d3.lt (d3.cell 0) (by omega)).mono ?_
      rintro e D2 ⟨rfl, hb3, f3⟩
      replace b0 := b0.on hb3
      replace b1 := b1.on hb3
      replace b2 := b2.on hb3
      replace hcW := chain hcW hb3
      go_simp
      refine hK.out _ _ b0.cell (fun _ => ?_)
      generalize D.heap.size = x3 at f3 ⊢
      clear hK K hb3
      have y2 := b2.cell
      refine wpAnyH_ready (rs := [0]) (by kernel_rfl) (by simp) ?_
      refine' AllReadyH.cons (o := _) ?_ (fun K hK => ?_) AllReadyH.nil
      rotate_left 1
      · (simp only [List.getElem?_toArray, List.getElem?_cons_succ, List.getElem?_cons_zero]; rfl)
      go_simp
      refine hK.out _ _ b0.cell (fun _ => ?_)
      clear hK K y2
    all_goals
      refine wpAnyH_ready (rs := [5]) (by kernel_rfl) (by simp) ?_
      refine' AllReadyH.cons (o := _) ?_ (fun K hK => ?_) AllReadyH.nil
      rotate_left 1
      · (simp only [List.getElem?_toArray, List.getElem?_cons_succ, List.getElem?_cons_zero]; rfl)
      go_simp
      have i4 : Row (D2.alloc (.cells #[.slice (some ⟨x1, 0, none⟩) 1 1, .slice (some ⟨x3, 0, none⟩) n n] 61)) D2.heap.size #[.slice (some ⟨x1, 0, none⟩) 1 1, .slice (some ⟨x3, 0, none⟩) n n] 61 := Row.new
      have hb := below_alloc D2 (.cells #[.slice (some ⟨x1, 0, none⟩) 1 1, .slice (some ⟨x3, 0, none⟩) n n] 61)
      replace b0 := b0.on hb
      replace b1 := b1.on hb
      replace b2 := b2.on hb
      replace f3 := f3.on hb
      replace hcW := chain hcW hb
      generalize D2.alloc _ = D4 at b0 b1 b2 f3 i4 hcW ⊢
      generalize D2.heap.size = x4 at i4 ⊢
      refine hK.out _ _ b0.cell (fun _ => ?_)
      clear hK K hb
      refine wpAnyH_ready (rs := [6]) (by kernel_rfl) (by simp) ?_
      refine' AllReadyH.cons (o := _) ?_ (fun K hK => ?_) AllReadyH.nil
      rotate_left 1
      · (simp only [List.getElem?_toArray, List.getElem?_cons_succ, List.getElem?_cons_zero]; rfl)
      go_simp
      have hgy := b2.lt
      refine (concat_c x4 ⟨x1, 0, none⟩ ⟨x3, 0, none⟩ 1 n [.string ⟨#[104, 97, 110, 100, 108, 101]⟩] (List.replicate n (.string ⟨#[45]⟩)) _ (by rw [List.length_replicate]; exact i4) (row_src b1) (row_src f3) b1.lt f3.lt (by simp) (by simp) (by simp; omega) (by intro v hv; rw [List.mem_singleton.1 hv]; rfl) (by intro v hv; rw [List.eq_of_mem_replicate hv]; rfl)).mono ?_
      rintro e w5 ⟨v, rfl, ho, hb5⟩
      replace b0 := b0.on hb5
      replace b2 := b2.on hb5
      replace hcW := chain hcW hb5
      have zg := b2.lt
      rw [List.length_replicate] at ho
      rcases ho.2 with ⟨_, h0⟩ | ⟨g, cap, cur, rfl, hgb, hrow, hle, hm, hsz, htake⟩
      · simp at h0
      go_simp
      refine hK.out _ _ b0.cell (fun _ => ?_)
      clear hK K
      simp only [List.length_cons, List.length_nil, Nat.zero_add, Nat.mul_one] at hle htake hsz
      have y2 := b2.cell
      have u2 := b2.free
      refine wpAnyH_ready (rs := [7]) (by kernel_rfl) (by simp) ?_
      refine' AllReadyH.cons (o := _) ?_ (fun K hK => ?_) AllReadyH.nil
      rotate_left 1
      · (simp only [List.getElem?_toArray, List.getElem?_cons_succ, List.getElem?_cons_zero]; rfl)
      go_simp
      have j0 := b0.other (y := x1 + 1) (by omega) 0 (.slice (some ⟨g, 0, none⟩) (1 + n) cap)
      have jg := Row.other (⟨hrow⟩ : Row w5 g cur 9) (y := x1 + 1) (by omega) 0 (.slice (some ⟨g, 0, none⟩) (1 + n) cap)
      have j2 := b2.set 0 (.slice (some ⟨g, 0, none⟩) (1 + n) cap)
      have hj : Below w.heap.size w (w5.setCell ⟨x1 + 1, 0, none⟩ (.slice (some ⟨g, 0, none⟩) (1 + n) cap)) := hcW.setCell (p := ⟨x1 + 1, 0, none⟩) (by simp; omega) _
      refine hK.out _ _ j0.cell (fun _ => ?_)
      clear hK K
      refine wpAnyH_done (by kernel_rfl) ?_ _
      refine ⟨rfl, ?_⟩
      go_wp2_with fail
      go_meet
      refine ⟨g, cap, cur, ?_, jg, ?_, by omega, hm, by omega, j0, hj, by omega, by omega, by omega⟩
      · rw [Nat.add_comm n 1]
        simpa using j2
      · rw [Nat.add_comm n 1, htake]
        rfl
  case rest =>
    obtain ⟨g, cap, cur, jy, jg, htake, hle, hm, hsz, j0, hj, hg1, hy1, hgy⟩ := hcut
    have c0 := j0.cell
    go_wp2_with (go_at_call 30; refine (callsIn_wide.1 (full_in 3 _ _ _ _ _ _ _ _ _ _ _)).mono ?_; rintro e w' ⟨rfl, rfl⟩)
    have kb := below_alloc wc (.cells (obC n s0 g0 s1 g1 s2 g2 s3 g3 true) 27)
    replace jy := jy.on kb
    replace jg := jg.on kb
    replace hj := chain hj kb
    have jn : Row (wc.alloc (.cells (obC n s0 g0 s1 g1 s2 g2 s3 g3 true) 27)) wc.heap.size (obC n s0 g0 s1 g1 s2 g2 s3 g3 true) 27 := Row.new
    clear c0 j0 kb
    generalize hW8 : wc.alloc (.cells (obC n s0 g0 s1 g1 s2 g2 s3 g3 true) 27) = W8 at *
    clear hW8
    generalize hbn : wc.heap.size = bn at *
    clear hbn
    have hro : Fence.wide.round = none := rfl
    have HE := Lib.hid hE
    clear hE
    refine wpIn_wide.1 (?_ : Code.wpIn Fence.wide 3 _ _ _ _ _)
    refine wpIn_rangeFunc_ownH hro (by omega) (gf := 42) (lb := #[.pointer (some ⟨bn, 0, none⟩)]) rfl trivial (enters_of Tryd.func42 (by kernel_rfl) rfl)
      (full_stopsP (fun x => 0 ≤ x.1 ∧ x.1 < (n : Int) ∧ rOk x.2 = true) 2 bn (by omega) n s0 g0 s1 g1 s2 g2 s3 g3 true (Below w.heap.size) W8 jn.lt jn HP.out) belowK_t (belowK_b (by have := hj.size; omega)) (Below.refl _ _) (fun _ => rfl)
      (fun pre W => ((∃ cur, Row W g cur 9 ∧ cur.size = cap ∧ cur.toList.take (n + 1) = .string ⟨#[104, 97, 110, 100, 108, 101]⟩ :: wordsOf n (pre.map (·.1))) ∧ W.cell? ⟨x1 + 1, 0, none⟩ = some (.slice (some ⟨g, 0, none⟩) (n + 1) cap)) ∧ Below w.heap.size w W)
      (fun _ _ _ => False)
      (OwnFrom.and (Own.from (fun s A B row hs hg hr => ⟨by obtain ⟨cur, h1, h2⟩ := hs.1; exact ⟨cur, row_kept h1 hg hr, h2⟩, cell_kept hs.2 hg hr⟩) _) (ownFrom_below (Nat.le_refl _) (by have := hj.size; omega)))
      (fun _ _ _ _ _ hs _ _ => hs)
      ⟨⟨⟨cur, jg, hsz, htake⟩, jy.cell 0⟩, hj⟩
      (fun x a' W => ∃ Bx, x1 + 1 < Bx ∧ g < Bx ∧ Row W Bx (refC x.1.2.1 x.1.2.2) 24 ∧ a' = { tmps := #[obV n s0 g0 s1 g1 s2 g2 s3 g3 true, .pointer (some ⟨w.heap.size, 0, none⟩), .string ⟨#[]⟩, .int .i64 0, .int .i64 0, .pointer (some ⟨x1 + 1, 0, none⟩), .int .i64 x.1.1, .pointer (some ⟨Bx, 0, none⟩), u8, u9, u10, u11, u12, u13, u14, u15, u16, u17, u18, u19, u20, u21, u22, u23, u24, .agg #[.int .i64 n, .int .i64 s0, .int .u32 g0, .int .i64 s1, .int .u32 g1, .int .i64 s2, .int .u32 g2, .int .i64 s3, .int .u32 g3, .bool true], .func (.func 42) #[] #[.pointer (some ⟨bn, 0, none⟩)], .int .i64 x.1.1, .agg #[.int .i64 x.1.2.1, .int .u32 x.1.2.2], u29, u30, u31, u32, u33, u34, u35, u36, u37, u38, u39, u40, u41, u42, u43], defers := [] })
      (fun x a' _ X Y row hs hg hr => by obtain ⟨Bx, h1, h2, h3, h4⟩ := hs; exact ⟨Bx, h1, h2, row_kept h3 hg (fun r e => (hr r e).2), h4⟩)
      ?assign ?body ?done ?stop
    case assign =>
      rintro l pre x W K ⟨⟨⟨cur, q1, q2, q3⟩, q4⟩, hB⟩ hK
      have z1 : x1 + 1 < W.heap.size := lt_of_cell q4
      have z2 := q1.lt
      gi_wp2
      exact hK _ _ ((KeepsOthers.alloc _ _).from _) ((Below.refl _ W).alloc hB.size _) ⟨⟨⟨cur, q1.on (below_alloc W _), q2, q3⟩, keep_cell (below_alloc W _) z1 q4⟩, hB.alloc hB.size _⟩ ⟨W.heap.size, z1, z2, Row.new, rfl⟩
    case body =>
      rintro l pre x a' W hl ⟨r, hr⟩ ⟨⟨⟨cur, q1, q2, q3⟩, q4⟩, hB⟩ ⟨Bx, hBx, hBg, qx, rfl⟩ hlt
      obtain ⟨hx0, hx1, hx2⟩ := x.2
      obtain ⟨⟨i, s, g'⟩, hX⟩ : ∃ X : Int × Rf, x.1 = X := ⟨_, rfl⟩
      rw [hX] at hx0 hx1 hx2 qx ⊢
      simp only at hx0 hx1 hx2 qx ⊢
      obtain ⟨t0, t1, t2, t3⟩ := rOk_iff.1 hx2
      simp only at t0 t1 t2 t3
      obtain ⟨k, rfl⟩ := Int.eq_ofNat_of_zero_le hx0
      obtain ⟨sl, rfl⟩ := Int.eq_ofNat_of_zero_le t0
      obtain ⟨gn, rfl⟩ := Int.eq_ofNat_of_zero_le (show 0 ≤ g' by omega)
      have hnn := rOk_none hx2
      have hE1 := HE.out.on hB
      have z1 : x1 + 1 < W.heap.size := lt_of_cell q4
      have p1 := digits_size_le sl (by omega)
      have p2 := digits_size_le gn (by omega)
      have a1 := add_run (a := digits sl) (b := ⟨#[46]⟩) rfl (by simp only [show (ByteArray.mk #[46]).size = 1 from rfl]; omega)
      have a2 := add_run (a := digits sl ++ ⟨#[46]⟩) (b := digits gn) rfl (by simp only [ByteArray.size_append, show (ByteArray.mk #[46]).size = 1 from rfl]; omega)
      have ei : Lib.itoa (sl : Int) = Go.Lib.decDigits sl := Lib.itoa_nonneg sl
      have ed : (⟨(Go.Lib.decDigits sl).toArray⟩ : ByteArray) = digits sl := rfl
      have eg : (⟨(Go.Lib.decDigits gn).toArray⟩ : ByteArray) = digits gn := rfl
      have c1 := fun w hE => strconv_Itoa (sl : Int) w hE (by omega) (by omega)
      have c2 := fun w hE => strconv_FormatUint gn (by omega) w hE
      rw [ei, ed] at c1
      rw [eg] at c2
      have e1 : IntKind.i64.wrap ((k : Int) + 1) = ((k + 1 : Nat) : Int) := by rw [IntKind.wrap_i64]; omega
      have e2 : IntKind.u64.wrap (gn : Int) = (gn : Int) := by rw [IntKind.wrap_u64]; omega
      have hkn : k < n := by omega
      have ht : rText ((sl : Int), (gn : Int)) = digits sl ++ ⟨#[46]⟩ ++ digits gn := by unfold rText; rw [hnn]; rfl
      have HXX := Lib.hid hX
      have C1 := Lib.hid c1
      have C2 := Lib.hid c2
      have HT := Lib.hid ht
      have HQ := Lib.hid q3
      have HQ2 := Lib.hid q2
      have HLE := Lib.hid hle
      have HKN := Lib.hid hkn
      clear hX ei ed eg c1 c2 ht q3 q2 hx2 hnn hx0 t0 t1 t2 t3 hx1 htake hle hkn hsz hn
      have qc := qx.cell
      gi_wp2
      refine wpIn_region_round (S := fun W' => (∀ j, W'.cell? ⟨Bx, j, none⟩ = (refC sl gn)[j]?) ∧ W'.cell? ⟨x1 + 1, 0, none⟩ = some (.slice (some ⟨g, 0, none⟩) (n + 1) cap)) (by kernel_rfl) (by kernel_rfl) ⟨qc, q4⟩ (fun hHeld => ?_)
      refine' wpAnyH_take (i := 0) (oi := _) (v := _) ?_ (by kernel_rfl) (by kernel_rfl) (by kernel_rfl) ?_ (Or.inl ⟨?_, ?_⟩) (by assumption) ?_
      rotate_left 2
      · (simp only [List.getElem?_toArray, List.getElem?_cons_succ, List.getElem?_cons_zero]; rfl)
      · first | exact fun _ _ _ h => h | exact fun _ _ _ h => nomatch h.1
      · rfl
      · (intro W hSW; (try dsimp only at hSW); go_split_ands; first | (go_simp; done) | (go_simp; with_reducible rfl))
      try simp only [Act.put, List.setIfInBounds_toArray, List.set_cons_zero, List.set_cons_succ]
      refine' wpAnyH_take (i := 1) (oi := _) (v := _) ?_ (by kernel_rfl) (by kernel_rfl) (by kernel_rfl) ?_ (Or.inl ⟨?_, ?_⟩) (by assumption) ?_
      rotate_left 2
      · (simp only [List.getElem?_toArray, List.getElem?_cons_succ, List.getElem?_cons_zero]; rfl)
      · first | exact fun _ _ _ h => h | exact fun _ _ _ h => nomatch h.1
      · rfl
      · (intro W hSW; (try dsimp only at hSW); go_split_ands; first | (go_simp; done) | (go_simp; with_reducible rfl))
      try simp only [Act.put, List.setIfInBounds_toArray, List.set_cons_zero, List.set_cons_succ]
      refine' wpAnyH_take (i := 2) (oi := _) (v := _) ?_ (by kernel_rfl) (by kernel_rfl) (by kernel_rfl) ?_ (Or.inl ⟨?_, ?_⟩) (by assumption) ?_
      rotate_left 2
      · (simp only [List.getElem?_toArray, List.getElem?_cons_succ, List.getElem?_cons_zero]; rfl)
      · first | exact fun _ _ _ h => h | exact fun _ _ _ h => nomatch h.1
      · rfl
      · (intro W hSW; (try dsimp only at hSW); go_split_ands; first | (go_simp; done) | (go_simp; with_reducible rfl))
      try simp only [Act.put, List.setIfInBounds_toArray, List.set_cons_zero, List.set_cons_succ]
      refine' wpAnyH_take (i := 3) (oi := _) (v := _) ?_ (by kernel_rfl) (by kernel_rfl) (by kernel_rfl) ?_ (Or.inl ⟨?_, ?_⟩) (by assumption) ?_
      rotate_left 2
      · (simp only [List.getElem?_toArray, List.getElem?_cons_succ, List.getElem?_cons_zero]; rfl)
      · first | exact fun _ _ _ h => h | exact fun _ _ _ h => nomatch h.1
      · rfl
      · (intro W hSW; (try dsimp only at hSW); go_split_ands; first | (go_simp; done) | (go_simp; with_reducible rfl))
      try simp only [Act.put, List.setIfInBounds_toArray, List.set_cons_zero, List.set_cons_succ]
      refine' wpAnyH_take (i := 4) (oi := _) (v := _) ?_ (by kernel_rfl) (by kernel_rfl) (by kernel_rfl) ?_ (Or.inl ⟨?_, ?_⟩) (by assumption) ?_
      rotate_left 2
      · (simp only [List.getElem?_toArray, List.getElem?_cons_succ, List.getElem?_cons_zero]; rfl)
      · first | exact fun _ _ _ h => h | exact fun _ _ _ h => nomatch h.1
      · rfl
      · (intro W hSW; (try dsimp only at hSW); go_split_ands; first | (go_simp; done) | (go_simp; with_reducible rfl))
      try simp only [Act.put, List.setIfInBounds_toArray, List.set_cons_zero, List.set_cons_succ]
      refine' wpAnyH_take (i := 7) (oi := _) (v := _) ?_ (by kernel_rfl) (by kernel_rfl) (by kernel_rfl) ?_ (Or.inl ⟨?_, ?_⟩) (by assumption) ?_
      rotate_left 2
      · (simp only [List.getElem?_toArray, List.getElem?_cons_succ, List.getElem?_cons_zero]; rfl)
      · first | exact fun _ _ _ h => h | exact fun _ _ _ h => nomatch h.1
      · rfl
      · (intro W hSW; (try dsimp only at hSW); go_split_ands; first | (go_simp; done) | (go_simp; with_reducible rfl))
      try simp only [Act.put, List.setIfInBounds_toArray, List.set_cons_zero, List.set_cons_succ]
      refine' wpAnyH_take (i := 8) (oi := _) (v := _) ?_ (by kernel_rfl) (by kernel_rfl) (by kernel_rfl) ?_ (Or.inl ⟨?_, ?_⟩) (by assumption) ?_
      rotate_left 2
      · (simp only [List.getElem?_toArray, List.getElem?_cons_succ, List.getElem?_cons_zero]; rfl)
      · first | exact fun _ _ _ h => h | exact fun _ _ _ h => nomatch h.1
      · rfl
      · (intro W hSW; (try dsimp only at hSW); go_split_ands; first | (go_simp; done) | (go_simp; with_reducible rfl))
      try simp only [Act.put, List.setIfInBounds_toArray, List.set_cons_zero, List.set_cons_succ]
      refine' wpAnyH_take (i := 9) (oi := _) (v := _) ?_ (by kernel_rfl) (by kernel_rfl) (by kernel_rfl) ?_ (Or.inl ⟨?_, ?_⟩) (by assumption) ?_
      rotate_left 2
      · (simp only [List.getElem?_toArray, List.getElem?_cons_succ, List.getElem?_cons_zero]; rfl)
      · first | exact fun _ _ _ h => h | exact fun _ _ _ h => nomatch h.1
      · rfl
      · (intro W hSW; (try dsimp only at hSW); go_split_ands; first | (go_simp; done) | (go_simp; with_reducible rfl))
      try simp only [Act.put, List.setIfInBounds_toArray, List.set_cons_zero, List.set_cons_succ]
      refine wpAnyH_ready (rs := [5]) (by kernel_rfl) (by simp) ?_
      refine' AllReadyH.cons (o := _) ?_ (fun K hK => ?_) AllReadyH.nil
      rotate_left 1
      · (simp only [List.getElem?_toArray, List.getElem?_cons_succ, List.getElem?_cons_zero]; rfl)
      go_simp
      refine (C1.out _ hE1.drew).mono ?_
      rintro e w2 ⟨rfl, hb2⟩
      have kk2 : KeepsOthers W w2 := (KeepsOthers.drew W).trans (keeps_below hb2)
      have qq1 := q1.drew.on hb2
      have qqx := qx.drew.on hb2
      have qq4 := keep_cell hb2 z1 q4
      have B2 : Below W.heap.size W w2 := off_drew hb2
      have hE2 := HE.out.on (chain hB B2)
      have hB2 := B2.mono hB.size
      have z2 : x1 + 1 < w2.heap.size := Nat.lt_of_lt_of_le z1 B2.size
      go_simp
      refine hK.out _ _ ⟨qqx.cell, qq4⟩ (fun hHeld => ?_)
      clear hK K
      refine' wpAnyH_take (i := 6) (oi := _) (v := _) ?_ (by kernel_rfl) (by kernel_rfl) (by kernel_rfl) ?_ (Or.inl ⟨?_, ?_⟩) (by assumption) ?_
      rotate_left 2
      · (simp only [List.getElem?_toArray, List.getElem?_cons_succ, List.getElem?_cons_zero]; rfl)
      · first | exact fun _ _ _ h => h | exact fun _ _ _ h => nomatch h.1
      · rfl
      · (intro W hSW; (try dsimp only at hSW); go_split_ands; first | (go_simp; done) | (go_simp; with_reducible rfl))
      try simp only [Act.put, List.setIfInBounds_toArray, List.set_cons_zero, List.set_cons_succ]
      refine wpAnyH_ready (rs := [10]) (by kernel_rfl) (by simp) ?_
      refine' AllReadyH.cons (o := _) ?_ (fun K hK => ?_) AllReadyH.nil
      rotate_left 1
      · (simp only [List.getElem?_toArray, List.getElem?_cons_succ, List.getElem?_cons_zero]; rfl)
      go_simp
      refine (C2.out _ hE2.tabIs).mono ?_
      rintro e w3 ⟨rfl, hb3⟩
      have kk3 : KeepsOthers W w3 := kk2.trans (keeps_below hb3)
      have vv1 := qq1.on hb3
      have vvx := qqx.on hb3
      have vv4 := keep_cell hb3 z2 qq4
      have hB3 : Below w.heap.size W w3 := hB2.trans (hb3.mono (Nat.le_trans hB.size hB2.size))
      go_simp
      refine hK.out _ _ ⟨vvx.cell, vv4⟩ (fun hHeld => ?_)
      clear hK K
      have hkn := HKN.out
      have ix1 : (k : Int) + 1 < (n : Int) + 1 := by omega
      have ix0 : 0 ≤ (k : Int) + 1 := by omega
      have hks : k + 1 < cur.size := by have h1 := HQ2.out; have h2 := HLE.out; omega
      have gc : w3.cell? ⟨g, k + 1, none⟩ = some cur[k + 1] := (vv1.cell _).trans (by simp [hks])
      have gf := vv1.free
      refine' wpAnyH_take (i := 11) (oi := _) (v := _) ?_ (by kernel_rfl) (by kernel_rfl) (by kernel_rfl) ?_ (Or.inl ⟨?_, ?_⟩) (by assumption) ?_
      rotate_left 2
      · (simp only [List.getElem?_toArray, List.getElem?_cons_succ, List.getElem?_cons_zero]; rfl)
      · first | exact fun _ _ _ h => h | exact fun _ _ _ h => nomatch h.1
      · rfl
      · (intro W hSW; (try dsimp only at hSW); go_split_ands; first | (go_simp; done) | (go_simp; with_reducible rfl))
      try simp only [Act.put, List.setIfInBounds_toArray, List.set_cons_zero, List.set_cons_succ]
      refine' wpAnyH_take (i := 12) (oi := _) (v := _) ?_ (by kernel_rfl) (by kernel_rfl) (by kernel_rfl) ?_ (Or.inl ⟨?_, ?_⟩) (by assumption) ?_
      rotate_left 2
      · (simp only [List.getElem?_toArray, List.getElem?_cons_succ, List.getElem?_cons_zero]; rfl)
      · first | exact fun _ _ _ h => h | exact fun _ _ _ h => nomatch h.1
      · rfl
      · (intro W hSW; (try dsimp only at hSW); go_split_ands; first | (go_simp; done) | (go_simp; with_reducible rfl))
      try simp only [Act.put, List.setIfInBounds_toArray, List.set_cons_zero, List.set_cons_succ]
      refine wpAnyH_ready (rs := [13]) (by kernel_rfl) (by simp) ?_
      refine' AllReadyH.cons (o := _) ?_ (fun K hK => ?_) AllReadyH.nil
      rotate_left 1
      · (simp only [List.getElem?_toArray, List.getElem?_cons_succ, List.getElem?_cons_zero]; rfl)
      go_simp
      have fx := (vvx.other (y := g) (by omega) (k + 1) (.string (digits sl ++ ⟨#[46]⟩ ++ digits gn))).cell
      have f4 := cell_other (j := k + 1) vv4 hgy (.string (digits sl ++ ⟨#[46]⟩ ++ digits gn))
      have fg := vv1.set (k + 1) (.string (digits sl ++ ⟨#[46]⟩ ++ digits gn))
      have hBz := hB3.setCell (p := ⟨g, k + 1, none⟩) (by simp; omega) (.string (digits sl ++ ⟨#[46]⟩ ++ digits gn))
      refine hK.out _ _ ⟨fx, f4⟩ (fun _ => ?_)
      clear hK K
      refine wpAnyH_done (by kernel_rfl) ?_ _
      refine ⟨(by intro h; cases h), ?_⟩
      refine ⟨(kk3.trans (KeepsOthers.setCell _ _ _)).from _, hBz, ⟨⟨_, fg, by have h1 := HQ2.out; simpa using h1, ?_⟩, f4⟩, hB.trans hBz⟩
      rw [List.map_append, List.map_cons, List.map_nil, HXX.out, wordsOf_snoc, Array.toList_setIfInBounds, List.take_set, HQ.out, HT.out]
      rfl
    case done =>
      rintro D zs W hD hS ⟨⟨⟨cur, q1, q2, q3⟩, q4⟩, hB⟩ hK
      rw [hS, words_full hn HOK.out] at q3
      have hn1 : n ≤ 4 := hn
      obtain ⟨xs, hxs⟩ : ∃ xs : List ByteArray, xs = ⟨(kindL true).toArray⟩ :: (([(s0, g0), (s1, g1), (s2, g2), (s3, g3)] : List Rf).take n).map rText := ⟨_, rfl⟩
      have hxl : xs.length = n + 1 := by rw [hxs]; simp; omega
      have hxv : xs.map Value.string = cur.toList.take (n + 1) := by rw [q3, hxs, List.map_cons, List.map_map]; rfl
      have hxj : (⟨(Lib.join (xs.map (·.data.toList)) [32]).toArray⟩ : ByteArray) = oText n (s0, g0) (s1, g1) (s2, g2) (s3, g3) true := by
        unfold oText oL oWords
        rw [hxs, List.map_cons, List.map_map, show ((fun x : ByteArray => x.data.toList) ∘ rText) = rL from funext rText_list, Int.toNat_natCast]
      have hln : (Lib.join (xs.map (·.data.toList)) [32]).length ≤ 140737488355328 := by
        have h1 := congrArg (fun b : ByteArray => b.data.toList.length) hxj
        simp only [oText_list] at h1
        have h2 := (oL_len HOK.out).1
        omega
      have hjn := Tryd.strings_Join g 0 cap xs ⟨#[32]⟩ W (fun j x hx => by
          have hj : j < n + 1 := by
            rcases Nat.lt_or_ge j xs.length with h | h
            · omega
            · rw [List.getElem?_eq_none h] at hx; cases hx
          rw [Nat.zero_add, q1.cell j]
          have h1 : (xs.map Value.string)[j]? = some (.string x) := by rw [List.getElem?_map, hx]; rfl
          rw [hxv, List.getElem?_take, if_pos hj] at h1
          simpa using h1) q1.lt (by omega) (by omega) hln
      rw [hxl, hxj] at hjn
      have HJ := Lib.hid hjn
      have HO := Lib.hid hxj
      have hDW : D < W.heap.size := (Array.getElem?_eq_some_iff.1 hK).1
      clear hjn hxj hln hxs hxl hxv q3 hS htake hle hsz hn hn1 q2
      go_wp2_with fail
      refine HJ.out.mono ?_
      rintro e w3 ⟨rfl, hb3⟩
      have hK3 := (hb3.block D hDW).trans hK
      go_wp2_with fail
      refine ⟨by simp, .inl ⟨_, _, rfl, run_takeDeferred hK3, ?_⟩⟩
      refine ⟨.tuple #[.string (oText n (s0, g0) (s1, g1) (s2, g2) (s3, g3) true), .int .i64 0], ?_, rfl, (chain hB hb3).trans (belowK_b (w := w) (Nat.le_refl _) _ D _ _ (by have := hj.size; omega) hK3 rfl rfl)⟩
      simp [results, Tryd.f23, Tryd.results23, go_sem]
    case stop =>
      rintro D c pre W _ _ h _
      exact h.elim
end Go.Proofs.YtpegkcmomkdoeaaDoor
