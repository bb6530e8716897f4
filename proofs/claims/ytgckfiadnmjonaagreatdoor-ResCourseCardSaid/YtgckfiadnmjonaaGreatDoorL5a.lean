/- The reference's Parse: its contract; the two Parses agree. -/
import Derived.Test.YtgckfiadnmjonaaGreatDoorHRRes8
import Derived.Test.YtgckfiadnmjonaaGreatDoorHRes11
import Derived.Test.YtgckfiadnmjonaaGreatDoorL3a
namespace Go.Proofs.YtgckfiadnmjonaaGreatDoor
open Go.RowKit
set_option linter.unusedVariables false
set_option linter.unusedSimpArgs false
theorem rcut_l (l : List UInt8) (h : l.length ≤ 100000) (w : World) : Ret 48 #[.string ⟨l.toArray⟩] w (.tuple #[.string ⟨(cw l).toArray⟩, .string ⟨(cr l).toArray⟩]) := by
  have := rcut_c ⟨l.toArray⟩ (by rw [← len_bytes, of_list]; exact h) w
  rw [of_list] at this
  exact this
theorem rnum_l (l : List UInt8) (h : l.length ≤ 100000) (w : World) : Ret 50 #[.string ⟨l.toArray⟩] w (.int .i64 (num13 l)) := by
  have := rnumber_c ⟨l.toArray⟩ (by rw [← len_bytes, of_list]; exact h) w
  rw [of_list] at this
  exact this
theorem runq_l (l : List UInt8) (h : l.length ≤ 100000) (w : World) : Ret 51 #[.string ⟨l.toArray⟩] w (unqV l) := by
  have := rtunq_c ⟨l.toArray⟩ w (by rw [← len_bytes, of_list]; omega)
  rw [of_list] at this
  exact this
def txT (k i g st wy tr nx : Int) (tag : ByteArray) : ByteArray := if rErr k i g st wy tr nx tag = 0 then rsText k i g st wy tr nx tag else ⟨#[]⟩
theorem textV_eq (k i g st wy tr nx : Int) (tag : ByteArray) : textV k i g st wy tr nx tag = .tuple #[.string (txT k i g st wy tr nx tag), .int .i64 (rErr k i g st wy tr nx tag)] := by
  unfold textV txT
  split
  · rename_i h; rw [h]
  · rfl
noncomputable def okC (s : ByteArray) (k i g st wy tr nx : Int) (tag : ByteArray) : Bool := decide (rErr k i g st wy tr nx tag = 0 ∧ rsText k i g st wy tr nx tag = s)
theorem okC_iff {s : ByteArray} {k i g st wy tr nx : Int} {tag : ByteArray} (g0 : 0 ≤ g) (g1 : g ≤ 4294967295) : okC s k i g st wy tr nx tag = true ↔ IsR k i g st wy tr nx tag s.data.toList := by
  unfold okC
  rw [decide_eq_true_iff]
  constructor
  · rintro ⟨h1, h2⟩
    refine ⟨⟨g0, g1⟩, h1, ?_⟩
    rw [← h2]
    unfold rsText
    rw [of_list]
  · rintro ⟨_, h1, h2⟩
    refine ⟨h1, str_ext ?_⟩
    unfold rsText
    rw [of_list, h2]
theorem acc_c (s : ByteArray) (k i g st wy tr nx : Int) (tag : ByteArray) : Acc s (txT k i g st wy tr nx tag) (rErr k i g st wy tr nx tag) (okC s k i g st wy tr nx tag) := by
  unfold Acc okC txT
  by_cases h : rErr k i g st wy tr nx tag = 0
  · rw [if_pos h]
    by_cases h2 : rsText k i g st wy tr nx tag = s
    · exact .inl ⟨by rw [decide_eq_true_iff]; exact ⟨h, h2⟩, h, h2⟩
    · exact .inr (.inr ⟨by rw [decide_eq_false_iff_not]; exact fun c => h2 c.2, h, str_beq_ne h2⟩)
  · exact .inr (.inl ⟨by rw [decide_eq_false_iff_not]; exact fun c => h c.1, by rw [beq_eq_false_iff_ne]; exact h⟩)
/-- The states' parts, as one. -/
abbrev aT (st : Int) (l : List UInt8) : Int := if st = 1 then 0 else num13 (cw (cr l))
theorem rparse_both (s : ByteArray) (hs : s.size ≤ 100000) (w : World) :
    Calls Tryz.prog 23 #[.string s] w fun e w' => Below w.heap.size w w' ∧ ((∃ k i g st wy tr nx tag, IsR k i g st wy tr nx tag s.data.toList ∧ e = .returned (.tuple #[rV k i g st wy tr nx tag, .int .i64 0])) ∨ ((∀ k i g st wy tr nx tag, ¬ IsR k i g st wy tr nx tag s.data.toList) ∧ e = .returned (.tuple #[r0V, .int .i64 9]))) := by
  have hl : s.data.toList.length ≤ 100000 := by rw [len_bytes]; exact hs
  have es : s = ⟨s.data.toList.toArray⟩ := str_ext (by simp)
  have b1 := cut_len s.data.toList
  have b2 := cut_len (cr s.data.toList)
  have b3 := cut_len (cr (cr s.data.toList))
  have b4 := cut_len (cr (cr (cr s.data.toList)))
  have b5 := cut_len (cr (cr (cr (cr s.data.toList))))
  have hout : ∃ k i g oe, 0 ≤ g ∧ g ≤ 4294967295 ∧ (∀ w, Ret 49 #[.string ⟨(cw s.data.toList).toArray⟩] w (.tuple #[dV k i g, .int .i64 oe])) ∧ ∀ k' i' g', IsD 58 64 (cw s.data.toList) k' i' g' → k' = k ∧ i' = i ∧ g' = g := by
    by_cases h : ∃ k i g, IsD 58 64 (cw s.data.toList) k i g
    · obtain ⟨k, i, g, h⟩ := h
      refine ⟨k, i, g, 0, h.g0, h.gm, fun w => ro_parse_is _ k i g (by rw [of_list]; exact h) w, fun k' i' g' h' => ?_⟩
      have := IsD.unique (by simp [sgn]) h h'
      omega
    · refine ⟨0, 0, 0, 9, by omega, by omega, fun w => ro_parse_not _ (by rw [← len_bytes, of_list]; omega) (fun k i g h' => h ⟨k, i, g, by rw [of_list] at h'; exact h'⟩) w, fun k' i' g' h' => (h ⟨k', i', g', h'⟩).elim⟩
  obtain ⟨k, i, g, oe, g0, g1, ho, hu⟩ := hout
  have hG : ∀ l : List UInt8, l.length ≤ 100000 → (⟨(unqL l).1.toArray⟩ : ByteArray).size ≤ 1000000 := fun l h => by
    have := unqL_len l
    rw [← len_bytes, of_list]
    omega
  generalize hL : cr (cr s.data.toList) = L at *
  have main := rparse_walk s ⟨(cw s.data.toList).toArray⟩ ⟨(cr s.data.toList).toArray⟩ ⟨(cw (cr s.data.toList)).toArray⟩ ⟨L.toArray⟩ ⟨(cw L).toArray⟩ ⟨(cr L).toArray⟩ ⟨(cw (cr L)).toArray⟩ ⟨(cr (cr L)).toArray⟩ ⟨(cw (cr (cr L))).toArray⟩ ⟨(cr (cr (cr L))).toArray⟩
    ⟨(unqL L).1.toArray⟩ ⟨(unqL (cr (cr (cr L)))).1.toArray⟩ ⟨(unqL (cr (cr L))).1.toArray⟩ k i g oe (num13 (cw (cr L))) (num13 (cw (cr (cr L)))) (unqL L).2.1 (unqL (cr (cr (cr L)))).2.1 (unqL (cr (cr L))).2.1 (unqL L).2.2 (unqL (cr (cr (cr L)))).2.2 (unqL (cr (cr L))).2.2
    (fun st wy => txT k i g st wy (cT st L) (cN st L) (cG st L)) (fun st wy => rErr k i g st wy (cT st L) (cN st L) (cG st L)) (fun st wy => okC s k i g st wy (cT st L) (cN st L) (cG st L))
    (fun w => by have := rcut_l s.data.toList hl w; rw [← es] at this; exact this) ho (fun w => by have := rcut_l (cr s.data.toList) (by omega) w; rw [hL] at this; exact this)
    (fun w => rcut_l L (by omega) w) (fun w => rcut_l (cr L) (by omega) w) (fun w => rnum_l _ (by omega) w) (fun w => rcut_l _ (by omega) w) (fun w => rnum_l _ (by omega) w)
    (fun w => runq_l L (by omega) w) (fun w => runq_l _ (by omega) w) (fun w => runq_l _ (by omega) w)
    (fun wy w => by
      have := rtext_c k i g 1 wy 0 0 ⟨(unqL L).1.toArray⟩ w g0 g1 (hG _ (by omega))
      rw [textV_eq] at this
      exact this)
    (fun wy w => by
      have := rtext_c k i g 2 wy (num13 (cw (cr L))) (num13 (cw (cr (cr L)))) ⟨(unqL (cr (cr (cr L)))).1.toArray⟩ w g0 g1 (hG _ (by omega))
      rw [textV_eq] at this
      exact this)
    (fun st wy w hst => by
      have := rtext_c k i g st wy (num13 (cw (cr L))) 0 ⟨(unqL (cr (cr L))).1.toArray⟩ w g0 g1 (hG _ (by omega))
      rw [textV_eq] at this
      rcases hst with rfl | rfl <;> exact this)
    (fun st wy => acc_c _ _ _ _ _ _ _ _ _) w
  refine main.mono ?_
  rintro e w' ⟨hb, ⟨st, wy, hst, hwy, hok, rfl⟩ | ⟨hno, rfl⟩⟩
  · refine ⟨hb, .inl ⟨k, i, g, st, wy, cT st L, cN st L, cG st L, (okC_iff g0 g1).1 hok, ?_⟩⟩
    have h4 : st = 1 ∨ st = 2 ∨ st = 3 ∨ st = 4 := by omega
    rcases h4 with rfl | rfl | rfl | rfl <;> rfl
  · refine ⟨hb, .inr ⟨fun k' i' g' st wy tr nx tag h => ?_, rfl⟩⟩
    obtain ⟨q1, q2, q3, q4, q5, q6, q7⟩ := cand_of h
    obtain ⟨rfl, rfl, rfl⟩ := hu k' i' g' ⟨q2, h.1.2, h.1.1, q1.symm⟩
    have := hno st wy q6.1 q6.2 q7.1 q7.2
    rw [hL] at q3 q4 q5
    rw [q3, q4, q5] at this
    rw [(okC_iff g0 g1).2 h] at this
    cases this
/-- What a text is read as: one value for both. -/
theorem parse_same (s : ByteArray) : ∃ V : Value, ((∃ k i g st wy tr nx tag, IsR k i g st wy tr nx tag s.data.toList ∧ V = .tuple #[rV k i g st wy tr nx tag, .int .i64 0]) ∨ ((∀ k i g st wy tr nx tag, ¬ IsR k i g st wy tr nx tag s.data.toList) ∧ V = .tuple #[r0V, .int .i64 9])) ∧
    ∀ e : Ending, ((∃ k i g st wy tr nx tag, IsR k i g st wy tr nx tag s.data.toList ∧ e = .returned (.tuple #[rV k i g st wy tr nx tag, .int .i64 0])) ∨ ((∀ k i g st wy tr nx tag, ¬ IsR k i g st wy tr nx tag s.data.toList) ∧ e = .returned (.tuple #[r0V, .int .i64 9]))) → e = .returned V := by
  by_cases h : ∃ k i g st wy tr nx tag, IsR k i g st wy tr nx tag s.data.toList
  · obtain ⟨k, i, g, st, wy, tr, nx, tag, h⟩ := h
    refine ⟨_, .inl ⟨k, i, g, st, wy, tr, nx, tag, h, rfl⟩, ?_⟩
    rintro e (⟨k', i', g', st', wy', tr', nx', tag', h', rfl⟩ | ⟨hno, _⟩)
    · obtain ⟨rfl, rfl, rfl, rfl, rfl, rfl, rfl, rfl⟩ := isR_unique h h'
      rfl
    · exact (hno _ _ _ _ _ _ _ _ h).elim
  · have hno : ∀ k i g st wy tr nx tag, ¬ IsR k i g st wy tr nx tag s.data.toList := fun k i g st wy tr nx tag hh => h ⟨k, i, g, st, wy, tr, nx, tag, hh⟩
    refine ⟨_, .inr ⟨hno, rfl⟩, ?_⟩
    rintro e (⟨k', i', g', st', wy', tr', nx', tag', h', rfl⟩ | ⟨_, rfl⟩)
    · exact (hno _ _ _ _ _ _ _ _ h').elim
    · rfl
/-- A text of a possible resource is read as it. -/
theorem parse_is (s : ByteArray) (hs : s.size ≤ 100000) {k i g st wy tr nx : Int} {tag : ByteArray} (h : IsR k i g st wy tr nx tag s.data.toList) (w : World) (hE : EnvP w) : Ret 22 #[.string s] w (.tuple #[rV k i g st wy tr nx tag, .int .i64 0]) := by
  refine (parse_both s hs w hE).mono ?_
  rintro e w' ⟨hb, ⟨k', i', g', st', wy', tr', nx', tag', h', rfl⟩ | ⟨hno, _⟩⟩
  · obtain ⟨rfl, rfl, rfl, rfl, rfl, rfl, rfl, rfl⟩ := isR_unique h h'
    exact ⟨rfl, hb⟩
  · exact (hno _ _ _ _ _ _ _ _ h).elim
theorem parse_not (s : ByteArray) (hs : s.size ≤ 100000) (h : ∀ k i g st wy tr nx tag, ¬ IsR k i g st wy tr nx tag s.data.toList) (w : World) (hE : EnvP w) : Ret 22 #[.string s] w (.tuple #[r0V, .int .i64 9]) := by
  refine (parse_both s hs w hE).mono ?_
  rintro e w' ⟨hb, ⟨k', i', g', st', wy', tr', nx', tag', h', rfl⟩ | ⟨_, rfl⟩⟩
  · exact (h _ _ _ _ _ _ _ _ h').elim
  · exact ⟨rfl, hb⟩
end Go.Proofs.YtgckfiadnmjonaaGreatDoor

/- The chapter's examples hold: 'works' of the statements of chapter 31. -/
namespace Go.Proofs.YtgckfiadnmjonaaGreatDoor
open Go.RowKit
set_option linter.unusedVariables false
set_option linter.unusedSimpArgs false
set_option maxHeartbeats 16000000
set_option maxRecDepth 20000
theorem tagOk_sz {tag : ByteArray} (h : tagOk tag.data.toList = true) : tag.size ≤ 1000000 := by
  have := tagOk_len h
  rw [len_bytes] at this
  omega
theorem says_c (k i g st wy tr nx : Int) (tag s : ByteArray) (h : IsR k i g st wy tr nx tag s.data.toList) (hs : s.size ≤ 100000) (w : World) (hE : EnvP w) :
    Ret 26 #[rV k i g st wy tr nx tag, .int .i64 0, .string s] w (.bool true) := by
  have hT := fun w (hE : EnvP w) => text_c k i g st wy tr nx tag w hE.toEnv h.1.1 h.1.2 (tagOk_sz (rErr_zero h.2.1).2)
  have ev : textV k i g st wy tr nx tag = .tuple #[.string s, .int .i64 0] := by
    unfold textV
    rw [if_pos h.2.1]
    have : rsText k i g st wy tr nx tag = s := str_ext (by unfold rsText; rw [of_list, h.2.2])
    rw [this]
  rw [ev] at hT
  have hP := fun w hE => parse_is s hs h w hE
  have he := req_F k i g st wy tr nx tag
  have HT := Lib.hid hT
  have HP := Lib.hid hP
  clear hT hP ev h
  go_enter Tryz.func26, Tryz.ntmps26
  go_upto_region 1 with fail
  have r1 := Row.new (W := w) (cs := rC k i g st wy tr nx tag) (t := 26)
  have hc := below_alloc w (.cells (rC k i g st wy tr nx tag) 26)
  generalize w.alloc (.cells (rC k i g st wy tr nx tag) 26) = W0 at r1 hc ⊢
  have y0 := r1.cell
  have y1 := r1.lt
  go_wp2_with fail
  refine Calls.mono (HT.out _ (hE.on hc)) ?_
  rintro e W1 ⟨rfl, hn⟩
  clear y0 y1
  replace r1 := r1.on hn
  replace hc := chain hc hn
  clear hn
  go_wp2_with fail
  refine Calls.mono (HP.out _ (hE.on hc)) ?_
  rintro e W2 ⟨rfl, hn⟩
  replace r1 := r1.on hn
  replace hc := chain hc hn
  clear hn
  go_upto_region 3 with fail
  have r2 := Row.new (W := W2) (cs := rC k i g st wy tr nx tag) (t := 26)
  have hn := below_alloc W2 (.cells (rC k i g st wy tr nx tag) 26)
  replace r1 := r1.on hn
  replace hc := chain hc hn
  clear hn
  generalize W2.alloc (.cells (rC k i g st wy tr nx tag) 26) = W3 at r1 r2 hc ⊢
  generalize W2.heap.size = b at r2 ⊢
  have y0 := r1.cell
  have y1 := r1.lt
  have y2 := r2.cell
  have y3 := r2.lt
  have es := str_beq_same s
  go_wp2_with fail
  go_returns
  exact ⟨rfl, hc⟩
theorem dec15 : Lib.decDigits 15 = [49, 53] := by rw [decDigits_step, if_neg (by decide), decDigits_step, if_pos (by decide)]; rfl
theorem dec_sm (n : Nat) (h : n < 10) : Lib.decDigits n = [UInt8.ofNat (48 + n)] := by rw [decDigits_step, if_pos h]
abbrev mainB : ByteArray := ⟨#[109, 97, 105, 110]⟩
theorem main_ok : tagOk mainB.data.toList = true := by decide
theorem ex_rErr {st wy tr nx : Int} (h : pOk 1 3 1 st wy tr nx = true) : rErr 1 3 1 st wy tr nx mainB = 0 := by
  unfold rErr tagErr
  rw [h, main_ok]
  rfl
theorem ex_out : dTextL 58 1 3 1 = [102, 51, 58, 49] := by
  unfold dTextL
  rw [dec_sm _ (by decide), dec_sm _ (by decide)]
  rfl
theorem ex_quote : quoteL mainB.data.toList = [34, 109, 97, 105, 110, 34] := rfl
theorem ex_r : IsR 1 3 1 1 0 0 0 mainB (ByteArray.mk #[102, 51, 58, 49, 32, 108, 105, 118, 101, 32, 34, 109, 97, 105, 110, 34]).data.toList := ⟨by omega, ex_rErr (by decide), by
  rw [rsL_eq, tail2_one, ex_out, ex_quote]; rfl⟩
theorem ex_c : IsR 1 3 1 2 1 0 5 mainB (ByteArray.mk #[102, 51, 58, 49, 32, 99, 108, 111, 115, 105, 110, 103, 32, 99, 108, 111, 115, 101, 32, 48, 32, 53, 32, 34, 109, 97, 105, 110, 34]).data.toList := ⟨by omega, ex_rErr (by decide), by
  rw [rsL_eq, ex_out]
  unfold tail2 tail4
  rw [if_neg (by decide), if_pos rfl, ex_quote, dec_sm _ (by decide), dec_sm _ (by decide)]; rfl⟩
theorem ex_l : IsR 1 3 1 2 1 1 15 mainB (ByteArray.mk #[102, 51, 58, 49, 32, 99, 108, 111, 115, 105, 110, 103, 32, 99, 108, 111, 115, 101, 32, 49, 32, 49, 53, 32, 34, 109, 97, 105, 110, 34]).data.toList := ⟨by omega, ex_rErr (by decide), by
  rw [rsL_eq, ex_out]
  unfold tail2 tail4
  rw [if_neg (by decide), if_pos rfl, ex_quote, dec_sm _ (by decide), show (15 : Int).toNat = 15 from rfl, dec15]; rfl⟩
theorem ex_ok : IsR 1 3 1 3 1 1 0 mainB (ByteArray.mk #[102, 51, 58, 49, 32, 114, 101, 108, 101, 97, 115, 101, 100, 32, 99, 108, 111, 115, 101, 32, 49, 32, 34, 109, 97, 105, 110, 34]).data.toList := ⟨by omega, ex_rErr (by decide), by
  rw [rsL_eq, ex_out]
  unfold tail2 tail4
  rw [if_neg (by decide), if_neg (by decide), ex_quote, dec_sm _ (by decide)]; rfl⟩
theorem ex_fail : IsR 1 3 1 4 1 1 0 mainB (ByteArray.mk #[102, 51, 58, 49, 32, 113, 117, 97, 114, 97, 110, 116, 105, 110, 101, 32, 99, 108, 111, 115, 101, 32, 49, 32, 34, 109, 97, 105, 110, 34]).data.toList := ⟨by omega, ex_rErr (by decide), by
  rw [rsL_eq, ex_out]
  unfold tail2 tail4
  rw [if_neg (by decide), if_neg (by decide), ex_quote, dec_sm _ (by decide)]; rfl⟩
theorem ex_chk {st wy tr nx : Int} (h : pOk 1 3 1 st wy tr nx = true) (al : Bool) (want : Int) : chkE 1 3 1 st wy tr nx mainB al want = if al = false then 2 else if st ≠ want then 8 else 0 := by
  unfold chkE
  rw [ex_rErr h]
  rfl
theorem file_c (w : World) : Ret 25 #[] w (dV 1 3 1) := by
  go_enter Tryz.func25, Tryz.ntmps25
  go_wp2_with fail
  go_returns
  exact ⟨rfl, by go_grown⟩
abbrev exR : Value := rV 1 3 1 1 0 0 0 mainB
abbrev exC : Value := rV 1 3 1 2 1 0 5 mainB
abbrev exL : Value := rV 1 3 1 2 1 1 15 mainB
abbrev exO : Value := rV 1 3 1 3 1 1 0 mainB
abbrev exF : Value := rV 1 3 1 4 1 1 0 mainB
theorem ek1 (w : World) : Ret 20 #[dV 1 3 1, .string mainB] w (.tuple #[exR, .int .i64 0]) := by
  have h := new_c 1 3 1 mainB w (by omega) (by omega) (by decide)
  rw [show newV 1 3 1 mainB = .tuple #[exR, .int .i64 0] by unfold newV; rw [if_pos (ex_rErr (by decide))]] at h
  exact h
theorem ek2 (w : World) : Ret 8 #[exR, .int .i64 1, .int .i64 5] w (.tuple #[exC, .int .i64 0]) := by
  have h := close_c 1 3 1 1 0 0 0 1 5 mainB w (by omega) (by omega) (by decide)
  rw [show closeV 1 3 1 1 0 0 0 mainB 1 5 = .tuple #[exC, .int .i64 0] by unfold closeV; rw [ex_chk (by decide)]; rfl] at h
  exact h
theorem ek3 (w : World) : Ret 10 #[exC, .int .i64 2, .int .i64 5, .int .i64 10] w (.tuple #[exL, .int .i64 0]) := by
  have h := tried_c 1 3 1 2 1 0 5 2 5 10 mainB w (by omega) (by omega) (by decide)
  rw [show triedV 1 3 1 2 1 0 5 mainB 2 5 10 = .tuple #[exL, .int .i64 0] by unfold triedV; rw [ex_chk (by decide)]; rfl] at h
  exact h
theorem ek4 (w : World) : Ret 10 #[exL, .int .i64 1, .int .i64 20, .int .i64 1] w (.tuple #[exO, .int .i64 0]) := by
  have h := tried_c 1 3 1 2 1 1 15 1 20 1 mainB w (by omega) (by omega) (by decide)
  rw [show triedV 1 3 1 2 1 1 15 mainB 1 20 1 = .tuple #[exO, .int .i64 0] by unfold triedV; rw [ex_chk (by decide)]; rfl] at h
  exact h
theorem ek5 (w : World) : Ret 10 #[exL, .int .i64 3, .int .i64 15, .int .i64 1] w (.tuple #[exF, .int .i64 0]) := by
  have h := tried_c 1 3 1 2 1 1 15 3 15 1 mainB w (by omega) (by omega) (by decide)
  rw [show triedV 1 3 1 2 1 1 15 mainB 3 15 1 = .tuple #[exF, .int .i64 0] by unfold triedV; rw [ex_chk (by decide)]; rfl] at h
  exact h
theorem ek6 (w : World) : Ret 14 #[exL, .int .i64 14] w (.tuple #[.bool false, .int .i64 0]) := by
  have h := due_c 1 3 1 2 1 1 15 14 mainB w (by omega) (by omega) (by decide)
  rw [show dueV 1 3 1 2 1 1 15 mainB 14 = .tuple #[.bool false, .int .i64 0] by unfold dueV; rw [ex_chk (by decide)]; rfl] at h
  exact h
theorem ek7 (w : World) : Ret 14 #[exL, .int .i64 15] w (.tuple #[.bool true, .int .i64 0]) := by
  have h := due_c 1 3 1 2 1 1 15 15 mainB w (by omega) (by omega) (by decide)
  rw [show dueV 1 3 1 2 1 1 15 mainB 15 = .tuple #[.bool true, .int .i64 0] by unfold dueV; rw [ex_chk (by decide)]; rfl] at h
  exact h
theorem ek8 (w : World) : Ret 8 #[exC, .int .i64 2, .int .i64 9] w (.tuple #[r0V, .int .i64 8]) := by
  have h := close_c 1 3 1 2 1 0 5 2 9 mainB w (by omega) (by omega) (by decide)
  rw [show closeV 1 3 1 2 1 0 5 mainB 2 9 = .tuple #[r0V, .int .i64 8] by unfold closeV; rw [ex_chk (by decide)]; rfl] at h
  exact h
theorem ek9 (w : World) : Ret 10 #[exR, .int .i64 1, .int .i64 5, .int .i64 1] w (.tuple #[r0V, .int .i64 8]) := by
  have h := tried_c 1 3 1 1 0 0 0 1 5 1 mainB w (by omega) (by omega) (by decide)
  rw [show triedV 1 3 1 1 0 0 0 mainB 1 5 1 = .tuple #[r0V, .int .i64 8] by unfold triedV; rw [ex_chk (by decide)]; rfl] at h
  exact h
theorem ek10 (w : World) : Ret 16 #[exF] w (.tuple #[.bool true, .int .i64 0]) := by
  have h := over_c 1 3 1 4 1 1 0 mainB w (by omega) (by omega) (by decide)
  rw [show overV 1 3 1 4 1 1 0 mainB = .tuple #[.bool true, .int .i64 0] by unfold overV; rw [if_pos (ex_rErr (by decide))]; rfl] at h
  exact h
theorem works (w : World) (hE : EnvP w) : Ret 7 #[] w (.bool true) := by
  have E1 := Lib.hid ek1
  have E2 := Lib.hid ek2
  have E3 := Lib.hid ek3
  have E4 := Lib.hid ek4
  have E5 := Lib.hid ek5
  have E6 := Lib.hid ek6
  have E7 := Lib.hid ek7
  have E8 := Lib.hid ek8
  have E9 := Lib.hid ek9
  have E10 := Lib.hid ek10
  have HE := Lib.hid hE
  have hc := Below.refl w.heap.size w
  go_enter Tryz.func7, Tryz.ntmps7
  go_wp2_with fail
  refine Calls.mono (file_c _) ?_
  rintro e W1 ⟨rfl, hn⟩
  replace hc := chain hc hn
  clear hn
  go_wp2_with fail
  refine Calls.mono (E1.out _) ?_
  rintro e W2 ⟨rfl, hn⟩
  replace hc := chain hc hn
  clear hn
  go_upto_region 2 with fail
  have r1 := Row.new (W := W2) (cs := (rC 1 3 1 1 0 0 0 mainB)) (t := 26)
  have hn := below_alloc W2 (.cells (rC 1 3 1 1 0 0 0 mainB) 26)
  replace hc := chain hc hn
  clear hn
  generalize W2.alloc (.cells (rC 1 3 1 1 0 0 0 mainB) 26) = W3 at r1 hc ⊢
  generalize W2.heap.size = b1 at r1 ⊢
  have yr1 := r1.cell
  have zr1 := r1.lt
  go_wp2_with fail
  refine Calls.mono (says_c 1 3 1 1 0 0 0 mainB _ ex_r (by decide) _ (HE.out.on hc)) ?_
  rintro e W4 ⟨rfl, hn⟩
  clear yr1 zr1
  replace r1 := r1.on hn
  replace hc := chain hc hn
  clear hn
  have yr1 := r1.cell
  have zr1 := r1.lt
  go_wp2_with fail
  refine Calls.mono (E2.out _) ?_
  rintro e W5 ⟨rfl, hn⟩
  clear yr1 zr1
  replace r1 := r1.on hn
  replace hc := chain hc hn
  clear hn
  have yr1 := r1.cell
  have zr1 := r1.lt
  go_upto_region 5 with fail
  clear yr1 zr1
  have r2 := Row.new (W := W5) (cs := (rC 1 3 1 2 1 0 5 mainB)) (t := 26)
  have hn := below_alloc W5 (.cells (rC 1 3 1 2 1 0 5 mainB) 26)
  replace r1 := r1.on hn
  replace hc := chain hc hn
  clear hn
  generalize W5.alloc (.cells (rC 1 3 1 2 1 0 5 mainB) 26) = W6 at r1 r2 hc ⊢
  generalize W5.heap.size = b2 at r2 ⊢
  have yr1 := r1.cell
  have zr1 := r1.lt
  have yr2 := r2.cell
  have zr2 := r2.lt
  go_wp2_with fail
  refine Calls.mono (E3.out _) ?_
  rintro e W7 ⟨rfl, hn⟩
  clear yr1 zr1 yr2 zr2
  replace r1 := r1.on hn
  replace r2 := r2.on hn
  replace hc := chain hc hn
  clear hn
  have yr1 := r1.cell
  have zr1 := r1.lt
  have yr2 := r2.cell
  have zr2 := r2.lt
  go_upto_region 6 with fail
  clear yr1 zr1 yr2 zr2
  have r3 := Row.new (W := W7) (cs := (rC 1 3 1 2 1 1 15 mainB)) (t := 26)
  have hn := below_alloc W7 (.cells (rC 1 3 1 2 1 1 15 mainB) 26)
  replace r1 := r1.on hn
  replace r2 := r2.on hn
  replace hc := chain hc hn
  clear hn
  generalize W7.alloc (.cells (rC 1 3 1 2 1 1 15 mainB) 26) = W8 at r1 r2 r3 hc ⊢
  generalize W7.heap.size = b3 at r3 ⊢
  have yr1 := r1.cell
  have zr1 := r1.lt
  have yr2 := r2.cell
  have zr2 := r2.lt
  have yr3 := r3.cell
  have zr3 := r3.lt
  go_wp2_with fail
  refine Calls.mono (E4.out _) ?_
  rintro e W9 ⟨rfl, hn⟩
  clear yr1 zr1 yr2 zr2 yr3 zr3
  replace r1 := r1.on hn
  replace r2 := r2.on hn
  replace r3 := r3.on hn
  replace hc := chain hc hn
  clear hn
  have yr1 := r1.cell
  have zr1 := r1.lt
  have yr2 := r2.cell
  have zr2 := r2.lt
  have yr3 := r3.cell
  have zr3 := r3.lt
  go_upto_region 7 with fail
  clear yr1 zr1 yr2 zr2 yr3 zr3
  have r4 := Row.new (W := W9) (cs := (rC 1 3 1 3 1 1 0 mainB)) (t := 26)
  have hn := below_alloc W9 (.cells (rC 1 3 1 3 1 1 0 mainB) 26)
  replace r1 := r1.on hn
  replace r2 := r2.on hn
  replace r3 := r3.on hn
  replace hc := chain hc hn
  clear hn
  generalize W9.alloc (.cells (rC 1 3 1 3 1 1 0 mainB) 26) = W10 at r1 r2 r3 r4 hc ⊢
  generalize W9.heap.size = b4 at r4 ⊢
  have yr1 := r1.cell
  have zr1 := r1.lt
  have yr2 := r2.cell
  have zr2 := r2.lt
  have yr3 := r3.cell
  have zr3 := r3.lt
  have yr4 := r4.cell
  have zr4 := r4.lt
  go_wp2_with fail
  refine Calls.mono (E5.out _) ?_
  rintro e W11 ⟨rfl, hn⟩
  clear yr1 zr1 yr2 zr2 yr3 zr3 yr4 zr4
  replace r1 := r1.on hn
  replace r2 := r2.on hn
  replace r3 := r3.on hn
  replace r4 := r4.on hn
  replace hc := chain hc hn
  clear hn
  have yr1 := r1.cell
  have zr1 := r1.lt
  have yr2 := r2.cell
  have zr2 := r2.lt
  have yr3 := r3.cell
  have zr3 := r3.lt
  have yr4 := r4.cell
  have zr4 := r4.lt
  go_upto_region 8 with fail
  clear yr1 zr1 yr2 zr2 yr3 zr3 yr4 zr4
  have r5 := Row.new (W := W11) (cs := (rC 1 3 1 4 1 1 0 mainB)) (t := 26)
  have hn := below_alloc W11 (.cells (rC 1 3 1 4 1 1 0 mainB) 26)
  replace r1 := r1.on hn
  replace r2 := r2.on hn
  replace r3 := r3.on hn
  replace r4 := r4.on hn
  replace hc := chain hc hn
  clear hn
  generalize W11.alloc (.cells (rC 1 3 1 4 1 1 0 mainB) 26) = W12 at r1 r2 r3 r4 r5 hc ⊢
  generalize W11.heap.size = b5 at r5 ⊢
  have yr1 := r1.cell
  have zr1 := r1.lt
  have yr2 := r2.cell
  have zr2 := r2.lt
  have yr3 := r3.cell
  have zr3 := r3.lt
  have yr4 := r4.cell
  have zr4 := r4.lt
  have yr5 := r5.cell
  have zr5 := r5.lt
  go_wp2_with fail
  refine Calls.mono (says_c 1 3 1 2 1 0 5 mainB _ ex_c (by decide) _ (HE.out.on hc)) ?_
  rintro e W13 ⟨rfl, hn⟩
  clear yr1 zr1 yr2 zr2 yr3 zr3 yr4 zr4 yr5 zr5
  replace r1 := r1.on hn
  replace r2 := r2.on hn
  replace r3 := r3.on hn
  replace r4 := r4.on hn
  replace r5 := r5.on hn
  replace hc := chain hc hn
  clear hn
  have yr1 := r1.cell
  have zr1 := r1.lt
  have yr2 := r2.cell
  have zr2 := r2.lt
  have yr3 := r3.cell
  have zr3 := r3.lt
  have yr4 := r4.cell
  have zr4 := r4.lt
  have yr5 := r5.cell
  have zr5 := r5.lt
  go_wp2_with fail
  refine Calls.mono (says_c 1 3 1 2 1 1 15 mainB _ ex_l (by decide) _ (HE.out.on hc)) ?_
  rintro e W14 ⟨rfl, hn⟩
  clear yr1 zr1 yr2 zr2 yr3 zr3 yr4 zr4 yr5 zr5
  replace r1 := r1.on hn
  replace r2 := r2.on hn
  replace r3 := r3.on hn
  replace r4 := r4.on hn
  replace r5 := r5.on hn
  replace hc := chain hc hn
  clear hn
  have yr1 := r1.cell
  have zr1 := r1.lt
  have yr2 := r2.cell
  have zr2 := r2.lt
  have yr3 := r3.cell
  have zr3 := r3.lt
  have yr4 := r4.cell
  have zr4 := r4.lt
  have yr5 := r5.cell
  have zr5 := r5.lt
  go_wp2_with fail
  refine Calls.mono (says_c 1 3 1 3 1 1 0 mainB _ ex_ok (by decide) _ (HE.out.on hc)) ?_
  rintro e W15 ⟨rfl, hn⟩
  clear yr1 zr1 yr2 zr2 yr3 zr3 yr4 zr4 yr5 zr5
  replace r1 := r1.on hn
  replace r2 := r2.on hn
  replace r3 := r3.on hn
  replace r4 := r4.on hn
  replace r5 := r5.on hn
  replace hc := chain hc hn
  clear hn
  have yr1 := r1.cell
  have zr1 := r1.lt
  have yr2 := r2.cell
  have zr2 := r2.lt
  have yr3 := r3.cell
  have zr3 := r3.lt
  have yr4 := r4.cell
  have zr4 := r4.lt
  have yr5 := r5.cell
  have zr5 := r5.lt
  go_wp2_with fail
  refine Calls.mono (says_c 1 3 1 4 1 1 0 mainB _ ex_fail (by decide) _ (HE.out.on hc)) ?_
  rintro e W16 ⟨rfl, hn⟩
  clear yr1 zr1 yr2 zr2 yr3 zr3 yr4 zr4 yr5 zr5
  replace r1 := r1.on hn
  replace r2 := r2.on hn
  replace r3 := r3.on hn
  replace r4 := r4.on hn
  replace r5 := r5.on hn
  replace hc := chain hc hn
  clear hn
  have yr1 := r1.cell
  have zr1 := r1.lt
  have yr2 := r2.cell
  have zr2 := r2.lt
  have yr3 := r3.cell
  have zr3 := r3.lt
  have yr4 := r4.cell
  have zr4 := r4.lt
  have yr5 := r5.cell
  have zr5 := r5.lt
  go_wp2_with fail
  refine Calls.mono (E6.out _) ?_
  rintro e W17 ⟨rfl, hn⟩
  clear yr1 zr1 yr2 zr2 yr3 zr3 yr4 zr4 yr5 zr5
  replace r1 := r1.on hn
  replace r2 := r2.on hn
  replace r3 := r3.on hn
  replace r4 := r4.on hn
  replace r5 := r5.on hn
  replace hc := chain hc hn
  clear hn
  have yr1 := r1.cell
  have zr1 := r1.lt
  have yr2 := r2.cell
  have zr2 := r2.lt
  have yr3 := r3.cell
  have zr3 := r3.lt
  have yr4 := r4.cell
  have zr4 := r4.lt
  have yr5 := r5.cell
  have zr5 := r5.lt
  go_wp2_with fail
  refine Calls.mono (E7.out _) ?_
  rintro e W18 ⟨rfl, hn⟩
  clear yr1 zr1 yr2 zr2 yr3 zr3 yr4 zr4 yr5 zr5
  replace r1 := r1.on hn
  replace r2 := r2.on hn
  replace r3 := r3.on hn
  replace r4 := r4.on hn
  replace r5 := r5.on hn
  replace hc := chain hc hn
  clear hn
  have yr1 := r1.cell
  have zr1 := r1.lt
  have yr2 := r2.cell
  have zr2 := r2.lt
  have yr3 := r3.cell
  have zr3 := r3.lt
  have yr4 := r4.cell
  have zr4 := r4.lt
  have yr5 := r5.cell
  have zr5 := r5.lt
  go_wp2_with fail
  refine Calls.mono (E8.out _) ?_
  rintro e W19 ⟨rfl, hn⟩
  clear yr1 zr1 yr2 zr2 yr3 zr3 yr4 zr4 yr5 zr5
  replace r1 := r1.on hn
  replace r2 := r2.on hn
  replace r3 := r3.on hn
  replace r4 := r4.on hn
  replace r5 := r5.on hn
  replace hc := chain hc hn
  clear hn
  have yr1 := r1.cell
  have zr1 := r1.lt
  have yr2 := r2.cell
  have zr2 := r2.lt
  have yr3 := r3.cell
  have zr3 := r3.lt
  have yr4 := r4.cell
  have zr4 := r4.lt
  have yr5 := r5.cell
  have zr5 := r5.lt
  go_wp2_with fail
  refine Calls.mono (E9.out _) ?_
  rintro e W20 ⟨rfl, hn⟩
  clear yr1 zr1 yr2 zr2 yr3 zr3 yr4 zr4 yr5 zr5
  replace r1 := r1.on hn
  replace r2 := r2.on hn
  replace r3 := r3.on hn
  replace r4 := r4.on hn
  replace r5 := r5.on hn
  replace hc := chain hc hn
  clear hn
  have yr1 := r1.cell
  have zr1 := r1.lt
  have yr2 := r2.cell
  have zr2 := r2.lt
  have yr3 := r3.cell
  have zr3 := r3.lt
  have yr4 := r4.cell
  have zr4 := r4.lt
  have yr5 := r5.cell
  have zr5 := r5.lt
  go_wp2_with fail
  refine Calls.mono (E10.out _) ?_
  rintro e W21 ⟨rfl, hn⟩
  clear yr1 zr1 yr2 zr2 yr3 zr3 yr4 zr4 yr5 zr5
  replace r1 := r1.on hn
  replace r2 := r2.on hn
  replace r3 := r3.on hn
  replace r4 := r4.on hn
  replace r5 := r5.on hn
  replace hc := chain hc hn
  clear hn
  go_wp2_with fail
  go_returns
  exact ⟨rfl, hc⟩
end Go.Proofs.YtgckfiadnmjonaaGreatDoor
