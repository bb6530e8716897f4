/- StatsTexts. -/
import Derived.Test.YtjebicdlbknemaaDoorStRef2
namespace Go.Proofs.YtjebicdlbknemaaDoor
open Go.RowKit
open Go.Lib (decDigits)
set_option linter.unusedVariables false
set_option linter.unusedSimpArgs false

theorem num_itoa (v : Int) (h0 : 0 ≤ v) (h1 : v ≤ 10000) : numB (Lib.itoa v) = true ∧ numV (Lib.itoa v) = v := by
  have e : Lib.itoa v = decDigits v.toNat := by unfold Lib.itoa; rw [if_neg (by omega)]
  have hb : numB (Lib.itoa v) = true := by
    rw [e]
    unfold numB
    rw [decide_eq_true_iff]
    exact ⟨nDigits_le_10 _ (by omega), by rw [val_decDigits]⟩
  refine ⟨hb, ?_⟩
  rw [(numB_val hb).1, e, val_decDigits]
  omega
theorem IsSt.num {x : ByteArray} {o l c r q : Int} (h : IsSt x o l c r q) (j : Nat) (hj : j < 5) : okw (cutAll 32 x.data.toList) j ∧ numV ((cutAll 32 x.data.toList).getD (2 * j + 1) []) = sCnt o l c r q j := by
  have hb := sOk_all h.1
  have key : ∀ v : Int, 0 ≤ v → v ≤ 10000 → (numB (Lib.itoa v) = true ∧ numV (Lib.itoa v) ≤ 10000) ∧ numV (Lib.itoa v) = v := fun v h0 h1 => ⟨⟨(num_itoa v h0 h1).1, by rw [(num_itoa v h0 h1).2]; exact h1⟩, (num_itoa v h0 h1).2⟩
  unfold okw
  rw [h.words, wordsL_eq]
  rcases (by omega : j = 0 ∨ j = 1 ∨ j = 2 ∨ j = 3 ∨ j = 4) with rfl | rfl | rfl | rfl | rfl
  all_goals
    simp only [List.getD_eq_getElem?_getD, sCnt]
    exact key _ (by omega) (by omega)
theorem IsSt.same {x : ByteArray} {o l c r q o' l' c' r' q' : Int} (h : IsSt x o l c r q) (k : IsSt x o' l' c' r' q') : o = o' ∧ l = l' ∧ c = c' ∧ r = r' ∧ q = q' := by
  have e : ∀ j, j < 5 → sCnt o l c r q j = sCnt o' l' c' r' q' j := fun j hj => by
    rw [← (h.num j hj).2, ← (k.num j hj).2]
  exact ⟨e 0 (by omega), e 1 (by omega), e 2 (by omega), e 3 (by omega), e 4 (by omega)⟩
theorem rst_parse (x : ByteArray) (hs : x.size ≤ 100000) :
    (∃ o l c r q : Int, IsSt x o l c r q ∧ ∀ w, Ret 22 #[.string x] w (.tuple #[stV o l c r q, .int .i64 0])) ∨
    ((∀ o l c r q : Int, ¬ IsSt x o l c r q) ∧ ∀ w, Ret 22 #[.string x] w (.tuple #[stV 0 0 0 0 0, .int .i64 9])) := by
  by_cases hA : ∀ j, j < 5 → 2 * j + 1 < (cutAll 32 x.data.toList).length → okw (cutAll 32 x.data.toList) j
  case neg =>
    exact .inr ⟨fun o l c r q h => hA (fun j hj _ => (h.num j hj).1), fun w => rparse_any x hs w _ _ (fun _ => ⟨rfl, rfl⟩) (fun h => absurd h hA)⟩
  have nb : ¬ ∃ j, j < 5 ∧ 2 * j + 1 < (cutAll 32 x.data.toList).length ∧ ¬ okw (cutAll 32 x.data.toList) j := fun ⟨j, h1, h2, h3⟩ => h3 (hA j h1 h2)
  have val : ∀ o l c r q : Int, IsSt x o l c r q → ∀ j, j < 5 → nval (cutAll 32 x.data.toList) (cutAll 32 x.data.toList).length j = sCnt o l c r q j := fun o l c r q h j hj => by
    unfold nval
    rw [if_pos (by rw [h.words, wordsL_eq]; simp; omega), (h.num j hj).2]
  have hrow : nrow (cutAll 32 x.data.toList) (cutAll 32 x.data.toList).length = #[.int .i64 (nval (cutAll 32 x.data.toList) (cutAll 32 x.data.toList).length 0), .int .i64 (nval (cutAll 32 x.data.toList) (cutAll 32 x.data.toList).length 1), .int .i64 (nval (cutAll 32 x.data.toList) (cutAll 32 x.data.toList).length 2), .int .i64 (nval (cutAll 32 x.data.toList) (cutAll 32 x.data.toList).length 3), .int .i64 (nval (cutAll 32 x.data.toList) (cutAll 32 x.data.toList).length 4)] := rfl
  generalize hv0 : nval (cutAll 32 x.data.toList) (cutAll 32 x.data.toList).length 0 = v0 at hrow
  generalize hv1 : nval (cutAll 32 x.data.toList) (cutAll 32 x.data.toList).length 1 = v1 at hrow
  generalize hv2 : nval (cutAll 32 x.data.toList) (cutAll 32 x.data.toList).length 2 = v2 at hrow
  generalize hv3 : nval (cutAll 32 x.data.toList) (cutAll 32 x.data.toList).length 3 = v3 at hrow
  generalize hv4 : nval (cutAll 32 x.data.toList) (cutAll 32 x.data.toList).length 4 = v4 at hrow
  have val2 : ∀ o l c r q : Int, IsSt x o l c r q → o = v0 ∧ l = v1 ∧ c = v2 ∧ r = v3 ∧ q = v4 := fun o l c r q h => by
    have := val o l c r q h
    exact ⟨(this 0 (by omega)).symm.trans hv0, (this 1 (by omega)).symm.trans hv1, (this 2 (by omega)).symm.trans hv2, (this 3 (by omega)).symm.trans hv3, (this 4 (by omega)).symm.trans hv4⟩
  clear val
  cases hk : sOk v0 v1 v2 v3 v4 with
  | false =>
    refine .inr ⟨fun o l c r q h => ?_, fun w => rparse_any x hs w _ _ (fun h => absurd h nb) (fun _ => ⟨v0, v1, v2, v3, v4, ⟨#[]⟩, 2, hrow, fun w => rtext_bad _ _ _ _ _ w hk, .inr ⟨.inl rfl, rfl, rfl⟩⟩)⟩
    obtain ⟨rfl, rfl, rfl, rfl, rfl⟩ := val2 o l c r q h
    rw [h.1] at hk
    cases hk
  | true =>
    by_cases hx : sText v0 v1 v2 v3 v4 = x
    · exact .inl ⟨v0, v1, v2, v3, v4, ⟨hk, hx⟩, fun w => rparse_any x hs w _ _ (fun h => absurd h nb) (fun _ => ⟨v0, v1, v2, v3, v4, _, 0, hrow, fun w => rtext_ok _ _ _ _ _ w hk, .inl ⟨rfl, bytes_beq_true hx, rfl, rfl⟩⟩)⟩
    · refine .inr ⟨fun o l c r q h => ?_, fun w => rparse_any x hs w _ _ (fun h => absurd h nb) (fun _ => ⟨v0, v1, v2, v3, v4, _, 0, hrow, fun w => rtext_ok _ _ _ _ _ w hk, .inr ⟨.inr ⟨rfl, str_beq_ne hx⟩, rfl, rfl⟩⟩)⟩
      obtain ⟨rfl, rfl, rfl, rfl, rfl⟩ := val2 o l c r q h
      exact hx h.2
theorem parse_joint (x : ByteArray) (hs : x.size ≤ 100000) : ∃ o l c r q e : Int, (∀ w, EnvP w → Ret 21 #[.string x] w (.tuple #[stV o l c r q, .int .i64 e])) ∧ (∀ w, Ret 22 #[.string x] w (.tuple #[stV o l c r q, .int .i64 e])) := by
  rcases st_parse x hs with ⟨o, l, c, r, q, hx, hp⟩ | ⟨hx, hp⟩
  · rcases rst_parse x hs with ⟨o', l', c', r', q', hx', hp'⟩ | ⟨hx', hp'⟩
    · obtain ⟨rfl, rfl, rfl, rfl, rfl⟩ := hx.same hx'
      exact ⟨_, _, _, _, _, _, hp, hp'⟩
    · exact absurd hx (hx' _ _ _ _ _)
  · rcases rst_parse x hs with ⟨o', l', c', r', q', hx', hp'⟩ | ⟨hx', hp'⟩
    · exact absurd hx' (hx _ _ _ _ _)
    · exact ⟨_, _, _, _, _, _, hp, hp'⟩
theorem text_joint (o l c r q : Int) : ∃ (T : ByteArray) (e : Int), (∀ w, Env w → Ret 18 #[stV o l c r q] w (.tuple #[.string T, .int .i64 e])) ∧ (∀ w, Ret 20 #[stV o l c r q] w (.tuple #[.string T, .int .i64 e])) := by
  cases hk : sOk o l c r q with
  | true => exact ⟨_, _, fun w hE => text_ok o l c r q w hE hk, fun w => rtext_ok o l c r q w hk⟩
  | false => exact ⟨_, _, fun w _ => text_bad o l c r q w hk, fun w => rtext_bad o l c r q w hk⟩
set_option maxHeartbeats 8000000 in
set_option maxRecDepth 20000 in
theorem texts_walk (o l c r q : Int) (x : ByteArray) (w : World) (hE : EnvP w) : Ret 6 #[stV o l c r q, .string x] w (.bool true) := by
  have hc0 := Below.refl w.heap.size w
  by_cases hl : x.size ≤ 1000
  · have hl' : (x.size : Int) ≤ 1000 := by omega
    obtain ⟨T, e, ht, hrt⟩ := text_joint o l c r q
    obtain ⟨o1, l1, c1, r1, q1, e1, hp, hrp⟩ := parse_joint x (by omega)
    have HT := Lib.hid ht
    have HRT := Lib.hid hrt
    have HP := Lib.hid hp
    have HRP := Lib.hid hrp
    clear ht hrt hp hrp hl
    go_enter Tryd.func6, Tryd.ntmps6
    go_wp2_with fail
    refine Calls.mono (HT.out _ (hE.toEnv.on (by go_grown))) ?_
    rintro e w1 ⟨rfl, hb1⟩
    obtain ⟨kk, ff⟩ := bcell hb1
    have hc1 : Below w.heap.size w w1 := under hb1
    have k1_0 : ∀ o, w1.cell? ⟨w.heap.size, o, none⟩ = _ := fun o => kk _ o (by first | assumption | omega | (simp; done) | (simp; omega))
    have f1_0 : ∀ o, w1.frozen? ⟨w.heap.size, o, none⟩ = _ := fun o => ff _ o (by first | assumption | omega | (simp; done) | (simp; omega))
    have z1_0 : w.heap.size < w1.heap.size := by have := hb1.size; (try simp at this); omega
    clear kk ff
    have hs1 := hc1.size
    clear hc0 hb1
    go_wp2_with fail
    refine Calls.mono (HRT.out _) ?_
    rintro e w2 ⟨rfl, hb2⟩
    obtain ⟨kk, ff⟩ := bcell hb2
    have hc2 : Below w.heap.size w w2 := under hb2
    clear kk ff
    have hs2 := hc2.size
    clear hc1 hb2
    go_wp2_with fail
    refine Calls.mono (HP.out _ (hE.on (by go_grown))) ?_
    rintro e w3 ⟨rfl, hb3⟩
    obtain ⟨kk, ff⟩ := bcell hb3
    have hc3 : Below w.heap.size w w3 := under hb3
    clear kk ff
    have hs3 := hc3.size
    clear hc2 hb3
    go_wp2_with fail
    refine Calls.mono (HRP.out _) ?_
    rintro e w4 ⟨rfl, hb4⟩
    obtain ⟨kk, ff⟩ := bcell hb4
    have hc4 : Below w.heap.size w w4 := under hb4
    have k4_0 : ∀ o, w4.cell? ⟨w3.heap.size, o, none⟩ = _ := fun o => kk _ o (by first | assumption | omega | (simp; done) | (simp; omega))
    have f4_0 : ∀ o, w4.frozen? ⟨w3.heap.size, o, none⟩ = _ := fun o => ff _ o (by first | assumption | omega | (simp; done) | (simp; omega))
    have z4_0 : w3.heap.size < w4.heap.size := by have := hb4.size; (try simp at this); omega
    clear kk ff
    have hs4 := hc4.size
    clear hc3 hb4
    go_wp2_with fail
    refine Calls.mono (works _ (hE.toEnv.on (by go_grown))) ?_
    rintro e w5 ⟨rfl, hb5⟩
    obtain ⟨kk, ff⟩ := bcell hb5
    have hc5 : Below w.heap.size w w5 := under hb5
    clear kk ff
    have hs5 := hc5.size
    clear hc4 hb5
    go_wp2_with fail
    go_returns
    exact ⟨rfl, by go_grown⟩
  · have hl' : 1000 < (x.size : Int) := by omega
    go_enter Tryd.func6, Tryd.ntmps6
    go_wp2_with fail
    refine Calls.mono (works _ (hE.toEnv.on (by go_grown))) ?_
    rintro e w1 ⟨rfl, hb1⟩
    obtain ⟨kk, ff⟩ := bcell hb1
    have hc1 : Below w.heap.size w w1 := under hb1
    clear kk ff
    have hs1 := hc1.size
    clear hc0 hb1
    go_wp2_with fail
    go_returns
    exact ⟨rfl, by go_grown⟩
end Go.Proofs.YtjebicdlbknemaaDoor
