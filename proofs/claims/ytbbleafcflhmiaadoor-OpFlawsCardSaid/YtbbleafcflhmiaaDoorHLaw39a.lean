/- OpFlaws walked. -/
import Derived.Test.YtbbleafcflhmiaaDoorHMade39
import Derived.Test.YtbbleafcflhmiaaDoorHWorks39
import Derived.Test.YtbbleafcflhmiaaDoorL0a
namespace Go.Proofs.YtbbleafcflhmiaaDoor
open Go.RowKit
set_option linter.unusedVariables false
set_option linter.unusedSimpArgs false
set_option maxHeartbeats 40000000
set_option maxRecDepth 20000
theorem rep_o (n : Nat) (hn : n ≤ 1000) (w : World) : Ret 8 #[.string ⟨#[111]⟩, .int .i64 n] w (.string ⟨(Lib.repeatL [111] n).toArray⟩) :=
  Tryd.strings_Repeat ⟨#[111]⟩ n w (by omega) (by show 1 * n ≤ _; omega)
theorem bounds_all (kd : Int) : mHi kd ≤ 3 ∧ 0 ≤ mHi kd ∧ aHi kd ≤ 1048576 ∧ bHi kd ≤ 1048576 ∧ cHi kd ≤ 31 := by
  unfold mHi aHi bHi cHi
  repeat' split
  all_goals omega
theorem not_ok {p : OpR} (h : ¬ ((1 ≤ p.1 ∧ p.1 ≤ 17) ∧ (0 ≤ p.2.m ∧ p.2.m ≤ 3) ∧ p.2.a ≤ 1048576 ∧ p.2.b ≤ 1048576 ∧ p.2.c ≤ 31 ∧ tgOk p.1 p.2.tag.data.toList = true)) : okR p = false := by
  cases hh : okR p with
  | false => rfl
  | true =>
    exfalso
    obtain ⟨h1, h2, h3, h4, h5, h6⟩ := opOk_iff.1 (show opOk p.1 p.2.m p.2.a p.2.b p.2.c p.2.tag.data.toList = true from hh)
    have := bounds_all p.1
    exact h ⟨h1, by omega, by omega, by omega, by omega, h6⟩
theorem tg_long {kd : Int} {l : List UInt8} (h : 100 < l.length) : tgOk kd l = false := by
  unfold tgOk
  split
  · cases hh : tagOk l with
    | false => rfl
    | true => have := (tagOk_len hh).2; omega
  · split
    · unfold ansOk
      rw [decide_eq_false (show ¬ l.length ≤ 100 by omega)]
      simp
    · cases l with
      | nil => simp at h
      | cons => rfl
theorem tg_a (kd : Int) : tgOk kd [97, 10] = false := by
  unfold tgOk
  split
  · decide
  · split <;> decide
theorem not_fl {p : OpR} (h : okR p = false) : ¬ p.2.ok p.1 := fun hh => by rw [show okR p = true from hh] at h; cases h
theorem err_two {p : OpR} (h : okR p = false) : opErr p.1 p.2.m p.2.a p.2.b p.2.c p.2.tag = 2 := by
  unfold opErr
  rw [show opOk p.1 p.2.m p.2.a p.2.b p.2.c p.2.tag.data.toList = false from h]
  rfl
theorem two_bad (p q : OpR) (h : okR q = false) : printAllR [p, q] = ([], 2) := by
  unfold printAllR
  rw [if_neg (show ¬ 2000 < [p, q].length by simp), if_pos (by simp [h])]
theorem flaws_walk (k m t a b c wh n : Int) (w : World) (hE : EnvL w) (k0 : 0 ≤ k) (k1 : k ≤ 255) (m0 : 0 ≤ m) (m1 : m ≤ 255) (t0 : 0 ≤ t) (t1 : t ≤ 255) (a0 : 0 ≤ a) (a1 : a ≤ 4294967295) (b0 : 0 ≤ b) (b1 : b ≤ 4294967295) (c0 : 0 ≤ c) (c1 : c ≤ 4294967295) (h0 : 0 ≤ wh) (h1 : wh ≤ 255) (n0 : 0 ≤ n) (n1 : n ≤ 65535) :
    Ret 3 #[.agg #[.int .u8 k, .int .u8 m, .int .u8 t, .int .u32 a, .int .u32 b, .int .u32 c], .int .u8 wh, .int .u16 n] w (.bool true) := by
  have MC := Lib.hid (fun W => made_c k m t a b c W k0 k1 m0 m1 t0 t1 a0 a1 b0 b1 c0 c1)
  have HE := Lib.hid hE
  have q1 : IntKind.i64.wrap n = n := IntWalk.i64_in _ ⟨by omega, by omega⟩
  clear hE k0 k1 m0 m1 t0 t1 a0 a1 b0 b1 c0 c1
  have hc := Below.refl w.heap.size w
  go_enter Tryd.func3, Tryd.ntmps3
  go_upto_region 1 with fail
  have r3 := Row.new (W := w) (cs := #[.int .u8 k, .int .u8 m, .int .u8 t, .int .u32 a, .int .u32 b, .int .u32 c]) (t := 24)
  have hn := below_alloc w (.cells #[.int .u8 k, .int .u8 m, .int .u8 t, .int .u32 a, .int .u32 b, .int .u32 c] 24)
  have wr3 : w.heap.size ≤ w.heap.size := hc.size
  replace hc := chain hc hn
  clear hn
  generalize w.alloc (.cells #[.int .u8 k, .int .u8 m, .int .u8 t, .int .u32 a, .int .u32 b, .int .u32 c] 24) = V1 at r3 hc ⊢
  have yr3 := r3.cell
  have zr3 := r3.lt
  go_wp2_with fail
  clear yr3 zr3
  refine Calls.mono (MC.out _) ?_
  rintro e V2 ⟨⟨p, rfl, hp⟩, hn⟩
  replace r3 := r3.on hn
  replace hc := chain hc hn
  clear hn
  have yr3 := r3.cell
  have zr3 := r3.lt
  go_upto_region 2 with fail
  clear yr3 zr3
  have r7 := Row.new (W := V2) (cs := #[.int .i64 p.1, .int .i64 p.2.m, .int .i64 p.2.a, .int .i64 p.2.b, .int .i64 p.2.c, .string p.2.tag]) (t := 27)
  have hn := below_alloc V2 (.cells #[.int .i64 p.1, .int .i64 p.2.m, .int .i64 p.2.a, .int .i64 p.2.b, .int .i64 p.2.c, .string p.2.tag] 27)
  have nr3_r7 : w.heap.size ≠ V2.heap.size := Nat.ne_of_lt r3.lt
  have wr7 : w.heap.size ≤ V2.heap.size := hc.size
  replace r3 := r3.on hn
  replace hc := chain hc hn
  clear hn
  generalize V2.alloc (.cells #[.int .i64 p.1, .int .i64 p.2.m, .int .i64 p.2.a, .int .i64 p.2.b, .int .i64 p.2.c, .string p.2.tag] 27) = V3 at r3 r7 hc ⊢
  generalize V2.heap.size = b7 at *
  have yr3 := r3.cell
  have zr3 := r3.lt
  have yr7 := r7.cell
  have zr7 := r7.lt
  go_upto_region 3 with fail
  clear yr3 yr7 zr3 zr7
  have r8 := Row.new (W := V3) (cs := #[.int .i64 p.1, .int .i64 p.2.m, .int .i64 p.2.a, .int .i64 p.2.b, .int .i64 p.2.c, .string p.2.tag]) (t := 27)
  have hn := below_alloc V3 (.cells #[.int .i64 p.1, .int .i64 p.2.m, .int .i64 p.2.a, .int .i64 p.2.b, .int .i64 p.2.c, .string p.2.tag] 27)
  have nr3_r8 : w.heap.size ≠ V3.heap.size := Nat.ne_of_lt r3.lt
  have nr7_r8 : b7 ≠ V3.heap.size := Nat.ne_of_lt r7.lt
  have wr8 : w.heap.size ≤ V3.heap.size := hc.size
  replace r3 := r3.on hn
  replace r7 := r7.on hn
  replace hc := chain hc hn
  clear hn
  generalize V3.alloc (.cells #[.int .i64 p.1, .int .i64 p.2.m, .int .i64 p.2.a, .int .i64 p.2.b, .int .i64 p.2.c, .string p.2.tag] 27) = V4 at r3 r7 r8 hc ⊢
  generalize V3.heap.size = b8 at *
  have HTS := Lib.hid (show p.2.tag.size ≤ 1000000 by have := tag_sz (show p.2.ok p.1 from hp); omega)
  clear hp
  rcases (by omega : wh % 8 = 0 ∨ wh % 8 = 1 ∨ wh % 8 = 2 ∨ wh % 8 = 3 ∨ wh % 8 = 4 ∨ wh % 8 = 5 ∨ wh % 8 = 6 ∨ wh % 8 = 7) with hw | hw | hw | hw | hw | hw | hw | hw
  · have x1 : wrap64 (18 + n) = (18 + n) := IntWalk.wrap64_in _ ⟨by omega, by omega⟩
    have yr3 := r3.cell
    have zr3 := r3.lt
    have yr7 := r7.cell
    have zr7 := r7.lt
    have yr8 := r8.cell
    have zr8 := r8.lt
    have ur8 := r8.free
    go_upto_region 21 with fail
    clear yr3 yr7 yr8 zr3 zr7 zr8 ur8
    clear x1
    replace r3 := (r3.other nr3_r8.symm 0 (.int .i64 (18 + n)))
    replace r7 := (r7.other nr7_r8.symm 0 (.int .i64 (18 + n)))
    replace r8 := (r8.set 0 (.int .i64 (18 + n)))
    simp only [List.setIfInBounds_toArray, List.set_cons_zero, List.set_cons_succ] at r8
    replace hc := (hc.setCell (p := ⟨b8, 0, none⟩) wr8 (.int .i64 (18 + n)))
    generalize hW : World.setCell _ _ _ = V5 at *
    clear hW
    have hbad : okR (((18 + n), ⟨p.2.m, p.2.a, p.2.b, p.2.c, p.2.tag⟩) : OpR) = false := not_ok (by rintro ⟨h1, h2, h3, h4, h5, h6⟩; simp only at h1 h2 h3 h4 h5; omega)
    have hts : (p.2.tag).size ≤ 1000000 := by first | exact HTS.out | decide | (show (Lib.repeatL [111] _).toArray.size ≤ _; simp [Lib.repeatL_length]; omega)
    have cp := fun W hW => print_bad (18 + n) ⟨p.2.m, p.2.a, p.2.b, p.2.c, p.2.tag⟩ W hW hts (not_fl hbad)
    have cc := fun W hW => check_c (18 + n) p.2.m p.2.a p.2.b p.2.c p.2.tag W hW hts
    rw [show opErr (18 + n) p.2.m p.2.a p.2.b p.2.c p.2.tag = 2 from err_two hbad] at cc
    have ca := fun v W hW hv => printAll_c v [p, (((18 + n), ⟨p.2.m, p.2.a, p.2.b, p.2.c, p.2.tag⟩) : OpR)] W hW hv (by simp) (by intro q hq; simp at hq; rcases hq with rfl | rfl; exact HTS.out; exact hts)
    rw [two_bad p (((18 + n), ⟨p.2.m, p.2.a, p.2.b, p.2.c, p.2.tag⟩) : OpR) hbad] at ca
    have CP := Lib.hid cp
    have CC := Lib.hid cc
    have CA := Lib.hid ca
    clear cp cc ca hbad hts
    have yr3 := r3.cell
    have zr3 := r3.lt
    have yr7 := r7.cell
    have zr7 := r7.lt
    have yr8 := r8.cell
    have zr8 := r8.lt
    go_wp2_with fail
    refine Calls.mono (CP.out _ (HE.out.on hc)) ?_
    rintro e V6 ⟨rfl, hn⟩
    clear yr3 yr7 yr8 zr3 zr7 zr8
    replace r3 := r3.on hn
    replace r7 := r7.on hn
    replace r8 := r8.on hn
    replace hc := chain hc hn
    clear hn
    have yr3 := r3.cell
    have zr3 := r3.lt
    have yr7 := r7.cell
    have zr7 := r7.lt
    have yr8 := r8.cell
    have zr8 := r8.lt
    go_wp2_with fail
    clear yr3 yr7 yr8 zr3 zr7 zr8
    have rn := Row.new (W := V6) (cs := #[.int .i64 p.1, .int .i64 p.2.m, .int .i64 p.2.a, .int .i64 p.2.b, .int .i64 p.2.c, .string p.2.tag, .int .i64 (18 + n), .int .i64 p.2.m, .int .i64 p.2.a, .int .i64 p.2.b, .int .i64 p.2.c, .string p.2.tag]) (t := 27)
    have hn := below_alloc V6 (.cells #[.int .i64 p.1, .int .i64 p.2.m, .int .i64 p.2.a, .int .i64 p.2.b, .int .i64 p.2.c, .string p.2.tag, .int .i64 (18 + n), .int .i64 p.2.m, .int .i64 p.2.a, .int .i64 p.2.b, .int .i64 p.2.c, .string p.2.tag] 27)
    replace r3 := r3.on hn
    replace r7 := r7.on hn
    replace r8 := r8.on hn
    replace hc := chain hc hn
    clear hn
    have hu : HoldsO (V6.alloc (.cells #[.int .i64 p.1, .int .i64 p.2.m, .int .i64 p.2.a, .int .i64 p.2.b, .int .i64 p.2.c, .string p.2.tag, .int .i64 (18 + n), .int .i64 p.2.m, .int .i64 p.2.a, .int .i64 p.2.b, .int .i64 p.2.c, .string p.2.tag] 27)) (.slice (some ⟨V6.heap.size, 0, none⟩) 2 2) [p, (((18 + n), ⟨p.2.m, p.2.a, p.2.b, p.2.c, p.2.tag⟩) : OpR)] := .inr ⟨_, 0, 2, rfl, holds_row rn rfl⟩
    generalize V6.alloc (.cells #[.int .i64 p.1, .int .i64 p.2.m, .int .i64 p.2.a, .int .i64 p.2.b, .int .i64 p.2.c, .string p.2.tag, .int .i64 (18 + n), .int .i64 p.2.m, .int .i64 p.2.a, .int .i64 p.2.b, .int .i64 p.2.c, .string p.2.tag] 27) = U at *
    generalize V6.heap.size = bu at *
    refine Calls.mono (CA.out _ _ (HE.out.on hc) hu) ?_
    rintro e U1 ⟨rfl, hn⟩
    clear rn hu
    replace r3 := r3.on hn
    replace r7 := r7.on hn
    replace r8 := r8.on hn
    replace hc := chain hc hn
    clear hn
    have yr3 := r3.cell
    have zr3 := r3.lt
    have yr7 := r7.cell
    have zr7 := r7.lt
    have yr8 := r8.cell
    have zr8 := r8.lt
    go_wp2_with fail
    refine Calls.mono (CC.out _ (HE.out.on hc)) ?_
    rintro e V7 ⟨rfl, hn⟩
    clear yr3 yr7 yr8 zr3 zr7 zr8
    replace r3 := r3.on hn
    replace r7 := r7.on hn
    replace r8 := r8.on hn
    replace hc := chain hc hn
    clear hn
    have yr3 := r3.cell
    have zr3 := r3.lt
    have yr7 := r7.cell
    have zr7 := r7.lt
    have yr8 := r8.cell
    have zr8 := r8.lt
    go_wp2_with fail
    refine Calls.mono (works _ (HE.out.on hc)) ?_
    rintro e V8 ⟨rfl, hn⟩
    clear yr3 yr7 yr8 zr3 zr7 zr8
    replace r3 := r3.on hn
    replace r7 := r7.on hn
    replace r8 := r8.on hn
    replace hc := chain hc hn
    clear hn
    have yr3 := r3.cell
    have zr3 := r3.lt
    have yr7 := r7.cell
    have zr7 := r7.lt
    have yr8 := r8.cell
    have zr8 := r8.lt
    go_wp2_with fail
    go_returns
    exact ⟨rfl, hc⟩
  · have x1 : wrap64 (-n) = (-n) := IntWalk.wrap64_in _ ⟨by omega, by omega⟩
    have yr3 := r3.cell
    have zr3 := r3.lt
    have yr7 := r7.cell
    have zr7 := r7.lt
    have yr8 := r8.cell
    have zr8 := r8.lt
    have ur8 := r8.free
    go_upto_region 21 with fail
    clear yr3 yr7 yr8 zr3 zr7 zr8 ur8
    clear x1
    replace r3 := (r3.other nr3_r8.symm 0 (.int .i64 (-n)))
    replace r7 := (r7.other nr7_r8.symm 0 (.int .i64 (-n)))
    replace r8 := (r8.set 0 (.int .i64 (-n)))
    simp only [List.setIfInBounds_toArray, List.set_cons_zero, List.set_cons_succ] at r8
    replace hc := (hc.setCell (p := ⟨b8, 0, none⟩) wr8 (.int .i64 (-n)))
    generalize hW : World.setCell _ _ _ = V5 at *
    clear hW
    have hbad : okR (((-n), ⟨p.2.m, p.2.a, p.2.b, p.2.c, p.2.tag⟩) : OpR) = false := not_ok (by rintro ⟨h1, h2, h3, h4, h5, h6⟩; simp only at h1 h2 h3 h4 h5; omega)
    have hts : (p.2.tag).size ≤ 1000000 := by first | exact HTS.out | decide | (show (Lib.repeatL [111] _).toArray.size ≤ _; simp [Lib.repeatL_length]; omega)
    have cp := fun W hW => print_bad (-n) ⟨p.2.m, p.2.a, p.2.b, p.2.c, p.2.tag⟩ W hW hts (not_fl hbad)
    have cc := fun W hW => check_c (-n) p.2.m p.2.a p.2.b p.2.c p.2.tag W hW hts
    rw [show opErr (-n) p.2.m p.2.a p.2.b p.2.c p.2.tag = 2 from err_two hbad] at cc
    have ca := fun v W hW hv => printAll_c v [p, (((-n), ⟨p.2.m, p.2.a, p.2.b, p.2.c, p.2.tag⟩) : OpR)] W hW hv (by simp) (by intro q hq; simp at hq; rcases hq with rfl | rfl; exact HTS.out; exact hts)
    rw [two_bad p (((-n), ⟨p.2.m, p.2.a, p.2.b, p.2.c, p.2.tag⟩) : OpR) hbad] at ca
    have CP := Lib.hid cp
    have CC := Lib.hid cc
    have CA := Lib.hid ca
    clear cp cc ca hbad hts
    have yr3 := r3.cell
    have zr3 := r3.lt
    have yr7 := r7.cell
    have zr7 := r7.lt
    have yr8 := r8.cell
    have zr8 := r8.lt
    go_wp2_with fail
    refine Calls.mono (CP.out _ (HE.out.on hc)) ?_
    rintro e V6 ⟨rfl, hn⟩
    clear yr3 yr7 yr8 zr3 zr7 zr8
    replace r3 := r3.on hn
    replace r7 := r7.on hn
    replace r8 := r8.on hn
    replace hc := chain hc hn
    clear hn
    have yr3 := r3.cell
    have zr3 := r3.lt
    have yr7 := r7.cell
    have zr7 := r7.lt
    have yr8 := r8.cell
    have zr8 := r8.lt
    go_wp2_with fail
    clear yr3 yr7 yr8 zr3 zr7 zr8
    have rn := Row.new (W := V6) (cs := #[.int .i64 p.1, .int .i64 p.2.m, .int .i64 p.2.a, .int .i64 p.2.b, .int .i64 p.2.c, .string p.2.tag, .int .i64 (-n), .int .i64 p.2.m, .int .i64 p.2.a, .int .i64 p.2.b, .int .i64 p.2.c, .string p.2.tag]) (t := 27)
    have hn := below_alloc V6 (.cells #[.int .i64 p.1, .int .i64 p.2.m, .int .i64 p.2.a, .int .i64 p.2.b, .int .i64 p.2.c, .string p.2.tag, .int .i64 (-n), .int .i64 p.2.m, .int .i64 p.2.a, .int .i64 p.2.b, .int .i64 p.2.c, .string p.2.tag] 27)
    replace r3 := r3.on hn
    replace r7 := r7.on hn
    replace r8 := r8.on hn
    replace hc := chain hc hn
    clear hn
    have hu : HoldsO (V6.alloc (.cells #[.int .i64 p.1, .int .i64 p.2.m, .int .i64 p.2.a, .int .i64 p.2.b, .int .i64 p.2.c, .string p.2.tag, .int .i64 (-n), .int .i64 p.2.m, .int .i64 p.2.a, .int .i64 p.2.b, .int .i64 p.2.c, .string p.2.tag] 27)) (.slice (some ⟨V6.heap.size, 0, none⟩) 2 2) [p, (((-n), ⟨p.2.m, p.2.a, p.2.b, p.2.c, p.2.tag⟩) : OpR)] := .inr ⟨_, 0, 2, rfl, holds_row rn rfl⟩
    generalize V6.alloc (.cells #[.int .i64 p.1, .int .i64 p.2.m, .int .i64 p.2.a, .int .i64 p.2.b, .int .i64 p.2.c, .string p.2.tag, .int .i64 (-n), .int .i64 p.2.m, .int .i64 p.2.a, .int .i64 p.2.b, .int .i64 p.2.c, .string p.2.tag] 27) = U at *
    generalize V6.heap.size = bu at *
    refine Calls.mono (CA.out _ _ (HE.out.on hc) hu) ?_
    rintro e U1 ⟨rfl, hn⟩
    clear rn hu
    replace r3 := r3.on hn
    replace r7 := r7.on hn
    replace r8 := r8.on hn
    replace hc := chain hc hn
    clear hn
    have yr3 := r3.cell
    have zr3 := r3.lt
    have yr7 := r7.cell
    have zr7 := r7.lt
    have yr8 := r8.cell
    have zr8 := r8.lt
    go_wp2_with fail
    refine Calls.mono (CC.out _ (HE.out.on hc)) ?_
    rintro e V7 ⟨rfl, hn⟩
    clear yr3 yr7 yr8 zr3 zr7 zr8
    replace r3 := r3.on hn
    replace r7 := r7.on hn
    replace r8 := r8.on hn
    replace hc := chain hc hn
    clear hn
    have yr3 := r3.cell
    have zr3 := r3.lt
    have yr7 := r7.cell
    have zr7 := r7.lt
    have yr8 := r8.cell
    have zr8 := r8.lt
    go_wp2_with fail
    refine Calls.mono (works _ (HE.out.on hc)) ?_
    rintro e V8 ⟨rfl, hn⟩
    clear yr3 yr7 yr8 zr3 zr7 zr8
    replace r3 := r3.on hn
    replace r7 := r7.on hn
    replace r8 := r8.on hn
    replace hc := chain hc hn
    clear hn
    have yr3 := r3.cell
    have zr3 := r3.lt
    have yr7 := r7.cell
    have zr7 := r7.lt
    have yr8 := r8.cell
    have zr8 := r8.lt
    go_wp2_with fail
    go_returns
    exact ⟨rfl, hc⟩
  · have x1 : wrap64 (4 + n) = (4 + n) := IntWalk.wrap64_in _ ⟨by omega, by omega⟩
    have yr3 := r3.cell
    have zr3 := r3.lt
    have yr7 := r7.cell
    have zr7 := r7.lt
    have yr8 := r8.cell
    have zr8 := r8.lt
    have ur8 := r8.free
    go_upto_region 21 with fail
    clear yr3 yr7 yr8 zr3 zr7 zr8 ur8
    clear x1
    replace r3 := (r3.other nr3_r8.symm 1 (.int .i64 (4 + n)))
    replace r7 := (r7.other nr7_r8.symm 1 (.int .i64 (4 + n)))
    replace r8 := (r8.set 1 (.int .i64 (4 + n)))
    simp only [List.setIfInBounds_toArray, List.set_cons_zero, List.set_cons_succ] at r8
    replace hc := (hc.setCell (p := ⟨b8, 1, none⟩) wr8 (.int .i64 (4 + n)))
    generalize hW : World.setCell _ _ _ = V5 at *
    clear hW
    have hbad : okR ((p.1, ⟨(4 + n), p.2.a, p.2.b, p.2.c, p.2.tag⟩) : OpR) = false := not_ok (by rintro ⟨h1, h2, h3, h4, h5, h6⟩; simp only at h1 h2 h3 h4 h5; omega)
    have hts : (p.2.tag).size ≤ 1000000 := by first | exact HTS.out | decide | (show (Lib.repeatL [111] _).toArray.size ≤ _; simp [Lib.repeatL_length]; omega)
    have cp := fun W hW => print_bad p.1 ⟨(4 + n), p.2.a, p.2.b, p.2.c, p.2.tag⟩ W hW hts (not_fl hbad)
    have cc := fun W hW => check_c p.1 (4 + n) p.2.a p.2.b p.2.c p.2.tag W hW hts
    rw [show opErr p.1 (4 + n) p.2.a p.2.b p.2.c p.2.tag = 2 from err_two hbad] at cc
    have ca := fun v W hW hv => printAll_c v [p, ((p.1, ⟨(4 + n), p.2.a, p.2.b, p.2.c, p.2.tag⟩) : OpR)] W hW hv (by simp) (by intro q hq; simp at hq; rcases hq with rfl | rfl; exact HTS.out; exact hts)
    rw [two_bad p ((p.1, ⟨(4 + n), p.2.a, p.2.b, p.2.c, p.2.tag⟩) : OpR) hbad] at ca
    have CP := Lib.hid cp
    have CC := Lib.hid cc
    have CA := Lib.hid ca
    clear cp cc ca hbad hts
    have yr3 := r3.cell
    have zr3 := r3.lt
    have yr7 := r7.cell
    have zr7 := r7.lt
    have yr8 := r8.cell
    have zr8 := r8.lt
    go_wp2_with fail
    refine Calls.mono (CP.out _ (HE.out.on hc)) ?_
    rintro e V6 ⟨rfl, hn⟩
    clear yr3 yr7 yr8 zr3 zr7 zr8
    replace r3 := r3.on hn
    replace r7 := r7.on hn
    replace r8 := r8.on hn
    replace hc := chain hc hn
    clear hn
    have yr3 := r3.cell
    have zr3 := r3.lt
    have yr7 := r7.cell
    have zr7 := r7.lt
    have yr8 := r8.cell
    have zr8 := r8.lt
    go_wp2_with fail
    clear yr3 yr7 yr8 zr3 zr7 zr8
    have rn := Row.new (W := V6) (cs := #[.int .i64 p.1, .int .i64 p.2.m, .int .i64 p.2.a, .int .i64 p.2.b, .int .i64 p.2.c, .string p.2.tag, .int .i64 p.1, .int .i64 (4 + n), .int .i64 p.2.a, .int .i64 p.2.b, .int .i64 p.2.c, .string p.2.tag]) (t := 27)
    have hn := below_alloc V6 (.cells #[.int .i64 p.1, .int .i64 p.2.m, .int .i64 p.2.a, .int .i64 p.2.b, .int .i64 p.2.c, .string p.2.tag, .int .i64 p.1, .int .i64 (4 + n), .int .i64 p.2.a, .int .i64 p.2.b, .int .i64 p.2.c, .string p.2.tag] 27)
    replace r3 := r3.on hn
    replace r7 := r7.on hn
    replace r8 := r8.on hn
    replace hc := chain hc hn
    clear hn
    have hu : HoldsO (V6.alloc (.cells #[.int .i64 p.1, .int .i64 p.2.m, .int .i64 p.2.a, .int .i64 p.2.b, .int .i64 p.2.c, .string p.2.tag, .int .i64 p.1, .int .i64 (4 + n), .int .i64 p.2.a, .int .i64 p.2.b, .int .i64 p.2.c, .string p.2.tag] 27)) (.slice (some ⟨V6.heap.size, 0, none⟩) 2 2) [p, ((p.1, ⟨(4 + n), p.2.a, p.2.b, p.2.c, p.2.tag⟩) : OpR)] := .inr ⟨_, 0, 2, rfl, holds_row rn rfl⟩
    generalize V6.alloc (.cells #[.int .i64 p.1, .int .i64 p.2.m, .int .i64 p.2.a, .int .i64 p.2.b, .int .i64 p.2.c, .string p.2.tag, .int .i64 p.1, .int .i64 (4 + n), .int .i64 p.2.a, .int .i64 p.2.b, .int .i64 p.2.c, .string p.2.tag] 27) = U at *
    generalize V6.heap.size = bu at *
    refine Calls.mono (CA.out _ _ (HE.out.on hc) hu) ?_
    rintro e U1 ⟨rfl, hn⟩
    clear rn hu
    replace r3 := r3.on hn
    replace r7 := r7.on hn
    replace r8 := r8.on hn
    replace hc := chain hc hn
    clear hn
    have yr3 := r3.cell
    have zr3 := r3.lt
    have yr7 := r7.cell
    have zr7 := r7.lt
    have yr8 := r8.cell
    have zr8 := r8.lt
    go_wp2_with fail
    refine Calls.mono (CC.out _ (HE.out.on hc)) ?_
    rintro e V7 ⟨rfl, hn⟩
    clear yr3 yr7 yr8 zr3 zr7 zr8
    replace r3 := r3.on hn
    replace r7 := r7.on hn
    replace r8 := r8.on hn
    replace hc := chain hc hn
    clear hn
    have yr3 := r3.cell
    have zr3 := r3.lt
    have yr7 := r7.cell
    have zr7 := r7.lt
    have yr8 := r8.cell
    have zr8 := r8.lt
    go_wp2_with fail
    refine Calls.mono (works _ (HE.out.on hc)) ?_
    rintro e V8 ⟨rfl, hn⟩
    clear yr3 yr7 yr8 zr3 zr7 zr8
    replace r3 := r3.on hn
    replace r7 := r7.on hn
    replace r8 := r8.on hn
    replace hc := chain hc hn
    clear hn
    have yr3 := r3.cell
    have zr3 := r3.lt
    have yr7 := r7.cell
    have zr7 := r7.lt
    have yr8 := r8.cell
    have zr8 := r8.lt
    go_wp2_with fail
    go_returns
    exact ⟨rfl, hc⟩
  · have x1 : wrap64 (-1 - n) = (-1 - n) := IntWalk.wrap64_in _ ⟨by omega, by omega⟩
    have yr3 := r3.cell
    have zr3 := r3.lt
    have yr7 := r7.cell
    have zr7 := r7.lt
    have yr8 := r8.cell
    have zr8 := r8.lt
    have ur8 := r8.free
    go_upto_region 21 with fail
    clear yr3 yr7 yr8 zr3 zr7 zr8 ur8
    clear x1
    replace r3 := (r3.other nr3_r8.symm 1 (.int .i64 (-1 - n)))
    replace r7 := (r7.other nr7_r8.symm 1 (.int .i64 (-1 - n)))
    replace r8 := (r8.set 1 (.int .i64 (-1 - n)))
    simp only [List.setIfInBounds_toArray, List.set_cons_zero, List.set_cons_succ] at r8
    replace hc := (hc.setCell (p := ⟨b8, 1, none⟩) wr8 (.int .i64 (-1 - n)))
    generalize hW : World.setCell _ _ _ = V5 at *
    clear hW
    have hbad : okR ((p.1, ⟨(-1 - n), p.2.a, p.2.b, p.2.c, p.2.tag⟩) : OpR) = false := not_ok (by rintro ⟨h1, h2, h3, h4, h5, h6⟩; simp only at h1 h2 h3 h4 h5; omega)
    have hts : (p.2.tag).size ≤ 1000000 := by first | exact HTS.out | decide | (show (Lib.repeatL [111] _).toArray.size ≤ _; simp [Lib.repeatL_length]; omega)
    have cp := fun W hW => print_bad p.1 ⟨(-1 - n), p.2.a, p.2.b, p.2.c, p.2.tag⟩ W hW hts (not_fl hbad)
    have cc := fun W hW => check_c p.1 (-1 - n) p.2.a p.2.b p.2.c p.2.tag W hW hts
    rw [show opErr p.1 (-1 - n) p.2.a p.2.b p.2.c p.2.tag = 2 from err_two hbad] at cc
    have ca := fun v W hW hv => printAll_c v [p, ((p.1, ⟨(-1 - n), p.2.a, p.2.b, p.2.c, p.2.tag⟩) : OpR)] W hW hv (by simp) (by intro q hq; simp at hq; rcases hq with rfl | rfl; exact HTS.out; exact hts)
    rw [two_bad p ((p.1, ⟨(-1 - n), p.2.a, p.2.b, p.2.c, p.2.tag⟩) : OpR) hbad] at ca
    have CP := Lib.hid cp
    have CC := Lib.hid cc
    have CA := Lib.hid ca
    clear cp cc ca hbad hts
    have yr3 := r3.cell
    have zr3 := r3.lt
    have yr7 := r7.cell
    have zr7 := r7.lt
    have yr8 := r8.cell
    have zr8 := r8.lt
    go_wp2_with fail
    refine Calls.mono (CP.out _ (HE.out.on hc)) ?_
    rintro e V6 ⟨rfl, hn⟩
    clear yr3 yr7 yr8 zr3 zr7 zr8
    replace r3 := r3.on hn
    replace r7 := r7.on hn
    replace r8 := r8.on hn
    replace hc := chain hc hn
    clear hn
    have yr3 := r3.cell
    have zr3 := r3.lt
    have yr7 := r7.cell
    have zr7 := r7.lt
    have yr8 := r8.cell
    have zr8 := r8.lt
    go_wp2_with fail
    clear yr3 yr7 yr8 zr3 zr7 zr8
    have rn := Row.new (W := V6) (cs := #[.int .i64 p.1, .int .i64 p.2.m, .int .i64 p.2.a, .int .i64 p.2.b, .int .i64 p.2.c, .string p.2.tag, .int .i64 p.1, .int .i64 (-1 - n), .int .i64 p.2.a, .int .i64 p.2.b, .int .i64 p.2.c, .string p.2.tag]) (t := 27)
    have hn := below_alloc V6 (.cells #[.int .i64 p.1, .int .i64 p.2.m, .int .i64 p.2.a, .int .i64 p.2.b, .int .i64 p.2.c, .string p.2.tag, .int .i64 p.1, .int .i64 (-1 - n), .int .i64 p.2.a, .int .i64 p.2.b, .int .i64 p.2.c, .string p.2.tag] 27)
    replace r3 := r3.on hn
    replace r7 := r7.on hn
    replace r8 := r8.on hn
    replace hc := chain hc hn
    clear hn
    have hu : HoldsO (V6.alloc (.cells #[.int .i64 p.1, .int .i64 p.2.m, .int .i64 p.2.a, .int .i64 p.2.b, .int .i64 p.2.c, .string p.2.tag, .int .i64 p.1, .int .i64 (-1 - n), .int .i64 p.2.a, .int .i64 p.2.b, .int .i64 p.2.c, .string p.2.tag] 27)) (.slice (some ⟨V6.heap.size, 0, none⟩) 2 2) [p, ((p.1, ⟨(-1 - n), p.2.a, p.2.b, p.2.c, p.2.tag⟩) : OpR)] := .inr ⟨_, 0, 2, rfl, holds_row rn rfl⟩
    generalize V6.alloc (.cells #[.int .i64 p.1, .int .i64 p.2.m, .int .i64 p.2.a, .int .i64 p.2.b, .int .i64 p.2.c, .string p.2.tag, .int .i64 p.1, .int .i64 (-1 - n), .int .i64 p.2.a, .int .i64 p.2.b, .int .i64 p.2.c, .string p.2.tag] 27) = U at *
    generalize V6.heap.size = bu at *
    refine Calls.mono (CA.out _ _ (HE.out.on hc) hu) ?_
    rintro e U1 ⟨rfl, hn⟩
    clear rn hu
    replace r3 := r3.on hn
    replace r7 := r7.on hn
    replace r8 := r8.on hn
    replace hc := chain hc hn
    clear hn
    have yr3 := r3.cell
    have zr3 := r3.lt
    have yr7 := r7.cell
    have zr7 := r7.lt
    have yr8 := r8.cell
    have zr8 := r8.lt
    go_wp2_with fail
    refine Calls.mono (CC.out _ (HE.out.on hc)) ?_
    rintro e V7 ⟨rfl, hn⟩
    clear yr3 yr7 yr8 zr3 zr7 zr8
    replace r3 := r3.on hn
    replace r7 := r7.on hn
    replace r8 := r8.on hn
    replace hc := chain hc hn
    clear hn
    have yr3 := r3.cell
    have zr3 := r3.lt
    have yr7 := r7.cell
    have zr7 := r7.lt
    have yr8 := r8.cell
    have zr8 := r8.lt
    go_wp2_with fail
    refine Calls.mono (works _ (HE.out.on hc)) ?_
    rintro e V8 ⟨rfl, hn⟩
    clear yr3 yr7 yr8 zr3 zr7 zr8
    replace r3 := r3.on hn
    replace r7 := r7.on hn
    replace r8 := r8.on hn
    replace hc := chain hc hn
    clear hn
    have yr3 := r3.cell
    have zr3 := r3.lt
    have yr7 := r7.cell
    have zr7 := r7.lt
    have yr8 := r8.cell
    have zr8 := r8.lt
    go_wp2_with fail
    go_returns
    exact ⟨rfl, hc⟩
  · have x1 : wrap64 (1048577 + n) = (1048577 + n) := IntWalk.wrap64_in _ ⟨by omega, by omega⟩
    have yr3 := r3.cell
    have zr3 := r3.lt
    have yr7 := r7.cell
    have zr7 := r7.lt
    have yr8 := r8.cell
    have zr8 := r8.lt
    have ur8 := r8.free
    go_upto_region 21 with fail
    clear yr3 yr7 yr8 zr3 zr7 zr8 ur8
    clear x1
    replace r3 := (r3.other nr3_r8.symm 2 (.int .i64 (1048577 + n)))
    replace r7 := (r7.other nr7_r8.symm 2 (.int .i64 (1048577 + n)))
    replace r8 := (r8.set 2 (.int .i64 (1048577 + n)))
    simp only [List.setIfInBounds_toArray, List.set_cons_zero, List.set_cons_succ] at r8
    replace hc := (hc.setCell (p := ⟨b8, 2, none⟩) wr8 (.int .i64 (1048577 + n)))
    generalize hW : World.setCell _ _ _ = V5 at *
    clear hW
    have hbad : okR ((p.1, ⟨p.2.m, (1048577 + n), p.2.b, p.2.c, p.2.tag⟩) : OpR) = false := not_ok (by rintro ⟨h1, h2, h3, h4, h5, h6⟩; simp only at h1 h2 h3 h4 h5; omega)
    have hts : (p.2.tag).size ≤ 1000000 := by first | exact HTS.out | decide | (show (Lib.repeatL [111] _).toArray.size ≤ _; simp [Lib.repeatL_length]; omega)
    have cp := fun W hW => print_bad p.1 ⟨p.2.m, (1048577 + n), p.2.b, p.2.c, p.2.tag⟩ W hW hts (not_fl hbad)
    have cc := fun W hW => check_c p.1 p.2.m (1048577 + n) p.2.b p.2.c p.2.tag W hW hts
    rw [show opErr p.1 p.2.m (1048577 + n) p.2.b p.2.c p.2.tag = 2 from err_two hbad] at cc
    have ca := fun v W hW hv => printAll_c v [p, ((p.1, ⟨p.2.m, (1048577 + n), p.2.b, p.2.c, p.2.tag⟩) : OpR)] W hW hv (by simp) (by intro q hq; simp at hq; rcases hq with rfl | rfl; exact HTS.out; exact hts)
    rw [two_bad p ((p.1, ⟨p.2.m, (1048577 + n), p.2.b, p.2.c, p.2.tag⟩) : OpR) hbad] at ca
    have CP := Lib.hid cp
    have CC := Lib.hid cc
    have CA := Lib.hid ca
    clear cp cc ca hbad hts
    have yr3 := r3.cell
    have zr3 := r3.lt
    have yr7 := r7.cell
    have zr7 := r7.lt
    have yr8 := r8.cell
    have zr8 := r8.lt
    go_wp2_with fail
    refine Calls.mono (CP.out _ (HE.out.on hc)) ?_
    rintro e V6 ⟨rfl, hn⟩
    clear yr3 yr7 yr8 zr3 zr7 zr8
    replace r3 := r3.on hn
    replace r7 := r7.on hn
    replace r8 := r8.on hn
    replace hc := chain hc hn
    clear hn
    have yr3 := r3.cell
    have zr3 := r3.lt
    have yr7 := r7.cell
    have zr7 := r7.lt
    have yr8 := r8.cell
    have zr8 := r8.lt
    go_wp2_with fail
    clear yr3 yr7 yr8 zr3 zr7 zr8
    have rn := Row.new (W := V6) (cs := #[.int .i64 p.1, .int .i64 p.2.m, .int .i64 p.2.a, .int .i64 p.2.b, .int .i64 p.2.c, .string p.2.tag, .int .i64 p.1, .int .i64 p.2.m, .int .i64 (1048577 + n), .int .i64 p.2.b, .int .i64 p.2.c, .string p.2.tag]) (t := 27)
    have hn := below_alloc V6 (.cells #[.int .i64 p.1, .int .i64 p.2.m, .int .i64 p.2.a, .int .i64 p.2.b, .int .i64 p.2.c, .string p.2.tag, .int .i64 p.1, .int .i64 p.2.m, .int .i64 (1048577 + n), .int .i64 p.2.b, .int .i64 p.2.c, .string p.2.tag] 27)
    replace r3 := r3.on hn
    replace r7 := r7.on hn
    replace r8 := r8.on hn
    replace hc := chain hc hn
    clear hn
    have hu : HoldsO (V6.alloc (.cells #[.int .i64 p.1, .int .i64 p.2.m, .int .i64 p.2.a, .int .i64 p.2.b, .int .i64 p.2.c, .string p.2.tag, .int .i64 p.1, .int .i64 p.2.m, .int .i64 (1048577 + n), .int .i64 p.2.b, .int .i64 p.2.c, .string p.2.tag] 27)) (.slice (some ⟨V6.heap.size, 0, none⟩) 2 2) [p, ((p.1, ⟨p.2.m, (1048577 + n), p.2.b, p.2.c, p.2.tag⟩) : OpR)] := .inr ⟨_, 0, 2, rfl, holds_row rn rfl⟩
    generalize V6.alloc (.cells #[.int .i64 p.1, .int .i64 p.2.m, .int .i64 p.2.a, .int .i64 p.2.b, .int .i64 p.2.c, .string p.2.tag, .int .i64 p.1, .int .i64 p.2.m, .int .i64 (1048577 + n), .int .i64 p.2.b, .int .i64 p.2.c, .string p.2.tag] 27) = U at *
    generalize V6.heap.size = bu at *
    refine Calls.mono (CA.out _ _ (HE.out.on hc) hu) ?_
    rintro e U1 ⟨rfl, hn⟩
    clear rn hu
    replace r3 := r3.on hn
    replace r7 := r7.on hn
    replace r8 := r8.on hn
    replace hc := chain hc hn
    clear hn
    have yr3 := r3.cell
    have zr3 := r3.lt
    have yr7 := r7.cell
    have zr7 := r7.lt
    have yr8 := r8.cell
    have zr8 := r8.lt
    go_wp2_with fail
    refine Calls.mono (CC.out _ (HE.out.on hc)) ?_
    rintro e V7 ⟨rfl, hn⟩
    clear yr3 yr7 yr8 zr3 zr7 zr8
    replace r3 := r3.on hn
    replace r7 := r7.on hn
    replace r8 := r8.on hn
    replace hc := chain hc hn
    clear hn
    have yr3 := r3.cell
    have zr3 := r3.lt
    have yr7 := r7.cell
    have zr7 := r7.lt
    have yr8 := r8.cell
    have zr8 := r8.lt
    go_wp2_with fail
    refine Calls.mono (works _ (HE.out.on hc)) ?_
    rintro e V8 ⟨rfl, hn⟩
    clear yr3 yr7 yr8 zr3 zr7 zr8
    replace r3 := r3.on hn
    replace r7 := r7.on hn
    replace r8 := r8.on hn
    replace hc := chain hc hn
    clear hn
    have yr3 := r3.cell
    have zr3 := r3.lt
    have yr7 := r7.cell
    have zr7 := r7.lt
    have yr8 := r8.cell
    have zr8 := r8.lt
    go_wp2_with fail
    go_returns
    exact ⟨rfl, hc⟩
  · have x1 : wrap64 (1048577 + n) = (1048577 + n) := IntWalk.wrap64_in _ ⟨by omega, by omega⟩
    have yr3 := r3.cell
    have zr3 := r3.lt
    have yr7 := r7.cell
    have zr7 := r7.lt
    have yr8 := r8.cell
    have zr8 := r8.lt
    have ur8 := r8.free
    go_upto_region 21 with fail
    clear yr3 yr7 yr8 zr3 zr7 zr8 ur8
    clear x1
    replace r3 := (r3.other nr3_r8.symm 3 (.int .i64 (1048577 + n)))
    replace r7 := (r7.other nr7_r8.symm 3 (.int .i64 (1048577 + n)))
    replace r8 := (r8.set 3 (.int .i64 (1048577 + n)))
    simp only [List.setIfInBounds_toArray, List.set_cons_zero, List.set_cons_succ] at r8
    replace hc := (hc.setCell (p := ⟨b8, 3, none⟩) wr8 (.int .i64 (1048577 + n)))
    generalize hW : World.setCell _ _ _ = V5 at *
    clear hW
    have hbad : okR ((p.1, ⟨p.2.m, p.2.a, (1048577 + n), p.2.c, p.2.tag⟩) : OpR) = false := not_ok (by rintro ⟨h1, h2, h3, h4, h5, h6⟩; simp only at h1 h2 h3 h4 h5; omega)
    have hts : (p.2.tag).size ≤ 1000000 := by first | exact HTS.out | decide | (show (Lib.repeatL [111] _).toArray.size ≤ _; simp [Lib.repeatL_length]; omega)
    have cp := fun W hW => print_bad p.1 ⟨p.2.m, p.2.a, (1048577 + n), p.2.c, p.2.tag⟩ W hW hts (not_fl hbad)
    have cc := fun W hW => check_c p.1 p.2.m p.2.a (1048577 + n) p.2.c p.2.tag W hW hts
    rw [show opErr p.1 p.2.m p.2.a (1048577 + n) p.2.c p.2.tag = 2 from err_two hbad] at cc
    have ca := fun v W hW hv => printAll_c v [p, ((p.1, ⟨p.2.m, p.2.a, (1048577 + n), p.2.c, p.2.tag⟩) : OpR)] W hW hv (by simp) (by intro q hq; simp at hq; rcases hq with rfl | rfl; exact HTS.out; exact hts)
    rw [two_bad p ((p.1, ⟨p.2.m, p.2.a, (1048577 + n), p.2.c, p.2.tag⟩) : OpR) hbad] at ca
    have CP := Lib.hid cp
    have CC := Lib.hid cc
    have CA := Lib.hid ca
    clear cp cc ca hbad hts
    have yr3 := r3.cell
    have zr3 := r3.lt
    have yr7 := r7.cell
    have zr7 := r7.lt
    have yr8 := r8.cell
    have zr8 := r8.lt
    go_wp2_with fail
    refine Calls.mono (CP.out _ (HE.out.on hc)) ?_
    rintro e V6 ⟨rfl, hn⟩
    clear yr3 yr7 yr8 zr3 zr7 zr8
    replace r3 := r3.on hn
    replace r7 := r7.on hn
    replace r8 := r8.on hn
    replace hc := chain hc hn
    clear hn
    have yr3 := r3.cell
    have zr3 := r3.lt
    have yr7 := r7.cell
    have zr7 := r7.lt
    have yr8 := r8.cell
    have zr8 := r8.lt
    go_wp2_with fail
    clear yr3 yr7 yr8 zr3 zr7 zr8
    have rn := Row.new (W := V6) (cs := #[.int .i64 p.1, .int .i64 p.2.m, .int .i64 p.2.a, .int .i64 p.2.b, .int .i64 p.2.c, .string p.2.tag, .int .i64 p.1, .int .i64 p.2.m, .int .i64 p.2.a, .int .i64 (1048577 + n), .int .i64 p.2.c, .string p.2.tag]) (t := 27)
    have hn := below_alloc V6 (.cells #[.int .i64 p.1, .int .i64 p.2.m, .int .i64 p.2.a, .int .i64 p.2.b, .int .i64 p.2.c, .string p.2.tag, .int .i64 p.1, .int .i64 p.2.m, .int .i64 p.2.a, .int .i64 (1048577 + n), .int .i64 p.2.c, .string p.2.tag] 27)
    replace r3 := r3.on hn
    replace r7 := r7.on hn
    replace r8 := r8.on hn
    replace hc := chain hc hn
    clear hn
    have hu : HoldsO (V6.alloc (.cells #[.int .i64 p.1, .int .i64 p.2.m, .int .i64 p.2.a, .int .i64 p.2.b, .int .i64 p.2.c, .string p.2.tag, .int .i64 p.1, .int .i64 p.2.m, .int .i64 p.2.a, .int .i64 (1048577 + n), .int .i64 p.2.c, .string p.2.tag] 27)) (.slice (some ⟨V6.heap.size, 0, none⟩) 2 2) [p, ((p.1, ⟨p.2.m, p.2.a, (1048577 + n), p.2.c, p.2.tag⟩) : OpR)] := .inr ⟨_, 0, 2, rfl, holds_row rn rfl⟩
    generalize V6.alloc (.cells #[.int .i64 p.1, .int .i64 p.2.m, .int .i64 p.2.a, .int .i64 p.2.b, .int .i64 p.2.c, .string p.2.tag, .int .i64 p.1, .int .i64 p.2.m, .int .i64 p.2.a, .int .i64 (1048577 + n), .int .i64 p.2.c, .string p.2.tag] 27) = U at *
    generalize V6.heap.size = bu at *
    refine Calls.mono (CA.out _ _ (HE.out.on hc) hu) ?_
    rintro e U1 ⟨rfl, hn⟩
    clear rn hu
    replace r3 := r3.on hn
    replace r7 := r7.on hn
    replace r8 := r8.on hn
    replace hc := chain hc hn
    clear hn
    have yr3 := r3.cell
    have zr3 := r3.lt
    have yr7 := r7.cell
    have zr7 := r7.lt
    have yr8 := r8.cell
    have zr8 := r8.lt
    go_wp2_with fail
    refine Calls.mono (CC.out _ (HE.out.on hc)) ?_
    rintro e V7 ⟨rfl, hn⟩
    clear yr3 yr7 yr8 zr3 zr7 zr8
    replace r3 := r3.on hn
    replace r7 := r7.on hn
    replace r8 := r8.on hn
    replace hc := chain hc hn
    clear hn
    have yr3 := r3.cell
    have zr3 := r3.lt
    have yr7 := r7.cell
    have zr7 := r7.lt
    have yr8 := r8.cell
    have zr8 := r8.lt
    go_wp2_with fail
    refine Calls.mono (works _ (HE.out.on hc)) ?_
    rintro e V8 ⟨rfl, hn⟩
    clear yr3 yr7 yr8 zr3 zr7 zr8
    replace r3 := r3.on hn
    replace r7 := r7.on hn
    replace r8 := r8.on hn
    replace hc := chain hc hn
    clear hn
    have yr3 := r3.cell
    have zr3 := r3.lt
    have yr7 := r7.cell
    have zr7 := r7.lt
    have yr8 := r8.cell
    have zr8 := r8.lt
    go_wp2_with fail
    go_returns
    exact ⟨rfl, hc⟩
  · have x1 : wrap64 (32 + n) = (32 + n) := IntWalk.wrap64_in _ ⟨by omega, by omega⟩
    have yr3 := r3.cell
    have zr3 := r3.lt
    have yr7 := r7.cell
    have zr7 := r7.lt
    have yr8 := r8.cell
    have zr8 := r8.lt
    have ur8 := r8.free
    go_upto_region 21 with fail
    clear yr3 yr7 yr8 zr3 zr7 zr8 ur8
    clear x1
    replace r3 := (r3.other nr3_r8.symm 4 (.int .i64 (32 + n)))
    replace r7 := (r7.other nr7_r8.symm 4 (.int .i64 (32 + n)))
    replace r8 := (r8.set 4 (.int .i64 (32 + n)))
    simp only [List.setIfInBounds_toArray, List.set_cons_zero, List.set_cons_succ] at r8
    replace hc := (hc.setCell (p := ⟨b8, 4, none⟩) wr8 (.int .i64 (32 + n)))
    generalize hW : World.setCell _ _ _ = V5 at *
    clear hW
    have hbad : okR ((p.1, ⟨p.2.m, p.2.a, p.2.b, (32 + n), p.2.tag⟩) : OpR) = false := not_ok (by rintro ⟨h1, h2, h3, h4, h5, h6⟩; simp only at h1 h2 h3 h4 h5; omega)
    have hts : (p.2.tag).size ≤ 1000000 := by first | exact HTS.out | decide | (show (Lib.repeatL [111] _).toArray.size ≤ _; simp [Lib.repeatL_length]; omega)
    have cp := fun W hW => print_bad p.1 ⟨p.2.m, p.2.a, p.2.b, (32 + n), p.2.tag⟩ W hW hts (not_fl hbad)
    have cc := fun W hW => check_c p.1 p.2.m p.2.a p.2.b (32 + n) p.2.tag W hW hts
    rw [show opErr p.1 p.2.m p.2.a p.2.b (32 + n) p.2.tag = 2 from err_two hbad] at cc
    have ca := fun v W hW hv => printAll_c v [p, ((p.1, ⟨p.2.m, p.2.a, p.2.b, (32 + n), p.2.tag⟩) : OpR)] W hW hv (by simp) (by intro q hq; simp at hq; rcases hq with rfl | rfl; exact HTS.out; exact hts)
    rw [two_bad p ((p.1, ⟨p.2.m, p.2.a, p.2.b, (32 + n), p.2.tag⟩) : OpR) hbad] at ca
    have CP := Lib.hid cp
    have CC := Lib.hid cc
    have CA := Lib.hid ca
    clear cp cc ca hbad hts
    have yr3 := r3.cell
    have zr3 := r3.lt
    have yr7 := r7.cell
    have zr7 := r7.lt
    have yr8 := r8.cell
    have zr8 := r8.lt
    go_wp2_with fail
    refine Calls.mono (CP.out _ (HE.out.on hc)) ?_
    rintro e V6 ⟨rfl, hn⟩
    clear yr3 yr7 yr8 zr3 zr7 zr8
    replace r3 := r3.on hn
    replace r7 := r7.on hn
    replace r8 := r8.on hn
    replace hc := chain hc hn
    clear hn
    have yr3 := r3.cell
    have zr3 := r3.lt
    have yr7 := r7.cell
    have zr7 := r7.lt
    have yr8 := r8.cell
    have zr8 := r8.lt
    go_wp2_with fail
    clear yr3 yr7 yr8 zr3 zr7 zr8
    have rn := Row.new (W := V6) (cs := #[.int .i64 p.1, .int .i64 p.2.m, .int .i64 p.2.a, .int .i64 p.2.b, .int .i64 p.2.c, .string p.2.tag, .int .i64 p.1, .int .i64 p.2.m, .int .i64 p.2.a, .int .i64 p.2.b, .int .i64 (32 + n), .string p.2.tag]) (t := 27)
    have hn := below_alloc V6 (.cells #[.int .i64 p.1, .int .i64 p.2.m, .int .i64 p.2.a, .int .i64 p.2.b, .int .i64 p.2.c, .string p.2.tag, .int .i64 p.1, .int .i64 p.2.m, .int .i64 p.2.a, .int .i64 p.2.b, .int .i64 (32 + n), .string p.2.tag] 27)
    replace r3 := r3.on hn
    replace r7 := r7.on hn
    replace r8 := r8.on hn
    replace hc := chain hc hn
    clear hn
    have hu : HoldsO (V6.alloc (.cells #[.int .i64 p.1, .int .i64 p.2.m, .int .i64 p.2.a, .int .i64 p.2.b, .int .i64 p.2.c, .string p.2.tag, .int .i64 p.1, .int .i64 p.2.m, .int .i64 p.2.a, .int .i64 p.2.b, .int .i64 (32 + n), .string p.2.tag] 27)) (.slice (some ⟨V6.heap.size, 0, none⟩) 2 2) [p, ((p.1, ⟨p.2.m, p.2.a, p.2.b, (32 + n), p.2.tag⟩) : OpR)] := .inr ⟨_, 0, 2, rfl, holds_row rn rfl⟩
    generalize V6.alloc (.cells #[.int .i64 p.1, .int .i64 p.2.m, .int .i64 p.2.a, .int .i64 p.2.b, .int .i64 p.2.c, .string p.2.tag, .int .i64 p.1, .int .i64 p.2.m, .int .i64 p.2.a, .int .i64 p.2.b, .int .i64 (32 + n), .string p.2.tag] 27) = U at *
    generalize V6.heap.size = bu at *
    refine Calls.mono (CA.out _ _ (HE.out.on hc) hu) ?_
    rintro e U1 ⟨rfl, hn⟩
    clear rn hu
    replace r3 := r3.on hn
    replace r7 := r7.on hn
    replace r8 := r8.on hn
    replace hc := chain hc hn
    clear hn
    have yr3 := r3.cell
    have zr3 := r3.lt
    have yr7 := r7.cell
    have zr7 := r7.lt
    have yr8 := r8.cell
    have zr8 := r8.lt
    go_wp2_with fail
    refine Calls.mono (CC.out _ (HE.out.on hc)) ?_
    rintro e V7 ⟨rfl, hn⟩
    clear yr3 yr7 yr8 zr3 zr7 zr8
    replace r3 := r3.on hn
    replace r7 := r7.on hn
    replace r8 := r8.on hn
    replace hc := chain hc hn
    clear hn
    have yr3 := r3.cell
    have zr3 := r3.lt
    have yr7 := r7.cell
    have zr7 := r7.lt
    have yr8 := r8.cell
    have zr8 := r8.lt
    go_wp2_with fail
    refine Calls.mono (works _ (HE.out.on hc)) ?_
    rintro e V8 ⟨rfl, hn⟩
    clear yr3 yr7 yr8 zr3 zr7 zr8
    replace r3 := r3.on hn
    replace r7 := r7.on hn
    replace r8 := r8.on hn
    replace hc := chain hc hn
    clear hn
    have yr3 := r3.cell
    have zr3 := r3.lt
    have yr7 := r7.cell
    have zr7 := r7.lt
    have yr8 := r8.cell
    have zr8 := r8.lt
    go_wp2_with fail
    go_returns
    exact ⟨rfl, hc⟩
  · by_cases hodd : n % 2 = 1
    · obtain ⟨N, hN⟩ : ∃ N : Nat, 101 + n % 100 = N := ⟨(101 + n % 100).toNat, by omega⟩
      have hN1 : 101 ≤ N ∧ N ≤ 200 := by omega
      have x1 : wrap64 (N : Int) = N := IntWalk.wrap64_in _ ⟨by omega, by omega⟩
      have cr := fun W => rep_o N (by omega) W
      have CR := Lib.hid cr
      clear cr
      have yr3 := r3.cell
      have zr3 := r3.lt
      have yr7 := r7.cell
      have zr7 := r7.lt
      have yr8 := r8.cell
      have zr8 := r8.lt
      have ur8 := r8.free
      go_upto_region 5 with fail
      clear yr3 yr7 yr8 zr3 zr7 zr8 ur8
      replace r3 := (r3.other nr3_r8.symm 5 (.string ⟨#[97, 10]⟩))
      replace r7 := (r7.other nr7_r8.symm 5 (.string ⟨#[97, 10]⟩))
      replace r8 := (r8.set 5 (.string ⟨#[97, 10]⟩))
      simp only [List.setIfInBounds_toArray, List.set_cons_zero, List.set_cons_succ] at r8
      replace hc := (hc.setCell (p := ⟨b8, 5, none⟩) wr8 (.string ⟨#[97, 10]⟩))
      generalize hW : World.setCell _ _ _ = V5 at *
      clear hW
      have yr3 := r3.cell
      have zr3 := r3.lt
      have yr7 := r7.cell
      have zr7 := r7.lt
      have yr8 := r8.cell
      have zr8 := r8.lt
      go_wp2_with fail
      refine Calls.mono (CR.out _) ?_
      rintro e V6 ⟨rfl, hn⟩
      clear yr3 yr7 yr8 zr3 zr7 zr8
      replace r3 := r3.on hn
      replace r7 := r7.on hn
      replace r8 := r8.on hn
      replace hc := chain hc hn
      clear hn
      have hlen : 100 < (Lib.repeatL [111] N).length := by rw [Lib.repeatL_length]; simp; omega
      have HN1 := Lib.hid hN1
      clear hN hN1
      have yr3 := r3.cell
      have zr3 := r3.lt
      have yr7 := r7.cell
      have zr7 := r7.lt
      have yr8 := r8.cell
      have zr8 := r8.lt
      have ur8 := r8.free
      go_upto_region 21 with fail
      clear yr3 yr7 yr8 zr3 zr7 zr8 ur8
      clear x1
      replace r3 := (r3.other nr3_r8.symm 5 (.string ⟨(Lib.repeatL [111] N).toArray⟩))
      replace r7 := (r7.other nr7_r8.symm 5 (.string ⟨(Lib.repeatL [111] N).toArray⟩))
      replace r8 := (r8.set 5 (.string ⟨(Lib.repeatL [111] N).toArray⟩))
      simp only [List.setIfInBounds_toArray, List.set_cons_zero, List.set_cons_succ] at r8
      replace hc := (hc.setCell (p := ⟨b8, 5, none⟩) wr8 (.string ⟨(Lib.repeatL [111] N).toArray⟩))
      generalize hW : World.setCell _ _ _ = V7 at *
      clear hW
      have hN1 := HN1.out
      have hbad : okR ((p.1, ⟨p.2.m, p.2.a, p.2.b, p.2.c, (⟨(Lib.repeatL [111] N).toArray⟩ : ByteArray)⟩) : OpR) = false := not_ok (by rintro ⟨h1, h2, h3, h4, h5, h6⟩; rw [show tgOk _ _ = false from tg_long (by simpa using hlen)] at h6; cases h6)
      have hts : ((⟨(Lib.repeatL [111] N).toArray⟩ : ByteArray)).size ≤ 1000000 := by first | exact HTS.out | decide | (show (Lib.repeatL [111] _).toArray.size ≤ _; simp [Lib.repeatL_length]; omega)
      have cp := fun W hW => print_bad p.1 ⟨p.2.m, p.2.a, p.2.b, p.2.c, (⟨(Lib.repeatL [111] N).toArray⟩ : ByteArray)⟩ W hW hts (not_fl hbad)
      have cc := fun W hW => check_c p.1 p.2.m p.2.a p.2.b p.2.c (⟨(Lib.repeatL [111] N).toArray⟩ : ByteArray) W hW hts
      rw [show opErr p.1 p.2.m p.2.a p.2.b p.2.c (⟨(Lib.repeatL [111] N).toArray⟩ : ByteArray) = 2 from err_two hbad] at cc
      have ca := fun v W hW hv => printAll_c v [p, ((p.1, ⟨p.2.m, p.2.a, p.2.b, p.2.c, (⟨(Lib.repeatL [111] N).toArray⟩ : ByteArray)⟩) : OpR)] W hW hv (by simp) (by intro q hq; simp at hq; rcases hq with rfl | rfl; exact HTS.out; exact hts)
      rw [two_bad p ((p.1, ⟨p.2.m, p.2.a, p.2.b, p.2.c, (⟨(Lib.repeatL [111] N).toArray⟩ : ByteArray)⟩) : OpR) hbad] at ca
      have CP := Lib.hid cp
      have CC := Lib.hid cc
      have CA := Lib.hid ca
      clear cp cc ca hbad hts
      have yr3 := r3.cell
      have zr3 := r3.lt
      have yr7 := r7.cell
      have zr7 := r7.lt
      have yr8 := r8.cell
      have zr8 := r8.lt
      go_wp2_with fail
      refine Calls.mono (CP.out _ (HE.out.on hc)) ?_
      rintro e V8 ⟨rfl, hn⟩
      clear yr3 yr7 yr8 zr3 zr7 zr8
      replace r3 := r3.on hn
      replace r7 := r7.on hn
      replace r8 := r8.on hn
      replace hc := chain hc hn
      clear hn
      have yr3 := r3.cell
      have zr3 := r3.lt
      have yr7 := r7.cell
      have zr7 := r7.lt
      have yr8 := r8.cell
      have zr8 := r8.lt
      go_wp2_with fail
      clear yr3 yr7 yr8 zr3 zr7 zr8
      have rn := Row.new (W := V8) (cs := #[.int .i64 p.1, .int .i64 p.2.m, .int .i64 p.2.a, .int .i64 p.2.b, .int .i64 p.2.c, .string p.2.tag, .int .i64 p.1, .int .i64 p.2.m, .int .i64 p.2.a, .int .i64 p.2.b, .int .i64 p.2.c, .string (⟨(Lib.repeatL [111] N).toArray⟩ : ByteArray)]) (t := 27)
      have hn := below_alloc V8 (.cells #[.int .i64 p.1, .int .i64 p.2.m, .int .i64 p.2.a, .int .i64 p.2.b, .int .i64 p.2.c, .string p.2.tag, .int .i64 p.1, .int .i64 p.2.m, .int .i64 p.2.a, .int .i64 p.2.b, .int .i64 p.2.c, .string (⟨(Lib.repeatL [111] N).toArray⟩ : ByteArray)] 27)
      replace r3 := r3.on hn
      replace r7 := r7.on hn
      replace r8 := r8.on hn
      replace hc := chain hc hn
      clear hn
      have hu : HoldsO (V8.alloc (.cells #[.int .i64 p.1, .int .i64 p.2.m, .int .i64 p.2.a, .int .i64 p.2.b, .int .i64 p.2.c, .string p.2.tag, .int .i64 p.1, .int .i64 p.2.m, .int .i64 p.2.a, .int .i64 p.2.b, .int .i64 p.2.c, .string (⟨(Lib.repeatL [111] N).toArray⟩ : ByteArray)] 27)) (.slice (some ⟨V8.heap.size, 0, none⟩) 2 2) [p, ((p.1, ⟨p.2.m, p.2.a, p.2.b, p.2.c, (⟨(Lib.repeatL [111] N).toArray⟩ : ByteArray)⟩) : OpR)] := .inr ⟨_, 0, 2, rfl, holds_row rn rfl⟩
      generalize V8.alloc (.cells #[.int .i64 p.1, .int .i64 p.2.m, .int .i64 p.2.a, .int .i64 p.2.b, .int .i64 p.2.c, .string p.2.tag, .int .i64 p.1, .int .i64 p.2.m, .int .i64 p.2.a, .int .i64 p.2.b, .int .i64 p.2.c, .string (⟨(Lib.repeatL [111] N).toArray⟩ : ByteArray)] 27) = U at *
      generalize V8.heap.size = bu at *
      refine Calls.mono (CA.out _ _ (HE.out.on hc) hu) ?_
      rintro e U1 ⟨rfl, hn⟩
      clear rn hu
      replace r3 := r3.on hn
      replace r7 := r7.on hn
      replace r8 := r8.on hn
      replace hc := chain hc hn
      clear hn
      have yr3 := r3.cell
      have zr3 := r3.lt
      have yr7 := r7.cell
      have zr7 := r7.lt
      have yr8 := r8.cell
      have zr8 := r8.lt
      go_wp2_with fail
      refine Calls.mono (CC.out _ (HE.out.on hc)) ?_
      rintro e V9 ⟨rfl, hn⟩
      clear yr3 yr7 yr8 zr3 zr7 zr8
      replace r3 := r3.on hn
      replace r7 := r7.on hn
      replace r8 := r8.on hn
      replace hc := chain hc hn
      clear hn
      have yr3 := r3.cell
      have zr3 := r3.lt
      have yr7 := r7.cell
      have zr7 := r7.lt
      have yr8 := r8.cell
      have zr8 := r8.lt
      go_wp2_with fail
      refine Calls.mono (works _ (HE.out.on hc)) ?_
      rintro e V10 ⟨rfl, hn⟩
      clear yr3 yr7 yr8 zr3 zr7 zr8
      replace r3 := r3.on hn
      replace r7 := r7.on hn
      replace r8 := r8.on hn
      replace hc := chain hc hn
      clear hn
      have yr3 := r3.cell
      have zr3 := r3.lt
      have yr7 := r7.cell
      have zr7 := r7.lt
      have yr8 := r8.cell
      have zr8 := r8.lt
      go_wp2_with fail
      go_returns
      exact ⟨rfl, hc⟩
    · have yr3 := r3.cell
      have zr3 := r3.lt
      have yr7 := r7.cell
      have zr7 := r7.lt
      have yr8 := r8.cell
      have zr8 := r8.lt
      have ur8 := r8.free
      go_upto_region 21 with fail
      clear yr3 yr7 yr8 zr3 zr7 zr8 ur8
      replace r3 := (r3.other nr3_r8.symm 5 (.string ⟨#[97, 10]⟩))
      replace r7 := (r7.other nr7_r8.symm 5 (.string ⟨#[97, 10]⟩))
      replace r8 := (r8.set 5 (.string ⟨#[97, 10]⟩))
      simp only [List.setIfInBounds_toArray, List.set_cons_zero, List.set_cons_succ] at r8
      replace hc := (hc.setCell (p := ⟨b8, 5, none⟩) wr8 (.string ⟨#[97, 10]⟩))
      generalize hW : World.setCell _ _ _ = V5 at *
      clear hW
      have hbad : okR ((p.1, ⟨p.2.m, p.2.a, p.2.b, p.2.c, (⟨#[97, 10]⟩ : ByteArray)⟩) : OpR) = false := not_ok (by rintro ⟨h1, h2, h3, h4, h5, h6⟩; rw [show tgOk _ _ = false from tg_a _] at h6; cases h6)
      have hts : ((⟨#[97, 10]⟩ : ByteArray)).size ≤ 1000000 := by first | exact HTS.out | decide | (show (Lib.repeatL [111] _).toArray.size ≤ _; simp [Lib.repeatL_length]; omega)
      have cp := fun W hW => print_bad p.1 ⟨p.2.m, p.2.a, p.2.b, p.2.c, (⟨#[97, 10]⟩ : ByteArray)⟩ W hW hts (not_fl hbad)
      have cc := fun W hW => check_c p.1 p.2.m p.2.a p.2.b p.2.c (⟨#[97, 10]⟩ : ByteArray) W hW hts
      rw [show opErr p.1 p.2.m p.2.a p.2.b p.2.c (⟨#[97, 10]⟩ : ByteArray) = 2 from err_two hbad] at cc
      have ca := fun v W hW hv => printAll_c v [p, ((p.1, ⟨p.2.m, p.2.a, p.2.b, p.2.c, (⟨#[97, 10]⟩ : ByteArray)⟩) : OpR)] W hW hv (by simp) (by intro q hq; simp at hq; rcases hq with rfl | rfl; exact HTS.out; exact hts)
      rw [two_bad p ((p.1, ⟨p.2.m, p.2.a, p.2.b, p.2.c, (⟨#[97, 10]⟩ : ByteArray)⟩) : OpR) hbad] at ca
      have CP := Lib.hid cp
      have CC := Lib.hid cc
      have CA := Lib.hid ca
      clear cp cc ca hbad hts
      have yr3 := r3.cell
      have zr3 := r3.lt
      have yr7 := r7.cell
      have zr7 := r7.lt
      have yr8 := r8.cell
      have zr8 := r8.lt
      go_wp2_with fail
      refine Calls.mono (CP.out _ (HE.out.on hc)) ?_
      rintro e V6 ⟨rfl, hn⟩
      clear yr3 yr7 yr8 zr3 zr7 zr8
      replace r3 := r3.on hn
      replace r7 := r7.on hn
      replace r8 := r8.on hn
      replace hc := chain hc hn
      clear hn
      have yr3 := r3.cell
      have zr3 := r3.lt
      have yr7 := r7.cell
      have zr7 := r7.lt
      have yr8 := r8.cell
      have zr8 := r8.lt
      go_wp2_with fail
      clear yr3 yr7 yr8 zr3 zr7 zr8
      have rn := Row.new (W := V6) (cs := #[.int .i64 p.1, .int .i64 p.2.m, .int .i64 p.2.a, .int .i64 p.2.b, .int .i64 p.2.c, .string p.2.tag, .int .i64 p.1, .int .i64 p.2.m, .int .i64 p.2.a, .int .i64 p.2.b, .int .i64 p.2.c, .string (⟨#[97, 10]⟩ : ByteArray)]) (t := 27)
      have hn := below_alloc V6 (.cells #[.int .i64 p.1, .int .i64 p.2.m, .int .i64 p.2.a, .int .i64 p.2.b, .int .i64 p.2.c, .string p.2.tag, .int .i64 p.1, .int .i64 p.2.m, .int .i64 p.2.a, .int .i64 p.2.b, .int .i64 p.2.c, .string (⟨#[97, 10]⟩ : ByteArray)] 27)
      replace r3 := r3.on hn
      replace r7 := r7.on hn
      replace r8 := r8.on hn
      replace hc := chain hc hn
      clear hn
      have hu : HoldsO (V6.alloc (.cells #[.int .i64 p.1, .int .i64 p.2.m, .int .i64 p.2.a, .int .i64 p.2.b, .int .i64 p.2.c, .string p.2.tag, .int .i64 p.1, .int .i64 p.2.m, .int .i64 p.2.a, .int .i64 p.2.b, .int .i64 p.2.c, .string (⟨#[97, 10]⟩ : ByteArray)] 27)) (.slice (some ⟨V6.heap.size, 0, none⟩) 2 2) [p, ((p.1, ⟨p.2.m, p.2.a, p.2.b, p.2.c, (⟨#[97, 10]⟩ : ByteArray)⟩) : OpR)] := .inr ⟨_, 0, 2, rfl, holds_row rn rfl⟩
      generalize V6.alloc (.cells #[.int .i64 p.1, .int .i64 p.2.m, .int .i64 p.2.a, .int .i64 p.2.b, .int .i64 p.2.c, .string p.2.tag, .int .i64 p.1, .int .i64 p.2.m, .int .i64 p.2.a, .int .i64 p.2.b, .int .i64 p.2.c, .string (⟨#[97, 10]⟩ : ByteArray)] 27) = U at *
      generalize V6.heap.size = bu at *
      refine Calls.mono (CA.out _ _ (HE.out.on hc) hu) ?_
      rintro e U1 ⟨rfl, hn⟩
      clear rn hu
      replace r3 := r3.on hn
      replace r7 := r7.on hn
      replace r8 := r8.on hn
      replace hc := chain hc hn
      clear hn
      have yr3 := r3.cell
      have zr3 := r3.lt
      have yr7 := r7.cell
      have zr7 := r7.lt
      have yr8 := r8.cell
      have zr8 := r8.lt
      go_wp2_with fail
      refine Calls.mono (CC.out _ (HE.out.on hc)) ?_
      rintro e V7 ⟨rfl, hn⟩
      clear yr3 yr7 yr8 zr3 zr7 zr8
      replace r3 := r3.on hn
      replace r7 := r7.on hn
      replace r8 := r8.on hn
      replace hc := chain hc hn
      clear hn
      have yr3 := r3.cell
      have zr3 := r3.lt
      have yr7 := r7.cell
      have zr7 := r7.lt
      have yr8 := r8.cell
      have zr8 := r8.lt
      go_wp2_with fail
      refine Calls.mono (works _ (HE.out.on hc)) ?_
      rintro e V8 ⟨rfl, hn⟩
      clear yr3 yr7 yr8 zr3 zr7 zr8
      replace r3 := r3.on hn
      replace r7 := r7.on hn
      replace r8 := r8.on hn
      replace hc := chain hc hn
      clear hn
      have yr3 := r3.cell
      have zr3 := r3.lt
      have yr7 := r7.cell
      have zr7 := r7.lt
      have yr8 := r8.cell
      have zr8 := r8.lt
      go_wp2_with fail
      go_returns
      exact ⟨rfl, hc⟩
end Go.Proofs.YtbbleafcflhmiaaDoor
