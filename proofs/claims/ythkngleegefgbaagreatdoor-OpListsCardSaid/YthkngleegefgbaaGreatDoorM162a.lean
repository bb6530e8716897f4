/- The reference's Check of an operation. -/
import Derived.Test.YthkngleegefgbaaGreatDoorHROp3a
import Derived.Test.YthkngleegefgbaaGreatDoorHROp3b
import Derived.Test.YthkngleegefgbaaGreatDoorHROp3c
import Derived.Test.YthkngleegefgbaaGreatDoorHROp3e
import Derived.Test.YthkngleegefgbaaGreatDoorL2a
namespace Go.Proofs.YthkngleegefgbaaGreatDoor
open Go.RowKit
set_option linter.unusedVariables false
set_option linter.unusedSimpArgs false
set_option maxHeartbeats 16000000
set_option maxRecDepth 20000
theorem empty_tag (tag : ByteArray) : (⟨#[]⟩ : ByteArray) = tag ↔ tag.data.toList.isEmpty = true := by
  constructor
  · intro h; rw [← h]; rfl
  · intro h; exact str_ext (by rw [List.isEmpty_iff.1 h])
theorem used_all (p : OpR) (hs : p.2.tag.size ≤ 1000000) : ∃ (x : OpR) (ok : Bool), (∀ w, Ret 32 #[opRV p] w (.tuple #[opRV x, .bool ok])) ∧ (ok && decide (x = p)) = okR p := by
  obtain ⟨kd, ⟨m, a, b, c, tag⟩⟩ := p
  by_cases hk : 1 ≤ kd ∧ kd ≤ 17
  · have he := empty_tag tag
    have hsz := len_bytes tag
    rcases kinds hk with rfl | rfl | rfl | rfl | rfl | rfl | rfl | rfl | rfl | rfl | rfl | rfl | rfl | rfl | rfl | rfl | rfl
    · refine ⟨(1, ⟨m, a, 0, 0, ⟨#[]⟩⟩), _, fun w => used_1 m a b c tag w, ?_⟩
      rw [Bool.eq_iff_iff]
      show _ ↔ opOk 1 m a b c tag.data.toList = true
      simp only [Bool.and_eq_true, Bool.or_eq_true, decide_eq_true_iff, inB_iff, opOk_iff, Prod.mk.injEq, Fl.mk.injEq, true_and]
      have ht : tgOk 1 tag.data.toList = true ↔ (⟨#[]⟩ : ByteArray) = tag := he.symm
      rw [ht]
      simp only [mHi, aLo, aHi, bLo, bHi, cLo, cHi]
      grind
    · refine ⟨(2, ⟨m, a, b, 0, ⟨#[]⟩⟩), _, fun w => used_2 m a b c tag w, ?_⟩
      rw [Bool.eq_iff_iff]
      show _ ↔ opOk 2 m a b c tag.data.toList = true
      simp only [Bool.and_eq_true, Bool.or_eq_true, decide_eq_true_iff, inB_iff, opOk_iff, Prod.mk.injEq, Fl.mk.injEq, true_and]
      have ht : tgOk 2 tag.data.toList = true ↔ (⟨#[]⟩ : ByteArray) = tag := he.symm
      rw [ht]
      simp only [mHi, aLo, aHi, bLo, bHi, cLo, cHi]
      grind
    · refine ⟨(3, ⟨m, a, b, c, ⟨#[]⟩⟩), _, fun w => used_3 m a b c tag w, ?_⟩
      rw [Bool.eq_iff_iff]
      show _ ↔ opOk 3 m a b c tag.data.toList = true
      simp only [Bool.and_eq_true, Bool.or_eq_true, decide_eq_true_iff, inB_iff, opOk_iff, Prod.mk.injEq, Fl.mk.injEq, true_and]
      have ht : tgOk 3 tag.data.toList = true ↔ (⟨#[]⟩ : ByteArray) = tag := he.symm
      rw [ht]
      simp only [mHi, aLo, aHi, bLo, bHi, cLo, cHi]
      grind
    · refine ⟨(4, ⟨m, a, 0, 0, ⟨#[]⟩⟩), _, fun w => used_4 m a b c tag w, ?_⟩
      rw [Bool.eq_iff_iff]
      show _ ↔ opOk 4 m a b c tag.data.toList = true
      simp only [Bool.and_eq_true, Bool.or_eq_true, decide_eq_true_iff, inB_iff, opOk_iff, Prod.mk.injEq, Fl.mk.injEq, true_and]
      have ht : tgOk 4 tag.data.toList = true ↔ (⟨#[]⟩ : ByteArray) = tag := he.symm
      rw [ht]
      simp only [mHi, aLo, aHi, bLo, bHi, cLo, cHi]
      grind
    · refine ⟨(5, ⟨m, a, b, 0, ⟨#[]⟩⟩), _, fun w => used_5 m a b c tag w, ?_⟩
      rw [Bool.eq_iff_iff]
      show _ ↔ opOk 5 m a b c tag.data.toList = true
      simp only [Bool.and_eq_true, Bool.or_eq_true, decide_eq_true_iff, inB_iff, opOk_iff, Prod.mk.injEq, Fl.mk.injEq, true_and]
      have ht : tgOk 5 tag.data.toList = true ↔ (⟨#[]⟩ : ByteArray) = tag := he.symm
      rw [ht]
      simp only [mHi, aLo, aHi, bLo, bHi, cLo, cHi]
      grind
    · refine ⟨(6, ⟨m, 0, b, 0, ⟨#[]⟩⟩), _, fun w => used_6 m a b c tag w, ?_⟩
      rw [Bool.eq_iff_iff]
      show _ ↔ opOk 6 m a b c tag.data.toList = true
      simp only [Bool.and_eq_true, Bool.or_eq_true, decide_eq_true_iff, inB_iff, opOk_iff, Prod.mk.injEq, Fl.mk.injEq, true_and]
      have ht : tgOk 6 tag.data.toList = true ↔ (⟨#[]⟩ : ByteArray) = tag := he.symm
      rw [ht]
      simp only [mHi, aLo, aHi, bLo, bHi, cLo, cHi]
      grind
    · refine ⟨(7, ⟨m, 0, 0, 0, ⟨#[]⟩⟩), _, fun w => used_7 m a b c tag w, ?_⟩
      rw [Bool.eq_iff_iff]
      show _ ↔ opOk 7 m a b c tag.data.toList = true
      simp only [Bool.and_eq_true, Bool.or_eq_true, decide_eq_true_iff, inB_iff, opOk_iff, Prod.mk.injEq, Fl.mk.injEq, true_and]
      have ht : tgOk 7 tag.data.toList = true ↔ (⟨#[]⟩ : ByteArray) = tag := he.symm
      rw [ht]
      simp only [mHi, aLo, aHi, bLo, bHi, cLo, cHi]
      grind
    · refine ⟨(8, ⟨m, a, b, 0, tag⟩), _, fun w => used_8 m a b c tag hs w, ?_⟩
      rw [Bool.eq_iff_iff]
      show _ ↔ opOk 8 m a b c tag.data.toList = true
      simp only [Bool.and_eq_true, Bool.or_eq_true, decide_eq_true_iff, inB_iff, opOk_iff, Prod.mk.injEq, Fl.mk.injEq, true_and]
      have ht : tgOk 8 tag.data.toList = true ↔ tagOk tag.data.toList = true := Iff.rfl
      rw [ht]
      simp only [mHi, aLo, aHi, bLo, bHi, cLo, cHi]
      grind
    · refine ⟨(9, ⟨m, a, 0, 0, ⟨#[]⟩⟩), _, fun w => used_9 m a b c tag w, ?_⟩
      rw [Bool.eq_iff_iff]
      show _ ↔ opOk 9 m a b c tag.data.toList = true
      simp only [Bool.and_eq_true, Bool.or_eq_true, decide_eq_true_iff, inB_iff, opOk_iff, Prod.mk.injEq, Fl.mk.injEq, true_and]
      have ht : tgOk 9 tag.data.toList = true ↔ (⟨#[]⟩ : ByteArray) = tag := he.symm
      rw [ht]
      simp only [mHi, aLo, aHi, bLo, bHi, cLo, cHi]
      grind
    · refine ⟨(10, ⟨m, a, 0, 0, ⟨#[]⟩⟩), _, fun w => used_10 m a b c tag w, ?_⟩
      rw [Bool.eq_iff_iff]
      show _ ↔ opOk 10 m a b c tag.data.toList = true
      simp only [Bool.and_eq_true, Bool.or_eq_true, decide_eq_true_iff, inB_iff, opOk_iff, Prod.mk.injEq, Fl.mk.injEq, true_and]
      have ht : tgOk 10 tag.data.toList = true ↔ (⟨#[]⟩ : ByteArray) = tag := he.symm
      rw [ht]
      simp only [mHi, aLo, aHi, bLo, bHi, cLo, cHi]
      grind
    · refine ⟨(11, ⟨m, a, b, 0, ⟨#[]⟩⟩), _, fun w => used_11 m a b c tag w, ?_⟩
      rw [Bool.eq_iff_iff]
      show _ ↔ opOk 11 m a b c tag.data.toList = true
      simp only [Bool.and_eq_true, Bool.or_eq_true, decide_eq_true_iff, inB_iff, opOk_iff, Prod.mk.injEq, Fl.mk.injEq, true_and]
      have ht : tgOk 11 tag.data.toList = true ↔ (⟨#[]⟩ : ByteArray) = tag := he.symm
      rw [ht]
      simp only [mHi, aLo, aHi, bLo, bHi, cLo, cHi]
      grind
    · refine ⟨(12, ⟨m, a, 0, 0, ⟨#[]⟩⟩), _, fun w => used_12 m a b c tag w, ?_⟩
      rw [Bool.eq_iff_iff]
      show _ ↔ opOk 12 m a b c tag.data.toList = true
      simp only [Bool.and_eq_true, Bool.or_eq_true, decide_eq_true_iff, inB_iff, opOk_iff, Prod.mk.injEq, Fl.mk.injEq, true_and]
      have ht : tgOk 12 tag.data.toList = true ↔ (⟨#[]⟩ : ByteArray) = tag := he.symm
      rw [ht]
      simp only [mHi, aLo, aHi, bLo, bHi, cLo, cHi]
      grind
    · refine ⟨(13, ⟨0, a, 0, 0, ⟨#[]⟩⟩), _, fun w => used_13 m a b c tag w, ?_⟩
      rw [Bool.eq_iff_iff]
      show _ ↔ opOk 13 m a b c tag.data.toList = true
      simp only [Bool.and_eq_true, Bool.or_eq_true, decide_eq_true_iff, inB_iff, opOk_iff, Prod.mk.injEq, Fl.mk.injEq, true_and]
      have ht : tgOk 13 tag.data.toList = true ↔ (⟨#[]⟩ : ByteArray) = tag := he.symm
      rw [ht]
      simp only [mHi, aLo, aHi, bLo, bHi, cLo, cHi]
      grind
    · refine ⟨(14, ⟨0, 0, 0, 0, ⟨#[]⟩⟩), _, fun w => used_14 m a b c tag w, ?_⟩
      rw [Bool.eq_iff_iff]
      show _ ↔ opOk 14 m a b c tag.data.toList = true
      simp only [Bool.and_eq_true, Bool.or_eq_true, decide_eq_true_iff, inB_iff, opOk_iff, Prod.mk.injEq, Fl.mk.injEq, true_and]
      have ht : tgOk 14 tag.data.toList = true ↔ (⟨#[]⟩ : ByteArray) = tag := he.symm
      rw [ht]
      simp only [mHi, aLo, aHi, bLo, bHi, cLo, cHi]
      grind
    · refine ⟨(15, ⟨0, a, 0, 0, ⟨#[]⟩⟩), _, fun w => used_15 m a b c tag w, ?_⟩
      rw [Bool.eq_iff_iff]
      show _ ↔ opOk 15 m a b c tag.data.toList = true
      simp only [Bool.and_eq_true, Bool.or_eq_true, decide_eq_true_iff, inB_iff, opOk_iff, Prod.mk.injEq, Fl.mk.injEq, true_and]
      have ht : tgOk 15 tag.data.toList = true ↔ (⟨#[]⟩ : ByteArray) = tag := he.symm
      rw [ht]
      simp only [mHi, aLo, aHi, bLo, bHi, cLo, cHi]
      grind
    · refine ⟨(16, ⟨0, 0, 0, 0, ⟨#[]⟩⟩), _, fun w => used_16 m a b c tag w, ?_⟩
      rw [Bool.eq_iff_iff]
      show _ ↔ opOk 16 m a b c tag.data.toList = true
      simp only [Bool.and_eq_true, Bool.or_eq_true, decide_eq_true_iff, inB_iff, opOk_iff, Prod.mk.injEq, Fl.mk.injEq, true_and]
      have ht : tgOk 16 tag.data.toList = true ↔ (⟨#[]⟩ : ByteArray) = tag := he.symm
      rw [ht]
      simp only [mHi, aLo, aHi, bLo, bHi, cLo, cHi]
      grind
    · refine ⟨(17, ⟨0, 0, 0, 0, tag⟩), _, fun w => used_17 m a b c tag hs w, ?_⟩
      rw [Bool.eq_iff_iff]
      show _ ↔ opOk 17 m a b c tag.data.toList = true
      simp only [Bool.and_eq_true, Bool.or_eq_true, decide_eq_true_iff, inB_iff, opOk_iff, Prod.mk.injEq, Fl.mk.injEq, true_and]
      have ht : tgOk 17 tag.data.toList = true ↔ (1 ≤ tag.data.toList.length ∧ tag.data.toList.length ≤ 100) ∧ tag.data.toList.all olf = true := by
        show ansOk _ = true ↔ _
        unfold ansOk
        simp only [Bool.and_eq_true, decide_eq_true_iff]
      rw [ht]
      simp only [mHi, aLo, aHi, bLo, bHi, cLo, cHi]
      grind
  · refine ⟨(kd, ⟨0, 0, 0, 0, ⟨#[]⟩⟩), false, fun w => used_out kd m a b c tag hk w, ?_⟩
    have h0 : okR (kd, ⟨m, a, b, c, tag⟩) = false := by
      cases h : okR (kd, ⟨m, a, b, c, tag⟩) with
      | false => rfl
      | true => exact absurd (opOk_iff.1 h).1 hk
    rw [h0, Bool.false_and]
theorem rcheckO_c (p : OpR) (hs : p.2.tag.size ≤ 1000000) (w : World) : Ret 10 #[opRV p] w (.int .i64 (if okR p then 0 else 2)) := by
  obtain ⟨x, ok, hu, he⟩ := used_all p hs
  have UU := Lib.hid hu
  rw [← he]
  have f5 := neq_ops x p
  clear hu he hs
  obtain ⟨xk, ⟨xm, xa, xb, xc, xt⟩⟩ := x
  obtain ⟨kd, ⟨m, a, b, c, tag⟩⟩ := p
  have hc := Below.refl w.heap.size w
  generalize hD : decide (((xk, ⟨xm, xa, xb, xc, xt⟩) : OpR) = (kd, ⟨m, a, b, c, tag⟩)) = D at f5 ⊢
  clear hD
  go_enter Tryz.func10, Tryz.ntmps10
  go_upto_region 1 with fail
  have r1 := Row.new (W := w) (cs := #[.int .i64 kd, .int .i64 m, .int .i64 a, .int .i64 b, .int .i64 c, .string tag]) (t := 23)
  have hn := below_alloc w (.cells #[.int .i64 kd, .int .i64 m, .int .i64 a, .int .i64 b, .int .i64 c, .string tag] 23)
  replace hc := chain hc hn
  clear hn
  generalize w.alloc (.cells #[.int .i64 kd, .int .i64 m, .int .i64 a, .int .i64 b, .int .i64 c, .string tag] 23) = V1 at r1 hc ⊢
  have y1 := r1.cell
  have z1 := r1.lt
  go_wp2_with fail
  refine Calls.mono (UU.out _) ?_
  rintro e V2 ⟨rfl, hn⟩
  clear y1 z1
  replace r1 := r1.on hn
  replace hc := chain hc hn
  clear hn
  go_upto_region 2 with fail
  have r2 := Row.new (W := V2) (cs := #[.int .i64 xk, .int .i64 xm, .int .i64 xa, .int .i64 xb, .int .i64 xc, .string xt]) (t := 23)
  have hn := below_alloc V2 (.cells #[.int .i64 xk, .int .i64 xm, .int .i64 xa, .int .i64 xb, .int .i64 xc, .string xt] 23)
  replace r1 := r1.on hn
  replace hc := chain hc hn
  clear hn
  generalize V2.alloc (.cells #[.int .i64 xk, .int .i64 xm, .int .i64 xa, .int .i64 xb, .int .i64 xc, .string xt] 23) = V3 at r1 r2 hc ⊢
  generalize V2.heap.size = b2 at *
  have y1 := r1.cell
  have z1 := r1.lt
  have y2 := r2.cell
  have z2 := r2.lt
  cases ok
  · go_wp2_with fail
    go_returns
    exact ⟨rfl, hc⟩
  · cases D
    · go_wp2_with fail
      go_returns
      exact ⟨rfl, hc⟩
    · go_wp2_with fail
      go_returns
      exact ⟨rfl, hc⟩
end Go.Proofs.YthkngleegefgbaaGreatDoor
