/- The reference of chapter 07: line. -/
import Derived.Test.YtinlfheonlpceaaGreatDoorM161a
import Derived.Test.YtinlfheonlpceaaGreatDoorL0b
import Derived.Deep.DeepCutAuto
import Derived.Test.YtinlfheonlpceaaGreatDoorM51a
import Derived.Deep.RegionWith
import Derived.Test.YtinlfheonlpceaaGreatDoorM61a
import Derived.Test.YtinlfheonlpceaaGreatDoorM110a
namespace Go.Proofs.YtinlfheonlpceaaGreatDoor
open Go.RowKit
set_option linter.unusedVariables false
set_option linter.unusedSimpArgs false
set_option maxHeartbeats 16000000
set_option maxRecDepth 20000
abbrev whyC3 : Array Value := #[.string ⟨#[99, 108, 111, 115, 101]⟩, .string ⟨#[101, 120, 112, 105, 114, 121]⟩, .string ⟨#[99, 111, 108, 108, 101, 99, 116]⟩]
abbrev ansC3 : Array Value := #[.string ⟨#[111, 107]⟩, .string ⟨#[108, 97, 116, 101, 114]⟩, .string ⟨#[102, 97, 105, 108]⟩]
theorem whyC3_at {n : Nat} (h : n < 3) : whyC3[n]? = some (.string (whyB ((n + 1 : Nat) : Int))) := by
  rcases (by omega : n = 0 ∨ n = 1 ∨ n = 2) with rfl | rfl | rfl <;> rfl
theorem ansC3_at {n : Nat} (h : n < 3) : ansC3[n]? = some (.string (ansB ((n + 1 : Nat) : Int))) := by
  rcases (by omega : n = 0 ∨ n = 1 ∨ n = 2) with rfl | rfl | rfl <;> rfl
/-- The pieces of a line, without the line feed. -/
theorem line_cats5 (at_ k i g : Int) (y z : Nat) (ok : aOk ⟨at_, k, i, g, y, z⟩ = true) (hg : 0 ≤ g ∧ g ≤ 4294967295) : ∃ A0 A1 A2 A3 A4 A5 : ByteArray, CatL (digits at_.toNat) spL A0 ∧ CatL A0 (dText 58 k i g) A1 ∧ CatL A1 spL A2 ∧ CatL A2 (whyB y) A3 ∧ CatL A3 spL A4 ∧ CatL A4 (ansB z) A5 ∧ A5 = ⟨(lineL ⟨at_, k, i, g, y, z⟩).toArray⟩ := by
  have hl := lineL_len ok hg
  have key : (digits at_.toNat ++ spL ++ dText 58 k i g ++ spL ++ whyB y ++ spL ++ ansB z).data.toList = lineL ⟨at_, k, i, g, y, z⟩ := by
    simp [ByteArray.data_append, lineL, digits, dText, whyB, ansB]
  have hs : (digits at_.toNat ++ spL ++ dText 58 k i g ++ spL ++ whyB y ++ spL ++ ansB z).size ≤ 60 := by
    have := len_bytes (digits at_.toNat ++ spL ++ dText 58 k i g ++ spL ++ whyB y ++ spL ++ ansB z)
    rw [key] at this
    omega
  simp only [ByteArray.size_append] at hs
  refine ⟨_, _, _, _, _, _, fun W => add_run rfl ?_ W, fun W => add_run rfl ?_ W, fun W => add_run rfl ?_ W, fun W => add_run rfl ?_ W, fun W => add_run rfl ?_ W, fun W => add_run rfl ?_ W, str_ext (by rw [key])⟩
  all_goals first | omega | (simp only [ByteArray.size_append]; omega)
theorem rline_c (a : AtR) (hok : aOk a = true) (hgi : gIn a) (w : World) : Ret 83 #[atV a] w (.string ⟨(lineL a).toArray⟩) := by
  obtain ⟨A, kk, ii, g0, yy, zz⟩ := a
  have ok := aOk_iff.1 hok
  obtain ⟨ym, hym⟩ : ∃ ym : Nat, yy = ((ym + 1 : Nat) : Int) := ⟨yy.toNat - 1, by have := ok.2.2.1; simp only at this; omega⟩
  obtain ⟨zm, hzm⟩ : ∃ zm : Nat, zz = ((zm + 1 : Nat) : Int) := ⟨zz.toNat - 1, by have := ok.2.2.2; simp only at this; omega⟩
  subst hym hzm
  have hy : ym < 3 := by have := ok.2.2.1; simp only at this; omega
  have hz : zm < 3 := by have := ok.2.2.2; simp only at this; omega
  have hA0 : 0 ≤ A := ok.1.1
  have hA1 : A ≤ 9223372036854775807 := by have := ok.1.2; unfold maxT at this; simp only at this; omega
  obtain ⟨A0, A1, A2, A3, A4, A5, q0, q1, q2, q3, q4, q5, q7⟩ := line_cats5 A kk ii g0 (ym + 1) (zm + 1) hok hgi
  have cd := fun W => rdig_c A W hA0 hA1
  have co := fun W => ro_text_ok kk ii g0 W ok.2.1 hgi.1 hgi.2
  have CD := Lib.hid cd
  have CO := Lib.hid co
  have HWC := Lib.hid (whyC3_at hy)
  have HAC := Lib.hid (ansC3_at hz)
  rw [← q7]
  have wy : IntKind.i64.wrap (((ym + 1 : Nat) : Int) - 1) = (ym : Int) := by rw [IntKind.wrap_i64]; omega
  have wz : IntKind.i64.wrap (((zm + 1 : Nat) : Int) - 1) = (zm : Int) := by rw [IntKind.wrap_i64]; omega
  have hy3 : (ym : Int) < 3 := by omega
  have hz3 : (zm : Int) < 3 := by omega
  clear cd co hok ok hgi q7 hA0 hA1 hy hz
  generalize digits A.toNat = DA at *
  generalize dText 58 kk ii g0 = DT at *
  generalize whyB ((ym + 1 : Nat) : Int) = WB at *
  generalize ansB ((zm + 1 : Nat) : Int) = AB at *
  generalize ((ym + 1 : Nat) : Int) = yy at *
  generalize ((zm + 1 : Nat) : Int) = zz at *
  have hc := Below.refl w.heap.size w
  go_enter Tryz.func83, Tryz.ntmps83
  go_upto_region 1 with fail
  have r1 := Row.new (W := w) (cs := #[.int .i64 A, .int .i64 kk, .int .i64 ii, .int .u32 g0, .int .i64 yy, .int .i64 zz]) (t := 43)
  have hn := below_alloc w (.cells #[.int .i64 A, .int .i64 kk, .int .i64 ii, .int .u32 g0, .int .i64 yy, .int .i64 zz] 43)
  have wr1 : w.heap.size ≤ w.heap.size := hc.size
  replace hc := chain hc hn
  clear hn
  generalize w.alloc (.cells #[.int .i64 A, .int .i64 kk, .int .i64 ii, .int .u32 g0, .int .i64 yy, .int .i64 zz] 43) = V1 at r1 hc ⊢
  have yr1 := r1.cell
  have zr1 := r1.lt
  go_upto_region 2 with fail
  clear yr1 zr1
  have r2 := Row.new (W := V1) (cs := whyC3) (t := 9)
  have hn := below_alloc V1 (.cells whyC3 9)
  have nr1_r2 : w.heap.size ≠ V1.heap.size := Nat.ne_of_lt r1.lt
  have wr2 : w.heap.size ≤ V1.heap.size := hc.size
  replace r1 := r1.on hn
  replace hc := chain hc hn
  clear hn
  generalize V1.alloc (.cells whyC3 9) = V2 at r1 r2 hc ⊢
  generalize V1.heap.size = b2 at *
  have yr1 := r1.cell
  have zr1 := r1.lt
  have yr2 := r2.cell
  have zr2 := r2.lt
  go_upto_region 3 with fail
  clear yr1 yr2 zr1 zr2
  have r3 := Row.new (W := V2) (cs := ansC3) (t := 9)
  have hn := below_alloc V2 (.cells ansC3 9)
  have nr1_r3 : w.heap.size ≠ V2.heap.size := Nat.ne_of_lt r1.lt
  have nr2_r3 : b2 ≠ V2.heap.size := Nat.ne_of_lt r2.lt
  have wr3 : w.heap.size ≤ V2.heap.size := hc.size
  replace r1 := r1.on hn
  replace r2 := r2.on hn
  replace hc := chain hc hn
  clear hn
  generalize V2.alloc (.cells ansC3 9) = V3 at r1 r2 r3 hc ⊢
  generalize V2.heap.size = b3 at *
  have yr1 := r1.cell
  have zr1 := r1.lt
  have yr2 := r2.cell
  have zr2 := r2.lt
  have yr3 := r3.cell
  have zr3 := r3.lt
  go_wp2_with fail
  refine Calls.mono (CO.out _) ?_
  rintro e V4 ⟨rfl, hn⟩
  clear yr1 yr2 yr3 zr1 zr2 zr3
  replace r1 := r1.on hn
  replace r2 := r2.on hn
  replace r3 := r3.on hn
  replace hc := chain hc hn
  clear hn
  have yr1 := r1.cell
  have zr1 := r1.lt
  have yr2 := r2.cell
  have zr2 := r2.lt
  have yr3 := r3.cell
  have zr3 := r3.lt
  go_upto_region 4 with fail
  clear yr1 yr2 yr3 zr1 zr2 zr3
  have c2 : V4.cell? ⟨b2, ym, none⟩ = some (.string WB) := (r2.cell ym).trans HWC.out
  have c3 : V4.cell? ⟨b3, zm, none⟩ = some (.string AB) := (r3.cell zm).trans HAC.out
  refine wp_region_held_drew (S := fun W' => (∀ j, W'.cell? ⟨w.heap.size, j, none⟩ = (#[.int .i64 A, .int .i64 kk, .int .i64 ii, .int .u32 g0, .int .i64 yy, .int .i64 zz] : Array Value)[j]?) ∧ W'.cell? ⟨b2, ym, none⟩ = some (.string WB) ∧ W'.cell? ⟨b3, zm, none⟩ = some (.string AB)) (by kernel_rfl) ⟨r1.cell, c2, c3⟩ (fun hHeld => ?_)
  clear c2 c3
  replace r1 := r1.drew
  replace r2 := r2.drew
  replace r3 := r3.drew
  replace hc := hc.drew
  generalize V4.drew = VD at *
  refine' wpAnyH_take (i := 0) (oi := _) (v := _) ?_ (by kernel_rfl) (by kernel_rfl) (by kernel_rfl) ?_ (Or.inl ⟨?_, ?_⟩) (by assumption) ?_
  rotate_left 2
  · (simp only [List.getElem?_toArray, List.getElem?_cons_succ, List.getElem?_cons_zero]; rfl)
  · first | exact fun _ _ _ h => h | exact fun _ _ _ h => nomatch h.1
  · rfl
  · (intro W hSW; (try dsimp only at hSW); go_split_ands; first | (go_simp; done) | (go_simp; with_reducible rfl))
  try simp only [Act.put, List.setIfInBounds_toArray, List.set_cons_zero, List.set_cons_succ]
  refine' wpAnyH_take (i := 1) (oi := _) (v := _) ?_ (by kernel_rfl) (by kernel_rfl) (by kernel_rfl) ?_ (Or.inl ⟨?_, ?_⟩) (by assumption) ?_
  rotate_left 2
  · (simp only [List.getElem?_toArray, List.getElem?_cons_succ, List.getElem?_cons_zero]; rfl)
  · first | exact fun _ _ _ h => h | exact fun _ _ _ h => nomatch h.1
  · rfl
  · (intro W hSW; (try dsimp only at hSW); go_split_ands; first | (go_simp; done) | (go_simp; with_reducible rfl))
  try simp only [Act.put, List.setIfInBounds_toArray, List.set_cons_zero, List.set_cons_succ]
  refine' wpAnyH_take (i := 4) (oi := _) (v := _) ?_ (by kernel_rfl) (by kernel_rfl) (by kernel_rfl) ?_ (Or.inl ⟨?_, ?_⟩) (by assumption) ?_
  rotate_left 2
  · (simp only [List.getElem?_toArray, List.getElem?_cons_succ, List.getElem?_cons_zero]; rfl)
  · first | exact fun _ _ _ h => h | exact fun _ _ _ h => nomatch h.1
  · rfl
  · (intro W hSW; (try dsimp only at hSW); go_split_ands; first | (go_simp; done) | (go_simp; with_reducible rfl))
  try simp only [Act.put, List.setIfInBounds_toArray, List.set_cons_zero, List.set_cons_succ]
  refine' wpAnyH_take (i := 7) (oi := _) (v := _) ?_ (by kernel_rfl) (by kernel_rfl) (by kernel_rfl) ?_ (Or.inl ⟨?_, ?_⟩) (by assumption) ?_
  rotate_left 2
  · (simp only [List.getElem?_toArray, List.getElem?_cons_succ, List.getElem?_cons_zero]; rfl)
  · first | exact fun _ _ _ h => h | exact fun _ _ _ h => nomatch h.1
  · rfl
  · (intro W hSW; (try dsimp only at hSW); go_split_ands; first | (go_simp; done) | (go_simp; with_reducible rfl))
  try simp only [Act.put, List.setIfInBounds_toArray, List.set_cons_zero, List.set_cons_succ]
  refine' wpAnyH_take (i := 8) (oi := _) (v := _) ?_ (by kernel_rfl) (by kernel_rfl) (by kernel_rfl) ?_ (Or.inl ⟨?_, ?_⟩) (by assumption) ?_
  rotate_left 2
  · (simp only [List.getElem?_toArray, List.getElem?_cons_succ, List.getElem?_cons_zero]; rfl)
  · first | exact fun _ _ _ h => h | exact fun _ _ _ h => nomatch h.1
  · rfl
  · (intro W hSW; (try dsimp only at hSW); go_split_ands; first | (go_simp; done) | (go_simp; with_reducible rfl))
  try simp only [Act.put, List.setIfInBounds_toArray, List.set_cons_zero, List.set_cons_succ]
  refine' wpAnyH_take (i := 9) (oi := _) (v := _) ?_ (by kernel_rfl) (by kernel_rfl) (by kernel_rfl) ?_ (Or.inl ⟨?_, ?_⟩) (by assumption) ?_
  rotate_left 2
  · (simp only [List.getElem?_toArray, List.getElem?_cons_succ, List.getElem?_cons_zero]; rfl)
  · first | exact fun _ _ _ h => h | exact fun _ _ _ h => nomatch h.1
  · rfl
  · (intro W hSW; (try dsimp only at hSW); go_split_ands; first | (go_simp; done) | (go_simp; with_reducible rfl))
  try simp only [Act.put, List.setIfInBounds_toArray, List.set_cons_zero, List.set_cons_succ]
  refine' wpAnyH_take (i := 10) (oi := _) (v := _) ?_ (by kernel_rfl) (by kernel_rfl) (by kernel_rfl) ?_ (Or.inl ⟨?_, ?_⟩) (by assumption) ?_
  rotate_left 2
  · (simp only [List.getElem?_toArray, List.getElem?_cons_succ, List.getElem?_cons_zero]; rfl)
  · first | exact fun _ _ _ h => h | exact fun _ _ _ h => nomatch h.1
  · rfl
  · (intro W hSW; (try dsimp only at hSW); go_split_ands; first | (go_simp; done) | (go_simp; with_reducible rfl))
  try simp only [Act.put, List.setIfInBounds_toArray, List.set_cons_zero, List.set_cons_succ]
  refine' wpAnyH_take (i := 11) (oi := _) (v := _) ?_ (by kernel_rfl) (by kernel_rfl) (by kernel_rfl) ?_ (Or.inl ⟨?_, ?_⟩) (by assumption) ?_
  rotate_left 2
  · (simp only [List.getElem?_toArray, List.getElem?_cons_succ, List.getElem?_cons_zero]; rfl)
  · first | exact fun _ _ _ h => h | exact fun _ _ _ h => nomatch h.1
  · rfl
  · (intro W hSW; (try dsimp only at hSW); go_split_ands; first | (go_simp; done) | (go_simp; with_reducible rfl))
  try simp only [Act.put, List.setIfInBounds_toArray, List.set_cons_zero, List.set_cons_succ]
  refine' wpAnyH_take (i := 12) (oi := _) (v := _) ?_ (by kernel_rfl) (by kernel_rfl) (by kernel_rfl) ?_ (Or.inl ⟨?_, ?_⟩) (by assumption) ?_
  rotate_left 2
  · (simp only [List.getElem?_toArray, List.getElem?_cons_succ, List.getElem?_cons_zero]; rfl)
  · first | exact fun _ _ _ h => h | exact fun _ _ _ h => nomatch h.1
  · rfl
  · (intro W hSW; (try dsimp only at hSW); go_split_ands; first | (go_simp; done) | (go_simp; with_reducible rfl))
  try simp only [Act.put, List.setIfInBounds_toArray, List.set_cons_zero, List.set_cons_succ]
  refine' wpAnyH_take (i := 15) (oi := _) (v := _) ?_ (by kernel_rfl) (by kernel_rfl) (by kernel_rfl) ?_ (Or.inl ⟨?_, ?_⟩) (by assumption) ?_
  rotate_left 2
  · (simp only [List.getElem?_toArray, List.getElem?_cons_succ, List.getElem?_cons_zero]; rfl)
  · first | exact fun _ _ _ h => h | exact fun _ _ _ h => nomatch h.1
  · rfl
  · (intro W hSW; (try dsimp only at hSW); go_split_ands; first | (go_simp; done) | (go_simp; with_reducible rfl))
  try simp only [Act.put, List.setIfInBounds_toArray, List.set_cons_zero, List.set_cons_succ]
  refine' wpAnyH_take (i := 16) (oi := _) (v := _) ?_ (by kernel_rfl) (by kernel_rfl) (by kernel_rfl) ?_ (Or.inl ⟨?_, ?_⟩) (by assumption) ?_
  rotate_left 2
  · (simp only [List.getElem?_toArray, List.getElem?_cons_succ, List.getElem?_cons_zero]; rfl)
  · first | exact fun _ _ _ h => h | exact fun _ _ _ h => nomatch h.1
  · rfl
  · (intro W hSW; (try dsimp only at hSW); go_split_ands; first | (go_simp; done) | (go_simp; with_reducible rfl))
  try simp only [Act.put, List.setIfInBounds_toArray, List.set_cons_zero, List.set_cons_succ]
  refine' wpAnyH_take (i := 17) (oi := _) (v := _) ?_ (by kernel_rfl) (by kernel_rfl) (by kernel_rfl) ?_ (Or.inl ⟨?_, ?_⟩) (by assumption) ?_
  rotate_left 2
  · (simp only [List.getElem?_toArray, List.getElem?_cons_succ, List.getElem?_cons_zero]; rfl)
  · first | exact fun _ _ _ h => h | exact fun _ _ _ h => nomatch h.1
  · rfl
  · (intro W hSW; (try dsimp only at hSW); go_split_ands; first | (go_simp; done) | (go_simp; with_reducible rfl))
  try simp only [Act.put, List.setIfInBounds_toArray, List.set_cons_zero, List.set_cons_succ]
  refine' wpAnyH_take (i := 18) (oi := _) (v := _) ?_ (by kernel_rfl) (by kernel_rfl) (by kernel_rfl) ?_ (Or.inl ⟨?_, ?_⟩) (by assumption) ?_
  rotate_left 2
  · (simp only [List.getElem?_toArray, List.getElem?_cons_succ, List.getElem?_cons_zero]; rfl)
  · first | exact fun _ _ _ h => h | exact fun _ _ _ h => nomatch h.1
  · rfl
  · (intro W hSW; (try dsimp only at hSW); go_split_ands; first | (go_simp; done) | (go_simp; with_reducible rfl))
  try simp only [Act.put, List.setIfInBounds_toArray, List.set_cons_zero, List.set_cons_succ]
  refine' wpAnyH_take (i := 19) (oi := _) (v := _) ?_ (by kernel_rfl) (by kernel_rfl) (by kernel_rfl) ?_ (Or.inl ⟨?_, ?_⟩) (by assumption) ?_
  rotate_left 2
  · (simp only [List.getElem?_toArray, List.getElem?_cons_succ, List.getElem?_cons_zero]; rfl)
  · first | exact fun _ _ _ h => h | exact fun _ _ _ h => nomatch h.1
  · rfl
  · (intro W hSW; (try dsimp only at hSW); go_split_ands; first | (go_simp; done) | (go_simp; with_reducible rfl))
  try simp only [Act.put, List.setIfInBounds_toArray, List.set_cons_zero, List.set_cons_succ]
  refine' wpAnyH_take (i := 20) (oi := _) (v := _) ?_ (by kernel_rfl) (by kernel_rfl) (by kernel_rfl) ?_ (Or.inl ⟨?_, ?_⟩) (by assumption) ?_
  rotate_left 2
  · (simp only [List.getElem?_toArray, List.getElem?_cons_succ, List.getElem?_cons_zero]; rfl)
  · first | exact fun _ _ _ h => h | exact fun _ _ _ h => nomatch h.1
  · rfl
  · (intro W hSW; (try dsimp only at hSW); go_split_ands; first | (go_simp; done) | (go_simp; with_reducible rfl))
  try simp only [Act.put, List.setIfInBounds_toArray, List.set_cons_zero, List.set_cons_succ]
  clear hHeld
  refine wpAnyH_ready (rs := [2]) (by kernel_rfl) (by simp) ?_
  refine' AllReadyH.cons (o := _) ?_ (fun K hK => ?_) AllReadyH.nil
  rotate_left 1
  · (simp only [List.getElem?_toArray, List.getElem?_cons_succ, List.getElem?_cons_zero]; rfl)
  go_simp
  refine Calls.mono (CD.out _) ?_
  rintro e VE ⟨rfl, hn⟩
  replace r1 := r1.on hn
  replace r2 := r2.on hn
  replace r3 := r3.on hn
  replace hc := chain hc hn
  clear hn
  have c2 : VE.cell? ⟨b2, ym, none⟩ = some (.string WB) := (r2.cell ym).trans HWC.out
  have c3 : VE.cell? ⟨b3, zm, none⟩ = some (.string AB) := (r3.cell zm).trans HAC.out
  go_simp
  refine hK.out _ _ ⟨r1.cell, c2, c3⟩ (fun hHeld => ?_)
  clear hK K
  refine' wpAnyH_take (i := 3) (oi := _) (v := _) ?_ (by kernel_rfl) (by kernel_rfl) (by kernel_rfl) ?_ (Or.inl ⟨?_, ?_⟩) (by assumption) ?_
  rotate_left 2
  · (simp only [List.getElem?_toArray, List.getElem?_cons_succ, List.getElem?_cons_zero]; rfl)
  · first | exact fun _ _ _ h => h | exact fun _ _ _ h => nomatch h.1
  · rfl
  · (intro W hSW; (try dsimp only at hSW); go_split_ands; first | (go_simp; done) | (go_simp; with_reducible rfl))
  try simp only [Act.put, List.setIfInBounds_toArray, List.set_cons_zero, List.set_cons_succ]
  refine' wpAnyH_take (i := 5) (oi := _) (v := _) ?_ (by kernel_rfl) (by kernel_rfl) (by kernel_rfl) ?_ (Or.inl ⟨?_, ?_⟩) (by assumption) ?_
  rotate_left 2
  · (simp only [List.getElem?_toArray, List.getElem?_cons_succ, List.getElem?_cons_zero]; rfl)
  · first | exact fun _ _ _ h => h | exact fun _ _ _ h => nomatch h.1
  · rfl
  · (intro W hSW; (try dsimp only at hSW); go_split_ands; first | (go_simp; done) | (go_simp; with_reducible rfl))
  try simp only [Act.put, List.setIfInBounds_toArray, List.set_cons_zero, List.set_cons_succ]
  refine' wpAnyH_take (i := 6) (oi := _) (v := _) ?_ (by kernel_rfl) (by kernel_rfl) (by kernel_rfl) ?_ (Or.inl ⟨?_, ?_⟩) (by assumption) ?_
  rotate_left 2
  · (simp only [List.getElem?_toArray, List.getElem?_cons_succ, List.getElem?_cons_zero]; rfl)
  · first | exact fun _ _ _ h => h | exact fun _ _ _ h => nomatch h.1
  · rfl
  · (intro W hSW; (try dsimp only at hSW); go_split_ands; first | (go_simp; done) | (go_simp; with_reducible rfl))
  try simp only [Act.put, List.setIfInBounds_toArray, List.set_cons_zero, List.set_cons_succ]
  refine' wpAnyH_take (i := 13) (oi := _) (v := _) ?_ (by kernel_rfl) (by kernel_rfl) (by kernel_rfl) ?_ (Or.inl ⟨?_, ?_⟩) (by assumption) ?_
  rotate_left 2
  · (simp only [List.getElem?_toArray, List.getElem?_cons_succ, List.getElem?_cons_zero]; rfl)
  · first | exact fun _ _ _ h => h | exact fun _ _ _ h => nomatch h.1
  · rfl
  · (intro W hSW; (try dsimp only at hSW); go_split_ands; first | (go_simp; done) | (go_simp; with_reducible rfl))
  try simp only [Act.put, List.setIfInBounds_toArray, List.set_cons_zero, List.set_cons_succ]
  refine' wpAnyH_take (i := 14) (oi := _) (v := _) ?_ (by kernel_rfl) (by kernel_rfl) (by kernel_rfl) ?_ (Or.inl ⟨?_, ?_⟩) (by assumption) ?_
  rotate_left 2
  · (simp only [List.getElem?_toArray, List.getElem?_cons_succ, List.getElem?_cons_zero]; rfl)
  · first | exact fun _ _ _ h => h | exact fun _ _ _ h => nomatch h.1
  · rfl
  · (intro W hSW; (try dsimp only at hSW); go_split_ands; first | (go_simp; done) | (go_simp; with_reducible rfl))
  try simp only [Act.put, List.setIfInBounds_toArray, List.set_cons_zero, List.set_cons_succ]
  refine' wpAnyH_take (i := 21) (oi := _) (v := _) ?_ (by kernel_rfl) (by kernel_rfl) (by kernel_rfl) ?_ (Or.inl ⟨?_, ?_⟩) (by assumption) ?_
  rotate_left 2
  · (simp only [List.getElem?_toArray, List.getElem?_cons_succ, List.getElem?_cons_zero]; rfl)
  · first | exact fun _ _ _ h => h | exact fun _ _ _ h => nomatch h.1
  · rfl
  · (intro W hSW; (try dsimp only at hSW); go_split_ands; first | (go_simp; done) | (go_simp; with_reducible rfl))
  try simp only [Act.put, List.setIfInBounds_toArray, List.set_cons_zero, List.set_cons_succ]
  refine' wpAnyH_take (i := 22) (oi := _) (v := _) ?_ (by kernel_rfl) (by kernel_rfl) (by kernel_rfl) ?_ (Or.inl ⟨?_, ?_⟩) (by assumption) ?_
  rotate_left 2
  · (simp only [List.getElem?_toArray, List.getElem?_cons_succ, List.getElem?_cons_zero]; rfl)
  · first | exact fun _ _ _ h => h | exact fun _ _ _ h => nomatch h.1
  · rfl
  · (intro W hSW; (try dsimp only at hSW); go_split_ands; first | (go_simp; done) | (go_simp; with_reducible rfl))
  try simp only [Act.put, List.setIfInBounds_toArray, List.set_cons_zero, List.set_cons_succ]
  refine wpAnyH_done (by kernel_rfl) ?_ _
  go_wp2_with fail
  go_returns
  exact ⟨rfl, hc⟩
end Go.Proofs.YtinlfheonlpceaaGreatDoor

/- The reference's ledger (chapter 07): New, valid, Add. -/
namespace Go.Proofs.YtinlfheonlpceaaGreatDoor
open Go.RowKit
set_option linter.unusedVariables false
set_option linter.unusedSimpArgs false
set_option maxHeartbeats 16000000
set_option maxRecDepth 20000
abbrev RLT : TypeId := 110
structure RLedIs (W : World) (G : Nat → Prop) (q : Nat) (l : List AtR) (v : Value) : Prop where
  row : Row W q #[.bool true, v] RLT
  own : OwnsA 0 W v l
  gq : G q
  gv : ∀ b, v.ownBlock = some b → G b
  fin : ∀ b, G b → b < W.heap.size
  len : l.length ≤ 10000
theorem RLedIs.via {W W' : World} {G : Nat → Prop} {q : Nat} {l : List AtR} {v : Value} (h : RLedIs W G q l v) (hs : W.heap.size ≤ W'.heap.size) (hb : ∀ b, G b → W'.heap[b]? = W.heap[b]?) : RLedIs W' G q l v where
  row := ⟨(hb q h.gq).trans h.row.eq⟩
  own := h.own.via (fun k hk => hb k (h.gv k hk))
  gq := h.gq
  gv := h.gv
  fin := fun b hF => Nat.lt_of_lt_of_le (h.fin b hF) hs
  len := h.len
theorem RLedIs.on {W W' : World} {G : Nat → Prop} {q : Nat} {l : List AtR} {v : Value} (h : RLedIs W G q l v) (hb : Below W.heap.size W W') : RLedIs W' G q l v := h.via hb.size (fun b hF => hb.block b (h.fin b hF))
def RLed (W : World) (G : Nat → Prop) (q : Nat) (l : List AtR) : Prop := ∃ v, RLedIs W G q l v
theorem rnew_c (w : World) : Calls Tryz.prog 34 #[] w fun e w' => ∃ q, e = .returned (ledP q) ∧ RLed w' (FreshL w w') q [] ∧ Below w.heap.size w w' := by
  go_enter Tryz.func34, Tryz.ntmps34
  go_wp2_with fail
  go_returns
  refine ⟨_, rfl, ⟨_, Row.new, OwnsA.nil _ _, ⟨Nat.le_refl _, by simp⟩, fun b hb => by simp [Value.ownBlock] at hb, fun b hb => hb.2, Nat.zero_le _⟩, below_alloc _ _⟩
theorem rvalid_c {W : World} {q : Nat} {v : Value} (h : Row W q #[.bool true, v] RLT) : Calls Tryz.prog 81 #[ledP q] W fun e w' => e = .returned (.bool true) ∧ w' = W := by
  have y := h.cell
  have z := h.lt
  go_enter Tryz.func81, Tryz.ntmps81
  go_wp2_with fail
  go_returns
  exact ⟨rfl, rfl⟩
theorem radd_arg {G : Nat → Prop} {p : Nat} {l : List AtR} {v : Value} (a : AtR) (hg : gIn a) (w : World) (h : RLedIs w G p l v) (hk : aOk a = false) : Ret 38 #[ledP p, atV a] w (.int .i64 2) := by
  have HH := Lib.hid h
  obtain ⟨a0, c0, hv0⟩ := h.own.holds.len
  subst hv0
  have cc := fun W => rcheck_a a hg W
  rw [aErr_bad hk] at cc
  have CC := Lib.hid cc
  have rp := h.row
  clear cc h
  go_enter Tryz.func38, Tryz.ntmps38
  go_upto_region 1 with fail
  have hb := below_alloc w (.cells (atC a) 43)
  have r1 := Row.new (W := w) (cs := atC a) (t := 43)
  replace rp := rp.on hb
  have hc := hb
  clear hb
  generalize w.alloc (.cells (atC a) 43) = V at *
  generalize hbx : w.heap.size = bx at r1 ⊢
  have yp := rp.cell
  have zp := rp.lt
  have y1 := r1.cell
  have z1 := r1.lt
  go_wp2_with fail
  refine Calls.mono (rvalid_c rp) ?_
  rintro e V1 ⟨rfl, hW⟩
  subst hW
  go_wp2_with fail
  refine Calls.mono (CC.out _) ?_
  rintro e V2 ⟨rfl, hn⟩
  clear yp zp y1 z1 CC
  replace rp := rp.on hn
  replace r1 := r1.on hn
  replace hc := chain hc hn
  clear hn
  have yp := rp.cell
  have zp := rp.lt
  have y1 := r1.cell
  have z1 := r1.lt
  go_wp2_with fail
  go_returns
  exact ⟨rfl, by first | exact hc | (rw [← hbx]; exact hc)⟩
theorem radd_state {G : Nat → Prop} {p : Nat} {l : List AtR} {v : Value} (a : AtR) (hg : gIn a) (w : World) (h : RLedIs w G p l v) (hk : aOk a = true) {N : Nat} (hN : l.length = N + 1) (hN2 : N ≤ 10000) (hs : ∀ x, l.getLast? = some x → a.at_ < x.at_) : Ret 38 #[ledP p, atV a] w (.int .i64 8) := by
  have HH := Lib.hid h
  obtain ⟨a0, c0, hv0⟩ := h.own.holds.len
  subst hv0
  have cc := fun W => rcheck_a a hg W
  rw [aErr_ok hk] at cc
  have CC := Lib.hid cc
  have rp := h.row
  obtain ⟨g, c1, x, hvv, hx, hcl⟩ := last_cell h.own hN
  injection hvv with hv1 hv2 hv3
  subst hv1
  subst hv3
  rw [hN] at rp
  clear hv2
  have hcl0 := block_lt_of_cell (a := ⟨g, N * 6, none⟩) hcl
  have q0 : IntKind.i64.wrap (N : Int) = (N : Int) := IntWalk.i64_in _ ⟨by omega, by omega⟩
  have q1 : (0 : Int) ≤ (N : Int) := by omega
  have q2 : (N : Int) < (N : Int) + 1 := by omega
  have hlt := hs x hx
  have hd : decide (a.at_ < x.at_) = true := decide_eq_true hlt
  clear hs hx hlt
  clear cc h
  go_enter Tryz.func38, Tryz.ntmps38
  go_upto_region 1 with fail
  have hb := below_alloc w (.cells (atC a) 43)
  have r1 := Row.new (W := w) (cs := atC a) (t := 43)
  replace rp := rp.on hb
  replace hcl := keep_cell hb hcl0 hcl
  replace hcl0 := keep_lt hb hcl0
  have hc := hb
  clear hb
  generalize w.alloc (.cells (atC a) 43) = V at *
  generalize hbx : w.heap.size = bx at r1 ⊢
  have yp := rp.cell
  have zp := rp.lt
  have y1 := r1.cell
  have z1 := r1.lt
  go_wp2_with fail
  refine Calls.mono (rvalid_c rp) ?_
  rintro e V1 ⟨rfl, hW⟩
  subst hW
  go_wp2_with fail
  refine Calls.mono (CC.out _) ?_
  rintro e V2 ⟨rfl, hn⟩
  clear yp zp y1 z1 CC
  replace rp := rp.on hn
  replace r1 := r1.on hn
  replace hcl := keep_cell hn hcl0 hcl
  replace hcl0 := keep_lt hn hcl0
  replace hc := chain hc hn
  clear hn
  have yp := rp.cell
  have zp := rp.lt
  have y1 := r1.cell
  have z1 := r1.lt
  go_upto_region 5 with fail
  clear yp zp y1 z1
  refine wp_region_held_drew (S := fun W' => (∀ j, W'.cell? ⟨p, j, none⟩ = (#[.bool true, .slice (some ⟨g, 0, none⟩) (N + 1) c0] : Array Value)[j]?) ∧ (∀ j, W'.cell? ⟨bx, j, none⟩ = (atC a)[j]?) ∧ W'.cell? ⟨g, N * 6, none⟩ = some (.int .i64 x.at_)) (by kernel_rfl) ⟨rp.cell, r1.cell, hcl⟩ (fun hHeld => ?_)
  replace rp := rp.drew
  replace r1 := r1.drew
  replace hc := hc.drew
  generalize V2.drew = V3 at *
  refine' wpAnyH_take (i := 0) (oi := _) (v := _) ?_ (by kernel_rfl) (by kernel_rfl) (by kernel_rfl) ?_ (Or.inl ⟨?_, ?_⟩) (by assumption) ?_
  rotate_left 2
  · (simp only [List.getElem?_toArray, List.getElem?_cons_succ, List.getElem?_cons_zero]; rfl)
  · first | exact fun _ _ _ h => h | exact fun _ _ _ h => nomatch h.1
  · rfl
  · (intro W hSW; (try dsimp only at hSW); go_split_ands; first | (go_simp; done) | (go_simp; with_reducible rfl))
  try simp only [Act.put, List.setIfInBounds_toArray, List.set_cons_zero, List.set_cons_succ]
  refine' wpAnyH_take (i := 1) (oi := _) (v := _) ?_ (by kernel_rfl) (by kernel_rfl) (by kernel_rfl) ?_ (Or.inl ⟨?_, ?_⟩) (by assumption) ?_
  rotate_left 2
  · (simp only [List.getElem?_toArray, List.getElem?_cons_succ, List.getElem?_cons_zero]; rfl)
  · first | exact fun _ _ _ h => h | exact fun _ _ _ h => nomatch h.1
  · rfl
  · (intro W hSW; (try dsimp only at hSW); go_split_ands; first | (go_simp; done) | (go_simp; with_reducible rfl))
  try simp only [Act.put, List.setIfInBounds_toArray, List.set_cons_zero, List.set_cons_succ]
  refine' wpAnyH_take (i := 2) (oi := _) (v := _) ?_ (by kernel_rfl) (by kernel_rfl) (by kernel_rfl) ?_ (Or.inl ⟨?_, ?_⟩) (by assumption) ?_
  rotate_left 2
  · (simp only [List.getElem?_toArray, List.getElem?_cons_succ, List.getElem?_cons_zero]; rfl)
  · first | exact fun _ _ _ h => h | exact fun _ _ _ h => nomatch h.1
  · rfl
  · (intro W hSW; (try dsimp only at hSW); go_split_ands; first | (go_simp; done) | (go_simp; with_reducible rfl))
  try simp only [Act.put, List.setIfInBounds_toArray, List.set_cons_zero, List.set_cons_succ]
  refine' wpAnyH_take (i := 3) (oi := _) (v := _) ?_ (by kernel_rfl) (by kernel_rfl) (by kernel_rfl) ?_ (Or.inl ⟨?_, ?_⟩) (by assumption) ?_
  rotate_left 2
  · (simp only [List.getElem?_toArray, List.getElem?_cons_succ, List.getElem?_cons_zero]; rfl)
  · first | exact fun _ _ _ h => h | exact fun _ _ _ h => nomatch h.1
  · rfl
  · (intro W hSW; (try dsimp only at hSW); go_split_ands; first | (go_simp; done) | (go_simp; with_reducible rfl))
  try simp only [Act.put, List.setIfInBounds_toArray, List.set_cons_zero, List.set_cons_succ]
  refine' wpAnyH_take (i := 4) (oi := _) (v := _) ?_ (by kernel_rfl) (by kernel_rfl) (by kernel_rfl) ?_ (Or.inl ⟨?_, ?_⟩) (by assumption) ?_
  rotate_left 2
  · (simp only [List.getElem?_toArray, List.getElem?_cons_succ, List.getElem?_cons_zero]; rfl)
  · first | exact fun _ _ _ h => h | exact fun _ _ _ h => nomatch h.1
  · rfl
  · (intro W hSW; (try dsimp only at hSW); go_split_ands; first | (go_simp; done) | (go_simp; with_reducible rfl))
  try simp only [Act.put, List.setIfInBounds_toArray, List.set_cons_zero, List.set_cons_succ]
  refine' wpAnyH_take (i := 5) (oi := _) (v := _) ?_ (by kernel_rfl) (by kernel_rfl) (by kernel_rfl) ?_ (Or.inl ⟨?_, ?_⟩) (by assumption) ?_
  rotate_left 2
  · (simp only [List.getElem?_toArray, List.getElem?_cons_succ, List.getElem?_cons_zero]; rfl)
  · first | exact fun _ _ _ h => h | exact fun _ _ _ h => nomatch h.1
  · rfl
  · (intro W hSW; (try dsimp only at hSW); go_split_ands; first | (go_simp; done) | (go_simp; with_reducible rfl))
  try simp only [Act.put, List.setIfInBounds_toArray, List.set_cons_zero, List.set_cons_succ]
  refine' wpAnyH_take (i := 6) (oi := _) (v := _) ?_ (by kernel_rfl) (by kernel_rfl) (by kernel_rfl) ?_ (Or.inl ⟨?_, ?_⟩) (by assumption) ?_
  rotate_left 2
  · (simp only [List.getElem?_toArray, List.getElem?_cons_succ, List.getElem?_cons_zero]; rfl)
  · first | exact fun _ _ _ h => h | exact fun _ _ _ h => nomatch h.1
  · rfl
  · (intro W hSW; (try dsimp only at hSW); go_split_ands; first | (go_simp; done) | (go_simp; with_reducible rfl))
  try simp only [Act.put, List.setIfInBounds_toArray, List.set_cons_zero, List.set_cons_succ]
  refine' wpAnyH_take (i := 7) (oi := _) (v := _) ?_ (by kernel_rfl) (by kernel_rfl) (by kernel_rfl) ?_ (Or.inl ⟨?_, ?_⟩) (by assumption) ?_
  rotate_left 2
  · (simp only [List.getElem?_toArray, List.getElem?_cons_succ, List.getElem?_cons_zero]; rfl)
  · first | exact fun _ _ _ h => h | exact fun _ _ _ h => nomatch h.1
  · rfl
  · (intro W hSW; (try dsimp only at hSW); go_split_ands; first | (go_simp; done) | (go_simp; with_reducible rfl))
  try simp only [Act.put, List.setIfInBounds_toArray, List.set_cons_zero, List.set_cons_succ]
  refine' wpAnyH_take (i := 8) (oi := _) (v := _) ?_ (by kernel_rfl) (by kernel_rfl) (by kernel_rfl) ?_ (Or.inl ⟨?_, ?_⟩) (by assumption) ?_
  rotate_left 2
  · (simp only [List.getElem?_toArray, List.getElem?_cons_succ, List.getElem?_cons_zero]; rfl)
  · first | exact fun _ _ _ h => h | exact fun _ _ _ h => nomatch h.1
  · rfl
  · (intro W hSW; (try dsimp only at hSW); go_split_ands; first | (go_simp; done) | (go_simp; with_reducible rfl))
  try simp only [Act.put, List.setIfInBounds_toArray, List.set_cons_zero, List.set_cons_succ]
  refine' wpAnyH_take (i := 9) (oi := _) (v := _) ?_ (by kernel_rfl) (by kernel_rfl) (by kernel_rfl) ?_ (Or.inl ⟨?_, ?_⟩) (by assumption) ?_
  rotate_left 2
  · (simp only [List.getElem?_toArray, List.getElem?_cons_succ, List.getElem?_cons_zero]; rfl)
  · first | exact fun _ _ _ h => h | exact fun _ _ _ h => nomatch h.1
  · rfl
  · (intro W hSW; (try dsimp only at hSW); go_split_ands; first | (go_simp; done) | (go_simp; with_reducible rfl))
  try simp only [Act.put, List.setIfInBounds_toArray, List.set_cons_zero, List.set_cons_succ]
  refine' wpAnyH_take (i := 10) (oi := _) (v := _) ?_ (by kernel_rfl) (by kernel_rfl) (by kernel_rfl) ?_ (Or.inl ⟨?_, ?_⟩) (by assumption) ?_
  rotate_left 2
  · (simp only [List.getElem?_toArray, List.getElem?_cons_succ, List.getElem?_cons_zero]; rfl)
  · first | exact fun _ _ _ h => h | exact fun _ _ _ h => nomatch h.1
  · rfl
  · (intro W hSW; (try dsimp only at hSW); go_split_ands; first | (go_simp; done) | (go_simp; with_reducible rfl))
  try simp only [Act.put, List.setIfInBounds_toArray, List.set_cons_zero, List.set_cons_succ]
  refine' wpAnyH_take (i := 11) (oi := _) (v := _) ?_ (by kernel_rfl) (by kernel_rfl) (by kernel_rfl) ?_ (Or.inl ⟨?_, ?_⟩) (by assumption) ?_
  rotate_left 2
  · (simp only [List.getElem?_toArray, List.getElem?_cons_succ, List.getElem?_cons_zero]; rfl)
  · first | exact fun _ _ _ h => h | exact fun _ _ _ h => nomatch h.1
  · rfl
  · (intro W hSW; (try dsimp only at hSW); go_split_ands; first | (go_simp; done) | (go_simp; with_reducible rfl))
  try simp only [Act.put, List.setIfInBounds_toArray, List.set_cons_zero, List.set_cons_succ]
  refine' wpAnyH_take (i := 12) (oi := _) (v := _) ?_ (by kernel_rfl) (by kernel_rfl) (by kernel_rfl) ?_ (Or.inl ⟨?_, ?_⟩) (by assumption) ?_
  rotate_left 2
  · (simp only [List.getElem?_toArray, List.getElem?_cons_succ, List.getElem?_cons_zero]; rfl)
  · first | exact fun _ _ _ h => h | exact fun _ _ _ h => nomatch h.1
  · rfl
  · (intro W hSW; (try dsimp only at hSW); go_split_ands; first | (go_simp; done) | (go_simp; with_reducible rfl))
  try simp only [Act.put, List.setIfInBounds_toArray, List.set_cons_zero, List.set_cons_succ]
  refine' wpAnyH_take (i := 13) (oi := _) (v := _) ?_ (by kernel_rfl) (by kernel_rfl) (by kernel_rfl) ?_ (Or.inl ⟨?_, ?_⟩) (by assumption) ?_
  rotate_left 2
  · (simp only [List.getElem?_toArray, List.getElem?_cons_succ, List.getElem?_cons_zero]; rfl)
  · first | exact fun _ _ _ h => h | exact fun _ _ _ h => nomatch h.1
  · rfl
  · (intro W hSW; (try dsimp only at hSW); go_split_ands; first | (go_simp; done) | (go_simp; with_reducible rfl))
  try simp only [Act.put, List.setIfInBounds_toArray, List.set_cons_zero, List.set_cons_succ]
  refine' wpAnyH_take (i := 14) (oi := _) (v := _) ?_ (by kernel_rfl) (by kernel_rfl) (by kernel_rfl) ?_ (Or.inl ⟨?_, ?_⟩) (by assumption) ?_
  rotate_left 2
  · (simp only [List.getElem?_toArray, List.getElem?_cons_succ, List.getElem?_cons_zero]; rfl)
  · first | exact fun _ _ _ h => h | exact fun _ _ _ h => nomatch h.1
  · rfl
  · (intro W hSW; (try dsimp only at hSW); go_split_ands; first | (go_simp; done) | (go_simp; with_reducible rfl))
  try simp only [Act.put, List.setIfInBounds_toArray, List.set_cons_zero, List.set_cons_succ]
  refine' wpAnyH_take (i := 15) (oi := _) (v := _) ?_ (by kernel_rfl) (by kernel_rfl) (by kernel_rfl) ?_ (Or.inl ⟨?_, ?_⟩) (by assumption) ?_
  rotate_left 2
  · (simp only [List.getElem?_toArray, List.getElem?_cons_succ, List.getElem?_cons_zero]; rfl)
  · first | exact fun _ _ _ h => h | exact fun _ _ _ h => nomatch h.1
  · rfl
  · (intro W hSW; (try dsimp only at hSW); go_split_ands; first | (go_simp; done) | (go_simp; with_reducible rfl))
  try simp only [Act.put, List.setIfInBounds_toArray, List.set_cons_zero, List.set_cons_succ]
  refine' wpAnyH_take (i := 16) (oi := _) (v := _) ?_ (by kernel_rfl) (by kernel_rfl) (by kernel_rfl) ?_ (Or.inl ⟨?_, ?_⟩) (by assumption) ?_
  rotate_left 2
  · (simp only [List.getElem?_toArray, List.getElem?_cons_succ, List.getElem?_cons_zero]; rfl)
  · first | exact fun _ _ _ h => h | exact fun _ _ _ h => nomatch h.1
  · rfl
  · (intro W hSW; (try dsimp only at hSW); go_split_ands; first | (go_simp; done) | (go_simp; with_reducible rfl))
  try simp only [Act.put, List.setIfInBounds_toArray, List.set_cons_zero, List.set_cons_succ]
  refine' wpAnyH_take (i := 17) (oi := _) (v := _) ?_ (by kernel_rfl) (by kernel_rfl) (by kernel_rfl) ?_ (Or.inl ⟨?_, ?_⟩) (by assumption) ?_
  rotate_left 2
  · (simp only [List.getElem?_toArray, List.getElem?_cons_succ, List.getElem?_cons_zero]; rfl)
  · first | exact fun _ _ _ h => h | exact fun _ _ _ h => nomatch h.1
  · rfl
  · (intro W hSW; (try dsimp only at hSW); go_split_ands; first | (go_simp; done) | (go_simp; with_reducible rfl))
  try simp only [Act.put, List.setIfInBounds_toArray, List.set_cons_zero, List.set_cons_succ]
  refine' wpAnyH_take (i := 18) (oi := _) (v := _) ?_ (by kernel_rfl) (by kernel_rfl) (by kernel_rfl) ?_ (Or.inl ⟨?_, ?_⟩) (by assumption) ?_
  rotate_left 2
  · (simp only [List.getElem?_toArray, List.getElem?_cons_succ, List.getElem?_cons_zero]; rfl)
  · first | exact fun _ _ _ h => h | exact fun _ _ _ h => nomatch h.1
  · rfl
  · (intro W hSW; (try dsimp only at hSW); go_split_ands; first | (go_simp; done) | (go_simp; with_reducible rfl))
  try simp only [Act.put, List.setIfInBounds_toArray, List.set_cons_zero, List.set_cons_succ]
  refine' wpAnyH_take (i := 19) (oi := _) (v := _) ?_ (by kernel_rfl) (by kernel_rfl) (by kernel_rfl) ?_ (Or.inl ⟨?_, ?_⟩) (by assumption) ?_
  rotate_left 2
  · (simp only [List.getElem?_toArray, List.getElem?_cons_succ, List.getElem?_cons_zero]; rfl)
  · first | exact fun _ _ _ h => h | exact fun _ _ _ h => nomatch h.1
  · rfl
  · (intro W hSW; (try dsimp only at hSW); go_split_ands; first | (go_simp; done) | (go_simp; with_reducible rfl))
  try simp only [Act.put, List.setIfInBounds_toArray, List.set_cons_zero, List.set_cons_succ]
  refine' wpAnyH_take (i := 20) (oi := _) (v := _) ?_ (by kernel_rfl) (by kernel_rfl) (by kernel_rfl) ?_ (Or.inl ⟨?_, ?_⟩) (by assumption) ?_
  rotate_left 2
  · (simp only [List.getElem?_toArray, List.getElem?_cons_succ, List.getElem?_cons_zero]; rfl)
  · first | exact fun _ _ _ h => h | exact fun _ _ _ h => nomatch h.1
  · rfl
  · (intro W hSW; (try dsimp only at hSW); go_split_ands; first | (go_simp; done) | (go_simp; with_reducible rfl))
  try simp only [Act.put, List.setIfInBounds_toArray, List.set_cons_zero, List.set_cons_succ]
  refine' wpAnyH_take (i := 21) (oi := _) (v := _) ?_ (by kernel_rfl) (by kernel_rfl) (by kernel_rfl) ?_ (Or.inl ⟨?_, ?_⟩) (by assumption) ?_
  rotate_left 2
  · (simp only [List.getElem?_toArray, List.getElem?_cons_succ, List.getElem?_cons_zero]; rfl)
  · first | exact fun _ _ _ h => h | exact fun _ _ _ h => nomatch h.1
  · rfl
  · (intro W hSW; (try dsimp only at hSW); go_split_ands; first | (go_simp; done) | (go_simp; with_reducible rfl))
  try simp only [Act.put, List.setIfInBounds_toArray, List.set_cons_zero, List.set_cons_succ]
  refine' wpAnyH_take (i := 22) (oi := _) (v := _) ?_ (by kernel_rfl) (by kernel_rfl) (by kernel_rfl) ?_ (Or.inl ⟨?_, ?_⟩) (by assumption) ?_
  rotate_left 2
  · (simp only [List.getElem?_toArray, List.getElem?_cons_succ, List.getElem?_cons_zero]; rfl)
  · first | exact fun _ _ _ h => h | exact fun _ _ _ h => nomatch h.1
  · rfl
  · (intro W hSW; (try dsimp only at hSW); go_split_ands; first | (go_simp; done) | (go_simp; with_reducible rfl))
  try simp only [Act.put, List.setIfInBounds_toArray, List.set_cons_zero, List.set_cons_succ]
  refine' wpAnyH_take (i := 23) (oi := _) (v := _) ?_ (by kernel_rfl) (by kernel_rfl) (by kernel_rfl) ?_ (Or.inl ⟨?_, ?_⟩) (by assumption) ?_
  rotate_left 2
  · (simp only [List.getElem?_toArray, List.getElem?_cons_succ, List.getElem?_cons_zero]; rfl)
  · first | exact fun _ _ _ h => h | exact fun _ _ _ h => nomatch h.1
  · rfl
  · (intro W hSW; (try dsimp only at hSW); go_split_ands; first | (go_simp; done) | (go_simp; with_reducible rfl))
  try simp only [Act.put, List.setIfInBounds_toArray, List.set_cons_zero, List.set_cons_succ]
  clear hHeld
  refine wpAnyH_done (by kernel_rfl) ?_ _
  have yp := rp.cell
  have zp := rp.lt
  have y1 := r1.cell
  have z1 := r1.lt
  go_wp2_with fail
  go_returns
  exact ⟨rfl, by first | exact hc | (rw [← hbx]; exact hc)⟩
theorem radd_full {G : Nat → Prop} {p : Nat} {l : List AtR} {v : Value} (a : AtR) (hg : gIn a) (w : World) (h : RLedIs w G p l v) (hk : aOk a = true) {N : Nat} (hN : l.length = N + 1) (hN2 : 10000 ≤ N + 1) (hN4 : N ≤ 20000) (hs : ∀ x, l.getLast? = some x → ¬ a.at_ < x.at_) : Ret 38 #[ledP p, atV a] w (.int .i64 4) := by
  have HH := Lib.hid h
  obtain ⟨a0, c0, hv0⟩ := h.own.holds.len
  subst hv0
  have cc := fun W => rcheck_a a hg W
  rw [aErr_ok hk] at cc
  have CC := Lib.hid cc
  have rp := h.row
  obtain ⟨g, c1, x, hvv, hx, hcl⟩ := last_cell h.own hN
  injection hvv with hv1 hv2 hv3
  subst hv1
  subst hv3
  rw [hN] at rp
  clear hv2
  have hcl0 := block_lt_of_cell (a := ⟨g, N * 6, none⟩) hcl
  have q0 : IntKind.i64.wrap (N : Int) = (N : Int) := IntWalk.i64_in _ ⟨by omega, by omega⟩
  have q1 : (0 : Int) ≤ (N : Int) := by omega
  have q2 : (N : Int) < (N : Int) + 1 := by omega
  have hlt := hs x hx
  have hd : decide (a.at_ < x.at_) = false := decide_eq_false hlt
  have hN3 : (10000 : Int) ≤ (N : Int) + 1 := by omega
  clear hs hx hlt
  clear cc h
  go_enter Tryz.func38, Tryz.ntmps38
  go_upto_region 1 with fail
  have hb := below_alloc w (.cells (atC a) 43)
  have r1 := Row.new (W := w) (cs := atC a) (t := 43)
  replace rp := rp.on hb
  replace hcl := keep_cell hb hcl0 hcl
  replace hcl0 := keep_lt hb hcl0
  have hc := hb
  clear hb
  generalize w.alloc (.cells (atC a) 43) = V at *
  generalize hbx : w.heap.size = bx at r1 ⊢
  have yp := rp.cell
  have zp := rp.lt
  have y1 := r1.cell
  have z1 := r1.lt
  go_wp2_with fail
  refine Calls.mono (rvalid_c rp) ?_
  rintro e V1 ⟨rfl, hW⟩
  subst hW
  go_wp2_with fail
  refine Calls.mono (CC.out _) ?_
  rintro e V2 ⟨rfl, hn⟩
  clear yp zp y1 z1 CC
  replace rp := rp.on hn
  replace r1 := r1.on hn
  replace hcl := keep_cell hn hcl0 hcl
  replace hcl0 := keep_lt hn hcl0
  replace hc := chain hc hn
  clear hn
  have yp := rp.cell
  have zp := rp.lt
  have y1 := r1.cell
  have z1 := r1.lt
  go_upto_region 5 with fail
  clear yp zp y1 z1
  refine wp_region_held_drew (S := fun W' => (∀ j, W'.cell? ⟨p, j, none⟩ = (#[.bool true, .slice (some ⟨g, 0, none⟩) (N + 1) c0] : Array Value)[j]?) ∧ (∀ j, W'.cell? ⟨bx, j, none⟩ = (atC a)[j]?) ∧ W'.cell? ⟨g, N * 6, none⟩ = some (.int .i64 x.at_)) (by kernel_rfl) ⟨rp.cell, r1.cell, hcl⟩ (fun hHeld => ?_)
  replace rp := rp.drew
  replace r1 := r1.drew
  replace hc := hc.drew
  generalize V2.drew = V3 at *
  refine' wpAnyH_take (i := 0) (oi := _) (v := _) ?_ (by kernel_rfl) (by kernel_rfl) (by kernel_rfl) ?_ (Or.inl ⟨?_, ?_⟩) (by assumption) ?_
  rotate_left 2
  · (simp only [List.getElem?_toArray, List.getElem?_cons_succ, List.getElem?_cons_zero]; rfl)
  · first | exact fun _ _ _ h => h | exact fun _ _ _ h => nomatch h.1
  · rfl
  · (intro W hSW; (try dsimp only at hSW); go_split_ands; first | (go_simp; done) | (go_simp; with_reducible rfl))
  try simp only [Act.put, List.setIfInBounds_toArray, List.set_cons_zero, List.set_cons_succ]
  refine' wpAnyH_take (i := 1) (oi := _) (v := _) ?_ (by kernel_rfl) (by kernel_rfl) (by kernel_rfl) ?_ (Or.inl ⟨?_, ?_⟩) (by assumption) ?_
  rotate_left 2
  · (simp only [List.getElem?_toArray, List.getElem?_cons_succ, List.getElem?_cons_zero]; rfl)
  · first | exact fun _ _ _ h => h | exact fun _ _ _ h => nomatch h.1
  · rfl
  · (intro W hSW; (try dsimp only at hSW); go_split_ands; first | (go_simp; done) | (go_simp; with_reducible rfl))
  try simp only [Act.put, List.setIfInBounds_toArray, List.set_cons_zero, List.set_cons_succ]
  refine' wpAnyH_take (i := 2) (oi := _) (v := _) ?_ (by kernel_rfl) (by kernel_rfl) (by kernel_rfl) ?_ (Or.inl ⟨?_, ?_⟩) (by assumption) ?_
  rotate_left 2
  · (simp only [List.getElem?_toArray, List.getElem?_cons_succ, List.getElem?_cons_zero]; rfl)
  · first | exact fun _ _ _ h => h | exact fun _ _ _ h => nomatch h.1
  · rfl
  · (intro W hSW; (try dsimp only at hSW); go_split_ands; first | (go_simp; done) | (go_simp; with_reducible rfl))
  try simp only [Act.put, List.setIfInBounds_toArray, List.set_cons_zero, List.set_cons_succ]
  refine' wpAnyH_take (i := 3) (oi := _) (v := _) ?_ (by kernel_rfl) (by kernel_rfl) (by kernel_rfl) ?_ (Or.inl ⟨?_, ?_⟩) (by assumption) ?_
  rotate_left 2
  · (simp only [List.getElem?_toArray, List.getElem?_cons_succ, List.getElem?_cons_zero]; rfl)
  · first | exact fun _ _ _ h => h | exact fun _ _ _ h => nomatch h.1
  · rfl
  · (intro W hSW; (try dsimp only at hSW); go_split_ands; first | (go_simp; done) | (go_simp; with_reducible rfl))
  try simp only [Act.put, List.setIfInBounds_toArray, List.set_cons_zero, List.set_cons_succ]
  refine' wpAnyH_take (i := 4) (oi := _) (v := _) ?_ (by kernel_rfl) (by kernel_rfl) (by kernel_rfl) ?_ (Or.inl ⟨?_, ?_⟩) (by assumption) ?_
  rotate_left 2
  · (simp only [List.getElem?_toArray, List.getElem?_cons_succ, List.getElem?_cons_zero]; rfl)
  · first | exact fun _ _ _ h => h | exact fun _ _ _ h => nomatch h.1
  · rfl
  · (intro W hSW; (try dsimp only at hSW); go_split_ands; first | (go_simp; done) | (go_simp; with_reducible rfl))
  try simp only [Act.put, List.setIfInBounds_toArray, List.set_cons_zero, List.set_cons_succ]
  refine' wpAnyH_take (i := 5) (oi := _) (v := _) ?_ (by kernel_rfl) (by kernel_rfl) (by kernel_rfl) ?_ (Or.inl ⟨?_, ?_⟩) (by assumption) ?_
  rotate_left 2
  · (simp only [List.getElem?_toArray, List.getElem?_cons_succ, List.getElem?_cons_zero]; rfl)
  · first | exact fun _ _ _ h => h | exact fun _ _ _ h => nomatch h.1
  · rfl
  · (intro W hSW; (try dsimp only at hSW); go_split_ands; first | (go_simp; done) | (go_simp; with_reducible rfl))
  try simp only [Act.put, List.setIfInBounds_toArray, List.set_cons_zero, List.set_cons_succ]
  refine' wpAnyH_take (i := 6) (oi := _) (v := _) ?_ (by kernel_rfl) (by kernel_rfl) (by kernel_rfl) ?_ (Or.inl ⟨?_, ?_⟩) (by assumption) ?_
  rotate_left 2
  · (simp only [List.getElem?_toArray, List.getElem?_cons_succ, List.getElem?_cons_zero]; rfl)
  · first | exact fun _ _ _ h => h | exact fun _ _ _ h => nomatch h.1
  · rfl
  · (intro W hSW; (try dsimp only at hSW); go_split_ands; first | (go_simp; done) | (go_simp; with_reducible rfl))
  try simp only [Act.put, List.setIfInBounds_toArray, List.set_cons_zero, List.set_cons_succ]
  refine' wpAnyH_take (i := 7) (oi := _) (v := _) ?_ (by kernel_rfl) (by kernel_rfl) (by kernel_rfl) ?_ (Or.inl ⟨?_, ?_⟩) (by assumption) ?_
  rotate_left 2
  · (simp only [List.getElem?_toArray, List.getElem?_cons_succ, List.getElem?_cons_zero]; rfl)
  · first | exact fun _ _ _ h => h | exact fun _ _ _ h => nomatch h.1
  · rfl
  · (intro W hSW; (try dsimp only at hSW); go_split_ands; first | (go_simp; done) | (go_simp; with_reducible rfl))
  try simp only [Act.put, List.setIfInBounds_toArray, List.set_cons_zero, List.set_cons_succ]
  refine' wpAnyH_take (i := 8) (oi := _) (v := _) ?_ (by kernel_rfl) (by kernel_rfl) (by kernel_rfl) ?_ (Or.inl ⟨?_, ?_⟩) (by assumption) ?_
  rotate_left 2
  · (simp only [List.getElem?_toArray, List.getElem?_cons_succ, List.getElem?_cons_zero]; rfl)
  · first | exact fun _ _ _ h => h | exact fun _ _ _ h => nomatch h.1
  · rfl
  · (intro W hSW; (try dsimp only at hSW); go_split_ands; first | (go_simp; done) | (go_simp; with_reducible rfl))
  try simp only [Act.put, List.setIfInBounds_toArray, List.set_cons_zero, List.set_cons_succ]
  refine' wpAnyH_take (i := 9) (oi := _) (v := _) ?_ (by kernel_rfl) (by kernel_rfl) (by kernel_rfl) ?_ (Or.inl ⟨?_, ?_⟩) (by assumption) ?_
  rotate_left 2
  · (simp only [List.getElem?_toArray, List.getElem?_cons_succ, List.getElem?_cons_zero]; rfl)
  · first | exact fun _ _ _ h => h | exact fun _ _ _ h => nomatch h.1
  · rfl
  · (intro W hSW; (try dsimp only at hSW); go_split_ands; first | (go_simp; done) | (go_simp; with_reducible rfl))
  try simp only [Act.put, List.setIfInBounds_toArray, List.set_cons_zero, List.set_cons_succ]
  refine' wpAnyH_take (i := 10) (oi := _) (v := _) ?_ (by kernel_rfl) (by kernel_rfl) (by kernel_rfl) ?_ (Or.inl ⟨?_, ?_⟩) (by assumption) ?_
  rotate_left 2
  · (simp only [List.getElem?_toArray, List.getElem?_cons_succ, List.getElem?_cons_zero]; rfl)
  · first | exact fun _ _ _ h => h | exact fun _ _ _ h => nomatch h.1
  · rfl
  · (intro W hSW; (try dsimp only at hSW); go_split_ands; first | (go_simp; done) | (go_simp; with_reducible rfl))
  try simp only [Act.put, List.setIfInBounds_toArray, List.set_cons_zero, List.set_cons_succ]
  refine' wpAnyH_take (i := 11) (oi := _) (v := _) ?_ (by kernel_rfl) (by kernel_rfl) (by kernel_rfl) ?_ (Or.inl ⟨?_, ?_⟩) (by assumption) ?_
  rotate_left 2
  · (simp only [List.getElem?_toArray, List.getElem?_cons_succ, List.getElem?_cons_zero]; rfl)
  · first | exact fun _ _ _ h => h | exact fun _ _ _ h => nomatch h.1
  · rfl
  · (intro W hSW; (try dsimp only at hSW); go_split_ands; first | (go_simp; done) | (go_simp; with_reducible rfl))
  try simp only [Act.put, List.setIfInBounds_toArray, List.set_cons_zero, List.set_cons_succ]
  refine' wpAnyH_take (i := 12) (oi := _) (v := _) ?_ (by kernel_rfl) (by kernel_rfl) (by kernel_rfl) ?_ (Or.inl ⟨?_, ?_⟩) (by assumption) ?_
  rotate_left 2
  · (simp only [List.getElem?_toArray, List.getElem?_cons_succ, List.getElem?_cons_zero]; rfl)
  · first | exact fun _ _ _ h => h | exact fun _ _ _ h => nomatch h.1
  · rfl
  · (intro W hSW; (try dsimp only at hSW); go_split_ands; first | (go_simp; done) | (go_simp; with_reducible rfl))
  try simp only [Act.put, List.setIfInBounds_toArray, List.set_cons_zero, List.set_cons_succ]
  refine' wpAnyH_take (i := 13) (oi := _) (v := _) ?_ (by kernel_rfl) (by kernel_rfl) (by kernel_rfl) ?_ (Or.inl ⟨?_, ?_⟩) (by assumption) ?_
  rotate_left 2
  · (simp only [List.getElem?_toArray, List.getElem?_cons_succ, List.getElem?_cons_zero]; rfl)
  · first | exact fun _ _ _ h => h | exact fun _ _ _ h => nomatch h.1
  · rfl
  · (intro W hSW; (try dsimp only at hSW); go_split_ands; first | (go_simp; done) | (go_simp; with_reducible rfl))
  try simp only [Act.put, List.setIfInBounds_toArray, List.set_cons_zero, List.set_cons_succ]
  refine' wpAnyH_take (i := 14) (oi := _) (v := _) ?_ (by kernel_rfl) (by kernel_rfl) (by kernel_rfl) ?_ (Or.inl ⟨?_, ?_⟩) (by assumption) ?_
  rotate_left 2
  · (simp only [List.getElem?_toArray, List.getElem?_cons_succ, List.getElem?_cons_zero]; rfl)
  · first | exact fun _ _ _ h => h | exact fun _ _ _ h => nomatch h.1
  · rfl
  · (intro W hSW; (try dsimp only at hSW); go_split_ands; first | (go_simp; done) | (go_simp; with_reducible rfl))
  try simp only [Act.put, List.setIfInBounds_toArray, List.set_cons_zero, List.set_cons_succ]
  refine' wpAnyH_take (i := 15) (oi := _) (v := _) ?_ (by kernel_rfl) (by kernel_rfl) (by kernel_rfl) ?_ (Or.inl ⟨?_, ?_⟩) (by assumption) ?_
  rotate_left 2
  · (simp only [List.getElem?_toArray, List.getElem?_cons_succ, List.getElem?_cons_zero]; rfl)
  · first | exact fun _ _ _ h => h | exact fun _ _ _ h => nomatch h.1
  · rfl
  · (intro W hSW; (try dsimp only at hSW); go_split_ands; first | (go_simp; done) | (go_simp; with_reducible rfl))
  try simp only [Act.put, List.setIfInBounds_toArray, List.set_cons_zero, List.set_cons_succ]
  refine' wpAnyH_take (i := 16) (oi := _) (v := _) ?_ (by kernel_rfl) (by kernel_rfl) (by kernel_rfl) ?_ (Or.inl ⟨?_, ?_⟩) (by assumption) ?_
  rotate_left 2
  · (simp only [List.getElem?_toArray, List.getElem?_cons_succ, List.getElem?_cons_zero]; rfl)
  · first | exact fun _ _ _ h => h | exact fun _ _ _ h => nomatch h.1
  · rfl
  · (intro W hSW; (try dsimp only at hSW); go_split_ands; first | (go_simp; done) | (go_simp; with_reducible rfl))
  try simp only [Act.put, List.setIfInBounds_toArray, List.set_cons_zero, List.set_cons_succ]
  refine' wpAnyH_take (i := 17) (oi := _) (v := _) ?_ (by kernel_rfl) (by kernel_rfl) (by kernel_rfl) ?_ (Or.inl ⟨?_, ?_⟩) (by assumption) ?_
  rotate_left 2
  · (simp only [List.getElem?_toArray, List.getElem?_cons_succ, List.getElem?_cons_zero]; rfl)
  · first | exact fun _ _ _ h => h | exact fun _ _ _ h => nomatch h.1
  · rfl
  · (intro W hSW; (try dsimp only at hSW); go_split_ands; first | (go_simp; done) | (go_simp; with_reducible rfl))
  try simp only [Act.put, List.setIfInBounds_toArray, List.set_cons_zero, List.set_cons_succ]
  refine' wpAnyH_take (i := 18) (oi := _) (v := _) ?_ (by kernel_rfl) (by kernel_rfl) (by kernel_rfl) ?_ (Or.inl ⟨?_, ?_⟩) (by assumption) ?_
  rotate_left 2
  · (simp only [List.getElem?_toArray, List.getElem?_cons_succ, List.getElem?_cons_zero]; rfl)
  · first | exact fun _ _ _ h => h | exact fun _ _ _ h => nomatch h.1
  · rfl
  · (intro W hSW; (try dsimp only at hSW); go_split_ands; first | (go_simp; done) | (go_simp; with_reducible rfl))
  try simp only [Act.put, List.setIfInBounds_toArray, List.set_cons_zero, List.set_cons_succ]
  refine' wpAnyH_take (i := 19) (oi := _) (v := _) ?_ (by kernel_rfl) (by kernel_rfl) (by kernel_rfl) ?_ (Or.inl ⟨?_, ?_⟩) (by assumption) ?_
  rotate_left 2
  · (simp only [List.getElem?_toArray, List.getElem?_cons_succ, List.getElem?_cons_zero]; rfl)
  · first | exact fun _ _ _ h => h | exact fun _ _ _ h => nomatch h.1
  · rfl
  · (intro W hSW; (try dsimp only at hSW); go_split_ands; first | (go_simp; done) | (go_simp; with_reducible rfl))
  try simp only [Act.put, List.setIfInBounds_toArray, List.set_cons_zero, List.set_cons_succ]
  refine' wpAnyH_take (i := 20) (oi := _) (v := _) ?_ (by kernel_rfl) (by kernel_rfl) (by kernel_rfl) ?_ (Or.inl ⟨?_, ?_⟩) (by assumption) ?_
  rotate_left 2
  · (simp only [List.getElem?_toArray, List.getElem?_cons_succ, List.getElem?_cons_zero]; rfl)
  · first | exact fun _ _ _ h => h | exact fun _ _ _ h => nomatch h.1
  · rfl
  · (intro W hSW; (try dsimp only at hSW); go_split_ands; first | (go_simp; done) | (go_simp; with_reducible rfl))
  try simp only [Act.put, List.setIfInBounds_toArray, List.set_cons_zero, List.set_cons_succ]
  refine' wpAnyH_take (i := 21) (oi := _) (v := _) ?_ (by kernel_rfl) (by kernel_rfl) (by kernel_rfl) ?_ (Or.inl ⟨?_, ?_⟩) (by assumption) ?_
  rotate_left 2
  · (simp only [List.getElem?_toArray, List.getElem?_cons_succ, List.getElem?_cons_zero]; rfl)
  · first | exact fun _ _ _ h => h | exact fun _ _ _ h => nomatch h.1
  · rfl
  · (intro W hSW; (try dsimp only at hSW); go_split_ands; first | (go_simp; done) | (go_simp; with_reducible rfl))
  try simp only [Act.put, List.setIfInBounds_toArray, List.set_cons_zero, List.set_cons_succ]
  refine' wpAnyH_take (i := 22) (oi := _) (v := _) ?_ (by kernel_rfl) (by kernel_rfl) (by kernel_rfl) ?_ (Or.inl ⟨?_, ?_⟩) (by assumption) ?_
  rotate_left 2
  · (simp only [List.getElem?_toArray, List.getElem?_cons_succ, List.getElem?_cons_zero]; rfl)
  · first | exact fun _ _ _ h => h | exact fun _ _ _ h => nomatch h.1
  · rfl
  · (intro W hSW; (try dsimp only at hSW); go_split_ands; first | (go_simp; done) | (go_simp; with_reducible rfl))
  try simp only [Act.put, List.setIfInBounds_toArray, List.set_cons_zero, List.set_cons_succ]
  refine' wpAnyH_take (i := 23) (oi := _) (v := _) ?_ (by kernel_rfl) (by kernel_rfl) (by kernel_rfl) ?_ (Or.inl ⟨?_, ?_⟩) (by assumption) ?_
  rotate_left 2
  · (simp only [List.getElem?_toArray, List.getElem?_cons_succ, List.getElem?_cons_zero]; rfl)
  · first | exact fun _ _ _ h => h | exact fun _ _ _ h => nomatch h.1
  · rfl
  · (intro W hSW; (try dsimp only at hSW); go_split_ands; first | (go_simp; done) | (go_simp; with_reducible rfl))
  try simp only [Act.put, List.setIfInBounds_toArray, List.set_cons_zero, List.set_cons_succ]
  clear hHeld
  refine wpAnyH_done (by kernel_rfl) ?_ _
  have yp := rp.cell
  have zp := rp.lt
  have y1 := r1.cell
  have z1 := r1.lt
  go_wp2_with fail
  go_returns
  exact ⟨rfl, by first | exact hc | (rw [← hbx]; exact hc)⟩
theorem radd_ok1 {G : Nat → Prop} {p : Nat} {l : List AtR} {v : Value} (a : AtR) (hg : gIn a) (w : World) (h : RLedIs w G p l v) (hk : aOk a = true) {N : Nat} (hN : l.length = N + 1) (hN2 : N + 1 < 10000) (hs : ∀ x, l.getLast? = some x → ¬ a.at_ < x.at_) :
    Calls Tryz.prog 38 #[ledP p, atV a] w fun e w' => e = .returned (.int .i64 0) ∧ RLed w' (fun b => G b ∨ FreshL w w' b) p (l ++ [a]) ∧ But G w w' := by
  have HK := Lib.hid hk
  obtain ⟨i0, hi, hz0, hz1, hz2⟩ := info_parts at_info
  have HI0 := Lib.hid hi
  have HZ0 := Lib.hid hz0
  have HZ1 := Lib.hid hz1
  have HZ2 := Lib.hid hz2
  clear hi hz0 hz1 hz2
  have HH := Lib.hid h
  obtain ⟨a0, c0, hv0⟩ := h.own.holds.len
  subst hv0
  have cc := fun W => rcheck_a a hg W
  rw [aErr_ok hk] at cc
  have CC := Lib.hid cc
  have rp := h.row
  obtain ⟨g, c1, x, hvv, hx, hcl⟩ := last_cell h.own hN
  injection hvv with hv1 hv2 hv3
  subst hv1
  subst hv3
  rw [hN] at rp
  clear hv2
  have hcl0 := block_lt_of_cell (a := ⟨g, N * 6, none⟩) hcl
  have q0 : IntKind.i64.wrap (N : Int) = (N : Int) := IntWalk.i64_in _ ⟨by omega, by omega⟩
  have q1 : (0 : Int) ≤ (N : Int) := by omega
  have q2 : (N : Int) < (N : Int) + 1 := by omega
  have hlt := hs x hx
  have hd : decide (a.at_ < x.at_) = false := decide_eq_false hlt
  have hN3 : decide ((10000 : Int) ≤ (N : Int) + 1) = false := decide_eq_false (by omega)
  have HN2 := Lib.hid hN2
  clear hN2
  have HN := Lib.hid hN
  clear hs hx hlt hN
  clear hk
  clear cc h
  go_enter Tryz.func38, Tryz.ntmps38
  go_upto_region 1 with fail
  have hb := below_alloc w (.cells (atC a) 43)
  have r1 := Row.new (W := w) (cs := atC a) (t := 43)
  replace rp := rp.on hb
  replace hcl := keep_cell hb hcl0 hcl
  replace hcl0 := keep_lt hb hcl0
  have hc := hb
  clear hb
  generalize w.alloc (.cells (atC a) 43) = V at *
  generalize hbx : w.heap.size = bx at r1 ⊢
  have yp := rp.cell
  have zp := rp.lt
  have y1 := r1.cell
  have z1 := r1.lt
  go_wp2_with fail
  refine Calls.mono (rvalid_c rp) ?_
  rintro e V1 ⟨rfl, hW⟩
  subst hW
  go_wp2_with fail
  refine Calls.mono (CC.out _) ?_
  rintro e V2 ⟨rfl, hn⟩
  clear yp zp y1 z1 CC
  replace rp := rp.on hn
  replace r1 := r1.on hn
  replace hcl := keep_cell hn hcl0 hcl
  replace hcl0 := keep_lt hn hcl0
  replace hc := chain hc hn
  clear hn
  have yp := rp.cell
  have zp := rp.lt
  have y1 := r1.cell
  have z1 := r1.lt
  go_upto_region 5 with fail
  clear yp zp y1 z1
  refine wp_region_held_drew (S := fun W' => (∀ j, W'.cell? ⟨p, j, none⟩ = (#[.bool true, .slice (some ⟨g, 0, none⟩) (N + 1) c0] : Array Value)[j]?) ∧ (∀ j, W'.cell? ⟨bx, j, none⟩ = (atC a)[j]?) ∧ W'.cell? ⟨g, N * 6, none⟩ = some (.int .i64 x.at_)) (by kernel_rfl) ⟨rp.cell, r1.cell, hcl⟩ (fun hHeld => ?_)
  replace rp := rp.drew
  replace r1 := r1.drew
  replace hc := hc.drew
  generalize V2.drew = V3 at *
  refine' wpAnyH_take (i := 0) (oi := _) (v := _) ?_ (by kernel_rfl) (by kernel_rfl) (by kernel_rfl) ?_ (Or.inl ⟨?_, ?_⟩) (by assumption) ?_
  rotate_left 2
  · (simp only [List.getElem?_toArray, List.getElem?_cons_succ, List.getElem?_cons_zero]; rfl)
  · first | exact fun _ _ _ h => h | exact fun _ _ _ h => nomatch h.1
  · rfl
  · (intro W hSW; (try dsimp only at hSW); go_split_ands; first | (go_simp; done) | (go_simp; with_reducible rfl))
  try simp only [Act.put, List.setIfInBounds_toArray, List.set_cons_zero, List.set_cons_succ]
  refine' wpAnyH_take (i := 1) (oi := _) (v := _) ?_ (by kernel_rfl) (by kernel_rfl) (by kernel_rfl) ?_ (Or.inl ⟨?_, ?_⟩) (by assumption) ?_
  rotate_left 2
  · (simp only [List.getElem?_toArray, List.getElem?_cons_succ, List.getElem?_cons_zero]; rfl)
  · first | exact fun _ _ _ h => h | exact fun _ _ _ h => nomatch h.1
  · rfl
  · (intro W hSW; (try dsimp only at hSW); go_split_ands; first | (go_simp; done) | (go_simp; with_reducible rfl))
  try simp only [Act.put, List.setIfInBounds_toArray, List.set_cons_zero, List.set_cons_succ]
  refine' wpAnyH_take (i := 2) (oi := _) (v := _) ?_ (by kernel_rfl) (by kernel_rfl) (by kernel_rfl) ?_ (Or.inl ⟨?_, ?_⟩) (by assumption) ?_
  rotate_left 2
  · (simp only [List.getElem?_toArray, List.getElem?_cons_succ, List.getElem?_cons_zero]; rfl)
  · first | exact fun _ _ _ h => h | exact fun _ _ _ h => nomatch h.1
  · rfl
  · (intro W hSW; (try dsimp only at hSW); go_split_ands; first | (go_simp; done) | (go_simp; with_reducible rfl))
  try simp only [Act.put, List.setIfInBounds_toArray, List.set_cons_zero, List.set_cons_succ]
  refine' wpAnyH_take (i := 3) (oi := _) (v := _) ?_ (by kernel_rfl) (by kernel_rfl) (by kernel_rfl) ?_ (Or.inl ⟨?_, ?_⟩) (by assumption) ?_
  rotate_left 2
  · (simp only [List.getElem?_toArray, List.getElem?_cons_succ, List.getElem?_cons_zero]; rfl)
  · first | exact fun _ _ _ h => h | exact fun _ _ _ h => nomatch h.1
  · rfl
  · (intro W hSW; (try dsimp only at hSW); go_split_ands; first | (go_simp; done) | (go_simp; with_reducible rfl))
  try simp only [Act.put, List.setIfInBounds_toArray, List.set_cons_zero, List.set_cons_succ]
  refine' wpAnyH_take (i := 4) (oi := _) (v := _) ?_ (by kernel_rfl) (by kernel_rfl) (by kernel_rfl) ?_ (Or.inl ⟨?_, ?_⟩) (by assumption) ?_
  rotate_left 2
  · (simp only [List.getElem?_toArray, List.getElem?_cons_succ, List.getElem?_cons_zero]; rfl)
  · first | exact fun _ _ _ h => h | exact fun _ _ _ h => nomatch h.1
  · rfl
  · (intro W hSW; (try dsimp only at hSW); go_split_ands; first | (go_simp; done) | (go_simp; with_reducible rfl))
  try simp only [Act.put, List.setIfInBounds_toArray, List.set_cons_zero, List.set_cons_succ]
  refine' wpAnyH_take (i := 5) (oi := _) (v := _) ?_ (by kernel_rfl) (by kernel_rfl) (by kernel_rfl) ?_ (Or.inl ⟨?_, ?_⟩) (by assumption) ?_
  rotate_left 2
  · (simp only [List.getElem?_toArray, List.getElem?_cons_succ, List.getElem?_cons_zero]; rfl)
  · first | exact fun _ _ _ h => h | exact fun _ _ _ h => nomatch h.1
  · rfl
  · (intro W hSW; (try dsimp only at hSW); go_split_ands; first | (go_simp; done) | (go_simp; with_reducible rfl))
  try simp only [Act.put, List.setIfInBounds_toArray, List.set_cons_zero, List.set_cons_succ]
  refine' wpAnyH_take (i := 6) (oi := _) (v := _) ?_ (by kernel_rfl) (by kernel_rfl) (by kernel_rfl) ?_ (Or.inl ⟨?_, ?_⟩) (by assumption) ?_
  rotate_left 2
  · (simp only [List.getElem?_toArray, List.getElem?_cons_succ, List.getElem?_cons_zero]; rfl)
  · first | exact fun _ _ _ h => h | exact fun _ _ _ h => nomatch h.1
  · rfl
  · (intro W hSW; (try dsimp only at hSW); go_split_ands; first | (go_simp; done) | (go_simp; with_reducible rfl))
  try simp only [Act.put, List.setIfInBounds_toArray, List.set_cons_zero, List.set_cons_succ]
  refine' wpAnyH_take (i := 7) (oi := _) (v := _) ?_ (by kernel_rfl) (by kernel_rfl) (by kernel_rfl) ?_ (Or.inl ⟨?_, ?_⟩) (by assumption) ?_
  rotate_left 2
  · (simp only [List.getElem?_toArray, List.getElem?_cons_succ, List.getElem?_cons_zero]; rfl)
  · first | exact fun _ _ _ h => h | exact fun _ _ _ h => nomatch h.1
  · rfl
  · (intro W hSW; (try dsimp only at hSW); go_split_ands; first | (go_simp; done) | (go_simp; with_reducible rfl))
  try simp only [Act.put, List.setIfInBounds_toArray, List.set_cons_zero, List.set_cons_succ]
  refine' wpAnyH_take (i := 8) (oi := _) (v := _) ?_ (by kernel_rfl) (by kernel_rfl) (by kernel_rfl) ?_ (Or.inl ⟨?_, ?_⟩) (by assumption) ?_
  rotate_left 2
  · (simp only [List.getElem?_toArray, List.getElem?_cons_succ, List.getElem?_cons_zero]; rfl)
  · first | exact fun _ _ _ h => h | exact fun _ _ _ h => nomatch h.1
  · rfl
  · (intro W hSW; (try dsimp only at hSW); go_split_ands; first | (go_simp; done) | (go_simp; with_reducible rfl))
  try simp only [Act.put, List.setIfInBounds_toArray, List.set_cons_zero, List.set_cons_succ]
  refine' wpAnyH_take (i := 9) (oi := _) (v := _) ?_ (by kernel_rfl) (by kernel_rfl) (by kernel_rfl) ?_ (Or.inl ⟨?_, ?_⟩) (by assumption) ?_
  rotate_left 2
  · (simp only [List.getElem?_toArray, List.getElem?_cons_succ, List.getElem?_cons_zero]; rfl)
  · first | exact fun _ _ _ h => h | exact fun _ _ _ h => nomatch h.1
  · rfl
  · (intro W hSW; (try dsimp only at hSW); go_split_ands; first | (go_simp; done) | (go_simp; with_reducible rfl))
  try simp only [Act.put, List.setIfInBounds_toArray, List.set_cons_zero, List.set_cons_succ]
  refine' wpAnyH_take (i := 10) (oi := _) (v := _) ?_ (by kernel_rfl) (by kernel_rfl) (by kernel_rfl) ?_ (Or.inl ⟨?_, ?_⟩) (by assumption) ?_
  rotate_left 2
  · (simp only [List.getElem?_toArray, List.getElem?_cons_succ, List.getElem?_cons_zero]; rfl)
  · first | exact fun _ _ _ h => h | exact fun _ _ _ h => nomatch h.1
  · rfl
  · (intro W hSW; (try dsimp only at hSW); go_split_ands; first | (go_simp; done) | (go_simp; with_reducible rfl))
  try simp only [Act.put, List.setIfInBounds_toArray, List.set_cons_zero, List.set_cons_succ]
  refine' wpAnyH_take (i := 11) (oi := _) (v := _) ?_ (by kernel_rfl) (by kernel_rfl) (by kernel_rfl) ?_ (Or.inl ⟨?_, ?_⟩) (by assumption) ?_
  rotate_left 2
  · (simp only [List.getElem?_toArray, List.getElem?_cons_succ, List.getElem?_cons_zero]; rfl)
  · first | exact fun _ _ _ h => h | exact fun _ _ _ h => nomatch h.1
  · rfl
  · (intro W hSW; (try dsimp only at hSW); go_split_ands; first | (go_simp; done) | (go_simp; with_reducible rfl))
  try simp only [Act.put, List.setIfInBounds_toArray, List.set_cons_zero, List.set_cons_succ]
  refine' wpAnyH_take (i := 12) (oi := _) (v := _) ?_ (by kernel_rfl) (by kernel_rfl) (by kernel_rfl) ?_ (Or.inl ⟨?_, ?_⟩) (by assumption) ?_
  rotate_left 2
  · (simp only [List.getElem?_toArray, List.getElem?_cons_succ, List.getElem?_cons_zero]; rfl)
  · first | exact fun _ _ _ h => h | exact fun _ _ _ h => nomatch h.1
  · rfl
  · (intro W hSW; (try dsimp only at hSW); go_split_ands; first | (go_simp; done) | (go_simp; with_reducible rfl))
  try simp only [Act.put, List.setIfInBounds_toArray, List.set_cons_zero, List.set_cons_succ]
  refine' wpAnyH_take (i := 13) (oi := _) (v := _) ?_ (by kernel_rfl) (by kernel_rfl) (by kernel_rfl) ?_ (Or.inl ⟨?_, ?_⟩) (by assumption) ?_
  rotate_left 2
  · (simp only [List.getElem?_toArray, List.getElem?_cons_succ, List.getElem?_cons_zero]; rfl)
  · first | exact fun _ _ _ h => h | exact fun _ _ _ h => nomatch h.1
  · rfl
  · (intro W hSW; (try dsimp only at hSW); go_split_ands; first | (go_simp; done) | (go_simp; with_reducible rfl))
  try simp only [Act.put, List.setIfInBounds_toArray, List.set_cons_zero, List.set_cons_succ]
  refine' wpAnyH_take (i := 14) (oi := _) (v := _) ?_ (by kernel_rfl) (by kernel_rfl) (by kernel_rfl) ?_ (Or.inl ⟨?_, ?_⟩) (by assumption) ?_
  rotate_left 2
  · (simp only [List.getElem?_toArray, List.getElem?_cons_succ, List.getElem?_cons_zero]; rfl)
  · first | exact fun _ _ _ h => h | exact fun _ _ _ h => nomatch h.1
  · rfl
  · (intro W hSW; (try dsimp only at hSW); go_split_ands; first | (go_simp; done) | (go_simp; with_reducible rfl))
  try simp only [Act.put, List.setIfInBounds_toArray, List.set_cons_zero, List.set_cons_succ]
  refine' wpAnyH_take (i := 15) (oi := _) (v := _) ?_ (by kernel_rfl) (by kernel_rfl) (by kernel_rfl) ?_ (Or.inl ⟨?_, ?_⟩) (by assumption) ?_
  rotate_left 2
  · (simp only [List.getElem?_toArray, List.getElem?_cons_succ, List.getElem?_cons_zero]; rfl)
  · first | exact fun _ _ _ h => h | exact fun _ _ _ h => nomatch h.1
  · rfl
  · (intro W hSW; (try dsimp only at hSW); go_split_ands; first | (go_simp; done) | (go_simp; with_reducible rfl))
  try simp only [Act.put, List.setIfInBounds_toArray, List.set_cons_zero, List.set_cons_succ]
  refine' wpAnyH_take (i := 16) (oi := _) (v := _) ?_ (by kernel_rfl) (by kernel_rfl) (by kernel_rfl) ?_ (Or.inl ⟨?_, ?_⟩) (by assumption) ?_
  rotate_left 2
  · (simp only [List.getElem?_toArray, List.getElem?_cons_succ, List.getElem?_cons_zero]; rfl)
  · first | exact fun _ _ _ h => h | exact fun _ _ _ h => nomatch h.1
  · rfl
  · (intro W hSW; (try dsimp only at hSW); go_split_ands; first | (go_simp; done) | (go_simp; with_reducible rfl))
  try simp only [Act.put, List.setIfInBounds_toArray, List.set_cons_zero, List.set_cons_succ]
  refine' wpAnyH_take (i := 17) (oi := _) (v := _) ?_ (by kernel_rfl) (by kernel_rfl) (by kernel_rfl) ?_ (Or.inl ⟨?_, ?_⟩) (by assumption) ?_
  rotate_left 2
  · (simp only [List.getElem?_toArray, List.getElem?_cons_succ, List.getElem?_cons_zero]; rfl)
  · first | exact fun _ _ _ h => h | exact fun _ _ _ h => nomatch h.1
  · rfl
  · (intro W hSW; (try dsimp only at hSW); go_split_ands; first | (go_simp; done) | (go_simp; with_reducible rfl))
  try simp only [Act.put, List.setIfInBounds_toArray, List.set_cons_zero, List.set_cons_succ]
  refine' wpAnyH_take (i := 18) (oi := _) (v := _) ?_ (by kernel_rfl) (by kernel_rfl) (by kernel_rfl) ?_ (Or.inl ⟨?_, ?_⟩) (by assumption) ?_
  rotate_left 2
  · (simp only [List.getElem?_toArray, List.getElem?_cons_succ, List.getElem?_cons_zero]; rfl)
  · first | exact fun _ _ _ h => h | exact fun _ _ _ h => nomatch h.1
  · rfl
  · (intro W hSW; (try dsimp only at hSW); go_split_ands; first | (go_simp; done) | (go_simp; with_reducible rfl))
  try simp only [Act.put, List.setIfInBounds_toArray, List.set_cons_zero, List.set_cons_succ]
  refine' wpAnyH_take (i := 19) (oi := _) (v := _) ?_ (by kernel_rfl) (by kernel_rfl) (by kernel_rfl) ?_ (Or.inl ⟨?_, ?_⟩) (by assumption) ?_
  rotate_left 2
  · (simp only [List.getElem?_toArray, List.getElem?_cons_succ, List.getElem?_cons_zero]; rfl)
  · first | exact fun _ _ _ h => h | exact fun _ _ _ h => nomatch h.1
  · rfl
  · (intro W hSW; (try dsimp only at hSW); go_split_ands; first | (go_simp; done) | (go_simp; with_reducible rfl))
  try simp only [Act.put, List.setIfInBounds_toArray, List.set_cons_zero, List.set_cons_succ]
  refine' wpAnyH_take (i := 20) (oi := _) (v := _) ?_ (by kernel_rfl) (by kernel_rfl) (by kernel_rfl) ?_ (Or.inl ⟨?_, ?_⟩) (by assumption) ?_
  rotate_left 2
  · (simp only [List.getElem?_toArray, List.getElem?_cons_succ, List.getElem?_cons_zero]; rfl)
  · first | exact fun _ _ _ h => h | exact fun _ _ _ h => nomatch h.1
  · rfl
  · (intro W hSW; (try dsimp only at hSW); go_split_ands; first | (go_simp; done) | (go_simp; with_reducible rfl))
  try simp only [Act.put, List.setIfInBounds_toArray, List.set_cons_zero, List.set_cons_succ]
  refine' wpAnyH_take (i := 21) (oi := _) (v := _) ?_ (by kernel_rfl) (by kernel_rfl) (by kernel_rfl) ?_ (Or.inl ⟨?_, ?_⟩) (by assumption) ?_
  rotate_left 2
  · (simp only [List.getElem?_toArray, List.getElem?_cons_succ, List.getElem?_cons_zero]; rfl)
  · first | exact fun _ _ _ h => h | exact fun _ _ _ h => nomatch h.1
  · rfl
  · (intro W hSW; (try dsimp only at hSW); go_split_ands; first | (go_simp; done) | (go_simp; with_reducible rfl))
  try simp only [Act.put, List.setIfInBounds_toArray, List.set_cons_zero, List.set_cons_succ]
  refine' wpAnyH_take (i := 22) (oi := _) (v := _) ?_ (by kernel_rfl) (by kernel_rfl) (by kernel_rfl) ?_ (Or.inl ⟨?_, ?_⟩) (by assumption) ?_
  rotate_left 2
  · (simp only [List.getElem?_toArray, List.getElem?_cons_succ, List.getElem?_cons_zero]; rfl)
  · first | exact fun _ _ _ h => h | exact fun _ _ _ h => nomatch h.1
  · rfl
  · (intro W hSW; (try dsimp only at hSW); go_split_ands; first | (go_simp; done) | (go_simp; with_reducible rfl))
  try simp only [Act.put, List.setIfInBounds_toArray, List.set_cons_zero, List.set_cons_succ]
  refine' wpAnyH_take (i := 23) (oi := _) (v := _) ?_ (by kernel_rfl) (by kernel_rfl) (by kernel_rfl) ?_ (Or.inl ⟨?_, ?_⟩) (by assumption) ?_
  rotate_left 2
  · (simp only [List.getElem?_toArray, List.getElem?_cons_succ, List.getElem?_cons_zero]; rfl)
  · first | exact fun _ _ _ h => h | exact fun _ _ _ h => nomatch h.1
  · rfl
  · (intro W hSW; (try dsimp only at hSW); go_split_ands; first | (go_simp; done) | (go_simp; with_reducible rfl))
  try simp only [Act.put, List.setIfInBounds_toArray, List.set_cons_zero, List.set_cons_succ]
  clear hHeld
  refine wpAnyH_done (by kernel_rfl) ?_ _
  have yp := rp.cell
  have zp := rp.lt
  have y1 := r1.cell
  have z1 := r1.lt
  go_wp2_with fail
  clear yp zp y1 z1
  have hL := HH.out.on hc
  have hown := hL.own
  have hbut := but_of G hc
  rw [HN.out] at hown
  refine wp_region_held_drew (S := fun W' => (∀ j, W'.cell? ⟨bx, j, none⟩ = (atC a)[j]?)) (by kernel_rfl) r1.cell (fun hHeld => ?_)
  replace rp := rp.drew
  replace r1 := r1.drew
  replace hc := hc.drew
  replace hbut := hbut.drew
  replace hown : OwnsA 0 V3.drew _ l := hown
  clear hL
  generalize V3.drew = X0 at *
  refine' wpAnyH_take (i := 0) (oi := _) (v := _) ?_ (by kernel_rfl) (by kernel_rfl) (by kernel_rfl) ?_ (Or.inl ⟨?_, ?_⟩) (by assumption) ?_
  rotate_left 2
  · (simp only [List.getElem?_toArray, List.getElem?_cons_succ, List.getElem?_cons_zero]; rfl)
  · first | exact fun _ _ _ h => h | exact fun _ _ _ h => nomatch h.1
  · rfl
  · (intro W hSW; (try dsimp only at hSW); go_split_ands; first | (go_simp; done) | (go_simp; with_reducible rfl))
  try simp only [Act.put, List.setIfInBounds_toArray, List.set_cons_zero, List.set_cons_succ]
  refine' wpAnyH_take (i := 1) (oi := _) (v := _) ?_ (by kernel_rfl) (by kernel_rfl) (by kernel_rfl) ?_ (Or.inl ⟨?_, ?_⟩) (by assumption) ?_
  rotate_left 2
  · (simp only [List.getElem?_toArray, List.getElem?_cons_succ, List.getElem?_cons_zero]; rfl)
  · first | exact fun _ _ _ h => h | exact fun _ _ _ h => nomatch h.1
  · rfl
  · (intro W hSW; (try dsimp only at hSW); go_split_ands; first | (go_simp; done) | (go_simp; with_reducible rfl))
  try simp only [Act.put, List.setIfInBounds_toArray, List.set_cons_zero, List.set_cons_succ]
  refine' wpAnyH_take (i := 2) (oi := _) (v := _) ?_ (by kernel_rfl) (by kernel_rfl) (by kernel_rfl) ?_ (Or.inl ⟨?_, ?_⟩) (by assumption) ?_
  rotate_left 2
  · (simp only [List.getElem?_toArray, List.getElem?_cons_succ, List.getElem?_cons_zero]; rfl)
  · first | exact fun _ _ _ h => h | exact fun _ _ _ h => nomatch h.1
  · rfl
  · (intro W hSW; (try dsimp only at hSW); go_split_ands; first | (go_simp; done) | (go_simp; with_reducible rfl))
  try simp only [Act.put, List.setIfInBounds_toArray, List.set_cons_zero, List.set_cons_succ]
  refine' wpAnyH_take (i := 3) (oi := _) (v := _) ?_ (by kernel_rfl) (by kernel_rfl) (by kernel_rfl) ?_ (Or.inl ⟨?_, ?_⟩) (by assumption) ?_
  rotate_left 2
  · (simp only [List.getElem?_toArray, List.getElem?_cons_succ, List.getElem?_cons_zero]; rfl)
  · first | exact fun _ _ _ h => h | exact fun _ _ _ h => nomatch h.1
  · rfl
  · (intro W hSW; (try dsimp only at hSW); go_split_ands; first | (go_simp; done) | (go_simp; with_reducible rfl))
  try simp only [Act.put, List.setIfInBounds_toArray, List.set_cons_zero, List.set_cons_succ]
  refine' wpAnyH_take (i := 5) (oi := _) (v := _) ?_ (by kernel_rfl) (by kernel_rfl) (by kernel_rfl) ?_ (Or.inl ⟨?_, ?_⟩) (by assumption) ?_
  rotate_left 2
  · (simp only [List.getElem?_toArray, List.getElem?_cons_succ, List.getElem?_cons_zero]; rfl)
  · first | exact fun _ _ _ h => h | exact fun _ _ _ h => nomatch h.1
  · rfl
  · (intro W hSW; (try dsimp only at hSW); go_split_ands; first | (go_simp; done) | (go_simp; with_reducible rfl))
  try simp only [Act.put, List.setIfInBounds_toArray, List.set_cons_zero, List.set_cons_succ]
  clear hHeld
  refine wpAnyH_ready (rs := [4, 6]) (by kernel_rfl) (by simp) ?_
  refine' AllReadyH.cons (o := _) (by simp only [List.getElem?_toArray, List.getElem?_cons_succ, List.getElem?_cons_zero]; rfl) (fun K hK => ?_) (AllReadyH.cons (o := _) (by simp only [List.getElem?_toArray, List.getElem?_cons_succ, List.getElem?_cons_zero]; rfl) (fun K hK => ?_) AllReadyH.nil)
  · have yp := rp.cell
    have zp := rp.lt
    go_simp
    clear yp zp
    refine hK.out _ _ r1.cell (fun hHeld => ?_)
    clear hK K hHeld
    refine wpAnyH_ready (rs := [6]) (by kernel_rfl) (by simp) ?_
    refine' AllReadyH.cons (o := _) ?_ (fun K hK => ?_) AllReadyH.nil
    rotate_left 1
    · (simp only [List.getElem?_toArray, List.getElem?_cons_succ, List.getElem?_cons_zero]; rfl)
    go_simp
    have hn := below_alloc X0 (.cells (atC a) 43)
    have hsrc := at_src X0 a
    have ra := Row.new (W := X0) (cs := atC a) (t := 43)
    have hnewA : w.heap.size ≤ X0.heap.size := hc.size
    replace rp := rp.on hn
    replace r1 := r1.on hn
    replace hown := hown.on hn
    replace hc := chain hc hn
    replace hbut := hbut.on hn
    clear hn
    generalize X0.alloc (.cells (atC a) 43) = X1 at *
    generalize X0.heap.size = a2 at *
    have hX1 := hc.size
    refine hK.out _ _ r1.cell (fun hHeld => ?_)
    clear hK K hHeld
    refine wpAnyH_ready (rs := [7]) (by kernel_rfl) (by simp) ?_
    refine' AllReadyH.cons (o := _) (by simp only [List.getElem?_toArray, List.getElem?_cons_succ, List.getElem?_cons_zero]; rfl) (fun K hK => ?_) AllReadyH.nil
    refine step_append_lies _ rfl (.tmp 45) (.tmp 47) 26 rfl 0 43 i0 (.agg #[.int .i64 0, .int .i64 0, .int .i64 0, .int .u32 0, .int .i64 0, .int .i64 0]) 6 48 Tryz.underlying26 HI0.out HZ0.out HZ1.out HZ2.out rfl (by decide) (.slice (some ⟨g, 0, none⟩) (N + 1) c0) (N + 1) (cellsA l) rfl (by have h9 := hown; unfold OwnsA at h9; rw [HN.out] at h9; exact h9) ⟨a2, 0, none⟩ 1 1 (atL a) rfl rfl hsrc (by intro u hu; simp at hu; rcases hu with rfl | rfl | rfl | rfl | rfl | rfl <;> rfl) (by omega) (by unfold maxLen; have := HN2.out; omega) (by have := HN2.out; omega) (Nat.zero_le _) _ rfl ?_
    intro g1 cap X2 hown2 hgrow hat hlt2
    have hvp : ((.slice (some ⟨g, 0, none⟩) (N + 1) c0) : Value).ownBlock ≠ some p := ownA_ne_row hown rp (by decide)
    have hvb : ((.slice (some ⟨g, 0, none⟩) (N + 1) c0) : Value).ownBlock ≠ some bx := fun e => by have := (HH.out.own.lt bx e).2; omega
    replace rp := row_grown rp hgrow hvp
    replace r1 := row_grown r1 hgrow hvb
    replace hbut := hbut.grown hgrow (fun k hk _ => HH.out.gv k hk)
    replace hown2 : OwnsA 0 X2 (.slice (some ⟨g1, 0, none⟩) ((N + 1) + 1) cap) (l ++ [a]) := by
      unfold OwnsA
      rw [cellsA_snoc, List.length_append, List.length_singleton, HN.out]
      exact hown2
    refine hK.out _ _ r1.cell (fun hHeld => ?_)
    clear hK K hsrc hown ra
    refine' wpAnyH_take (i := 8) (oi := _) (v := _) ?_ (by kernel_rfl) (by kernel_rfl) (by kernel_rfl) ?_ (Or.inl ⟨?_, ?_⟩) (by assumption) ?_
    rotate_left 2
    · (simp only [List.getElem?_toArray, List.getElem?_cons_succ, List.getElem?_cons_zero]; rfl)
    · first | exact fun _ _ _ h => h | exact fun _ _ _ h => nomatch h.1
    · rfl
    · (intro W hSW; (try dsimp only at hSW); go_split_ands; first | (go_simp; done) | (go_simp; with_reducible rfl))
    try simp only [Act.put, List.setIfInBounds_toArray, List.set_cons_zero, List.set_cons_succ]
    refine' wpAnyH_take (i := 9) (oi := _) (v := _) ?_ (by kernel_rfl) (by kernel_rfl) (by kernel_rfl) ?_ (Or.inl ⟨?_, ?_⟩) (by assumption) ?_
    rotate_left 2
    · (simp only [List.getElem?_toArray, List.getElem?_cons_succ, List.getElem?_cons_zero]; rfl)
    · first | exact fun _ _ _ h => h | exact fun _ _ _ h => nomatch h.1
    · rfl
    · (intro W hSW; (try dsimp only at hSW); go_split_ands; first | (go_simp; done) | (go_simp; with_reducible rfl))
    try simp only [Act.put, List.setIfInBounds_toArray, List.set_cons_zero, List.set_cons_succ]
    clear hHeld
    have yp := rp.cell
    have zp := rp.lt
    have up := rp.free
    refine wpAnyH_ready (rs := [10]) (by kernel_rfl) (by simp) ?_
    refine' AllReadyH.cons (o := _) ?_ (fun K hK => ?_) AllReadyH.nil
    rotate_left 1
    · (simp only [List.getElem?_toArray, List.getElem?_cons_succ, List.getElem?_cons_zero]; rfl)
    go_simp
    clear yp zp up
    have hpb : p ≠ bx := row_ne_row rp r1 (by decide)
    replace r1 := r1.other hpb 1 (.slice (some ⟨g1, 0, none⟩) ((N + 1) + 1) cap)
    replace hown2 := ownA_setCell hown2 (ownA_ne_row hown2 rp (by decide)) 1 (.slice (some ⟨g1, 0, none⟩) ((N + 1) + 1) cap)
    replace hbut := hbut.setCell (y := p) HH.out.gq 1 (.slice (some ⟨g1, 0, none⟩) ((N + 1) + 1) cap)
    replace rp := rp.set 1 (.slice (some ⟨g1, 0, none⟩) ((N + 1) + 1) cap)
    simp only [List.setIfInBounds_toArray, List.set_cons_zero, List.set_cons_succ] at rp
    generalize hW : World.setCell _ _ _ = X3 at *
    clear hW
    refine hK.out _ _ r1.cell (fun hHeld => ?_)
    clear hK K hHeld
    refine wpAnyH_done (by kernel_rfl) ?_ _
    have yp := rp.cell
    have zp := rp.lt
    go_wp2_with fail
    go_returns
    have hat2 : (Value.ownBlock (.slice (some ⟨g, 0, none⟩) (N + 1) c0) = some g1) ∨ w.heap.size ≤ g1 := by exact hat.imp id (fun h1 => by omega)
    refine ⟨rfl, ⟨_, rp, hown2, .inl HH.out.gq, fun b hb => ?_, fun b hb => ?_, by rw [List.length_append, List.length_singleton, HN.out]; have := HN2.out; omega⟩, hbut⟩
    · obtain rfl : g1 = b := Option.some.inj hb
      rcases hat2 with h1 | h1
      · exact .inl (HH.out.gv _ (by exact h1))
      · exact .inr ⟨h1, (hown2.lt g1 rfl).2⟩
    · rcases hb with h1 | h1
      · exact Nat.lt_of_lt_of_le (HH.out.fin b h1) hbut.size
      · exact h1.2
  · go_simp
    have hn := below_alloc X0 (.cells (atC a) 43)
    have hsrc := at_src X0 a
    have ra := Row.new (W := X0) (cs := atC a) (t := 43)
    have hnewA : w.heap.size ≤ X0.heap.size := hc.size
    replace rp := rp.on hn
    replace r1 := r1.on hn
    replace hown := hown.on hn
    replace hc := chain hc hn
    replace hbut := hbut.on hn
    clear hn
    generalize X0.alloc (.cells (atC a) 43) = X1 at *
    generalize X0.heap.size = a2 at *
    have hX1 := hc.size
    refine hK.out _ _ r1.cell (fun hHeld => ?_)
    clear hK K hHeld
    have yp := rp.cell
    have zp := rp.lt
    refine wpAnyH_ready (rs := [4]) (by kernel_rfl) (by simp) ?_
    refine' AllReadyH.cons (o := _) ?_ (fun K hK => ?_) AllReadyH.nil
    rotate_left 1
    · (simp only [List.getElem?_toArray, List.getElem?_cons_succ, List.getElem?_cons_zero]; rfl)
    go_simp
    clear yp zp
    refine hK.out _ _ r1.cell (fun hHeld => ?_)
    clear hK K hHeld
    refine wpAnyH_ready (rs := [7]) (by kernel_rfl) (by simp) ?_
    refine' AllReadyH.cons (o := _) (by simp only [List.getElem?_toArray, List.getElem?_cons_succ, List.getElem?_cons_zero]; rfl) (fun K hK => ?_) AllReadyH.nil
    refine step_append_lies _ rfl (.tmp 45) (.tmp 47) 26 rfl 0 43 i0 (.agg #[.int .i64 0, .int .i64 0, .int .i64 0, .int .u32 0, .int .i64 0, .int .i64 0]) 6 48 Tryz.underlying26 HI0.out HZ0.out HZ1.out HZ2.out rfl (by decide) (.slice (some ⟨g, 0, none⟩) (N + 1) c0) (N + 1) (cellsA l) rfl (by have h9 := hown; unfold OwnsA at h9; rw [HN.out] at h9; exact h9) ⟨a2, 0, none⟩ 1 1 (atL a) rfl rfl hsrc (by intro u hu; simp at hu; rcases hu with rfl | rfl | rfl | rfl | rfl | rfl <;> rfl) (by omega) (by unfold maxLen; have := HN2.out; omega) (by have := HN2.out; omega) (Nat.zero_le _) _ rfl ?_
    intro g1 cap X2 hown2 hgrow hat hlt2
    have hvp : ((.slice (some ⟨g, 0, none⟩) (N + 1) c0) : Value).ownBlock ≠ some p := ownA_ne_row hown rp (by decide)
    have hvb : ((.slice (some ⟨g, 0, none⟩) (N + 1) c0) : Value).ownBlock ≠ some bx := fun e => by have := (HH.out.own.lt bx e).2; omega
    replace rp := row_grown rp hgrow hvp
    replace r1 := row_grown r1 hgrow hvb
    replace hbut := hbut.grown hgrow (fun k hk _ => HH.out.gv k hk)
    replace hown2 : OwnsA 0 X2 (.slice (some ⟨g1, 0, none⟩) ((N + 1) + 1) cap) (l ++ [a]) := by
      unfold OwnsA
      rw [cellsA_snoc, List.length_append, List.length_singleton, HN.out]
      exact hown2
    refine hK.out _ _ r1.cell (fun hHeld => ?_)
    clear hK K hsrc hown ra
    refine' wpAnyH_take (i := 8) (oi := _) (v := _) ?_ (by kernel_rfl) (by kernel_rfl) (by kernel_rfl) ?_ (Or.inl ⟨?_, ?_⟩) (by assumption) ?_
    rotate_left 2
    · (simp only [List.getElem?_toArray, List.getElem?_cons_succ, List.getElem?_cons_zero]; rfl)
    · first | exact fun _ _ _ h => h | exact fun _ _ _ h => nomatch h.1
    · rfl
    · (intro W hSW; (try dsimp only at hSW); go_split_ands; first | (go_simp; done) | (go_simp; with_reducible rfl))
    try simp only [Act.put, List.setIfInBounds_toArray, List.set_cons_zero, List.set_cons_succ]
    refine' wpAnyH_take (i := 9) (oi := _) (v := _) ?_ (by kernel_rfl) (by kernel_rfl) (by kernel_rfl) ?_ (Or.inl ⟨?_, ?_⟩) (by assumption) ?_
    rotate_left 2
    · (simp only [List.getElem?_toArray, List.getElem?_cons_succ, List.getElem?_cons_zero]; rfl)
    · first | exact fun _ _ _ h => h | exact fun _ _ _ h => nomatch h.1
    · rfl
    · (intro W hSW; (try dsimp only at hSW); go_split_ands; first | (go_simp; done) | (go_simp; with_reducible rfl))
    try simp only [Act.put, List.setIfInBounds_toArray, List.set_cons_zero, List.set_cons_succ]
    clear hHeld
    have yp := rp.cell
    have zp := rp.lt
    have up := rp.free
    refine wpAnyH_ready (rs := [10]) (by kernel_rfl) (by simp) ?_
    refine' AllReadyH.cons (o := _) ?_ (fun K hK => ?_) AllReadyH.nil
    rotate_left 1
    · (simp only [List.getElem?_toArray, List.getElem?_cons_succ, List.getElem?_cons_zero]; rfl)
    go_simp
    clear yp zp up
    have hpb : p ≠ bx := row_ne_row rp r1 (by decide)
    replace r1 := r1.other hpb 1 (.slice (some ⟨g1, 0, none⟩) ((N + 1) + 1) cap)
    replace hown2 := ownA_setCell hown2 (ownA_ne_row hown2 rp (by decide)) 1 (.slice (some ⟨g1, 0, none⟩) ((N + 1) + 1) cap)
    replace hbut := hbut.setCell (y := p) HH.out.gq 1 (.slice (some ⟨g1, 0, none⟩) ((N + 1) + 1) cap)
    replace rp := rp.set 1 (.slice (some ⟨g1, 0, none⟩) ((N + 1) + 1) cap)
    simp only [List.setIfInBounds_toArray, List.set_cons_zero, List.set_cons_succ] at rp
    generalize hW : World.setCell _ _ _ = X3 at *
    clear hW
    refine hK.out _ _ r1.cell (fun hHeld => ?_)
    clear hK K hHeld
    refine wpAnyH_done (by kernel_rfl) ?_ _
    have yp := rp.cell
    have zp := rp.lt
    go_wp2_with fail
    go_returns
    have hat2 : (Value.ownBlock (.slice (some ⟨g, 0, none⟩) (N + 1) c0) = some g1) ∨ w.heap.size ≤ g1 := by exact hat.imp id (fun h1 => by omega)
    refine ⟨rfl, ⟨_, rp, hown2, .inl HH.out.gq, fun b hb => ?_, fun b hb => ?_, by rw [List.length_append, List.length_singleton, HN.out]; have := HN2.out; omega⟩, hbut⟩
    · obtain rfl : g1 = b := Option.some.inj hb
      rcases hat2 with h1 | h1
      · exact .inl (HH.out.gv _ (by exact h1))
      · exact .inr ⟨h1, (hown2.lt g1 rfl).2⟩
    · rcases hb with h1 | h1
      · exact Nat.lt_of_lt_of_le (HH.out.fin b h1) hbut.size
      · exact h1.2
theorem radd_ok0 {G : Nat → Prop} {p : Nat} {l : List AtR} {v : Value} (a : AtR) (hg : gIn a) (w : World) (h : RLedIs w G p l v) (hk : aOk a = true) (hl0 : l = []) :
    Calls Tryz.prog 38 #[ledP p, atV a] w fun e w' => e = .returned (.int .i64 0) ∧ RLed w' (fun b => G b ∨ FreshL w w' b) p (l ++ [a]) ∧ But G w w' := by
  have HK := Lib.hid hk
  obtain ⟨i0, hi, hz0, hz1, hz2⟩ := info_parts at_info
  have HI0 := Lib.hid hi
  have HZ0 := Lib.hid hz0
  have HZ1 := Lib.hid hz1
  have HZ2 := Lib.hid hz2
  clear hi hz0 hz1 hz2
  have HH := Lib.hid h
  obtain ⟨a0, c0, hv0⟩ := h.own.holds.len
  subst hv0
  have cc := fun W => rcheck_a a hg W
  rw [aErr_ok hk] at cc
  have CC := Lib.hid cc
  have rp := h.row
  have hlen0 : l.length = 0 := by rw [hl0]; rfl
  rw [hlen0] at rp
  have h2 := h
  rw [hlen0] at h2
  clear HH
  have HH := Lib.hid h2
  clear h2
  have HN := Lib.hid hlen0
  clear hlen0 hl0
  clear hk
  clear cc h
  go_enter Tryz.func38, Tryz.ntmps38
  go_upto_region 1 with fail
  have hb := below_alloc w (.cells (atC a) 43)
  have r1 := Row.new (W := w) (cs := atC a) (t := 43)
  replace rp := rp.on hb
  have hc := hb
  clear hb
  generalize w.alloc (.cells (atC a) 43) = V at *
  generalize hbx : w.heap.size = bx at r1 ⊢
  have yp := rp.cell
  have zp := rp.lt
  have y1 := r1.cell
  have z1 := r1.lt
  go_wp2_with fail
  refine Calls.mono (rvalid_c rp) ?_
  rintro e V1 ⟨rfl, hW⟩
  subst hW
  go_wp2_with fail
  refine Calls.mono (CC.out _) ?_
  rintro e V2 ⟨rfl, hn⟩
  clear yp zp y1 z1 CC
  replace rp := rp.on hn
  replace r1 := r1.on hn
  replace hc := chain hc hn
  clear hn
  have yp := rp.cell
  have zp := rp.lt
  have y1 := r1.cell
  have z1 := r1.lt
  go_upto_region 5 with fail
  clear yp zp y1 z1
  refine wp_region_held_drew (S := fun W' => (∀ j, W'.cell? ⟨p, j, none⟩ = (#[.bool true, .slice a0 0 c0] : Array Value)[j]?) ∧ (∀ j, W'.cell? ⟨bx, j, none⟩ = (atC a)[j]?)) (by kernel_rfl) ⟨rp.cell, r1.cell⟩ (fun hHeld => ?_)
  replace rp := rp.drew
  replace r1 := r1.drew
  replace hc := hc.drew
  generalize V2.drew = V3 at *
  refine' wpAnyH_take (i := 0) (oi := _) (v := _) ?_ (by kernel_rfl) (by kernel_rfl) (by kernel_rfl) ?_ (Or.inl ⟨?_, ?_⟩) (by assumption) ?_
  rotate_left 2
  · (simp only [List.getElem?_toArray, List.getElem?_cons_succ, List.getElem?_cons_zero]; rfl)
  · first | exact fun _ _ _ h => h | exact fun _ _ _ h => nomatch h.1
  · rfl
  · (intro W hSW; (try dsimp only at hSW); go_split_ands; first | (go_simp; done) | (go_simp; with_reducible rfl))
  try simp only [Act.put, List.setIfInBounds_toArray, List.set_cons_zero, List.set_cons_succ]
  refine' wpAnyH_take (i := 1) (oi := _) (v := _) ?_ (by kernel_rfl) (by kernel_rfl) (by kernel_rfl) ?_ (Or.inl ⟨?_, ?_⟩) (by assumption) ?_
  rotate_left 2
  · (simp only [List.getElem?_toArray, List.getElem?_cons_succ, List.getElem?_cons_zero]; rfl)
  · first | exact fun _ _ _ h => h | exact fun _ _ _ h => nomatch h.1
  · rfl
  · (intro W hSW; (try dsimp only at hSW); go_split_ands; first | (go_simp; done) | (go_simp; with_reducible rfl))
  try simp only [Act.put, List.setIfInBounds_toArray, List.set_cons_zero, List.set_cons_succ]
  refine' wpAnyH_take (i := 2) (oi := _) (v := _) ?_ (by kernel_rfl) (by kernel_rfl) (by kernel_rfl) ?_ (Or.inl ⟨?_, ?_⟩) (by assumption) ?_
  rotate_left 2
  · (simp only [List.getElem?_toArray, List.getElem?_cons_succ, List.getElem?_cons_zero]; rfl)
  · first | exact fun _ _ _ h => h | exact fun _ _ _ h => nomatch h.1
  · rfl
  · (intro W hSW; (try dsimp only at hSW); go_split_ands; first | (go_simp; done) | (go_simp; with_reducible rfl))
  try simp only [Act.put, List.setIfInBounds_toArray, List.set_cons_zero, List.set_cons_succ]
  refine' wpAnyH_take (i := 3) (oi := _) (v := _) ?_ (by kernel_rfl) (by kernel_rfl) (by kernel_rfl) ?_ (Or.inl ⟨?_, ?_⟩) (by assumption) ?_
  rotate_left 2
  · (simp only [List.getElem?_toArray, List.getElem?_cons_succ, List.getElem?_cons_zero]; rfl)
  · first | exact fun _ _ _ h => h | exact fun _ _ _ h => nomatch h.1
  · rfl
  · (intro W hSW; (try dsimp only at hSW); go_split_ands; first | (go_simp; done) | (go_simp; with_reducible rfl))
  try simp only [Act.put, List.setIfInBounds_toArray, List.set_cons_zero, List.set_cons_succ]
  refine' wpAnyH_take (i := 4) (oi := _) (v := _) ?_ (by kernel_rfl) (by kernel_rfl) (by kernel_rfl) ?_ (Or.inl ⟨?_, ?_⟩) (by assumption) ?_
  rotate_left 2
  · (simp only [List.getElem?_toArray, List.getElem?_cons_succ, List.getElem?_cons_zero]; rfl)
  · first | exact fun _ _ _ h => h | exact fun _ _ _ h => nomatch h.1
  · rfl
  · (intro W hSW; (try dsimp only at hSW); go_split_ands; first | (go_simp; done) | (go_simp; with_reducible rfl))
  try simp only [Act.put, List.setIfInBounds_toArray, List.set_cons_zero, List.set_cons_succ]
  refine' wpAnyH_take (i := 5) (oi := _) (v := _) ?_ (by kernel_rfl) (by kernel_rfl) (by kernel_rfl) ?_ (Or.inl ⟨?_, ?_⟩) (by assumption) ?_
  rotate_left 2
  · (simp only [List.getElem?_toArray, List.getElem?_cons_succ, List.getElem?_cons_zero]; rfl)
  · first | exact fun _ _ _ h => h | exact fun _ _ _ h => nomatch h.1
  · rfl
  · (intro W hSW; (try dsimp only at hSW); go_split_ands; first | (go_simp; done) | (go_simp; with_reducible rfl))
  try simp only [Act.put, List.setIfInBounds_toArray, List.set_cons_zero, List.set_cons_succ]
  refine' wpAnyH_take (i := 6) (oi := _) (v := _) ?_ (by kernel_rfl) (by kernel_rfl) (by kernel_rfl) ?_ (Or.inl ⟨?_, ?_⟩) (by assumption) ?_
  rotate_left 2
  · (simp only [List.getElem?_toArray, List.getElem?_cons_succ, List.getElem?_cons_zero]; rfl)
  · first | exact fun _ _ _ h => h | exact fun _ _ _ h => nomatch h.1
  · rfl
  · (intro W hSW; (try dsimp only at hSW); go_split_ands; first | (go_simp; done) | (go_simp; with_reducible rfl))
  try simp only [Act.put, List.setIfInBounds_toArray, List.set_cons_zero, List.set_cons_succ]
  refine' wpAnyH_take (i := 7) (oi := _) (v := _) ?_ (by kernel_rfl) (by kernel_rfl) (by kernel_rfl) ?_ (Or.inr ⟨?_, rfl⟩) (by assumption) ?_
  rotate_left 1
  · (simp only [List.getElem?_toArray, List.getElem?_cons_succ, List.getElem?_cons_zero]; rfl)
  · first | exact fun _ _ _ h => h | exact fun _ _ _ h => nomatch h.1
  · rfl
  try simp only [Act.put, List.setIfInBounds_toArray, List.set_cons_zero, List.set_cons_succ]
  refine' wpAnyH_take (i := 8) (oi := _) (v := _) ?_ (by kernel_rfl) (by kernel_rfl) (by kernel_rfl) ?_ (Or.inr ⟨?_, rfl⟩) (by assumption) ?_
  rotate_left 1
  · (simp only [List.getElem?_toArray, List.getElem?_cons_succ, List.getElem?_cons_zero]; rfl)
  · first | exact fun _ _ _ h => h | exact fun _ _ _ h => nomatch h.1
  · rfl
  try simp only [Act.put, List.setIfInBounds_toArray, List.set_cons_zero, List.set_cons_succ]
  refine' wpAnyH_take (i := 9) (oi := _) (v := _) ?_ (by kernel_rfl) (by kernel_rfl) (by kernel_rfl) ?_ (Or.inr ⟨?_, rfl⟩) (by assumption) ?_
  rotate_left 1
  · (simp only [List.getElem?_toArray, List.getElem?_cons_succ, List.getElem?_cons_zero]; rfl)
  · first | exact fun _ _ _ h => h | exact fun _ _ _ h => nomatch h.1
  · rfl
  try simp only [Act.put, List.setIfInBounds_toArray, List.set_cons_zero, List.set_cons_succ]
  refine' wpAnyH_take (i := 10) (oi := _) (v := _) ?_ (by kernel_rfl) (by kernel_rfl) (by kernel_rfl) ?_ (Or.inr ⟨?_, rfl⟩) (by assumption) ?_
  rotate_left 1
  · (simp only [List.getElem?_toArray, List.getElem?_cons_succ, List.getElem?_cons_zero]; rfl)
  · first | exact fun _ _ _ h => h | exact fun _ _ _ h => nomatch h.1
  · rfl
  try simp only [Act.put, List.setIfInBounds_toArray, List.set_cons_zero, List.set_cons_succ]
  refine' wpAnyH_take (i := 11) (oi := _) (v := _) ?_ (by kernel_rfl) (by kernel_rfl) (by kernel_rfl) ?_ (Or.inr ⟨?_, rfl⟩) (by assumption) ?_
  rotate_left 1
  · (simp only [List.getElem?_toArray, List.getElem?_cons_succ, List.getElem?_cons_zero]; rfl)
  · first | exact fun _ _ _ h => h | exact fun _ _ _ h => nomatch h.1
  · rfl
  try simp only [Act.put, List.setIfInBounds_toArray, List.set_cons_zero, List.set_cons_succ]
  refine' wpAnyH_take (i := 12) (oi := _) (v := _) ?_ (by kernel_rfl) (by kernel_rfl) (by kernel_rfl) ?_ (Or.inr ⟨?_, rfl⟩) (by assumption) ?_
  rotate_left 1
  · (simp only [List.getElem?_toArray, List.getElem?_cons_succ, List.getElem?_cons_zero]; rfl)
  · first | exact fun _ _ _ h => h | exact fun _ _ _ h => nomatch h.1
  · rfl
  try simp only [Act.put, List.setIfInBounds_toArray, List.set_cons_zero, List.set_cons_succ]
  refine' wpAnyH_take (i := 13) (oi := _) (v := _) ?_ (by kernel_rfl) (by kernel_rfl) (by kernel_rfl) ?_ (Or.inr ⟨?_, rfl⟩) (by assumption) ?_
  rotate_left 1
  · (simp only [List.getElem?_toArray, List.getElem?_cons_succ, List.getElem?_cons_zero]; rfl)
  · first | exact fun _ _ _ h => h | exact fun _ _ _ h => nomatch h.1
  · rfl
  try simp only [Act.put, List.setIfInBounds_toArray, List.set_cons_zero, List.set_cons_succ]
  refine' wpAnyH_take (i := 14) (oi := _) (v := _) ?_ (by kernel_rfl) (by kernel_rfl) (by kernel_rfl) ?_ (Or.inr ⟨?_, rfl⟩) (by assumption) ?_
  rotate_left 1
  · (simp only [List.getElem?_toArray, List.getElem?_cons_succ, List.getElem?_cons_zero]; rfl)
  · first | exact fun _ _ _ h => h | exact fun _ _ _ h => nomatch h.1
  · rfl
  try simp only [Act.put, List.setIfInBounds_toArray, List.set_cons_zero, List.set_cons_succ]
  refine' wpAnyH_take (i := 15) (oi := _) (v := _) ?_ (by kernel_rfl) (by kernel_rfl) (by kernel_rfl) ?_ (Or.inr ⟨?_, rfl⟩) (by assumption) ?_
  rotate_left 1
  · (simp only [List.getElem?_toArray, List.getElem?_cons_succ, List.getElem?_cons_zero]; rfl)
  · first | exact fun _ _ _ h => h | exact fun _ _ _ h => nomatch h.1
  · rfl
  try simp only [Act.put, List.setIfInBounds_toArray, List.set_cons_zero, List.set_cons_succ]
  refine' wpAnyH_take (i := 16) (oi := _) (v := _) ?_ (by kernel_rfl) (by kernel_rfl) (by kernel_rfl) ?_ (Or.inr ⟨?_, rfl⟩) (by assumption) ?_
  rotate_left 1
  · (simp only [List.getElem?_toArray, List.getElem?_cons_succ, List.getElem?_cons_zero]; rfl)
  · first | exact fun _ _ _ h => h | exact fun _ _ _ h => nomatch h.1
  · rfl
  try simp only [Act.put, List.setIfInBounds_toArray, List.set_cons_zero, List.set_cons_succ]
  refine' wpAnyH_take (i := 17) (oi := _) (v := _) ?_ (by kernel_rfl) (by kernel_rfl) (by kernel_rfl) ?_ (Or.inr ⟨?_, rfl⟩) (by assumption) ?_
  rotate_left 1
  · (simp only [List.getElem?_toArray, List.getElem?_cons_succ, List.getElem?_cons_zero]; rfl)
  · first | exact fun _ _ _ h => h | exact fun _ _ _ h => nomatch h.1
  · rfl
  try simp only [Act.put, List.setIfInBounds_toArray, List.set_cons_zero, List.set_cons_succ]
  refine' wpAnyH_take (i := 18) (oi := _) (v := _) ?_ (by kernel_rfl) (by kernel_rfl) (by kernel_rfl) ?_ (Or.inr ⟨?_, rfl⟩) (by assumption) ?_
  rotate_left 1
  · (simp only [List.getElem?_toArray, List.getElem?_cons_succ, List.getElem?_cons_zero]; rfl)
  · first | exact fun _ _ _ h => h | exact fun _ _ _ h => nomatch h.1
  · rfl
  try simp only [Act.put, List.setIfInBounds_toArray, List.set_cons_zero, List.set_cons_succ]
  refine' wpAnyH_take (i := 19) (oi := _) (v := _) ?_ (by kernel_rfl) (by kernel_rfl) (by kernel_rfl) ?_ (Or.inr ⟨?_, rfl⟩) (by assumption) ?_
  rotate_left 1
  · (simp only [List.getElem?_toArray, List.getElem?_cons_succ, List.getElem?_cons_zero]; rfl)
  · first | exact fun _ _ _ h => h | exact fun _ _ _ h => nomatch h.1
  · rfl
  try simp only [Act.put, List.setIfInBounds_toArray, List.set_cons_zero, List.set_cons_succ]
  refine' wpAnyH_take (i := 20) (oi := _) (v := _) ?_ (by kernel_rfl) (by kernel_rfl) (by kernel_rfl) ?_ (Or.inr ⟨?_, rfl⟩) (by assumption) ?_
  rotate_left 1
  · (simp only [List.getElem?_toArray, List.getElem?_cons_succ, List.getElem?_cons_zero]; rfl)
  · first | exact fun _ _ _ h => h | exact fun _ _ _ h => nomatch h.1
  · rfl
  try simp only [Act.put, List.setIfInBounds_toArray, List.set_cons_zero, List.set_cons_succ]
  refine' wpAnyH_take (i := 21) (oi := _) (v := _) ?_ (by kernel_rfl) (by kernel_rfl) (by kernel_rfl) ?_ (Or.inr ⟨?_, rfl⟩) (by assumption) ?_
  rotate_left 1
  · (simp only [List.getElem?_toArray, List.getElem?_cons_succ, List.getElem?_cons_zero]; rfl)
  · first | exact fun _ _ _ h => h | exact fun _ _ _ h => nomatch h.1
  · rfl
  try simp only [Act.put, List.setIfInBounds_toArray, List.set_cons_zero, List.set_cons_succ]
  refine' wpAnyH_take (i := 22) (oi := _) (v := _) ?_ (by kernel_rfl) (by kernel_rfl) (by kernel_rfl) ?_ (Or.inr ⟨?_, rfl⟩) (by assumption) ?_
  rotate_left 1
  · (simp only [List.getElem?_toArray, List.getElem?_cons_succ, List.getElem?_cons_zero]; rfl)
  · first | exact fun _ _ _ h => h | exact fun _ _ _ h => nomatch h.1
  · rfl
  try simp only [Act.put, List.setIfInBounds_toArray, List.set_cons_zero, List.set_cons_succ]
  refine' wpAnyH_take (i := 23) (oi := _) (v := _) ?_ (by kernel_rfl) (by kernel_rfl) (by kernel_rfl) ?_ (Or.inl ⟨?_, ?_⟩) (by assumption) ?_
  rotate_left 2
  · (simp only [List.getElem?_toArray, List.getElem?_cons_succ, List.getElem?_cons_zero]; rfl)
  · first | exact fun _ _ _ h => h | exact fun _ _ _ h => nomatch h.1
  · rfl
  · (intro W hSW; (try dsimp only at hSW); go_split_ands; first | (go_simp; done) | (go_simp; with_reducible rfl))
  try simp only [Act.put, List.setIfInBounds_toArray, List.set_cons_zero, List.set_cons_succ]
  clear hHeld
  refine wpAnyH_done (by kernel_rfl) ?_ _
  have yp := rp.cell
  have zp := rp.lt
  have y1 := r1.cell
  have z1 := r1.lt
  go_wp2_with fail
  clear yp zp y1 z1
  have hL := HH.out.on hc
  have hown := hL.own
  have hbut := but_of G hc
  refine wp_region_held_drew (S := fun W' => (∀ j, W'.cell? ⟨bx, j, none⟩ = (atC a)[j]?)) (by kernel_rfl) r1.cell (fun hHeld => ?_)
  replace rp := rp.drew
  replace r1 := r1.drew
  replace hc := hc.drew
  replace hbut := hbut.drew
  replace hown : OwnsA 0 V3.drew _ l := hown
  clear hL
  generalize V3.drew = X0 at *
  refine' wpAnyH_take (i := 0) (oi := _) (v := _) ?_ (by kernel_rfl) (by kernel_rfl) (by kernel_rfl) ?_ (Or.inl ⟨?_, ?_⟩) (by assumption) ?_
  rotate_left 2
  · (simp only [List.getElem?_toArray, List.getElem?_cons_succ, List.getElem?_cons_zero]; rfl)
  · first | exact fun _ _ _ h => h | exact fun _ _ _ h => nomatch h.1
  · rfl
  · (intro W hSW; (try dsimp only at hSW); go_split_ands; first | (go_simp; done) | (go_simp; with_reducible rfl))
  try simp only [Act.put, List.setIfInBounds_toArray, List.set_cons_zero, List.set_cons_succ]
  refine' wpAnyH_take (i := 1) (oi := _) (v := _) ?_ (by kernel_rfl) (by kernel_rfl) (by kernel_rfl) ?_ (Or.inl ⟨?_, ?_⟩) (by assumption) ?_
  rotate_left 2
  · (simp only [List.getElem?_toArray, List.getElem?_cons_succ, List.getElem?_cons_zero]; rfl)
  · first | exact fun _ _ _ h => h | exact fun _ _ _ h => nomatch h.1
  · rfl
  · (intro W hSW; (try dsimp only at hSW); go_split_ands; first | (go_simp; done) | (go_simp; with_reducible rfl))
  try simp only [Act.put, List.setIfInBounds_toArray, List.set_cons_zero, List.set_cons_succ]
  refine' wpAnyH_take (i := 2) (oi := _) (v := _) ?_ (by kernel_rfl) (by kernel_rfl) (by kernel_rfl) ?_ (Or.inl ⟨?_, ?_⟩) (by assumption) ?_
  rotate_left 2
  · (simp only [List.getElem?_toArray, List.getElem?_cons_succ, List.getElem?_cons_zero]; rfl)
  · first | exact fun _ _ _ h => h | exact fun _ _ _ h => nomatch h.1
  · rfl
  · (intro W hSW; (try dsimp only at hSW); go_split_ands; first | (go_simp; done) | (go_simp; with_reducible rfl))
  try simp only [Act.put, List.setIfInBounds_toArray, List.set_cons_zero, List.set_cons_succ]
  refine' wpAnyH_take (i := 3) (oi := _) (v := _) ?_ (by kernel_rfl) (by kernel_rfl) (by kernel_rfl) ?_ (Or.inl ⟨?_, ?_⟩) (by assumption) ?_
  rotate_left 2
  · (simp only [List.getElem?_toArray, List.getElem?_cons_succ, List.getElem?_cons_zero]; rfl)
  · first | exact fun _ _ _ h => h | exact fun _ _ _ h => nomatch h.1
  · rfl
  · (intro W hSW; (try dsimp only at hSW); go_split_ands; first | (go_simp; done) | (go_simp; with_reducible rfl))
  try simp only [Act.put, List.setIfInBounds_toArray, List.set_cons_zero, List.set_cons_succ]
  refine' wpAnyH_take (i := 5) (oi := _) (v := _) ?_ (by kernel_rfl) (by kernel_rfl) (by kernel_rfl) ?_ (Or.inl ⟨?_, ?_⟩) (by assumption) ?_
  rotate_left 2
  · (simp only [List.getElem?_toArray, List.getElem?_cons_succ, List.getElem?_cons_zero]; rfl)
  · first | exact fun _ _ _ h => h | exact fun _ _ _ h => nomatch h.1
  · rfl
  · (intro W hSW; (try dsimp only at hSW); go_split_ands; first | (go_simp; done) | (go_simp; with_reducible rfl))
  try simp only [Act.put, List.setIfInBounds_toArray, List.set_cons_zero, List.set_cons_succ]
  clear hHeld
  refine wpAnyH_ready (rs := [4, 6]) (by kernel_rfl) (by simp) ?_
  refine' AllReadyH.cons (o := _) (by simp only [List.getElem?_toArray, List.getElem?_cons_succ, List.getElem?_cons_zero]; rfl) (fun K hK => ?_) (AllReadyH.cons (o := _) (by simp only [List.getElem?_toArray, List.getElem?_cons_succ, List.getElem?_cons_zero]; rfl) (fun K hK => ?_) AllReadyH.nil)
  · have yp := rp.cell
    have zp := rp.lt
    go_simp
    clear yp zp
    refine hK.out _ _ r1.cell (fun hHeld => ?_)
    clear hK K hHeld
    refine wpAnyH_ready (rs := [6]) (by kernel_rfl) (by simp) ?_
    refine' AllReadyH.cons (o := _) ?_ (fun K hK => ?_) AllReadyH.nil
    rotate_left 1
    · (simp only [List.getElem?_toArray, List.getElem?_cons_succ, List.getElem?_cons_zero]; rfl)
    go_simp
    have hn := below_alloc X0 (.cells (atC a) 43)
    have hsrc := at_src X0 a
    have ra := Row.new (W := X0) (cs := atC a) (t := 43)
    have hnewA : w.heap.size ≤ X0.heap.size := hc.size
    replace rp := rp.on hn
    replace r1 := r1.on hn
    replace hown := hown.on hn
    replace hc := chain hc hn
    replace hbut := hbut.on hn
    clear hn
    generalize X0.alloc (.cells (atC a) 43) = X1 at *
    generalize X0.heap.size = a2 at *
    have hX1 := hc.size
    refine hK.out _ _ r1.cell (fun hHeld => ?_)
    clear hK K hHeld
    refine wpAnyH_ready (rs := [7]) (by kernel_rfl) (by simp) ?_
    refine' AllReadyH.cons (o := _) (by simp only [List.getElem?_toArray, List.getElem?_cons_succ, List.getElem?_cons_zero]; rfl) (fun K hK => ?_) AllReadyH.nil
    refine step_append_lies _ rfl (.tmp 45) (.tmp 47) 26 rfl 0 43 i0 (.agg #[.int .i64 0, .int .i64 0, .int .i64 0, .int .u32 0, .int .i64 0, .int .i64 0]) 6 48 Tryz.underlying26 HI0.out HZ0.out HZ1.out HZ2.out rfl (by decide) (.slice a0 0 c0) 0 (cellsA l) rfl (by have h9 := hown; unfold OwnsA at h9; rw [HN.out] at h9; exact h9) ⟨a2, 0, none⟩ 1 1 (atL a) rfl rfl hsrc (by intro u hu; simp at hu; rcases hu with rfl | rfl | rfl | rfl | rfl | rfl <;> rfl) (by omega) (by unfold maxLen;  omega) (by  omega) (Nat.zero_le _) _ rfl ?_
    intro g1 cap X2 hown2 hgrow hat hlt2
    have hvp : ((.slice a0 0 c0) : Value).ownBlock ≠ some p := ownA_ne_row hown rp (by decide)
    have hvb : ((.slice a0 0 c0) : Value).ownBlock ≠ some bx := fun e => by have := (HH.out.own.lt bx e).2; omega
    replace rp := row_grown rp hgrow hvp
    replace r1 := row_grown r1 hgrow hvb
    replace hbut := hbut.grown hgrow (fun k hk _ => HH.out.gv k hk)
    replace hown2 : OwnsA 0 X2 (.slice (some ⟨g1, 0, none⟩) (0 + 1) cap) (l ++ [a]) := by
      unfold OwnsA
      rw [cellsA_snoc, List.length_append, List.length_singleton, HN.out]
      exact hown2
    refine hK.out _ _ r1.cell (fun hHeld => ?_)
    clear hK K hsrc hown ra
    refine' wpAnyH_take (i := 8) (oi := _) (v := _) ?_ (by kernel_rfl) (by kernel_rfl) (by kernel_rfl) ?_ (Or.inl ⟨?_, ?_⟩) (by assumption) ?_
    rotate_left 2
    · (simp only [List.getElem?_toArray, List.getElem?_cons_succ, List.getElem?_cons_zero]; rfl)
    · first | exact fun _ _ _ h => h | exact fun _ _ _ h => nomatch h.1
    · rfl
    · (intro W hSW; (try dsimp only at hSW); go_split_ands; first | (go_simp; done) | (go_simp; with_reducible rfl))
    try simp only [Act.put, List.setIfInBounds_toArray, List.set_cons_zero, List.set_cons_succ]
    refine' wpAnyH_take (i := 9) (oi := _) (v := _) ?_ (by kernel_rfl) (by kernel_rfl) (by kernel_rfl) ?_ (Or.inl ⟨?_, ?_⟩) (by assumption) ?_
    rotate_left 2
    · (simp only [List.getElem?_toArray, List.getElem?_cons_succ, List.getElem?_cons_zero]; rfl)
    · first | exact fun _ _ _ h => h | exact fun _ _ _ h => nomatch h.1
    · rfl
    · (intro W hSW; (try dsimp only at hSW); go_split_ands; first | (go_simp; done) | (go_simp; with_reducible rfl))
    try simp only [Act.put, List.setIfInBounds_toArray, List.set_cons_zero, List.set_cons_succ]
    clear hHeld
    have yp := rp.cell
    have zp := rp.lt
    have up := rp.free
    refine wpAnyH_ready (rs := [10]) (by kernel_rfl) (by simp) ?_
    refine' AllReadyH.cons (o := _) ?_ (fun K hK => ?_) AllReadyH.nil
    rotate_left 1
    · (simp only [List.getElem?_toArray, List.getElem?_cons_succ, List.getElem?_cons_zero]; rfl)
    go_simp
    clear yp zp up
    have hpb : p ≠ bx := row_ne_row rp r1 (by decide)
    replace r1 := r1.other hpb 1 (.slice (some ⟨g1, 0, none⟩) (0 + 1) cap)
    replace hown2 := ownA_setCell hown2 (ownA_ne_row hown2 rp (by decide)) 1 (.slice (some ⟨g1, 0, none⟩) (0 + 1) cap)
    replace hbut := hbut.setCell (y := p) HH.out.gq 1 (.slice (some ⟨g1, 0, none⟩) (0 + 1) cap)
    replace rp := rp.set 1 (.slice (some ⟨g1, 0, none⟩) (0 + 1) cap)
    simp only [List.setIfInBounds_toArray, List.set_cons_zero, List.set_cons_succ] at rp
    generalize hW : World.setCell _ _ _ = X3 at *
    clear hW
    refine hK.out _ _ r1.cell (fun hHeld => ?_)
    clear hK K hHeld
    refine wpAnyH_done (by kernel_rfl) ?_ _
    have yp := rp.cell
    have zp := rp.lt
    go_wp2_with fail
    go_returns
    have hat2 : (Value.ownBlock (.slice a0 0 c0) = some g1) ∨ w.heap.size ≤ g1 := by exact hat.imp id (fun h1 => by omega)
    refine ⟨rfl, ⟨_, rp, hown2, .inl HH.out.gq, fun b hb => ?_, fun b hb => ?_, by rw [List.length_append, List.length_singleton, HN.out];  omega⟩, hbut⟩
    · obtain rfl : g1 = b := Option.some.inj hb
      rcases hat2 with h1 | h1
      · exact .inl (HH.out.gv _ (by exact h1))
      · exact .inr ⟨h1, (hown2.lt g1 rfl).2⟩
    · rcases hb with h1 | h1
      · exact Nat.lt_of_lt_of_le (HH.out.fin b h1) hbut.size
      · exact h1.2
  · go_simp
    have hn := below_alloc X0 (.cells (atC a) 43)
    have hsrc := at_src X0 a
    have ra := Row.new (W := X0) (cs := atC a) (t := 43)
    have hnewA : w.heap.size ≤ X0.heap.size := hc.size
    replace rp := rp.on hn
    replace r1 := r1.on hn
    replace hown := hown.on hn
    replace hc := chain hc hn
    replace hbut := hbut.on hn
    clear hn
    generalize X0.alloc (.cells (atC a) 43) = X1 at *
    generalize X0.heap.size = a2 at *
    have hX1 := hc.size
    refine hK.out _ _ r1.cell (fun hHeld => ?_)
    clear hK K hHeld
    have yp := rp.cell
    have zp := rp.lt
    refine wpAnyH_ready (rs := [4]) (by kernel_rfl) (by simp) ?_
    refine' AllReadyH.cons (o := _) ?_ (fun K hK => ?_) AllReadyH.nil
    rotate_left 1
    · (simp only [List.getElem?_toArray, List.getElem?_cons_succ, List.getElem?_cons_zero]; rfl)
    go_simp
    clear yp zp
    refine hK.out _ _ r1.cell (fun hHeld => ?_)
    clear hK K hHeld
    refine wpAnyH_ready (rs := [7]) (by kernel_rfl) (by simp) ?_
    refine' AllReadyH.cons (o := _) (by simp only [List.getElem?_toArray, List.getElem?_cons_succ, List.getElem?_cons_zero]; rfl) (fun K hK => ?_) AllReadyH.nil
    refine step_append_lies _ rfl (.tmp 45) (.tmp 47) 26 rfl 0 43 i0 (.agg #[.int .i64 0, .int .i64 0, .int .i64 0, .int .u32 0, .int .i64 0, .int .i64 0]) 6 48 Tryz.underlying26 HI0.out HZ0.out HZ1.out HZ2.out rfl (by decide) (.slice a0 0 c0) 0 (cellsA l) rfl (by have h9 := hown; unfold OwnsA at h9; rw [HN.out] at h9; exact h9) ⟨a2, 0, none⟩ 1 1 (atL a) rfl rfl hsrc (by intro u hu; simp at hu; rcases hu with rfl | rfl | rfl | rfl | rfl | rfl <;> rfl) (by omega) (by unfold maxLen;  omega) (by  omega) (Nat.zero_le _) _ rfl ?_
    intro g1 cap X2 hown2 hgrow hat hlt2
    have hvp : ((.slice a0 0 c0) : Value).ownBlock ≠ some p := ownA_ne_row hown rp (by decide)
    have hvb : ((.slice a0 0 c0) : Value).ownBlock ≠ some bx := fun e => by have := (HH.out.own.lt bx e).2; omega
    replace rp := row_grown rp hgrow hvp
    replace r1 := row_grown r1 hgrow hvb
    replace hbut := hbut.grown hgrow (fun k hk _ => HH.out.gv k hk)
    replace hown2 : OwnsA 0 X2 (.slice (some ⟨g1, 0, none⟩) (0 + 1) cap) (l ++ [a]) := by
      unfold OwnsA
      rw [cellsA_snoc, List.length_append, List.length_singleton, HN.out]
      exact hown2
    refine hK.out _ _ r1.cell (fun hHeld => ?_)
    clear hK K hsrc hown ra
    refine' wpAnyH_take (i := 8) (oi := _) (v := _) ?_ (by kernel_rfl) (by kernel_rfl) (by kernel_rfl) ?_ (Or.inl ⟨?_, ?_⟩) (by assumption) ?_
    rotate_left 2
    · (simp only [List.getElem?_toArray, List.getElem?_cons_succ, List.getElem?_cons_zero]; rfl)
    · first | exact fun _ _ _ h => h | exact fun _ _ _ h => nomatch h.1
    · rfl
    · (intro W hSW; (try dsimp only at hSW); go_split_ands; first | (go_simp; done) | (go_simp; with_reducible rfl))
    try simp only [Act.put, List.setIfInBounds_toArray, List.set_cons_zero, List.set_cons_succ]
    refine' wpAnyH_take (i := 9) (oi := _) (v := _) ?_ (by kernel_rfl) (by kernel_rfl) (by kernel_rfl) ?_ (Or.inl ⟨?_, ?_⟩) (by assumption) ?_
    rotate_left 2
    · (simp only [List.getElem?_toArray, List.getElem?_cons_succ, List.getElem?_cons_zero]; rfl)
    · first | exact fun _ _ _ h => h | exact fun _ _ _ h => nomatch h.1
    · rfl
    · (intro W hSW; (try dsimp only at hSW); go_split_ands; first | (go_simp; done) | (go_simp; with_reducible rfl))
    try simp only [Act.put, List.setIfInBounds_toArray, List.set_cons_zero, List.set_cons_succ]
    clear hHeld
    have yp := rp.cell
    have zp := rp.lt
    have up := rp.free
    refine wpAnyH_ready (rs := [10]) (by kernel_rfl) (by simp) ?_
    refine' AllReadyH.cons (o := _) ?_ (fun K hK => ?_) AllReadyH.nil
    rotate_left 1
    · (simp only [List.getElem?_toArray, List.getElem?_cons_succ, List.getElem?_cons_zero]; rfl)
    go_simp
    clear yp zp up
    have hpb : p ≠ bx := row_ne_row rp r1 (by decide)
    replace r1 := r1.other hpb 1 (.slice (some ⟨g1, 0, none⟩) (0 + 1) cap)
    replace hown2 := ownA_setCell hown2 (ownA_ne_row hown2 rp (by decide)) 1 (.slice (some ⟨g1, 0, none⟩) (0 + 1) cap)
    replace hbut := hbut.setCell (y := p) HH.out.gq 1 (.slice (some ⟨g1, 0, none⟩) (0 + 1) cap)
    replace rp := rp.set 1 (.slice (some ⟨g1, 0, none⟩) (0 + 1) cap)
    simp only [List.setIfInBounds_toArray, List.set_cons_zero, List.set_cons_succ] at rp
    generalize hW : World.setCell _ _ _ = X3 at *
    clear hW
    refine hK.out _ _ r1.cell (fun hHeld => ?_)
    clear hK K hHeld
    refine wpAnyH_done (by kernel_rfl) ?_ _
    have yp := rp.cell
    have zp := rp.lt
    go_wp2_with fail
    go_returns
    have hat2 : (Value.ownBlock (.slice a0 0 c0) = some g1) ∨ w.heap.size ≤ g1 := by exact hat.imp id (fun h1 => by omega)
    refine ⟨rfl, ⟨_, rp, hown2, .inl HH.out.gq, fun b hb => ?_, fun b hb => ?_, by rw [List.length_append, List.length_singleton, HN.out];  omega⟩, hbut⟩
    · obtain rfl : g1 = b := Option.some.inj hb
      rcases hat2 with h1 | h1
      · exact .inl (HH.out.gv _ (by exact h1))
      · exact .inr ⟨h1, (hown2.lt g1 rfl).2⟩
    · rcases hb with h1 | h1
      · exact Nat.lt_of_lt_of_le (HH.out.fin b h1) hbut.size
      · exact h1.2
theorem radd_c {G : Nat → Prop} {p : Nat} {l : List AtR} (a : AtR) (hg : gIn a) (w : World) (h : RLed w G p l) :
    Calls Tryz.prog 38 #[ledP p, atV a] w fun e w' => e = .returned (.int .i64 (addE l a)) ∧ RLed w' (fun b => G b ∨ FreshL w w' b) p (addL l a) ∧ But G w w' := by
  obtain ⟨v, h⟩ := h
  have same : ∀ {n : Int}, addE l a = n → n ≠ 0 → Ret 38 #[ledP p, atV a] w (.int .i64 n) → Calls Tryz.prog 38 #[ledP p, atV a] w fun e w' => e = .returned (.int .i64 (addE l a)) ∧ RLed w' (fun b => G b ∨ FreshL w w' b) p (addL l a) ∧ But G w w' := fun {n} he hn hr => by
    refine Calls.mono hr ?_
    rintro e w' ⟨rfl, hb⟩
    have h2 := h.on hb
    rw [he, addL_no (by rw [he]; exact hn)]
    exact ⟨rfl, ⟨v, h2.row, h2.own, .inl h2.gq, fun b hb => .inl (h2.gv b hb), fun b hb => hb.elim (h2.fin b) (fun h3 => h3.2), h2.len⟩, but_of G hb⟩
  cases hk : aOk a
  · exact same (n := 2) (by unfold addE; rw [if_pos hk]) (by decide) (radd_arg a hg w h hk)
  · rcases List.eq_nil_or_concat l with rfl | ⟨i, x, rfl⟩
    · have e0 : addE [] a = 0 := by unfold addE; rw [if_neg (by rw [hk]; decide)]; rfl
      rw [e0, addL_ok e0]
      exact radd_ok0 a hg w h hk rfl
    · rw [List.concat_eq_append] at *
      have hN : (i ++ [x]).length = i.length + 1 := by simp
      have hlast : (i ++ [x]).getLast? = some x := by simp
      have hl2 := h.len
      by_cases hlt : a.at_ < x.at_
      · exact same (n := 8) (by unfold addE; rw [if_neg (by rw [hk]; decide), hlast, if_pos (by simpa using hlt)]) (by decide) (radd_state a hg w h hk hN (by omega) (fun y hy => by rw [hlast] at hy; cases hy; exact hlt))
      · have e1 : ¬ ((Option.map (fun b => decide (a.at_ < b.at_)) (some x)) = some true) := by simpa using hlt
        by_cases hf : 10000 ≤ (i ++ [x]).length
        · exact same (n := 4) (by unfold addE; rw [if_neg (by rw [hk]; decide), hlast, if_neg e1, if_pos hf]) (by decide) (radd_full a hg w h hk hN (by omega) (by omega) (fun y hy => by rw [hlast] at hy; cases hy; exact hlt))
        · have e0 : addE (i ++ [x]) a = 0 := by unfold addE; rw [if_neg (by rw [hk]; decide), hlast, if_neg e1, if_neg hf]
          rw [e0, addL_ok e0]
          exact radd_ok1 a hg w h hk hN (by omega) (fun y hy => by rw [hlast] at hy; cases hy; exact hlt)
/-- The reference's ledger, made behind w. -/
structure RLedW (w W : World) (G : Nat → Prop) (q : Nat) (l : List AtR) : Prop where
  led : RLed W G q l
  low : ∀ b, G b → w.heap.size ≤ b
theorem RLedW.on {w W W' : World} {G : Nat → Prop} {q : Nat} {l : List AtR} (h : RLedW w W G q l) (hb : Below W.heap.size W W') : RLedW w W' G q l := by
  obtain ⟨⟨v, hi⟩, lo⟩ := h
  exact ⟨⟨v, hi.on hb⟩, lo⟩
theorem RLedW.drew {w W : World} {G : Nat → Prop} {q : Nat} {l : List AtR} (h : RLedW w W G q l) : RLedW w W.drew G q l := h.on (Below.refl _ _).drew
theorem RLedW.not_new {w W : World} {G : Nat → Prop} {q : Nat} {l : List AtR} (h : RLedW w W G q l) {x : Nat} (hx : W.heap.size ≤ x) : ¬ G x := fun hf => by
  obtain ⟨⟨v, hi⟩, lo⟩ := h
  have := hi.fin x hf
  omega
/-- What an addition to the program's ledger keeps of it. -/
theorem AddTo.rled {w W W' : World} {F F' : Nat → Prop} (h : AddTo w W W' F F') {G : Nat → Prop} {q : Nat} {m : List AtR} (hl : RLedW w W G q m) (hd : ∀ b, G b → ¬ F b) : RLedW w W' G q m ∧ ∀ b, G b → ¬ F' b := by
  obtain ⟨⟨v, hi⟩, lo⟩ := hl
  exact ⟨⟨⟨v, hi.via h.size (fun b hb => h.keep b (hi.fin b hb) (hd b hb))⟩, lo⟩, fun b hb => h.no b (hi.fin b hb) (hd b hb)⟩
theorem raddW_c {w W : World} {G : Nat → Prop} {q : Nat} {l : List AtR} (a : AtR) (hg : gIn a) (hs : w.heap.size ≤ W.heap.size) (h : RLedW w W G q l) :
    Calls Tryz.prog 38 #[ledP q, atV a] W fun e W' => e = .returned (.int .i64 (addE l a)) ∧ ∃ G', RLedW w W' G' q (addL l a) ∧ AddTo w W W' G G' := by
  refine Calls.mono (radd_c a hg W h.led) ?_
  rintro e W' ⟨rfl, h1, h2⟩
  refine ⟨rfl, _, ⟨h1, fun b hb => hb.elim (h.low b) (fun h3 => Nat.le_trans hs h3.1)⟩, h2.size, fun x hx hn => h2.block x hx hn, fun x hx hn hf => hf.elim hn (fun h3 => by have := h3.1; omega), fun V hb => ?_⟩
  exact ⟨h2.os.trans hb.os, h2.tape.trans hb.tape, h2.output.trans hb.output, Nat.le_trans hb.size h2.size, fun k hk => (h2.block k (Nat.lt_of_lt_of_le hk hs) (fun hf => by have := h.low k hf; omega)).trans (hb.block k hk)⟩
theorem rnewW_c {w : World} (W : World) (hs : w.heap.size ≤ W.heap.size) : Calls Tryz.prog 34 #[] W fun e W' => ∃ q, e = .returned (ledP q) ∧ (∃ G, RLedW w W' G q [] ∧ ∀ b, G b → W.heap.size ≤ b) ∧ Below W.heap.size W W' := by
  refine Calls.mono (rnew_c W) ?_
  rintro e W' ⟨q, rfl, h, hb⟩
  exact ⟨q, rfl, ⟨_, ⟨h, fun b hb => Nat.le_trans hs hb.1⟩, fun b hb => hb.1⟩, hb⟩
end Go.Proofs.YtinlfheonlpceaaGreatDoor

/- Slices of attempts among the arguments (chapter 07). -/
namespace Go.Proofs.YtinlfheonlpceaaGreatDoor
open Go.RowKit
set_option linter.unusedVariables false
set_option linter.unusedSimpArgs false
set_option maxHeartbeats 16000000
set_option maxRecDepth 20000
abbrev leavesA : List Leaf := [.int .i64, .int .i64, .int .i64, .int .u32, .int .i64, .int .i64]
/-- Numbers that an attempt of the program can have. -/
structure RngA (a : AtR) : Prop where
  t : -9223372036854775808 ≤ a.at_ ∧ a.at_ ≤ 9223372036854775807
  k : -9223372036854775808 ≤ a.k ∧ a.k ≤ 9223372036854775807
  i : -9223372036854775808 ≤ a.i ∧ a.i ≤ 9223372036854775807
  y : -9223372036854775808 ≤ a.why ∧ a.why ≤ 9223372036854775807
  n : -9223372036854775808 ≤ a.ans ∧ a.ans ≤ 9223372036854775807
theorem at6 {l : List Value} (h : OkL leavesA l) : ∃ a : AtR, (gIn a ∧ RngA a) ∧ l = atL a := by
  obtain ⟨_, _, rfl, ⟨a, rfl, wa⟩, h1⟩ := OkL_cons h
  obtain ⟨_, _, rfl, ⟨b, rfl, wb⟩, h2⟩ := OkL_cons h1
  obtain ⟨_, _, rfl, ⟨c, rfl, wc⟩, h3⟩ := OkL_cons h2
  obtain ⟨_, _, rfl, ⟨d, rfl, wd⟩, h4⟩ := OkL_cons h3
  obtain ⟨_, _, rfl, ⟨e, rfl, we⟩, h5⟩ := OkL_cons h4
  obtain ⟨_, _, rfl, ⟨f, rfl, wf⟩, h6⟩ := OkL_cons h5
  obtain rfl := OkL_nil h6
  have ba := bounds_i64 wa
  have bb := bounds_i64 wb
  have bc := bounds_i64 wc
  have bd := bounds_u32 wd
  have be := bounds_i64 we
  have bf := bounds_i64 wf
  exact ⟨⟨a, b, c, d, e, f⟩, ⟨⟨bd.1, bd.2⟩, ⟨ba, bb, bc, be, bf⟩⟩, rfl⟩
/-- A slice that is read alone: it may be empty with any pointer. -/
def HoldsW (w : World) (v : Value) (L : List AtR) : Prop := ∃ p cap, v = .slice p L.length cap ∧ (L = [] ∨ ∃ b off, p = some ⟨b, off, none⟩ ∧ ∀ (i : Nat) (x : AtR), L[i]? = some x → ∀ j, j < 6 → w.cell? ⟨b, off + i * 6 + j, none⟩ = (atL x)[j]?)
theorem sl_at {w : World} {v : Value} {n : Nat} {E : Nat → List Value} (h : Sl w v leavesA n E) : ∃ L : List AtR, L.length = n ∧ HoldsW w v L ∧ ∀ a ∈ L, gIn a ∧ RngA a := by
  obtain ⟨⟨p, cap, rfl, h1, h2, h3⟩, hok⟩ := h
  obtain ⟨L, hL, hi⟩ := list_of (fun x : {a : AtR // gIn a ∧ RngA a} => atL x.1) E n (fun i hi => by
    obtain ⟨a, ha, e⟩ := at6 (hok i hi)
    exact ⟨⟨a, ha⟩, e⟩)
  refine ⟨L.map (·.1), by simp [hL], ⟨p, cap, by simp [hL], ?_⟩, fun a ha => ?_⟩
  · rcases h3 with h3 | ⟨b, off, rfl, hb, hc⟩
    · refine .inl (List.eq_nil_of_length_eq_zero (by simp [hL, h3]))
    · refine .inr ⟨b, off, rfl, fun i x hx j hj => ?_⟩
      rw [List.getElem?_map] at hx
      cases hy : L[i]? with
      | none => rw [hy] at hx; cases hx
      | some y =>
        rw [hy] at hx
        obtain rfl : y.1 = x := Option.some.inj hx
        have hlt := (List.getElem?_eq_some_iff.1 hy).1
        have e := hi i y hy
        rw [← e]
        exact hc i (by omega) j hj
  · obtain ⟨y, _, rfl⟩ := List.mem_map.1 ha
    exact y.2
theorem HoldsW.on {w W : World} {v : Value} {L : List AtR} (h : HoldsW w v L) (hb : Below w.heap.size w W) : HoldsW W v L := by
  obtain ⟨p, cap, rfl, h3⟩ := h
  refine ⟨p, cap, rfl, ?_⟩
  rcases h3 with h3 | ⟨b, off, rfl, hc⟩
  · exact .inl h3
  · refine .inr ⟨b, off, rfl, fun i x hx j hj => ?_⟩
    have q := hc i x hx j hj
    obtain ⟨u, hu⟩ : ∃ u, (atL x)[j]? = some u := ⟨_, List.getElem?_eq_getElem (by simpa using hj)⟩
    rw [hu] at q ⊢
    exact (hb.cell (p := ⟨b, off + i * 6 + j, none⟩) (block_lt_of_cell (a := ⟨b, off + i * 6 + j, none⟩) q)).trans q
theorem run_copy_0 (W : World) (ty : TypeId) (d a : Option Addr) (dLen dCap sLen sCap : Nat) (hn : Nat.min sLen dLen = 0) :
    (Builtin.copy_ #[26, 26] ty #[.slice d dLen dCap, .slice a sLen sCap]).run Tryz.prog W = .ok (.int .i64 0) W := by
  have hu := Tryz.underlying26
  have hs := el_size
  cases hq : Tryz.prog.info? 43 with
  | none => simp [hq] at hs
  | some i =>
    have hl : ∀ (x : Addr), (loadCells x 0).run Tryz.prog W = .ok #[] W := fun x => by simpa using run_loadCells_list (P := Tryz.prog) W x [] (by simp)
    cases d <;> cases a <;> simp [Builtin.copy_, run_underlying hu, Builtin.lenOf, Builtin.firstCells, sizeOf, typeInfo, hq, hn, storeCells, hl, goInt]
theorem repeat0_c (sp : Option Addr) (c n : Nat) (w : World) (hn : 1 ≤ n) (hn2 : n ≤ 10000) :
    Calls Tryz.prog 47 #[.slice sp 0 c, .int .i64 n] w fun e w' => ∃ u, e = .returned u ∧ OwnsA w.heap.size w' u [] ∧ Below w.heap.size w w' := by
  have cm := fun w => mul_c 0 n (by omega) (by omega) w
  rw [Nat.zero_mul] at cm
  have u2 : IntKind.u64.wrap (n : Int) = n := IntWalk.u64_in _ ⟨by omega, by omega⟩
  have b1 : decide ((n : Int) < 0) = false := by rw [decide_eq_false_iff_not]; omega
  obtain ⟨i0, hi, hz0, hz1, hz2⟩ := info_parts at_info
  have mk : ∀ W : World, (Instr.makeSlice 26 (.int .i64 0) (.int .i64 0)).run Tryz.prog W = .ok (.slice (some ⟨W.heap.size, 0, none⟩) 0 0) (W.alloc (.cells #[] 43)) := fun W => by
    have h := run_makeSlice (P := Tryz.prog) W 26 43 i0 _ Tryz.underlying26 hi hz0 .i64 .i64 0 0 (by omega) (Int.le_refl _) (by rw [hz1]; omega) (by rw [hz2]; omega) (by omega)
    rw [hz1] at h
    rw [h, Array.eq_empty_of_size_eq_zero (xs := madeCells _ _) (by rw [size_madeCells]; rfl)]
    rfl
  have hrun := fun W => run_copy_0 W 3 (some ⟨w.heap.size, 0, none⟩) sp 0 0 0 c (by simp)
  have HO := Lib.hid (World.ownsRow_made (base := w.heap.size) (e := 43) (size := 6) w #[] 0 (Nat.le_refl _) (by unfold maxLen; omega) rfl)
  have HB := Lib.hid (below_alloc w (.cells #[] 43))
  have CM := Lib.hid cm
  clear cm hi hz0 hz1 hz2 
  go_enter Tryz.func47, Tryz.ntmps47
  go_wp2_with fail
  refine Calls.mono (CM.out _) ?_
  rintro e W1 ⟨rfl, hW1⟩
  subst W1
  go_wp2_with fail
  go_loop [8] (fun i => i = .int .i64 0) (fun i => 0)
  case atStart => rfl
  case round =>
    subst hrel
    go_wp2_with fail
    go_returns
    exact ⟨_, rfl, HO.out, HB.out⟩
end Go.Proofs.YtinlfheonlpceaaGreatDoor
