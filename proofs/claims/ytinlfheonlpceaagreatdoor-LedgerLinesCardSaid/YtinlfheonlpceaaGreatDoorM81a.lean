/- LedgerBack walked. -/
import Derived.Test.YtinlfheonlpceaaGreatDoorM61a
namespace Go.Proofs.YtinlfheonlpceaaGreatDoor
open Go.RowKit
set_option linter.unusedVariables false
set_option linter.unusedSimpArgs false
set_option maxHeartbeats 40000000
set_option maxRecDepth 20000
theorem count_lines : ∀ l : List AtR, (linesA l).count 10 = l.length
  | [] => rfl
  | a :: l => by rw [linesA_cons, List.count_append, List.count_cons_self, count_lines l, List.count_eq_zero.2 (lineL_no10 a), List.length_cons]; omega
theorem lines_size : ∀ l : List AtR, (∀ a ∈ l, aOk a = true ∧ gIn a) → (linesA l).length ≤ 61 * l.length
  | [], _ => Nat.zero_le _
  | a :: l, h => by
    have h1 := lines_size l (fun b hb => h b (List.mem_cons_of_mem _ hb))
    have h2 := lineL_len (h a (List.mem_cons_self ..)).1 (h a (List.mem_cons_self ..)).2
    rw [linesA_cons, List.length_append, List.length_cons, List.length_cons]
    omega
theorem cut_count : ∀ s : List UInt8, (cutAll 10 s).length = s.count 10 + 1
  | [] => rfl
  | b :: l => by
    have ih := cut_count l
    rw [cutAll_cons]
    by_cases h : b = 10
    · rw [if_pos h, h, List.length_cons, ih, List.count_cons_self]
    · rw [if_neg h, List.count_cons_of_ne h]
      cases hc : cutAll 10 l with
      | nil => exact absurd hc (cutAll_ne 10 l)
      | cons x t => rw [hc] at ih; exact ih
theorem print_lines {l : List AtR} (h : ∀ a ∈ l, aOk a = true ∧ gIn a) (hl : (linesA l).length ≤ 65536) : printA l = (linesA l, 0) := by
  unfold printA
  rw [if_pos (List.all_eq_true.2 (fun a ha => (h a ha).1)), if_neg (by omega)]
theorem check_ok {a : AtR} (h : aOk a = true) : aErr a = 0 := by unfold aErr; rw [if_pos h]
/-- What the reading of a text says. -/
theorem parse_says (s : ByteArray) (hs : s.size ≤ 300) (l : List AtR) (n : Nat) (e : Int) (h : parseA s.data.toList = (l, n, e)) :
    (e = 0 ∧ n = 0 ∧ printA l = (s.data.toList, 0) ∧ (∀ a ∈ l, aOk a = true ∧ gIn a) ∧ l.length ≤ 300) ∨ (e = 9 ∧ l = [] ∧ 1 ≤ n ∧ n ≤ 1 + Lib.countByte s.data.toList 10) := by
  have hlen := len_bytes s
  by_cases he : e = 0
  · subst he
    obtain ⟨h1, h2, h3⟩ := parse_back h
    have h4 : (linesA l).length ≤ 300 := by rw [h2]; omega
    have h5 : l.length ≤ (linesA l).length := by rw [← count_lines l]; exact List.count_le_length
    exact .inl ⟨rfl, h1, by rw [print_lines h3 (by omega), h2], h3, by omega⟩
  · unfold parseA at h
    rw [if_neg (by omega)] at h
    rcases ledR_err _ _ _ _ _ (cutAll_ne 10 _) h with h1 | ⟨h1, h2, h3, h4⟩
    · exact absurd h1 he
    · rw [cut_count] at h4
      unfold Lib.countByte
      simp only [List.length_nil] at h3 h4
      exact .inr ⟨h2, h1, by omega, by omega⟩
theorem back_walk (v : Value) (n : Nat) (E : Nat → List Value) (s : ByteArray) (w : World) (hE : EnvP w) (hsl : Sl w v leavesE n E) :
    Ret 5 #[v, .string s] w (.bool true) := by
  obtain ⟨L, hl⟩ := sl_en hsl
  have hA := attsL_ok L
  have hAL := attsL_len L
  have HE := Lib.hid hE
  have hts := lines_size _ hA
  have cp := fun W hW v hv => lprint_c v (attsL L) W hW hv (by omega) (fun q hq => (hA q hq).2)
  rw [print_lines hA (by omega)] at cp
  have hTS : (⟨(linesA (attsL L)).toArray⟩ : ByteArray).size = (linesA (attsL L)).length := by show (linesA (attsL L)).toArray.size = _; rw [List.size_toArray]
  have hTL : (⟨(linesA (attsL L)).toArray⟩ : ByteArray).data.toList = linesA (attsL L) := by simp
  have cq := fun W hW => lparse_c ⟨(linesA (attsL L)).toArray⟩ W hW (by omega)
  unfold ParseP at cq
  rw [hTL, parse_lines hA (by omega)] at cq
  have cc := fun W => Tryz.strings_Count_one ⟨(linesA (attsL L)).toArray⟩ 10 W
  rw [hTL] at cc
  unfold Lib.countByte at cc
  rw [count_lines] at cc
  have CP := Lib.hid (show ∀ W, Env W → ∀ v, HoldsA W v (attsL L) → Ret 13 #[v] W (.tuple #[.string ⟨(linesA (attsL L)).toArray⟩, .int .i64 0]) from cp)
  have CQ := Lib.hid cq
  have CC := Lib.hid cc
  have CS := Lib.hid (fun W => Tryz.strings_Count_one s 10 W)
  have hc := Below.refl w.heap.size w
  clear cp cq cc hTS hTL hts hE hsl hA
  generalize (⟨(linesA (attsL L)).toArray⟩ : ByteArray) = T at *
  go_enter Tryz.func5, Tryz.ntmps5
  go_wp2_with fail
  refine Calls.mono (attempts_c v L _ hl) ?_
  rintro e VA ⟨⟨u, rfl, ho⟩, hn⟩
  clear hl
  replace hc := chain hc hn
  clear hn
  generalize attsL L = A at *
  obtain ⟨p5, c5, rfl⟩ := (OwnsA.holds ho).len
  go_wp2_with fail
  refine Calls.mono (CP.out _ (HE.out.on hc).toEnv _ (OwnsA.holds ho)) ?_
  rintro e V1 ⟨rfl, hn⟩
  replace ho := ho.on hn
  replace hc := chain hc hn
  clear hn
  go_wp2_with fail
  refine Calls.mono (CQ.out _ (HE.out.on hc)) ?_
  rintro e VP ⟨⟨u2, rfl, h2⟩, hn⟩
  replace ho := ho.on hn
  replace hc := chain hc hn
  clear hn
  go_wp2_with fail
  refine Calls.mono (equal_same _ _ A _ (OwnsA.holds h2) (OwnsA.holds ho) (by omega)) ?_
  rintro e V2 ⟨rfl, hn⟩
  replace ho := ho.on hn
  replace h2 := h2.on hn
  replace hc := chain hc hn
  clear hn
  clear h2 ho
  go_wp2_with fail
  refine Calls.mono (CC.out _) ?_
  rintro e X ⟨rfl, rfl⟩
  by_cases hs : (300 : Int) < s.size
  · go_wp2_with fail
    refine Calls.mono (works _ (HE.out.on hc)) ?_
    rintro e V3 ⟨rfl, hn⟩
    replace hc := chain hc hn
    clear hn
    go_wp2_with fail
    go_returns
    exact ⟨rfl, hc⟩
  have cr := fun W hW => lparse_c s W hW (by omega)
  unfold ParseP at cr
  have hsay := parse_says s (by omega)
  skip
  rcases hp : parseA s.data.toList with ⟨l, n2, e2⟩
  replace hsay := hsay l n2 e2 hp
  rw [hp] at cr
  clear hp
  have CR := Lib.hid cr
  clear cr
  rcases hsay with ⟨rfl, rfl, hpr, hok, hln⟩ | ⟨rfl, rfl, hn1, hn2⟩
  · have cp := fun W hW v hv => lprint_c v l W hW hv (by omega) (fun q hq => (hok q hq).2)
    rw [hpr] at cp
    have CP2 := Lib.hid (show ∀ W, Env W → ∀ v, HoldsA W v l → Ret 13 #[v] W (.tuple #[.string s, .int .i64 0]) from cp)
    have HOK := Lib.hid hok
    clear cp hpr hok CP CQ CC CS
    go_wp2_with fail
    refine Calls.mono (CR.out _ (HE.out.on hc)) ?_
    rintro e VR ⟨⟨u3, rfl, h3⟩, hn⟩
    replace hc := chain hc hn
    clear hn
    obtain ⟨p6, c6, rfl⟩ := (OwnsA.holds h3).len
    go_wp2_with fail
    refine Calls.mono (CP2.out _ (HE.out.on hc).toEnv _ (OwnsA.holds h3)) ?_
    rintro e V3 ⟨rfl, hn⟩
    replace h3 := h3.on hn
    replace hc := chain hc hn
    clear hn
    have HH := Lib.hid (OwnsA.holds h3)
    clear h3
    go_wp2_with fail
    go_loopw [93] (fun iv wr => ∃ i : Nat, i ≤ l.length ∧ iv = .int .i64 i ∧ Below V3.heap.size V3 wr ∧ Below w.heap.size w wr) (fun iv _ => l.length - (intOf iv).toNat)
    case atStart => exact ⟨0, Nat.zero_le _, rfl, Below.refl _ _, hc⟩
    case round =>
      clear hc
      obtain ⟨i, hiN, rfl, hx, hc⟩ := hrel
      by_cases hlt : i < l.length
      · have hx2 : l[i]? = some l[i] := List.getElem?_eq_getElem hlt
        have hal := HOK.out l[i] (List.getElem_mem hlt)
        generalize l[i] = x at *
        have ck := acheck_c x hal.2
        rw [check_ok hal.1] at ck
        have CK := Lib.hid ck
        clear ck hal
        rcases HH.out.on hx with ⟨-, h0⟩ | ⟨b, off, c, hve, hcell⟩
        · rw [h0] at hlt; simp at hlt
        simp only [Value.slice.injEq] at hve
        obtain ⟨rfl, -, rfl⟩ := hve
        have q := HoldsA.six (hcell i x hx2)
        obtain ⟨d0, d1, d2, d3, d4, d5⟩ := q
        clear hcell hx2
        go_upto_region 15 with fail
        clear d0 d1 d2 d3 d4 d5
        have r5 := Row.new (W := wr) (cs := #[.int .i64 x.at_, .int .i64 x.k, .int .i64 x.i, .int .u32 x.g, .int .i64 x.why, .int .i64 x.ans]) (t := 43)
        have hn := below_alloc wr (.cells #[.int .i64 x.at_, .int .i64 x.k, .int .i64 x.i, .int .u32 x.g, .int .i64 x.why, .int .i64 x.ans] 43)
        replace hx := chain hx hn
        replace hc := chain hc hn
        clear hn
        generalize wr.alloc (.cells #[.int .i64 x.at_, .int .i64 x.k, .int .i64 x.i, .int .u32 x.g, .int .i64 x.why, .int .i64 x.ans] 43) = V7 at r5 hx hc ⊢
        generalize wr.heap.size = b5 at *
        have y5 := r5.cell
        have z5 := r5.lt
        go_wp2_with fail
        refine Calls.mono (CK.out _) ?_
        rintro e V8 ⟨rfl, hn⟩
        clear y5 z5 r5
        replace hx := chain hx hn
        replace hc := chain hc hn
        clear hn
        go_wp2_with fail
        refine ⟨⟨i + 1, by omega, by go_num, hx, hc⟩, by simp only [intOf]; omega⟩
      · obtain rfl : i = l.length := by omega
        go_wp2_with fail
        refine Calls.mono (works _ (HE.out.on hc)) ?_
        rintro e V4 ⟨rfl, hn⟩
        replace hc := chain hc hn
        clear hn
        go_wp2_with fail
        go_returns
        exact ⟨rfl, hc⟩
  · go_wp2_with fail
    refine Calls.mono (CR.out _ (HE.out.on hc)) ?_
    rintro e VR ⟨⟨u3, rfl, h3⟩, hn⟩
    obtain ⟨p6, c6, rfl⟩ := (OwnsA.holds h3).len
    clear h3
    replace hc := chain hc hn
    clear hn
    have hn3 : (1 : Int) ≤ n2 := by omega
    have hC : Lib.countByte s.data.toList 10 ≤ 300 := by have h1 := len_bytes s; have h2 : s.data.toList.count 10 ≤ s.data.toList.length := List.count_le_length; unfold Lib.countByte; omega
    generalize Lib.countByte s.data.toList 10 = C at *
    have hn4 : (n2 : Int) ≤ 1 + (C : Int) := by omega
    go_wp2_with fail
    refine Calls.mono (CS.out _) ?_
    rintro e X ⟨rfl, rfl⟩
    go_wp2_with fail
    refine Calls.mono (works _ (HE.out.on hc)) ?_
    rintro e V3 ⟨rfl, hn⟩
    replace hc := chain hc hn
    clear hn
    go_wp2_with fail
    go_returns
    exact ⟨rfl, hc⟩
end Go.Proofs.YtinlfheonlpceaaGreatDoor
