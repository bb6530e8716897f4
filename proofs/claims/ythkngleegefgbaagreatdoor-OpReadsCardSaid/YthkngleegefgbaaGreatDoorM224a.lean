/- The reference's ParseAll (chapter 39). -/
import Derived.Test.YthkngleegefgbaaGreatDoorM203a
import Derived.Test.YthkngleegefgbaaGreatDoorL4a
namespace Go.Proofs.YthkngleegefgbaaGreatDoor
open Go.RowKit
set_option linter.unusedVariables false
set_option linter.unusedSimpArgs false
set_option maxHeartbeats 16000000
set_option maxRecDepth 20000
/-- The bytes from f up to i. -/
def midL (s : ByteArray) (f i : Nat) : List UInt8 := (s.data.toList.drop f).take (i - f)
theorem midL_data (s : ByteArray) (f i : Nat) : (s.extract f i).data.toList = midL s f i := Lib.extract_data s f i
theorem midL_self (s : ByteArray) (f : Nat) : midL s f f = [] := by unfold midL; rw [Nat.sub_self, List.take_zero]
theorem midL_snoc (s : ByteArray) {f i : Nat} (h : f ≤ i) (hi : i < s.size) : midL s f (i + 1) = midL s f i ++ [s[i]] := by
  unfold midL
  have hl : i < s.data.toList.length := by rw [len_bytes]; exact hi
  have e : (s.data.toList.drop f)[i - f]? = some s[i] := by
    rw [List.getElem?_drop, show f + (i - f) = i by omega, List.getElem?_eq_getElem hl]
    simp [ByteArray.getElem_eq_getElem_data]
  rw [show i + 1 - f = (i - f) + 1 by omega, List.take_add_one, e]
  rfl
theorem midL_split (s : ByteArray) {f i : Nat} (h : f ≤ i) (hi : i < s.size) : s.data.toList.drop f = midL s f i ++ s[i] :: s.data.toList.drop (i + 1) := by
  have e := (List.take_append_drop (i - f) (s.data.toList.drop f)).symm
  have hl : i < s.data.toList.length := by rw [len_bytes]; exact hi
  rw [List.drop_drop, show f + (i - f) = i by omega, List.drop_eq_getElem_cons hl] at e
  simpa [midL, ByteArray.getElem_eq_getElem_data] using e
theorem midL_all (s : ByteArray) (f : Nat) : midL s f s.size = s.data.toList.drop f := by
  unfold midL
  rw [List.take_of_length_le]
  rw [List.length_drop, len_bytes]
  exact Nat.le_refl _
theorem midL_no (s : ByteArray) {f i : Nat} (h : f ≤ i) (hi : i < s.size) (h0 : (10 : UInt8) ∉ midL s f i) (hb : s[i] = 10) : cutAll 10 (s.data.toList.drop f) = midL s f i :: cutAll 10 (s.data.toList.drop (i + 1)) := by
  rw [midL_split s h hi, hb, cutAll_at 10 _ _ h0]
theorem midL_head (s : ByteArray) {f i : Nat} (h : f < i) (hi : i ≤ s.size) : (midL s f i).head? = some (s[f]'(by omega)) := by
  have hl : f < s.data.toList.length := by rw [len_bytes]; omega
  unfold midL
  rw [List.head?_take, if_neg (by omega), List.head?_drop, List.getElem?_eq_getElem hl]
  simp [ByteArray.getElem_eq_getElem_data]
/-- What is left to read: from f on, or nothing. -/
def LeftO (s : ByteArray) (f n : Nat) (acc : List OpR) (R : List OpR × Nat × Int) : Prop := if f ≤ s.size then allR (cutAll 10 (s.data.toList.drop f)) n acc = R else R = (acc, 0, 0)
theorem left_line (s : ByteArray) {f i n : Nat} {acc : List OpR} {R : List OpR × Nat × Int} (h : LeftO s f n acc R) (hf : f ≤ i) (hi : i ≤ s.size) (h0 : (10 : UInt8) ∉ midL s f i) (hb : ∀ h : i < s.size, s[i] = 10) : ∃ ls, allR (midL s f i :: ls) n acc = R ∧ ∀ acc', allR ls (n + 1) acc' = R → LeftO s (i + 1) (n + 1) acc' R := by
  unfold LeftO at h
  rw [if_pos (by omega)] at h
  by_cases hlt : i < s.size
  · rw [midL_no s hf hlt h0 (hb hlt)] at h
    refine ⟨_, h, fun acc' h1 => ?_⟩
    unfold LeftO
    rw [if_pos (by omega)]
    exact h1
  · obtain rfl : i = s.size := by omega
    rw [← midL_all s f, cutAll_no 10 _ h0] at h
    refine ⟨[], h, fun acc' h1 => ?_⟩
    unfold LeftO
    rw [if_neg (by omega), ← h1]
    rfl
theorem opr_src (W : World) (p : OpR) : ∀ (j : Nat) (v : Value), ([.int .i64 p.1, .int .i64 p.2.m, .int .i64 p.2.a, .int .i64 p.2.b, .int .i64 p.2.c, .string p.2.tag] : List Value)[j]? = some v → (W.alloc (.cells #[.int .i64 p.1, .int .i64 p.2.m, .int .i64 p.2.a, .int .i64 p.2.b, .int .i64 p.2.c, .string p.2.tag] 23)).cell? ((⟨W.heap.size, 0, none⟩ : Addr).add j) = some v := by
  intro j v hv
  rw [show (⟨W.heap.size, 0, none⟩ : Addr).add j = ⟨W.heap.size, j, none⟩ by simp [Addr.add]; omega, Row.cell (Row.new (W := W)) j]
  simpa using hv
theorem rparseAll_c (s : ByteArray) (w : World) : Calls Tryz.prog 18 #[.string s] w fun e w' => ParseAllP s w.heap.size e w' ∧ Below w.heap.size w w' := by
  have hsl := len_bytes s
  by_cases hbig : (65536 : Int) < s.size
  · have hp : parseAllR s.data.toList = ([], 0, 10) := by unfold parseAllR; rw [if_pos (by omega)]
    unfold ParseAllP
    rw [hp]
    clear hp
    go_enter Tryz.func18, Tryz.ntmps18
    go_wp2_with fail
    go_returns
    exact ⟨⟨_, rfl, World.ownsRow_nil _ _ _ _⟩, Below.refl _ _⟩
  · have hp : parseAllR s.data.toList = allR (cutAll 10 s.data.toList) 0 [] := by unfold parseAllR; rw [if_neg (by omega)]
    have hss : s.size ≤ 65536 := by omega
    unfold ParseAllP
    rw [hp]
    obtain ⟨i0, hi, hz0, hz1, hz2⟩ := info_parts op_info
    have HI0 := Lib.hid hi
    have HZ0 := Lib.hid hz0
    have HZ1 := Lib.hid hz1
    have HZ2 := Lib.hid hz2
    obtain ⟨R, hR⟩ : ∃ R, allR (cutAll 10 s.data.toList) 0 [] = R := ⟨_, rfl⟩
    rw [hR]
    have HR := Lib.hid (show LeftO s 0 0 [] R by unfold LeftO; rw [if_pos (Nat.zero_le _)]; exact hR)
    clear hi hz0 hz1 hz2 hp hR hsl
    go_enter Tryz.func18, Tryz.ntmps18
    go_wp2_with fail
    go_loopw [5, 6, 7, 8] (fun ov fv nv iv wr => ∃ (f n i : Nat) (acc : List OpR), f ≤ i ∧ i ≤ s.size + 1 ∧ (i = s.size + 1 → f = i) ∧ n ≤ f ∧ acc.length ≤ 2000 ∧ fv = .int .i64 f ∧ nv = .int .i64 n ∧ iv = .int .i64 i ∧ OwnsO w.heap.size wr ov acc ∧ RowKit.Hid (LeftO s f n acc R) ∧ RowKit.Hid ((10 : UInt8) ∉ midL s f i) ∧ Below w.heap.size w wr) (fun _ _ _ iv _ => s.size + 1 - (intOf iv).toNat)
    case atStart => exact ⟨0, 0, 0, [], Nat.le_refl _, by omega, by omega, Nat.le_refl _, by simp, rfl, rfl, rfl, World.ownsRow_nil _ _ _ _, HR, Lib.hid (by rw [midL_self]; simp), Below.refl _ _⟩
    case round =>
      obtain ⟨f, n, i, acc, hfi, his, hend, hnf, hal, rfl, rfl, rfl, ho, hl, hno, hB⟩ := hrel
      obtain ⟨pa, ca, rfl⟩ := (OwnsO.holds ho).len
      have HO := Lib.hid ho
      clear ho
      by_cases hle : i ≤ s.size
      · by_cases hcont : ∃ h : i < s.size, s[i] ≠ 10
        · obtain ⟨hlt, h10⟩ := hcont
          obtain ⟨e0, e1⟩ := byte_neO (m := 10) rfl h10
          have HN := Lib.hid (show (10 : UInt8) ∉ midL s f (i + 1) by
            rw [midL_snoc s hfi hlt, List.mem_append, not_or]
            exact ⟨hno.out, by simpa using fun h => h10 h.symm⟩)
          clear h10 hno hend
          go_wp2_with fail
          refine ⟨⟨f, n, i + 1, acc, by omega, by omega, by omega, hnf, hal, rfl, rfl, by go_num, HO.out, hl, HN, hB⟩, by simp [intOf]; omega⟩
        · have hb : ∀ h : i < s.size, s[i] = 10 := fun h => Classical.byContradiction fun h2 => hcont ⟨h, h2⟩
          obtain ⟨ls, hq, hnext⟩ := left_line s hl.out hfi hle hno.out hb
          have HNX := Lib.hid hnext
          have HQ := Lib.hid hq
          have hxl : (s.extract f i).data.toList = midL s f i := midL_data s f i
          have hxs : (s.extract f i).size ≤ 65536 := by rw [← len_bytes, hxl]; unfold midL; rw [List.length_take, List.length_drop, len_bytes]; omega
          have f0 : (0 : Int) ≤ (f : Int) := by omega
          have f1 : (f : Int) ≤ (i : Int) := by omega
          have f2 : (i : Int) ≤ (s.size : Int) := by omega
          have x1 : wrap64 ((n : Int) + 1) = (n : Int) + 1 := IntWalk.wrap64_in _ ⟨by omega, by omega⟩
          have hguard : (i < s.size ∧ True) ∨ (¬ i < s.size ∧ True) := by by_cases h : i < s.size; exact .inl ⟨h, trivial⟩; exact .inr ⟨h, trivial⟩
          clear hl hno hq hnext hcont hend
          rcases hguard with ⟨hg, -⟩ | ⟨hg, -⟩
          · have hg0 : i < s.size := hg
            obtain ⟨g1, g2⟩ := byte_eqO (m := 10) rfl (hb hg0)
            clear hb
            by_cases hem : midL s f i = []
            · have q : allR ls (n + 1) acc = R := by rw [← HQ.out, allR, if_pos (by unfold skipL; rw [hem]; rfl)]
              have HL2 := HNX.out acc q
              have f5 : (s.extract f i).toList.isEmpty = true := by rw [ByteArray.toList_eq, hxl, hem]; rfl
              have f6 : ((s.extract f i).toList == (⟨#[]⟩ : ByteArray).toList) = true := by rw [ByteArray.toList_eq, ByteArray.toList_eq, hxl, hem]; rfl
              have HL3 := Lib.hid HL2
              clear HL2 q HQ HNX hem
              go_wp2_with fail
              refine ⟨⟨i + 1, n + 1, i + 1, acc, Nat.le_refl _, by omega, by omega, by omega, hal, by go_num, by go_num, by go_num, HO.out, HL3, Lib.hid (by rw [midL_self]; simp), hB⟩, by simp [intOf]; omega⟩
            have hfi2 : f < i := by
              rcases Nat.lt_or_ge f i with h | h
              · exact h
              · exact absurd (by rw [show i = f by omega, midL_self]) hem
            have hfs : f < s.size := by omega
            have f5 : (s.extract f i).toList.isEmpty = false := by
              cases h : (s.extract f i).toList.isEmpty with
              | false => rfl
              | true => rw [List.isEmpty_iff, ByteArray.toList_eq, hxl] at h; exact absurd h hem
            have f6 : ((s.extract f i).toList == (⟨#[]⟩ : ByteArray).toList) = false := by
              rw [beq_eq_false_iff_ne, ByteArray.toList_eq, ByteArray.toList_eq, hxl]
              exact hem
            have q1 : (0 : Int) < ((i - f : Nat) : Int) := by omega
            have hhd := midL_head s hfi2 hle
            have hp0 : 0 < (s.extract f i).size := by rw [← len_bytes, hxl]; exact List.length_pos_iff.2 hem
            have hx0 : (s.extract f i)[0]'hp0 = s[f] := by have h := head_atO (s.extract f i) hp0; rw [hxl, hhd] at h; exact (Option.some.inj h).symm
            by_cases h35 : s[f] = 35
            · have q : allR ls (n + 1) acc = R := by rw [← HQ.out, allR, if_pos (by unfold skipL; rw [hhd, h35]; simp)]
              have HL3 := Lib.hid (HNX.out acc q)
              have f7 := (byte_eqO (m := 35) rfl (hx0.trans h35)).1
              clear q HQ HNX hem hhd h35 hx0
              go_wp2_with fail
              refine ⟨⟨i + 1, n + 1, i + 1, acc, Nat.le_refl _, by omega, by omega, by omega, hal, by go_num, by go_num, by go_num, HO.out, HL3, Lib.hid (by rw [midL_self]; simp), hB⟩, by simp [intOf]; omega⟩
            have f7 := (byte_neO (m := 35) rfl (fun e => h35 (hx0.symm.trans e))).1
            have hsk : skipL (midL s f i) = false := by
              unfold skipL
              rw [hhd]
              cases hm : midL s f i with
              | nil => exact absurd hm hem
              | cons x t => simpa using h35
            clear hem hhd h35 hx0
            by_cases h2000 : acc.length = 2000
            · have q : R = ([], n + 1, 11) := by rw [← HQ.out, allR, if_neg (by rw [hsk]; decide), if_pos h2000]
              have HQ2 := Lib.hid q
              have q3 : (2000 : Int) ≤ (acc.length : Int) := by omega
              clear q hsk h2000 HQ HNX
              go_wp2_with fail
              go_returns
              rw [HQ2.out]
              exact ⟨⟨_, by simp, World.ownsRow_nil _ _ _ _⟩, hB⟩
            have q3 : ¬ (2000 : Int) ≤ (acc.length : Int) := by omega
            have hal2 : acc.length + 1 ≤ 2000 := by omega
            have cp := fun W => rparseO_c (s.extract f i) (by omega) W
            rw [hxl] at cp
            cases hrd : readOp (midL s f i) with
            | none =>
              have q : R = ([], n + 1, 9) := by rw [← HQ.out, allR, if_neg (by rw [hsk]; decide), if_neg h2000, hrd]
              have HQ2 := Lib.hid q
              rw [hrd] at cp
              have cp2 : ∀ W, Ret 16 #[.string (s.extract f i)] W (.tuple #[.agg #[.int .i64 0, .int .i64 0, .int .i64 0, .int .i64 0, .int .i64 0, .string ⟨#[]⟩], .int .i64 9]) := cp
              have CPH := Lib.hid cp2
              clear cp cp2 hrd q hsk h2000 HQ HNX HO hxl
              go_wp2_with fail
              refine Calls.mono (CPH.out _) ?_
              rintro e W2 ⟨rfl, hn⟩
              replace hB := chain hB hn
              clear hn
              go_wp2_with fail
              go_returns
              rw [HQ2.out]
              exact ⟨⟨_, by simp, World.ownsRow_nil _ _ _ _⟩, by first | exact hB | exact hB.alloc hB.size _⟩
            | some p =>
              have q : allR ls (n + 1) (acc ++ [p]) = R := by rw [← HQ.out, allR, if_neg (by rw [hsk]; decide), if_neg h2000, hrd]
              have HL3 := Lib.hid (HNX.out _ q)
              rw [hrd] at cp
              have cp2 : ∀ W, Ret 16 #[.string (s.extract f i)] W (.tuple #[opRV p, .int .i64 0]) := cp
              have CPH := Lib.hid cp2
              clear cp cp2 hrd q hsk h2000 HQ HNX hxl
              go_wp2_with fail
              refine Calls.mono (CPH.out _) ?_
              rintro e W2 ⟨rfl, hn⟩
              replace hB := chain hB hn
              replace HO : RowKit.Hid (OwnsO w.heap.size W2 _ acc) := Lib.hid (OwnsO.on HO.out hn)
              clear hn CPH
              go_upto_region 16 with fail
              have hn := below_alloc W2 (.cells #[.int .i64 p.1, .int .i64 p.2.m, .int .i64 p.2.a, .int .i64 p.2.b, .int .i64 p.2.c, .string p.2.tag] 23)
              have r9 := Row.new (W := W2) (cs := #[.int .i64 p.1, .int .i64 p.2.m, .int .i64 p.2.a, .int .i64 p.2.b, .int .i64 p.2.c, .string p.2.tag]) (t := 23)
              replace hB := chain hB hn
              replace HO : RowKit.Hid (OwnsO w.heap.size (W2.alloc (.cells #[.int .i64 p.1, .int .i64 p.2.m, .int .i64 p.2.a, .int .i64 p.2.b, .int .i64 p.2.c, .string p.2.tag] 23)) _ acc) := Lib.hid (OwnsO.on HO.out hn)
              clear hn
              generalize W2.alloc (.cells #[.int .i64 p.1, .int .i64 p.2.m, .int .i64 p.2.a, .int .i64 p.2.b, .int .i64 p.2.c, .string p.2.tag] 23) = W3 at *
              generalize W2.heap.size = b9 at *
              have y9 := r9.cell
              have z9 := r9.lt
              have hB4 := hB.alloc hB.size (.cells #[.int .i64 p.1, .int .i64 p.2.m, .int .i64 p.2.a, .int .i64 p.2.b, .int .i64 p.2.c, .string p.2.tag] 23)
              have HO4 := Lib.hid (OwnsO.on HO.out (below_alloc W3 (.cells #[.int .i64 p.1, .int .i64 p.2.m, .int .i64 p.2.a, .int .i64 p.2.b, .int .i64 p.2.c, .string p.2.tag] 23)))
              have HSRC := Lib.hid (opr_src W3 p)
              have hBs := hB.size
              clear HO
              go_wp2_with (at_builtin; refine wpList_append_own _ rfl _ _ 34 rfl w.heap.size 23 i0 (.agg #[.int .i64 0, .int .i64 0, .int .i64 0, .int .i64 0, .int .i64 0, .string ⟨#[]⟩]) 6 56 Tryz.underlying34 HI0.out HZ0.out HZ1.out HZ2.out rfl (by decide) _ _ _ rfl HO4.out ⟨W3.heap.size, 0, none⟩ 1 1 [.int .i64 p.1, .int .i64 p.2.m, .int .i64 p.2.a, .int .i64 p.2.b, .int .i64 p.2.c, .string p.2.tag] rfl rfl HSRC.out (by intro u hu; simp at hu; rcases hu with rfl | rfl | rfl | rfl | rfl | rfl <;> rfl) (by unfold maxLen; omega) (by omega) (by simp; omega) ?_; intro v' w9 hown' hgrow hnil; have HOWN := Lib.hid hown'; have HGR := Lib.hid hgrow; clear hown' hgrow hnil)
              have hlo := fun k hk => (World.ownsRow.lt HO4.out k hk).1
              have hB6 : Below w.heap.size w w9 := hB4.grown HGR.out (by simp; omega) hlo
              refine ⟨⟨i + 1, n + 1, i + 1, acc ++ [p], Nat.le_refl _, by omega, by omega, by omega, by rw [List.length_append]; exact hal2, by go_num, by go_num, by go_num, ?_, HL3, Lib.hid (by rw [midL_self]; simp), hB6⟩, by simp [intOf]; omega⟩
              unfold OwnsO
              rw [cellsO_snoc, List.length_append]
              exact HOWN.out
          · have g1 : ¬ (i : Int) < (s.size : Int) := by omega
            clear hb
            by_cases hem : midL s f i = []
            · have q : allR ls (n + 1) acc = R := by rw [← HQ.out, allR, if_pos (by unfold skipL; rw [hem]; rfl)]
              have HL2 := HNX.out acc q
              have f5 : (s.extract f i).toList.isEmpty = true := by rw [ByteArray.toList_eq, hxl, hem]; rfl
              have f6 : ((s.extract f i).toList == (⟨#[]⟩ : ByteArray).toList) = true := by rw [ByteArray.toList_eq, ByteArray.toList_eq, hxl, hem]; rfl
              have HL3 := Lib.hid HL2
              clear HL2 q HQ HNX hem
              go_wp2_with fail
              refine ⟨⟨i + 1, n + 1, i + 1, acc, Nat.le_refl _, by omega, by omega, by omega, hal, by go_num, by go_num, by go_num, HO.out, HL3, Lib.hid (by rw [midL_self]; simp), hB⟩, by simp [intOf]; omega⟩
            have hfi2 : f < i := by
              rcases Nat.lt_or_ge f i with h | h
              · exact h
              · exact absurd (by rw [show i = f by omega, midL_self]) hem
            have hfs : f < s.size := by omega
            have f5 : (s.extract f i).toList.isEmpty = false := by
              cases h : (s.extract f i).toList.isEmpty with
              | false => rfl
              | true => rw [List.isEmpty_iff, ByteArray.toList_eq, hxl] at h; exact absurd h hem
            have f6 : ((s.extract f i).toList == (⟨#[]⟩ : ByteArray).toList) = false := by
              rw [beq_eq_false_iff_ne, ByteArray.toList_eq, ByteArray.toList_eq, hxl]
              exact hem
            have q1 : (0 : Int) < ((i - f : Nat) : Int) := by omega
            have hhd := midL_head s hfi2 hle
            have hp0 : 0 < (s.extract f i).size := by rw [← len_bytes, hxl]; exact List.length_pos_iff.2 hem
            have hx0 : (s.extract f i)[0]'hp0 = s[f] := by have h := head_atO (s.extract f i) hp0; rw [hxl, hhd] at h; exact (Option.some.inj h).symm
            by_cases h35 : s[f] = 35
            · have q : allR ls (n + 1) acc = R := by rw [← HQ.out, allR, if_pos (by unfold skipL; rw [hhd, h35]; simp)]
              have HL3 := Lib.hid (HNX.out acc q)
              have f7 := (byte_eqO (m := 35) rfl (hx0.trans h35)).1
              clear q HQ HNX hem hhd h35 hx0
              go_wp2_with fail
              refine ⟨⟨i + 1, n + 1, i + 1, acc, Nat.le_refl _, by omega, by omega, by omega, hal, by go_num, by go_num, by go_num, HO.out, HL3, Lib.hid (by rw [midL_self]; simp), hB⟩, by simp [intOf]; omega⟩
            have f7 := (byte_neO (m := 35) rfl (fun e => h35 (hx0.symm.trans e))).1
            have hsk : skipL (midL s f i) = false := by
              unfold skipL
              rw [hhd]
              cases hm : midL s f i with
              | nil => exact absurd hm hem
              | cons x t => simpa using h35
            clear hem hhd h35 hx0
            by_cases h2000 : acc.length = 2000
            · have q : R = ([], n + 1, 11) := by rw [← HQ.out, allR, if_neg (by rw [hsk]; decide), if_pos h2000]
              have HQ2 := Lib.hid q
              have q3 : (2000 : Int) ≤ (acc.length : Int) := by omega
              clear q hsk h2000 HQ HNX
              go_wp2_with fail
              go_returns
              rw [HQ2.out]
              exact ⟨⟨_, by simp, World.ownsRow_nil _ _ _ _⟩, hB⟩
            have q3 : ¬ (2000 : Int) ≤ (acc.length : Int) := by omega
            have hal2 : acc.length + 1 ≤ 2000 := by omega
            have cp := fun W => rparseO_c (s.extract f i) (by omega) W
            rw [hxl] at cp
            cases hrd : readOp (midL s f i) with
            | none =>
              have q : R = ([], n + 1, 9) := by rw [← HQ.out, allR, if_neg (by rw [hsk]; decide), if_neg h2000, hrd]
              have HQ2 := Lib.hid q
              rw [hrd] at cp
              have cp2 : ∀ W, Ret 16 #[.string (s.extract f i)] W (.tuple #[.agg #[.int .i64 0, .int .i64 0, .int .i64 0, .int .i64 0, .int .i64 0, .string ⟨#[]⟩], .int .i64 9]) := cp
              have CPH := Lib.hid cp2
              clear cp cp2 hrd q hsk h2000 HQ HNX HO hxl
              go_wp2_with fail
              refine Calls.mono (CPH.out _) ?_
              rintro e W2 ⟨rfl, hn⟩
              replace hB := chain hB hn
              clear hn
              go_wp2_with fail
              go_returns
              rw [HQ2.out]
              exact ⟨⟨_, by simp, World.ownsRow_nil _ _ _ _⟩, by first | exact hB | exact hB.alloc hB.size _⟩
            | some p =>
              have q : allR ls (n + 1) (acc ++ [p]) = R := by rw [← HQ.out, allR, if_neg (by rw [hsk]; decide), if_neg h2000, hrd]
              have HL3 := Lib.hid (HNX.out _ q)
              rw [hrd] at cp
              have cp2 : ∀ W, Ret 16 #[.string (s.extract f i)] W (.tuple #[opRV p, .int .i64 0]) := cp
              have CPH := Lib.hid cp2
              clear cp cp2 hrd q hsk h2000 HQ HNX hxl
              go_wp2_with fail
              refine Calls.mono (CPH.out _) ?_
              rintro e W2 ⟨rfl, hn⟩
              replace hB := chain hB hn
              replace HO : RowKit.Hid (OwnsO w.heap.size W2 _ acc) := Lib.hid (OwnsO.on HO.out hn)
              clear hn CPH
              go_upto_region 16 with fail
              have hn := below_alloc W2 (.cells #[.int .i64 p.1, .int .i64 p.2.m, .int .i64 p.2.a, .int .i64 p.2.b, .int .i64 p.2.c, .string p.2.tag] 23)
              have r9 := Row.new (W := W2) (cs := #[.int .i64 p.1, .int .i64 p.2.m, .int .i64 p.2.a, .int .i64 p.2.b, .int .i64 p.2.c, .string p.2.tag]) (t := 23)
              replace hB := chain hB hn
              replace HO : RowKit.Hid (OwnsO w.heap.size (W2.alloc (.cells #[.int .i64 p.1, .int .i64 p.2.m, .int .i64 p.2.a, .int .i64 p.2.b, .int .i64 p.2.c, .string p.2.tag] 23)) _ acc) := Lib.hid (OwnsO.on HO.out hn)
              clear hn
              generalize W2.alloc (.cells #[.int .i64 p.1, .int .i64 p.2.m, .int .i64 p.2.a, .int .i64 p.2.b, .int .i64 p.2.c, .string p.2.tag] 23) = W3 at *
              generalize W2.heap.size = b9 at *
              have y9 := r9.cell
              have z9 := r9.lt
              have hB4 := hB.alloc hB.size (.cells #[.int .i64 p.1, .int .i64 p.2.m, .int .i64 p.2.a, .int .i64 p.2.b, .int .i64 p.2.c, .string p.2.tag] 23)
              have HO4 := Lib.hid (OwnsO.on HO.out (below_alloc W3 (.cells #[.int .i64 p.1, .int .i64 p.2.m, .int .i64 p.2.a, .int .i64 p.2.b, .int .i64 p.2.c, .string p.2.tag] 23)))
              have HSRC := Lib.hid (opr_src W3 p)
              have hBs := hB.size
              clear HO
              go_wp2_with (at_builtin; refine wpList_append_own _ rfl _ _ 34 rfl w.heap.size 23 i0 (.agg #[.int .i64 0, .int .i64 0, .int .i64 0, .int .i64 0, .int .i64 0, .string ⟨#[]⟩]) 6 56 Tryz.underlying34 HI0.out HZ0.out HZ1.out HZ2.out rfl (by decide) _ _ _ rfl HO4.out ⟨W3.heap.size, 0, none⟩ 1 1 [.int .i64 p.1, .int .i64 p.2.m, .int .i64 p.2.a, .int .i64 p.2.b, .int .i64 p.2.c, .string p.2.tag] rfl rfl HSRC.out (by intro u hu; simp at hu; rcases hu with rfl | rfl | rfl | rfl | rfl | rfl <;> rfl) (by unfold maxLen; omega) (by omega) (by simp; omega) ?_; intro v' w9 hown' hgrow hnil; have HOWN := Lib.hid hown'; have HGR := Lib.hid hgrow; clear hown' hgrow hnil)
              have hlo := fun k hk => (World.ownsRow.lt HO4.out k hk).1
              have hB6 : Below w.heap.size w w9 := hB4.grown HGR.out (by simp; omega) hlo
              refine ⟨⟨i + 1, n + 1, i + 1, acc ++ [p], Nat.le_refl _, by omega, by omega, by omega, by rw [List.length_append]; exact hal2, by go_num, by go_num, by go_num, ?_, HL3, Lib.hid (by rw [midL_self]; simp), hB6⟩, by simp [intOf]; omega⟩
              unfold OwnsO
              rw [cellsO_snoc, List.length_append]
              exact HOWN.out
      · have hi2 : i = s.size + 1 := by omega
        have hf2 := hend hi2
        have q := hl.out
        unfold LeftO at q
        rw [if_neg (by omega)] at q
        have HQ := Lib.hid q
        have g1 : ¬ (i : Int) ≤ (s.size : Int) := by omega
        clear q hl hno hend hf2 hi2
        go_wp2_with fail
        go_returns
        rw [HQ.out]
        exact ⟨⟨_, rfl, HO.out⟩, hB⟩
end Go.Proofs.YthkngleegefgbaaGreatDoor
