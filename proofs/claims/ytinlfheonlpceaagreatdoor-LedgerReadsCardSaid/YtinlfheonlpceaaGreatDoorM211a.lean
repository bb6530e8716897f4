/- The reference of chapter 07: Parse. -/
import Derived.Test.YtinlfheonlpceaaGreatDoorM181a
import Derived.Test.YtinlfheonlpceaaGreatDoorL1a
namespace Go.Proofs.YtinlfheonlpceaaGreatDoor
open Go.RowKit
set_option linter.unusedVariables false
set_option linter.unusedSimpArgs false
set_option maxHeartbeats 16000000
set_option maxRecDepth 20000
/-- The bytes from f up to i. -/
def midL (s : ByteArray) (f i : Nat) : List UInt8 := (s.data.toList.drop f).take (i - f)
theorem midL_data (s : ByteArray) (f i : Nat) : (s.extract f i).data.toList = midL s f i := Lib.extract_data s f i
theorem midL_self (s : ByteArray) (f : Nat) : midL s f f = [] := by unfold midL; rw [Nat.sub_self, List.take_zero]
theorem midL_snoc (s : ByteArray) {f i : Nat} (h : f ≤ i) (hi : i < s.size) : midL s f (i + 1) = midL s f i ++ [s[i]] := by
  unfold midL
  have hl : i < s.data.toList.length := by rw [len_bytes]; exact hi
  have e : (s.data.toList.drop f)[i - f]? = some s[i] := by
    rw [List.getElem?_drop, show f + (i - f) = i by omega, List.getElem?_eq_getElem hl]
    simp [ByteArray.getElem_eq_getElem_data]
  rw [show i + 1 - f = (i - f) + 1 by omega, List.take_add_one, e]
  rfl
theorem midL_split (s : ByteArray) {f i : Nat} (h : f ≤ i) (hi : i < s.size) : s.data.toList.drop f = midL s f i ++ s[i] :: s.data.toList.drop (i + 1) := by
  have e := (List.take_append_drop (i - f) (s.data.toList.drop f)).symm
  have hl : i < s.data.toList.length := by rw [len_bytes]; exact hi
  rw [List.drop_drop, show f + (i - f) = i by omega, List.drop_eq_getElem_cons hl] at e
  simpa [midL, ByteArray.getElem_eq_getElem_data] using e
theorem midL_all (s : ByteArray) (f : Nat) : midL s f s.size = s.data.toList.drop f := by
  unfold midL
  rw [List.take_of_length_le]
  rw [List.length_drop, len_bytes]
  exact Nat.le_refl _
theorem rparse_c (s : ByteArray) (w : World) : Calls Tryz.prog 22 #[.string s] w fun e w' => ParseP s w.heap.size e w' ∧ Below w.heap.size w w' := by
  have hsl := len_bytes s
  by_cases hbig : (65536 : Int) < s.size
  · have hp : parseA s.data.toList = ([], 0, 10) := by unfold parseA; rw [if_pos (by omega)]
    unfold ParseP
    rw [hp]
    clear hp
    go_enter Tryz.func22, Tryz.ntmps22
    go_wp2_with fail
    go_returns
    exact ⟨⟨_, rfl, OwnsA.nil _ _⟩, Below.refl _ _⟩
  · have hp : parseA s.data.toList = leftR s.data.toList [] := by unfold parseA leftR; rw [if_neg (by omega)]
    have hss : s.size ≤ 65536 := by omega
    unfold ParseP
    rw [hp]
    obtain ⟨i0, hi, hz0, hz1, hz2⟩ := info_parts at_info
    have HI0 := Lib.hid hi
    have HZ0 := Lib.hid hz0
    have HZ1 := Lib.hid hz1
    have HZ2 := Lib.hid hz2
    obtain ⟨R, hR⟩ : ∃ R, leftR s.data.toList [] = R := ⟨_, rfl⟩
    rw [hR]
    have HR := Lib.hid hR
    clear hi hz0 hz1 hz2 hp hR hsl
    go_enter Tryz.func22, Tryz.ntmps22
    go_wp2_with fail
    go_loopw [5, 6, 7] (fun ov fv iv wr => ∃ (f i : Nat) (acc : List AtR), f ≤ i ∧ i ≤ s.size ∧ fv = .int .i64 f ∧ iv = .int .i64 i ∧ OwnsA w.heap.size wr ov acc ∧ RowKit.Hid (leftR (s.data.toList.drop f) acc = R) ∧ RowKit.Hid ((10 : UInt8) ∉ midL s f i) ∧ acc.length ≤ f ∧ Below w.heap.size w wr) (fun _ _ iv _ => s.size - (intOf iv).toNat)
    case atStart => exact ⟨0, 0, [], Nat.le_refl _, Nat.zero_le _, rfl, rfl, OwnsA.nil _ _, HR, Lib.hid (by rw [midL_self]; simp), Nat.le_refl _, Below.refl _ _⟩
    case round =>
      obtain ⟨f, i, acc, hfi, his, rfl, rfl, ho, hl, hno, hlen, hB⟩ := hrel
      obtain ⟨pa, ca, rfl⟩ := ho.holds.len
      have HO := Lib.hid ho
      clear ho
      have x1 : wrap64 ((acc.length : Int) + 1) = (acc.length : Int) + 1 := IntWalk.wrap64_in _ ⟨by omega, by omega⟩
      by_cases hlt : i < s.size
      · by_cases h10 : s[i] = 10
        · obtain ⟨e1, -⟩ := byte_eq (m := 10) rfl h10
          have hsp := midL_split s hfi hlt
          rw [h10] at hsp
          have cp := fun W => rread_c (s.extract f i) W (by rw [← len_bytes, midL_data, midL, List.length_take, List.length_drop, len_bytes]; omega)
          rw [midL_data] at cp
          have f0 : (0 : Int) ≤ (f : Int) := by omega
          have f1 : (f : Int) ≤ (i : Int) := by omega
          have f2 : (i : Int) ≤ (s.size : Int) := by omega
          cases hrd : readA (midL s f i) with
          | none =>
            have hq : leftR (s.data.toList.drop f) acc = ([], acc.length + 1, 9) := by
              rw [hsp]
              exact leftR_bad hno.out (fun p hp => by rw [readA_some hp] at hrd; cases hrd) acc
            rw [hl.out] at hq
            rw [hrd] at cp
            have cp2 : ∀ W, Ret 69 #[.string (s.extract f i)] W (.tuple #[atV at0, .bool false]) := cp
            have CP := Lib.hid cp2
            have E1 := Lib.hid hq
            clear cp cp2 hrd hq hl hsp hno h10 HO
            go_wp2_with fail
            refine Calls.mono (CP.out _) ?_
            rintro e W2 ⟨rfl, hn⟩
            replace hB := chain hB hn
            clear hn
            go_wp2_with fail
            go_returns
            rw [E1.out]
            exact ⟨⟨_, by simp, OwnsA.nil _ _⟩, by first | exact hB | exact hB.alloc hB.size _⟩
          | some p =>
            have hpi := readA_ok hrd
            have hq : leftR (s.data.toList.drop f) acc = leftR (s.data.toList.drop (i + 1)) (acc ++ [p]) := by
              rw [hsp]
              exact leftR_ok hno.out hpi acc
            rw [hl.out] at hq
            rw [hrd] at cp
            have cp2 : ∀ W, Ret 69 #[.string (s.extract f i)] W (.tuple #[atV p, .bool true]) := cp
            have CP := Lib.hid cp2
            have E1 := Lib.hid hq
            clear cp cp2 hrd hq hl hsp hno h10 hpi
            go_wp2_with fail
            refine Calls.mono (CP.out _) ?_
            rintro e W2 ⟨rfl, hn⟩
            replace hB := chain hB hn
            replace HO : RowKit.Hid (OwnsA w.heap.size W2 _ acc) := HO.out.on hn
            clear hn CP
            go_upto_region 10 with fail
            have hn := below_alloc W2 (.cells (atC p) 43)
            have r9 := Row.new (W := W2) (cs := atC p) (t := 43)
            replace hB := chain hB hn
            replace HO : RowKit.Hid (OwnsA w.heap.size (W2.alloc (.cells (atC p) 43)) _ acc) := HO.out.on hn
            clear hn
            generalize W2.alloc (.cells (atC p) 43) = W3 at *
            generalize W2.heap.size = b9 at *
            have y9 := r9.cell
            have z9 := r9.lt
            have hB4 := hB.alloc hB.size (.cells (atC p) 43)
            have HO4 := Lib.hid (HO.out.on (below_alloc W3 (.cells (atC p) 43)))
            have HSRC := Lib.hid (at_src W3 p)
            have hBs := hB.size
            have f3 : (0 : Int) ≤ (i : Int) + 1 := by omega
            clear HO
            go_wp2_with (at_builtin; refine wpList_append_own _ rfl _ _ 26 rfl w.heap.size 43 i0 (.agg #[.int .i64 0, .int .i64 0, .int .i64 0, .int .u32 0, .int .i64 0, .int .i64 0]) 6 48 Tryz.underlying26 HI0.out HZ0.out HZ1.out HZ2.out rfl (by decide) _ _ _ rfl HO4.out ⟨W3.heap.size, 0, none⟩ 1 1 (atL p) rfl rfl HSRC.out (by intro u hu; simp at hu; rcases hu with rfl | rfl | rfl | rfl | rfl | rfl <;> rfl) (by unfold maxLen; omega) (by omega) (by simp; omega) ?_; intro v' w9 hown' hgrow hnil; have HOWN := Lib.hid hown'; have HGR := Lib.hid hgrow; clear hown' hgrow hnil)
            have hlo := fun k hk => (World.ownsRow.lt HO4.out k hk).1
            have hB6 : Below w.heap.size w w9 := hB4.grown HGR.out (by simp; omega) hlo
            refine ⟨⟨i + 1, i + 1, acc ++ [p], Nat.le_refl _, by omega, by go_num, by go_num, ?_, ?_, ?_, ?_, hB6⟩, ?_⟩
            · unfold OwnsA
              rw [cellsA_snoc, List.length_append]
              exact HOWN.out
            · exact Lib.hid (by rw [← E1.out])
            · exact Lib.hid (by rw [midL_self]; simp)
            · rw [List.length_append, List.length_singleton]; omega
            · simp [intOf]; omega
        · obtain ⟨e1, -⟩ := byte_ne (m := 10) rfl h10
          have HN := Lib.hid (show (10 : UInt8) ∉ midL s f (i + 1) by
            rw [midL_snoc s hfi hlt, List.mem_append, not_or]
            exact ⟨hno.out, by simpa using fun h => h10 h.symm⟩)
          clear h10 hno
          go_wp2_with fail
          refine ⟨⟨f, i + 1, acc, by omega, by omega, rfl, by go_num, HO.out, hl, HN, hlen, hB⟩, by simp [intOf]; omega⟩
      · obtain rfl : i = s.size := by omega
        have hd : midL s f s.size = s.data.toList.drop f := midL_all s f
        by_cases hfl : f < s.size
        · have hq := leftR_no (s := s.data.toList.drop f) (by rw [← hd]; exact hno.out) (fun e => by have := congrArg List.length e; rw [List.length_drop, len_bytes] at this; simp at this; omega) acc
          rw [hl.out] at hq
          have E1 := Lib.hid hq
          have f1 : (f : Int) < (s.size : Int) := by omega
          clear hq hl hd hno HO
          go_wp2_with fail
          go_returns
          rw [E1.out]
          exact ⟨⟨_, by simp, OwnsA.nil _ _⟩, hB⟩
        · have hq := hl.out
          rw [List.drop_eq_nil_of_le (by rw [len_bytes]; omega), leftR_nil] at hq
          have E1 := Lib.hid hq
          have f1 : ¬ (f : Int) < (s.size : Int) := by omega
          clear hq hl hd hno
          go_wp2_with fail
          go_returns
          rw [← E1.out]
          exact ⟨⟨_, rfl, HO.out⟩, hB⟩
end Go.Proofs.YtinlfheonlpceaaGreatDoor
