/- The reference's Parse of counts. -/
import Derived.Test.YtjebicdlbknemaaDoorStRef1
import Derived.Test.YtjebicdlbknemaaDoorStWords
import Derived.Deep.LoopGhost
namespace Go.Proofs.YtjebicdlbknemaaDoor
open Go.RowKit
open Go.Lib (decDigits)
set_option linter.unusedVariables false
set_option linter.unusedSimpArgs false
theorem cutAll_len (c : UInt8) (l : List UInt8) : (cutAll c l).length ≤ l.length + 1 := by
  induction l with
  | nil => simp [cutAll]
  | cons b l ih =>
    rw [cutAll_cons]
    split
    · simp
      omega
    · cases hc : cutAll c l with
      | nil => exact absurd hc (cutAll_ne c l)
      | cons h t =>
        rw [hc] at ih
        simp at ih ⊢
        omega
def okw (ws : List (List UInt8)) (j : Nat) : Prop := numB (ws.getD (2 * j + 1) []) = true ∧ numV (ws.getD (2 * j + 1) []) ≤ 10000
def nval (ws : List (List UInt8)) (m j : Nat) : Int := if 2 * j + 1 < m then numV (ws.getD (2 * j + 1) []) else 0
def nrow (ws : List (List UInt8)) (m : Nat) : Array Value := #[.int .i64 (nval ws m 0), .int .i64 (nval ws m 1), .int .i64 (nval ws m 2), .int .i64 (nval ws m 3), .int .i64 (nval ws m 4)]
theorem nrow_keep (ws : List (List UInt8)) (m : Nat) (h : m ≠ 1 ∧ m ≠ 3 ∧ m ≠ 5 ∧ m ≠ 7 ∧ m ≠ 9) : nrow ws (m + 1) = nrow ws m := by
  have e : ∀ j, j < 5 → nval ws (m + 1) j = nval ws m j := fun j hj => by
    unfold nval
    have : (2 * j + 1 < m + 1) ↔ (2 * j + 1 < m) := by
      rcases (by omega : j = 0 ∨ j = 1 ∨ j = 2 ∨ j = 3 ∨ j = 4) with rfl | rfl | rfl | rfl | rfl <;> omega
    simp only [this]
  unfold nrow
  rw [e 0 (by omega), e 1 (by omega), e 2 (by omega), e 3 (by omega), e 4 (by omega)]
theorem okw_step {ws : List (List UInt8)} {m : Nat} (h : ∀ j, j < 5 → 2 * j + 1 < m → okw ws j) (hm : ∀ j, j < 5 → m = 2 * j + 1 → okw ws j) : ∀ j, j < 5 → 2 * j + 1 < m + 1 → okw ws j := fun j hj hl => by
  rcases Nat.lt_or_ge (2 * j + 1) m with h1 | h1
  · exact h j hj h1
  · exact hm j hj (by omega)
/-- Where the loop stands: in the word m, or behind the last one. -/
def Stand (x : ByteArray) (k S m : Nat) : Prop := (m < (cutAll 32 x.data.toList).length ∧ S = startW (cutAll 32 x.data.toList) m ∧ S ≤ k ∧ k ≤ S + ((cutAll 32 x.data.toList).getD m []).length) ∨ (m = (cutAll 32 x.data.toList).length ∧ k = x.size + 1)
set_option maxHeartbeats 64000000 in
set_option maxRecDepth 20000 in
theorem rparse_any (x : ByteArray) (hs : x.size ≤ 100000) (w : World) (V : Value) (er : Int)
    (hbad : (∃ j, j < 5 ∧ 2 * j + 1 < (cutAll 32 x.data.toList).length ∧ ¬ okw (cutAll 32 x.data.toList) j) → V = stV 0 0 0 0 0 ∧ er = 9)
    (hfin : (∀ j, j < 5 → 2 * j + 1 < (cutAll 32 x.data.toList).length → okw (cutAll 32 x.data.toList) j) → ∃ (v0 v1 v2 v3 v4 : Int) (T : ByteArray) (e' : Int), nrow (cutAll 32 x.data.toList) (cutAll 32 x.data.toList).length = #[.int .i64 v0, .int .i64 v1, .int .i64 v2, .int .i64 v3, .int .i64 v4] ∧
      (∀ w, Ret 20 #[stV v0 v1 v2 v3 v4] w (.tuple #[.string T, .int .i64 e'])) ∧
      ((e' = 0 ∧ (T.toList == x.toList) = true ∧ V = stV v0 v1 v2 v3 v4 ∧ er = 0) ∨ ((e' = 2 ∨ (e' = 0 ∧ (T.toList == x.toList) = false)) ∧ V = stV 0 0 0 0 0 ∧ er = 9))) :
    Ret 22 #[.string x] w (.tuple #[V, .int .i64 er]) := by
  have HW := Lib.hid (fun m hm => word_at x m hm)
  have HB := Lib.hid hbad
  have HF := Lib.hid hfin
  have hsucc := fun m hm => startW_succ (cutAll 32 x.data.toList) m hm
  have HS := Lib.hid hsucc
  have hcl := cutAll_len 32 x.data.toList
  rw [len_bytes] at hcl
  have hz : (cutAll 32 x.data.toList).length ≠ 0 := by
    intro h
    exact cutAll_ne 32 x.data.toList (List.eq_nil_of_length_eq_zero h)
  have HZ := Lib.hid hz
  have HST : ∀ k S m, Stand x k S m = ((m < (cutAll 32 x.data.toList).length ∧ S = startW (cutAll 32 x.data.toList) m ∧ S ≤ k ∧ k ≤ S + ((cutAll 32 x.data.toList).getD m []).length) ∨ (m = (cutAll 32 x.data.toList).length ∧ k = x.size + 1)) := fun k S m => rfl
  have HT := Lib.hid HST
  clear hbad hfin hsucc hz HST
  go_enter Tryd.func22, Tryd.ntmps22
  go_wp2_with fail
  go_loopw [5, 6, 7] (fun at_ wd i wr => ∃ k S m : Nat, i = .int .i64 k ∧ at_ = .int .i64 S ∧ wd = .int .i64 m ∧ Stand x k S m ∧ S ≤ 200000 ∧ m ≤ 200000 ∧ k ≤ x.size + 1 ∧
      Row wr w.heap.size #[.int .i64 0, .int .i64 0, .int .i64 0, .int .i64 0, .int .i64 0] 24 ∧ Row wr (w.heap.size + 1) (nrow (cutAll 32 x.data.toList) m) 70 ∧
      (∀ j, j < 5 → 2 * j + 1 < m → okw (cutAll 32 x.data.toList) j) ∧ Below w.heap.size w wr) (fun _ _ i _ => x.size + 2 - (intOf i).toNat)
  case atStart =>
    refine ⟨0, 0, 0, rfl, rfl, rfl, ?_, by omega, by omega, by omega, ?_, ?_, fun j _ h => absurd h (by omega), by go_grown⟩
    · rw [HT.out]
      exact .inl ⟨by have := HZ.out; omega, (startW_zero _).symm, by omega, by omega⟩
    · exact (Row.new (W := w)).on (below_alloc _ _)
    · have h := Row.new (W := w.alloc (.cells #[.int .i64 0, .int .i64 0, .int .i64 0, .int .i64 0, .int .i64 0] 24)) (cs := #[.int .i64 0, .int .i64 0, .int .i64 0, .int .i64 0, .int .i64 0]) (t := 70)
      simpa [nrow, nval] using h
  case round =>
    obtain ⟨k, S, m, rfl, rfl, rfl, hst, hS, hm, hk, hR, hN, hok, hB⟩ := hrel
    have HO := Lib.hid hok
    clear hok
    rw [HT.out] at hst
    rcases hst with ⟨hmn, hSe, h1, h2⟩ | ⟨hmn, hke⟩
    case inr =>
      obtain ⟨v0, v1, v2, v3, v4, T, e', hrow, ht, hcase⟩ := HF.out (fun j hj hl => HO.out j hj (by omega))
      have HTt := Lib.hid ht
      rw [hmn, hrow] at hN
      have hlt : (x.size : Int) < (k : Int) := by omega
      have n_ := hN.cell
      have ln := hN.lt
      clear ht hke hmn hN hrow hm
      go_wp2_with fail
      refine Calls.mono (HTt.out _) ?_
      rintro e w1 ⟨rfl, hb1⟩
      have hb2 : Below wr.heap.size wr w1 := under hb1
      have hB1 := chain hB hb2
      have hR1 := hR.on hb2
      have q0 : w1.cell? ⟨w.heap.size, 0, none⟩ = some (.int .i64 0) := hR1.cell 0
      have q1 : w1.cell? ⟨w.heap.size, 1, none⟩ = some (.int .i64 0) := hR1.cell 1
      have q2 : w1.cell? ⟨w.heap.size, 2, none⟩ = some (.int .i64 0) := hR1.cell 2
      have q3 : w1.cell? ⟨w.heap.size, 3, none⟩ = some (.int .i64 0) := hR1.cell 3
      have q4 : w1.cell? ⟨w.heap.size, 4, none⟩ = some (.int .i64 0) := hR1.cell 4
      have f1 := hR1.free
      have lr1 := hR1.lt
      have zb : wr.heap.size < w1.heap.size := by have := hb1.size; simp at this; omega
      have b1 : ∀ o, w1.cell? ⟨wr.heap.size, o, none⟩ = _ := fun o => (bcell hb1).1 _ o (by simp)
      clear hb1 hb2 hR hB n_ hR1
      rcases hcase with ⟨rfl, hT, rfl, rfl⟩ | ⟨rfl | ⟨rfl, hT⟩, rfl, rfl⟩
      · go_wp2_with fail
        refine bodyPost_ret (v := .tuple #[stV v0 v1 v2 v3 v4, .int .i64 0]) (by simp [results, Tryd.results22, go_sem, q0, q1, q2, q3, q4]) rfl ⟨rfl, by go_grown⟩
      all_goals
        go_wp2_with fail
        refine bodyPost_ret (v := .tuple #[stV 0 0 0 0 0, .int .i64 9]) (by simp [results, Tryd.results22, go_sem, q0, q1, q2, q3, q4]) rfl ⟨rfl, by go_grown⟩
    have hw := HW.out m hmn
    rw [← hSe] at hw
    have HSe := Lib.hid hSe
    have hsu := HS.out m hmn
    rw [← hSe] at hsu
    generalize hWg : (cutAll 32 x.data.toList).getD m [] = W at *
    have HSU := Lib.hid hsu
    have HWG := Lib.hid hWg
    clear hSe hsu hWg
    by_cases ht : k < S + W.length
    · have hkx : k < x.size := by have := hw.le; omega
      have hb := hw.inn k hkx h1 ht
      have e1 : ((x[k].toNat : Int) != 32) = true := by
        rw [bne_iff_ne]
        omega
      have hki : (k : Int) < (x.size : Int) := by omega
      clear hb
      go_wp2_with fail
      go_roundw
      case rel =>
        refine ⟨k + 1, S, m, by go_num, rfl, rfl, ?_, hS, hm, by omega, hR, hN, HO.out, hB⟩
        rw [HT.out, HWG.out]
        exact .inl ⟨hmn, HSe.out, by omega, by omega⟩
      case measure => simp [intOf]; omega
    · have hk2 : S + W.length = k := by omega
      have htx := hw.txt
      rw [hk2] at htx
      have hnum : ∀ w, Ret 40 #[.string (x.extract S k)] w (.tuple #[.int .u64 (numV W), .bool (numB W)]) := fun w => by
        have := ref_Number (x.extract S k) w
        rw [htx] at this
        exact this
      have HNM := Lib.hid hnum
      have hSk : (S : Int) ≤ (k : Int) := by omega
      have hkx0 : (k : Int) ≤ (x.size : Int) := by have := hw.le; omega
      have hSu : startW (cutAll 32 x.data.toList) (m + 1) = k + 1 := by rw [HSU.out]; omega
      have HSu := Lib.hid hSu
      have HK2 := Lib.hid hk2
      clear hnum htx hSu ht h2
      by_cases hl : m + 1 = (cutAll 32 x.data.toList).length
      · have hkl : (x.size : Int) ≤ (k : Int) := by have := hw.last hl; omega
        have hstand : Stand x (k + 1) (k + 1) (m + 1) := by rw [HT.out]; exact .inr ⟨hl, by omega⟩
        clear hk2
        have HST2 := Lib.hid hstand
        clear hstand hw hl
        rcases (by omega : m = 1 ∨ m = 3 ∨ m = 5 ∨ m = 7 ∨ m = 9 ∨ (m ≠ 1 ∧ m ≠ 3 ∧ m ≠ 5 ∧ m ≠ 7 ∧ m ≠ 9)) with rfl | rfl | rfl | rfl | rfl | hmo
        · by_cases hok : okw (cutAll 32 x.data.toList) 0
          · have hok2 := hok
            unfold okw at hok2
            rw [show 2 * 0 + 1 = 1 from rfl, HWG.out] at hok2
            obtain ⟨hb1, hv1⟩ := hok2
            have hv0 := (numV_bound W).1
            have hnm := HNM.out
            rw [hb1] at hnm
            have wv : IntKind.i64.wrap (numV W) = numV W := IntWalk.i64_in _ ⟨by omega, by omega⟩
            have eN : nrow (cutAll 32 x.data.toList) (1 + 1) = (nrow (cutAll 32 x.data.toList) 1).setIfInBounds 0 (.int .i64 (numV W)) := by
              unfold nrow nval
              simp [-List.getD_eq_getElem?_getD, HWG.out]
            have HEN := Lib.hid eN
            have HNM2 := Lib.hid hnm
            have HOK := Lib.hid hok
            clear hnm eN hok hb1
            go_wp2_with fail
            refine Calls.mono (HNM2.out _) ?_
            rintro e w1 ⟨rfl, hb1⟩
            have hR1 := hR.on hb1
            have hN1 := hN.on hb1
            have hB1 := chain hB hb1
            have n1 := hN1.cell
            have f1 := hN1.free
            simp only [nrow, nval] at n1
            clear hR hN hB hb1
            go_wp2_with fail
            go_roundw
            case rel =>
              refine ⟨k + 1, k + 1, 2, by go_num, by go_num, by go_num, HST2.out, by omega, by omega, by omega, hR1.other (by simp) _ _, ?_, okw_step HO.out (fun j' h1 h2 => (show j' = 0 by omega) ▸ HOK.out), by go_grown⟩
              rw [HEN.out]
              exact hN1.set _ _
            case measure => simp [intOf]; omega
          · obtain ⟨rfl, rfl⟩ := HB.out ⟨0, by omega, hmn, hok⟩
            have hok2 : numB W = false ∨ (numB W = true ∧ 10000 < numV W) := by
              unfold okw at hok
              rw [show 2 * 0 + 1 = 1 from rfl, HWG.out] at hok
              cases hnb : numB W with
              | false => exact .inl rfl
              | true => exact .inr ⟨rfl, by simp [hnb] at hok; omega⟩
            have hnm := HNM.out
            clear hok
            rcases hok2 with hb1 | ⟨hb1, hv1⟩
            all_goals
              rw [hb1] at hnm
              have HNM2 := Lib.hid hnm
              clear hnm hb1
              go_wp2_with fail
              refine Calls.mono (HNM2.out _) ?_
              rintro e w1 ⟨rfl, hb1⟩
              have hR1 := hR.on hb1
              have hB1 := chain hB hb1
              have q0 : w1.cell? ⟨w.heap.size, 0, none⟩ = some (.int .i64 0) := hR1.cell 0
              have q1 : w1.cell? ⟨w.heap.size, 1, none⟩ = some (.int .i64 0) := hR1.cell 1
              have q2 : w1.cell? ⟨w.heap.size, 2, none⟩ = some (.int .i64 0) := hR1.cell 2
              have q3 : w1.cell? ⟨w.heap.size, 3, none⟩ = some (.int .i64 0) := hR1.cell 3
              have q4 : w1.cell? ⟨w.heap.size, 4, none⟩ = some (.int .i64 0) := hR1.cell 4
              have f1 := hR1.free
              clear hR hN hB hb1 hR1
              go_wp2_with fail
              refine bodyPost_ret (v := .tuple #[stV 0 0 0 0 0, .int .i64 9]) (by simp [results, Tryd.results22, go_sem, q0, q1, q2, q3, q4]) rfl ⟨rfl, by go_grown⟩
        · by_cases hok : okw (cutAll 32 x.data.toList) 1
          · have hok2 := hok
            unfold okw at hok2
            rw [show 2 * 1 + 1 = 3 from rfl, HWG.out] at hok2
            obtain ⟨hb1, hv1⟩ := hok2
            have hv0 := (numV_bound W).1
            have hnm := HNM.out
            rw [hb1] at hnm
            have wv : IntKind.i64.wrap (numV W) = numV W := IntWalk.i64_in _ ⟨by omega, by omega⟩
            have eN : nrow (cutAll 32 x.data.toList) (3 + 1) = (nrow (cutAll 32 x.data.toList) 3).setIfInBounds 1 (.int .i64 (numV W)) := by
              unfold nrow nval
              simp [-List.getD_eq_getElem?_getD, HWG.out]
            have HEN := Lib.hid eN
            have HNM2 := Lib.hid hnm
            have HOK := Lib.hid hok
            clear hnm eN hok hb1
            go_wp2_with fail
            refine Calls.mono (HNM2.out _) ?_
            rintro e w1 ⟨rfl, hb1⟩
            have hR1 := hR.on hb1
            have hN1 := hN.on hb1
            have hB1 := chain hB hb1
            have n1 := hN1.cell
            have f1 := hN1.free
            simp only [nrow, nval] at n1
            clear hR hN hB hb1
            go_wp2_with fail
            go_roundw
            case rel =>
              refine ⟨k + 1, k + 1, 4, by go_num, by go_num, by go_num, HST2.out, by omega, by omega, by omega, hR1.other (by simp) _ _, ?_, okw_step HO.out (fun j' h1 h2 => (show j' = 1 by omega) ▸ HOK.out), by go_grown⟩
              rw [HEN.out]
              exact hN1.set _ _
            case measure => simp [intOf]; omega
          · obtain ⟨rfl, rfl⟩ := HB.out ⟨1, by omega, hmn, hok⟩
            have hok2 : numB W = false ∨ (numB W = true ∧ 10000 < numV W) := by
              unfold okw at hok
              rw [show 2 * 1 + 1 = 3 from rfl, HWG.out] at hok
              cases hnb : numB W with
              | false => exact .inl rfl
              | true => exact .inr ⟨rfl, by simp [hnb] at hok; omega⟩
            have hnm := HNM.out
            clear hok
            rcases hok2 with hb1 | ⟨hb1, hv1⟩
            all_goals
              rw [hb1] at hnm
              have HNM2 := Lib.hid hnm
              clear hnm hb1
              go_wp2_with fail
              refine Calls.mono (HNM2.out _) ?_
              rintro e w1 ⟨rfl, hb1⟩
              have hR1 := hR.on hb1
              have hB1 := chain hB hb1
              have q0 : w1.cell? ⟨w.heap.size, 0, none⟩ = some (.int .i64 0) := hR1.cell 0
              have q1 : w1.cell? ⟨w.heap.size, 1, none⟩ = some (.int .i64 0) := hR1.cell 1
              have q2 : w1.cell? ⟨w.heap.size, 2, none⟩ = some (.int .i64 0) := hR1.cell 2
              have q3 : w1.cell? ⟨w.heap.size, 3, none⟩ = some (.int .i64 0) := hR1.cell 3
              have q4 : w1.cell? ⟨w.heap.size, 4, none⟩ = some (.int .i64 0) := hR1.cell 4
              have f1 := hR1.free
              clear hR hN hB hb1 hR1
              go_wp2_with fail
              refine bodyPost_ret (v := .tuple #[stV 0 0 0 0 0, .int .i64 9]) (by simp [results, Tryd.results22, go_sem, q0, q1, q2, q3, q4]) rfl ⟨rfl, by go_grown⟩
        · by_cases hok : okw (cutAll 32 x.data.toList) 2
          · have hok2 := hok
            unfold okw at hok2
            rw [show 2 * 2 + 1 = 5 from rfl, HWG.out] at hok2
            obtain ⟨hb1, hv1⟩ := hok2
            have hv0 := (numV_bound W).1
            have hnm := HNM.out
            rw [hb1] at hnm
            have wv : IntKind.i64.wrap (numV W) = numV W := IntWalk.i64_in _ ⟨by omega, by omega⟩
            have eN : nrow (cutAll 32 x.data.toList) (5 + 1) = (nrow (cutAll 32 x.data.toList) 5).setIfInBounds 2 (.int .i64 (numV W)) := by
              unfold nrow nval
              simp [-List.getD_eq_getElem?_getD, HWG.out]
            have HEN := Lib.hid eN
            have HNM2 := Lib.hid hnm
            have HOK := Lib.hid hok
            clear hnm eN hok hb1
            go_wp2_with fail
            refine Calls.mono (HNM2.out _) ?_
            rintro e w1 ⟨rfl, hb1⟩
            have hR1 := hR.on hb1
            have hN1 := hN.on hb1
            have hB1 := chain hB hb1
            have n1 := hN1.cell
            have f1 := hN1.free
            simp only [nrow, nval] at n1
            clear hR hN hB hb1
            go_wp2_with fail
            go_roundw
            case rel =>
              refine ⟨k + 1, k + 1, 6, by go_num, by go_num, by go_num, HST2.out, by omega, by omega, by omega, hR1.other (by simp) _ _, ?_, okw_step HO.out (fun j' h1 h2 => (show j' = 2 by omega) ▸ HOK.out), by go_grown⟩
              rw [HEN.out]
              exact hN1.set _ _
            case measure => simp [intOf]; omega
          · obtain ⟨rfl, rfl⟩ := HB.out ⟨2, by omega, hmn, hok⟩
            have hok2 : numB W = false ∨ (numB W = true ∧ 10000 < numV W) := by
              unfold okw at hok
              rw [show 2 * 2 + 1 = 5 from rfl, HWG.out] at hok
              cases hnb : numB W with
              | false => exact .inl rfl
              | true => exact .inr ⟨rfl, by simp [hnb] at hok; omega⟩
            have hnm := HNM.out
            clear hok
            rcases hok2 with hb1 | ⟨hb1, hv1⟩
            all_goals
              rw [hb1] at hnm
              have HNM2 := Lib.hid hnm
              clear hnm hb1
              go_wp2_with fail
              refine Calls.mono (HNM2.out _) ?_
              rintro e w1 ⟨rfl, hb1⟩
              have hR1 := hR.on hb1
              have hB1 := chain hB hb1
              have q0 : w1.cell? ⟨w.heap.size, 0, none⟩ = some (.int .i64 0) := hR1.cell 0
              have q1 : w1.cell? ⟨w.heap.size, 1, none⟩ = some (.int .i64 0) := hR1.cell 1
              have q2 : w1.cell? ⟨w.heap.size, 2, none⟩ = some (.int .i64 0) := hR1.cell 2
              have q3 : w1.cell? ⟨w.heap.size, 3, none⟩ = some (.int .i64 0) := hR1.cell 3
              have q4 : w1.cell? ⟨w.heap.size, 4, none⟩ = some (.int .i64 0) := hR1.cell 4
              have f1 := hR1.free
              clear hR hN hB hb1 hR1
              go_wp2_with fail
              refine bodyPost_ret (v := .tuple #[stV 0 0 0 0 0, .int .i64 9]) (by simp [results, Tryd.results22, go_sem, q0, q1, q2, q3, q4]) rfl ⟨rfl, by go_grown⟩
        · by_cases hok : okw (cutAll 32 x.data.toList) 3
          · have hok2 := hok
            unfold okw at hok2
            rw [show 2 * 3 + 1 = 7 from rfl, HWG.out] at hok2
            obtain ⟨hb1, hv1⟩ := hok2
            have hv0 := (numV_bound W).1
            have hnm := HNM.out
            rw [hb1] at hnm
            have wv : IntKind.i64.wrap (numV W) = numV W := IntWalk.i64_in _ ⟨by omega, by omega⟩
            have eN : nrow (cutAll 32 x.data.toList) (7 + 1) = (nrow (cutAll 32 x.data.toList) 7).setIfInBounds 3 (.int .i64 (numV W)) := by
              unfold nrow nval
              simp [-List.getD_eq_getElem?_getD, HWG.out]
            have HEN := Lib.hid eN
            have HNM2 := Lib.hid hnm
            have HOK := Lib.hid hok
            clear hnm eN hok hb1
            go_wp2_with fail
            refine Calls.mono (HNM2.out _) ?_
            rintro e w1 ⟨rfl, hb1⟩
            have hR1 := hR.on hb1
            have hN1 := hN.on hb1
            have hB1 := chain hB hb1
            have n1 := hN1.cell
            have f1 := hN1.free
            simp only [nrow, nval] at n1
            clear hR hN hB hb1
            go_wp2_with fail
            go_roundw
            case rel =>
              refine ⟨k + 1, k + 1, 8, by go_num, by go_num, by go_num, HST2.out, by omega, by omega, by omega, hR1.other (by simp) _ _, ?_, okw_step HO.out (fun j' h1 h2 => (show j' = 3 by omega) ▸ HOK.out), by go_grown⟩
              rw [HEN.out]
              exact hN1.set _ _
            case measure => simp [intOf]; omega
          · obtain ⟨rfl, rfl⟩ := HB.out ⟨3, by omega, hmn, hok⟩
            have hok2 : numB W = false ∨ (numB W = true ∧ 10000 < numV W) := by
              unfold okw at hok
              rw [show 2 * 3 + 1 = 7 from rfl, HWG.out] at hok
              cases hnb : numB W with
              | false => exact .inl rfl
              | true => exact .inr ⟨rfl, by simp [hnb] at hok; omega⟩
            have hnm := HNM.out
            clear hok
            rcases hok2 with hb1 | ⟨hb1, hv1⟩
            all_goals
              rw [hb1] at hnm
              have HNM2 := Lib.hid hnm
              clear hnm hb1
              go_wp2_with fail
              refine Calls.mono (HNM2.out _) ?_
              rintro e w1 ⟨rfl, hb1⟩
              have hR1 := hR.on hb1
              have hB1 := chain hB hb1
              have q0 : w1.cell? ⟨w.heap.size, 0, none⟩ = some (.int .i64 0) := hR1.cell 0
              have q1 : w1.cell? ⟨w.heap.size, 1, none⟩ = some (.int .i64 0) := hR1.cell 1
              have q2 : w1.cell? ⟨w.heap.size, 2, none⟩ = some (.int .i64 0) := hR1.cell 2
              have q3 : w1.cell? ⟨w.heap.size, 3, none⟩ = some (.int .i64 0) := hR1.cell 3
              have q4 : w1.cell? ⟨w.heap.size, 4, none⟩ = some (.int .i64 0) := hR1.cell 4
              have f1 := hR1.free
              clear hR hN hB hb1 hR1
              go_wp2_with fail
              refine bodyPost_ret (v := .tuple #[stV 0 0 0 0 0, .int .i64 9]) (by simp [results, Tryd.results22, go_sem, q0, q1, q2, q3, q4]) rfl ⟨rfl, by go_grown⟩
        · by_cases hok : okw (cutAll 32 x.data.toList) 4
          · have hok2 := hok
            unfold okw at hok2
            rw [show 2 * 4 + 1 = 9 from rfl, HWG.out] at hok2
            obtain ⟨hb1, hv1⟩ := hok2
            have hv0 := (numV_bound W).1
            have hnm := HNM.out
            rw [hb1] at hnm
            have wv : IntKind.i64.wrap (numV W) = numV W := IntWalk.i64_in _ ⟨by omega, by omega⟩
            have eN : nrow (cutAll 32 x.data.toList) (9 + 1) = (nrow (cutAll 32 x.data.toList) 9).setIfInBounds 4 (.int .i64 (numV W)) := by
              unfold nrow nval
              simp [-List.getD_eq_getElem?_getD, HWG.out]
            have HEN := Lib.hid eN
            have HNM2 := Lib.hid hnm
            have HOK := Lib.hid hok
            clear hnm eN hok hb1
            go_wp2_with fail
            refine Calls.mono (HNM2.out _) ?_
            rintro e w1 ⟨rfl, hb1⟩
            have hR1 := hR.on hb1
            have hN1 := hN.on hb1
            have hB1 := chain hB hb1
            have n1 := hN1.cell
            have f1 := hN1.free
            simp only [nrow, nval] at n1
            clear hR hN hB hb1
            go_wp2_with fail
            go_roundw
            case rel =>
              refine ⟨k + 1, k + 1, 10, by go_num, by go_num, by go_num, HST2.out, by omega, by omega, by omega, hR1.other (by simp) _ _, ?_, okw_step HO.out (fun j' h1 h2 => (show j' = 4 by omega) ▸ HOK.out), by go_grown⟩
              rw [HEN.out]
              exact hN1.set _ _
            case measure => simp [intOf]; omega
          · obtain ⟨rfl, rfl⟩ := HB.out ⟨4, by omega, hmn, hok⟩
            have hok2 : numB W = false ∨ (numB W = true ∧ 10000 < numV W) := by
              unfold okw at hok
              rw [show 2 * 4 + 1 = 9 from rfl, HWG.out] at hok
              cases hnb : numB W with
              | false => exact .inl rfl
              | true => exact .inr ⟨rfl, by simp [hnb] at hok; omega⟩
            have hnm := HNM.out
            clear hok
            rcases hok2 with hb1 | ⟨hb1, hv1⟩
            all_goals
              rw [hb1] at hnm
              have HNM2 := Lib.hid hnm
              clear hnm hb1
              go_wp2_with fail
              refine Calls.mono (HNM2.out _) ?_
              rintro e w1 ⟨rfl, hb1⟩
              have hR1 := hR.on hb1
              have hB1 := chain hB hb1
              have q0 : w1.cell? ⟨w.heap.size, 0, none⟩ = some (.int .i64 0) := hR1.cell 0
              have q1 : w1.cell? ⟨w.heap.size, 1, none⟩ = some (.int .i64 0) := hR1.cell 1
              have q2 : w1.cell? ⟨w.heap.size, 2, none⟩ = some (.int .i64 0) := hR1.cell 2
              have q3 : w1.cell? ⟨w.heap.size, 3, none⟩ = some (.int .i64 0) := hR1.cell 3
              have q4 : w1.cell? ⟨w.heap.size, 4, none⟩ = some (.int .i64 0) := hR1.cell 4
              have f1 := hR1.free
              clear hR hN hB hb1 hR1
              go_wp2_with fail
              refine bodyPost_ret (v := .tuple #[stV 0 0 0 0 0, .int .i64 9]) (by simp [results, Tryd.results22, go_sem, q0, q1, q2, q3, q4]) rfl ⟨rfl, by go_grown⟩
        · have eN := nrow_keep (cutAll 32 x.data.toList) m hmo
          have HEN := Lib.hid eN
          have hodd : ∀ j, j < 5 → m = 2 * j + 1 → okw (cutAll 32 x.data.toList) j := fun j h1 h2 => by omega
          have HOD := Lib.hid hodd
          clear eN hodd
          by_cases hm10 : m < 10
          · have hmi : (m : Int) < 10 := by omega
            have em : ((m : Int) % 2 == 1) = false := by rw [beq_eq_false_iff_ne]; omega
            clear hmo hm10
            go_wp2_with fail
            go_roundw
            case rel =>
              refine ⟨k + 1, k + 1, m + 1, by go_num, by go_num, by go_num, HST2.out, by omega, by omega, by omega, hR, ?_, okw_step HO.out HOD.out, hB⟩
              rw [HEN.out]
              exact hN
            case measure => simp [intOf]; omega
          · have hmi : 10 ≤ (m : Int) := by omega
            clear hmo hm10
            go_wp2_with fail
            go_roundw
            case rel =>
              refine ⟨k + 1, k + 1, m + 1, by go_num, by go_num, by go_num, HST2.out, by omega, by omega, by omega, hR, ?_, okw_step HO.out HOD.out, hB⟩
              rw [HEN.out]
              exact hN
            case measure => simp [intOf]; omega
      · obtain ⟨hkx, hb⟩ := hw.more (by omega)
        have hkl : (k : Int) < (x.size : Int) := by omega
        have hstand : Stand x (k + 1) (k + 1) (m + 1) := by rw [HT.out]; exact .inl ⟨by omega, HSu.out.symm, by omega, by omega⟩
        have hkx' : k < x.size := by omega
        have e1 : ((x[k].toNat : Int) != 32) = false := by
          have : x[k].toNat = 32 := by rw [← hb]; congr 1; simp only [hk2]
          rw [this]
          rfl
        clear hk2 hb hkx
        have HST2 := Lib.hid hstand
        clear hstand hw hl
        rcases (by omega : m = 1 ∨ m = 3 ∨ m = 5 ∨ m = 7 ∨ m = 9 ∨ (m ≠ 1 ∧ m ≠ 3 ∧ m ≠ 5 ∧ m ≠ 7 ∧ m ≠ 9)) with rfl | rfl | rfl | rfl | rfl | hmo
        · by_cases hok : okw (cutAll 32 x.data.toList) 0
          · have hok2 := hok
            unfold okw at hok2
            rw [show 2 * 0 + 1 = 1 from rfl, HWG.out] at hok2
            obtain ⟨hb1, hv1⟩ := hok2
            have hv0 := (numV_bound W).1
            have hnm := HNM.out
            rw [hb1] at hnm
            have wv : IntKind.i64.wrap (numV W) = numV W := IntWalk.i64_in _ ⟨by omega, by omega⟩
            have eN : nrow (cutAll 32 x.data.toList) (1 + 1) = (nrow (cutAll 32 x.data.toList) 1).setIfInBounds 0 (.int .i64 (numV W)) := by
              unfold nrow nval
              simp [-List.getD_eq_getElem?_getD, HWG.out]
            have HEN := Lib.hid eN
            have HNM2 := Lib.hid hnm
            have HOK := Lib.hid hok
            clear hnm eN hok hb1
            go_wp2_with fail
            refine Calls.mono (HNM2.out _) ?_
            rintro e w1 ⟨rfl, hb1⟩
            have hR1 := hR.on hb1
            have hN1 := hN.on hb1
            have hB1 := chain hB hb1
            have n1 := hN1.cell
            have f1 := hN1.free
            simp only [nrow, nval] at n1
            clear hR hN hB hb1
            go_wp2_with fail
            go_roundw
            case rel =>
              refine ⟨k + 1, k + 1, 2, by go_num, by go_num, by go_num, HST2.out, by omega, by omega, by omega, hR1.other (by simp) _ _, ?_, okw_step HO.out (fun j' h1 h2 => (show j' = 0 by omega) ▸ HOK.out), by go_grown⟩
              rw [HEN.out]
              exact hN1.set _ _
            case measure => simp [intOf]; omega
          · obtain ⟨rfl, rfl⟩ := HB.out ⟨0, by omega, hmn, hok⟩
            have hok2 : numB W = false ∨ (numB W = true ∧ 10000 < numV W) := by
              unfold okw at hok
              rw [show 2 * 0 + 1 = 1 from rfl, HWG.out] at hok
              cases hnb : numB W with
              | false => exact .inl rfl
              | true => exact .inr ⟨rfl, by simp [hnb] at hok; omega⟩
            have hnm := HNM.out
            clear hok
            rcases hok2 with hb1 | ⟨hb1, hv1⟩
            all_goals
              rw [hb1] at hnm
              have HNM2 := Lib.hid hnm
              clear hnm hb1
              go_wp2_with fail
              refine Calls.mono (HNM2.out _) ?_
              rintro e w1 ⟨rfl, hb1⟩
              have hR1 := hR.on hb1
              have hB1 := chain hB hb1
              have q0 : w1.cell? ⟨w.heap.size, 0, none⟩ = some (.int .i64 0) := hR1.cell 0
              have q1 : w1.cell? ⟨w.heap.size, 1, none⟩ = some (.int .i64 0) := hR1.cell 1
              have q2 : w1.cell? ⟨w.heap.size, 2, none⟩ = some (.int .i64 0) := hR1.cell 2
              have q3 : w1.cell? ⟨w.heap.size, 3, none⟩ = some (.int .i64 0) := hR1.cell 3
              have q4 : w1.cell? ⟨w.heap.size, 4, none⟩ = some (.int .i64 0) := hR1.cell 4
              have f1 := hR1.free
              clear hR hN hB hb1 hR1
              go_wp2_with fail
              refine bodyPost_ret (v := .tuple #[stV 0 0 0 0 0, .int .i64 9]) (by simp [results, Tryd.results22, go_sem, q0, q1, q2, q3, q4]) rfl ⟨rfl, by go_grown⟩
        · by_cases hok : okw (cutAll 32 x.data.toList) 1
          · have hok2 := hok
            unfold okw at hok2
            rw [show 2 * 1 + 1 = 3 from rfl, HWG.out] at hok2
            obtain ⟨hb1, hv1⟩ := hok2
            have hv0 := (numV_bound W).1
            have hnm := HNM.out
            rw [hb1] at hnm
            have wv : IntKind.i64.wrap (numV W) = numV W := IntWalk.i64_in _ ⟨by omega, by omega⟩
            have eN : nrow (cutAll 32 x.data.toList) (3 + 1) = (nrow (cutAll 32 x.data.toList) 3).setIfInBounds 1 (.int .i64 (numV W)) := by
              unfold nrow nval
              simp [-List.getD_eq_getElem?_getD, HWG.out]
            have HEN := Lib.hid eN
            have HNM2 := Lib.hid hnm
            have HOK := Lib.hid hok
            clear hnm eN hok hb1
            go_wp2_with fail
            refine Calls.mono (HNM2.out _) ?_
            rintro e w1 ⟨rfl, hb1⟩
            have hR1 := hR.on hb1
            have hN1 := hN.on hb1
            have hB1 := chain hB hb1
            have n1 := hN1.cell
            have f1 := hN1.free
            simp only [nrow, nval] at n1
            clear hR hN hB hb1
            go_wp2_with fail
            go_roundw
            case rel =>
              refine ⟨k + 1, k + 1, 4, by go_num, by go_num, by go_num, HST2.out, by omega, by omega, by omega, hR1.other (by simp) _ _, ?_, okw_step HO.out (fun j' h1 h2 => (show j' = 1 by omega) ▸ HOK.out), by go_grown⟩
              rw [HEN.out]
              exact hN1.set _ _
            case measure => simp [intOf]; omega
          · obtain ⟨rfl, rfl⟩ := HB.out ⟨1, by omega, hmn, hok⟩
            have hok2 : numB W = false ∨ (numB W = true ∧ 10000 < numV W) := by
              unfold okw at hok
              rw [show 2 * 1 + 1 = 3 from rfl, HWG.out] at hok
              cases hnb : numB W with
              | false => exact .inl rfl
              | true => exact .inr ⟨rfl, by simp [hnb] at hok; omega⟩
            have hnm := HNM.out
            clear hok
            rcases hok2 with hb1 | ⟨hb1, hv1⟩
            all_goals
              rw [hb1] at hnm
              have HNM2 := Lib.hid hnm
              clear hnm hb1
              go_wp2_with fail
              refine Calls.mono (HNM2.out _) ?_
              rintro e w1 ⟨rfl, hb1⟩
              have hR1 := hR.on hb1
              have hB1 := chain hB hb1
              have q0 : w1.cell? ⟨w.heap.size, 0, none⟩ = some (.int .i64 0) := hR1.cell 0
              have q1 : w1.cell? ⟨w.heap.size, 1, none⟩ = some (.int .i64 0) := hR1.cell 1
              have q2 : w1.cell? ⟨w.heap.size, 2, none⟩ = some (.int .i64 0) := hR1.cell 2
              have q3 : w1.cell? ⟨w.heap.size, 3, none⟩ = some (.int .i64 0) := hR1.cell 3
              have q4 : w1.cell? ⟨w.heap.size, 4, none⟩ = some (.int .i64 0) := hR1.cell 4
              have f1 := hR1.free
              clear hR hN hB hb1 hR1
              go_wp2_with fail
              refine bodyPost_ret (v := .tuple #[stV 0 0 0 0 0, .int .i64 9]) (by simp [results, Tryd.results22, go_sem, q0, q1, q2, q3, q4]) rfl ⟨rfl, by go_grown⟩
        · by_cases hok : okw (cutAll 32 x.data.toList) 2
          · have hok2 := hok
            unfold okw at hok2
            rw [show 2 * 2 + 1 = 5 from rfl, HWG.out] at hok2
            obtain ⟨hb1, hv1⟩ := hok2
            have hv0 := (numV_bound W).1
            have hnm := HNM.out
            rw [hb1] at hnm
            have wv : IntKind.i64.wrap (numV W) = numV W := IntWalk.i64_in _ ⟨by omega, by omega⟩
            have eN : nrow (cutAll 32 x.data.toList) (5 + 1) = (nrow (cutAll 32 x.data.toList) 5).setIfInBounds 2 (.int .i64 (numV W)) := by
              unfold nrow nval
              simp [-List.getD_eq_getElem?_getD, HWG.out]
            have HEN := Lib.hid eN
            have HNM2 := Lib.hid hnm
            have HOK := Lib.hid hok
            clear hnm eN hok hb1
            go_wp2_with fail
            refine Calls.mono (HNM2.out _) ?_
            rintro e w1 ⟨rfl, hb1⟩
            have hR1 := hR.on hb1
            have hN1 := hN.on hb1
            have hB1 := chain hB hb1
            have n1 := hN1.cell
            have f1 := hN1.free
            simp only [nrow, nval] at n1
            clear hR hN hB hb1
            go_wp2_with fail
            go_roundw
            case rel =>
              refine ⟨k + 1, k + 1, 6, by go_num, by go_num, by go_num, HST2.out, by omega, by omega, by omega, hR1.other (by simp) _ _, ?_, okw_step HO.out (fun j' h1 h2 => (show j' = 2 by omega) ▸ HOK.out), by go_grown⟩
              rw [HEN.out]
              exact hN1.set _ _
            case measure => simp [intOf]; omega
          · obtain ⟨rfl, rfl⟩ := HB.out ⟨2, by omega, hmn, hok⟩
            have hok2 : numB W = false ∨ (numB W = true ∧ 10000 < numV W) := by
              unfold okw at hok
              rw [show 2 * 2 + 1 = 5 from rfl, HWG.out] at hok
              cases hnb : numB W with
              | false => exact .inl rfl
              | true => exact .inr ⟨rfl, by simp [hnb] at hok; omega⟩
            have hnm := HNM.out
            clear hok
            rcases hok2 with hb1 | ⟨hb1, hv1⟩
            all_goals
              rw [hb1] at hnm
              have HNM2 := Lib.hid hnm
              clear hnm hb1
              go_wp2_with fail
              refine Calls.mono (HNM2.out _) ?_
              rintro e w1 ⟨rfl, hb1⟩
              have hR1 := hR.on hb1
              have hB1 := chain hB hb1
              have q0 : w1.cell? ⟨w.heap.size, 0, none⟩ = some (.int .i64 0) := hR1.cell 0
              have q1 : w1.cell? ⟨w.heap.size, 1, none⟩ = some (.int .i64 0) := hR1.cell 1
              have q2 : w1.cell? ⟨w.heap.size, 2, none⟩ = some (.int .i64 0) := hR1.cell 2
              have q3 : w1.cell? ⟨w.heap.size, 3, none⟩ = some (.int .i64 0) := hR1.cell 3
              have q4 : w1.cell? ⟨w.heap.size, 4, none⟩ = some (.int .i64 0) := hR1.cell 4
              have f1 := hR1.free
              clear hR hN hB hb1 hR1
              go_wp2_with fail
              refine bodyPost_ret (v := .tuple #[stV 0 0 0 0 0, .int .i64 9]) (by simp [results, Tryd.results22, go_sem, q0, q1, q2, q3, q4]) rfl ⟨rfl, by go_grown⟩
        · by_cases hok : okw (cutAll 32 x.data.toList) 3
          · have hok2 := hok
            unfold okw at hok2
            rw [show 2 * 3 + 1 = 7 from rfl, HWG.out] at hok2
            obtain ⟨hb1, hv1⟩ := hok2
            have hv0 := (numV_bound W).1
            have hnm := HNM.out
            rw [hb1] at hnm
            have wv : IntKind.i64.wrap (numV W) = numV W := IntWalk.i64_in _ ⟨by omega, by omega⟩
            have eN : nrow (cutAll 32 x.data.toList) (7 + 1) = (nrow (cutAll 32 x.data.toList) 7).setIfInBounds 3 (.int .i64 (numV W)) := by
              unfold nrow nval
              simp [-List.getD_eq_getElem?_getD, HWG.out]
            have HEN := Lib.hid eN
            have HNM2 := Lib.hid hnm
            have HOK := Lib.hid hok
            clear hnm eN hok hb1
            go_wp2_with fail
            refine Calls.mono (HNM2.out _) ?_
            rintro e w1 ⟨rfl, hb1⟩
            have hR1 := hR.on hb1
            have hN1 := hN.on hb1
            have hB1 := chain hB hb1
            have n1 := hN1.cell
            have f1 := hN1.free
            simp only [nrow, nval] at n1
            clear hR hN hB hb1
            go_wp2_with fail
            go_roundw
            case rel =>
              refine ⟨k + 1, k + 1, 8, by go_num, by go_num, by go_num, HST2.out, by omega, by omega, by omega, hR1.other (by simp) _ _, ?_, okw_step HO.out (fun j' h1 h2 => (show j' = 3 by omega) ▸ HOK.out), by go_grown⟩
              rw [HEN.out]
              exact hN1.set _ _
            case measure => simp [intOf]; omega
          · obtain ⟨rfl, rfl⟩ := HB.out ⟨3, by omega, hmn, hok⟩
            have hok2 : numB W = false ∨ (numB W = true ∧ 10000 < numV W) := by
              unfold okw at hok
              rw [show 2 * 3 + 1 = 7 from rfl, HWG.out] at hok
              cases hnb : numB W with
              | false => exact .inl rfl
              | true => exact .inr ⟨rfl, by simp [hnb] at hok; omega⟩
            have hnm := HNM.out
            clear hok
            rcases hok2 with hb1 | ⟨hb1, hv1⟩
            all_goals
              rw [hb1] at hnm
              have HNM2 := Lib.hid hnm
              clear hnm hb1
              go_wp2_with fail
              refine Calls.mono (HNM2.out _) ?_
              rintro e w1 ⟨rfl, hb1⟩
              have hR1 := hR.on hb1
              have hB1 := chain hB hb1
              have q0 : w1.cell? ⟨w.heap.size, 0, none⟩ = some (.int .i64 0) := hR1.cell 0
              have q1 : w1.cell? ⟨w.heap.size, 1, none⟩ = some (.int .i64 0) := hR1.cell 1
              have q2 : w1.cell? ⟨w.heap.size, 2, none⟩ = some (.int .i64 0) := hR1.cell 2
              have q3 : w1.cell? ⟨w.heap.size, 3, none⟩ = some (.int .i64 0) := hR1.cell 3
              have q4 : w1.cell? ⟨w.heap.size, 4, none⟩ = some (.int .i64 0) := hR1.cell 4
              have f1 := hR1.free
              clear hR hN hB hb1 hR1
              go_wp2_with fail
              refine bodyPost_ret (v := .tuple #[stV 0 0 0 0 0, .int .i64 9]) (by simp [results, Tryd.results22, go_sem, q0, q1, q2, q3, q4]) rfl ⟨rfl, by go_grown⟩
        · by_cases hok : okw (cutAll 32 x.data.toList) 4
          · have hok2 := hok
            unfold okw at hok2
            rw [show 2 * 4 + 1 = 9 from rfl, HWG.out] at hok2
            obtain ⟨hb1, hv1⟩ := hok2
            have hv0 := (numV_bound W).1
            have hnm := HNM.out
            rw [hb1] at hnm
            have wv : IntKind.i64.wrap (numV W) = numV W := IntWalk.i64_in _ ⟨by omega, by omega⟩
            have eN : nrow (cutAll 32 x.data.toList) (9 + 1) = (nrow (cutAll 32 x.data.toList) 9).setIfInBounds 4 (.int .i64 (numV W)) := by
              unfold nrow nval
              simp [-List.getD_eq_getElem?_getD, HWG.out]
            have HEN := Lib.hid eN
            have HNM2 := Lib.hid hnm
            have HOK := Lib.hid hok
            clear hnm eN hok hb1
            go_wp2_with fail
            refine Calls.mono (HNM2.out _) ?_
            rintro e w1 ⟨rfl, hb1⟩
            have hR1 := hR.on hb1
            have hN1 := hN.on hb1
            have hB1 := chain hB hb1
            have n1 := hN1.cell
            have f1 := hN1.free
            simp only [nrow, nval] at n1
            clear hR hN hB hb1
            go_wp2_with fail
            go_roundw
            case rel =>
              refine ⟨k + 1, k + 1, 10, by go_num, by go_num, by go_num, HST2.out, by omega, by omega, by omega, hR1.other (by simp) _ _, ?_, okw_step HO.out (fun j' h1 h2 => (show j' = 4 by omega) ▸ HOK.out), by go_grown⟩
              rw [HEN.out]
              exact hN1.set _ _
            case measure => simp [intOf]; omega
          · obtain ⟨rfl, rfl⟩ := HB.out ⟨4, by omega, hmn, hok⟩
            have hok2 : numB W = false ∨ (numB W = true ∧ 10000 < numV W) := by
              unfold okw at hok
              rw [show 2 * 4 + 1 = 9 from rfl, HWG.out] at hok
              cases hnb : numB W with
              | false => exact .inl rfl
              | true => exact .inr ⟨rfl, by simp [hnb] at hok; omega⟩
            have hnm := HNM.out
            clear hok
            rcases hok2 with hb1 | ⟨hb1, hv1⟩
            all_goals
              rw [hb1] at hnm
              have HNM2 := Lib.hid hnm
              clear hnm hb1
              go_wp2_with fail
              refine Calls.mono (HNM2.out _) ?_
              rintro e w1 ⟨rfl, hb1⟩
              have hR1 := hR.on hb1
              have hB1 := chain hB hb1
              have q0 : w1.cell? ⟨w.heap.size, 0, none⟩ = some (.int .i64 0) := hR1.cell 0
              have q1 : w1.cell? ⟨w.heap.size, 1, none⟩ = some (.int .i64 0) := hR1.cell 1
              have q2 : w1.cell? ⟨w.heap.size, 2, none⟩ = some (.int .i64 0) := hR1.cell 2
              have q3 : w1.cell? ⟨w.heap.size, 3, none⟩ = some (.int .i64 0) := hR1.cell 3
              have q4 : w1.cell? ⟨w.heap.size, 4, none⟩ = some (.int .i64 0) := hR1.cell 4
              have f1 := hR1.free
              clear hR hN hB hb1 hR1
              go_wp2_with fail
              refine bodyPost_ret (v := .tuple #[stV 0 0 0 0 0, .int .i64 9]) (by simp [results, Tryd.results22, go_sem, q0, q1, q2, q3, q4]) rfl ⟨rfl, by go_grown⟩
        · have eN := nrow_keep (cutAll 32 x.data.toList) m hmo
          have HEN := Lib.hid eN
          have hodd : ∀ j, j < 5 → m = 2 * j + 1 → okw (cutAll 32 x.data.toList) j := fun j h1 h2 => by omega
          have HOD := Lib.hid hodd
          clear eN hodd
          by_cases hm10 : m < 10
          · have hmi : (m : Int) < 10 := by omega
            have em : ((m : Int) % 2 == 1) = false := by rw [beq_eq_false_iff_ne]; omega
            clear hmo hm10
            go_wp2_with fail
            go_roundw
            case rel =>
              refine ⟨k + 1, k + 1, m + 1, by go_num, by go_num, by go_num, HST2.out, by omega, by omega, by omega, hR, ?_, okw_step HO.out HOD.out, hB⟩
              rw [HEN.out]
              exact hN
            case measure => simp [intOf]; omega
          · have hmi : 10 ≤ (m : Int) := by omega
            clear hmo hm10
            go_wp2_with fail
            go_roundw
            case rel =>
              refine ⟨k + 1, k + 1, m + 1, by go_num, by go_num, by go_num, HST2.out, by omega, by omega, by omega, hR, ?_, okw_step HO.out HOD.out, hB⟩
              rw [HEN.out]
              exact hN
            case measure => simp [intOf]; omega
end Go.Proofs.YtjebicdlbknemaaDoor
