/- stats.Text: the contract, for counts that fit together and for others. -/
import Derived.Test.YtjebicdlbknemaaDoorStText1
import Derived.Deep.DeepMust
import Derived.Lib.ItoaLen
namespace Go.Proofs.YtjebicdlbknemaaDoor
open Go.RowKit

theorem sText_len (o l c r q : Int) (h : sOk o l c r q = true) : (Lib.join ((sItems o l c r q 5).map (·.data.toList)) [32]).length ≤ 140737488355328 := by
  unfold sOk at h
  rw [decide_eq_true_iff] at h
  have a0 := Lib.itoa_length_le o (by omega) (by omega)
  have a1 := Lib.itoa_length_le l (by omega) (by omega)
  have a2 := Lib.itoa_length_le c (by omega) (by omega)
  have a3 := Lib.itoa_length_le r (by omega) (by omega)
  have a4 := Lib.itoa_length_le q (by omega) (by omega)
  simp [sItems, sCnt, sWord, Lib.join, List.intercalate]
  omega

set_option maxHeartbeats 8000000 in
set_option maxRecDepth 20000 in
theorem text_ok (o l c r q : Int) (w : World) (hE : Env w) (h : sOk o l c r q = true) : Ret 18 #[stV o l c r q] w (.tuple #[.string (sText o l c r q), .int .i64 0]) := by
  have hk := fun w => check_ok o l c r q w h
  have HK := Lib.hid hk
  have HL := Lib.hid (sText_len o l c r q h)
  have hcnt : ∀ k, k < 5 → 0 ≤ sCnt o l c r q k ∧ sCnt o l c r q k ≤ 10000 := by
    unfold sOk at h
    rw [decide_eq_true_iff] at h
    intro k hk
    rcases (by omega : k = 0 ∨ k = 1 ∨ k = 2 ∨ k = 3 ∨ k = 4) with rfl | rfl | rfl | rfl | rfl <;> simp [sCnt] <;> omega
  have HC := Lib.hid hcnt
  have HE := Lib.hid hE
  clear hk h hcnt hE
  obtain ⟨i0, hi, hz0, hz1, hz2⟩ := info_parts strT_info
  have HI := Lib.hid hi
  have HZ := Lib.hid hz0
  have HZ1 := Lib.hid hz1
  have HZ2 := Lib.hid hz2
  clear hi hz0 hz1 hz2
  go_enter Tryd.func18, Tryd.ntmps18
  go_wp2_with fail
  refine Calls.mono (HK.out _) ?_
  rintro e w1 ⟨rfl, hb1⟩
  obtain ⟨k1, f1⟩ := bcell hb1
  have hB1 := off_alloc hb1
  have hE1 := HE.out.on hB1
  have z1 : w.heap.size < w1.heap.size := by have := hb1.size; simp at this; omega
  clear hb1
  go_wp2_with (go_at_call 27; go_in)
  go_loopw [5, 15] (fun v i wr => ∃ k : Nat, k ≤ 5 ∧ i = .int .i64 k ∧ wr.ownsRow w.heap.size 9 1 v (2 * k) ((sItems o l c r q k).map Value.string) ∧ Env wr ∧ Below w.heap.size w wr) (fun _ i _ => 5 - (intOf i).toNat)
  case atStart => exact ⟨0, by omega, rfl, ⟨rfl, .inl ⟨rfl, rfl⟩⟩, hE1.on (by go_grown), by go_grown⟩
  case round =>
    obtain ⟨k, hk, rfl, hO, hE2, hB2⟩ := hrel
    clear hE1 hB1 k1 f1 z1
    have HO := Lib.hid hO
    clear hO
    by_cases hlt : k < 5
    · have hlt' : (k : Int) < 5 := by omega
      have ci := cnt_idx o l c r q k hlt
      have wi := words_idx k hlt
      obtain ⟨c0, c1⟩ := HC.out k hlt
      go_wp2_with fail
      go_region_law (first
        | (refine step_append_lies _ rfl _ _ 60 (by rfl) w.heap.size 9 i0 (.string ⟨#[]⟩) 1 16 Tryd.underlying60 HI.out HZ.out HZ1.out HZ2.out rfl (by omega) _ (2 * k) ((sItems o l c r q k).map Value.string) (by rfl) ((owns_below HO.out hB4).alloc _) ⟨w4.heap.size, 0, none⟩ 2 2 [.string (sWord k), .string ⟨(Lib.itoa (sCnt o l c r q k)).toArray⟩] (by rfl) rfl (World.news_of_block (heap_alloc_new w4 _)) (by simp [Value.oneCell']) (by omega) (by simp [maxLen]; omega) (by omega) (by simp; have := hB2.size; have := hB4.size; omega) _ rfl ?_; intro g cap w5 hown hgrow hat hgl)
        | (go_simp; go_at_call 35; refine (words_c _).mono ?_; rintro e w3 ⟨rfl, hb3⟩; have hB3 := off_drew hb3)
        | (go_simp; go_at_call 24; refine (strconv_Itoa _ _ (hE2.on hB3) ?_ ?_).mono ?_; omega; omega; rintro e w4 ⟨rfl, hb4⟩; have hB4 := chain hB3 hb4))
      all_goals
        have hB5 := ((hB2.trans (hB4.mono hB2.size)).alloc (Nat.le_trans hB2.size hB4.size) _).grown hgrow (by simp; have := hB2.size; have := hB4.size; omega) (fun k hk => (HO.out.lt k hk).1)
        have hE5 := HE.out.on hB5
        go_wp2_with fail
        refine ⟨⟨k + 1, by omega, by simp, ?_, hE5, hB5⟩, by simp [intOf]; omega⟩
        rw [show 2 * (k + 1) = 2 * k + 2 by omega, sItems, List.map_append]
        exact hown
    · obtain rfl : k = 5 := by omega
      obtain ⟨g, cap, rfl, hg0, hg1⟩ := HO.out.form (by omega)
      have hjn := Tryd.strings_Join g 0 cap (sItems o l c r q 5) ⟨#[32]⟩ wr (by
        intro j x hx
        have hj : j < 2 * 5 := by
          have h1 := sItems_len o l c r q 5
          rcases Nat.lt_or_ge j (sItems o l c r q 5).length with h | h
          · omega
          · rw [List.getElem?_eq_none h] at hx; cases hx
        rw [Nat.zero_add, HO.out.cellAt j (by omega), List.getElem?_map, hx]
        rfl) hg1 (by rw [sItems_len]; omega) (by
          rw [sItems_len]
          rcases HO.out.2 with ⟨h, _⟩ | ⟨g', cap', cur, h, _, _, hn, _⟩
          · cases h
          · injection h with _ _ h3
            omega) HL.out
      rw [sItems_len] at hjn
      have HJ := Lib.hid hjn
      clear hjn
      go_wp2_with fail
      refine HJ.out.mono ?_
      rintro e w3 ⟨rfl, hb3⟩
      have hB3 := hB2.trans (hb3.mono hB2.size)
      go_wp2_with fail
      go_returns
      exact ⟨rfl, hB3⟩
set_option maxHeartbeats 2000000 in
theorem text_bad (o l c r q : Int) (w : World) (h : sOk o l c r q = false) : Ret 18 #[stV o l c r q] w (.tuple #[.string ⟨#[]⟩, .int .i64 2]) := by
  have hk := fun w => check_bad o l c r q w h
  have HK := Lib.hid hk
  clear hk h
  go_enter Tryd.func18, Tryd.ntmps18
  go_wp2_with fail
  refine Calls.mono (HK.out _) ?_
  rintro e w1 ⟨rfl, hb1⟩
  go_wp2_with fail
  go_returns
  exact ⟨rfl, off_alloc hb1⟩
end Go.Proofs.YtjebicdlbknemaaDoor
