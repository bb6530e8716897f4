/- The reference's Text, joined. -/
import Derived.Test.YtgckfiadnmjonaaGreatDoorHRRes4
import Derived.Test.YtgckfiadnmjonaaGreatDoorL3a
import Derived.Test.YtgckfiadnmjonaaGreatDoorL1a
namespace Go.Proofs.YtgckfiadnmjonaaGreatDoor
open Go.RowKit
set_option linter.unusedVariables false
set_option linter.unusedSimpArgs false
theorem cat_of (a b : ByteArray) (h : a.size + b.size ≤ 1000000) : Cat a b (a ++ b) := fun W => add_run rfl h W
theorem app_list (a b : ByteArray) : (a ++ b).data.toList = a.data.toList ++ b.data.toList := by simp
theorem rtext_e (k i g st wy tr nx e : Int) (tag : ByteArray) (w : World) (he : e ≠ 0) (c1 : ∀ w, Ret 13 #[rV k i g st wy tr nx tag] w (.int .i64 e)) : Ret 19 #[rV k i g st wy tr nx tag] w (.tuple #[.string ⟨#[]⟩, .int .i64 e]) := by
  have q : (e != 0) = true := by rw [bne_iff_ne]; exact he
  have C := Lib.hid c1
  clear c1
  go_enter Tryz.func19, Tryz.ntmps19
  go_wp2_with fail
  refine Calls.mono (C.out _) ?_
  rintro e w1 ⟨rfl, hb⟩
  go_wp2_with fail
  go_returns
  exact ⟨rfl, under hb⟩
theorem rtext_c (k i g st wy tr nx : Int) (tag : ByteArray) (w : World) (g0 : 0 ≤ g) (g1 : g ≤ 4294967295) (hs : tag.size ≤ 1000000) : Ret 19 #[rV k i g st wy tr nx tag] w (textV k i g st wy tr nx tag) := by
  have c1 := fun w => rrerr_c k i g st wy tr nx tag w g0 hs
  unfold textV
  by_cases he : rErr k i g st wy tr nx tag = 0
  · rw [if_pos he]
    rw [he] at c1
    obtain ⟨hp, ht⟩ := rErr_zero he
    obtain ⟨hd, hst⟩ := pOk_out hp
    have c2 := fun w => ro_text_ok k i g w hd g0 g1
    have c3 := fun w => rtquote_c tag w hs
    unfold quoteV at c3
    rw [if_pos ht] at c3
    obtain ⟨d1, d2, d3, d4, d5⟩ := dOk_iff.1 hd
    have hO := (dText_size 58 (k := k) (s := i) (g := g) (by omega) (by omega)).1
    have hOl := dText_list 58 k i g
    obtain ⟨Q, hQ⟩ : ∃ Q : ByteArray, Q = ⟨(quoteL tag.data.toList).toArray⟩ := ⟨_, rfl⟩
    have hQl : Q.data.toList = quoteL tag.data.toList := by rw [hQ]
    have hQs : Q.size ≤ 1000 := by
      rw [← len_bytes, hQl]
      have h1 := (escL_len tag.data.toList).2
      have h2 := (tagOk_len ht).2
      simp [quoteL]
      omega
    rw [← hQ] at c3
    clear hQ
    generalize dText 58 k i g = O at *
    have fin : ∀ E : ByteArray, Ret 19 #[rV k i g st wy tr nx tag] w (.tuple #[.string E, .int .i64 0]) → E.data.toList = rsL k i g st wy tr nx tag.data.toList → Ret 19 #[rV k i g st wy tr nx tag] w (.tuple #[.string (rsText k i g st wy tr nx tag), .int .i64 0]) := fun E h e => by
      rw [show E = rsText k i g st wy tr nx tag from str_ext (by rw [e]; simp [rsText])] at h
      exact h
    have z0 : spB.size = 1 := rfl
    have z1 : sLive.size = 4 := rfl
    have z2 : sClos.size = 7 := rfl
    have z3 : sRele.size = 8 := rfl
    have z4 : sQuar.size = 10 := rfl
    have z5 : sClose.size = 5 := rfl
    have z6 : sExpi.size = 6 := rfl
    have z7 : sColl.size = 7 := rfl
    rcases hst with rfl | rfl | rfl | rfl
    · have := rtext_1 k i g wy tr nx tag O Q _ _ _ _ w c1 c2 c3 (cat_of _ _ (by first | omega | (simp only [ByteArray.size_append]; omega))) (cat_of _ _ (by first | omega | (simp only [ByteArray.size_append]; omega))) (cat_of _ _ (by first | omega | (simp only [ByteArray.size_append]; omega))) (cat_of _ _ (by first | omega | (simp only [ByteArray.size_append]; omega)))
      exact fin _ this (by simp only [app_list, hOl, hQl]; simp [rsL, rsWords, Lib.join, List.intercalate, stL])
    · obtain ⟨⟨b1, b2⟩, ⟨b3, b4⟩, ⟨b5, b6⟩, -⟩ := (pOk_iff5 hp) (by omega)
      have hD := digits_size_le tr.toNat (by omega)
      have hD2 := digits_size_le nx.toNat (by omega)
      have c4 := fun w => rdig_c tr w b3 (by omega)
      have c5 := fun w => rdig_c nx w b5 (by omega)
      have hDl := digits_list tr.toNat
      have hD2l := digits_list nx.toNat
      generalize digits tr.toNat = D at *
      generalize digits nx.toNat = D2 at *
      rcases (by omega : wy = 1 ∨ wy = 2 ∨ wy = 3) with rfl | rfl | rfl
      · have := rtext_2_1 k i g tr nx tag O Q _ _ _ _ _ _ _ _ _ _ D D2 w c1 c2 c3 (cat_of _ _ (by first | omega | (simp only [ByteArray.size_append]; omega))) (cat_of _ _ (by first | omega | (simp only [ByteArray.size_append]; omega))) (cat_of _ _ (by first | omega | (simp only [ByteArray.size_append]; omega))) (cat_of _ _ (by first | omega | (simp only [ByteArray.size_append]; omega))) (cat_of _ _ (by first | omega | (simp only [ByteArray.size_append]; omega))) (cat_of _ _ (by first | omega | (simp only [ByteArray.size_append]; omega))) (cat_of _ _ (by first | omega | (simp only [ByteArray.size_append]; omega))) (cat_of _ _ (by first | omega | (simp only [ByteArray.size_append]; omega))) (cat_of _ _ (by first | omega | (simp only [ByteArray.size_append]; omega))) (cat_of _ _ (by first | omega | (simp only [ByteArray.size_append]; omega))) c4 c5
        exact fin _ this (by simp only [app_list, hOl, hQl, hDl, hD2l]; simp [rsL, rsWords, Lib.join, List.intercalate, stL, whL])
      · have := rtext_2_2 k i g tr nx tag O Q _ _ _ _ _ _ _ _ _ _ D D2 w c1 c2 c3 (cat_of _ _ (by first | omega | (simp only [ByteArray.size_append]; omega))) (cat_of _ _ (by first | omega | (simp only [ByteArray.size_append]; omega))) (cat_of _ _ (by first | omega | (simp only [ByteArray.size_append]; omega))) (cat_of _ _ (by first | omega | (simp only [ByteArray.size_append]; omega))) (cat_of _ _ (by first | omega | (simp only [ByteArray.size_append]; omega))) (cat_of _ _ (by first | omega | (simp only [ByteArray.size_append]; omega))) (cat_of _ _ (by first | omega | (simp only [ByteArray.size_append]; omega))) (cat_of _ _ (by first | omega | (simp only [ByteArray.size_append]; omega))) (cat_of _ _ (by first | omega | (simp only [ByteArray.size_append]; omega))) (cat_of _ _ (by first | omega | (simp only [ByteArray.size_append]; omega))) c4 c5
        exact fin _ this (by simp only [app_list, hOl, hQl, hDl, hD2l]; simp [rsL, rsWords, Lib.join, List.intercalate, stL, whL])
      · have := rtext_2_3 k i g tr nx tag O Q _ _ _ _ _ _ _ _ _ _ D D2 w c1 c2 c3 (cat_of _ _ (by first | omega | (simp only [ByteArray.size_append]; omega))) (cat_of _ _ (by first | omega | (simp only [ByteArray.size_append]; omega))) (cat_of _ _ (by first | omega | (simp only [ByteArray.size_append]; omega))) (cat_of _ _ (by first | omega | (simp only [ByteArray.size_append]; omega))) (cat_of _ _ (by first | omega | (simp only [ByteArray.size_append]; omega))) (cat_of _ _ (by first | omega | (simp only [ByteArray.size_append]; omega))) (cat_of _ _ (by first | omega | (simp only [ByteArray.size_append]; omega))) (cat_of _ _ (by first | omega | (simp only [ByteArray.size_append]; omega))) (cat_of _ _ (by first | omega | (simp only [ByteArray.size_append]; omega))) (cat_of _ _ (by first | omega | (simp only [ByteArray.size_append]; omega))) c4 c5
        exact fin _ this (by simp only [app_list, hOl, hQl, hDl, hD2l]; simp [rsL, rsWords, Lib.join, List.intercalate, stL, whL])
    · obtain ⟨⟨b1, b2⟩, ⟨b3, b4⟩, ⟨b5, b6⟩, -⟩ := (pOk_iff5 hp) (by omega)
      have hD := digits_size_le tr.toNat (by omega)
      have hD2 := digits_size_le nx.toNat (by omega)
      have c4 := fun w => rdig_c tr w b3 (by omega)
      have c5 := fun w => rdig_c nx w b5 (by omega)
      have hDl := digits_list tr.toNat
      have hD2l := digits_list nx.toNat
      generalize digits tr.toNat = D at *
      generalize digits nx.toNat = D2 at *
      rcases (by omega : wy = 1 ∨ wy = 2 ∨ wy = 3) with rfl | rfl | rfl
      · have := rtext_3_1 k i g tr nx tag O Q _ _ _ _ _ _ _ _ D w c1 c2 c3 (cat_of _ _ (by first | omega | (simp only [ByteArray.size_append]; omega))) (cat_of _ _ (by first | omega | (simp only [ByteArray.size_append]; omega))) (cat_of _ _ (by first | omega | (simp only [ByteArray.size_append]; omega))) (cat_of _ _ (by first | omega | (simp only [ByteArray.size_append]; omega))) (cat_of _ _ (by first | omega | (simp only [ByteArray.size_append]; omega))) (cat_of _ _ (by first | omega | (simp only [ByteArray.size_append]; omega))) (cat_of _ _ (by first | omega | (simp only [ByteArray.size_append]; omega))) (cat_of _ _ (by first | omega | (simp only [ByteArray.size_append]; omega))) c4
        exact fin _ this (by simp only [app_list, hOl, hQl, hDl, hD2l]; simp [rsL, rsWords, Lib.join, List.intercalate, stL, whL])
      · have := rtext_3_2 k i g tr nx tag O Q _ _ _ _ _ _ _ _ D w c1 c2 c3 (cat_of _ _ (by first | omega | (simp only [ByteArray.size_append]; omega))) (cat_of _ _ (by first | omega | (simp only [ByteArray.size_append]; omega))) (cat_of _ _ (by first | omega | (simp only [ByteArray.size_append]; omega))) (cat_of _ _ (by first | omega | (simp only [ByteArray.size_append]; omega))) (cat_of _ _ (by first | omega | (simp only [ByteArray.size_append]; omega))) (cat_of _ _ (by first | omega | (simp only [ByteArray.size_append]; omega))) (cat_of _ _ (by first | omega | (simp only [ByteArray.size_append]; omega))) (cat_of _ _ (by first | omega | (simp only [ByteArray.size_append]; omega))) c4
        exact fin _ this (by simp only [app_list, hOl, hQl, hDl, hD2l]; simp [rsL, rsWords, Lib.join, List.intercalate, stL, whL])
      · have := rtext_3_3 k i g tr nx tag O Q _ _ _ _ _ _ _ _ D w c1 c2 c3 (cat_of _ _ (by first | omega | (simp only [ByteArray.size_append]; omega))) (cat_of _ _ (by first | omega | (simp only [ByteArray.size_append]; omega))) (cat_of _ _ (by first | omega | (simp only [ByteArray.size_append]; omega))) (cat_of _ _ (by first | omega | (simp only [ByteArray.size_append]; omega))) (cat_of _ _ (by first | omega | (simp only [ByteArray.size_append]; omega))) (cat_of _ _ (by first | omega | (simp only [ByteArray.size_append]; omega))) (cat_of _ _ (by first | omega | (simp only [ByteArray.size_append]; omega))) (cat_of _ _ (by first | omega | (simp only [ByteArray.size_append]; omega))) c4
        exact fin _ this (by simp only [app_list, hOl, hQl, hDl, hD2l]; simp [rsL, rsWords, Lib.join, List.intercalate, stL, whL])
    · obtain ⟨⟨b1, b2⟩, ⟨b3, b4⟩, ⟨b5, b6⟩, -⟩ := (pOk_iff5 hp) (by omega)
      have hD := digits_size_le tr.toNat (by omega)
      have hD2 := digits_size_le nx.toNat (by omega)
      have c4 := fun w => rdig_c tr w b3 (by omega)
      have c5 := fun w => rdig_c nx w b5 (by omega)
      have hDl := digits_list tr.toNat
      have hD2l := digits_list nx.toNat
      generalize digits tr.toNat = D at *
      generalize digits nx.toNat = D2 at *
      rcases (by omega : wy = 1 ∨ wy = 2 ∨ wy = 3) with rfl | rfl | rfl
      · have := rtext_4_1 k i g tr nx tag O Q _ _ _ _ _ _ _ _ D w c1 c2 c3 (cat_of _ _ (by first | omega | (simp only [ByteArray.size_append]; omega))) (cat_of _ _ (by first | omega | (simp only [ByteArray.size_append]; omega))) (cat_of _ _ (by first | omega | (simp only [ByteArray.size_append]; omega))) (cat_of _ _ (by first | omega | (simp only [ByteArray.size_append]; omega))) (cat_of _ _ (by first | omega | (simp only [ByteArray.size_append]; omega))) (cat_of _ _ (by first | omega | (simp only [ByteArray.size_append]; omega))) (cat_of _ _ (by first | omega | (simp only [ByteArray.size_append]; omega))) (cat_of _ _ (by first | omega | (simp only [ByteArray.size_append]; omega))) c4
        exact fin _ this (by simp only [app_list, hOl, hQl, hDl, hD2l]; simp [rsL, rsWords, Lib.join, List.intercalate, stL, whL])
      · have := rtext_4_2 k i g tr nx tag O Q _ _ _ _ _ _ _ _ D w c1 c2 c3 (cat_of _ _ (by first | omega | (simp only [ByteArray.size_append]; omega))) (cat_of _ _ (by first | omega | (simp only [ByteArray.size_append]; omega))) (cat_of _ _ (by first | omega | (simp only [ByteArray.size_append]; omega))) (cat_of _ _ (by first | omega | (simp only [ByteArray.size_append]; omega))) (cat_of _ _ (by first | omega | (simp only [ByteArray.size_append]; omega))) (cat_of _ _ (by first | omega | (simp only [ByteArray.size_append]; omega))) (cat_of _ _ (by first | omega | (simp only [ByteArray.size_append]; omega))) (cat_of _ _ (by first | omega | (simp only [ByteArray.size_append]; omega))) c4
        exact fin _ this (by simp only [app_list, hOl, hQl, hDl, hD2l]; simp [rsL, rsWords, Lib.join, List.intercalate, stL, whL])
      · have := rtext_4_3 k i g tr nx tag O Q _ _ _ _ _ _ _ _ D w c1 c2 c3 (cat_of _ _ (by first | omega | (simp only [ByteArray.size_append]; omega))) (cat_of _ _ (by first | omega | (simp only [ByteArray.size_append]; omega))) (cat_of _ _ (by first | omega | (simp only [ByteArray.size_append]; omega))) (cat_of _ _ (by first | omega | (simp only [ByteArray.size_append]; omega))) (cat_of _ _ (by first | omega | (simp only [ByteArray.size_append]; omega))) (cat_of _ _ (by first | omega | (simp only [ByteArray.size_append]; omega))) (cat_of _ _ (by first | omega | (simp only [ByteArray.size_append]; omega))) (cat_of _ _ (by first | omega | (simp only [ByteArray.size_append]; omega))) c4
        exact fin _ this (by simp only [app_list, hOl, hQl, hDl, hD2l]; simp [rsL, rsWords, Lib.join, List.intercalate, stL, whL])
  · rw [if_neg he]
    exact rtext_e k i g st wy tr nx _ tag w he c1
end Go.Proofs.YtgckfiadnmjonaaGreatDoor

/- The reference's cut and number. -/
namespace Go.Proofs.YtgckfiadnmjonaaGreatDoor
open Go.RowKit
set_option linter.unusedVariables false
set_option linter.unusedSimpArgs false
set_option maxHeartbeats 2000000
theorem rcut_no (s : ByteArray) (hs : s.size ≤ 100000) (hn : (32 : UInt8) ∉ s.data.toList) (w : World) :
    Ret 48 #[.string s] w (.tuple #[.string s, .string ⟨#[]⟩]) := by
  have hne := fun k hk => byte_ne (m := 32) rfl (no_mem s 32 hn k hk)
  have HN := Lib.hid hne
  clear hne hn
  go_enter Tryz.func48, Tryz.ntmps48
  go_wp2_with fail
  go_loop [4] (fun at_ => ∃ k : Nat, k ≤ s.size ∧ at_ = .int .i64 k) (fun at_ => s.size - (intOf at_).toNat)
  case atStart => exact ⟨0, Nat.zero_le _, rfl⟩
  case round =>
    obtain ⟨k, hk, rfl⟩ := hrel
    by_cases hlt : k < s.size
    · obtain ⟨e1, e2⟩ := HN.out k hlt
      go_wp2_with fail
      go_round
      case rel => exact ⟨k + 1, by omega, by go_num⟩
      case measure => simp [intOf]; omega
    · go_wp2_with fail
      go_returns
      exact ⟨rfl, by go_grown⟩
theorem rcut_at (s : ByteArray) (hs : s.size ≤ 100000) (pre post : List UInt8) (he : s.data.toList = pre ++ 32 :: post) (hc : (32 : UInt8) ∉ pre) (w : World) :
    Ret 48 #[.string s] w (.tuple #[.string ⟨pre.toArray⟩, .string ⟨post.toArray⟩]) := by
  have hne := fun k h hk => byte_ne (m := 32) rfl (at_mem s pre 32 post he hc k h hk)
  have hl : pre.length < s.size := by rw [← len_bytes, he]; simp
  have heq := byte_eq (m := 32) rfl (at_here s pre 32 post he hl)
  have HN := Lib.hid hne
  have HQ := Lib.hid heq
  have sr : s.extract 0 pre.length = ⟨pre.toArray⟩ := by
    apply str_ext
    rw [Lib.extract_data, he]
    simp
  have sp : s.extract (pre.length + 1) s.size = ⟨post.toArray⟩ := by
    apply str_ext
    rw [Lib.extract_to_end, he]
    simp
  generalize ByteArray.mk pre.toArray = P1 at sr ⊢
  generalize ByteArray.mk post.toArray = P2 at sp ⊢
  generalize pre.length = n at *
  clear hne hc he heq
  go_enter Tryz.func48, Tryz.ntmps48
  go_wp2_with fail
  go_loop [4] (fun at_ => ∃ k : Nat, k ≤ n ∧ at_ = .int .i64 k) (fun at_ => n - (intOf at_).toNat)
  case atStart => exact ⟨0, Nat.zero_le _, rfl⟩
  case round =>
    obtain ⟨k, hk, rfl⟩ := hrel
    by_cases hlt : k < n
    · have hls : k < s.size := by omega
      obtain ⟨e1, e2⟩ := HN.out k hlt hls
      go_wp2_with fail
      go_round
      case rel => exact ⟨k + 1, by omega, by go_num⟩
      case measure => simp [intOf]; omega
    · obtain rfl : k = n := by omega
      obtain ⟨e1, e2⟩ := HQ.out
      have q1 : ((k : Int) + 1) ≤ s.size := by omega
      have q2 : (0 : Int) ≤ (k : Int) + 1 := by omega
      have q3 : (k : Int) ≤ s.size := by omega
      go_wp2_with fail
      go_region
      go_wp2_with fail
      go_returns
      exact ⟨by simp [sr, sp], by go_grown⟩
theorem rcut_c (s : ByteArray) (hs : s.size ≤ 100000) (w : World) :
    Ret 48 #[.string s] w (.tuple #[.string ⟨(Lib.cut s.data.toList [32]).1.toArray⟩, .string ⟨(Lib.cut s.data.toList [32]).2.1.toArray⟩]) := by
  rcases mem_split s.data.toList 32 with h | ⟨pre, post, h1, h2⟩
  · rw [cut_no _ _ h]
    exact (rcut_no s hs h w).to (by rw [show (⟨s.data.toList.toArray⟩ : ByteArray) = s from str_ext (by simp)])
  · rw [h2, cut_at _ _ _ h1]
    exact rcut_at s hs pre post h2 h1 w
/-- What number gives. -/
def num13 (l : List UInt8) : Int := if l.length ≤ 13 ∧ l.all isDig = true then valFrom 0 l else 0
theorem num13_bound (l : List UInt8) : 0 ≤ num13 l ∧ num13 l ≤ 99999999999999 := by
  unfold num13
  split
  · rename_i h
    have := valFrom_lt l 0 h.2
    have h2 : (10 : Nat) ^ l.length ≤ 10 ^ 13 := Nat.pow_le_pow_right (by decide) h.1
    omega
  · omega
theorem num13_dec (n : Nat) (h : n < 10000000000000) : num13 (Lib.decDigits n) = n := by
  unfold num13
  rw [if_pos ⟨dec_len 12 n (by simpa using h), decDigits_all n⟩, val_decDigits]
theorem rnumber_c (s : ByteArray) (hs : s.size ≤ 100000) (w : World) : Ret 50 #[.string s] w (.int .i64 (num13 s.data.toList)) := by
  have hl := len_bytes s
  have HL := Lib.hid hl
  clear hl
  go_enter Tryz.func50, Tryz.ntmps50
  go_wp2_with fail
  go_loop [3, 4] (fun n i => ∃ k : Nat, k ≤ s.size ∧ i = .int .i64 k ∧ n = .int .i64 (valFrom 0 (s.data.toList.take k)) ∧ (s.data.toList.take k).all isDig = true ∧ (k = 0 ∨ s.size ≤ 13)) (fun _ i => s.size - (intOf i).toNat)
  case atStart => exact ⟨0, Nat.zero_le _, rfl, rfl, rfl, .inl rfl⟩
  case round =>
    obtain ⟨k, hk, rfl, rfl, hall, hsz⟩ := hrel
    have hv : valFrom 0 (s.data.toList.take k) < 10000000000000 := by
      have h1 := valFrom_lt _ 0 hall
      have h3 : (s.data.toList.take k).length ≤ 13 := by rw [List.length_take, HL.out]; omega
      have h2 : (10 : Nat) ^ (s.data.toList.take k).length ≤ 10 ^ 13 := Nat.pow_le_pow_right (by decide) h3
      omega
    have HA := Lib.hid hall
    clear hall
    by_cases hlt : k < s.size
    · have hval := val_snoc s k hlt
      have hat := all_take_snoc s k hlt
      have HV := Lib.hid hval
      have HT := Lib.hid hat
      clear hval hat
      by_cases hd : 48 ≤ s[k].toNat ∧ s[k].toNat ≤ 57
      · obtain ⟨d1, d2⟩ := hd
        have c1 : (48 : Int) ≤ (s[k].toNat : Int) := by omega
        have c2 : (s[k].toNat : Int) ≤ 57 := by omega
        by_cases hs13 : s.size ≤ 13
        · have c3 : (s.size : Int) ≤ 13 := by omega
          go_wp2_with fail
          go_round
          case rel => exact ⟨k + 1, by omega, by go_num, by rw [HV.out]; go_num, by rw [HT.out, HA.out]; simp [isDig, d1, d2], .inr hs13⟩
          case measure => simp [intOf]; omega
        · have c3 : (13 : Int) < (s.size : Int) := by omega
          have hV : num13 s.data.toList = 0 := by unfold num13; rw [if_neg (fun h => by rw [HL.out] at h; omega)]
          have HV2 := Lib.hid hV
          clear hV
          go_wp2_with fail
          go_returns
          exact ⟨by rw [HV2.out]; rfl, Below.refl _ _⟩
      · have hdig : isDig s[k] = false := by unfold isDig; simpa using hd
        have hn := not_all_of hlt hdig
        have hV : num13 s.data.toList = 0 := by unfold num13; rw [if_neg (fun h => by rw [hn] at h; cases h.2)]
        have HV := Lib.hid hV
        have HH := Lib.hid hd
        clear hd hdig hn hV
        by_cases c1 : (s[k].toNat : Int) < 48
        · go_wp2_with fail
          go_returns
          exact ⟨by rw [HV.out]; rfl, Below.refl _ _⟩
        · have c2 : (57 : Int) < (s[k].toNat : Int) := by have := HH.out; omega
          go_wp2_with fail
          go_returns
          exact ⟨by rw [HV.out]; rfl, Below.refl _ _⟩
    · have ek : k = s.size := by omega
      have et : s.data.toList.take k = s.data.toList := by rw [ek]; exact List.take_of_length_le (by rw [HL.out]; exact Nat.le_refl _)
      have hV : num13 s.data.toList = (valFrom 0 (s.data.toList.take k) : Int) := by
        unfold num13
        rw [if_pos ⟨by rw [HL.out]; omega, by rw [← et]; exact HA.out⟩, et]
      have HV := Lib.hid hV
      clear ek et hV
      go_wp2_with fail
      go_returns
      exact ⟨by rw [HV.out]; rfl, Below.refl _ _⟩
end Go.Proofs.YtgckfiadnmjonaaGreatDoor

/- The reference's Parse. -/
namespace Go.Proofs.YtgckfiadnmjonaaGreatDoor
open Go.RowKit Lib
set_option linter.unusedVariables false
set_option linter.unusedSimpArgs false
set_option maxHeartbeats 4000000
set_option maxRecDepth 20000
abbrev cw (l : List UInt8) : List UInt8 := (cut l [32]).1
abbrev cr (l : List UInt8) : List UInt8 := (cut l [32]).2.1
/-- What the reference takes for the parts, for a state. -/
def cA (st : Int) (l : List UInt8) : List UInt8 := if st = 1 then l else cr (cr l)
def cT (st : Int) (l : List UInt8) : Int := if st = 1 then 0 else num13 (cw (cr l))
def cN (st : Int) (l : List UInt8) : Int := if st = 2 then num13 (cw (cA st l)) else 0
def cB (st : Int) (l : List UInt8) : List UInt8 := if st = 2 then cr (cA st l) else cA st l
def cG (st : Int) (l : List UInt8) : ByteArray := ⟨(unqL (cB st l)).1.toArray⟩
theorem cut_len (l : List UInt8) : (cw l).length ≤ l.length ∧ (cr l).length ≤ l.length := by
  rcases mem_split l 32 with h | ⟨pre, post, h1, h2⟩
  · unfold cw cr; rw [cut_no _ _ h]; simp
  · unfold cw cr; rw [h2, cut_at _ _ _ h1]; simp; omega
theorem cB_len (st : Int) (l : List UInt8) : (cA st l).length ≤ l.length ∧ (cB st l).length ≤ l.length ∧ (cG st l).size ≤ l.length := by
  have a := cut_len l
  have b := cut_len (cr l)
  have hA : (cA st l).length ≤ l.length := by unfold cA; split <;> omega
  have c := cut_len (cA st l)
  have hB : (cB st l).length ≤ l.length := by unfold cB; split <;> omega
  refine ⟨hA, hB, ?_⟩
  have := unqL_len (cB st l)
  show (unqL (cB st l)).1.toArray.size ≤ _
  simp
  omega
/-- A possible resource with this text is what the reference takes. -/
theorem cand_of {k i g st wy tr nx : Int} {tag : ByteArray} {s : List UInt8} (h : IsR k i g st wy tr nx tag s) : dTextL 58 k i g = cw s ∧ dOk 64 k i g = true ∧ cT st (cr (cr s)) = tr ∧ cN st (cr (cr s)) = nx ∧ cG st (cr (cr s)) = tag ∧ (1 ≤ st ∧ st ≤ 4) ∧ (0 ≤ wy ∧ wy ≤ 3) := by
  have e1 : s = dTextL 58 k i g ++ 32 :: (stL st ++ 32 :: tail2 st wy tr nx tag.data.toList) := by rw [← h.2.2, rsL_eq]
  have hc := isR_cuts h (no32_out k i g) e1 (no32_st st) rfl
  have w1 : cw s = dTextL 58 k i g := by unfold cw; rw [← h.2.2, rsL_cut]
  have w2 : cr s = stL st ++ 32 :: tail2 st wy tr nx tag.data.toList := by unfold cr; rw [← h.2.2, rsL_cut]
  have w3 : cr (cr s) = tail2 st wy tr nx tag.data.toList := by rw [w2]; unfold cr; rw [rsL_cut2]
  have ht : (unqL (quoteL tag.data.toList)).1 = tag.data.toList := by
    have := unqL_quote hc.tag []
    rw [List.append_nil] at this
    rw [this]
  have hG : ∀ l, cB st l = quoteL tag.data.toList → cG st l = tag := fun l hl => by
    unfold cG; rw [hl, ht]
  refine ⟨w1.symm, (pOk_out hc.ok).1, ?_⟩
  rw [w3]
  by_cases s1 : st = 1
  · subst s1
    obtain ⟨rfl, rfl, rfl, _⟩ := hc.live
    exact ⟨rfl, rfl, hG _ (by unfold cB cA; rw [if_neg (by decide), if_pos rfl, tail2_one]), by omega, by omega⟩
  · have hr := hc.range s1
    have t1 : cr (tail2 st wy tr nx tag.data.toList) = decDigits tr.toNat ++ 32 :: tail4 st nx tag.data.toList := by unfold cr; rw [tail2_cut _ _ _ _ _ s1]
    have t2 : cw (cr (tail2 st wy tr nx tag.data.toList)) = decDigits tr.toNat := by rw [t1]; unfold cw; rw [tail3_cut]
    have t3 : cr (cr (tail2 st wy tr nx tag.data.toList)) = tail4 st nx tag.data.toList := by rw [t1]; unfold cr; rw [tail3_cut]
    have hT : cT st (tail2 st wy tr nx tag.data.toList) = tr := by
      unfold cT; rw [if_neg s1, t2, num13_dec _ (by omega)]; omega
    have hA : cA st (tail2 st wy tr nx tag.data.toList) = tail4 st nx tag.data.toList := by unfold cA; rw [if_neg s1, t3]
    have hst := hc.state
    by_cases s2 : st = 2
    · subst s2
      have hN : cN 2 (tail2 2 wy tr nx tag.data.toList) = nx := by
        unfold cN; rw [if_pos rfl, hA]; unfold cw; rw [tail4_cut]
        show num13 (decDigits nx.toNat) = nx
        rw [num13_dec _ (by omega)]; omega
      exact ⟨hT, hN, hG _ (by unfold cB; rw [if_pos rfl, hA]; unfold cr; rw [tail4_cut]), by omega, by omega⟩
    · have hn : nx = 0 := by omega
      subst hn
      exact ⟨hT, by unfold cN; rw [if_neg s2], hG _ (by unfold cB; rw [if_neg s2, hA, tail4_else s2]), by omega, by omega⟩
end Go.Proofs.YtgckfiadnmjonaaGreatDoor
