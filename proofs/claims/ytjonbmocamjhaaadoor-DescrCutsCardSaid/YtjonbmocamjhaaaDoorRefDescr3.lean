/- The references of chapter 05: parts. -/
import Derived.Test.YtjonbmocamjhaaaDoorRefDescr1
import Derived.Test.YtjonbmocamjhaaaDoorDescr6
import Derived.Deep.LoopGhost
namespace Go.Proofs.YtjonbmocamjhaaaDoor
open Go.RowKit
open Go.Lib (decDigits)

def kI (x : UInt8) : Int := if x = 102 then 1 else if x = 98 then 2 else if x = 108 then 3 else 0
def kU (x : UInt8) (k : Int) : Int := if kI x < k then kI x else 0
theorem kI_bound (x : UInt8) : 0 ≤ kI x ∧ kI x ≤ 3 := by unfold kI; split <;> (try split) <;> (try split) <;> omega
theorem kU_one (x : UInt8) : kU x 1 = 0 := by unfold kU; split <;> (have := kI_bound x; omega)
theorem kU_four (x : UInt8) : kU x 4 = kI x := by unfold kU; rw [if_pos (by have := kI_bound x; omega)]
theorem kI_letter {k : Int} (h1 : 1 ≤ k) (h3 : k ≤ 3) : kI (letterB k) = k := by
  rcases (by omega : k = 1 ∨ k = 2 ∨ k = 3) with rfl | rfl | rfl <;> rfl
theorem letter_kI {x : UInt8} (h : 0 < kI x) : letterB (kI x) = x := by
  unfold kI at h ⊢
  by_cases e1 : x = 102
  · rw [if_pos e1, e1]; rfl
  · by_cases e2 : x = 98
    · rw [if_neg e1, if_pos e2, e2]; rfl
    · by_cases e3 : x = 108
      · rw [if_neg e1, if_neg e2, if_pos e3, e3]; rfl
      · rw [if_neg e1, if_neg e2, if_neg e3] at h; omega
theorem kU_yes {x : UInt8} {k : Int} (h1 : 1 ≤ k) (h3 : k ≤ 3) (e : x = letterB k) : kU x (k + 1) = k := by
  unfold kU
  rw [e, kI_letter h1 h3, if_pos (by omega)]
theorem kU_no {x : UInt8} {k : Int} (h1 : 1 ≤ k) (e : x ≠ letterB k) : kU x (k + 1) = kU x k := by
  unfold kU
  have hb := kI_bound x
  by_cases h : kI x = k
  · exact absurd (by rw [← h]; exact (letter_kI (by omega)).symm) e
  · by_cases h2 : kI x < k
    · rw [if_pos (by omega), if_pos h2]
    · rw [if_neg (by omega), if_neg h2]
theorem at_mem (s : ByteArray) (pre : List UInt8) (c : UInt8) (post : List UInt8) (he : s.data.toList = pre ++ c :: post) (hm : c ∉ pre) (k : Nat) (h : k < pre.length) (hk : k < s.size) : s[k] ≠ c := by
  have e1 : s[k] = s.data.toList[k]'(by simpa using hk) := rfl
  intro e
  apply hm
  have e2 : pre[k] = c := by
    rw [← e, e1]
    have : (pre ++ c :: post)[k]'(by simp; omega) = pre[k] := List.getElem_append_left h
    rw [← this]
    congr 1
    exact he.symm
  rw [← e2]
  exact List.getElem_mem _
theorem at_here (s : ByteArray) (pre : List UInt8) (c : UInt8) (post : List UInt8) (he : s.data.toList = pre ++ c :: post) (hk : pre.length < s.size) : s[pre.length] = c := by
  have e1 : s[pre.length] = s.data.toList[pre.length]'(by simpa using hk) := rfl
  rw [e1]
  have : (pre ++ c :: post)[pre.length]'(by simp) = c := by simp
  rw [← this]
  congr 1
theorem no_mem (s : ByteArray) (c : UInt8) (hm : c ∉ s.data.toList) (k : Nat) (hk : k < s.size) : s[k] ≠ c := by
  have e1 : s[k] = s.data.toList[k]'(by simpa using hk) := rfl
  intro e
  apply hm
  rw [← e, e1]
  exact List.getElem_mem _
theorem byte_ne {a c : UInt8} {m : Int} (hm : (c.toNat : Int) = m) (h : a ≠ c) : ((a.toNat : Int) == m) = false ∧ ((a.toNat : Int) != m) = true := by
  have e : ((a.toNat : Int) == m) = false := by
    rw [beq_eq_false_iff_ne, ← hm]
    intro e
    exact h (UInt8.toNat_inj.1 (by omega))
  exact ⟨e, by rw [bne, e]; rfl⟩
theorem byte_eq {a c : UInt8} {m : Int} (hm : (c.toNat : Int) = m) (h : a = c) : ((a.toNat : Int) == m) = true ∧ ((a.toNat : Int) != m) = false := by
  have e : ((a.toNat : Int) == m) = true := by rw [beq_iff_eq, h, hm]
  exact ⟨e, by rw [bne, e]; rfl⟩

set_option maxHeartbeats 2000000 in
theorem parts_no (s : ByteArray) (hs : s.size ≤ 100000) (c : UInt8) (m : Int) (hm : (c.toNat : Int) = m) (hn : c ∉ s.data.toList) (w : World) :
    Ret 41 #[.string s, .int .u8 m] w (.tuple #[.int .i64 0, .int .u64 0, .int .u64 0, .bool false]) := by
  have hne := fun k hk => byte_ne hm (no_mem s c hn k hk)
  have HN := Lib.hid hne
  clear hne hn hm
  go_enter Tryd.func41, Tryd.ntmps41
  go_wp2_with fail
  go_loop [8] (fun at_ => ∃ k : Nat, k ≤ s.size ∧ at_ = .int .i64 k) (fun at_ => s.size - (intOf at_).toNat)
  case atStart => exact ⟨0, Nat.zero_le _, rfl⟩
  case round =>
    obtain ⟨k, hk, rfl⟩ := hrel
    by_cases hlt : k < s.size
    · obtain ⟨e1, e2⟩ := HN.out k hlt
      go_wp2_with fail
      go_round
      case rel => exact ⟨k + 1, by omega, by go_num⟩
      case measure => simp [intOf]; omega
    · have ek : ((k : Int) == (s.size : Int)) = true := by rw [beq_iff_eq]; omega
      go_wp2_with fail
      go_returns
      exact ⟨rfl, by go_grown⟩
set_option maxHeartbeats 2000000 in
theorem parts_short (s : ByteArray) (hs : s.size ≤ 100000) (c : UInt8) (m : Int) (hm : (c.toNat : Int) = m) (pre post : List UInt8) (he : s.data.toList = pre ++ c :: post) (hc : c ∉ pre) (hp : pre.length < 2) (w : World) :
    Ret 41 #[.string s, .int .u8 m] w (.tuple #[.int .i64 0, .int .u64 0, .int .u64 0, .bool false]) := by
  have hne := fun k h hk => byte_ne hm (at_mem s pre c post he hc k h hk)
  have hl : pre.length < s.size := by rw [← len_bytes, he]; simp
  have heq := byte_eq hm (at_here s pre c post he hl)
  have HN := Lib.hid hne
  have HQ := Lib.hid heq
  generalize pre.length = n at *
  clear hne hc hm he heq
  go_enter Tryd.func41, Tryd.ntmps41
  go_wp2_with fail
  go_loop [8] (fun at_ => ∃ k : Nat, k ≤ n ∧ at_ = .int .i64 k) (fun at_ => n - (intOf at_).toNat)
  case atStart => exact ⟨0, Nat.zero_le _, rfl⟩
  case round =>
    obtain ⟨k, hk, rfl⟩ := hrel
    by_cases hlt : k < n
    · have hls : k < s.size := by omega
      obtain ⟨e1, e2⟩ := HN.out k hlt hls
      go_wp2_with fail
      go_round
      case rel => exact ⟨k + 1, by omega, by go_num⟩
      case measure => simp [intOf]; omega
    · obtain rfl : k = n := by omega
      obtain ⟨e1, e2⟩ := HQ.out
      have ek : ((k : Int) == (s.size : Int)) = false := by rw [beq_eq_false_iff_ne]; omega
      go_wp2_with fail
      go_returns
      exact ⟨rfl, by go_grown⟩
def pOk (x : UInt8) (r post : List UInt8) : Bool := numB r && (numB post && (decide (0 < kI x) && decide (numV post < 4294967296)))
set_option linter.unusedSimpArgs false in
set_option maxHeartbeats 4000000 in
set_option maxRecDepth 20000 in
theorem parts_at (s : ByteArray) (hs : s.size ≤ 100000) (c x : UInt8) (m : Int) (hm : (c.toNat : Int) = m) (r post : List UInt8) (he : s.data.toList = (x :: r) ++ c :: post) (hc : c ∉ x :: r) (hp : 1 ≤ r.length) (w : World) :
    Ret 41 #[.string s, .int .u8 m] w (.tuple #[.int .i64 (kI x), .int .u64 (numV r), .int .u64 (numV post), .bool (pOk x r post)]) := by
  have hne := fun k h hk => byte_ne hm (at_mem s (x :: r) c post he hc k h hk)
  have hl : (x :: r).length < s.size := by rw [← len_bytes, he]; simp
  have heq := byte_eq hm (at_here s (x :: r) c post he hl)
  have HN := Lib.hid hne
  have HQ := Lib.hid heq
  have h2 : 2 ≤ (x :: r).length := by rw [List.length_cons]; omega
  have sx : s.extract 0 1 = ⟨#[x]⟩ := by
    apply str_ext
    rw [Lib.extract_data, he]
    simp
  have sr : s.extract 1 (x :: r).length = ⟨r.toArray⟩ := by
    apply str_ext
    rw [Lib.extract_data, he]
    simp
  have sp : s.extract ((x :: r).length + 1) s.size = ⟨post.toArray⟩ := by
    apply str_ext
    rw [Lib.extract_to_end, he]
    simp
  have hnr := ref_Number ⟨r.toArray⟩
  have hnp := ref_Number ⟨post.toArray⟩
  rw [of_list] at hnr hnp
  obtain ⟨a0, a1⟩ := numV_bound r
  obtain ⟨b0, b1⟩ := numV_bound post
  obtain ⟨x0, x1⟩ := kI_bound x
  have hfin : pOk x r post = (numB r && (numB post && (decide (0 < kI x) && decide (numV post < 4294967296)))) := rfl
  generalize pOk x r post = ok at hfin ⊢
  generalize numV r = a at *
  generalize numV post = b at *
  generalize numB r = p at *
  generalize numB post = q at *
  have HF := Lib.hid hfin
  have HR := Lib.hid hnr
  have HP := Lib.hid hnp
  clear hne hc hm he heq hnr hnp hfin hp
  generalize (x :: r).length = n at *
  go_enter Tryd.func41, Tryd.ntmps41
  go_wp2_with fail
  go_loop [8] (fun at_ => ∃ k : Nat, k ≤ n ∧ at_ = .int .i64 k) (fun at_ => n - (intOf at_).toNat)
  case atStart => exact ⟨0, Nat.zero_le _, rfl⟩
  case round =>
    obtain ⟨k, hk, rfl⟩ := hrel
    by_cases hlt : k < n
    · have hls : k < s.size := by omega
      obtain ⟨e1, e2⟩ := HN.out k hlt hls
      go_wp2_with fail
      go_round
      case rel => exact ⟨k + 1, by omega, by go_num⟩
      case measure => simp [intOf]; omega
    · obtain rfl : k = n := by omega
      obtain ⟨e1, e2⟩ := HQ.out
      have ek : ((k : Int) == (s.size : Int)) = false := by rw [beq_eq_false_iff_ne]; omega
      go_wp2_with fail
      go_loopw [9, 10] (fun kd t wr => ∃ j : Int, 1 ≤ j ∧ j ≤ 4 ∧ t = .int .i64 j ∧ kd = .int .i64 (kU x j) ∧ Below w.heap.size w wr) (fun _ t _ => 4 - (intOf t).toNat)
      case atStart => exact ⟨1, by omega, by omega, rfl, by rw [kU_one], by go_grown⟩
      case round =>
        obtain ⟨j, j1, j4, rfl, rfl, hbw⟩ := hrel
        by_cases hj : j ≤ 3
        · have hs1 : (1 : Int) ≤ (s.size : Int) := by omega
          by_cases hx : x = letterB j
          · have f1 : (x == letterB j) = true := beq_iff_eq.2 hx
            have hkU := kU_yes j1 hj hx
            have HK := Lib.hid hkU
            clear hx hkU
            go_wp2_with fail
            refine wp_region_held_drew (S := fun _ => True) (by kernel_rfl) trivial (fun hHeld => ?_)
            refine' wpAnyH_take (i := 0) (oi := _) (v := _) ?_ (by kernel_rfl) (by kernel_rfl) (by kernel_rfl) ?_ (Or.inl ⟨?_, ?_⟩) (by assumption) ?_
            rotate_left 2
            · (simp only [List.getElem?_toArray, List.getElem?_cons_succ, List.getElem?_cons_zero]; rfl)
            · exact fun _ _ _ h => h
            · rfl
            · (intro W hSW; (try dsimp only at hSW); go_split_ands; first | (go_simp; done) | (go_simp; with_reducible rfl))
            try simp only [Act.put, List.setIfInBounds_toArray, List.set_cons_zero, List.set_cons_succ]
            refine' wpAnyH_take (i := 1) (oi := _) (v := _) ?_ (by kernel_rfl) (by kernel_rfl) (by kernel_rfl) ?_ (Or.inl ⟨?_, ?_⟩) (by assumption) ?_
            rotate_left 2
            · (simp only [List.getElem?_toArray, List.getElem?_cons_succ, List.getElem?_cons_zero]; rfl)
            · exact fun _ _ _ h => h
            · rfl
            · (intro W hSW; (try dsimp only at hSW); go_split_ands; first | (go_simp; done) | (go_simp; with_reducible rfl))
            try simp only [Act.put, List.setIfInBounds_toArray, List.set_cons_zero, List.set_cons_succ]
            refine' wpAnyH_take (i := 2) (oi := _) (v := _) ?_ (by kernel_rfl) (by kernel_rfl) (by kernel_rfl) ?_ (Or.inl ⟨?_, ?_⟩) (by assumption) ?_
            rotate_left 2
            · (simp only [List.getElem?_toArray, List.getElem?_cons_succ, List.getElem?_cons_zero]; rfl)
            · exact fun _ _ _ h => h
            · rfl
            · (intro W hSW; (try dsimp only at hSW); go_split_ands; first | (go_simp; done) | (go_simp; with_reducible rfl))
            try simp only [Act.put, List.setIfInBounds_toArray, List.set_cons_zero, List.set_cons_succ]
            refine wpAnyH_ready (rs := [3]) (by kernel_rfl) (by simp) ?_
            refine' AllReadyH.cons (o := _) ?_ (fun K hK => ?_) AllReadyH.nil
            rotate_left 1
            · (simp only [List.getElem?_toArray, List.getElem?_cons_succ, List.getElem?_cons_zero]; rfl)
            go_simp
            refine (letter_c j _ j1 hj).mono ?_
            rintro e w1 ⟨rfl, rfl⟩
            go_simp
            refine hK.out _ _ trivial (fun hHeld => ?_)
            clear hK K
            refine' wpAnyH_take (i := 4) (oi := _) (v := _) ?_ (by kernel_rfl) (by kernel_rfl) (by kernel_rfl) ?_ (Or.inl ⟨?_, ?_⟩) (by assumption) ?_
            rotate_left 2
            · (simp only [List.getElem?_toArray, List.getElem?_cons_succ, List.getElem?_cons_zero]; rfl)
            · exact fun _ _ _ h => h
            · rfl
            · (intro W hSW; (try dsimp only at hSW); go_split_ands; first | (go_simp; done) | (go_simp; with_reducible rfl))
            try simp only [Act.put, List.setIfInBounds_toArray, List.set_cons_zero, List.set_cons_succ]
            refine wpAnyH_done (by kernel_rfl) ?_ _
            go_wp2_with fail
            go_roundw
            case rel => exact ⟨j + 1, by omega, by omega, by go_num, by rw [HK.out], by go_grown⟩
            case measure => simp [intOf]; omega
          · have f1 : (x == letterB j) = false := beq_eq_false_iff_ne.2 hx
            have hkU := kU_no j1 hx
            have HK := Lib.hid hkU
            clear hx hkU
            go_wp2_with fail
            refine wp_region_held_drew (S := fun _ => True) (by kernel_rfl) trivial (fun hHeld => ?_)
            refine' wpAnyH_take (i := 0) (oi := _) (v := _) ?_ (by kernel_rfl) (by kernel_rfl) (by kernel_rfl) ?_ (Or.inl ⟨?_, ?_⟩) (by assumption) ?_
            rotate_left 2
            · (simp only [List.getElem?_toArray, List.getElem?_cons_succ, List.getElem?_cons_zero]; rfl)
            · exact fun _ _ _ h => h
            · rfl
            · (intro W hSW; (try dsimp only at hSW); go_split_ands; first | (go_simp; done) | (go_simp; with_reducible rfl))
            try simp only [Act.put, List.setIfInBounds_toArray, List.set_cons_zero, List.set_cons_succ]
            refine' wpAnyH_take (i := 1) (oi := _) (v := _) ?_ (by kernel_rfl) (by kernel_rfl) (by kernel_rfl) ?_ (Or.inl ⟨?_, ?_⟩) (by assumption) ?_
            rotate_left 2
            · (simp only [List.getElem?_toArray, List.getElem?_cons_succ, List.getElem?_cons_zero]; rfl)
            · exact fun _ _ _ h => h
            · rfl
            · (intro W hSW; (try dsimp only at hSW); go_split_ands; first | (go_simp; done) | (go_simp; with_reducible rfl))
            try simp only [Act.put, List.setIfInBounds_toArray, List.set_cons_zero, List.set_cons_succ]
            refine' wpAnyH_take (i := 2) (oi := _) (v := _) ?_ (by kernel_rfl) (by kernel_rfl) (by kernel_rfl) ?_ (Or.inl ⟨?_, ?_⟩) (by assumption) ?_
            rotate_left 2
            · (simp only [List.getElem?_toArray, List.getElem?_cons_succ, List.getElem?_cons_zero]; rfl)
            · exact fun _ _ _ h => h
            · rfl
            · (intro W hSW; (try dsimp only at hSW); go_split_ands; first | (go_simp; done) | (go_simp; with_reducible rfl))
            try simp only [Act.put, List.setIfInBounds_toArray, List.set_cons_zero, List.set_cons_succ]
            refine wpAnyH_ready (rs := [3]) (by kernel_rfl) (by simp) ?_
            refine' AllReadyH.cons (o := _) ?_ (fun K hK => ?_) AllReadyH.nil
            rotate_left 1
            · (simp only [List.getElem?_toArray, List.getElem?_cons_succ, List.getElem?_cons_zero]; rfl)
            go_simp
            refine (letter_c j _ j1 hj).mono ?_
            rintro e w1 ⟨rfl, rfl⟩
            go_simp
            refine hK.out _ _ trivial (fun hHeld => ?_)
            clear hK K
            refine' wpAnyH_take (i := 4) (oi := _) (v := _) ?_ (by kernel_rfl) (by kernel_rfl) (by kernel_rfl) ?_ (Or.inl ⟨?_, ?_⟩) (by assumption) ?_
            rotate_left 2
            · (simp only [List.getElem?_toArray, List.getElem?_cons_succ, List.getElem?_cons_zero]; rfl)
            · exact fun _ _ _ h => h
            · rfl
            · (intro W hSW; (try dsimp only at hSW); go_split_ands; first | (go_simp; done) | (go_simp; with_reducible rfl))
            try simp only [Act.put, List.setIfInBounds_toArray, List.set_cons_zero, List.set_cons_succ]
            refine wpAnyH_done (by kernel_rfl) ?_ _
            go_wp2_with fail
            go_roundw
            case rel => exact ⟨j + 1, by omega, by omega, by go_num, by rw [HK.out], by go_grown⟩
            case measure => simp [intOf]; omega
        · obtain rfl : j = 4 := by omega
          rw [kU_four]
          have hn1 : (k : Int) + 1 ≤ (s.size : Int) := by omega
          have hsl : ∀ W, (Instr.slice 9 (.string s) (some (.int .i64 1)) (some (.int .i64 (k : Int))) none).run Tryd.prog W = .ok (.string ⟨r.toArray⟩) W := fun W => by
            have h := run_slice_string (P := Tryd.prog) W 9 s .i64 .i64 1 (k : Int) Tryd.underlying9 (by omega) (by omega) (by omega)
            rw [show (1 : Int).toNat = 1 from rfl, Int.toNat_natCast, sr] at h
            exact h
          go_wp2_with fail
          refine (HR.out _).mono ?_
          rintro e w1 ⟨rfl, hb1⟩
          have b1' := hbw.trans (hb1.mono hbw.size)
          go_wp2_with fail
          refine (HP.out _).mono ?_
          rintro e w2 ⟨rfl, hb2⟩
          have b2' := b1'.trans (hb2.mono b1'.size)
          go_wp2_with fail
          all_goals
            go_returns
            refine ⟨?_, b2'⟩
            rw [HF.out]
            first | rfl | (simp [*]; done) | (simp [*]; omega)
end Go.Proofs.YtjonbmocamjhaaaDoor
