/- The reference's Parse of answers. -/
import Derived.Test.YthkngleegefgbaaGreatDoorL1a
import Derived.Test.YthkngleegefgbaaGreatDoorL0a
import Derived.Test.YthkngleegefgbaaGreatDoorL0b
import Derived.Deep.DeepCutAuto
namespace Go.Proofs.YthkngleegefgbaaGreatDoor
open Go.RowKit
set_option linter.unusedVariables false
set_option linter.unusedSimpArgs false
set_option maxHeartbeats 16000000
set_option maxRecDepth 20000
def ans6 (s : ByteArray) : Int := if 2000 < s.size then 11 else if s.data.toList.all olf then 0 else 9
theorem take_all6 (s : ByteArray) (k : Nat) (h : k < s.size) : (s.data.toList.take (k + 1)).all olf = ((s.data.toList.take k).all olf && olf s[k]) := by
  have hl : k < s.data.toList.length := by rw [len_bytes]; exact h
  rw [List.take_succ_eq_append_getElem hl, List.all_append]
  simp [ByteArray.getElem_eq_getElem_data]
theorem not_all6 {s : ByteArray} {k : Nat} (h : k < s.size) (hd : olf s[k] = false) : s.data.toList.all olf = false := by
  have hl : k < s.data.toList.length := by rw [len_bytes]; exact h
  cases hc : s.data.toList.all olf with
  | false => rfl
  | true =>
    have h1 := List.all_eq_true.1 hc s.data.toList[k] (List.getElem_mem hl)
    have e : s.data.toList[k] = s[k] := by simp [ByteArray.getElem_eq_getElem_data]
    rw [e, hd] at h1
    cases h1
theorem byte_ne6 {a c : UInt8} {m : Int} (hm : (c.toNat : Int) = m) (h : a ≠ c) : ((a.toNat : Int) == m) = false := by
  rw [beq_eq_false_iff_ne, ← hm]
  intro e
  exact h (UInt8.toNat_inj.1 (by omega))
theorem rans_c (s : ByteArray) (w : World) (hs : s.size ≤ 1000000) : Calls Tryz.prog 62 #[.string s] w fun e w' => (∃ v, e = .returned (.tuple #[v, .int .i64 (ans6 s)])) ∧ Below w.heap.size w w' := by
  obtain ⟨i0, hi, hz0, hz1, hz2⟩ := info_parts int_infoR
  have HI0 := Lib.hid hi
  have HZ0 := Lib.hid hz0
  have HZ1 := Lib.hid hz1
  have HZ2 := Lib.hid hz2
  clear hi hz0 hz1 hz2
  by_cases hbig : (2000 : Int) < s.size
  · have he : ans6 s = 11 := by unfold ans6; rw [if_pos (by omega)]
    rw [he]
    clear he
    go_enter Tryz.func62, Tryz.ntmps62
    go_wp2_with fail
    go_returns
    exact ⟨⟨_, rfl⟩, Below.refl _ _⟩
  · have he : ans6 s = if s.data.toList.all olf then 0 else 9 := by unfold ans6; rw [if_neg (by omega)]
    obtain ⟨A, hA⟩ : ∃ A, ans6 s = A := ⟨_, rfl⟩
    rw [hA] at he ⊢
    have HE := Lib.hid he
    clear he hA
    go_enter Tryz.func62, Tryz.ntmps62
    go_wp2_with fail
    go_loopw [4, 5] (fun v iv wr => ∃ (k : Nat) (acc : List Nat), iv = .int .i64 k ∧ k ≤ s.size ∧ acc.length ≤ k ∧ RowKit.Hid ((s.data.toList.take k).all olf = true) ∧ OwnsI w.heap.size wr v acc ∧ Below w.heap.size w wr) (fun _ iv _ => s.size - (intOf iv).toNat)
    case atStart => exact ⟨0, [], rfl, by omega, by simp, Lib.hid rfl, World.ownsRow_nil _ _ _ _, Below.refl _ _⟩
    case round =>
      obtain ⟨k, acc, rfl, hk, hal, hall, hown, hB⟩ := hrel
      by_cases hp : k < s.size
      · have htk := take_all6 s k hp
        rw [hall.out, Bool.true_and] at htk
        have HTK := Lib.hid htk
        clear htk
        by_cases h1 : s[k] = 111
        · have e1 : ((s[k].toNat : Int) == 111) = true := by rw [h1]; rfl
          have HALL := Lib.hid (show (s.data.toList.take (k + 1)).all olf = true by rw [HTK.out, h1]; rfl)
          clear h1 hall HTK
          have hsz := hB.size
          have Q1 := Lib.hid (hown.on (below_alloc wr (.cells #[.int .i64 1] 3)))
          have hsrc : ∀ (j : Nat) (v : Value), ([.int .i64 (1 : Int)] : List Value)[j]? = some v → (wr.alloc (.cells #[.int .i64 1] 3)).cell? ((⟨wr.heap.size, 0, none⟩ : Addr).add j) = some v := by
            intro j v hj
            match j, hj with
            | 0, hj => simp at hj; subst hj; simp [Addr.add]
          have HSRC := Lib.hid hsrc
          have HB2 := Lib.hid (hB.alloc hB.size (.cells #[.int .i64 1] 3))
          clear hB hown hsrc
          go_wp2_with (at_builtin; refine wpList_append_own _ rfl _ _ 94 rfl w.heap.size 3 i0 (.int .i64 0) 1 8 Tryz.underlying94 HI0.out HZ0.out HZ1.out HZ2.out rfl (by decide) _ _ _ rfl Q1.out ⟨wr.heap.size, 0, none⟩ 1 1 [.int .i64 (1 : Int)] rfl rfl HSRC.out (by intro u hu; simp at hu; subst hu; rfl) (by unfold maxLen; omega) (by omega) (by simp; omega) ?_; intro v' w9 hown' hgrow hnil; have HOWN := Lib.hid hown'; have HGR := Lib.hid hgrow; clear hown' hgrow hnil)
          have hlo : ∀ k, _ = some k → w.heap.size ≤ k := fun k hk => (World.ownsRow.lt Q1.out k hk).1
          have hB6 : Below w.heap.size w w9 := HB2.out.grown HGR.out (by simp; omega) (fun k hk => hlo k hk)
          refine ⟨⟨k + 1, acc ++ [1], by go_num, by omega, by simp; omega, HALL, ?_, hB6⟩, by simp [intOf]; omega⟩
          unfold OwnsI cellsI
          rw [List.map_append, List.length_append]
          exact HOWN.out
        by_cases h2 : s[k] = 108
        · have e1 : ((s[k].toNat : Int) == 111) = false := byte_ne6 (m := 111) rfl h1
          have e2 : ((s[k].toNat : Int) == 108) = true := by rw [h2]; rfl
          have HALL := Lib.hid (show (s.data.toList.take (k + 1)).all olf = true by rw [HTK.out, h2]; rfl)
          clear h1 h2 hall HTK
          have hsz := hB.size
          have Q1 := Lib.hid (hown.on (below_alloc wr (.cells #[.int .i64 2] 3)))
          have hsrc : ∀ (j : Nat) (v : Value), ([.int .i64 (2 : Int)] : List Value)[j]? = some v → (wr.alloc (.cells #[.int .i64 2] 3)).cell? ((⟨wr.heap.size, 0, none⟩ : Addr).add j) = some v := by
            intro j v hj
            match j, hj with
            | 0, hj => simp at hj; subst hj; simp [Addr.add]
          have HSRC := Lib.hid hsrc
          have HB2 := Lib.hid (hB.alloc hB.size (.cells #[.int .i64 2] 3))
          clear hB hown hsrc
          go_wp2_with (at_builtin; refine wpList_append_own _ rfl _ _ 94 rfl w.heap.size 3 i0 (.int .i64 0) 1 8 Tryz.underlying94 HI0.out HZ0.out HZ1.out HZ2.out rfl (by decide) _ _ _ rfl Q1.out ⟨wr.heap.size, 0, none⟩ 1 1 [.int .i64 (2 : Int)] rfl rfl HSRC.out (by intro u hu; simp at hu; subst hu; rfl) (by unfold maxLen; omega) (by omega) (by simp; omega) ?_; intro v' w9 hown' hgrow hnil; have HOWN := Lib.hid hown'; have HGR := Lib.hid hgrow; clear hown' hgrow hnil)
          have hlo : ∀ k, _ = some k → w.heap.size ≤ k := fun k hk => (World.ownsRow.lt Q1.out k hk).1
          have hB6 : Below w.heap.size w w9 := HB2.out.grown HGR.out (by simp; omega) (fun k hk => hlo k hk)
          refine ⟨⟨k + 1, acc ++ [2], by go_num, by omega, by simp; omega, HALL, ?_, hB6⟩, by simp [intOf]; omega⟩
          unfold OwnsI cellsI
          rw [List.map_append, List.length_append]
          exact HOWN.out
        by_cases h3 : s[k] = 102
        · have e1 : ((s[k].toNat : Int) == 111) = false := byte_ne6 (m := 111) rfl h1
          have e2 : ((s[k].toNat : Int) == 108) = false := byte_ne6 (m := 108) rfl h2
          have e3 : ((s[k].toNat : Int) == 102) = true := by rw [h3]; rfl
          have HALL := Lib.hid (show (s.data.toList.take (k + 1)).all olf = true by rw [HTK.out, h3]; rfl)
          clear h1 h2 h3 hall HTK
          have hsz := hB.size
          have Q1 := Lib.hid (hown.on (below_alloc wr (.cells #[.int .i64 3] 3)))
          have hsrc : ∀ (j : Nat) (v : Value), ([.int .i64 (3 : Int)] : List Value)[j]? = some v → (wr.alloc (.cells #[.int .i64 3] 3)).cell? ((⟨wr.heap.size, 0, none⟩ : Addr).add j) = some v := by
            intro j v hj
            match j, hj with
            | 0, hj => simp at hj; subst hj; simp [Addr.add]
          have HSRC := Lib.hid hsrc
          have HB2 := Lib.hid (hB.alloc hB.size (.cells #[.int .i64 3] 3))
          clear hB hown hsrc
          go_wp2_with (at_builtin; refine wpList_append_own _ rfl _ _ 94 rfl w.heap.size 3 i0 (.int .i64 0) 1 8 Tryz.underlying94 HI0.out HZ0.out HZ1.out HZ2.out rfl (by decide) _ _ _ rfl Q1.out ⟨wr.heap.size, 0, none⟩ 1 1 [.int .i64 (3 : Int)] rfl rfl HSRC.out (by intro u hu; simp at hu; subst hu; rfl) (by unfold maxLen; omega) (by omega) (by simp; omega) ?_; intro v' w9 hown' hgrow hnil; have HOWN := Lib.hid hown'; have HGR := Lib.hid hgrow; clear hown' hgrow hnil)
          have hlo : ∀ k, _ = some k → w.heap.size ≤ k := fun k hk => (World.ownsRow.lt Q1.out k hk).1
          have hB6 : Below w.heap.size w w9 := HB2.out.grown HGR.out (by simp; omega) (fun k hk => hlo k hk)
          refine ⟨⟨k + 1, acc ++ [3], by go_num, by omega, by simp; omega, HALL, ?_, hB6⟩, by simp [intOf]; omega⟩
          unfold OwnsI cellsI
          rw [List.map_append, List.length_append]
          exact HOWN.out
        have hq : olf s[k] = false := by unfold olf; simp [h1, h2, h3]
        have hna := not_all6 hp hq
        have h9 : A = 9 := by rw [HE.out, hna]; rfl
        have H9 := Lib.hid h9
        have e1 := byte_ne6 (m := 111) rfl h1
        have e2 := byte_ne6 (m := 108) rfl h2
        have e3 := byte_ne6 (m := 102) rfl h3
        clear h1 h2 h3 hq hna h9 hown
        go_wp2_with fail
        go_returns
        exact ⟨⟨_, by rw [H9.out]; rfl⟩, hB⟩
      · have ek : k = s.size := by omega
        have h0 := hall.out
        rw [ek, List.take_of_length_le (by rw [len_bytes]; exact Nat.le_refl _)] at h0
        have h9 : A = 0 := by rw [HE.out, h0]; rfl
        have H9 := Lib.hid h9
        clear h0 h9 ek hall
        go_wp2_with fail
        go_returns
        exact ⟨⟨_, by rw [H9.out]; rfl⟩, hB⟩
end Go.Proofs.YthkngleegefgbaaGreatDoor

/- The reference's cut and number (chapter 39). -/
namespace Go.Proofs.YthkngleegefgbaaGreatDoor
open Go.RowKit
open Go.Lib (decDigits)
set_option linter.unusedVariables false
set_option linter.unusedSimpArgs false
set_option maxHeartbeats 16000000
set_option maxRecDepth 20000
theorem at_memO (s : ByteArray) (pre : List UInt8) (c : UInt8) (post : List UInt8) (he : s.data.toList = pre ++ c :: post) (hm : c ∉ pre) (k : Nat) (h : k < pre.length) (hk : k < s.size) : s[k] ≠ c := by
  have e1 : s[k] = s.data.toList[k]'(by simpa using hk) := rfl
  intro e
  apply hm
  have e2 : pre[k] = c := by
    rw [← e, e1]
    have : (pre ++ c :: post)[k]'(by simp; omega) = pre[k] := List.getElem_append_left h
    rw [← this]
    congr 1
    exact he.symm
  rw [← e2]
  exact List.getElem_mem _
theorem at_hereO (s : ByteArray) (pre : List UInt8) (c : UInt8) (post : List UInt8) (he : s.data.toList = pre ++ c :: post) (hk : pre.length < s.size) : s[pre.length] = c := by
  have e1 : s[pre.length] = s.data.toList[pre.length]'(by simpa using hk) := rfl
  rw [e1]
  have : (pre ++ c :: post)[pre.length]'(by simp) = c := by simp
  rw [← this]
  congr 1
theorem no_memO (s : ByteArray) (c : UInt8) (hm : c ∉ s.data.toList) (k : Nat) (hk : k < s.size) : s[k] ≠ c := by
  have e1 : s[k] = s.data.toList[k]'(by simpa using hk) := rfl
  intro e
  apply hm
  rw [← e, e1]
  exact List.getElem_mem _
theorem byte_neO {a c : UInt8} {m : Int} (hm : (c.toNat : Int) = m) (h : a ≠ c) : ((a.toNat : Int) == m) = false ∧ ((a.toNat : Int) != m) = true := by
  have e : ((a.toNat : Int) == m) = false := by
    rw [beq_eq_false_iff_ne, ← hm]
    intro e
    exact h (UInt8.toNat_inj.1 (by omega))
  exact ⟨e, by rw [bne, e]; rfl⟩
theorem byte_eqO {a c : UInt8} {m : Int} (hm : (c.toNat : Int) = m) (h : a = c) : ((a.toNat : Int) == m) = true ∧ ((a.toNat : Int) != m) = false := by
  have e : ((a.toNat : Int) == m) = true := by rw [beq_iff_eq, h, hm]
  exact ⟨e, by rw [bne, e]; rfl⟩

theorem take_snocO (s : ByteArray) (k : Nat) (h : k < s.size) : s.data.toList.take (k + 1) = s.data.toList.take k ++ [s[k]] := by
  rw [List.take_succ_eq_append_getElem (by simpa using h)]; rfl

theorem all_take_snocO (s : ByteArray) (k : Nat) (h : k < s.size) : (s.data.toList.take (k + 1)).all isDig = ((s.data.toList.take k).all isDig && isDig s[k]) := by
  rw [take_snocO s k h, List.all_append]; simp
theorem not_all_ofO {s : ByteArray} {k : Nat} (h : k < s.size) (hd : isDig s[k] = false) : s.data.toList.all isDig = false := by
  rw [Bool.eq_false_iff]
  intro ha
  rw [List.all_eq_true] at ha
  have := ha s[k] (by
    have e : s[k] = s.data.toList[k]'(by simpa using h) := rfl
    rw [e]; exact List.getElem_mem _)
  rw [hd] at this; cases this
theorem val_snocO (s : ByteArray) (k : Nat) (h : k < s.size) : valFrom 0 (s.data.toList.take (k + 1)) = valFrom 0 (s.data.toList.take k) * 10 + (s[k].toNat - 48) := by
  rw [take_snocO s k h, valFrom_append, valFrom_one]

theorem rcut_noO (s : ByteArray) (hs : s.size ≤ 100000) (hn : (32 : UInt8) ∉ s.data.toList) (w : World) :
    Ret 40 #[.string s] w (.tuple #[.string s, .string ⟨#[]⟩]) := by
  have hne := fun k hk => byte_neO (m := 32) rfl (no_memO s 32 hn k hk)
  have HN := Lib.hid hne
  clear hne hn
  go_enter Tryz.func40, Tryz.ntmps40
  go_wp2_with fail
  go_loop [4] (fun at_ => ∃ k : Nat, k ≤ s.size ∧ at_ = .int .i64 k) (fun at_ => s.size - (intOf at_).toNat)
  case atStart => exact ⟨0, Nat.zero_le _, rfl⟩
  case round =>
    obtain ⟨k, hk, rfl⟩ := hrel
    by_cases hlt : k < s.size
    · obtain ⟨e1, e2⟩ := HN.out k hlt
      go_wp2_with fail
      go_round
      case rel => exact ⟨k + 1, by omega, by go_num⟩
      case measure => simp [intOf]; omega
    · go_wp2_with fail
      go_returns
      exact ⟨rfl, by go_grown⟩
theorem rcut_atO (s : ByteArray) (hs : s.size ≤ 100000) (pre post : List UInt8) (he : s.data.toList = pre ++ 32 :: post) (hc : (32 : UInt8) ∉ pre) (w : World) :
    Ret 40 #[.string s] w (.tuple #[.string ⟨pre.toArray⟩, .string ⟨post.toArray⟩]) := by
  have hne := fun k h hk => byte_neO (m := 32) rfl (at_memO s pre 32 post he hc k h hk)
  have hl : pre.length < s.size := by rw [← len_bytes, he]; simp
  have heq := byte_eqO (m := 32) rfl (at_hereO s pre 32 post he hl)
  have HN := Lib.hid hne
  have HQ := Lib.hid heq
  have sr : s.extract 0 pre.length = ⟨pre.toArray⟩ := by
    apply str_ext
    rw [Lib.extract_data, he]
    simp
  have sp : s.extract (pre.length + 1) s.size = ⟨post.toArray⟩ := by
    apply str_ext
    rw [Lib.extract_to_end, he]
    simp
  generalize ByteArray.mk pre.toArray = P1 at sr ⊢
  generalize ByteArray.mk post.toArray = P2 at sp ⊢
  generalize pre.length = n at *
  clear hne hc he heq
  go_enter Tryz.func40, Tryz.ntmps40
  go_wp2_with fail
  go_loop [4] (fun at_ => ∃ k : Nat, k ≤ n ∧ at_ = .int .i64 k) (fun at_ => n - (intOf at_).toNat)
  case atStart => exact ⟨0, Nat.zero_le _, rfl⟩
  case round =>
    obtain ⟨k, hk, rfl⟩ := hrel
    by_cases hlt : k < n
    · have hls : k < s.size := by omega
      obtain ⟨e1, e2⟩ := HN.out k hlt hls
      go_wp2_with fail
      go_round
      case rel => exact ⟨k + 1, by omega, by go_num⟩
      case measure => simp [intOf]; omega
    · obtain rfl : k = n := by omega
      obtain ⟨e1, e2⟩ := HQ.out
      have q1 : ((k : Int) + 1) ≤ s.size := by omega
      have q2 : (0 : Int) ≤ (k : Int) + 1 := by omega
      have q3 : (k : Int) ≤ s.size := by omega
      go_wp2_with fail
      go_region
      go_wp2_with fail
      go_returns
      exact ⟨by simp [sr, sp], by go_grown⟩
theorem rcut_cO (s : ByteArray) (hs : s.size ≤ 100000) (w : World) :
    Ret 40 #[.string s] w (.tuple #[.string ⟨(Lib.cut s.data.toList [32]).1.toArray⟩, .string ⟨(Lib.cut s.data.toList [32]).2.1.toArray⟩]) := by
  rcases mem_split s.data.toList 32 with h | ⟨pre, post, h1, h2⟩
  · rw [cut_no _ _ h]
    rw [show (⟨s.data.toList.toArray⟩ : ByteArray) = s from str_ext (by simp)]
    exact rcut_noO s hs h w
  · rw [h2, cut_at _ _ _ h1]
    exact rcut_atO s hs pre post h2 h1 w
/-- What number gives for digits. -/
def num7 (l : List UInt8) : Int := if l.length ≤ 7 ∧ l.all isDig = true then valFrom 0 l else 0
theorem num7_bound (l : List UInt8) : 0 ≤ num7 l ∧ num7 l ≤ 99999999 := by
  unfold num7
  split
  · rename_i h
    have := valFrom_lt l 0 h.2
    have h2 : (10 : Nat) ^ l.length ≤ 10 ^ 7 := Nat.pow_le_pow_right (by decide) h.1
    omega
  · omega
theorem num7_dec (n : Nat) (h : n < 10000000) : num7 (decDigits n) = n := by
  unfold num7
  rw [if_pos ⟨dec_len 6 n (by simpa using h), decDigits_all n⟩, val_decDigits]
/-- What number gives, with a sign. -/
def numS : List UInt8 → Int
  | [] => num7 []
  | [x] => num7 [x]
  | x :: c :: r => if x = 45 then - numS (c :: r) else num7 (x :: c :: r)
theorem numS_bound : ∀ l, -99999999 ≤ numS l ∧ numS l ≤ 99999999
  | [] => by have := num7_bound []; unfold numS; omega
  | [x] => by have := num7_bound [x]; unfold numS; omega
  | x :: c :: r => by
    have h1 := numS_bound (c :: r)
    have h2 := num7_bound (x :: c :: r)
    unfold numS
    split <;> omega
theorem numS_plain {l : List UInt8} (h : ¬ (1 < l.length ∧ l.head? = some 45)) : numS l = num7 l := by
  match l, h with
  | [], _ => rfl
  | [x], _ => rfl
  | x :: c :: r, h =>
    unfold numS
    rw [if_neg (fun e => h ⟨by simp, by rw [e]; rfl⟩)]
theorem numS_numL (z : Int) (h0 : -1 ≤ z) (h1 : z ≤ 9999999) : numS (numL z) = z := by
  unfold numL
  by_cases h : z < 0
  · obtain rfl : z = -1 := by omega
    rw [if_pos (by decide)]
    have e : decDigits (-1 : Int).natAbs = [49] := by
      rw [show (-1 : Int).natAbs = 1 by decide]
      unfold decDigits
      decide
    rw [e]
    decide
  · rw [if_neg h]
    obtain ⟨c, r, hc, hd⟩ := dec_cons z.natAbs
    rw [numS_plain (fun hh => by rw [hc] at hh; have := hh.2; simp at this; rw [this] at hd; cases hd), num7_dec _ (by omega)]
    omega
theorem head_atO (s : ByteArray) (h : 0 < s.size) : s.data.toList.head? = some s[0] := by
  have hl : 0 < s.data.toList.length := by rw [len_bytes]; exact h
  rw [List.head?_eq_getElem?, List.getElem?_eq_getElem hl]
  simp [ByteArray.getElem_eq_getElem_data]
theorem rnum7_c (s : ByteArray) (hs : s.size ≤ 100000) (hh : ¬ (1 < s.size ∧ s.data.toList.head? = some 45)) (w : World) : Ret 41 #[.string s] w (.int .i64 (num7 s.data.toList)) := by
  have hl := len_bytes s
  have HL := Lib.hid hl
  clear hl
  have hx : (h : (1 : Int) < s.size) → (((s[0]'(by omega)).toNat : Int) == 45) = false := fun h => by
    refine (byte_neO (c := 45) (m := 45) rfl (fun e => hh ⟨by omega, ?_⟩)).1
    rw [head_atO s (by omega), e]
  have HX := Lib.hid hx
  clear hx hh
  by_cases hq : (1 : Int) < s.size
  · have e0 := HX.out hq
    go_enter Tryz.func41, Tryz.ntmps41
    go_wp2_with fail
    go_loop [3, 4] (fun n i => ∃ k : Nat, k ≤ s.size ∧ i = .int .i64 k ∧ n = .int .i64 (valFrom 0 (s.data.toList.take k)) ∧ (s.data.toList.take k).all isDig = true ∧ (k = 0 ∨ s.size ≤ 7)) (fun _ i => s.size - (intOf i).toNat)
    case atStart => exact ⟨0, Nat.zero_le _, rfl, rfl, rfl, .inl rfl⟩
    case round =>
      obtain ⟨k, hk, rfl, rfl, hall, hsz⟩ := hrel
      have hv : valFrom 0 (s.data.toList.take k) < 10000000 := by
        have h1 := valFrom_lt _ 0 hall
        have h3 : (s.data.toList.take k).length ≤ 7 := by rw [List.length_take, HL.out]; omega
        have h2 : (10 : Nat) ^ (s.data.toList.take k).length ≤ 10 ^ 7 := Nat.pow_le_pow_right (by decide) h3
        omega
      have HA := Lib.hid hall
      clear hall
      by_cases hlt : k < s.size
      · have hval := val_snocO s k hlt
        have hat := all_take_snocO s k hlt
        have HV := Lib.hid hval
        have HT := Lib.hid hat
        clear hval hat
        by_cases hd : 48 ≤ s[k].toNat ∧ s[k].toNat ≤ 57
        · obtain ⟨d1, d2⟩ := hd
          have c1 : (48 : Int) ≤ (s[k].toNat : Int) := by omega
          have c2 : (s[k].toNat : Int) ≤ 57 := by omega
          by_cases hs7 : s.size ≤ 7
          · have c3 : (s.size : Int) ≤ 7 := by omega
            go_wp2_with fail
            go_round
            case rel => exact ⟨k + 1, by omega, by go_num, by rw [HV.out]; go_num, by rw [HT.out, HA.out]; simp [isDig, d1, d2], .inr hs7⟩
            case measure => simp [intOf]; omega
          · have c3 : (7 : Int) < (s.size : Int) := by omega
            have hV : num7 s.data.toList = 0 := by unfold num7; rw [if_neg (fun h => by rw [HL.out] at h; omega)]
            have HV2 := Lib.hid hV
            clear hV
            go_wp2_with fail
            go_returns
            exact ⟨by rw [HV2.out]; rfl, Below.refl _ _⟩
        · have hdig : isDig s[k] = false := by unfold isDig; simpa using hd
          have hn := not_all_ofO hlt hdig
          have hV : num7 s.data.toList = 0 := by unfold num7; rw [if_neg (fun h => by rw [hn] at h; cases h.2)]
          have HV := Lib.hid hV
          have HH := Lib.hid hd
          clear hd hdig hn hV
          by_cases c1 : (s[k].toNat : Int) < 48
          · go_wp2_with fail
            go_returns
            exact ⟨by rw [HV.out]; rfl, Below.refl _ _⟩
          · have c2 : (57 : Int) < (s[k].toNat : Int) := by have := HH.out; omega
            go_wp2_with fail
            go_returns
            exact ⟨by rw [HV.out]; rfl, Below.refl _ _⟩
      · have ek : k = s.size := by omega
        have et : s.data.toList.take k = s.data.toList := by rw [ek]; exact List.take_of_length_le (by rw [HL.out]; exact Nat.le_refl _)
        have hV : num7 s.data.toList = (valFrom 0 (s.data.toList.take k) : Int) := by
          unfold num7
          rw [if_pos ⟨by rw [HL.out]; omega, by rw [← et]; exact HA.out⟩, et]
        have HV := Lib.hid hV
        clear ek et hV
        go_wp2_with fail
        go_returns
        exact ⟨by rw [HV.out]; rfl, Below.refl _ _⟩
  · clear HX
    go_enter Tryz.func41, Tryz.ntmps41
    go_wp2_with fail
    go_loop [3, 4] (fun n i => ∃ k : Nat, k ≤ s.size ∧ i = .int .i64 k ∧ n = .int .i64 (valFrom 0 (s.data.toList.take k)) ∧ (s.data.toList.take k).all isDig = true ∧ (k = 0 ∨ s.size ≤ 7)) (fun _ i => s.size - (intOf i).toNat)
    case atStart => exact ⟨0, Nat.zero_le _, rfl, rfl, rfl, .inl rfl⟩
    case round =>
      obtain ⟨k, hk, rfl, rfl, hall, hsz⟩ := hrel
      have hv : valFrom 0 (s.data.toList.take k) < 10000000 := by
        have h1 := valFrom_lt _ 0 hall
        have h3 : (s.data.toList.take k).length ≤ 7 := by rw [List.length_take, HL.out]; omega
        have h2 : (10 : Nat) ^ (s.data.toList.take k).length ≤ 10 ^ 7 := Nat.pow_le_pow_right (by decide) h3
        omega
      have HA := Lib.hid hall
      clear hall
      by_cases hlt : k < s.size
      · have hval := val_snocO s k hlt
        have hat := all_take_snocO s k hlt
        have HV := Lib.hid hval
        have HT := Lib.hid hat
        clear hval hat
        by_cases hd : 48 ≤ s[k].toNat ∧ s[k].toNat ≤ 57
        · obtain ⟨d1, d2⟩ := hd
          have c1 : (48 : Int) ≤ (s[k].toNat : Int) := by omega
          have c2 : (s[k].toNat : Int) ≤ 57 := by omega
          by_cases hs7 : s.size ≤ 7
          · have c3 : (s.size : Int) ≤ 7 := by omega
            go_wp2_with fail
            go_round
            case rel => exact ⟨k + 1, by omega, by go_num, by rw [HV.out]; go_num, by rw [HT.out, HA.out]; simp [isDig, d1, d2], .inr hs7⟩
            case measure => simp [intOf]; omega
          · have c3 : (7 : Int) < (s.size : Int) := by omega
            have hV : num7 s.data.toList = 0 := by unfold num7; rw [if_neg (fun h => by rw [HL.out] at h; omega)]
            have HV2 := Lib.hid hV
            clear hV
            go_wp2_with fail
            go_returns
            exact ⟨by rw [HV2.out]; rfl, Below.refl _ _⟩
        · have hdig : isDig s[k] = false := by unfold isDig; simpa using hd
          have hn := not_all_ofO hlt hdig
          have hV : num7 s.data.toList = 0 := by unfold num7; rw [if_neg (fun h => by rw [hn] at h; cases h.2)]
          have HV := Lib.hid hV
          have HH := Lib.hid hd
          clear hd hdig hn hV
          by_cases c1 : (s[k].toNat : Int) < 48
          · go_wp2_with fail
            go_returns
            exact ⟨by rw [HV.out]; rfl, Below.refl _ _⟩
          · have c2 : (57 : Int) < (s[k].toNat : Int) := by have := HH.out; omega
            go_wp2_with fail
            go_returns
            exact ⟨by rw [HV.out]; rfl, Below.refl _ _⟩
      · have ek : k = s.size := by omega
        have et : s.data.toList.take k = s.data.toList := by rw [ek]; exact List.take_of_length_le (by rw [HL.out]; exact Nat.le_refl _)
        have hV : num7 s.data.toList = (valFrom 0 (s.data.toList.take k) : Int) := by
          unfold num7
          rw [if_pos ⟨by rw [HL.out]; omega, by rw [← et]; exact HA.out⟩, et]
        have HV := Lib.hid hV
        clear ek et hV
        go_wp2_with fail
        go_returns
        exact ⟨by rw [HV.out]; rfl, Below.refl _ _⟩
theorem drop1 (s : ByteArray) : (s.extract 1 s.size).data.toList = s.data.toList.drop 1 := Lib.extract_to_end s 1
theorem numS_c (n : Nat) : ∀ (s : ByteArray) (w : World), s.size ≤ n → s.size ≤ 100000 → Ret 41 #[.string s] w (.int .i64 (numS s.data.toList)) := by
  induction n with
  | zero =>
    intro s w hn hs
    rw [numS_plain (fun h => by rw [len_bytes] at h; omega)]
    exact rnum7_c s hs (fun h => by omega) w
  | succ n ih =>
    intro s w hn hs
    by_cases hh : 1 < s.size ∧ s.data.toList.head? = some 45
    · have h1 := hh.1
      have hz : (s.extract 1 s.size).size = s.size - 1 := by rw [← len_bytes, drop1, List.length_drop, len_bytes]
      have hnum : numS s.data.toList = - numS (s.extract 1 s.size).data.toList := by
        rw [drop1]
        have hl := len_bytes s
        cases hs2 : s.data.toList with
        | nil => rw [hs2] at hh; simp at hh
        | cons x t =>
          cases t with
          | nil => rw [hs2] at hl; simp at hl; omega
          | cons y r =>
            rw [hs2] at hh
            have hx : x = 45 := by simpa using hh.2
            rw [hx]
            rfl
      have hb := numS_bound (s.extract 1 s.size).data.toList
      have IH := Lib.hid (fun W => ih (s.extract 1 s.size) W (by omega) (by omega))
      have hpos : 0 < s.size := by omega
      have e0 : (((s[0]'hpos).toNat : Int) == 45) = true := by
        have h2 := hh.2
        rw [head_atO s hpos] at h2
        rw [Option.some.inj h2]
        rfl
      have q1 : (1 : Int) < s.size := by omega
      have q2 : (1 : Int) ≤ s.size := by omega
      have HN := Lib.hid hnum
      generalize hX : numS (s.extract 1 s.size).data.toList = X at *
      have wn : IntKind.i64.wrap (-X) = -X := IntWalk.i64_in _ ⟨by omega, by omega⟩
      clear ih hh hz hnum hX hn
      go_enter Tryz.func41, Tryz.ntmps41
      go_wp2_with fail
      refine Calls.mono (IH.out _) ?_
      rintro e w1 ⟨rfl, hb1⟩
      go_wp2_with fail
      go_returns
      exact ⟨by rw [HN.out]; rfl, hb1⟩
    · rw [numS_plain (fun h => hh ⟨by rw [len_bytes] at h; exact h.1, h.2⟩)]
      exact rnum7_c s hs hh w
theorem rnumS_c (s : ByteArray) (hs : s.size ≤ 100000) (w : World) : Ret 41 #[.string s] w (.int .i64 (numS s.data.toList)) := numS_c s.size s w (Nat.le_refl _) hs
end Go.Proofs.YthkngleegefgbaaGreatDoor
