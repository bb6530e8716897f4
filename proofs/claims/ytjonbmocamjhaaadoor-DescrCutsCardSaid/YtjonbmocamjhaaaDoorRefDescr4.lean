/- The references of chapter 05: Parse, ParseOuter. -/
import Derived.Test.YtjonbmocamjhaaaDoorRefDescr3
namespace Go.Proofs.YtjonbmocamjhaaaDoor
open Go.RowKit
set_option linter.unusedVariables false
set_option linter.unusedSimpArgs false
open Go.Lib (decDigits)

theorem numB_dec (n : Nat) (h : n < 10000000000) : numB (decDigits n) = true ∧ numV (decDigits n) = n := by
  have hb : numB (decDigits n) = true := by
    unfold numB
    rw [decide_eq_true_iff, val_decDigits]
    exact ⟨nDigits_le_10 n h, rfl⟩
  refine ⟨hb, ?_⟩
  rw [(numB_val hb).1, val_decDigits]
set_option maxHeartbeats 2000000 in
theorem rd_parse_no (s : ByteArray) (kd a b : Int) (w : World) (k0 : 0 ≤ kd) (k3 : kd ≤ 3) (a0 : 0 ≤ a) (a1 : a ≤ 9999999999) (b0 : 0 ≤ b) (b1 : b ≤ 9999999999)
    (hp : ∀ w, Ret 41 #[.string s, .int .u8 46] w (.tuple #[.int .i64 kd, .int .u64 a, .int .u64 b, .bool false])) :
    Ret 23 #[.string s] w (.tuple #[dV 0 0 0, .int .i64 9]) := by
  have e1 : IntKind.i64.wrap a = a := by rw [IntKind.wrap_i64]; omega
  have HP := Lib.hid hp
  clear hp
  go_enter Tryd.func23, Tryd.ntmps23
  go_wp2_with fail
  refine (HP.out _).mono ?_
  rintro e w1 ⟨rfl, hb1⟩
  have c0 : w1.cell? ⟨w.heap.size, 0, none⟩ = some (.int .i64 0) := by rw [(bcell hb1).1 _ _ (by simp)]; simp
  have c1 : w1.cell? ⟨w.heap.size, 1, none⟩ = some (.int .i64 0) := by rw [(bcell hb1).1 _ _ (by simp)]; simp
  have c2 : w1.cell? ⟨w.heap.size, 2, none⟩ = some (.int .u32 0) := by rw [(bcell hb1).1 _ _ (by simp)]; simp
  have fr : ∀ o, w1.frozen? ⟨w.heap.size, o, none⟩ = false := fun o => by rw [(bcell hb1).2 _ _ (by simp)]; simp
  have z1 : w.heap.size < w1.heap.size := by have := hb1.size; simp at this; omega
  have z2 : w.heap.size < w1.heap.size + 1 := by omega
  have hc1 := under (w := w) hb1
  clear hb1
  go_wp2_with fail
  refine bodyPost_ret (v := .tuple #[dV 0 0 0, .int .i64 9]) (by simp [results, Tryd.results23, go_sem, c0, c1, c2, z1, z2]) rfl ⟨rfl, ?_⟩
  repeat (refine Below.setCell ?_ (by simp) _)
  go_grown
set_option maxHeartbeats 2000000 in
theorem rd_parse_chk (s : ByteArray) (kd a b : Int) (w : World) (k0 : 0 ≤ kd) (k3 : kd ≤ 3) (a0 : 0 ≤ a) (a1 : a ≤ 9999999999) (b0 : 0 ≤ b) (b1 : b ≤ 4294967295) (h : dOk 256 kd a b = false)
    (hp : ∀ w, Ret 41 #[.string s, .int .u8 46] w (.tuple #[.int .i64 kd, .int .u64 a, .int .u64 b, .bool true])) :
    Ret 23 #[.string s] w (.tuple #[dV 0 0 0, .int .i64 9]) := by
  have e1 : IntKind.i64.wrap a = a := by rw [IntKind.wrap_i64]; omega
  have e2 : IntKind.u32.wrap b = b := by rw [IntKind.wrap_u32]; omega
  have hk := fun w => rd_check kd a b w b0
  rw [dErr_bad h] at hk
  have HK := Lib.hid hk
  have HP := Lib.hid hp
  clear hp hk h
  go_enter Tryd.func23, Tryd.ntmps23
  go_wp2_with fail
  refine (HP.out _).mono ?_
  rintro e w1 ⟨rfl, hb1⟩
  have hc1 := under (w := w) hb1
  have c0 : w1.cell? ⟨w.heap.size, 0, none⟩ = some (.int .i64 0) := by rw [(bcell hb1).1 _ _ (by simp)]; simp
  have c1 : w1.cell? ⟨w.heap.size, 1, none⟩ = some (.int .i64 0) := by rw [(bcell hb1).1 _ _ (by simp)]; simp
  have c2 : w1.cell? ⟨w.heap.size, 2, none⟩ = some (.int .u32 0) := by rw [(bcell hb1).1 _ _ (by simp)]; simp
  have fr : ∀ o, w1.frozen? ⟨w.heap.size, o, none⟩ = false := fun o => by rw [(bcell hb1).2 _ _ (by simp)]; simp
  have z1 : w.heap.size < w1.heap.size := by have := hb1.size; simp at this; omega
  have z2 : w.heap.size < w1.heap.size + 1 := by omega
  clear hb1
  go_wp2_with fail
  refine (HK.out _).mono ?_
  rintro e w2 ⟨rfl, hb2⟩
  have hc2 := hc1.trans ((under (w := w1) hb2).mono hc1.size)
  have d0 := keep_cell (b := w.heap.size) (o := 0) hb2 (by simp; omega) (by go_simp; rfl)
  have d1 := keep_cell (b := w.heap.size) (o := 1) hb2 (by simp; omega) (by go_simp; rfl)
  have d2 := keep_cell (b := w.heap.size) (o := 2) hb2 (by simp; omega) (by go_simp; rfl)
  have fr2 : ∀ o, w2.frozen? ⟨w.heap.size, o, none⟩ = false := fun o => by rw [(bcell hb2).2 _ _ (by simp; omega)]; go_simp
  go_wp2_with fail
  refine bodyPost_ret (v := .tuple #[dV 0 0 0, .int .i64 9]) (by simp [results, Tryd.results23, go_sem, d0, d1, d2]) rfl ⟨rfl, ?_⟩
  repeat (refine Below.setCell ?_ (by simp) _)
  exact hc2
set_option maxHeartbeats 2000000 in
theorem rd_parse_ok (s : ByteArray) (kd a b : Int) (w : World) (b1 : b ≤ 4294967295) (b0 : 0 ≤ b) (h : dOk 256 kd a b = true)
    (hp : ∀ w, Ret 41 #[.string s, .int .u8 46] w (.tuple #[.int .i64 kd, .int .u64 a, .int .u64 b, .bool true])) :
    Ret 23 #[.string s] w (.tuple #[dV kd a b, .int .i64 0]) := by
  have hk := fun w => rd_check kd a b w b0
  rw [dErr_ok h] at hk
  rw [dOk_iff] at h
  obtain ⟨k1, k3, a0, a1, _⟩ := h
  have e1 : IntKind.i64.wrap a = a := by rw [IntKind.wrap_i64]; omega
  have e2 : IntKind.u32.wrap b = b := by rw [IntKind.wrap_u32]; omega
  have HK := Lib.hid hk
  have HP := Lib.hid hp
  clear hp hk
  go_enter Tryd.func23, Tryd.ntmps23
  go_wp2_with fail
  refine (HP.out _).mono ?_
  rintro e w1 ⟨rfl, hb1⟩
  have hc1 := under (w := w) hb1
  have c0 : w1.cell? ⟨w.heap.size, 0, none⟩ = some (.int .i64 0) := by rw [(bcell hb1).1 _ _ (by simp)]; simp
  have c1 : w1.cell? ⟨w.heap.size, 1, none⟩ = some (.int .i64 0) := by rw [(bcell hb1).1 _ _ (by simp)]; simp
  have c2 : w1.cell? ⟨w.heap.size, 2, none⟩ = some (.int .u32 0) := by rw [(bcell hb1).1 _ _ (by simp)]; simp
  have fr : ∀ o, w1.frozen? ⟨w.heap.size, o, none⟩ = false := fun o => by rw [(bcell hb1).2 _ _ (by simp)]; simp
  have z1 : w.heap.size < w1.heap.size := by have := hb1.size; simp at this; omega
  have z2 : w.heap.size < w1.heap.size + 1 := by omega
  clear hb1
  go_wp2_with fail
  refine (HK.out _).mono ?_
  rintro e w2 ⟨rfl, hb2⟩
  have hc2 := hc1.trans ((under (w := w1) hb2).mono hc1.size)
  have d0 := keep_cell (b := w.heap.size) (o := 0) hb2 (by simp; omega) (by go_simp; rfl)
  have d1 := keep_cell (b := w.heap.size) (o := 1) hb2 (by simp; omega) (by go_simp; rfl)
  have d2 := keep_cell (b := w.heap.size) (o := 2) hb2 (by simp; omega) (by go_simp; rfl)
  have fr2 : ∀ o, w2.frozen? ⟨w.heap.size, o, none⟩ = false := fun o => by rw [(bcell hb2).2 _ _ (by simp; omega)]; go_simp
  have g0 := keep_cell (b := w1.heap.size) (o := 0) (v := .int .i64 kd) hb2 (by simp) (by go_simp)
  have g1 := keep_cell (b := w1.heap.size) (o := 1) (v := .int .i64 a) hb2 (by simp) (by go_simp)
  have g2 := keep_cell (b := w1.heap.size) (o := 2) (v := .int .u32 b) hb2 (by simp) (by go_simp)
  go_wp2_with fail
  refine bodyPost_ret (v := .tuple #[dV kd a b, .int .i64 0]) (by simp [results, Tryd.results23, go_sem, d0, d1, d2]) rfl ⟨rfl, ?_⟩
  repeat (refine Below.setCell ?_ (by simp) _)
  exact hc2
theorem rd_parse_is (s : ByteArray) (k sl g : Int) (h : IsD 46 256 s.data.toList k sl g) (w : World) : Ret 23 #[.string s] w (.tuple #[dV k sl g, .int .i64 0]) := by
  obtain ⟨hok, gm, g0, he⟩ := h
  obtain ⟨k1, k3, s0, s1, gz⟩ := dOk_iff.1 hok
  have hc : sgn 46 := by simp [sgn]
  have hsz : s.size ≤ 22 := by
    have := (dTextL_len 46 (k := k) (s := sl) (g := g) (by omega) (by omega)).1
    rw [← he, len_bytes] at this
    exact this
  obtain ⟨n1, n2⟩ := numB_dec sl.toNat (by omega)
  obtain ⟨m1, m2⟩ := numB_dec g.toNat (by omega)
  have hp := fun w => parts_at s (by omega) 46 (letterB k) 46 rfl (decDigits sl.toNat) (decDigits g.toNat) (by rw [he]; rfl) (pre_not_mem hc k _) (decDigits_length_pos _) w
  have ho : pOk (letterB k) (decDigits sl.toNat) (decDigits g.toNat) = true := by
    unfold pOk
    rw [n1, m1, m2, kI_letter k1 k3]
    simp
    omega
  rw [ho, n2, m2, kI_letter k1 k3, Int.toNat_of_nonneg s0, Int.toNat_of_nonneg g0] at hp
  exact rd_parse_ok s k sl g w gm g0 hok hp
theorem rd_parse_not (s : ByteArray) (hs : s.size ≤ 100000) (h : ∀ k sl g, ¬ IsD 46 256 s.data.toList k sl g) (w : World) : Ret 23 #[.string s] w (.tuple #[dV 0 0 0, .int .i64 9]) := by
  rcases mem_split s.data.toList 46 with hm | ⟨pre, post, hm, he⟩
  · exact rd_parse_no s 0 0 0 w (by omega) (by omega) (by omega) (by omega) (by omega) (by omega) (fun w => parts_no s hs 46 46 rfl hm w)
  · by_cases hl : pre.length < 2
    · exact rd_parse_no s 0 0 0 w (by omega) (by omega) (by omega) (by omega) (by omega) (by omega) (fun w => parts_short s hs 46 46 rfl pre post he hm hl w)
    · cases pre with
      | nil => exact absurd (by simp) hl
      | cons x r =>
        have hp := fun w => parts_at s hs 46 x 46 rfl r post he hm (by simp at hl; omega) w
        obtain ⟨a0, a1⟩ := numV_bound r
        obtain ⟨b0, b1⟩ := numV_bound post
        obtain ⟨x0, x1⟩ := kI_bound x
        cases ho : pOk x r post with
        | false =>
          rw [ho] at hp
          exact rd_parse_no s _ _ _ w x0 x1 a0 a1 b0 b1 hp
        | true =>
          rw [ho] at hp
          unfold pOk at ho
          rw [Bool.and_eq_true, Bool.and_eq_true, Bool.and_eq_true, decide_eq_true_iff, decide_eq_true_iff] at ho
          obtain ⟨n1, m1, kp, bp⟩ := ho
          cases hok : dOk 256 (kI x) (numV r) (numV post) with
          | false => exact rd_parse_chk s _ _ _ w x0 x1 a0 a1 b0 (by omega) hok hp
          | true =>
            exfalso
            refine h (kI x) (numV r) (numV post) ⟨hok, by omega, b0, ?_⟩
            obtain ⟨v1, v2⟩ := numB_val n1
            obtain ⟨v3, v4⟩ := numB_val m1
            unfold dTextL
            rw [letter_kI kp, v1, v3, Int.toNat_natCast, Int.toNat_natCast, v2, v4]
            exact he
set_option maxHeartbeats 2000000 in
theorem ro_parse_no (s : ByteArray) (kd a b : Int) (w : World) (k0 : 0 ≤ kd) (k3 : kd ≤ 3) (a0 : 0 ≤ a) (a1 : a ≤ 9999999999) (b0 : 0 ≤ b) (b1 : b ≤ 9999999999)
    (hp : ∀ w, Ret 41 #[.string s, .int .u8 58] w (.tuple #[.int .i64 kd, .int .u64 a, .int .u64 b, .bool false])) :
    Ret 27 #[.string s] w (.tuple #[dV 0 0 0, .int .i64 9]) := by
  have e1 : IntKind.i64.wrap a = a := by rw [IntKind.wrap_i64]; omega
  have HP := Lib.hid hp
  clear hp
  go_enter Tryd.func27, Tryd.ntmps27
  go_wp2_with fail
  refine (HP.out _).mono ?_
  rintro e w1 ⟨rfl, hb1⟩
  have c0 : w1.cell? ⟨w.heap.size, 0, none⟩ = some (.int .i64 0) := by rw [(bcell hb1).1 _ _ (by simp)]; simp
  have c1 : w1.cell? ⟨w.heap.size, 1, none⟩ = some (.int .i64 0) := by rw [(bcell hb1).1 _ _ (by simp)]; simp
  have c2 : w1.cell? ⟨w.heap.size, 2, none⟩ = some (.int .u32 0) := by rw [(bcell hb1).1 _ _ (by simp)]; simp
  have fr : ∀ o, w1.frozen? ⟨w.heap.size, o, none⟩ = false := fun o => by rw [(bcell hb1).2 _ _ (by simp)]; simp
  have z1 : w.heap.size < w1.heap.size := by have := hb1.size; simp at this; omega
  have z2 : w.heap.size < w1.heap.size + 1 := by omega
  have hc1 := under (w := w) hb1
  clear hb1
  go_wp2_with fail
  refine bodyPost_ret (v := .tuple #[dV 0 0 0, .int .i64 9]) (by simp [results, Tryd.results27, go_sem, c0, c1, c2, z1, z2]) rfl ⟨rfl, ?_⟩
  repeat (refine Below.setCell ?_ (by simp) _)
  go_grown
set_option maxHeartbeats 2000000 in
theorem ro_parse_chk (s : ByteArray) (kd a b : Int) (w : World) (k0 : 0 ≤ kd) (k3 : kd ≤ 3) (a0 : 0 ≤ a) (a1 : a ≤ 9999999999) (b0 : 0 ≤ b) (b1 : b ≤ 4294967295) (h : dOk 64 kd a b = false)
    (hp : ∀ w, Ret 41 #[.string s, .int .u8 58] w (.tuple #[.int .i64 kd, .int .u64 a, .int .u64 b, .bool true])) :
    Ret 27 #[.string s] w (.tuple #[dV 0 0 0, .int .i64 9]) := by
  have e1 : IntKind.i64.wrap a = a := by rw [IntKind.wrap_i64]; omega
  have e2 : IntKind.u32.wrap b = b := by rw [IntKind.wrap_u32]; omega
  have hk := fun w => ro_check kd a b w b0
  rw [dErr_bad h] at hk
  have HK := Lib.hid hk
  have HP := Lib.hid hp
  clear hp hk h
  go_enter Tryd.func27, Tryd.ntmps27
  go_wp2_with fail
  refine (HP.out _).mono ?_
  rintro e w1 ⟨rfl, hb1⟩
  have hc1 := under (w := w) hb1
  have c0 : w1.cell? ⟨w.heap.size, 0, none⟩ = some (.int .i64 0) := by rw [(bcell hb1).1 _ _ (by simp)]; simp
  have c1 : w1.cell? ⟨w.heap.size, 1, none⟩ = some (.int .i64 0) := by rw [(bcell hb1).1 _ _ (by simp)]; simp
  have c2 : w1.cell? ⟨w.heap.size, 2, none⟩ = some (.int .u32 0) := by rw [(bcell hb1).1 _ _ (by simp)]; simp
  have fr : ∀ o, w1.frozen? ⟨w.heap.size, o, none⟩ = false := fun o => by rw [(bcell hb1).2 _ _ (by simp)]; simp
  have z1 : w.heap.size < w1.heap.size := by have := hb1.size; simp at this; omega
  have z2 : w.heap.size < w1.heap.size + 1 := by omega
  clear hb1
  go_wp2_with fail
  refine (HK.out _).mono ?_
  rintro e w2 ⟨rfl, hb2⟩
  have hc2 := hc1.trans ((under (w := w1) hb2).mono hc1.size)
  have d0 := keep_cell (b := w.heap.size) (o := 0) hb2 (by simp; omega) (by go_simp; rfl)
  have d1 := keep_cell (b := w.heap.size) (o := 1) hb2 (by simp; omega) (by go_simp; rfl)
  have d2 := keep_cell (b := w.heap.size) (o := 2) hb2 (by simp; omega) (by go_simp; rfl)
  have fr2 : ∀ o, w2.frozen? ⟨w.heap.size, o, none⟩ = false := fun o => by rw [(bcell hb2).2 _ _ (by simp; omega)]; go_simp
  go_wp2_with fail
  refine bodyPost_ret (v := .tuple #[dV 0 0 0, .int .i64 9]) (by simp [results, Tryd.results27, go_sem, d0, d1, d2]) rfl ⟨rfl, ?_⟩
  repeat (refine Below.setCell ?_ (by simp) _)
  exact hc2
set_option maxHeartbeats 2000000 in
theorem ro_parse_ok (s : ByteArray) (kd a b : Int) (w : World) (b1 : b ≤ 4294967295) (b0 : 0 ≤ b) (h : dOk 64 kd a b = true)
    (hp : ∀ w, Ret 41 #[.string s, .int .u8 58] w (.tuple #[.int .i64 kd, .int .u64 a, .int .u64 b, .bool true])) :
    Ret 27 #[.string s] w (.tuple #[dV kd a b, .int .i64 0]) := by
  have hk := fun w => ro_check kd a b w b0
  rw [dErr_ok h] at hk
  rw [dOk_iff] at h
  obtain ⟨k1, k3, a0, a1, _⟩ := h
  have e1 : IntKind.i64.wrap a = a := by rw [IntKind.wrap_i64]; omega
  have e2 : IntKind.u32.wrap b = b := by rw [IntKind.wrap_u32]; omega
  have HK := Lib.hid hk
  have HP := Lib.hid hp
  clear hp hk
  go_enter Tryd.func27, Tryd.ntmps27
  go_wp2_with fail
  refine (HP.out _).mono ?_
  rintro e w1 ⟨rfl, hb1⟩
  have hc1 := under (w := w) hb1
  have c0 : w1.cell? ⟨w.heap.size, 0, none⟩ = some (.int .i64 0) := by rw [(bcell hb1).1 _ _ (by simp)]; simp
  have c1 : w1.cell? ⟨w.heap.size, 1, none⟩ = some (.int .i64 0) := by rw [(bcell hb1).1 _ _ (by simp)]; simp
  have c2 : w1.cell? ⟨w.heap.size, 2, none⟩ = some (.int .u32 0) := by rw [(bcell hb1).1 _ _ (by simp)]; simp
  have fr : ∀ o, w1.frozen? ⟨w.heap.size, o, none⟩ = false := fun o => by rw [(bcell hb1).2 _ _ (by simp)]; simp
  have z1 : w.heap.size < w1.heap.size := by have := hb1.size; simp at this; omega
  have z2 : w.heap.size < w1.heap.size + 1 := by omega
  clear hb1
  go_wp2_with fail
  refine (HK.out _).mono ?_
  rintro e w2 ⟨rfl, hb2⟩
  have hc2 := hc1.trans ((under (w := w1) hb2).mono hc1.size)
  have d0 := keep_cell (b := w.heap.size) (o := 0) hb2 (by simp; omega) (by go_simp; rfl)
  have d1 := keep_cell (b := w.heap.size) (o := 1) hb2 (by simp; omega) (by go_simp; rfl)
  have d2 := keep_cell (b := w.heap.size) (o := 2) hb2 (by simp; omega) (by go_simp; rfl)
  have fr2 : ∀ o, w2.frozen? ⟨w.heap.size, o, none⟩ = false := fun o => by rw [(bcell hb2).2 _ _ (by simp; omega)]; go_simp
  have g0 := keep_cell (b := w1.heap.size) (o := 0) (v := .int .i64 kd) hb2 (by simp) (by go_simp)
  have g1 := keep_cell (b := w1.heap.size) (o := 1) (v := .int .i64 a) hb2 (by simp) (by go_simp)
  have g2 := keep_cell (b := w1.heap.size) (o := 2) (v := .int .u32 b) hb2 (by simp) (by go_simp)
  go_wp2_with fail
  refine bodyPost_ret (v := .tuple #[dV kd a b, .int .i64 0]) (by simp [results, Tryd.results27, go_sem, d0, d1, d2]) rfl ⟨rfl, ?_⟩
  repeat (refine Below.setCell ?_ (by simp) _)
  exact hc2
theorem ro_parse_is (s : ByteArray) (k sl g : Int) (h : IsD 58 64 s.data.toList k sl g) (w : World) : Ret 27 #[.string s] w (.tuple #[dV k sl g, .int .i64 0]) := by
  obtain ⟨hok, gm, g0, he⟩ := h
  obtain ⟨k1, k3, s0, s1, gz⟩ := dOk_iff.1 hok
  have hc : sgn 58 := by simp [sgn]
  have hsz : s.size ≤ 22 := by
    have := (dTextL_len 58 (k := k) (s := sl) (g := g) (by omega) (by omega)).1
    rw [← he, len_bytes] at this
    exact this
  obtain ⟨n1, n2⟩ := numB_dec sl.toNat (by omega)
  obtain ⟨m1, m2⟩ := numB_dec g.toNat (by omega)
  have hp := fun w => parts_at s (by omega) 58 (letterB k) 58 rfl (decDigits sl.toNat) (decDigits g.toNat) (by rw [he]; rfl) (pre_not_mem hc k _) (decDigits_length_pos _) w
  have ho : pOk (letterB k) (decDigits sl.toNat) (decDigits g.toNat) = true := by
    unfold pOk
    rw [n1, m1, m2, kI_letter k1 k3]
    simp
    omega
  rw [ho, n2, m2, kI_letter k1 k3, Int.toNat_of_nonneg s0, Int.toNat_of_nonneg g0] at hp
  exact ro_parse_ok s k sl g w gm g0 hok hp
theorem ro_parse_not (s : ByteArray) (hs : s.size ≤ 100000) (h : ∀ k sl g, ¬ IsD 58 64 s.data.toList k sl g) (w : World) : Ret 27 #[.string s] w (.tuple #[dV 0 0 0, .int .i64 9]) := by
  rcases mem_split s.data.toList 58 with hm | ⟨pre, post, hm, he⟩
  · exact ro_parse_no s 0 0 0 w (by omega) (by omega) (by omega) (by omega) (by omega) (by omega) (fun w => parts_no s hs 58 58 rfl hm w)
  · by_cases hl : pre.length < 2
    · exact ro_parse_no s 0 0 0 w (by omega) (by omega) (by omega) (by omega) (by omega) (by omega) (fun w => parts_short s hs 58 58 rfl pre post he hm hl w)
    · cases pre with
      | nil => exact absurd (by simp) hl
      | cons x r =>
        have hp := fun w => parts_at s hs 58 x 58 rfl r post he hm (by simp at hl; omega) w
        obtain ⟨a0, a1⟩ := numV_bound r
        obtain ⟨b0, b1⟩ := numV_bound post
        obtain ⟨x0, x1⟩ := kI_bound x
        cases ho : pOk x r post with
        | false =>
          rw [ho] at hp
          exact ro_parse_no s _ _ _ w x0 x1 a0 a1 b0 b1 hp
        | true =>
          rw [ho] at hp
          unfold pOk at ho
          rw [Bool.and_eq_true, Bool.and_eq_true, Bool.and_eq_true, decide_eq_true_iff, decide_eq_true_iff] at ho
          obtain ⟨n1, m1, kp, bp⟩ := ho
          cases hok : dOk 64 (kI x) (numV r) (numV post) with
          | false => exact ro_parse_chk s _ _ _ w x0 x1 a0 a1 b0 (by omega) hok hp
          | true =>
            exfalso
            refine h (kI x) (numV r) (numV post) ⟨hok, by omega, b0, ?_⟩
            obtain ⟨v1, v2⟩ := numB_val n1
            obtain ⟨v3, v4⟩ := numB_val m1
            unfold dTextL
            rw [letter_kI kp, v1, v3, Int.toNat_natCast, Int.toNat_natCast, v2, v4]
            exact he
end Go.Proofs.YtjonbmocamjhaaaDoor
