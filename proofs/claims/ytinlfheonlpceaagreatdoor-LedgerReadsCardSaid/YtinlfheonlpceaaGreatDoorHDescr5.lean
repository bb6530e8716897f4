/- Package descr: read. -/
import Derived.Test.YtinlfheonlpceaaGreatDoorL0b
import Derived.Deep.DeepCutAuto
import Derived.IntWalk
namespace Go.Proofs.YtinlfheonlpceaaGreatDoor
open Go.RowKit

set_option linter.unusedSimpArgs false in
set_option maxHeartbeats 4000000 in
set_option maxRecDepth 20000 in
theorem read_ok (c x : UInt8) (size sl gn : Int) (s F R Y : ByteArray) (fd : Bool) (w : World) (hE : EnvP w) (hF : F.toList.isEmpty = false) (hF1 : (1 : Int) ≤ F.size) (hR : F.extract 1 F.size = R) (hX : F.extract 0 1 = ⟨#[x]⟩)
    (hcut : ∀ w, Env w → Ret 67 #[.string s, .string ⟨#[c]⟩] w (.tuple #[.string F, .string Y, .bool fd]))
    (hat : ∀ w, Ret 152 #[.string R] w (.tuple #[.int .i64 sl, .nilIface])) (hgp : ∀ w, EnvP w → Ret 153 #[.string Y] w (.tuple #[.int .u32 gn, .int .i64 0]))
    (g0 : 0 ≤ gn) (g1 : gn ≤ 4294967295) (hck : ∀ w, Ret 106 #[nmV (kIdx x) sl gn, .int .i64 size] w (.int .i64 0)) (htx : ∀ w, Env w → Ret 86 #[nmV (kIdx x) sl gn, .string ⟨#[c]⟩] w (.string s)) :
    Ret 129 #[.string s, .string ⟨#[c]⟩, .int .i64 size] w (.tuple #[nmV (kIdx x) sl gn, .int .i64 0]) := by
  have HCUT := Lib.hid hcut
  have HAT := Lib.hid hat
  have HGP := Lib.hid hgp
  clear hcut hat hgp
  have HCK := Lib.hid hck
  have HTX := Lib.hid htx
  clear hck htx
  go_enter Tryz.func129, Tryz.ntmps129
  go_wp2_with fail
  refine (HCUT.out _ (hE.alloc _).toEnv).mono ?_
  rintro e w1 ⟨rfl, hb1⟩
  have hE1 := hE.on (under hb1)
  have hc1 := under (w := w) hb1
  obtain ⟨k1, f1⟩ := bcell hb1
  have z1 : w.heap.size < w1.heap.size := by have := hb1.size; simp at this; omega
  clear hb1
  go_wp2_with fail
  refine (HAT.out _).mono ?_
  rintro e w2 ⟨rfl, hb2⟩
  have hE2 := hE1.on hb2
  have hc2 := chain hc1 hb2
  obtain ⟨k2, f2⟩ := bcell hb2
  have z2 : w.heap.size < w2.heap.size := by have := hb2.size; omega
  clear hb2
  go_wp2_with fail
  refine (HGP.out _ hE2).mono ?_
  rintro e w3 ⟨rfl, hb3⟩
  have hE3 := hE2.on hb3
  have hc3 := chain hc2 hb3
  obtain ⟨k3, f3⟩ := bcell hb3
  have z3 : w.heap.size < w3.heap.size := by have := hb3.size; omega
  have r0 : w3.cell? ⟨w.heap.size, 0, none⟩ = some (.int .i64 0) := by rw [k3 _ _ z2, k2 _ _ z1, k1 _ _ (by simp)]; simp
  have r1 : w3.cell? ⟨w.heap.size, 1, none⟩ = some (.int .i64 0) := by rw [k3 _ _ z2, k2 _ _ z1, k1 _ _ (by simp)]; simp
  have r2 : w3.cell? ⟨w.heap.size, 2, none⟩ = some (.int .i64 0) := by rw [k3 _ _ z2, k2 _ _ z1, k1 _ _ (by simp)]; simp
  have fr3 : ∀ o, w3.frozen? ⟨w.heap.size, o, none⟩ = false := fun o => by rw [f3 _ _ z2, f2 _ _ z1, f1 _ _ (by simp)]; simp
  clear k1 k2 k3 f1 f2 f3 hb3 hE1 hE2 hc1 hc2 z1 z2
  go_wp2_with fail
  have hgw : IntKind.i64.wrap gn = gn := IntWalk.i64_in gn ⟨by omega, by omega⟩
  go_cut [15] (fun s15 wx => ∃ b, s15 = .pointer (some ⟨b, 0, none⟩) ∧ w3.heap.size ≤ b ∧ b < wx.heap.size ∧ wx.cell? ⟨b, 0, none⟩ = some (.int .i64 (kIdx x)) ∧ wx.cell? ⟨b, 1, none⟩ = some (.int .i64 sl) ∧ wx.cell? ⟨b, 2, none⟩ = some (.int .i64 gn) ∧ Below w3.heap.size w3 wx)
  case first =>
    go_region_with (first
      | (go_at_call 113; refine (letters_c _).mono ?_; rintro e w4 ⟨rfl, rfl⟩)
      | (go_at_call 131; refine (index_c x _ _ ?_ ?_ ?_ ?_).mono ?_; (focus (go_simp; done)); (focus (go_simp; done)); (focus (go_simp; done)); (focus (go_simp; done)); rintro e w5 ⟨rfl, hb5⟩; obtain ⟨k5, f5⟩ := bcell hb5; have z5 : w3.heap.size < w5.heap.size := (by have := hb5.size; simp at this; omega); have hB5 := under (w := w3) hb5; try (have z6 : w3.heap.size + 1 < w5.heap.size := (by have := hb5.size; simp at this; omega))))
    all_goals
      go_wp2_with fail
      go_meet
      refine ⟨_, rfl, ?_, ?_, ?_, ?_, ?_, ?_⟩
      · first | (simp; done) | omega | (simp; omega)
      · first | (simp; done) | omega | (simp; omega)
      · first | (go_simp; done) | (have c0 : w5.cell? ⟨w3.heap.size, 0, none⟩ = some (.int .i64 0) := (by rw [k5 _ _ (by simp; omega)]; simp); have c1 : w5.cell? ⟨w3.heap.size, 1, none⟩ = some (.int .i64 0) := (by rw [k5 _ _ (by simp; omega)]; simp); have c2 : w5.cell? ⟨w3.heap.size, 2, none⟩ = some (.int .i64 0) := (by rw [k5 _ _ (by simp; omega)]; simp); simp [go_sem, c0, c1, c2])
      · first | (go_simp; done) | (have c0 : w5.cell? ⟨w3.heap.size, 0, none⟩ = some (.int .i64 0) := (by rw [k5 _ _ (by simp; omega)]; simp); have c1 : w5.cell? ⟨w3.heap.size, 1, none⟩ = some (.int .i64 0) := (by rw [k5 _ _ (by simp; omega)]; simp); have c2 : w5.cell? ⟨w3.heap.size, 2, none⟩ = some (.int .i64 0) := (by rw [k5 _ _ (by simp; omega)]; simp); simp [go_sem, c0, c1, c2])
      · first | (go_simp; done) | (have c0 : w5.cell? ⟨w3.heap.size, 0, none⟩ = some (.int .i64 0) := (by rw [k5 _ _ (by simp; omega)]; simp); have c1 : w5.cell? ⟨w3.heap.size, 1, none⟩ = some (.int .i64 0) := (by rw [k5 _ _ (by simp; omega)]; simp); have c2 : w5.cell? ⟨w3.heap.size, 2, none⟩ = some (.int .i64 0) := (by rw [k5 _ _ (by simp; omega)]; simp); simp [go_sem, c0, c1, c2])
      · first | (go_grown; done)
  case rest =>
    obtain ⟨b, rfl, hb, hlt, n0, n1, n2, hb4⟩ := hcut
    have hE4 := hE3.on hb4
    have hc4 := chain hc3 hb4
    have z4 : w.heap.size < wc.heap.size := Nat.lt_of_lt_of_le z3 hb4.size
    have s0 := keep_cell hb4 z3 r0
    have s1 := keep_cell hb4 z3 r1
    have s2 := keep_cell hb4 z3 r2
    have fr4 : ∀ o, wc.frozen? ⟨w.heap.size, o, none⟩ = false := fun o => by rw [(bcell hb4).2 _ _ z3]; exact fr3 o
    have hbw : w.heap.size < b := by omega
    clear hb4 r0 r1 r2 fr3 hgw hE3 hc3 z3
    go_wp2_with fail
    refine (HCK.out _).mono ?_
    rintro e w5 ⟨rfl, hb5⟩
    have hE5 := hE4.on hb5
    have hc5 := chain hc4 hb5
    have m0 := keep_cell hb5 hlt n0
    have m1 := keep_cell hb5 hlt n1
    have m2 := keep_cell hb5 hlt n2
    have t0 := keep_cell hb5 z4 s0
    have t1 := keep_cell hb5 z4 s1
    have t2 := keep_cell hb5 z4 s2
    have fr5 : ∀ o, w5.frozen? ⟨w.heap.size, o, none⟩ = false := fun o => by rw [(bcell hb5).2 _ _ z4]; exact fr4 o
    have z5 := keep_lt hb5 z4
    have hl5 := keep_lt hb5 hlt
    clear hb5 n0 n1 n2 s0 s1 s2 fr4 z4 hlt hE4 hc4
    go_wp2_with fail
    refine (HTX.out _ hE5.toEnv).mono ?_
    rintro e w6 ⟨rfl, hb6⟩
    have hc6 := chain hc5 hb6
    have x0 := keep_cell hb6 hl5 m0
    have x1 := keep_cell hb6 hl5 m1
    have x2 := keep_cell hb6 hl5 m2
    have u0 := keep_cell hb6 z5 t0
    have u1 := keep_cell hb6 z5 t1
    have u2 := keep_cell hb6 z5 t2
    have fr6 : ∀ o, w6.frozen? ⟨w.heap.size, o, none⟩ = false := fun o => by rw [(bcell hb6).2 _ _ z5]; exact fr5 o
    have z6 := keep_lt hb6 z5
    clear hb6 m0 m1 m2 t0 t1 t2 fr5 z5 hl5 hE5 hc5
    go_wp2_with fail
    refine bodyPost_ret (v := .tuple #[nmV (kIdx x) sl gn, .int .i64 0]) (by simp [results, Tryz.results129, go_sem, u0, u1, u2, x0, x1, x2]) rfl ⟨rfl, ?_⟩
    repeat (refine Below.setCell ?_ (by simp) _)
    exact hc6
set_option linter.unusedSimpArgs false in
set_option maxHeartbeats 4000000 in
set_option maxRecDepth 20000 in
theorem read_text (c x : UInt8) (size sl gn : Int) (s F R Y : ByteArray) (fd : Bool) (w : World) (hE : EnvP w) (hF : F.toList.isEmpty = false) (hF1 : (1 : Int) ≤ F.size) (hR : F.extract 1 F.size = R) (hX : F.extract 0 1 = ⟨#[x]⟩)
    (hcut : ∀ w, Env w → Ret 67 #[.string s, .string ⟨#[c]⟩] w (.tuple #[.string F, .string Y, .bool fd]))
    (hat : ∀ w, Ret 152 #[.string R] w (.tuple #[.int .i64 sl, .nilIface])) (hgp : ∀ w, EnvP w → Ret 153 #[.string Y] w (.tuple #[.int .u32 gn, .int .i64 0]))
    (g0 : 0 ≤ gn) (g1 : gn ≤ 4294967295) (hck : ∀ w, Ret 106 #[nmV (kIdx x) sl gn, .int .i64 size] w (.int .i64 0)) (T : ByteArray) (hT : (T.toList == s.toList) = false) (htx : ∀ w, Env w → Ret 86 #[nmV (kIdx x) sl gn, .string ⟨#[c]⟩] w (.string T)) :
    Ret 129 #[.string s, .string ⟨#[c]⟩, .int .i64 size] w (.tuple #[nmV 0 0 0, .int .i64 9]) := by
  have HCUT := Lib.hid hcut
  have HAT := Lib.hid hat
  have HGP := Lib.hid hgp
  clear hcut hat hgp
  have HCK := Lib.hid hck
  have HTX := Lib.hid htx
  clear hck htx
  go_enter Tryz.func129, Tryz.ntmps129
  go_wp2_with fail
  refine (HCUT.out _ (hE.alloc _).toEnv).mono ?_
  rintro e w1 ⟨rfl, hb1⟩
  have hE1 := hE.on (under hb1)
  have hc1 := under (w := w) hb1
  obtain ⟨k1, f1⟩ := bcell hb1
  have z1 : w.heap.size < w1.heap.size := by have := hb1.size; simp at this; omega
  clear hb1
  go_wp2_with fail
  refine (HAT.out _).mono ?_
  rintro e w2 ⟨rfl, hb2⟩
  have hE2 := hE1.on hb2
  have hc2 := chain hc1 hb2
  obtain ⟨k2, f2⟩ := bcell hb2
  have z2 : w.heap.size < w2.heap.size := by have := hb2.size; omega
  clear hb2
  go_wp2_with fail
  refine (HGP.out _ hE2).mono ?_
  rintro e w3 ⟨rfl, hb3⟩
  have hE3 := hE2.on hb3
  have hc3 := chain hc2 hb3
  obtain ⟨k3, f3⟩ := bcell hb3
  have z3 : w.heap.size < w3.heap.size := by have := hb3.size; omega
  have r0 : w3.cell? ⟨w.heap.size, 0, none⟩ = some (.int .i64 0) := by rw [k3 _ _ z2, k2 _ _ z1, k1 _ _ (by simp)]; simp
  have r1 : w3.cell? ⟨w.heap.size, 1, none⟩ = some (.int .i64 0) := by rw [k3 _ _ z2, k2 _ _ z1, k1 _ _ (by simp)]; simp
  have r2 : w3.cell? ⟨w.heap.size, 2, none⟩ = some (.int .i64 0) := by rw [k3 _ _ z2, k2 _ _ z1, k1 _ _ (by simp)]; simp
  have fr3 : ∀ o, w3.frozen? ⟨w.heap.size, o, none⟩ = false := fun o => by rw [f3 _ _ z2, f2 _ _ z1, f1 _ _ (by simp)]; simp
  clear k1 k2 k3 f1 f2 f3 hb3 hE1 hE2 hc1 hc2 z1 z2
  go_wp2_with fail
  have hgw : IntKind.i64.wrap gn = gn := IntWalk.i64_in gn ⟨by omega, by omega⟩
  go_cut [15] (fun s15 wx => ∃ b, s15 = .pointer (some ⟨b, 0, none⟩) ∧ w3.heap.size ≤ b ∧ b < wx.heap.size ∧ wx.cell? ⟨b, 0, none⟩ = some (.int .i64 (kIdx x)) ∧ wx.cell? ⟨b, 1, none⟩ = some (.int .i64 sl) ∧ wx.cell? ⟨b, 2, none⟩ = some (.int .i64 gn) ∧ Below w3.heap.size w3 wx)
  case first =>
    go_region_with (first
      | (go_at_call 113; refine (letters_c _).mono ?_; rintro e w4 ⟨rfl, rfl⟩)
      | (go_at_call 131; refine (index_c x _ _ ?_ ?_ ?_ ?_).mono ?_; (focus (go_simp; done)); (focus (go_simp; done)); (focus (go_simp; done)); (focus (go_simp; done)); rintro e w5 ⟨rfl, hb5⟩; obtain ⟨k5, f5⟩ := bcell hb5; have z5 : w3.heap.size < w5.heap.size := (by have := hb5.size; simp at this; omega); have hB5 := under (w := w3) hb5; try (have z6 : w3.heap.size + 1 < w5.heap.size := (by have := hb5.size; simp at this; omega))))
    all_goals
      go_wp2_with fail
      go_meet
      refine ⟨_, rfl, ?_, ?_, ?_, ?_, ?_, ?_⟩
      · first | (simp; done) | omega | (simp; omega)
      · first | (simp; done) | omega | (simp; omega)
      · first | (go_simp; done) | (have c0 : w5.cell? ⟨w3.heap.size, 0, none⟩ = some (.int .i64 0) := (by rw [k5 _ _ (by simp; omega)]; simp); have c1 : w5.cell? ⟨w3.heap.size, 1, none⟩ = some (.int .i64 0) := (by rw [k5 _ _ (by simp; omega)]; simp); have c2 : w5.cell? ⟨w3.heap.size, 2, none⟩ = some (.int .i64 0) := (by rw [k5 _ _ (by simp; omega)]; simp); simp [go_sem, c0, c1, c2])
      · first | (go_simp; done) | (have c0 : w5.cell? ⟨w3.heap.size, 0, none⟩ = some (.int .i64 0) := (by rw [k5 _ _ (by simp; omega)]; simp); have c1 : w5.cell? ⟨w3.heap.size, 1, none⟩ = some (.int .i64 0) := (by rw [k5 _ _ (by simp; omega)]; simp); have c2 : w5.cell? ⟨w3.heap.size, 2, none⟩ = some (.int .i64 0) := (by rw [k5 _ _ (by simp; omega)]; simp); simp [go_sem, c0, c1, c2])
      · first | (go_simp; done) | (have c0 : w5.cell? ⟨w3.heap.size, 0, none⟩ = some (.int .i64 0) := (by rw [k5 _ _ (by simp; omega)]; simp); have c1 : w5.cell? ⟨w3.heap.size, 1, none⟩ = some (.int .i64 0) := (by rw [k5 _ _ (by simp; omega)]; simp); have c2 : w5.cell? ⟨w3.heap.size, 2, none⟩ = some (.int .i64 0) := (by rw [k5 _ _ (by simp; omega)]; simp); simp [go_sem, c0, c1, c2])
      · first | (go_grown; done)
  case rest =>
    obtain ⟨b, rfl, hb, hlt, n0, n1, n2, hb4⟩ := hcut
    have hE4 := hE3.on hb4
    have hc4 := chain hc3 hb4
    have z4 : w.heap.size < wc.heap.size := Nat.lt_of_lt_of_le z3 hb4.size
    have s0 := keep_cell hb4 z3 r0
    have s1 := keep_cell hb4 z3 r1
    have s2 := keep_cell hb4 z3 r2
    have fr4 : ∀ o, wc.frozen? ⟨w.heap.size, o, none⟩ = false := fun o => by rw [(bcell hb4).2 _ _ z3]; exact fr3 o
    have hbw : w.heap.size < b := by omega
    clear hb4 r0 r1 r2 fr3 hgw hE3 hc3 z3
    go_wp2_with fail
    refine (HCK.out _).mono ?_
    rintro e w5 ⟨rfl, hb5⟩
    have hE5 := hE4.on hb5
    have hc5 := chain hc4 hb5
    have m0 := keep_cell hb5 hlt n0
    have m1 := keep_cell hb5 hlt n1
    have m2 := keep_cell hb5 hlt n2
    have t0 := keep_cell hb5 z4 s0
    have t1 := keep_cell hb5 z4 s1
    have t2 := keep_cell hb5 z4 s2
    have fr5 : ∀ o, w5.frozen? ⟨w.heap.size, o, none⟩ = false := fun o => by rw [(bcell hb5).2 _ _ z4]; exact fr4 o
    have z5 := keep_lt hb5 z4
    have hl5 := keep_lt hb5 hlt
    clear hb5 n0 n1 n2 s0 s1 s2 fr4 z4 hlt hE4 hc4
    go_wp2_with fail
    refine (HTX.out _ hE5.toEnv).mono ?_
    rintro e w6 ⟨rfl, hb6⟩
    have hc6 := chain hc5 hb6
    have x0 := keep_cell hb6 hl5 m0
    have x1 := keep_cell hb6 hl5 m1
    have x2 := keep_cell hb6 hl5 m2
    have u0 := keep_cell hb6 z5 t0
    have u1 := keep_cell hb6 z5 t1
    have u2 := keep_cell hb6 z5 t2
    have fr6 : ∀ o, w6.frozen? ⟨w.heap.size, o, none⟩ = false := fun o => by rw [(bcell hb6).2 _ _ z5]; exact fr5 o
    have z6 := keep_lt hb6 z5
    clear hb6 m0 m1 m2 t0 t1 t2 fr5 z5 hl5 hE5 hc5
    go_wp2_with fail
    refine bodyPost_ret (v := .tuple #[nmV 0 0 0, .int .i64 9]) (by simp [results, Tryz.results129, go_sem, u0, u1, u2]) rfl ⟨rfl, ?_⟩
    repeat (refine Below.setCell ?_ (by simp) _)
    exact hc6
set_option linter.unusedSimpArgs false in
set_option maxHeartbeats 4000000 in
set_option maxRecDepth 20000 in
theorem read_check (c x : UInt8) (size sl gn : Int) (s F R Y : ByteArray) (fd : Bool) (w : World) (hE : EnvP w) (hF : F.toList.isEmpty = false) (hF1 : (1 : Int) ≤ F.size) (hR : F.extract 1 F.size = R) (hX : F.extract 0 1 = ⟨#[x]⟩)
    (hcut : ∀ w, Env w → Ret 67 #[.string s, .string ⟨#[c]⟩] w (.tuple #[.string F, .string Y, .bool fd]))
    (hat : ∀ w, Ret 152 #[.string R] w (.tuple #[.int .i64 sl, .nilIface])) (hgp : ∀ w, EnvP w → Ret 153 #[.string Y] w (.tuple #[.int .u32 gn, .int .i64 0]))
    (g0 : 0 ≤ gn) (g1 : gn ≤ 4294967295) (hck : ∀ w, Ret 106 #[nmV (kIdx x) sl gn, .int .i64 size] w (.int .i64 2)) :
    Ret 129 #[.string s, .string ⟨#[c]⟩, .int .i64 size] w (.tuple #[nmV 0 0 0, .int .i64 9]) := by
  have HCUT := Lib.hid hcut
  have HAT := Lib.hid hat
  have HGP := Lib.hid hgp
  clear hcut hat hgp
  have HCK := Lib.hid hck
  clear hck
  go_enter Tryz.func129, Tryz.ntmps129
  go_wp2_with fail
  refine (HCUT.out _ (hE.alloc _).toEnv).mono ?_
  rintro e w1 ⟨rfl, hb1⟩
  have hE1 := hE.on (under hb1)
  have hc1 := under (w := w) hb1
  obtain ⟨k1, f1⟩ := bcell hb1
  have z1 : w.heap.size < w1.heap.size := by have := hb1.size; simp at this; omega
  clear hb1
  go_wp2_with fail
  refine (HAT.out _).mono ?_
  rintro e w2 ⟨rfl, hb2⟩
  have hE2 := hE1.on hb2
  have hc2 := chain hc1 hb2
  obtain ⟨k2, f2⟩ := bcell hb2
  have z2 : w.heap.size < w2.heap.size := by have := hb2.size; omega
  clear hb2
  go_wp2_with fail
  refine (HGP.out _ hE2).mono ?_
  rintro e w3 ⟨rfl, hb3⟩
  have hE3 := hE2.on hb3
  have hc3 := chain hc2 hb3
  obtain ⟨k3, f3⟩ := bcell hb3
  have z3 : w.heap.size < w3.heap.size := by have := hb3.size; omega
  have r0 : w3.cell? ⟨w.heap.size, 0, none⟩ = some (.int .i64 0) := by rw [k3 _ _ z2, k2 _ _ z1, k1 _ _ (by simp)]; simp
  have r1 : w3.cell? ⟨w.heap.size, 1, none⟩ = some (.int .i64 0) := by rw [k3 _ _ z2, k2 _ _ z1, k1 _ _ (by simp)]; simp
  have r2 : w3.cell? ⟨w.heap.size, 2, none⟩ = some (.int .i64 0) := by rw [k3 _ _ z2, k2 _ _ z1, k1 _ _ (by simp)]; simp
  have fr3 : ∀ o, w3.frozen? ⟨w.heap.size, o, none⟩ = false := fun o => by rw [f3 _ _ z2, f2 _ _ z1, f1 _ _ (by simp)]; simp
  clear k1 k2 k3 f1 f2 f3 hb3 hE1 hE2 hc1 hc2 z1 z2
  go_wp2_with fail
  have hgw : IntKind.i64.wrap gn = gn := IntWalk.i64_in gn ⟨by omega, by omega⟩
  go_cut [15] (fun s15 wx => ∃ b, s15 = .pointer (some ⟨b, 0, none⟩) ∧ w3.heap.size ≤ b ∧ b < wx.heap.size ∧ wx.cell? ⟨b, 0, none⟩ = some (.int .i64 (kIdx x)) ∧ wx.cell? ⟨b, 1, none⟩ = some (.int .i64 sl) ∧ wx.cell? ⟨b, 2, none⟩ = some (.int .i64 gn) ∧ Below w3.heap.size w3 wx)
  case first =>
    go_region_with (first
      | (go_at_call 113; refine (letters_c _).mono ?_; rintro e w4 ⟨rfl, rfl⟩)
      | (go_at_call 131; refine (index_c x _ _ ?_ ?_ ?_ ?_).mono ?_; (focus (go_simp; done)); (focus (go_simp; done)); (focus (go_simp; done)); (focus (go_simp; done)); rintro e w5 ⟨rfl, hb5⟩; obtain ⟨k5, f5⟩ := bcell hb5; have z5 : w3.heap.size < w5.heap.size := (by have := hb5.size; simp at this; omega); have hB5 := under (w := w3) hb5; try (have z6 : w3.heap.size + 1 < w5.heap.size := (by have := hb5.size; simp at this; omega))))
    all_goals
      go_wp2_with fail
      go_meet
      refine ⟨_, rfl, ?_, ?_, ?_, ?_, ?_, ?_⟩
      · first | (simp; done) | omega | (simp; omega)
      · first | (simp; done) | omega | (simp; omega)
      · first | (go_simp; done) | (have c0 : w5.cell? ⟨w3.heap.size, 0, none⟩ = some (.int .i64 0) := (by rw [k5 _ _ (by simp; omega)]; simp); have c1 : w5.cell? ⟨w3.heap.size, 1, none⟩ = some (.int .i64 0) := (by rw [k5 _ _ (by simp; omega)]; simp); have c2 : w5.cell? ⟨w3.heap.size, 2, none⟩ = some (.int .i64 0) := (by rw [k5 _ _ (by simp; omega)]; simp); simp [go_sem, c0, c1, c2])
      · first | (go_simp; done) | (have c0 : w5.cell? ⟨w3.heap.size, 0, none⟩ = some (.int .i64 0) := (by rw [k5 _ _ (by simp; omega)]; simp); have c1 : w5.cell? ⟨w3.heap.size, 1, none⟩ = some (.int .i64 0) := (by rw [k5 _ _ (by simp; omega)]; simp); have c2 : w5.cell? ⟨w3.heap.size, 2, none⟩ = some (.int .i64 0) := (by rw [k5 _ _ (by simp; omega)]; simp); simp [go_sem, c0, c1, c2])
      · first | (go_simp; done) | (have c0 : w5.cell? ⟨w3.heap.size, 0, none⟩ = some (.int .i64 0) := (by rw [k5 _ _ (by simp; omega)]; simp); have c1 : w5.cell? ⟨w3.heap.size, 1, none⟩ = some (.int .i64 0) := (by rw [k5 _ _ (by simp; omega)]; simp); have c2 : w5.cell? ⟨w3.heap.size, 2, none⟩ = some (.int .i64 0) := (by rw [k5 _ _ (by simp; omega)]; simp); simp [go_sem, c0, c1, c2])
      · first | (go_grown; done)
  case rest =>
    obtain ⟨b, rfl, hb, hlt, n0, n1, n2, hb4⟩ := hcut
    have hE4 := hE3.on hb4
    have hc4 := chain hc3 hb4
    have z4 : w.heap.size < wc.heap.size := Nat.lt_of_lt_of_le z3 hb4.size
    have s0 := keep_cell hb4 z3 r0
    have s1 := keep_cell hb4 z3 r1
    have s2 := keep_cell hb4 z3 r2
    have fr4 : ∀ o, wc.frozen? ⟨w.heap.size, o, none⟩ = false := fun o => by rw [(bcell hb4).2 _ _ z3]; exact fr3 o
    have hbw : w.heap.size < b := by omega
    clear hb4 r0 r1 r2 fr3 hgw hE3 hc3 z3
    go_wp2_with fail
    refine (HCK.out _).mono ?_
    rintro e w5 ⟨rfl, hb5⟩
    have hE5 := hE4.on hb5
    have hc5 := chain hc4 hb5
    have m0 := keep_cell hb5 hlt n0
    have m1 := keep_cell hb5 hlt n1
    have m2 := keep_cell hb5 hlt n2
    have t0 := keep_cell hb5 z4 s0
    have t1 := keep_cell hb5 z4 s1
    have t2 := keep_cell hb5 z4 s2
    have fr5 : ∀ o, w5.frozen? ⟨w.heap.size, o, none⟩ = false := fun o => by rw [(bcell hb5).2 _ _ z4]; exact fr4 o
    have z5 := keep_lt hb5 z4
    have hl5 := keep_lt hb5 hlt
    clear hb5 n0 n1 n2 s0 s1 s2 fr4 z4 hlt hE4 hc4
    go_wp2_with fail
    refine bodyPost_ret (v := .tuple #[nmV 0 0 0, .int .i64 9]) (by simp [results, Tryz.results129, go_sem, t0, t1, t2]) rfl ⟨rfl, ?_⟩
    repeat (refine Below.setCell ?_ (by simp) _)
    exact hc5
set_option linter.unusedSimpArgs false in
set_option maxHeartbeats 4000000 in
set_option maxRecDepth 20000 in
theorem read_gen (c x : UInt8) (size sl gn : Int) (s F R Y : ByteArray) (fd : Bool) (w : World) (hE : EnvP w) (hF : F.toList.isEmpty = false) (hF1 : (1 : Int) ≤ F.size) (hR : F.extract 1 F.size = R) (hX : F.extract 0 1 = ⟨#[x]⟩)
    (hcut : ∀ w, Env w → Ret 67 #[.string s, .string ⟨#[c]⟩] w (.tuple #[.string F, .string Y, .bool fd]))
    (hat : ∀ w, Ret 152 #[.string R] w (.tuple #[.int .i64 sl, .nilIface])) (hgp : ∀ w, EnvP w → Ret 153 #[.string Y] w (.tuple #[.int .u32 gn, .int .i64 9]))
    (g0 : 0 ≤ gn) (g1 : gn ≤ 4294967295) :
    Ret 129 #[.string s, .string ⟨#[c]⟩, .int .i64 size] w (.tuple #[nmV 0 0 0, .int .i64 9]) := by
  have HCUT := Lib.hid hcut
  have HAT := Lib.hid hat
  have HGP := Lib.hid hgp
  clear hcut hat hgp
  go_enter Tryz.func129, Tryz.ntmps129
  go_wp2_with fail
  refine (HCUT.out _ (hE.alloc _).toEnv).mono ?_
  rintro e w1 ⟨rfl, hb1⟩
  have hE1 := hE.on (under hb1)
  have hc1 := under (w := w) hb1
  obtain ⟨k1, f1⟩ := bcell hb1
  have z1 : w.heap.size < w1.heap.size := by have := hb1.size; simp at this; omega
  clear hb1
  go_wp2_with fail
  refine (HAT.out _).mono ?_
  rintro e w2 ⟨rfl, hb2⟩
  have hE2 := hE1.on hb2
  have hc2 := chain hc1 hb2
  obtain ⟨k2, f2⟩ := bcell hb2
  have z2 : w.heap.size < w2.heap.size := by have := hb2.size; omega
  clear hb2
  go_wp2_with fail
  refine (HGP.out _ hE2).mono ?_
  rintro e w3 ⟨rfl, hb3⟩
  have hE3 := hE2.on hb3
  have hc3 := chain hc2 hb3
  obtain ⟨k3, f3⟩ := bcell hb3
  have z3 : w.heap.size < w3.heap.size := by have := hb3.size; omega
  have r0 : w3.cell? ⟨w.heap.size, 0, none⟩ = some (.int .i64 0) := by rw [k3 _ _ z2, k2 _ _ z1, k1 _ _ (by simp)]; simp
  have r1 : w3.cell? ⟨w.heap.size, 1, none⟩ = some (.int .i64 0) := by rw [k3 _ _ z2, k2 _ _ z1, k1 _ _ (by simp)]; simp
  have r2 : w3.cell? ⟨w.heap.size, 2, none⟩ = some (.int .i64 0) := by rw [k3 _ _ z2, k2 _ _ z1, k1 _ _ (by simp)]; simp
  have fr3 : ∀ o, w3.frozen? ⟨w.heap.size, o, none⟩ = false := fun o => by rw [f3 _ _ z2, f2 _ _ z1, f1 _ _ (by simp)]; simp
  clear k1 k2 k3 f1 f2 f3 hb3 hE1 hE2 hc1 hc2 z1 z2
  go_wp2_with fail
  have hgw : IntKind.i64.wrap gn = gn := IntWalk.i64_in gn ⟨by omega, by omega⟩
  go_cut [15] (fun s15 wx => ∃ b, s15 = .pointer (some ⟨b, 0, none⟩) ∧ w3.heap.size ≤ b ∧ b < wx.heap.size ∧ wx.cell? ⟨b, 0, none⟩ = some (.int .i64 (kIdx x)) ∧ wx.cell? ⟨b, 1, none⟩ = some (.int .i64 sl) ∧ wx.cell? ⟨b, 2, none⟩ = some (.int .i64 gn) ∧ Below w3.heap.size w3 wx)
  case first =>
    go_region_with (first
      | (go_at_call 113; refine (letters_c _).mono ?_; rintro e w4 ⟨rfl, rfl⟩)
      | (go_at_call 131; refine (index_c x _ _ ?_ ?_ ?_ ?_).mono ?_; (focus (go_simp; done)); (focus (go_simp; done)); (focus (go_simp; done)); (focus (go_simp; done)); rintro e w5 ⟨rfl, hb5⟩; obtain ⟨k5, f5⟩ := bcell hb5; have z5 : w3.heap.size < w5.heap.size := (by have := hb5.size; simp at this; omega); have hB5 := under (w := w3) hb5; try (have z6 : w3.heap.size + 1 < w5.heap.size := (by have := hb5.size; simp at this; omega))))
    all_goals
      go_wp2_with fail
      go_meet
      refine ⟨_, rfl, ?_, ?_, ?_, ?_, ?_, ?_⟩
      · first | (simp; done) | omega | (simp; omega)
      · first | (simp; done) | omega | (simp; omega)
      · first | (go_simp; done) | (have c0 : w5.cell? ⟨w3.heap.size, 0, none⟩ = some (.int .i64 0) := (by rw [k5 _ _ (by simp; omega)]; simp); have c1 : w5.cell? ⟨w3.heap.size, 1, none⟩ = some (.int .i64 0) := (by rw [k5 _ _ (by simp; omega)]; simp); have c2 : w5.cell? ⟨w3.heap.size, 2, none⟩ = some (.int .i64 0) := (by rw [k5 _ _ (by simp; omega)]; simp); simp [go_sem, c0, c1, c2])
      · first | (go_simp; done) | (have c0 : w5.cell? ⟨w3.heap.size, 0, none⟩ = some (.int .i64 0) := (by rw [k5 _ _ (by simp; omega)]; simp); have c1 : w5.cell? ⟨w3.heap.size, 1, none⟩ = some (.int .i64 0) := (by rw [k5 _ _ (by simp; omega)]; simp); have c2 : w5.cell? ⟨w3.heap.size, 2, none⟩ = some (.int .i64 0) := (by rw [k5 _ _ (by simp; omega)]; simp); simp [go_sem, c0, c1, c2])
      · first | (go_simp; done) | (have c0 : w5.cell? ⟨w3.heap.size, 0, none⟩ = some (.int .i64 0) := (by rw [k5 _ _ (by simp; omega)]; simp); have c1 : w5.cell? ⟨w3.heap.size, 1, none⟩ = some (.int .i64 0) := (by rw [k5 _ _ (by simp; omega)]; simp); have c2 : w5.cell? ⟨w3.heap.size, 2, none⟩ = some (.int .i64 0) := (by rw [k5 _ _ (by simp; omega)]; simp); simp [go_sem, c0, c1, c2])
      · first | (go_grown; done)
  case rest =>
    obtain ⟨b, rfl, hb, hlt, n0, n1, n2, hb4⟩ := hcut
    have hE4 := hE3.on hb4
    have hc4 := chain hc3 hb4
    have z4 : w.heap.size < wc.heap.size := Nat.lt_of_lt_of_le z3 hb4.size
    have s0 := keep_cell hb4 z3 r0
    have s1 := keep_cell hb4 z3 r1
    have s2 := keep_cell hb4 z3 r2
    have fr4 : ∀ o, wc.frozen? ⟨w.heap.size, o, none⟩ = false := fun o => by rw [(bcell hb4).2 _ _ z3]; exact fr3 o
    have hbw : w.heap.size < b := by omega
    clear hb4 r0 r1 r2 fr3 hgw hE3 hc3 z3
    go_wp2_with fail
    refine bodyPost_ret (v := .tuple #[nmV 0 0 0, .int .i64 9]) (by simp [results, Tryz.results129, go_sem, s0, s1, s2]) rfl ⟨rfl, ?_⟩
    repeat (refine Below.setCell ?_ (by simp) _)
    exact hc4
set_option linter.unusedSimpArgs false in
set_option maxHeartbeats 4000000 in
set_option maxRecDepth 20000 in
theorem read_atoi (c x : UInt8) (size gn ge : Int) (s F R Y : ByteArray) (fd : Bool) (w : World) (hE : EnvP w) (hF : F.toList.isEmpty = false) (hF1 : (1 : Int) ≤ F.size) (hR : F.extract 1 F.size = R) (hX : F.extract 0 1 = ⟨#[x]⟩)
    (hcut : ∀ w, Env w → Ret 67 #[.string s, .string ⟨#[c]⟩] w (.tuple #[.string F, .string Y, .bool fd]))
    (hat : ∀ w, EnvP w → Calls Tryz.prog 152 #[.string R] w fun e w' => ∃ (n : Int) (N : Nat), e = .returned (.tuple #[.int .i64 n, .iface 180 (.pointer (some ⟨N, 0, none⟩))]) ∧ Below w.heap.size w w') (hgp : ∀ w, EnvP w → Ret 153 #[.string Y] w (.tuple #[.int .u32 gn, .int .i64 ge]))
    (g0 : 0 ≤ gn) (g1 : gn ≤ 4294967295) :
    Ret 129 #[.string s, .string ⟨#[c]⟩, .int .i64 size] w (.tuple #[nmV 0 0 0, .int .i64 9]) := by
  have HCUT := Lib.hid hcut
  have HAT := Lib.hid hat
  have HGP := Lib.hid hgp
  clear hcut hat hgp
  go_enter Tryz.func129, Tryz.ntmps129
  go_wp2_with fail
  refine (HCUT.out _ (hE.alloc _).toEnv).mono ?_
  rintro e w1 ⟨rfl, hb1⟩
  have hE1 := hE.on (under hb1)
  have hc1 := under (w := w) hb1
  obtain ⟨k1, f1⟩ := bcell hb1
  have z1 : w.heap.size < w1.heap.size := by have := hb1.size; simp at this; omega
  clear hb1
  go_wp2_with fail
  refine (HAT.out _ hE1).mono ?_
  rintro e w2 ⟨sl, N, rfl, hb2⟩
  have hE2 := hE1.on hb2
  have hc2 := chain hc1 hb2
  obtain ⟨k2, f2⟩ := bcell hb2
  have z2 : w.heap.size < w2.heap.size := by have := hb2.size; omega
  clear hb2
  go_wp2_with fail
  refine (HGP.out _ hE2).mono ?_
  rintro e w3 ⟨rfl, hb3⟩
  have hE3 := hE2.on hb3
  have hc3 := chain hc2 hb3
  obtain ⟨k3, f3⟩ := bcell hb3
  have z3 : w.heap.size < w3.heap.size := by have := hb3.size; omega
  have r0 : w3.cell? ⟨w.heap.size, 0, none⟩ = some (.int .i64 0) := by rw [k3 _ _ z2, k2 _ _ z1, k1 _ _ (by simp)]; simp
  have r1 : w3.cell? ⟨w.heap.size, 1, none⟩ = some (.int .i64 0) := by rw [k3 _ _ z2, k2 _ _ z1, k1 _ _ (by simp)]; simp
  have r2 : w3.cell? ⟨w.heap.size, 2, none⟩ = some (.int .i64 0) := by rw [k3 _ _ z2, k2 _ _ z1, k1 _ _ (by simp)]; simp
  have fr3 : ∀ o, w3.frozen? ⟨w.heap.size, o, none⟩ = false := fun o => by rw [f3 _ _ z2, f2 _ _ z1, f1 _ _ (by simp)]; simp
  clear k1 k2 k3 f1 f2 f3 hb3 hE1 hE2 hc1 hc2 z1 z2
  go_wp2_with fail
  have hgw : IntKind.i64.wrap gn = gn := IntWalk.i64_in gn ⟨by omega, by omega⟩
  go_cut [15] (fun s15 wx => ∃ b, s15 = .pointer (some ⟨b, 0, none⟩) ∧ w3.heap.size ≤ b ∧ b < wx.heap.size ∧ wx.cell? ⟨b, 0, none⟩ = some (.int .i64 (kIdx x)) ∧ wx.cell? ⟨b, 1, none⟩ = some (.int .i64 sl) ∧ wx.cell? ⟨b, 2, none⟩ = some (.int .i64 gn) ∧ Below w3.heap.size w3 wx)
  case first =>
    go_region_with (first
      | (go_at_call 113; refine (letters_c _).mono ?_; rintro e w4 ⟨rfl, rfl⟩)
      | (go_at_call 131; refine (index_c x _ _ ?_ ?_ ?_ ?_).mono ?_; (focus (go_simp; done)); (focus (go_simp; done)); (focus (go_simp; done)); (focus (go_simp; done)); rintro e w5 ⟨rfl, hb5⟩; obtain ⟨k5, f5⟩ := bcell hb5; have z5 : w3.heap.size < w5.heap.size := (by have := hb5.size; simp at this; omega); have hB5 := under (w := w3) hb5; try (have z6 : w3.heap.size + 1 < w5.heap.size := (by have := hb5.size; simp at this; omega))))
    all_goals
      go_wp2_with fail
      go_meet
      refine ⟨_, rfl, ?_, ?_, ?_, ?_, ?_, ?_⟩
      · first | (simp; done) | omega | (simp; omega)
      · first | (simp; done) | omega | (simp; omega)
      · first | (go_simp; done) | (have c0 : w5.cell? ⟨w3.heap.size, 0, none⟩ = some (.int .i64 0) := (by rw [k5 _ _ (by simp; omega)]; simp); have c1 : w5.cell? ⟨w3.heap.size, 1, none⟩ = some (.int .i64 0) := (by rw [k5 _ _ (by simp; omega)]; simp); have c2 : w5.cell? ⟨w3.heap.size, 2, none⟩ = some (.int .i64 0) := (by rw [k5 _ _ (by simp; omega)]; simp); simp [go_sem, c0, c1, c2])
      · first | (go_simp; done) | (have c0 : w5.cell? ⟨w3.heap.size, 0, none⟩ = some (.int .i64 0) := (by rw [k5 _ _ (by simp; omega)]; simp); have c1 : w5.cell? ⟨w3.heap.size, 1, none⟩ = some (.int .i64 0) := (by rw [k5 _ _ (by simp; omega)]; simp); have c2 : w5.cell? ⟨w3.heap.size, 2, none⟩ = some (.int .i64 0) := (by rw [k5 _ _ (by simp; omega)]; simp); simp [go_sem, c0, c1, c2])
      · first | (go_simp; done) | (have c0 : w5.cell? ⟨w3.heap.size, 0, none⟩ = some (.int .i64 0) := (by rw [k5 _ _ (by simp; omega)]; simp); have c1 : w5.cell? ⟨w3.heap.size, 1, none⟩ = some (.int .i64 0) := (by rw [k5 _ _ (by simp; omega)]; simp); have c2 : w5.cell? ⟨w3.heap.size, 2, none⟩ = some (.int .i64 0) := (by rw [k5 _ _ (by simp; omega)]; simp); simp [go_sem, c0, c1, c2])
      · first | (go_grown; done)
  case rest =>
    obtain ⟨b, rfl, hb, hlt, n0, n1, n2, hb4⟩ := hcut
    have hE4 := hE3.on hb4
    have hc4 := chain hc3 hb4
    have z4 : w.heap.size < wc.heap.size := Nat.lt_of_lt_of_le z3 hb4.size
    have s0 := keep_cell hb4 z3 r0
    have s1 := keep_cell hb4 z3 r1
    have s2 := keep_cell hb4 z3 r2
    have fr4 : ∀ o, wc.frozen? ⟨w.heap.size, o, none⟩ = false := fun o => by rw [(bcell hb4).2 _ _ z3]; exact fr3 o
    have hbw : w.heap.size < b := by omega
    clear hb4 r0 r1 r2 fr3 hgw hE3 hc3 z3
    go_wp2_with fail
    refine bodyPost_ret (v := .tuple #[nmV 0 0 0, .int .i64 9]) (by simp [results, Tryz.results129, go_sem, s0, s1, s2]) rfl ⟨rfl, ?_⟩
    repeat (refine Below.setCell ?_ (by simp) _)
    exact hc4
theorem read_empty (c : UInt8) (size : Int) (s Y : ByteArray) (fd : Bool) (w : World) (hE : EnvP w)
    (hcut : ∀ w, Env w → Ret 67 #[.string s, .string ⟨#[c]⟩] w (.tuple #[.string ⟨#[]⟩, .string Y, .bool fd])) :
    Ret 129 #[.string s, .string ⟨#[c]⟩, .int .i64 size] w (.tuple #[nmV 0 0 0, .int .i64 9]) := by
  have HCUT := Lib.hid hcut
  clear hcut
  go_enter Tryz.func129, Tryz.ntmps129
  go_wp2_with fail
  refine (HCUT.out _ (hE.alloc _).toEnv).mono ?_
  rintro e w1 ⟨rfl, hb1⟩
  obtain ⟨k1, f1⟩ := bcell hb1
  go_wp2_with fail
  refine bodyPost_ret (v := .tuple #[nmV 0 0 0, .int .i64 9]) (by simp [results, Tryz.results129, go_sem, k1]) rfl ⟨rfl, ?_⟩
  repeat (refine Below.setCell ?_ (by simp) _)
  exact under hb1
end Go.Proofs.YtinlfheonlpceaaGreatDoor
