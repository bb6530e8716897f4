/- fields.field and fields.Parse: their contracts. -/
import Derived.Test.YtpegkcmomkdoeaaDoorFieldA
import Derived.Test.YtpegkcmomkdoeaaDoorFieldTxt2
import Derived.Test.YtpegkcmomkdoeaaDoorAtoi
namespace Go.Proofs.YtpegkcmomkdoeaaDoor
open Go.RowKit
set_option linter.unusedVariables false
set_option linter.unusedSimpArgs false

theorem cutF_c (s : ByteArray) (c : UInt8) (w : World) (hE : Env w) (hs : s.size ≤ 100000) :
    Ret 53 #[.string s, .string ⟨#[c]⟩] w (.tuple #[.string ⟨(Lib.cut s.data.toList [c]).1.toArray⟩, .string ⟨(Lib.cut s.data.toList [c]).2.1.toArray⟩, .bool (Lib.cut s.data.toList [c]).2.2]) :=
  (Tryd.strings_Cut_shaped s ⟨#[c]⟩ w hE.shp (by omega)).mono fun e w' ⟨he, n, hw⟩ => ⟨he, by rw [hw]; exact below_drewN (Below.refl _ _) n⟩
theorem cut_lens (l : List UInt8) (c : UInt8) : (Lib.cut l [c]).1.length ≤ l.length ∧ (Lib.cut l [c]).2.1.length ≤ l.length := by
  rcases mem_split l c with h | ⟨pre, post, h, rfl⟩
  · rw [cut_no l c h]; simp
  · rw [cut_at pre post c h]; simp; omega
set_option maxHeartbeats 8000000 in
set_option maxRecDepth 20000 in
theorem field_yes (s P Q : ByteArray) (f : Bool) (v gv : Int) (w : World) (hE : EnvP w) (hC : ∀ w, Env w → Ret 53 #[.string s, .string ⟨#[46]⟩] w (.tuple #[.string P, .string Q, .bool f]))
    (hA : ∀ w, Ret 54 #[.string P] w (.tuple #[.int .i64 v, .nilIface])) (hG : ∀ w, EnvP w → Ret 55 #[.string Q] w (.tuple #[.int .u32 gv, .int .i64 0])) : Ret 39 #[.string s] w (refV v gv) := by
  have HC := Lib.hid hC
  have HA := Lib.hid hA
  have HG := Lib.hid hG
  have hc0 := Below.refl w.heap.size w
  clear hC hA hG
  go_enter Tryd.func39, Tryd.ntmps39
  go_wp2_with fail
  refine Calls.mono (HC.out _ (hE.toEnv.on (by go_grown))) ?_
  rintro e w1 ⟨rfl, hb1⟩
  obtain ⟨kk, ff⟩ := bcell hb1
  have hc1 : Below w.heap.size w w1 := under hb1
  have k1_0 : ∀ o, w1.cell? ⟨w.heap.size, o, none⟩ = _ := fun o => kk _ o (by first | assumption | omega | (simp; done) | (simp; omega))
  have f1_0 : ∀ o, w1.frozen? ⟨w.heap.size, o, none⟩ = _ := fun o => ff _ o (by first | assumption | omega | (simp; done) | (simp; omega))
  have z1_0 : w.heap.size < w1.heap.size := by have := hb1.size; (try simp at this); omega
  clear kk ff
  have hs1 := hc1.size
  clear hc0 hb1
  go_wp2_with fail
  refine Calls.mono (HA.out _) ?_
  rintro e w2 ⟨rfl, hb2⟩
  obtain ⟨kk, ff⟩ := bcell hb2
  have hc2 : Below w.heap.size w w2 := under hb2
  have k2_0 : ∀ o, w2.cell? ⟨w.heap.size, o, none⟩ = _ := fun o => kk _ o (by first | assumption | omega | (simp; done) | (simp; omega))
  have f2_0 : ∀ o, w2.frozen? ⟨w.heap.size, o, none⟩ = _ := fun o => ff _ o (by first | assumption | omega | (simp; done) | (simp; omega))
  have z2_0 : w.heap.size < w2.heap.size := by have := hb2.size; (try simp at this); omega
  clear kk ff
  have hs2 := hc2.size
  clear hc1 hb2
  go_wp2_with fail
  refine Calls.mono (HG.out _ (hE.on (by go_grown))) ?_
  rintro e w3 ⟨rfl, hb3⟩
  obtain ⟨kk, ff⟩ := bcell hb3
  have hc3 : Below w.heap.size w w3 := under hb3
  have k3_0 : ∀ o, w3.cell? ⟨w.heap.size, o, none⟩ = _ := fun o => kk _ o (by first | assumption | omega | (simp; done) | (simp; omega))
  have f3_0 : ∀ o, w3.frozen? ⟨w.heap.size, o, none⟩ = _ := fun o => ff _ o (by first | assumption | omega | (simp; done) | (simp; omega))
  have z3_0 : w.heap.size < w3.heap.size := by have := hb3.size; (try simp at this); omega
  clear kk ff
  have hs3 := hc3.size
  clear hc2 hb3
  go_wp2_with fail
  refine bodyPost_ret (v := refV v gv) (by simp [results, Tryd.results39, go_sem, k3_0, k2_0, k1_0, z3_0]) rfl ⟨rfl, by go_grown⟩
set_option maxHeartbeats 8000000 in
set_option maxRecDepth 20000 in
theorem field_nog (s P Q : ByteArray) (f : Bool) (v gv : Int) (w : World) (hE : EnvP w) (hC : ∀ w, Env w → Ret 53 #[.string s, .string ⟨#[46]⟩] w (.tuple #[.string P, .string Q, .bool f]))
    (hA : ∀ w, Ret 54 #[.string P] w (.tuple #[.int .i64 v, .nilIface])) (hG : ∀ w, EnvP w → Ret 55 #[.string Q] w (.tuple #[.int .u32 gv, .int .i64 9])) : Ret 39 #[.string s] w (refV 0 0) := by
  have HC := Lib.hid hC
  have HA := Lib.hid hA
  have HG := Lib.hid hG
  have hc0 := Below.refl w.heap.size w
  clear hC hA hG
  go_enter Tryd.func39, Tryd.ntmps39
  go_wp2_with fail
  refine Calls.mono (HC.out _ (hE.toEnv.on (by go_grown))) ?_
  rintro e w1 ⟨rfl, hb1⟩
  obtain ⟨kk, ff⟩ := bcell hb1
  have hc1 : Below w.heap.size w w1 := under hb1
  have k1_0 : ∀ o, w1.cell? ⟨w.heap.size, o, none⟩ = _ := fun o => kk _ o (by first | assumption | omega | (simp; done) | (simp; omega))
  have f1_0 : ∀ o, w1.frozen? ⟨w.heap.size, o, none⟩ = _ := fun o => ff _ o (by first | assumption | omega | (simp; done) | (simp; omega))
  have z1_0 : w.heap.size < w1.heap.size := by have := hb1.size; (try simp at this); omega
  clear kk ff
  have hs1 := hc1.size
  clear hc0 hb1
  go_wp2_with fail
  refine Calls.mono (HA.out _) ?_
  rintro e w2 ⟨rfl, hb2⟩
  obtain ⟨kk, ff⟩ := bcell hb2
  have hc2 : Below w.heap.size w w2 := under hb2
  have k2_0 : ∀ o, w2.cell? ⟨w.heap.size, o, none⟩ = _ := fun o => kk _ o (by first | assumption | omega | (simp; done) | (simp; omega))
  have f2_0 : ∀ o, w2.frozen? ⟨w.heap.size, o, none⟩ = _ := fun o => ff _ o (by first | assumption | omega | (simp; done) | (simp; omega))
  have z2_0 : w.heap.size < w2.heap.size := by have := hb2.size; (try simp at this); omega
  clear kk ff
  have hs2 := hc2.size
  clear hc1 hb2
  go_wp2_with fail
  refine Calls.mono (HG.out _ (hE.on (by go_grown))) ?_
  rintro e w3 ⟨rfl, hb3⟩
  obtain ⟨kk, ff⟩ := bcell hb3
  have hc3 : Below w.heap.size w w3 := under hb3
  have k3_0 : ∀ o, w3.cell? ⟨w.heap.size, o, none⟩ = _ := fun o => kk _ o (by first | assumption | omega | (simp; done) | (simp; omega))
  have f3_0 : ∀ o, w3.frozen? ⟨w.heap.size, o, none⟩ = _ := fun o => ff _ o (by first | assumption | omega | (simp; done) | (simp; omega))
  have z3_0 : w.heap.size < w3.heap.size := by have := hb3.size; (try simp at this); omega
  clear kk ff
  have hs3 := hc3.size
  clear hc2 hb3
  go_wp2_with fail
  refine bodyPost_ret (v := refV 0 0) (by simp [results, Tryd.results39, go_sem, k3_0, k2_0, k1_0, z3_0]) rfl ⟨rfl, by go_grown⟩
set_option maxHeartbeats 8000000 in
set_option maxRecDepth 20000 in
theorem field_noa (s P Q : ByteArray) (f : Bool) (e gv : Int) (w : World) (hE : EnvP w) (hC : ∀ w, Env w → Ret 53 #[.string s, .string ⟨#[46]⟩] w (.tuple #[.string P, .string Q, .bool f]))
    (hA : ∀ w, EnvP w → Calls Tryd.prog 54 #[.string P] w fun e w' => ∃ (n : Int) (N : Nat), e = .returned (.tuple #[.int .i64 n, .iface 138 (.pointer (some ⟨N, 0, none⟩))]) ∧ Below w.heap.size w w') (hG : ∀ w, EnvP w → Ret 55 #[.string Q] w (.tuple #[.int .u32 gv, .int .i64 e])) : Ret 39 #[.string s] w (refV 0 0) := by
  have HC := Lib.hid hC
  have HA := Lib.hid hA
  have HG := Lib.hid hG
  have hc0 := Below.refl w.heap.size w
  clear hC hA hG
  go_enter Tryd.func39, Tryd.ntmps39
  go_wp2_with fail
  refine Calls.mono (HC.out _ (hE.toEnv.on (by go_grown))) ?_
  rintro e w1 ⟨rfl, hb1⟩
  obtain ⟨kk, ff⟩ := bcell hb1
  have hc1 : Below w.heap.size w w1 := under hb1
  have k1_0 : ∀ o, w1.cell? ⟨w.heap.size, o, none⟩ = _ := fun o => kk _ o (by first | assumption | omega | (simp; done) | (simp; omega))
  have f1_0 : ∀ o, w1.frozen? ⟨w.heap.size, o, none⟩ = _ := fun o => ff _ o (by first | assumption | omega | (simp; done) | (simp; omega))
  have z1_0 : w.heap.size < w1.heap.size := by have := hb1.size; (try simp at this); omega
  clear kk ff
  have hs1 := hc1.size
  clear hc0 hb1
  go_wp2_with fail
  refine Calls.mono (HA.out _ (hE.on (by go_grown))) ?_
  rintro e w2 ⟨nn, N, rfl, hb2⟩
  obtain ⟨kk, ff⟩ := bcell hb2
  have hc2 : Below w.heap.size w w2 := under hb2
  have k2_0 : ∀ o, w2.cell? ⟨w.heap.size, o, none⟩ = _ := fun o => kk _ o (by first | assumption | omega | (simp; done) | (simp; omega))
  have f2_0 : ∀ o, w2.frozen? ⟨w.heap.size, o, none⟩ = _ := fun o => ff _ o (by first | assumption | omega | (simp; done) | (simp; omega))
  have z2_0 : w.heap.size < w2.heap.size := by have := hb2.size; (try simp at this); omega
  clear kk ff
  have hs2 := hc2.size
  clear hc1 hb2
  go_wp2_with fail
  refine Calls.mono (HG.out _ (hE.on (by go_grown))) ?_
  rintro e w3 ⟨rfl, hb3⟩
  obtain ⟨kk, ff⟩ := bcell hb3
  have hc3 : Below w.heap.size w w3 := under hb3
  have k3_0 : ∀ o, w3.cell? ⟨w.heap.size, o, none⟩ = _ := fun o => kk _ o (by first | assumption | omega | (simp; done) | (simp; omega))
  have f3_0 : ∀ o, w3.frozen? ⟨w.heap.size, o, none⟩ = _ := fun o => ff _ o (by first | assumption | omega | (simp; done) | (simp; omega))
  have z3_0 : w.heap.size < w3.heap.size := by have := hb3.size; (try simp at this); omega
  clear kk ff
  have hs3 := hc3.size
  clear hc2 hb3
  go_wp2_with fail
  refine bodyPost_ret (v := refV 0 0) (by simp [results, Tryd.results39, go_sem, k3_0, k2_0, k1_0, z3_0]) rfl ⟨rfl, by go_grown⟩
theorem field_c (s : ByteArray) (hs : s.size ≤ 100000) (w : World) (hE : EnvP w) : Ret 39 #[.string s] w (rfV (fieldV s.data.toList)) := by
  have hcut := fun w hE => cutF_c s 46 w hE hs
  obtain ⟨l1, l2⟩ := cut_lens s.data.toList 46
  unfold fieldV
  generalize Lib.cut s.data.toList [46] = t at hcut l1 l2 ⊢
  obtain ⟨p, q, f⟩ := t
  simp only at hcut l1 l2 ⊢
  rw [len_bytes] at l1 l2
  have hg := fun w hE => parse_any ⟨q.toArray⟩ w hE (by show q.toArray.size ≤ _; rw [List.size_toArray]; omega)
  have hq : (⟨q.toArray⟩ : ByteArray).data.toList = q := by simp
  rw [hq] at hg
  have hp : (⟨p.toArray⟩ : ByteArray).data.toList = p := by simp
  have hps : (⟨p.toArray⟩ : ByteArray).size ≤ 100000 := by show p.toArray.size ≤ _; rw [List.size_toArray]; omega
  cases ha : Lib.atoiAll p with
  | ok v =>
    have hA := fun w => atoi_ok ⟨p.toArray⟩ hps v (by rw [hp]; exact ha) w
    simp only
    cases hi : isGen q
    · rw [(gParse_not hi).1, (gParse_not hi).2] at hg
      exact field_nog s _ _ f v _ w hE hcut hA hg
    · rw [show gParseE q = 0 by unfold gParseE; rw [hi]; rfl] at hg
      exact field_yes s _ _ f v _ w hE hcut hA hg
  | _ => exact field_noa s _ _ f _ _ w hE hcut (fun w hE => atoi_bad ⟨p.toArray⟩ hps (by rw [hp, ha]; intro v h; cases h) w hE) hg
end Go.Proofs.YtpegkcmomkdoeaaDoor
