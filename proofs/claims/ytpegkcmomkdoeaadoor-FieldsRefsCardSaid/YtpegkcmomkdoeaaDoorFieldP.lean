/- fields.Parse: its contract. -/
import Derived.Test.YtpegkcmomkdoeaaDoorFieldB
namespace Go.Proofs.YtpegkcmomkdoeaaDoor
open Go.RowKit
set_option linter.unusedVariables false
set_option linter.unusedSimpArgs false
theorem splitF_c (x : ByteArray) (hs : x.size ≤ 100000) (w : World) (hE : Env w) :
    Calls Tryd.prog 29 #[.string x, .string ⟨#[32]⟩] w fun e w' => e = .returned (.slice (some ⟨w.heap.size, 0, none⟩) (cutAll 32 x.data.toList).length (cutAll 32 x.data.toList).length) ∧
      w' = w.alloc (.cells ((cutAll 32 x.data.toList).map fun l => Value.string ⟨l.toArray⟩).toArray 9) := by
  have h := Tryd.strings_Split_shaped x ⟨#[32]⟩ w hE.shp (by omega) (by decide)
  obtain ⟨e1, e2⟩ := splitB_cutAll 32 x.size x (Nat.le_refl _)
  rw [e2] at h
  have e3 : (Lib.splitB ⟨#[32]⟩ 0 (Lib.countB x ⟨#[32]⟩) x).map Value.string = (cutAll 32 x.data.toList).map fun l => Value.string ⟨l.toArray⟩ := by
    rw [← e1, List.map_map]
    rfl
  rw [e3] at h
  exact h
abbrev strL (l : List UInt8) : Value := .string ⟨l.toArray⟩
abbrev hndl : ByteArray := ⟨#[104, 97, 110, 100, 108, 101]⟩
set_option maxHeartbeats 16000000 in
set_option maxRecDepth 20000 in
theorem fparse_0 (s : ByteArray) (x0 : ByteArray) (hb : Bool) (e : Int) (t : ByteArray) (w : World) (hE : EnvP w)
    (hS : ∀ w, Env w → Calls Tryd.prog 29 #[.string s, .string ⟨#[32]⟩] w fun e w' => e = .returned (.slice (some ⟨w.heap.size, 0, none⟩) 1 1) ∧ w' = w.alloc (.cells #[.string x0] 9))
    (hq : (x0.toList == [104, 97, 110, 100, 108, 101]) = hb) 
    (hT : ∀ w, Env w → Ret 23 #[obV 0 0 0 0 0 0 0 0 0 hb] w (.tuple #[.string t, .int .i64 e])) (hc : e = 2 ∨ (e = 0 ∧ t ≠ s) ∨ (e = 0 ∧ t = s)) (V : Value) (hV : V = if e = 0 ∧ t = s then .tuple #[obV 0 0 0 0 0 0 0 0 0 hb, .int .i64 0] else .tuple #[ob0, .int .i64 9]) :
    Ret 25 #[.string s] w V := by
  have HV := Lib.hid hV
  have HS := Lib.hid hS
  have HT := Lib.hid hT
  have HC := Lib.hid hc

  have hc0 := Below.refl w.heap.size w
  clear hS hT hc hV 
  go_enter Tryd.func25, Tryd.ntmps25
  go_wp2_with fail
  refine (HS.out _ (hE.toEnv.on (by go_grown))).mono ?_
  rintro e1 w0 ⟨rfl, rfl⟩
  go_wp2_with fail
  refine wp_loop_rounds 1 ?_
  rw [rounds_succ]
  go_wp2_with fail
  refine Calls.mono (HT.out _ (hE.toEnv.on (by go_grown))) ?_
  rintro e w1 ⟨rfl, hb1⟩
  obtain ⟨kk, ff⟩ := bcell hb1
  have hc1 : Below w.heap.size w w1 := under hb1
  have k1_0 : ∀ o, w1.cell? ⟨w.heap.size, o, none⟩ = _ := fun o => kk _ o (by first | assumption | omega | (simp; done) | (simp; omega))
  have f1_0 : ∀ o, w1.frozen? ⟨w.heap.size, o, none⟩ = _ := fun o => ff _ o (by first | assumption | omega | (simp; done) | (simp; omega))
  have z1_0 : w.heap.size < w1.heap.size := by have := hb1.size; (try simp at this); omega
  have k1_1 : ∀ o, w1.cell? ⟨w.heap.size+1, o, none⟩ = _ := fun o => kk _ o (by first | assumption | omega | (simp; done) | (simp; omega))
  have f1_1 : ∀ o, w1.frozen? ⟨w.heap.size+1, o, none⟩ = _ := fun o => ff _ o (by first | assumption | omega | (simp; done) | (simp; omega))
  have z1_1 : w.heap.size+1 < w1.heap.size := by have := hb1.size; (try simp at this); omega
  have k1_2 : ∀ o, w1.cell? ⟨w.heap.size+1+1, o, none⟩ = _ := fun o => kk _ o (by first | assumption | omega | (simp; done) | (simp; omega))
  have f1_2 : ∀ o, w1.frozen? ⟨w.heap.size+1+1, o, none⟩ = _ := fun o => ff _ o (by first | assumption | omega | (simp; done) | (simp; omega))
  have z1_2 : w.heap.size+1+1 < w1.heap.size := by have := hb1.size; (try simp at this); omega
  clear kk ff
  have hs1 := hc1.size
  clear hc0 hb1
  have y0 : ∀ j, w1.cell? ⟨w.heap.size, j, none⟩ = ob0C[j]? := fun j => by go_simp
  rcases HC.out with rfl | ⟨rfl, hne⟩ | ⟨rfl, rfl⟩
  · have hv : V = .tuple #[ob0, .int .i64 9] := by rw [HV.out, if_neg (by simp)]
    have HW := Lib.hid hv
    clear hv
    go_wp2_with fail
    refine bodyPost_ret (v := .tuple #[ob0, .int .i64 9]) (by simp [results, Tryd.results25, go_sem, y0, z1_0]) rfl ⟨by rw [HW.out], by go_grown⟩
  · have hv : V = .tuple #[ob0, .int .i64 9] := by rw [HV.out, if_neg (fun h => hne h.2)]
    have HW := Lib.hid hv
    clear hv
    have hn1 := str_beq_ne hne
    have hn2 : (t.toList != s.toList) = true := by rw [bne, hn1]; rfl
    clear hne
    go_wp2_with fail
    refine bodyPost_ret (v := .tuple #[ob0, .int .i64 9]) (by simp [results, Tryd.results25, go_sem, y0, z1_0]) rfl ⟨by rw [HW.out], by go_grown⟩
  · have hv : V = .tuple #[obV 0 0 0 0 0 0 0 0 0 hb, .int .i64 0] := by rw [HV.out, if_pos ⟨rfl, rfl⟩]
    have HW := Lib.hid hv
    clear hv
    go_wp2_with fail
    refine bodyPost_ret (v := .tuple #[obV 0 0 0 0 0 0 0 0 0 hb, .int .i64 0]) (by simp [results, Tryd.results25, go_sem, y0, z1_0]) rfl ⟨by rw [HW.out], by go_grown⟩
set_option maxHeartbeats 16000000 in
set_option maxRecDepth 20000 in
theorem fparse_1 (s : ByteArray) (x0 x1 : ByteArray) (hb : Bool) (s0 g0 e : Int) (t : ByteArray) (w : World) (hE : EnvP w)
    (hS : ∀ w, Env w → Calls Tryd.prog 29 #[.string s, .string ⟨#[32]⟩] w fun e w' => e = .returned (.slice (some ⟨w.heap.size, 0, none⟩) 2 2) ∧ w' = w.alloc (.cells #[.string x0, .string x1] 9))
    (hq : (x0.toList == [104, 97, 110, 100, 108, 101]) = hb) (hf0 : ∀ w, EnvP w → Ret 39 #[.string x1] w (refV s0 g0))
    (hT : ∀ w, Env w → Ret 23 #[obV 1 s0 g0 0 0 0 0 0 0 hb] w (.tuple #[.string t, .int .i64 e])) (hc : e = 2 ∨ (e = 0 ∧ t ≠ s) ∨ (e = 0 ∧ t = s)) (V : Value) (hV : V = if e = 0 ∧ t = s then .tuple #[obV 1 s0 g0 0 0 0 0 0 0 hb, .int .i64 0] else .tuple #[ob0, .int .i64 9]) :
    Ret 25 #[.string s] w V := by
  have HV := Lib.hid hV
  have HS := Lib.hid hS
  have HT := Lib.hid hT
  have HC := Lib.hid hc
  have HF0 := Lib.hid hf0
  have hc0 := Below.refl w.heap.size w
  clear hS hT hc hV hf0
  go_enter Tryd.func25, Tryd.ntmps25
  go_wp2_with fail
  refine (HS.out _ (hE.toEnv.on (by go_grown))).mono ?_
  rintro e1 w0 ⟨rfl, rfl⟩
  go_wp2_with fail
  refine wp_loop_rounds 2 ?_
  rw [rounds_succ]
  go_wp2_with fail
  refine Calls.mono (HF0.out _ (hE.on (by go_grown))) ?_
  rintro e w1 ⟨rfl, hb1⟩
  obtain ⟨kk, ff⟩ := bcell hb1
  have hc1 : Below w.heap.size w w1 := under hb1
  have k1_0 : ∀ o, w1.cell? ⟨w.heap.size, o, none⟩ = _ := fun o => kk _ o (by first | assumption | omega | (simp; done) | (simp; omega))
  have f1_0 : ∀ o, w1.frozen? ⟨w.heap.size, o, none⟩ = _ := fun o => ff _ o (by first | assumption | omega | (simp; done) | (simp; omega))
  have z1_0 : w.heap.size < w1.heap.size := by have := hb1.size; (try simp at this); omega
  have k1_1 : ∀ o, w1.cell? ⟨w.heap.size+1, o, none⟩ = _ := fun o => kk _ o (by first | assumption | omega | (simp; done) | (simp; omega))
  have f1_1 : ∀ o, w1.frozen? ⟨w.heap.size+1, o, none⟩ = _ := fun o => ff _ o (by first | assumption | omega | (simp; done) | (simp; omega))
  have z1_1 : w.heap.size+1 < w1.heap.size := by have := hb1.size; (try simp at this); omega
  have k1_2 : ∀ o, w1.cell? ⟨w.heap.size+1+1, o, none⟩ = _ := fun o => kk _ o (by first | assumption | omega | (simp; done) | (simp; omega))
  have f1_2 : ∀ o, w1.frozen? ⟨w.heap.size+1+1, o, none⟩ = _ := fun o => ff _ o (by first | assumption | omega | (simp; done) | (simp; omega))
  have z1_2 : w.heap.size+1+1 < w1.heap.size := by have := hb1.size; (try simp at this); omega
  clear kk ff
  have hs1 := hc1.size
  clear hc0 hb1
  go_wp2_with fail
  rw [rounds_succ]
  go_wp2_with fail
  refine Calls.mono (HT.out _ (hE.toEnv.on (by go_grown))) ?_
  rintro e w2 ⟨rfl, hb2⟩
  obtain ⟨kk, ff⟩ := bcell hb2
  have hc2 : Below w.heap.size w w2 := under hb2
  have k2_0 : ∀ o, w2.cell? ⟨w.heap.size, o, none⟩ = _ := fun o => kk _ o (by first | assumption | omega | (simp; done) | (simp; omega))
  have f2_0 : ∀ o, w2.frozen? ⟨w.heap.size, o, none⟩ = _ := fun o => ff _ o (by first | assumption | omega | (simp; done) | (simp; omega))
  have z2_0 : w.heap.size < w2.heap.size := by have := hb2.size; (try simp at this); omega
  have k2_1 : ∀ o, w2.cell? ⟨w.heap.size+1, o, none⟩ = _ := fun o => kk _ o (by first | assumption | omega | (simp; done) | (simp; omega))
  have f2_1 : ∀ o, w2.frozen? ⟨w.heap.size+1, o, none⟩ = _ := fun o => ff _ o (by first | assumption | omega | (simp; done) | (simp; omega))
  have z2_1 : w.heap.size+1 < w2.heap.size := by have := hb2.size; (try simp at this); omega
  have k2_2 : ∀ o, w2.cell? ⟨w.heap.size+1+1, o, none⟩ = _ := fun o => kk _ o (by first | assumption | omega | (simp; done) | (simp; omega))
  have f2_2 : ∀ o, w2.frozen? ⟨w.heap.size+1+1, o, none⟩ = _ := fun o => ff _ o (by first | assumption | omega | (simp; done) | (simp; omega))
  have z2_2 : w.heap.size+1+1 < w2.heap.size := by have := hb2.size; (try simp at this); omega
  clear kk ff
  have hs2 := hc2.size
  clear hc1 hb2
  have y0 : ∀ j, w2.cell? ⟨w.heap.size, j, none⟩ = ob0C[j]? := fun j => by go_simp
  rcases HC.out with rfl | ⟨rfl, hne⟩ | ⟨rfl, rfl⟩
  · have hv : V = .tuple #[ob0, .int .i64 9] := by rw [HV.out, if_neg (by simp)]
    have HW := Lib.hid hv
    clear hv
    go_wp2_with fail
    refine bodyPost_ret (v := .tuple #[ob0, .int .i64 9]) (by simp [results, Tryd.results25, go_sem, y0, z2_0]) rfl ⟨by rw [HW.out], by go_grown⟩
  · have hv : V = .tuple #[ob0, .int .i64 9] := by rw [HV.out, if_neg (fun h => hne h.2)]
    have HW := Lib.hid hv
    clear hv
    have hn1 := str_beq_ne hne
    have hn2 : (t.toList != s.toList) = true := by rw [bne, hn1]; rfl
    clear hne
    go_wp2_with fail
    refine bodyPost_ret (v := .tuple #[ob0, .int .i64 9]) (by simp [results, Tryd.results25, go_sem, y0, z2_0]) rfl ⟨by rw [HW.out], by go_grown⟩
  · have hv : V = .tuple #[obV 1 s0 g0 0 0 0 0 0 0 hb, .int .i64 0] := by rw [HV.out, if_pos ⟨rfl, rfl⟩]
    have HW := Lib.hid hv
    clear hv
    go_wp2_with fail
    refine bodyPost_ret (v := .tuple #[obV 1 s0 g0 0 0 0 0 0 0 hb, .int .i64 0]) (by simp [results, Tryd.results25, go_sem, y0, z2_0]) rfl ⟨by rw [HW.out], by go_grown⟩
set_option maxHeartbeats 16000000 in
set_option maxRecDepth 20000 in
theorem fparse_2 (s : ByteArray) (x0 x1 x2 : ByteArray) (hb : Bool) (s0 g0 s1 g1 e : Int) (t : ByteArray) (w : World) (hE : EnvP w)
    (hS : ∀ w, Env w → Calls Tryd.prog 29 #[.string s, .string ⟨#[32]⟩] w fun e w' => e = .returned (.slice (some ⟨w.heap.size, 0, none⟩) 3 3) ∧ w' = w.alloc (.cells #[.string x0, .string x1, .string x2] 9))
    (hq : (x0.toList == [104, 97, 110, 100, 108, 101]) = hb) (hf0 : ∀ w, EnvP w → Ret 39 #[.string x1] w (refV s0 g0)) (hf1 : ∀ w, EnvP w → Ret 39 #[.string x2] w (refV s1 g1))
    (hT : ∀ w, Env w → Ret 23 #[obV 2 s0 g0 s1 g1 0 0 0 0 hb] w (.tuple #[.string t, .int .i64 e])) (hc : e = 2 ∨ (e = 0 ∧ t ≠ s) ∨ (e = 0 ∧ t = s)) (V : Value) (hV : V = if e = 0 ∧ t = s then .tuple #[obV 2 s0 g0 s1 g1 0 0 0 0 hb, .int .i64 0] else .tuple #[ob0, .int .i64 9]) :
    Ret 25 #[.string s] w V := by
  have HV := Lib.hid hV
  have HS := Lib.hid hS
  have HT := Lib.hid hT
  have HC := Lib.hid hc
  have HF0 := Lib.hid hf0
  have HF1 := Lib.hid hf1
  have hc0 := Below.refl w.heap.size w
  clear hS hT hc hV hf0 hf1
  go_enter Tryd.func25, Tryd.ntmps25
  go_wp2_with fail
  refine (HS.out _ (hE.toEnv.on (by go_grown))).mono ?_
  rintro e1 w0 ⟨rfl, rfl⟩
  go_wp2_with fail
  refine wp_loop_rounds 3 ?_
  rw [rounds_succ]
  go_wp2_with fail
  refine Calls.mono (HF0.out _ (hE.on (by go_grown))) ?_
  rintro e w1 ⟨rfl, hb1⟩
  obtain ⟨kk, ff⟩ := bcell hb1
  have hc1 : Below w.heap.size w w1 := under hb1
  have k1_0 : ∀ o, w1.cell? ⟨w.heap.size, o, none⟩ = _ := fun o => kk _ o (by first | assumption | omega | (simp; done) | (simp; omega))
  have f1_0 : ∀ o, w1.frozen? ⟨w.heap.size, o, none⟩ = _ := fun o => ff _ o (by first | assumption | omega | (simp; done) | (simp; omega))
  have z1_0 : w.heap.size < w1.heap.size := by have := hb1.size; (try simp at this); omega
  have k1_1 : ∀ o, w1.cell? ⟨w.heap.size+1, o, none⟩ = _ := fun o => kk _ o (by first | assumption | omega | (simp; done) | (simp; omega))
  have f1_1 : ∀ o, w1.frozen? ⟨w.heap.size+1, o, none⟩ = _ := fun o => ff _ o (by first | assumption | omega | (simp; done) | (simp; omega))
  have z1_1 : w.heap.size+1 < w1.heap.size := by have := hb1.size; (try simp at this); omega
  have k1_2 : ∀ o, w1.cell? ⟨w.heap.size+1+1, o, none⟩ = _ := fun o => kk _ o (by first | assumption | omega | (simp; done) | (simp; omega))
  have f1_2 : ∀ o, w1.frozen? ⟨w.heap.size+1+1, o, none⟩ = _ := fun o => ff _ o (by first | assumption | omega | (simp; done) | (simp; omega))
  have z1_2 : w.heap.size+1+1 < w1.heap.size := by have := hb1.size; (try simp at this); omega
  clear kk ff
  have hs1 := hc1.size
  clear hc0 hb1
  go_wp2_with fail
  rw [rounds_succ]
  go_wp2_with fail
  refine Calls.mono (HF1.out _ (hE.on (by go_grown))) ?_
  rintro e w2 ⟨rfl, hb2⟩
  obtain ⟨kk, ff⟩ := bcell hb2
  have hc2 : Below w.heap.size w w2 := under hb2
  have k2_0 : ∀ o, w2.cell? ⟨w.heap.size, o, none⟩ = _ := fun o => kk _ o (by first | assumption | omega | (simp; done) | (simp; omega))
  have f2_0 : ∀ o, w2.frozen? ⟨w.heap.size, o, none⟩ = _ := fun o => ff _ o (by first | assumption | omega | (simp; done) | (simp; omega))
  have z2_0 : w.heap.size < w2.heap.size := by have := hb2.size; (try simp at this); omega
  have k2_1 : ∀ o, w2.cell? ⟨w.heap.size+1, o, none⟩ = _ := fun o => kk _ o (by first | assumption | omega | (simp; done) | (simp; omega))
  have f2_1 : ∀ o, w2.frozen? ⟨w.heap.size+1, o, none⟩ = _ := fun o => ff _ o (by first | assumption | omega | (simp; done) | (simp; omega))
  have z2_1 : w.heap.size+1 < w2.heap.size := by have := hb2.size; (try simp at this); omega
  have k2_2 : ∀ o, w2.cell? ⟨w.heap.size+1+1, o, none⟩ = _ := fun o => kk _ o (by first | assumption | omega | (simp; done) | (simp; omega))
  have f2_2 : ∀ o, w2.frozen? ⟨w.heap.size+1+1, o, none⟩ = _ := fun o => ff _ o (by first | assumption | omega | (simp; done) | (simp; omega))
  have z2_2 : w.heap.size+1+1 < w2.heap.size := by have := hb2.size; (try simp at this); omega
  clear kk ff
  have hs2 := hc2.size
  clear hc1 hb2
  go_wp2_with fail
  rw [rounds_succ]
  go_wp2_with fail
  refine Calls.mono (HT.out _ (hE.toEnv.on (by go_grown))) ?_
  rintro e w3 ⟨rfl, hb3⟩
  obtain ⟨kk, ff⟩ := bcell hb3
  have hc3 : Below w.heap.size w w3 := under hb3
  have k3_0 : ∀ o, w3.cell? ⟨w.heap.size, o, none⟩ = _ := fun o => kk _ o (by first | assumption | omega | (simp; done) | (simp; omega))
  have f3_0 : ∀ o, w3.frozen? ⟨w.heap.size, o, none⟩ = _ := fun o => ff _ o (by first | assumption | omega | (simp; done) | (simp; omega))
  have z3_0 : w.heap.size < w3.heap.size := by have := hb3.size; (try simp at this); omega
  have k3_1 : ∀ o, w3.cell? ⟨w.heap.size+1, o, none⟩ = _ := fun o => kk _ o (by first | assumption | omega | (simp; done) | (simp; omega))
  have f3_1 : ∀ o, w3.frozen? ⟨w.heap.size+1, o, none⟩ = _ := fun o => ff _ o (by first | assumption | omega | (simp; done) | (simp; omega))
  have z3_1 : w.heap.size+1 < w3.heap.size := by have := hb3.size; (try simp at this); omega
  have k3_2 : ∀ o, w3.cell? ⟨w.heap.size+1+1, o, none⟩ = _ := fun o => kk _ o (by first | assumption | omega | (simp; done) | (simp; omega))
  have f3_2 : ∀ o, w3.frozen? ⟨w.heap.size+1+1, o, none⟩ = _ := fun o => ff _ o (by first | assumption | omega | (simp; done) | (simp; omega))
  have z3_2 : w.heap.size+1+1 < w3.heap.size := by have := hb3.size; (try simp at this); omega
  clear kk ff
  have hs3 := hc3.size
  clear hc2 hb3
  have y0 : ∀ j, w3.cell? ⟨w.heap.size, j, none⟩ = ob0C[j]? := fun j => by go_simp
  rcases HC.out with rfl | ⟨rfl, hne⟩ | ⟨rfl, rfl⟩
  · have hv : V = .tuple #[ob0, .int .i64 9] := by rw [HV.out, if_neg (by simp)]
    have HW := Lib.hid hv
    clear hv
    go_wp2_with fail
    refine bodyPost_ret (v := .tuple #[ob0, .int .i64 9]) (by simp [results, Tryd.results25, go_sem, y0, z3_0]) rfl ⟨by rw [HW.out], by go_grown⟩
  · have hv : V = .tuple #[ob0, .int .i64 9] := by rw [HV.out, if_neg (fun h => hne h.2)]
    have HW := Lib.hid hv
    clear hv
    have hn1 := str_beq_ne hne
    have hn2 : (t.toList != s.toList) = true := by rw [bne, hn1]; rfl
    clear hne
    go_wp2_with fail
    refine bodyPost_ret (v := .tuple #[ob0, .int .i64 9]) (by simp [results, Tryd.results25, go_sem, y0, z3_0]) rfl ⟨by rw [HW.out], by go_grown⟩
  · have hv : V = .tuple #[obV 2 s0 g0 s1 g1 0 0 0 0 hb, .int .i64 0] := by rw [HV.out, if_pos ⟨rfl, rfl⟩]
    have HW := Lib.hid hv
    clear hv
    go_wp2_with fail
    refine bodyPost_ret (v := .tuple #[obV 2 s0 g0 s1 g1 0 0 0 0 hb, .int .i64 0]) (by simp [results, Tryd.results25, go_sem, y0, z3_0]) rfl ⟨by rw [HW.out], by go_grown⟩
set_option maxHeartbeats 16000000 in
set_option maxRecDepth 20000 in
theorem fparse_3 (s : ByteArray) (x0 x1 x2 x3 : ByteArray) (hb : Bool) (s0 g0 s1 g1 s2 g2 e : Int) (t : ByteArray) (w : World) (hE : EnvP w)
    (hS : ∀ w, Env w → Calls Tryd.prog 29 #[.string s, .string ⟨#[32]⟩] w fun e w' => e = .returned (.slice (some ⟨w.heap.size, 0, none⟩) 4 4) ∧ w' = w.alloc (.cells #[.string x0, .string x1, .string x2, .string x3] 9))
    (hq : (x0.toList == [104, 97, 110, 100, 108, 101]) = hb) (hf0 : ∀ w, EnvP w → Ret 39 #[.string x1] w (refV s0 g0)) (hf1 : ∀ w, EnvP w → Ret 39 #[.string x2] w (refV s1 g1)) (hf2 : ∀ w, EnvP w → Ret 39 #[.string x3] w (refV s2 g2))
    (hT : ∀ w, Env w → Ret 23 #[obV 3 s0 g0 s1 g1 s2 g2 0 0 hb] w (.tuple #[.string t, .int .i64 e])) (hc : e = 2 ∨ (e = 0 ∧ t ≠ s) ∨ (e = 0 ∧ t = s)) (V : Value) (hV : V = if e = 0 ∧ t = s then .tuple #[obV 3 s0 g0 s1 g1 s2 g2 0 0 hb, .int .i64 0] else .tuple #[ob0, .int .i64 9]) :
    Ret 25 #[.string s] w V := by
  have HV := Lib.hid hV
  have HS := Lib.hid hS
  have HT := Lib.hid hT
  have HC := Lib.hid hc
  have HF0 := Lib.hid hf0
  have HF1 := Lib.hid hf1
  have HF2 := Lib.hid hf2
  have hc0 := Below.refl w.heap.size w
  clear hS hT hc hV hf0 hf1 hf2
  go_enter Tryd.func25, Tryd.ntmps25
  go_wp2_with fail
  refine (HS.out _ (hE.toEnv.on (by go_grown))).mono ?_
  rintro e1 w0 ⟨rfl, rfl⟩
  go_wp2_with fail
  refine wp_loop_rounds 4 ?_
  rw [rounds_succ]
  go_wp2_with fail
  refine Calls.mono (HF0.out _ (hE.on (by go_grown))) ?_
  rintro e w1 ⟨rfl, hb1⟩
  obtain ⟨kk, ff⟩ := bcell hb1
  have hc1 : Below w.heap.size w w1 := under hb1
  have k1_0 : ∀ o, w1.cell? ⟨w.heap.size, o, none⟩ = _ := fun o => kk _ o (by first | assumption | omega | (simp; done) | (simp; omega))
  have f1_0 : ∀ o, w1.frozen? ⟨w.heap.size, o, none⟩ = _ := fun o => ff _ o (by first | assumption | omega | (simp; done) | (simp; omega))
  have z1_0 : w.heap.size < w1.heap.size := by have := hb1.size; (try simp at this); omega
  have k1_1 : ∀ o, w1.cell? ⟨w.heap.size+1, o, none⟩ = _ := fun o => kk _ o (by first | assumption | omega | (simp; done) | (simp; omega))
  have f1_1 : ∀ o, w1.frozen? ⟨w.heap.size+1, o, none⟩ = _ := fun o => ff _ o (by first | assumption | omega | (simp; done) | (simp; omega))
  have z1_1 : w.heap.size+1 < w1.heap.size := by have := hb1.size; (try simp at this); omega
  have k1_2 : ∀ o, w1.cell? ⟨w.heap.size+1+1, o, none⟩ = _ := fun o => kk _ o (by first | assumption | omega | (simp; done) | (simp; omega))
  have f1_2 : ∀ o, w1.frozen? ⟨w.heap.size+1+1, o, none⟩ = _ := fun o => ff _ o (by first | assumption | omega | (simp; done) | (simp; omega))
  have z1_2 : w.heap.size+1+1 < w1.heap.size := by have := hb1.size; (try simp at this); omega
  clear kk ff
  have hs1 := hc1.size
  clear hc0 hb1
  go_wp2_with fail
  rw [rounds_succ]
  go_wp2_with fail
  refine Calls.mono (HF1.out _ (hE.on (by go_grown))) ?_
  rintro e w2 ⟨rfl, hb2⟩
  obtain ⟨kk, ff⟩ := bcell hb2
  have hc2 : Below w.heap.size w w2 := under hb2
  have k2_0 : ∀ o, w2.cell? ⟨w.heap.size, o, none⟩ = _ := fun o => kk _ o (by first | assumption | omega | (simp; done) | (simp; omega))
  have f2_0 : ∀ o, w2.frozen? ⟨w.heap.size, o, none⟩ = _ := fun o => ff _ o (by first | assumption | omega | (simp; done) | (simp; omega))
  have z2_0 : w.heap.size < w2.heap.size := by have := hb2.size; (try simp at this); omega
  have k2_1 : ∀ o, w2.cell? ⟨w.heap.size+1, o, none⟩ = _ := fun o => kk _ o (by first | assumption | omega | (simp; done) | (simp; omega))
  have f2_1 : ∀ o, w2.frozen? ⟨w.heap.size+1, o, none⟩ = _ := fun o => ff _ o (by first | assumption | omega | (simp; done) | (simp; omega))
  have z2_1 : w.heap.size+1 < w2.heap.size := by have := hb2.size; (try simp at this); omega
  have k2_2 : ∀ o, w2.cell? ⟨w.heap.size+1+1, o, none⟩ = _ := fun o => kk _ o (by first | assumption | omega | (simp; done) | (simp; omega))
  have f2_2 : ∀ o, w2.frozen? ⟨w.heap.size+1+1, o, none⟩ = _ := fun o => ff _ o (by first | assumption | omega | (simp; done) | (simp; omega))
  have z2_2 : w.heap.size+1+1 < w2.heap.size := by have := hb2.size; (try simp at this); omega
  clear kk ff
  have hs2 := hc2.size
  clear hc1 hb2
  go_wp2_with fail
  rw [rounds_succ]
  go_wp2_with fail
  refine Calls.mono (HF2.out _ (hE.on (by go_grown))) ?_
  rintro e w3 ⟨rfl, hb3⟩
  obtain ⟨kk, ff⟩ := bcell hb3
  have hc3 : Below w.heap.size w w3 := under hb3
  have k3_0 : ∀ o, w3.cell? ⟨w.heap.size, o, none⟩ = _ := fun o => kk _ o (by first | assumption | omega | (simp; done) | (simp; omega))
  have f3_0 : ∀ o, w3.frozen? ⟨w.heap.size, o, none⟩ = _ := fun o => ff _ o (by first | assumption | omega | (simp; done) | (simp; omega))
  have z3_0 : w.heap.size < w3.heap.size := by have := hb3.size; (try simp at this); omega
  have k3_1 : ∀ o, w3.cell? ⟨w.heap.size+1, o, none⟩ = _ := fun o => kk _ o (by first | assumption | omega | (simp; done) | (simp; omega))
  have f3_1 : ∀ o, w3.frozen? ⟨w.heap.size+1, o, none⟩ = _ := fun o => ff _ o (by first | assumption | omega | (simp; done) | (simp; omega))
  have z3_1 : w.heap.size+1 < w3.heap.size := by have := hb3.size; (try simp at this); omega
  have k3_2 : ∀ o, w3.cell? ⟨w.heap.size+1+1, o, none⟩ = _ := fun o => kk _ o (by first | assumption | omega | (simp; done) | (simp; omega))
  have f3_2 : ∀ o, w3.frozen? ⟨w.heap.size+1+1, o, none⟩ = _ := fun o => ff _ o (by first | assumption | omega | (simp; done) | (simp; omega))
  have z3_2 : w.heap.size+1+1 < w3.heap.size := by have := hb3.size; (try simp at this); omega
  clear kk ff
  have hs3 := hc3.size
  clear hc2 hb3
  go_wp2_with fail
  rw [rounds_succ]
  go_wp2_with fail
  refine Calls.mono (HT.out _ (hE.toEnv.on (by go_grown))) ?_
  rintro e w4 ⟨rfl, hb4⟩
  obtain ⟨kk, ff⟩ := bcell hb4
  have hc4 : Below w.heap.size w w4 := under hb4
  have k4_0 : ∀ o, w4.cell? ⟨w.heap.size, o, none⟩ = _ := fun o => kk _ o (by first | assumption | omega | (simp; done) | (simp; omega))
  have f4_0 : ∀ o, w4.frozen? ⟨w.heap.size, o, none⟩ = _ := fun o => ff _ o (by first | assumption | omega | (simp; done) | (simp; omega))
  have z4_0 : w.heap.size < w4.heap.size := by have := hb4.size; (try simp at this); omega
  have k4_1 : ∀ o, w4.cell? ⟨w.heap.size+1, o, none⟩ = _ := fun o => kk _ o (by first | assumption | omega | (simp; done) | (simp; omega))
  have f4_1 : ∀ o, w4.frozen? ⟨w.heap.size+1, o, none⟩ = _ := fun o => ff _ o (by first | assumption | omega | (simp; done) | (simp; omega))
  have z4_1 : w.heap.size+1 < w4.heap.size := by have := hb4.size; (try simp at this); omega
  have k4_2 : ∀ o, w4.cell? ⟨w.heap.size+1+1, o, none⟩ = _ := fun o => kk _ o (by first | assumption | omega | (simp; done) | (simp; omega))
  have f4_2 : ∀ o, w4.frozen? ⟨w.heap.size+1+1, o, none⟩ = _ := fun o => ff _ o (by first | assumption | omega | (simp; done) | (simp; omega))
  have z4_2 : w.heap.size+1+1 < w4.heap.size := by have := hb4.size; (try simp at this); omega
  clear kk ff
  have hs4 := hc4.size
  clear hc3 hb4
  have y0 : ∀ j, w4.cell? ⟨w.heap.size, j, none⟩ = ob0C[j]? := fun j => by go_simp
  rcases HC.out with rfl | ⟨rfl, hne⟩ | ⟨rfl, rfl⟩
  · have hv : V = .tuple #[ob0, .int .i64 9] := by rw [HV.out, if_neg (by simp)]
    have HW := Lib.hid hv
    clear hv
    go_wp2_with fail
    refine bodyPost_ret (v := .tuple #[ob0, .int .i64 9]) (by simp [results, Tryd.results25, go_sem, y0, z4_0]) rfl ⟨by rw [HW.out], by go_grown⟩
  · have hv : V = .tuple #[ob0, .int .i64 9] := by rw [HV.out, if_neg (fun h => hne h.2)]
    have HW := Lib.hid hv
    clear hv
    have hn1 := str_beq_ne hne
    have hn2 : (t.toList != s.toList) = true := by rw [bne, hn1]; rfl
    clear hne
    go_wp2_with fail
    refine bodyPost_ret (v := .tuple #[ob0, .int .i64 9]) (by simp [results, Tryd.results25, go_sem, y0, z4_0]) rfl ⟨by rw [HW.out], by go_grown⟩
  · have hv : V = .tuple #[obV 3 s0 g0 s1 g1 s2 g2 0 0 hb, .int .i64 0] := by rw [HV.out, if_pos ⟨rfl, rfl⟩]
    have HW := Lib.hid hv
    clear hv
    go_wp2_with fail
    refine bodyPost_ret (v := .tuple #[obV 3 s0 g0 s1 g1 s2 g2 0 0 hb, .int .i64 0]) (by simp [results, Tryd.results25, go_sem, y0, z4_0]) rfl ⟨by rw [HW.out], by go_grown⟩
set_option maxHeartbeats 16000000 in
set_option maxRecDepth 20000 in
theorem fparse_4 (s : ByteArray) (x0 x1 x2 x3 x4 : ByteArray) (hb : Bool) (s0 g0 s1 g1 s2 g2 s3 g3 e : Int) (t : ByteArray) (w : World) (hE : EnvP w)
    (hS : ∀ w, Env w → Calls Tryd.prog 29 #[.string s, .string ⟨#[32]⟩] w fun e w' => e = .returned (.slice (some ⟨w.heap.size, 0, none⟩) 5 5) ∧ w' = w.alloc (.cells #[.string x0, .string x1, .string x2, .string x3, .string x4] 9))
    (hq : (x0.toList == [104, 97, 110, 100, 108, 101]) = hb) (hf0 : ∀ w, EnvP w → Ret 39 #[.string x1] w (refV s0 g0)) (hf1 : ∀ w, EnvP w → Ret 39 #[.string x2] w (refV s1 g1)) (hf2 : ∀ w, EnvP w → Ret 39 #[.string x3] w (refV s2 g2)) (hf3 : ∀ w, EnvP w → Ret 39 #[.string x4] w (refV s3 g3))
    (hT : ∀ w, Env w → Ret 23 #[obV 4 s0 g0 s1 g1 s2 g2 s3 g3 hb] w (.tuple #[.string t, .int .i64 e])) (hc : e = 2 ∨ (e = 0 ∧ t ≠ s) ∨ (e = 0 ∧ t = s)) (V : Value) (hV : V = if e = 0 ∧ t = s then .tuple #[obV 4 s0 g0 s1 g1 s2 g2 s3 g3 hb, .int .i64 0] else .tuple #[ob0, .int .i64 9]) :
    Ret 25 #[.string s] w V := by
  have HV := Lib.hid hV
  have HS := Lib.hid hS
  have HT := Lib.hid hT
  have HC := Lib.hid hc
  have HF0 := Lib.hid hf0
  have HF1 := Lib.hid hf1
  have HF2 := Lib.hid hf2
  have HF3 := Lib.hid hf3
  have hc0 := Below.refl w.heap.size w
  clear hS hT hc hV hf0 hf1 hf2 hf3
  go_enter Tryd.func25, Tryd.ntmps25
  go_wp2_with fail
  refine (HS.out _ (hE.toEnv.on (by go_grown))).mono ?_
  rintro e1 w0 ⟨rfl, rfl⟩
  go_wp2_with fail
  refine wp_loop_rounds 5 ?_
  rw [rounds_succ]
  go_wp2_with fail
  refine Calls.mono (HF0.out _ (hE.on (by go_grown))) ?_
  rintro e w1 ⟨rfl, hb1⟩
  obtain ⟨kk, ff⟩ := bcell hb1
  have hc1 : Below w.heap.size w w1 := under hb1
  have k1_0 : ∀ o, w1.cell? ⟨w.heap.size, o, none⟩ = _ := fun o => kk _ o (by first | assumption | omega | (simp; done) | (simp; omega))
  have f1_0 : ∀ o, w1.frozen? ⟨w.heap.size, o, none⟩ = _ := fun o => ff _ o (by first | assumption | omega | (simp; done) | (simp; omega))
  have z1_0 : w.heap.size < w1.heap.size := by have := hb1.size; (try simp at this); omega
  have k1_1 : ∀ o, w1.cell? ⟨w.heap.size+1, o, none⟩ = _ := fun o => kk _ o (by first | assumption | omega | (simp; done) | (simp; omega))
  have f1_1 : ∀ o, w1.frozen? ⟨w.heap.size+1, o, none⟩ = _ := fun o => ff _ o (by first | assumption | omega | (simp; done) | (simp; omega))
  have z1_1 : w.heap.size+1 < w1.heap.size := by have := hb1.size; (try simp at this); omega
  have k1_2 : ∀ o, w1.cell? ⟨w.heap.size+1+1, o, none⟩ = _ := fun o => kk _ o (by first | assumption | omega | (simp; done) | (simp; omega))
  have f1_2 : ∀ o, w1.frozen? ⟨w.heap.size+1+1, o, none⟩ = _ := fun o => ff _ o (by first | assumption | omega | (simp; done) | (simp; omega))
  have z1_2 : w.heap.size+1+1 < w1.heap.size := by have := hb1.size; (try simp at this); omega
  clear kk ff
  have hs1 := hc1.size
  clear hc0 hb1
  go_wp2_with fail
  rw [rounds_succ]
  go_wp2_with fail
  refine Calls.mono (HF1.out _ (hE.on (by go_grown))) ?_
  rintro e w2 ⟨rfl, hb2⟩
  obtain ⟨kk, ff⟩ := bcell hb2
  have hc2 : Below w.heap.size w w2 := under hb2
  have k2_0 : ∀ o, w2.cell? ⟨w.heap.size, o, none⟩ = _ := fun o => kk _ o (by first | assumption | omega | (simp; done) | (simp; omega))
  have f2_0 : ∀ o, w2.frozen? ⟨w.heap.size, o, none⟩ = _ := fun o => ff _ o (by first | assumption | omega | (simp; done) | (simp; omega))
  have z2_0 : w.heap.size < w2.heap.size := by have := hb2.size; (try simp at this); omega
  have k2_1 : ∀ o, w2.cell? ⟨w.heap.size+1, o, none⟩ = _ := fun o => kk _ o (by first | assumption | omega | (simp; done) | (simp; omega))
  have f2_1 : ∀ o, w2.frozen? ⟨w.heap.size+1, o, none⟩ = _ := fun o => ff _ o (by first | assumption | omega | (simp; done) | (simp; omega))
  have z2_1 : w.heap.size+1 < w2.heap.size := by have := hb2.size; (try simp at this); omega
  have k2_2 : ∀ o, w2.cell? ⟨w.heap.size+1+1, o, none⟩ = _ := fun o => kk _ o (by first | assumption | omega | (simp; done) | (simp; omega))
  have f2_2 : ∀ o, w2.frozen? ⟨w.heap.size+1+1, o, none⟩ = _ := fun o => ff _ o (by first | assumption | omega | (simp; done) | (simp; omega))
  have z2_2 : w.heap.size+1+1 < w2.heap.size := by have := hb2.size; (try simp at this); omega
  clear kk ff
  have hs2 := hc2.size
  clear hc1 hb2
  go_wp2_with fail
  rw [rounds_succ]
  go_wp2_with fail
  refine Calls.mono (HF2.out _ (hE.on (by go_grown))) ?_
  rintro e w3 ⟨rfl, hb3⟩
  obtain ⟨kk, ff⟩ := bcell hb3
  have hc3 : Below w.heap.size w w3 := under hb3
  have k3_0 : ∀ o, w3.cell? ⟨w.heap.size, o, none⟩ = _ := fun o => kk _ o (by first | assumption | omega | (simp; done) | (simp; omega))
  have f3_0 : ∀ o, w3.frozen? ⟨w.heap.size, o, none⟩ = _ := fun o => ff _ o (by first | assumption | omega | (simp; done) | (simp; omega))
  have z3_0 : w.heap.size < w3.heap.size := by have := hb3.size; (try simp at this); omega
  have k3_1 : ∀ o, w3.cell? ⟨w.heap.size+1, o, none⟩ = _ := fun o => kk _ o (by first | assumption | omega | (simp; done) | (simp; omega))
  have f3_1 : ∀ o, w3.frozen? ⟨w.heap.size+1, o, none⟩ = _ := fun o => ff _ o (by first | assumption | omega | (simp; done) | (simp; omega))
  have z3_1 : w.heap.size+1 < w3.heap.size := by have := hb3.size; (try simp at this); omega
  have k3_2 : ∀ o, w3.cell? ⟨w.heap.size+1+1, o, none⟩ = _ := fun o => kk _ o (by first | assumption | omega | (simp; done) | (simp; omega))
  have f3_2 : ∀ o, w3.frozen? ⟨w.heap.size+1+1, o, none⟩ = _ := fun o => ff _ o (by first | assumption | omega | (simp; done) | (simp; omega))
  have z3_2 : w.heap.size+1+1 < w3.heap.size := by have := hb3.size; (try simp at this); omega
  clear kk ff
  have hs3 := hc3.size
  clear hc2 hb3
  go_wp2_with fail
  rw [rounds_succ]
  go_wp2_with fail
  refine Calls.mono (HF3.out _ (hE.on (by go_grown))) ?_
  rintro e w4 ⟨rfl, hb4⟩
  obtain ⟨kk, ff⟩ := bcell hb4
  have hc4 : Below w.heap.size w w4 := under hb4
  have k4_0 : ∀ o, w4.cell? ⟨w.heap.size, o, none⟩ = _ := fun o => kk _ o (by first | assumption | omega | (simp; done) | (simp; omega))
  have f4_0 : ∀ o, w4.frozen? ⟨w.heap.size, o, none⟩ = _ := fun o => ff _ o (by first | assumption | omega | (simp; done) | (simp; omega))
  have z4_0 : w.heap.size < w4.heap.size := by have := hb4.size; (try simp at this); omega
  have k4_1 : ∀ o, w4.cell? ⟨w.heap.size+1, o, none⟩ = _ := fun o => kk _ o (by first | assumption | omega | (simp; done) | (simp; omega))
  have f4_1 : ∀ o, w4.frozen? ⟨w.heap.size+1, o, none⟩ = _ := fun o => ff _ o (by first | assumption | omega | (simp; done) | (simp; omega))
  have z4_1 : w.heap.size+1 < w4.heap.size := by have := hb4.size; (try simp at this); omega
  have k4_2 : ∀ o, w4.cell? ⟨w.heap.size+1+1, o, none⟩ = _ := fun o => kk _ o (by first | assumption | omega | (simp; done) | (simp; omega))
  have f4_2 : ∀ o, w4.frozen? ⟨w.heap.size+1+1, o, none⟩ = _ := fun o => ff _ o (by first | assumption | omega | (simp; done) | (simp; omega))
  have z4_2 : w.heap.size+1+1 < w4.heap.size := by have := hb4.size; (try simp at this); omega
  clear kk ff
  have hs4 := hc4.size
  clear hc3 hb4
  go_wp2_with fail
  rw [rounds_succ]
  go_wp2_with fail
  refine Calls.mono (HT.out _ (hE.toEnv.on (by go_grown))) ?_
  rintro e w5 ⟨rfl, hb5⟩
  obtain ⟨kk, ff⟩ := bcell hb5
  have hc5 : Below w.heap.size w w5 := under hb5
  have k5_0 : ∀ o, w5.cell? ⟨w.heap.size, o, none⟩ = _ := fun o => kk _ o (by first | assumption | omega | (simp; done) | (simp; omega))
  have f5_0 : ∀ o, w5.frozen? ⟨w.heap.size, o, none⟩ = _ := fun o => ff _ o (by first | assumption | omega | (simp; done) | (simp; omega))
  have z5_0 : w.heap.size < w5.heap.size := by have := hb5.size; (try simp at this); omega
  have k5_1 : ∀ o, w5.cell? ⟨w.heap.size+1, o, none⟩ = _ := fun o => kk _ o (by first | assumption | omega | (simp; done) | (simp; omega))
  have f5_1 : ∀ o, w5.frozen? ⟨w.heap.size+1, o, none⟩ = _ := fun o => ff _ o (by first | assumption | omega | (simp; done) | (simp; omega))
  have z5_1 : w.heap.size+1 < w5.heap.size := by have := hb5.size; (try simp at this); omega
  have k5_2 : ∀ o, w5.cell? ⟨w.heap.size+1+1, o, none⟩ = _ := fun o => kk _ o (by first | assumption | omega | (simp; done) | (simp; omega))
  have f5_2 : ∀ o, w5.frozen? ⟨w.heap.size+1+1, o, none⟩ = _ := fun o => ff _ o (by first | assumption | omega | (simp; done) | (simp; omega))
  have z5_2 : w.heap.size+1+1 < w5.heap.size := by have := hb5.size; (try simp at this); omega
  clear kk ff
  have hs5 := hc5.size
  clear hc4 hb5
  have y0 : ∀ j, w5.cell? ⟨w.heap.size, j, none⟩ = ob0C[j]? := fun j => by go_simp
  rcases HC.out with rfl | ⟨rfl, hne⟩ | ⟨rfl, rfl⟩
  · have hv : V = .tuple #[ob0, .int .i64 9] := by rw [HV.out, if_neg (by simp)]
    have HW := Lib.hid hv
    clear hv
    go_wp2_with fail
    refine bodyPost_ret (v := .tuple #[ob0, .int .i64 9]) (by simp [results, Tryd.results25, go_sem, y0, z5_0]) rfl ⟨by rw [HW.out], by go_grown⟩
  · have hv : V = .tuple #[ob0, .int .i64 9] := by rw [HV.out, if_neg (fun h => hne h.2)]
    have HW := Lib.hid hv
    clear hv
    have hn1 := str_beq_ne hne
    have hn2 : (t.toList != s.toList) = true := by rw [bne, hn1]; rfl
    clear hne
    go_wp2_with fail
    refine bodyPost_ret (v := .tuple #[ob0, .int .i64 9]) (by simp [results, Tryd.results25, go_sem, y0, z5_0]) rfl ⟨by rw [HW.out], by go_grown⟩
  · have hv : V = .tuple #[obV 4 s0 g0 s1 g1 s2 g2 s3 g3 hb, .int .i64 0] := by rw [HV.out, if_pos ⟨rfl, rfl⟩]
    have HW := Lib.hid hv
    clear hv
    go_wp2_with fail
    refine bodyPost_ret (v := .tuple #[obV 4 s0 g0 s1 g1 s2 g2 s3 g3 hb, .int .i64 0]) (by simp [results, Tryd.results25, go_sem, y0, z5_0]) rfl ⟨by rw [HW.out], by go_grown⟩
end Go.Proofs.YtpegkcmomkdoeaaDoor
