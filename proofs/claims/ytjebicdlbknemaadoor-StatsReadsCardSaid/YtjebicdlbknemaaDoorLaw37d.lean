/- StatsReads. -/
import Derived.Test.YtjebicdlbknemaaDoorStParse3
namespace Go.Proofs.YtjebicdlbknemaaDoor
open Go.RowKit
set_option linter.unusedVariables false
set_option linter.unusedSimpArgs false
set_option maxHeartbeats 8000000 in
set_option maxRecDepth 20000 in
theorem reads_walk (x : ByteArray) (w : World) (hE : EnvP w) : Ret 8 #[.string x] w (.bool true) := by
  have hc0 := Below.refl w.heap.size w
  by_cases hl : x.size ≤ 300
  · have hl' : (x.size : Int) ≤ 300 := by omega
    rcases st_parse x (by omega) with ⟨o, l, c, r, q, hx, hp⟩ | ⟨hx, hp⟩
    · have HP := Lib.hid hp
      have ht := fun w hE => text_ok o l c r q w hE hx.1
      rw [hx.2] at ht
      have HT := Lib.hid ht
      have HK := Lib.hid (fun w => check_ok o l c r q w hx.1)
      clear hp hx ht hl
      go_enter Tryd.func8, Tryd.ntmps8
      go_wp2_with fail
      refine Calls.mono (HP.out _ hE) ?_
      rintro e w1 ⟨rfl, hb1⟩
      obtain ⟨kk, ff⟩ := bcell hb1
      have hc1 : Below w.heap.size w w1 := under hb1
      clear kk ff
      have hs1 := hc1.size
      clear hc0 hb1
      go_wp2_with fail
      refine Calls.mono (HT.out _ (hE.toEnv.on (by go_grown))) ?_
      rintro e w2 ⟨rfl, hb2⟩
      obtain ⟨kk, ff⟩ := bcell hb2
      have hc2 : Below w.heap.size w w2 := under hb2
      have k2_0 : ∀ o, w2.cell? ⟨w1.heap.size, o, none⟩ = _ := fun o => kk _ o (by first | assumption | omega | (simp; done) | (simp; omega))
      have f2_0 : ∀ o, w2.frozen? ⟨w1.heap.size, o, none⟩ = _ := fun o => ff _ o (by first | assumption | omega | (simp; done) | (simp; omega))
      have z2_0 : w1.heap.size < w2.heap.size := by have := hb2.size; (try simp at this); omega
      clear kk ff
      have hs2 := hc2.size
      clear hc1 hb2
      go_wp2_with fail
      refine Calls.mono (HK.out _) ?_
      rintro e w3 ⟨rfl, hb3⟩
      obtain ⟨kk, ff⟩ := bcell hb3
      have hc3 : Below w.heap.size w w3 := under hb3
      clear kk ff
      have hs3 := hc3.size
      clear hc2 hb3
      go_wp2_with fail
      refine Calls.mono (works _ (hE.toEnv.on (by go_grown))) ?_
      rintro e w4 ⟨rfl, hb4⟩
      obtain ⟨kk, ff⟩ := bcell hb4
      have hc4 : Below w.heap.size w w4 := under hb4
      clear kk ff
      have hs4 := hc4.size
      clear hc3 hb4
      go_wp2_with fail
      go_returns
      exact ⟨rfl, by go_grown⟩
    · have HP := Lib.hid hp
      clear hp hx hl
      go_enter Tryd.func8, Tryd.ntmps8
      go_wp2_with fail
      refine Calls.mono (HP.out _ hE) ?_
      rintro e w1 ⟨rfl, hb1⟩
      obtain ⟨kk, ff⟩ := bcell hb1
      have hc1 : Below w.heap.size w w1 := under hb1
      clear kk ff
      have hs1 := hc1.size
      clear hc0 hb1
      go_wp2_with fail
      refine Calls.mono (works _ (hE.toEnv.on (by go_grown))) ?_
      rintro e w2 ⟨rfl, hb2⟩
      obtain ⟨kk, ff⟩ := bcell hb2
      have hc2 : Below w.heap.size w w2 := under hb2
      clear kk ff
      have hs2 := hc2.size
      clear hc1 hb2
      go_wp2_with fail
      go_returns
      exact ⟨rfl, by go_grown⟩
  · have hl' : 300 < (x.size : Int) := by omega
    go_enter Tryd.func8, Tryd.ntmps8
    go_wp2_with fail
    refine Calls.mono (works _ hE.toEnv) ?_
    rintro e w1 ⟨rfl, hb1⟩
    obtain ⟨kk, ff⟩ := bcell hb1
    have hc1 : Below w.heap.size w w1 := under hb1
    clear kk ff
    have hs1 := hc1.size
    clear hc0 hb1
    go_wp2_with fail
    go_returns
    exact ⟨rfl, by go_grown⟩
end Go.Proofs.YtjebicdlbknemaaDoor
