/- The program's scripts of numbers: script of the statements of chapter 39. -/
import Derived.Test.YtbbleafcflhmiaaGreatDoorHMade39
import Derived.Test.YtbbleafcflhmiaaGreatDoorL2a
import Derived.Test.YtbbleafcflhmiaaGreatDoorL4a
import Derived.Test.YtbbleafcflhmiaaGreatDoorM120a
import Derived.Deep.DeepCutAuto
import Derived.Deep.CutBlock
namespace Go.Proofs.YtbbleafcflhmiaaGreatDoor
open Go.RowKit
set_option linter.unusedVariables false
set_option linter.unusedSimpArgs false
set_option maxHeartbeats 40000000
set_option maxRecDepth 20000
theorem b8n {n : Int} (h : (Lit.int .u8 n).wf = true) : 0 ≤ n ∧ n ≤ 255 := by
  have := bounds_u8 h
  omega
theorem b32n {n : Int} (h : (Lit.int .u32 n).wf = true) : 0 ≤ n ∧ n ≤ 4294967295 := by
  have := bounds_u32 h
  omega
abbrev leavesN : List Leaf := [.int .u8, .int .u8, .int .u8, .int .u32, .int .u32, .int .u32]
theorem num6 {l : List Value} (h : OkL leavesN l) : ∃ k m t a b c : Int, l = [.int .u8 k, .int .u8 m, .int .u8 t, .int .u32 a, .int .u32 b, .int .u32 c] ∧ (0 ≤ k ∧ k ≤ 255) ∧ (0 ≤ m ∧ m ≤ 255) ∧ (0 ≤ t ∧ t ≤ 255) ∧ (0 ≤ a ∧ a ≤ 4294967295) ∧ (0 ≤ b ∧ b ≤ 4294967295) ∧ (0 ≤ c ∧ c ≤ 4294967295) := by
  obtain ⟨_, _, rfl, ⟨a, rfl, wa⟩, h1⟩ := OkL_cons h
  obtain ⟨_, _, rfl, ⟨b, rfl, wb⟩, h2⟩ := OkL_cons h1
  obtain ⟨_, _, rfl, ⟨c, rfl, wc⟩, h3⟩ := OkL_cons h2
  obtain ⟨_, _, rfl, ⟨d, rfl, wd⟩, h4⟩ := OkL_cons h3
  obtain ⟨_, _, rfl, ⟨e, rfl, we⟩, h5⟩ := OkL_cons h4
  obtain ⟨_, _, rfl, ⟨f, rfl, wf⟩, h6⟩ := OkL_cons h5
  obtain rfl := OkL_nil h6
  exact ⟨a, b, c, d, e, f, rfl, b8n wa, b8n wb, b8n wc, b32n wd, b32n we, b32n wf⟩
theorem op_src' (W : World) (p : OpR) : ∀ (j : Nat) (v : Value), ([.int .i64 p.1, .int .i64 p.2.m, .int .i64 p.2.a, .int .i64 p.2.b, .int .i64 p.2.c, .string p.2.tag] : List Value)[j]? = some v → (W.alloc (.cells #[.int .i64 p.1, .int .i64 p.2.m, .int .i64 p.2.a, .int .i64 p.2.b, .int .i64 p.2.c, .string p.2.tag] 31)).cell? ((⟨W.heap.size, 0, none⟩ : Addr).add j) = some v := by
  intro j v hv
  rw [show (⟨W.heap.size, 0, none⟩ : Addr).add j = ⟨W.heap.size, j, none⟩ by simp [Addr.add]; omega, Row.cell (Row.new (W := W)) j]
  simpa using hv
def ScriptP (w : World) (e : Ending) (w' : World) : Prop := (∃ v l, e = .returned v ∧ OwnsO w.heap.size w' v l ∧ l.all okR = true ∧ l.length ≤ 60) ∧ Below w.heap.size w w'
theorem script_c (v : Value) (n : Nat) (E : Nat → List Value) (w : World) (hsl : Sl w v leavesN n E) : Calls Tryz.prog 13 #[v] w (ScriptP w) := by
  obtain ⟨⟨p, cap, rfl, hcap, hmax, hel⟩, hnum⟩ := hsl
  have HEL := Lib.hid hel
  obtain ⟨i0, hi, hz0, hz1, hz2⟩ := info_parts op_info
  have HI0 := Lib.hid hi
  have HZ0 := Lib.hid hz0
  have HZ1 := Lib.hid hz1
  have HZ2 := Lib.hid hz2
  clear hel hi hz0 hz1 hz2
  have hc := Below.refl w.heap.size w
  obtain ⟨N, hN1, hN2, eN⟩ : ∃ N : Nat, N ≤ n ∧ N ≤ 60 ∧ min (n : Int) 60 = (N : Int) := ⟨min n 60, by omega, by omega, by omega⟩
  have eM : max (N : Int) 0 = (N : Int) := by omega
  go_enter Tryz.func13, Tryz.ntmps13
  go_wp2_with fail
  clear eN eM
  go_loopw [3, 12] (fun ov iv wr => ∃ (i : Nat) (l : List OpR), i ≤ N ∧ iv = .int .i64 i ∧ l.length = i ∧ l.all okR = true ∧ OwnsO w.heap.size wr ov l ∧ Below w.heap.size w wr) (fun _ iv _ => N - (intOf iv).toNat)
  case atStart => exact ⟨0, [], Nat.zero_le _, rfl, rfl, rfl, World.ownsRow_nil _ _ _ _, hc⟩
  case round =>
    obtain ⟨i, l, hiN, rfl, hl, hall, ho, hc⟩ := hrel
    have HL1 := Lib.hid (Nat.le_of_eq hl)
    have HL2 := Lib.hid (Nat.le_of_eq hl.symm)
    have HALL := Lib.hid hall
    clear hl hall
    by_cases hlt : i < N
    · rcases HEL.out with h0 | ⟨b, off, rfl, hb, hcell⟩
      · omega
      obtain ⟨k, m, t, a, b', c, hE6, bk, bm, bt, ba, bb, bc⟩ := num6 (hnum i (by omega))
      have q := hcell i (by omega)
      rw [hE6] at q
      have d0 : wr.cell? ⟨b, off + i * 6, none⟩ = some (.int .u8 k) := (hc.cell (p := ⟨b, off + i * 6, none⟩) hb).trans (q 0 (by decide))
      have d1 : wr.cell? ⟨b, off + i * 6 + 1, none⟩ = some (.int .u8 m) := (hc.cell (p := ⟨b, off + i * 6 + 1, none⟩) hb).trans (q 1 (by decide))
      have d2 : wr.cell? ⟨b, off + i * 6 + 2, none⟩ = some (.int .u8 t) := (hc.cell (p := ⟨b, off + i * 6 + 2, none⟩) hb).trans (q 2 (by decide))
      have d3 : wr.cell? ⟨b, off + i * 6 + 3, none⟩ = some (.int .u32 a) := (hc.cell (p := ⟨b, off + i * 6 + 3, none⟩) hb).trans (q 3 (by decide))
      have d4 : wr.cell? ⟨b, off + i * 6 + 4, none⟩ = some (.int .u32 b') := (hc.cell (p := ⟨b, off + i * 6 + 4, none⟩) hb).trans (q 4 (by decide))
      have d5 : wr.cell? ⟨b, off + i * 6 + 5, none⟩ = some (.int .u32 c) := (hc.cell (p := ⟨b, off + i * 6 + 5, none⟩) hb).trans (q 5 (by decide))
      have MC := Lib.hid (fun W => made_c k m t a b' c W bk.1 bk.2 bm.1 bm.2 bt.1 bt.2 ba.1 ba.2 bb.1 bb.2 bc.1 bc.2)
      clear q hcell hb hE6 bk bm bt ba bb bc
      go_upto_region 5 with fail
      clear d0 d1 d2 d3 d4 d5
      have r5 := Row.new (W := wr) (cs := #[.int .u8 k, .int .u8 m, .int .u8 t, .int .u32 a, .int .u32 b', .int .u32 c]) (t := 24)
      have hn := below_alloc wr (.cells #[.int .u8 k, .int .u8 m, .int .u8 t, .int .u32 a, .int .u32 b', .int .u32 c] 24)
      replace ho := ho.on hn
      replace hc := chain hc hn
      clear hn
      generalize wr.alloc (.cells #[.int .u8 k, .int .u8 m, .int .u8 t, .int .u32 a, .int .u32 b', .int .u32 c] 24) = V1 at r5 ho hc ⊢
      generalize wr.heap.size = b5 at *
      have y5 := r5.cell
      have z5 := r5.lt
      go_wp2_with fail
      refine Calls.mono (MC.out _) ?_
      rintro e V2 ⟨⟨p, rfl, hp⟩, hn⟩
      clear y5 z5 r5 MC
      replace ho := ho.on hn
      replace hc := chain hc hn
      clear hn
      have HP := Lib.hid hp
      obtain ⟨a0, c0, rfl⟩ := ownsRow_len ho
      have HO := Lib.hid ho
      have Q2 := Lib.hid (ho.on (below_alloc V2 (.cells #[.int .i64 p.1, .int .i64 p.2.m, .int .i64 p.2.a, .int .i64 p.2.b, .int .i64 p.2.c, .string p.2.tag] 31)))
      have HSRC := Lib.hid (op_src' V2 p)
      have hl1 := HL1.out
      have hl2 := HL2.out
      have hl3 : l.length < 60 := by omega
      clear hp ho hl1 hl2
      go_wp2_with (at_builtin; refine wpList_append_own _ rfl _ _ 41 rfl w.heap.size 31 i0 (.agg #[.int .i64 0, .int .i64 0, .int .i64 0, .int .i64 0, .int .i64 0, .string ⟨#[]⟩]) 6 56 Tryz.underlying41 HI0.out HZ0.out HZ1.out HZ2.out rfl (by decide) _ _ _ rfl Q2.out ⟨V2.heap.size, 0, none⟩ 1 1 [.int .i64 p.1, .int .i64 p.2.m, .int .i64 p.2.a, .int .i64 p.2.b, .int .i64 p.2.c, .string p.2.tag] rfl rfl HSRC.out (by intro u hu; simp at hu; rcases hu with rfl | rfl | rfl | rfl | rfl | rfl <;> rfl) (by unfold maxLen; omega) (by omega) (by have := hc.size; first | omega | (simp; omega)) ?_; intro v2 w1 hown hgrow hnil)
      clear hnil
      have hc2 : Below w.heap.size w w1 := (hc.alloc hc.size (.cells #[.int .i64 p.1, .int .i64 p.2.m, .int .i64 p.2.a, .int .i64 p.2.b, .int .i64 p.2.c, .string p.2.tag] 31)).grown hgrow (by have := hc.size; simp; omega) (fun j hj => (World.ownsRow.lt Q2.out j hj).1)
      have ho2 : OwnsO w.heap.size w1 v2 (l ++ [p]) := by
        unfold OwnsO
        rw [cellsO_snoc, List.length_append]
        exact hown
      clear hown hgrow Q2 HSRC HO
      refine ⟨⟨i + 1, l ++ [p], by omega, by go_num, by rw [List.length_append]; have := HL1.out; have := HL2.out; simp; omega, by rw [List.all_append, HALL.out]; simp [HP.out], ho2, hc2⟩, by simp [intOf]; omega⟩
    · obtain rfl : i = N := by omega
      have HO := Lib.hid ho
      clear ho
      go_wp2_with fail
      go_returns
      exact ⟨⟨_, l, rfl, HO.out, HALL.out, by have := HL1.out; omega⟩, hc⟩
end Go.Proofs.YtbbleafcflhmiaaGreatDoor
