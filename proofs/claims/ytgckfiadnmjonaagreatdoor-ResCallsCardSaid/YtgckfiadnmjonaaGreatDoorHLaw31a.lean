/- The statements ResNews, ResReads, ResCalls, walked. -/
import Derived.Test.YtgckfiadnmjonaaGreatDoorL5a
import Derived.Test.YtgckfiadnmjonaaGreatDoorL3a
import Derived.Deep.DeepCutAuto
namespace Go.Proofs.YtgckfiadnmjonaaGreatDoor
open Go.RowKit
set_option linter.unusedVariables false
set_option linter.unusedSimpArgs false
set_option maxHeartbeats 16000000
set_option maxRecDepth 20000
theorem newV_eq (k i g : Int) (tag : ByteArray) : ∃ k' i' g' st wy tr nx tag' e, newV k i g tag = .tuple #[rV k' i' g' st wy tr nx tag', .int .i64 e] := by
  unfold newV
  split
  · exact ⟨_, _, _, _, _, _, _, _, _, rfl⟩
  · exact ⟨0, 0, 0, 0, 0, 0, 0, _, _, rfl⟩
theorem closeV_eq (k i g st wy tr nx : Int) (tag : ByteArray) (why now : Int) : ∃ k' i' g' st' wy' tr' nx' tag' e, closeV k i g st wy tr nx tag why now = .tuple #[rV k' i' g' st' wy' tr' nx' tag', .int .i64 e] := by
  unfold closeV
  split
  · exact ⟨_, _, _, _, _, _, _, _, _, rfl⟩
  · exact ⟨0, 0, 0, 0, 0, 0, 0, _, _, rfl⟩
theorem triedV_eq (k i g st wy tr nx : Int) (tag : ByteArray) (a now wait : Int) : ∃ k' i' g' st' wy' tr' nx' tag' e, triedV k i g st wy tr nx tag a now wait = .tuple #[rV k' i' g' st' wy' tr' nx' tag', .int .i64 e] := by
  unfold triedV
  repeat' split
  all_goals first | exact ⟨_, _, _, _, _, _, _, _, _, rfl⟩ | exact ⟨0, 0, 0, 0, 0, 0, 0, _, _, rfl⟩
theorem dueV_eq (k i g st wy tr nx : Int) (tag : ByteArray) (now : Int) : ∃ b e, dueV k i g st wy tr nx tag now = .tuple #[.bool b, .int .i64 e] := by
  unfold dueV
  split <;> exact ⟨_, _, rfl⟩
theorem overV_eq (k i g st wy tr nx : Int) (tag : ByteArray) : ∃ b e, overV k i g st wy tr nx tag = .tuple #[.bool b, .int .i64 e] := by
  unfold overV
  split <;> exact ⟨_, _, rfl⟩

theorem news_walk (k i g : Int) (tag : ByteArray) (w : World) (hE : EnvP w) (g0 : 0 ≤ g) (g1 : g ≤ 4294967295) : Ret 4 #[.agg #[.int .i64 k, .int .i64 i, .int .u32 g], .string tag] w (.bool true) := by
  obtain ⟨kA, iA, gA, stA, wyA, trA, nxA, tagA, eA, hv⟩ := newV_eq k i g tag
  have c1 := fun (hs : tag.size ≤ 200) w => new_c k i g tag w g0 g1 (by omega)
  have c2 := fun (hs : tag.size ≤ 200) w => rnew_c k i g tag w g0 (by omega)
  rw [hv] at c1 c2
  have C1 := Lib.hid c1
  have C2 := Lib.hid c2
  have HE := Lib.hid hE
  clear c1 c2 hv hE
  have hq := req_R kA iA gA stA wyA trA nxA tagA
  have hc := Below.refl w.heap.size w
  go_enter Tryz.func4, Tryz.ntmps4
  go_upto_region 1 with fail
  have r1 := Row.new (W := w) (cs := #[.int .i64 k, .int .i64 i, .int .u32 g]) (t := 24)
  have hn := below_alloc w (.cells #[.int .i64 k, .int .i64 i, .int .u32 g] 24)
  replace hc := chain hc hn
  clear hn
  generalize w.alloc (.cells #[.int .i64 k, .int .i64 i, .int .u32 g] 24) = V1 at r1 hc ⊢
  by_cases hs : tag.size ≤ 200
  rotate_left
  · have e1 : (200 : Int) < (tag.size : Int) := by omega
    have yr1 := r1.cell
    have zr1 := r1.lt
    go_wp2_with fail
    refine Calls.mono (works _ (HE.out.on hc)) ?_
    rintro e V2 ⟨rfl, hn⟩
    clear yr1 zr1
    replace r1 := r1.on hn
    replace hc := chain hc hn
    clear hn
    have yr1 := r1.cell
    have zr1 := r1.lt
    go_wp2_with fail
    go_returns
    exact ⟨rfl, hc⟩
  have e1 : ¬ (200 : Int) < (tag.size : Int) := by omega
  have yr1 := r1.cell
  have zr1 := r1.lt
  go_wp2_with fail
  refine Calls.mono (C1.out hs _) ?_
  rintro e V2 ⟨rfl, hn⟩
  clear yr1 zr1
  replace r1 := r1.on hn
  replace hc := chain hc hn
  clear hn
  have yr1 := r1.cell
  have zr1 := r1.lt
  go_upto_region 4 with fail
  clear yr1 zr1
  have r2 := Row.new (W := V2) (cs := (rC kA iA gA stA wyA trA nxA tagA)) (t := 26)
  have hn := below_alloc V2 (.cells (rC kA iA gA stA wyA trA nxA tagA) 26)
  replace r1 := r1.on hn
  replace hc := chain hc hn
  clear hn
  generalize V2.alloc (.cells (rC kA iA gA stA wyA trA nxA tagA) 26) = V3 at r1 r2 hc ⊢
  have yr1 := r1.cell
  have zr1 := r1.lt
  have yr2 := r2.cell
  have zr2 := r2.lt
  go_wp2_with fail
  refine Calls.mono (C2.out hs _) ?_
  rintro e V4 ⟨rfl, hn⟩
  clear yr1 yr2 zr1 zr2
  replace r1 := r1.on hn
  replace r2 := r2.on hn
  replace hc := chain hc hn
  clear hn
  have yr1 := r1.cell
  have zr1 := r1.lt
  have yr2 := r2.cell
  have zr2 := r2.lt
  go_upto_region 5 with fail
  clear yr1 yr2 zr1 zr2
  have r3 := Row.new (W := V4) (cs := (rC kA iA gA stA wyA trA nxA tagA)) (t := 28)
  have hn := below_alloc V4 (.cells (rC kA iA gA stA wyA trA nxA tagA) 28)
  replace r1 := r1.on hn
  replace r2 := r2.on hn
  replace hc := chain hc hn
  clear hn
  generalize V4.alloc (.cells (rC kA iA gA stA wyA trA nxA tagA) 28) = V5 at r1 r2 r3 hc ⊢
  have yr1 := r1.cell
  have zr1 := r1.lt
  have yr2 := r2.cell
  have zr2 := r2.lt
  have yr3 := r3.cell
  have zr3 := r3.lt
  go_wp2_with fail
  refine Calls.mono (works _ (HE.out.on hc)) ?_
  rintro e V6 ⟨rfl, hn⟩
  clear yr1 yr2 yr3 zr1 zr2 zr3
  replace r1 := r1.on hn
  replace r2 := r2.on hn
  replace r3 := r3.on hn
  replace hc := chain hc hn
  clear hn
  have yr1 := r1.cell
  have zr1 := r1.lt
  have yr2 := r2.cell
  have zr2 := r2.lt
  have yr3 := r3.cell
  have zr3 := r3.lt
  go_wp2_with fail
  go_returns
  exact ⟨rfl, hc⟩
theorem reads_walk (s : ByteArray) (w : World) (hE : EnvP w) : Ret 5 #[.string s] w (.bool true) := by
  obtain ⟨V, hV, hsame⟩ := parse_same s
  have hv : ∃ kA iA gA stA wyA trA nxA tagA eA, V = .tuple #[rV kA iA gA stA wyA trA nxA tagA, .int .i64 eA] := by
    rcases hV with ⟨k, i, g, st, wy, tr, nx, tag, _, h⟩ | ⟨_, h⟩
    · exact ⟨_, _, _, _, _, _, _, _, _, h⟩
    · exact ⟨0, 0, 0, 0, 0, 0, 0, _, _, h⟩
  obtain ⟨kA, iA, gA, stA, wyA, trA, nxA, tagA, eA, rfl⟩ := hv
  have c1 : s.size ≤ 300 → ∀ w, EnvP w → Ret 22 #[.string s] w (.tuple #[rV kA iA gA stA wyA trA nxA tagA, .int .i64 eA]) := fun hs w hE => (parse_both s (by omega) w hE).mono fun e w1 h => ⟨hsame e h.2, h.1⟩
  have c2 : s.size ≤ 300 → ∀ w, Ret 23 #[.string s] w (.tuple #[rV kA iA gA stA wyA trA nxA tagA, .int .i64 eA]) := fun hs w => (rparse_both s (by omega) w).mono fun e w1 h => ⟨hsame e h.2, h.1⟩
  have C1 := Lib.hid c1
  have C2 := Lib.hid c2
  have HE := Lib.hid hE
  clear c1 c2 hV hsame hE
  have hq := req_R kA iA gA stA wyA trA nxA tagA
  have hc := Below.refl w.heap.size w
  go_enter Tryz.func5, Tryz.ntmps5
  by_cases hs : s.size ≤ 300
  rotate_left
  · have e1 : (300 : Int) < (s.size : Int) := by omega
    go_wp2_with fail
    refine Calls.mono (works _ HE.out) ?_
    rintro e V1 ⟨rfl, hn⟩
    replace hc := chain hc hn
    clear hn
    go_wp2_with fail
    go_returns
    exact ⟨rfl, hc⟩
  have e1 : ¬ (300 : Int) < (s.size : Int) := by omega
  go_wp2_with fail
  refine Calls.mono (C1.out hs _ (HE.out.on hc)) ?_
  rintro e V1 ⟨rfl, hn⟩
  replace hc := chain hc hn
  clear hn
  go_upto_region 4 with fail
  have r2 := Row.new (W := V1) (cs := (rC kA iA gA stA wyA trA nxA tagA)) (t := 26)
  have hn := below_alloc V1 (.cells (rC kA iA gA stA wyA trA nxA tagA) 26)
  replace hc := chain hc hn
  clear hn
  generalize V1.alloc (.cells (rC kA iA gA stA wyA trA nxA tagA) 26) = V2 at r2 hc ⊢
  have yr2 := r2.cell
  have zr2 := r2.lt
  go_wp2_with fail
  refine Calls.mono (C2.out hs _) ?_
  rintro e V3 ⟨rfl, hn⟩
  clear yr2 zr2
  replace r2 := r2.on hn
  replace hc := chain hc hn
  clear hn
  have yr2 := r2.cell
  have zr2 := r2.lt
  go_upto_region 5 with fail
  clear yr2 zr2
  have r3 := Row.new (W := V3) (cs := (rC kA iA gA stA wyA trA nxA tagA)) (t := 28)
  have hn := below_alloc V3 (.cells (rC kA iA gA stA wyA trA nxA tagA) 28)
  replace r2 := r2.on hn
  replace hc := chain hc hn
  clear hn
  generalize V3.alloc (.cells (rC kA iA gA stA wyA trA nxA tagA) 28) = V4 at r2 r3 hc ⊢
  have yr2 := r2.cell
  have zr2 := r2.lt
  have yr3 := r3.cell
  have zr3 := r3.lt
  go_wp2_with fail
  refine Calls.mono (works _ (HE.out.on hc)) ?_
  rintro e V5 ⟨rfl, hn⟩
  clear yr2 yr3 zr2 zr3
  replace r2 := r2.on hn
  replace r3 := r3.on hn
  replace hc := chain hc hn
  clear hn
  have yr2 := r2.cell
  have zr2 := r2.lt
  have yr3 := r3.cell
  have zr3 := r3.lt
  go_wp2_with fail
  go_returns
  exact ⟨rfl, hc⟩
theorem calls_walk (k i g st wy tr nx : Int) (tag : ByteArray) (n now wait : Int) (w : World) (hE : EnvP w) (g0 : 0 ≤ g) (g1 : g ≤ 4294967295) : Ret 3 #[rV k i g st wy tr nx tag, .int .i64 n, .int .i64 now, .int .i64 wait] w (.bool true) := by
  obtain ⟨kA, iA, gA, stA, wyA, trA, nxA, tagA, eA, hv1⟩ := closeV_eq k i g st wy tr nx tag n now
  obtain ⟨kB, iB, gB, stB, wyB, trB, nxB, tagB, eB, hv2⟩ := triedV_eq k i g st wy tr nx tag n now wait
  obtain ⟨bD, eD, hv3⟩ := dueV_eq k i g st wy tr nx tag now
  obtain ⟨bO, eO, hv4⟩ := overV_eq k i g st wy tr nx tag
  have hv5 := textV_eq k i g st wy tr nx tag
  have c1 := fun (hs : tag.size ≤ 200) (w : World) => close_c k i g st wy tr nx n now tag w g0 g1 (by omega)
  have c2 := fun (hs : tag.size ≤ 200) (w : World) => rclose_c k i g st wy tr nx n now tag w g0 (by omega)
  have c3 := fun (hs : tag.size ≤ 200) (w : World) => tried_c k i g st wy tr nx n now wait tag w g0 g1 (by omega)
  have c4 := fun (hs : tag.size ≤ 200) (w : World) => rtried_c k i g st wy tr nx n now wait tag w g0 (by omega)
  have c5 := fun (hs : tag.size ≤ 200) (w : World) => rerr_c k i g st wy tr nx tag w g0 g1 (by omega)
  have c6 := fun (hs : tag.size ≤ 200) (w : World) => rrerr_c k i g st wy tr nx tag w g0 (by omega)
  have c7 := fun (hs : tag.size ≤ 200) (w : World) => due_c k i g st wy tr nx now tag w g0 g1 (by omega)
  have c8 := fun (hs : tag.size ≤ 200) (w : World) => rdue_c k i g st wy tr nx now tag w g0 (by omega)
  have c9 := fun (hs : tag.size ≤ 200) (w : World) => over_c k i g st wy tr nx tag w g0 g1 (by omega)
  have c10 := fun (hs : tag.size ≤ 200) (w : World) => rover_c k i g st wy tr nx tag w g0 (by omega)
  have c11 := fun (hs : tag.size ≤ 200) (w : World) (hE : Env w) => text_c k i g st wy tr nx tag w hE g0 g1 (by omega)
  have c12 := fun (hs : tag.size ≤ 200) (w : World) => rtext_c k i g st wy tr nx tag w g0 g1 (by omega)
  rw [hv1] at c1 c2
  rw [hv2] at c3 c4
  rw [hv3] at c7 c8
  rw [hv4] at c9 c10
  rw [hv5] at c11 c12
  clear hv1 hv2 hv3 hv4 hv5
  generalize txT k i g st wy tr nx tag = tx at *
  generalize rErr k i g st wy tr nx tag = er at *
  have C1 := Lib.hid c1
  have C2 := Lib.hid c2
  have C3 := Lib.hid c3
  have C4 := Lib.hid c4
  have C5 := Lib.hid c5
  have C6 := Lib.hid c6
  have C7 := Lib.hid c7
  have C8 := Lib.hid c8
  have C9 := Lib.hid c9
  have C10 := Lib.hid c10
  have C11 := Lib.hid c11
  have C12 := Lib.hid c12
  clear c1 c2 c3 c4 c5 c6 c7 c8 c9 c10 c11 c12
  have HE := Lib.hid hE
  clear hE
  have q1 := rne_R kA iA gA stA wyA trA nxA tagA
  have q2 := rne_R kB iB gB stB wyB trB nxB tagB
  have hc := Below.refl w.heap.size w
  go_enter Tryz.func3, Tryz.ntmps3
  go_upto_region 1 with fail
  have r4 := Row.new (W := w) (cs := (rC k i g st wy tr nx tag)) (t := 26)
  have hn := below_alloc w (.cells (rC k i g st wy tr nx tag) 26)
  have wr4 : w.heap.size ≤ w.heap.size := hc.size
  replace hc := chain hc hn
  clear hn
  generalize w.alloc (.cells (rC k i g st wy tr nx tag) 26) = V1 at r4 hc ⊢
  by_cases hs : tag.size ≤ 200
  rotate_left
  · have e1 : (200 : Int) < (tag.size : Int) := by omega
    have yr4 := r4.cell
    have zr4 := r4.lt
    go_wp2_with fail
    refine Calls.mono (works _ (HE.out.on hc)) ?_
    rintro e V2 ⟨rfl, hn⟩
    clear yr4 zr4
    replace r4 := r4.on hn
    replace hc := chain hc hn
    clear hn
    have yr4 := r4.cell
    have zr4 := r4.lt
    go_wp2_with fail
    go_returns
    exact ⟨rfl, hc⟩
  have e1 : ¬ (200 : Int) < (tag.size : Int) := by omega
  have yr4 := r4.cell
  have zr4 := r4.lt
  go_upto_region 4 with fail
  clear yr4 zr4
  have r9 := Row.new (W := V1) (cs := (rC k i g st wy tr nx tag)) (t := 28)
  have hn := below_alloc V1 (.cells (rC k i g st wy tr nx tag) 28)
  have nr4_r9 : w.heap.size ≠ V1.heap.size := Nat.ne_of_lt r4.lt
  have wr9 : w.heap.size ≤ V1.heap.size := hc.size
  replace r4 := r4.on hn
  replace hc := chain hc hn
  clear hn
  generalize V1.alloc (.cells (rC k i g st wy tr nx tag) 28) = V2 at r4 r9 hc ⊢
  generalize V1.heap.size = b9 at *
  have yr4 := r4.cell
  have zr4 := r4.lt
  have yr9 := r9.cell
  have zr9 := r9.lt
  go_wp2_with fail
  refine Calls.mono (C1.out hs _) ?_
  rintro e V3 ⟨rfl, hn⟩
  clear yr4 yr9 zr4 zr9
  replace r4 := r4.on hn
  replace r9 := r9.on hn
  replace hc := chain hc hn
  clear hn
  have yr4 := r4.cell
  have zr4 := r4.lt
  have yr9 := r9.cell
  have zr9 := r9.lt
  go_upto_region 5 with fail
  clear yr4 yr9 zr4 zr9
  have r10 := Row.new (W := V3) (cs := (rC kA iA gA stA wyA trA nxA tagA)) (t := 26)
  have hn := below_alloc V3 (.cells (rC kA iA gA stA wyA trA nxA tagA) 26)
  have nr4_r10 : w.heap.size ≠ V3.heap.size := Nat.ne_of_lt r4.lt
  have nr9_r10 : b9 ≠ V3.heap.size := Nat.ne_of_lt r9.lt
  have wr10 : w.heap.size ≤ V3.heap.size := hc.size
  replace r4 := r4.on hn
  replace r9 := r9.on hn
  replace hc := chain hc hn
  clear hn
  generalize V3.alloc (.cells (rC kA iA gA stA wyA trA nxA tagA) 26) = V4 at r4 r9 r10 hc ⊢
  generalize V3.heap.size = b10 at *
  have yr4 := r4.cell
  have zr4 := r4.lt
  have yr9 := r9.cell
  have zr9 := r9.lt
  have yr10 := r10.cell
  have zr10 := r10.lt
  go_wp2_with fail
  refine Calls.mono (C2.out hs _) ?_
  rintro e V5 ⟨rfl, hn⟩
  clear yr4 yr9 yr10 zr4 zr9 zr10
  replace r4 := r4.on hn
  replace r9 := r9.on hn
  replace r10 := r10.on hn
  replace hc := chain hc hn
  clear hn
  have yr4 := r4.cell
  have zr4 := r4.lt
  have yr9 := r9.cell
  have zr9 := r9.lt
  have yr10 := r10.cell
  have zr10 := r10.lt
  go_upto_region 6 with fail
  clear yr4 yr9 yr10 zr4 zr9 zr10
  have r12 := Row.new (W := V5) (cs := (rC kA iA gA stA wyA trA nxA tagA)) (t := 28)
  have hn := below_alloc V5 (.cells (rC kA iA gA stA wyA trA nxA tagA) 28)
  have nr4_r12 : w.heap.size ≠ V5.heap.size := Nat.ne_of_lt r4.lt
  have nr9_r12 : b9 ≠ V5.heap.size := Nat.ne_of_lt r9.lt
  have nr10_r12 : b10 ≠ V5.heap.size := Nat.ne_of_lt r10.lt
  have wr12 : w.heap.size ≤ V5.heap.size := hc.size
  replace r4 := r4.on hn
  replace r9 := r9.on hn
  replace r10 := r10.on hn
  replace hc := chain hc hn
  clear hn
  generalize V5.alloc (.cells (rC kA iA gA stA wyA trA nxA tagA) 28) = V6 at r4 r9 r10 r12 hc ⊢
  generalize V5.heap.size = b12 at *
  have yr4 := r4.cell
  have zr4 := r4.lt
  have yr9 := r9.cell
  have zr9 := r9.lt
  have yr10 := r10.cell
  have zr10 := r10.lt
  have yr12 := r12.cell
  have zr12 := r12.lt
  go_wp2_with fail
  refine Calls.mono (C3.out hs _) ?_
  rintro e V7 ⟨rfl, hn⟩
  clear yr4 yr9 yr10 yr12 zr4 zr9 zr10 zr12
  replace r4 := r4.on hn
  replace r9 := r9.on hn
  replace r10 := r10.on hn
  replace r12 := r12.on hn
  replace hc := chain hc hn
  clear hn
  have yr4 := r4.cell
  have zr4 := r4.lt
  have yr9 := r9.cell
  have zr9 := r9.lt
  have yr10 := r10.cell
  have zr10 := r10.lt
  have yr12 := r12.cell
  have zr12 := r12.lt
  go_upto_region 7 with fail
  clear yr4 yr9 yr10 yr12 zr4 zr9 zr10 zr12
  have r14 := Row.new (W := V7) (cs := (rC kB iB gB stB wyB trB nxB tagB)) (t := 26)
  have hn := below_alloc V7 (.cells (rC kB iB gB stB wyB trB nxB tagB) 26)
  have nr4_r14 : w.heap.size ≠ V7.heap.size := Nat.ne_of_lt r4.lt
  have nr9_r14 : b9 ≠ V7.heap.size := Nat.ne_of_lt r9.lt
  have nr10_r14 : b10 ≠ V7.heap.size := Nat.ne_of_lt r10.lt
  have nr12_r14 : b12 ≠ V7.heap.size := Nat.ne_of_lt r12.lt
  have wr14 : w.heap.size ≤ V7.heap.size := hc.size
  replace r4 := r4.on hn
  replace r9 := r9.on hn
  replace r10 := r10.on hn
  replace r12 := r12.on hn
  replace hc := chain hc hn
  clear hn
  generalize V7.alloc (.cells (rC kB iB gB stB wyB trB nxB tagB) 26) = V8 at r4 r9 r10 r12 r14 hc ⊢
  generalize V7.heap.size = b14 at *
  have yr4 := r4.cell
  have zr4 := r4.lt
  have yr9 := r9.cell
  have zr9 := r9.lt
  have yr10 := r10.cell
  have zr10 := r10.lt
  have yr12 := r12.cell
  have zr12 := r12.lt
  have yr14 := r14.cell
  have zr14 := r14.lt
  go_wp2_with fail
  refine Calls.mono (C4.out hs _) ?_
  rintro e V9 ⟨rfl, hn⟩
  clear yr4 yr9 yr10 yr12 yr14 zr4 zr9 zr10 zr12 zr14
  replace r4 := r4.on hn
  replace r9 := r9.on hn
  replace r10 := r10.on hn
  replace r12 := r12.on hn
  replace r14 := r14.on hn
  replace hc := chain hc hn
  clear hn
  have yr4 := r4.cell
  have zr4 := r4.lt
  have yr9 := r9.cell
  have zr9 := r9.lt
  have yr10 := r10.cell
  have zr10 := r10.lt
  have yr12 := r12.cell
  have zr12 := r12.lt
  have yr14 := r14.cell
  have zr14 := r14.lt
  go_upto_region 8 with fail
  clear yr4 yr9 yr10 yr12 yr14 zr4 zr9 zr10 zr12 zr14
  have r16 := Row.new (W := V9) (cs := (rC kB iB gB stB wyB trB nxB tagB)) (t := 28)
  have hn := below_alloc V9 (.cells (rC kB iB gB stB wyB trB nxB tagB) 28)
  have nr4_r16 : w.heap.size ≠ V9.heap.size := Nat.ne_of_lt r4.lt
  have nr9_r16 : b9 ≠ V9.heap.size := Nat.ne_of_lt r9.lt
  have nr10_r16 : b10 ≠ V9.heap.size := Nat.ne_of_lt r10.lt
  have nr12_r16 : b12 ≠ V9.heap.size := Nat.ne_of_lt r12.lt
  have nr14_r16 : b14 ≠ V9.heap.size := Nat.ne_of_lt r14.lt
  have wr16 : w.heap.size ≤ V9.heap.size := hc.size
  replace r4 := r4.on hn
  replace r9 := r9.on hn
  replace r10 := r10.on hn
  replace r12 := r12.on hn
  replace r14 := r14.on hn
  replace hc := chain hc hn
  clear hn
  generalize V9.alloc (.cells (rC kB iB gB stB wyB trB nxB tagB) 28) = V10 at r4 r9 r10 r12 r14 r16 hc ⊢
  generalize V9.heap.size = b16 at *
  go_cut [86] (fun v wx => v = .bool false ∧ Row wx w.heap.size (rC k i g st wy tr nx tag) 26 ∧ Row wx b9 (rC k i g st wy tr nx tag) 28 ∧ Row wx b10 (rC kA iA gA stA wyA trA nxA tagA) 26 ∧ Row wx b12 (rC kA iA gA stA wyA trA nxA tagA) 28 ∧ Row wx b14 (rC kB iB gB stB wyB trB nxB tagB) 26 ∧ Row wx b16 (rC kB iB gB stB wyB trB nxB tagB) 28 ∧ Below w.heap.size w wx)
  case first =>
    refine wp_region_held_drew (S := fun W' => (∀ j, W'.cell? ⟨w.heap.size, j, none⟩ = (rC k i g st wy tr nx tag)[j]?) ∧ (∀ j, W'.cell? ⟨b9, j, none⟩ = (rC k i g st wy tr nx tag)[j]?) ∧ (∀ j, W'.cell? ⟨b10, j, none⟩ = (rC kA iA gA stA wyA trA nxA tagA)[j]?) ∧ (∀ j, W'.cell? ⟨b12, j, none⟩ = (rC kA iA gA stA wyA trA nxA tagA)[j]?) ∧ (∀ j, W'.cell? ⟨b14, j, none⟩ = (rC kB iB gB stB wyB trB nxB tagB)[j]?) ∧ (∀ j, W'.cell? ⟨b16, j, none⟩ = (rC kB iB gB stB wyB trB nxB tagB)[j]?)) (by kernel_rfl) ⟨r4.cell, r9.cell, r10.cell, r12.cell, r14.cell, r16.cell⟩ (fun hHeld => ?_)
    replace r4 := r4.drew
    replace r9 := r9.drew
    replace r10 := r10.drew
    replace r12 := r12.drew
    replace r14 := r14.drew
    replace r16 := r16.drew
    replace hc := hc.drew
    generalize V10.drew = X0 at *
    refine' wpAnyH_take (i := 0) (oi := _) (v := _) ?_ (by kernel_rfl) (by kernel_rfl) (by kernel_rfl) ?_ (Or.inl ⟨?_, ?_⟩) (by assumption) ?_
    rotate_left 2
    · (simp only [List.getElem?_toArray, List.getElem?_cons_succ, List.getElem?_cons_zero]; rfl)
    · first | exact fun _ _ _ h => h | exact fun _ _ _ h => nomatch h.1
    · rfl
    · (intro W hSW; (try dsimp only at hSW); go_split_ands; first | (go_simp; done) | (go_simp; with_reducible rfl))
    try simp only [Act.put, List.setIfInBounds_toArray, List.set_cons_zero, List.set_cons_succ]
    refine' wpAnyH_take (i := 2) (oi := _) (v := _) ?_ (by kernel_rfl) (by kernel_rfl) (by kernel_rfl) ?_ (Or.inl ⟨?_, ?_⟩) (by assumption) ?_
    rotate_left 2
    · (simp only [List.getElem?_toArray, List.getElem?_cons_succ, List.getElem?_cons_zero]; rfl)
    · first | exact fun _ _ _ h => h | exact fun _ _ _ h => nomatch h.1
    · rfl
    · (intro W hSW; (try dsimp only at hSW); go_split_ands; first | (go_simp; done) | (go_simp; with_reducible rfl))
    try simp only [Act.put, List.setIfInBounds_toArray, List.set_cons_zero, List.set_cons_succ]
    clear hHeld
    refine wpAnyH_ready (rs := [1]) (by kernel_rfl) (by simp) ?_
    refine' AllReadyH.cons (o := _) ?_ (fun K hK => ?_) AllReadyH.nil
    rotate_left 1
    · (simp only [List.getElem?_toArray, List.getElem?_cons_succ, List.getElem?_cons_zero]; rfl)
    go_simp
    refine Calls.mono (C5.out hs _) ?_
    rintro e Y10 ⟨rfl, hn⟩
    replace r4 := r4.on hn
    replace r9 := r9.on hn
    replace r10 := r10.on hn
    replace r12 := r12.on hn
    replace r14 := r14.on hn
    replace r16 := r16.on hn
    replace hc := chain hc hn
    clear hn
    go_simp
    refine hK.out _ _ ⟨r4.cell, r9.cell, r10.cell, r12.cell, r14.cell, r16.cell⟩ (fun hHeld => ?_)
    clear hK K
    clear hHeld
    refine wpAnyH_ready (rs := [3]) (by kernel_rfl) (by simp) ?_
    refine' AllReadyH.cons (o := _) ?_ (fun K hK => ?_) AllReadyH.nil
    rotate_left 1
    · (simp only [List.getElem?_toArray, List.getElem?_cons_succ, List.getElem?_cons_zero]; rfl)
    go_simp
    refine Calls.mono (C6.out hs _) ?_
    rintro e Y11 ⟨rfl, hn⟩
    replace r4 := r4.on hn
    replace r9 := r9.on hn
    replace r10 := r10.on hn
    replace r12 := r12.on hn
    replace r14 := r14.on hn
    replace r16 := r16.on hn
    replace hc := chain hc hn
    clear hn
    go_simp
    refine hK.out _ _ ⟨r4.cell, r9.cell, r10.cell, r12.cell, r14.cell, r16.cell⟩ (fun hHeld => ?_)
    clear hK K
    refine' wpAnyH_take (i := 4) (oi := _) (v := _) ?_ (by kernel_rfl) (by kernel_rfl) (by kernel_rfl) ?_ (Or.inl ⟨?_, ?_⟩) (by assumption) ?_
    rotate_left 2
    · (simp only [List.getElem?_toArray, List.getElem?_cons_succ, List.getElem?_cons_zero]; rfl)
    · first | exact fun _ _ _ h => h | exact fun _ _ _ h => nomatch h.1
    · rfl
    · (intro W hSW; (try dsimp only at hSW); go_split_ands; first | (go_simp; done) | (go_simp; with_reducible rfl))
    try simp only [Act.put, List.setIfInBounds_toArray, List.set_cons_zero, List.set_cons_succ]
    refine' wpAnyH_take (i := 5) (oi := _) (v := _) ?_ (by kernel_rfl) (by kernel_rfl) (by kernel_rfl) ?_ (Or.inl ⟨?_, ?_⟩) (by assumption) ?_
    rotate_left 2
    · (simp only [List.getElem?_toArray, List.getElem?_cons_succ, List.getElem?_cons_zero]; rfl)
    · first | exact fun _ _ _ h => h | exact fun _ _ _ h => nomatch h.1
    · rfl
    · (intro W hSW; (try dsimp only at hSW); go_split_ands; first | (go_simp; done) | (go_simp; with_reducible rfl))
    try simp only [Act.put, List.setIfInBounds_toArray, List.set_cons_zero, List.set_cons_succ]
    refine' wpAnyH_take (i := 6) (oi := _) (v := _) ?_ (by kernel_rfl) (by kernel_rfl) (by kernel_rfl) ?_ (Or.inl ⟨?_, ?_⟩) (by assumption) ?_
    rotate_left 2
    · (simp only [List.getElem?_toArray, List.getElem?_cons_succ, List.getElem?_cons_zero]; rfl)
    · first | exact fun _ _ _ h => h | exact fun _ _ _ h => nomatch h.1
    · rfl
    · (intro W hSW; (try dsimp only at hSW); go_split_ands; first | (go_simp; done) | (go_simp; with_reducible rfl))
    try simp only [Act.put, List.setIfInBounds_toArray, List.set_cons_zero, List.set_cons_succ]
    refine' wpAnyH_take (i := 7) (oi := _) (v := _) ?_ (by kernel_rfl) (by kernel_rfl) (by kernel_rfl) ?_ (Or.inl ⟨?_, ?_⟩) (by assumption) ?_
    rotate_left 2
    · (simp only [List.getElem?_toArray, List.getElem?_cons_succ, List.getElem?_cons_zero]; rfl)
    · first | exact fun _ _ _ h => h | exact fun _ _ _ h => nomatch h.1
    · rfl
    · (intro W hSW; (try dsimp only at hSW); go_split_ands; first | (go_simp; done) | (go_simp; with_reducible rfl))
    try simp only [Act.put, List.setIfInBounds_toArray, List.set_cons_zero, List.set_cons_succ]
    refine' wpAnyH_take (i := 8) (oi := _) (v := _) ?_ (by kernel_rfl) (by kernel_rfl) (by kernel_rfl) ?_ (Or.inl ⟨?_, ?_⟩) (by assumption) ?_
    rotate_left 2
    · (simp only [List.getElem?_toArray, List.getElem?_cons_succ, List.getElem?_cons_zero]; rfl)
    · first | exact fun _ _ _ h => h | exact fun _ _ _ h => nomatch h.1
    · rfl
    · (intro W hSW; (try dsimp only at hSW); go_split_ands; first | (go_simp; done) | (go_simp; with_reducible rfl))
    try simp only [Act.put, List.setIfInBounds_toArray, List.set_cons_zero, List.set_cons_succ]
    refine' wpAnyH_take (i := 9) (oi := _) (v := _) ?_ (by kernel_rfl) (by kernel_rfl) (by kernel_rfl) ?_ (Or.inl ⟨?_, ?_⟩) (by assumption) ?_
    rotate_left 2
    · (simp only [List.getElem?_toArray, List.getElem?_cons_succ, List.getElem?_cons_zero]; rfl)
    · first | exact fun _ _ _ h => h | exact fun _ _ _ h => nomatch h.1
    · rfl
    · (intro W hSW; (try dsimp only at hSW); go_split_ands; first | (go_simp; done) | (go_simp; with_reducible rfl))
    try simp only [Act.put, List.setIfInBounds_toArray, List.set_cons_zero, List.set_cons_succ]
    refine' wpAnyH_take (i := 10) (oi := _) (v := _) ?_ (by kernel_rfl) (by kernel_rfl) (by kernel_rfl) ?_ (Or.inl ⟨?_, ?_⟩) (by assumption) ?_
    rotate_left 2
    · (simp only [List.getElem?_toArray, List.getElem?_cons_succ, List.getElem?_cons_zero]; rfl)
    · first | exact fun _ _ _ h => h | exact fun _ _ _ h => nomatch h.1
    · rfl
    · (intro W hSW; (try dsimp only at hSW); go_split_ands; first | (go_simp; done) | (go_simp; with_reducible rfl))
    try simp only [Act.put, List.setIfInBounds_toArray, List.set_cons_zero, List.set_cons_succ]
    refine' wpAnyH_take (i := 11) (oi := _) (v := _) ?_ (by kernel_rfl) (by kernel_rfl) (by kernel_rfl) ?_ (Or.inl ⟨?_, ?_⟩) (by assumption) ?_
    rotate_left 2
    · (simp only [List.getElem?_toArray, List.getElem?_cons_succ, List.getElem?_cons_zero]; rfl)
    · first | exact fun _ _ _ h => h | exact fun _ _ _ h => nomatch h.1
    · rfl
    · (intro W hSW; (try dsimp only at hSW); go_split_ands; first | (go_simp; done) | (go_simp; with_reducible rfl))
    try simp only [Act.put, List.setIfInBounds_toArray, List.set_cons_zero, List.set_cons_succ]
    refine' wpAnyH_take (i := 12) (oi := _) (v := _) ?_ (by kernel_rfl) (by kernel_rfl) (by kernel_rfl) ?_ (Or.inl ⟨?_, ?_⟩) (by assumption) ?_
    rotate_left 2
    · (simp only [List.getElem?_toArray, List.getElem?_cons_succ, List.getElem?_cons_zero]; rfl)
    · first | exact fun _ _ _ h => h | exact fun _ _ _ h => nomatch h.1
    · rfl
    · (intro W hSW; (try dsimp only at hSW); go_split_ands; first | (go_simp; done) | (go_simp; with_reducible rfl))
    try simp only [Act.put, List.setIfInBounds_toArray, List.set_cons_zero, List.set_cons_succ]
    refine' wpAnyH_take (i := 13) (oi := _) (v := _) ?_ (by kernel_rfl) (by kernel_rfl) (by kernel_rfl) ?_ (Or.inl ⟨?_, ?_⟩) (by assumption) ?_
    rotate_left 2
    · (simp only [List.getElem?_toArray, List.getElem?_cons_succ, List.getElem?_cons_zero]; rfl)
    · first | exact fun _ _ _ h => h | exact fun _ _ _ h => nomatch h.1
    · rfl
    · (intro W hSW; (try dsimp only at hSW); go_split_ands; first | (go_simp; done) | (go_simp; with_reducible rfl))
    try simp only [Act.put, List.setIfInBounds_toArray, List.set_cons_zero, List.set_cons_succ]
    refine' wpAnyH_take (i := 14) (oi := _) (v := _) ?_ (by kernel_rfl) (by kernel_rfl) (by kernel_rfl) ?_ (Or.inl ⟨?_, ?_⟩) (by assumption) ?_
    rotate_left 2
    · (simp only [List.getElem?_toArray, List.getElem?_cons_succ, List.getElem?_cons_zero]; rfl)
    · first | exact fun _ _ _ h => h | exact fun _ _ _ h => nomatch h.1
    · rfl
    · (intro W hSW; (try dsimp only at hSW); go_split_ands; first | (go_simp; done) | (go_simp; with_reducible rfl))
    try simp only [Act.put, List.setIfInBounds_toArray, List.set_cons_zero, List.set_cons_succ]
    refine' wpAnyH_take (i := 15) (oi := _) (v := _) ?_ (by kernel_rfl) (by kernel_rfl) (by kernel_rfl) ?_ (Or.inl ⟨?_, ?_⟩) (by assumption) ?_
    rotate_left 2
    · (simp only [List.getElem?_toArray, List.getElem?_cons_succ, List.getElem?_cons_zero]; rfl)
    · first | exact fun _ _ _ h => h | exact fun _ _ _ h => nomatch h.1
    · rfl
    · (intro W hSW; (try dsimp only at hSW); go_split_ands; first | (go_simp; done) | (go_simp; with_reducible rfl))
    try simp only [Act.put, List.setIfInBounds_toArray, List.set_cons_zero, List.set_cons_succ]
    refine' wpAnyH_take (i := 16) (oi := _) (v := _) ?_ (by kernel_rfl) (by kernel_rfl) (by kernel_rfl) ?_ (Or.inl ⟨?_, ?_⟩) (by assumption) ?_
    rotate_left 2
    · (simp only [List.getElem?_toArray, List.getElem?_cons_succ, List.getElem?_cons_zero]; rfl)
    · first | exact fun _ _ _ h => h | exact fun _ _ _ h => nomatch h.1
    · rfl
    · (intro W hSW; (try dsimp only at hSW); go_split_ands; first | (go_simp; done) | (go_simp; with_reducible rfl))
    try simp only [Act.put, List.setIfInBounds_toArray, List.set_cons_zero, List.set_cons_succ]
    refine' wpAnyH_take (i := 17) (oi := _) (v := _) ?_ (by kernel_rfl) (by kernel_rfl) (by kernel_rfl) ?_ (Or.inl ⟨?_, ?_⟩) (by assumption) ?_
    rotate_left 2
    · (simp only [List.getElem?_toArray, List.getElem?_cons_succ, List.getElem?_cons_zero]; rfl)
    · first | exact fun _ _ _ h => h | exact fun _ _ _ h => nomatch h.1
    · rfl
    · (intro W hSW; (try dsimp only at hSW); go_split_ands; first | (go_simp; done) | (go_simp; with_reducible rfl))
    try simp only [Act.put, List.setIfInBounds_toArray, List.set_cons_zero, List.set_cons_succ]
    refine' wpAnyH_take (i := 18) (oi := _) (v := _) ?_ (by kernel_rfl) (by kernel_rfl) (by kernel_rfl) ?_ (Or.inl ⟨?_, ?_⟩) (by assumption) ?_
    rotate_left 2
    · (simp only [List.getElem?_toArray, List.getElem?_cons_succ, List.getElem?_cons_zero]; rfl)
    · first | exact fun _ _ _ h => h | exact fun _ _ _ h => nomatch h.1
    · rfl
    · (intro W hSW; (try dsimp only at hSW); go_split_ands; first | (go_simp; done) | (go_simp; with_reducible rfl))
    try simp only [Act.put, List.setIfInBounds_toArray, List.set_cons_zero, List.set_cons_succ]
    refine' wpAnyH_take (i := 19) (oi := _) (v := _) ?_ (by kernel_rfl) (by kernel_rfl) (by kernel_rfl) ?_ (Or.inl ⟨?_, ?_⟩) (by assumption) ?_
    rotate_left 2
    · (simp only [List.getElem?_toArray, List.getElem?_cons_succ, List.getElem?_cons_zero]; rfl)
    · first | exact fun _ _ _ h => h | exact fun _ _ _ h => nomatch h.1
    · rfl
    · (intro W hSW; (try dsimp only at hSW); go_split_ands; first | (go_simp; done) | (go_simp; with_reducible rfl))
    try simp only [Act.put, List.setIfInBounds_toArray, List.set_cons_zero, List.set_cons_succ]
    refine' wpAnyH_take (i := 20) (oi := _) (v := _) ?_ (by kernel_rfl) (by kernel_rfl) (by kernel_rfl) ?_ (Or.inl ⟨?_, ?_⟩) (by assumption) ?_
    rotate_left 2
    · (simp only [List.getElem?_toArray, List.getElem?_cons_succ, List.getElem?_cons_zero]; rfl)
    · first | exact fun _ _ _ h => h | exact fun _ _ _ h => nomatch h.1
    · rfl
    · (intro W hSW; (try dsimp only at hSW); go_split_ands; first | (go_simp; done) | (go_simp; with_reducible rfl))
    try simp only [Act.put, List.setIfInBounds_toArray, List.set_cons_zero, List.set_cons_succ]
    refine' wpAnyH_take (i := 21) (oi := _) (v := _) ?_ (by kernel_rfl) (by kernel_rfl) (by kernel_rfl) ?_ (Or.inl ⟨?_, ?_⟩) (by assumption) ?_
    rotate_left 2
    · (simp only [List.getElem?_toArray, List.getElem?_cons_succ, List.getElem?_cons_zero]; rfl)
    · first | exact fun _ _ _ h => h | exact fun _ _ _ h => nomatch h.1
    · rfl
    · (intro W hSW; (try dsimp only at hSW); go_split_ands; first | (go_simp; done) | (go_simp; with_reducible rfl))
    try simp only [Act.put, List.setIfInBounds_toArray, List.set_cons_zero, List.set_cons_succ]
    refine' wpAnyH_take (i := 22) (oi := _) (v := _) ?_ (by kernel_rfl) (by kernel_rfl) (by kernel_rfl) ?_ (Or.inl ⟨?_, ?_⟩) (by assumption) ?_
    rotate_left 2
    · (simp only [List.getElem?_toArray, List.getElem?_cons_succ, List.getElem?_cons_zero]; rfl)
    · first | exact fun _ _ _ h => h | exact fun _ _ _ h => nomatch h.1
    · rfl
    · (intro W hSW; (try dsimp only at hSW); go_split_ands; first | (go_simp; done) | (go_simp; with_reducible rfl))
    try simp only [Act.put, List.setIfInBounds_toArray, List.set_cons_zero, List.set_cons_succ]
    refine' wpAnyH_take (i := 23) (oi := _) (v := _) ?_ (by kernel_rfl) (by kernel_rfl) (by kernel_rfl) ?_ (Or.inl ⟨?_, ?_⟩) (by assumption) ?_
    rotate_left 2
    · (simp only [List.getElem?_toArray, List.getElem?_cons_succ, List.getElem?_cons_zero]; rfl)
    · first | exact fun _ _ _ h => h | exact fun _ _ _ h => nomatch h.1
    · rfl
    · (intro W hSW; (try dsimp only at hSW); go_split_ands; first | (go_simp; done) | (go_simp; with_reducible rfl))
    try simp only [Act.put, List.setIfInBounds_toArray, List.set_cons_zero, List.set_cons_succ]
    refine' wpAnyH_take (i := 24) (oi := _) (v := _) ?_ (by kernel_rfl) (by kernel_rfl) (by kernel_rfl) ?_ (Or.inl ⟨?_, ?_⟩) (by assumption) ?_
    rotate_left 2
    · (simp only [List.getElem?_toArray, List.getElem?_cons_succ, List.getElem?_cons_zero]; rfl)
    · first | exact fun _ _ _ h => h | exact fun _ _ _ h => nomatch h.1
    · rfl
    · (intro W hSW; (try dsimp only at hSW); go_split_ands; first | (go_simp; done) | (go_simp; with_reducible rfl))
    try simp only [Act.put, List.setIfInBounds_toArray, List.set_cons_zero, List.set_cons_succ]
    clear hHeld
    refine wpAnyH_done (by kernel_rfl) ?_ _
    go_wp2_with fail
    go_meet
    exact ⟨by simp, r4, r9, r10, r12, r14, r16, hc⟩
  obtain ⟨rfl, r4, r9, r10, r12, r14, r16, hc⟩ := hcut
  have yr4 := r4.cell
  have zr4 := r4.lt
  have yr9 := r9.cell
  have zr9 := r9.lt
  have yr10 := r10.cell
  have zr10 := r10.lt
  have yr12 := r12.cell
  have zr12 := r12.lt
  have yr14 := r14.cell
  have zr14 := r14.lt
  have yr16 := r16.cell
  have zr16 := r16.lt
  go_wp2_with fail
  refine Calls.mono (C7.out hs _) ?_
  rintro e V11 ⟨rfl, hn⟩
  clear yr4 yr9 yr10 yr12 yr14 yr16 zr4 zr9 zr10 zr12 zr14 zr16
  replace r4 := r4.on hn
  replace r9 := r9.on hn
  replace r10 := r10.on hn
  replace r12 := r12.on hn
  replace r14 := r14.on hn
  replace r16 := r16.on hn
  replace hc := chain hc hn
  clear hn
  have yr4 := r4.cell
  have zr4 := r4.lt
  have yr9 := r9.cell
  have zr9 := r9.lt
  have yr10 := r10.cell
  have zr10 := r10.lt
  have yr12 := r12.cell
  have zr12 := r12.lt
  have yr14 := r14.cell
  have zr14 := r14.lt
  have yr16 := r16.cell
  have zr16 := r16.lt
  go_wp2_with fail
  refine Calls.mono (C8.out hs _) ?_
  rintro e V12 ⟨rfl, hn⟩
  clear yr4 yr9 yr10 yr12 yr14 yr16 zr4 zr9 zr10 zr12 zr14 zr16
  replace r4 := r4.on hn
  replace r9 := r9.on hn
  replace r10 := r10.on hn
  replace r12 := r12.on hn
  replace r14 := r14.on hn
  replace r16 := r16.on hn
  replace hc := chain hc hn
  clear hn
  have yr4 := r4.cell
  have zr4 := r4.lt
  have yr9 := r9.cell
  have zr9 := r9.lt
  have yr10 := r10.cell
  have zr10 := r10.lt
  have yr12 := r12.cell
  have zr12 := r12.lt
  have yr14 := r14.cell
  have zr14 := r14.lt
  have yr16 := r16.cell
  have zr16 := r16.lt
  go_wp2_with fail
  refine Calls.mono (C9.out hs _) ?_
  rintro e V13 ⟨rfl, hn⟩
  clear yr4 yr9 yr10 yr12 yr14 yr16 zr4 zr9 zr10 zr12 zr14 zr16
  replace r4 := r4.on hn
  replace r9 := r9.on hn
  replace r10 := r10.on hn
  replace r12 := r12.on hn
  replace r14 := r14.on hn
  replace r16 := r16.on hn
  replace hc := chain hc hn
  clear hn
  have yr4 := r4.cell
  have zr4 := r4.lt
  have yr9 := r9.cell
  have zr9 := r9.lt
  have yr10 := r10.cell
  have zr10 := r10.lt
  have yr12 := r12.cell
  have zr12 := r12.lt
  have yr14 := r14.cell
  have zr14 := r14.lt
  have yr16 := r16.cell
  have zr16 := r16.lt
  go_wp2_with fail
  refine Calls.mono (C10.out hs _) ?_
  rintro e V14 ⟨rfl, hn⟩
  clear yr4 yr9 yr10 yr12 yr14 yr16 zr4 zr9 zr10 zr12 zr14 zr16
  replace r4 := r4.on hn
  replace r9 := r9.on hn
  replace r10 := r10.on hn
  replace r12 := r12.on hn
  replace r14 := r14.on hn
  replace r16 := r16.on hn
  replace hc := chain hc hn
  clear hn
  have yr4 := r4.cell
  have zr4 := r4.lt
  have yr9 := r9.cell
  have zr9 := r9.lt
  have yr10 := r10.cell
  have zr10 := r10.lt
  have yr12 := r12.cell
  have zr12 := r12.lt
  have yr14 := r14.cell
  have zr14 := r14.lt
  have yr16 := r16.cell
  have zr16 := r16.lt
  go_wp2_with fail
  refine Calls.mono (C11.out hs _ (HE.out.on hc).toEnv) ?_
  rintro e V15 ⟨rfl, hn⟩
  clear yr4 yr9 yr10 yr12 yr14 yr16 zr4 zr9 zr10 zr12 zr14 zr16
  replace r4 := r4.on hn
  replace r9 := r9.on hn
  replace r10 := r10.on hn
  replace r12 := r12.on hn
  replace r14 := r14.on hn
  replace r16 := r16.on hn
  replace hc := chain hc hn
  clear hn
  have yr4 := r4.cell
  have zr4 := r4.lt
  have yr9 := r9.cell
  have zr9 := r9.lt
  have yr10 := r10.cell
  have zr10 := r10.lt
  have yr12 := r12.cell
  have zr12 := r12.lt
  have yr14 := r14.cell
  have zr14 := r14.lt
  have yr16 := r16.cell
  have zr16 := r16.lt
  go_wp2_with fail
  refine Calls.mono (C12.out hs _) ?_
  rintro e V16 ⟨rfl, hn⟩
  clear yr4 yr9 yr10 yr12 yr14 yr16 zr4 zr9 zr10 zr12 zr14 zr16
  replace r4 := r4.on hn
  replace r9 := r9.on hn
  replace r10 := r10.on hn
  replace r12 := r12.on hn
  replace r14 := r14.on hn
  replace r16 := r16.on hn
  replace hc := chain hc hn
  clear hn
  have yr4 := r4.cell
  have zr4 := r4.lt
  have yr9 := r9.cell
  have zr9 := r9.lt
  have yr10 := r10.cell
  have zr10 := r10.lt
  have yr12 := r12.cell
  have zr12 := r12.lt
  have yr14 := r14.cell
  have zr14 := r14.lt
  have yr16 := r16.cell
  have zr16 := r16.lt
  go_wp2_with fail
  refine Calls.mono (works _ (HE.out.on hc)) ?_
  rintro e V17 ⟨rfl, hn⟩
  clear yr4 yr9 yr10 yr12 yr14 yr16 zr4 zr9 zr10 zr12 zr14 zr16
  replace r4 := r4.on hn
  replace r9 := r9.on hn
  replace r10 := r10.on hn
  replace r12 := r12.on hn
  replace r14 := r14.on hn
  replace r16 := r16.on hn
  replace hc := chain hc hn
  clear hn
  have yr4 := r4.cell
  have zr4 := r4.lt
  have yr9 := r9.cell
  have zr9 := r9.lt
  have yr10 := r10.cell
  have zr10 := r10.lt
  have yr12 := r12.cell
  have zr12 := r12.lt
  have yr14 := r14.cell
  have zr14 := r14.lt
  have yr16 := r16.cell
  have zr16 := r16.lt
  go_wp2_with fail
  go_returns
  exact ⟨rfl, hc⟩
end Go.Proofs.YtgckfiadnmjonaaGreatDoor
