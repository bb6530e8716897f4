/- OpReads walked. -/
import Derived.Test.YthkngleegefgbaaGreatDoorM224a
import Derived.Test.YthkngleegefgbaaGreatDoorHWorks39
namespace Go.Proofs.YthkngleegefgbaaGreatDoor
open Go.RowKit
set_option linter.unusedVariables false
set_option linter.unusedSimpArgs false
set_option maxHeartbeats 40000000
set_option maxRecDepth 20000
theorem cutAll_len_le (c : UInt8) : ∀ s : List UInt8, (cutAll c s).length ≤ s.length + 1
  | [] => by simp [cutAll]
  | b :: l => by
    have ih := cutAll_len_le c l
    rw [cutAll_cons]
    split
    · simp; omega
    · cases hc : cutAll c l with
      | nil => exact absurd hc (cutAll_ne c l)
      | cons x t => rw [hc] at ih; simp at ih ⊢; omega
theorem allR_len : ∀ (ls : List (List UInt8)) (n : Nat) (acc : List OpR), (allR ls n acc).1.length ≤ acc.length + ls.length
  | [], n, acc => by simp [allR]
  | l :: ls, n, acc => by
    rw [allR]
    split
    · have := allR_len ls (n + 1) acc
      simp; omega
    · split
      · simp
      · split
        · simp
        · rename_i p _
          have := allR_len ls (n + 1) (acc ++ [p])
          simp at this ⊢; omega
theorem parseAllR_len (s : List UInt8) : (parseAllR s).1.length ≤ s.length + 1 := by
  unfold parseAllR
  split
  · simp
  · have h1 := allR_len (cutAll 10 s) 0 []
    have h2 := cutAll_len_le 10 s
    simp at h1
    omega
theorem parse_c2 (s : ByteArray) (hs : s.size ≤ 100000) (w : World) (hE : EnvL w) : Ret 15 #[.string s] w (.tuple #[opRV ((readOp s.data.toList).getD (0, fl0)), .int .i64 (if (readOp s.data.toList).isSome then 0 else 9)]) := by
  cases h : readOp s.data.toList with
  | some p => exact parse_is (readOp_ok h) hs w hE
  | none => exact parse_not (fun p hp => by rw [readOp_some hp] at h; cases h) hs w hE
theorem equalO_same (v u : Value) (l : List OpR) (w : World) (hv : HoldsO w v l) (hu : HoldsO w u l) (hl : l.length ≤ 100000) : Ret 19 #[v, u] w (.bool true) := by
  have h := equalO_c v u l l w hv hu hl hl
  rwa [decide_eq_true (rfl : l = l)] at h
theorem readsO_walk (s : ByteArray) (w : World) (hE : EnvL w) : Ret 4 #[.string s] w (.bool true) := by
  have HE := Lib.hid hE
  have hc := Below.refl w.heap.size w
  by_cases hbig : (3000 : Int) < s.size
  · clear hE
    go_enter Tryz.func4, Tryz.ntmps4
    go_wp2_with fail
    refine Calls.mono (works _ HE.out) ?_
    rintro e V1 ⟨rfl, hn⟩
    go_wp2_with fail
    go_returns
    exact ⟨rfl, hn⟩
  · have hs : s.size ≤ 3000 := by omega
    have hln := parseAllR_len s.data.toList
    rw [len_bytes] at hln
    have CA := Lib.hid (fun W (h : EnvL W) => parse_c2 s (by omega) W h)
    have CB := Lib.hid (fun W => rparseO_c s (by omega) W)
    have CP := Lib.hid (fun W (h : EnvL W) => parseAll_c s W h (by omega))
    have CR := Lib.hid (fun W => rparseAll_c s W)
    unfold ParseAllP at CP CR
    clear hE
    generalize parseAllR s.data.toList = R at *
    obtain ⟨l, n, e0⟩ := R
    generalize (readOp s.data.toList).getD (0, fl0) = p at *
    generalize (if (readOp s.data.toList).isSome = true then (0 : Int) else 9) = ee at *
    have e1 : ((n : Int) == (n : Int)) = true := by simp
    have e2 : (e0 == e0) = true := by simp
    have e3 : (ee == ee) = true := by simp
    simp only at hln
    have q := eq_ops p p
    rw [decide_eq_true (rfl : p = p)] at q
    have Q := Lib.hid q
    clear q
    obtain ⟨kd, ⟨m, a, b, c, tag⟩⟩ := p
    go_enter Tryz.func4, Tryz.ntmps4
    go_wp2_with fail
    refine Calls.mono (CA.out _ HE.out) ?_
    rintro e V1 ⟨rfl, hn⟩
    replace hc := chain hc hn
    clear hn
    go_upto_region 4 with fail
    have r1 := Row.new (W := V1) (cs := #[.int .i64 kd, .int .i64 m, .int .i64 a, .int .i64 b, .int .i64 c, .string tag]) (t := 23)
    have hn := below_alloc V1 (.cells #[.int .i64 kd, .int .i64 m, .int .i64 a, .int .i64 b, .int .i64 c, .string tag] 23)
    replace hc := chain hc hn
    clear hn
    generalize V1.alloc (.cells #[.int .i64 kd, .int .i64 m, .int .i64 a, .int .i64 b, .int .i64 c, .string tag] 23) = V2 at *
    generalize V1.heap.size = b1 at *
    go_wp2_with fail
    refine Calls.mono (CB.out _) ?_
    rintro e V3 ⟨rfl, hn⟩
    replace hc := chain hc hn
    replace r1 := r1.on hn
    clear hn
    go_upto_region 5 with fail
    have r2 := Row.new (W := V3) (cs := #[.int .i64 kd, .int .i64 m, .int .i64 a, .int .i64 b, .int .i64 c, .string tag]) (t := 23)
    have hn := below_alloc V3 (.cells #[.int .i64 kd, .int .i64 m, .int .i64 a, .int .i64 b, .int .i64 c, .string tag] 23)
    replace hc := chain hc hn
    replace r1 := r1.on hn
    clear hn
    generalize V3.alloc (.cells #[.int .i64 kd, .int .i64 m, .int .i64 a, .int .i64 b, .int .i64 c, .string tag] 23) = V4 at *
    generalize V3.heap.size = b2 at *
    go_wp2_with fail
    refine Calls.mono (CP.out _ (HE.out.on hc)) ?_
    rintro e V5 ⟨⟨u1, rfl, h1⟩, hn⟩
    replace hc := chain hc hn
    replace r1 := r1.on hn
    replace r2 := r2.on hn
    clear hn
    go_wp2_with fail
    refine Calls.mono (CR.out _) ?_
    rintro e V6 ⟨⟨u2, rfl, h2⟩, hn⟩
    replace hc := chain hc hn
    replace r1 := r1.on hn
    replace r2 := r2.on hn
    replace h1 := OwnsO.on h1 hn
    clear hn
    have y1 := r1.cell
    have z1 := r1.lt
    have y2 := r2.cell
    have z2 := r2.lt
    have q := Q.out
    go_wp2_with fail
    refine Calls.mono (equalO_same _ _ l _ (OwnsO.holds h1) (OwnsO.holds h2) (by omega)) ?_
    rintro e V7 ⟨rfl, hn⟩
    replace hc := chain hc hn
    clear hn h1 h2 y1 y2 z1 z2 r1 r2 q
    go_wp2_with fail
    refine Calls.mono (works _ (HE.out.on hc)) ?_
    rintro e V8 ⟨rfl, hn⟩
    replace hc := chain hc hn
    go_wp2_with fail
    go_returns
    exact ⟨rfl, hc⟩
end Go.Proofs.YthkngleegefgbaaGreatDoor
