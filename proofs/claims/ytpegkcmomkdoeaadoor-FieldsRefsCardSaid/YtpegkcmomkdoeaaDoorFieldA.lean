/- New, Get, Set of both: contracts over one specification; Text of what is not possible. -/
import Derived.Test.YtpegkcmomkdoeaaDoorFieldSet2
import Derived.Test.YtpegkcmomkdoeaaDoorFieldText
import Derived.Test.YtpegkcmomkdoeaaDoorSlices
import Derived.Test.YtpegkcmomkdoeaaDoorRound
namespace Go.Proofs.YtpegkcmomkdoeaaDoor
open Go.RowKit
set_option linter.unusedVariables false
set_option linter.unusedSimpArgs false

abbrev obR (n : Int) (a b c d : Rf) (h : Bool) : Value := obV n a.1 a.2 b.1 b.2 c.1 c.2 d.1 d.2 h
abbrev rfV (r : Rf) : Value := refV r.1 r.2
def oldF (i : Int) (a b c d : Rf) : Rf := if i = 0 then a else if i = 1 then b else if i = 2 then c else d
def putF (i j : Int) (x r : Rf) : Rf := if i = j then r else x
def inR (n i : Int) : Bool := decide (0 ≤ i ∧ i < n)
/-- What Set gives: the object's number of fields, the fields, whether it is a handle, what was there, the error. -/
structure SetO where
  n : Int
  a : Rf
  b : Rf
  c : Rf
  d : Rf
  h : Bool
  r : Rf
  e : Int
def SetO.v (s : SetO) : Value := .tuple #[obR s.n s.a s.b s.c s.d s.h, rfV s.r, .int .i64 s.e]
def setO (n : Int) (a b c d : Rf) (h : Bool) (i : Int) (r : Rf) : SetO :=
  if oOk n a b c d h && !rWrong r then
    (if inR n i then ⟨n, putF i 0 a r, putF i 1 b r, putF i 2 c r, putF i 3 d r, h, oldF i a b c d, 0⟩ else ⟨0, (0, 0), (0, 0), (0, 0), (0, 0), false, (0, 0), 3⟩)
  else ⟨0, (0, 0), (0, 0), (0, 0), (0, 0), false, (0, 0), 2⟩
def getO (n : Int) (a b c d : Rf) (h : Bool) (i : Int) : Rf × Int :=
  if oOk n a b c d h then (if inR n i then (oldF i a b c d, 0) else ((0, 0), 3)) else ((0, 0), 2)
theorem rWrong_0 : rWrong (0, 0) = false := by decide
theorem getO_set (n : Int) (a b c d : Rf) (h : Bool) (i : Int) : getO n a b c d h i = ((setO n a b c d h i (0, 0)).r, (setO n a b c d h i (0, 0)).e) := by
  unfold getO setO
  rw [rWrong_0, Bool.not_false, Bool.and_true]
  split
  · split <;> rfl
  · rfl
def u32 (g : Int) : Prop := 0 ≤ g ∧ g ≤ 4294967295
theorem fset_c (n : Int) (a b c d : Rf) (h : Bool) (i : Int) (r : Rf) (w : World) : Ret 21 #[obR n a b c d h, .int .i64 i, rfV r] w (setO n a b c d h i r).v := by
  have hk := fun w => fcheck_c n a.1 a.2 b.1 b.2 c.1 c.2 d.1 d.2 h w
  have hw := fun w => wrong_c r.1 r.2 w
  unfold oErr at hk
  unfold setO
  cases ho : oOk n a b c d h
  · rw [ho] at hk
    exact fset_bad n _ _ _ _ _ _ _ _ h i _ _ w hk
  · rw [ho] at hk
    cases hr : rWrong r
    · rw [hr] at hw
      by_cases hi : 0 ≤ i ∧ i < n
      · have e : inR n i = true := decide_eq_true hi
        rw [e]
        obtain ⟨⟨-, n1⟩, -⟩ := oOk_iff.1 ho
        rcases (by omega : i = 0 ∨ i = 1 ∨ i = 2 ∨ i = 3) with rfl | rfl | rfl | rfl
        · exact fset_ok0 n _ _ _ _ _ _ _ _ h _ _ w hk hw hi.2
        · exact fset_ok1 n _ _ _ _ _ _ _ _ h _ _ w hk hw hi.2
        · exact fset_ok2 n _ _ _ _ _ _ _ _ h _ _ w hk hw hi.2
        · exact fset_ok3 n _ _ _ _ _ _ _ _ h _ _ w hk hw hi.2
      · have e : inR n i = false := decide_eq_false hi
        rw [e]
        exact fset_range n _ _ _ _ _ _ _ _ h i _ _ w hk hw (by omega)
    · rw [hr] at hw
      exact fset_wrong n _ _ _ _ _ _ _ _ h i _ _ w hk hw
theorem rset_c (n : Int) (a b c d : Rf) (h : Bool) (i : Int) (r : Rf) (w : World) (ua : u32 a.2) (ub : u32 b.2) (uc : u32 c.2) (ud : u32 d.2) (ur : u32 r.2) : Ret 22 #[obR n a b c d h, .int .i64 i, rfV r] w (setO n a b c d h i r).v := by
  have hk := fun w => rcheck_c n a.1 a.2 b.1 b.2 c.1 c.2 d.1 d.2 h w ua ub uc ud
  have hw := fun w => rwrong_c r.1 r.2 w ur.1 ur.2
  unfold oErr at hk
  unfold setO
  cases ho : oOk n a b c d h
  · rw [ho] at hk
    exact rset_bad n _ _ _ _ _ _ _ _ h i _ _ w hk
  · rw [ho] at hk
    cases hr : rWrong r
    · rw [hr] at hw
      by_cases hi : 0 ≤ i ∧ i < n
      · have e : inR n i = true := decide_eq_true hi
        rw [e]
        obtain ⟨⟨-, n1⟩, -⟩ := oOk_iff.1 ho
        rcases (by omega : i = 0 ∨ i = 1 ∨ i = 2 ∨ i = 3) with rfl | rfl | rfl | rfl
        · exact rset_ok0 n _ _ _ _ _ _ _ _ h _ _ w hk hw hi.2
        · exact rset_ok1 n _ _ _ _ _ _ _ _ h _ _ w hk hw hi.2
        · exact rset_ok2 n _ _ _ _ _ _ _ _ h _ _ w hk hw hi.2
        · exact rset_ok3 n _ _ _ _ _ _ _ _ h _ _ w hk hw hi.2
      · have e : inR n i = false := decide_eq_false hi
        rw [e]
        exact rset_range n _ _ _ _ _ _ _ _ h i _ _ w hk hw (by omega)
    · rw [hr] at hw
      exact rset_wrong n _ _ _ _ _ _ _ _ h i _ _ w hk hw
set_option maxHeartbeats 4000000 in
set_option maxRecDepth 20000 in
theorem fget_of (n s0 g0 s1 g1 s2 g2 s3 g3 : Int) (h : Bool) (i : Int) (n' s0' g0' s1' g1' s2' g2' s3' g3' : Int) (h' : Bool) (s g e : Int) (w : World)
    (hs : ∀ w, Ret 21 #[obV n s0 g0 s1 g1 s2 g2 s3 g3 h, .int .i64 i, refV 0 0] w (.tuple #[obV n' s0' g0' s1' g1' s2' g2' s3' g3' h', refV s g, .int .i64 e])) :
    Ret 19 #[obV n s0 g0 s1 g1 s2 g2 s3 g3 h, .int .i64 i] w (.tuple #[refV s g, .int .i64 e]) := by
  have HS := Lib.hid hs
  have hc0 := Below.refl w.heap.size w
  clear hs
  go_enter Tryd.func19, Tryd.ntmps19
  go_wp2_with fail
  refine Calls.mono (HS.out _) ?_
  rintro e w1 ⟨rfl, hb1⟩
  obtain ⟨kk, ff⟩ := bcell hb1
  have hc1 : Below w.heap.size w w1 := under hb1
  have k1_0 : ∀ o, w1.cell? ⟨w.heap.size, o, none⟩ = _ := fun o => kk _ o (by first | assumption | omega | (simp; done) | (simp; omega))
  have f1_0 : ∀ o, w1.frozen? ⟨w.heap.size, o, none⟩ = _ := fun o => ff _ o (by first | assumption | omega | (simp; done) | (simp; omega))
  have z1_0 : w.heap.size < w1.heap.size := by have := hb1.size; (try simp at this); omega
  have k1_1 : ∀ o, w1.cell? ⟨w.heap.size+1, o, none⟩ = _ := fun o => kk _ o (by first | assumption | omega | (simp; done) | (simp; omega))
  have f1_1 : ∀ o, w1.frozen? ⟨w.heap.size+1, o, none⟩ = _ := fun o => ff _ o (by first | assumption | omega | (simp; done) | (simp; omega))
  have z1_1 : w.heap.size+1 < w1.heap.size := by have := hb1.size; (try simp at this); omega
  clear kk ff
  have hs1 := hc1.size
  clear hc0 hb1
  go_wp2_with fail
  refine bodyPost_ret (v := .tuple #[refV s g, .int .i64 e]) (by simp [results, Tryd.results19, go_sem, k1_1, z1_0, z1_1]) rfl ⟨rfl, by go_grown⟩
theorem fget_c (n : Int) (a b c d : Rf) (h : Bool) (i : Int) (w : World) : Ret 19 #[obR n a b c d h, .int .i64 i] w (.tuple #[rfV (getO n a b c d h i).1, .int .i64 (getO n a b c d h i).2]) := by
  rw [getO_set]
  exact fget_of n _ _ _ _ _ _ _ _ h i _ _ _ _ _ _ _ _ _ _ _ _ _ w (fun w => fset_c n a b c d h i (0, 0) w)
set_option maxHeartbeats 4000000 in
set_option maxRecDepth 20000 in
theorem rget_bad (n s0 g0 s1 g1 s2 g2 s3 g3 : Int) (h : Bool) (i : Int) (w : World) (hk : ∀ w, Ret 14 #[obV n s0 g0 s1 g1 s2 g2 s3 g3 h] w (.int .i64 2)) :
    Ret 20 #[obV n s0 g0 s1 g1 s2 g2 s3 g3 h, .int .i64 i] w (.tuple #[refV 0 0, .int .i64 2]) := by
  have HK := Lib.hid hk
  have hc0 := Below.refl w.heap.size w
  clear hk
  go_enter Tryd.func20, Tryd.ntmps20
  go_wp2_with fail
  refine Calls.mono (HK.out _) ?_
  rintro e w1 ⟨rfl, hb1⟩
  obtain ⟨kk, ff⟩ := bcell hb1
  have hc1 : Below w.heap.size w w1 := under hb1
  have k1_0 : ∀ o, w1.cell? ⟨w.heap.size, o, none⟩ = _ := fun o => kk _ o (by first | assumption | omega | (simp; done) | (simp; omega))
  have f1_0 : ∀ o, w1.frozen? ⟨w.heap.size, o, none⟩ = _ := fun o => ff _ o (by first | assumption | omega | (simp; done) | (simp; omega))
  have z1_0 : w.heap.size < w1.heap.size := by have := hb1.size; (try simp at this); omega
  have k1_1 : ∀ o, w1.cell? ⟨w.heap.size+1, o, none⟩ = _ := fun o => kk _ o (by first | assumption | omega | (simp; done) | (simp; omega))
  have f1_1 : ∀ o, w1.frozen? ⟨w.heap.size+1, o, none⟩ = _ := fun o => ff _ o (by first | assumption | omega | (simp; done) | (simp; omega))
  have z1_1 : w.heap.size+1 < w1.heap.size := by have := hb1.size; (try simp at this); omega
  clear kk ff
  have hs1 := hc1.size
  clear hc0 hb1
  go_wp2_with fail
  refine bodyPost_ret (v := .tuple #[refV 0 0, .int .i64 2]) (by simp [results, Tryd.results20, go_sem, k1_0, k1_1]) rfl ⟨rfl, by go_grown⟩
set_option maxHeartbeats 4000000 in
set_option maxRecDepth 20000 in
theorem rget_range (n s0 g0 s1 g1 s2 g2 s3 g3 : Int) (h : Bool) (i : Int) (w : World) (hk : ∀ w, Ret 14 #[obV n s0 g0 s1 g1 s2 g2 s3 g3 h] w (.int .i64 0)) (hi : i < 0 ∨ (0 ≤ i ∧ n ≤ i)) :
    Ret 20 #[obV n s0 g0 s1 g1 s2 g2 s3 g3 h, .int .i64 i] w (.tuple #[refV 0 0, .int .i64 3]) := by
  have HK := Lib.hid hk
  have hc0 := Below.refl w.heap.size w
  clear hk
  rcases hi with hi | ⟨hi0, hi⟩
  all_goals
    go_enter Tryd.func20, Tryd.ntmps20
    go_wp2_with fail
    refine Calls.mono (HK.out _) ?_
    rintro e w1 ⟨rfl, hb1⟩
    obtain ⟨kk, ff⟩ := bcell hb1
    have hc1 : Below w.heap.size w w1 := under hb1
    have k1_0 : ∀ o, w1.cell? ⟨w.heap.size, o, none⟩ = _ := fun o => kk _ o (by first | assumption | omega | (simp; done) | (simp; omega))
    have f1_0 : ∀ o, w1.frozen? ⟨w.heap.size, o, none⟩ = _ := fun o => ff _ o (by first | assumption | omega | (simp; done) | (simp; omega))
    have z1_0 : w.heap.size < w1.heap.size := by have := hb1.size; (try simp at this); omega
    have k1_1 : ∀ o, w1.cell? ⟨w.heap.size+1, o, none⟩ = _ := fun o => kk _ o (by first | assumption | omega | (simp; done) | (simp; omega))
    have f1_1 : ∀ o, w1.frozen? ⟨w.heap.size+1, o, none⟩ = _ := fun o => ff _ o (by first | assumption | omega | (simp; done) | (simp; omega))
    have z1_1 : w.heap.size+1 < w1.heap.size := by have := hb1.size; (try simp at this); omega
    clear kk ff
    have hs1 := hc1.size
    clear hc0 hb1
    go_wp2_with fail
    refine bodyPost_ret (v := .tuple #[refV 0 0, .int .i64 3]) (by simp [results, Tryd.results20, go_sem, k1_0, k1_1]) rfl ⟨rfl, by go_grown⟩
set_option maxHeartbeats 4000000 in
set_option maxRecDepth 20000 in
theorem rget_ok (n s0 g0 s1 g1 s2 g2 s3 g3 : Int) (h : Bool) (i : Int) (w : World) (hk : ∀ w, Ret 14 #[obV n s0 g0 s1 g1 s2 g2 s3 g3 h] w (.int .i64 0)) (hi : 0 ≤ i ∧ i < n) (hn : n ≤ 4) :
    Ret 20 #[obV n s0 g0 s1 g1 s2 g2 s3 g3 h, .int .i64 i] w (.tuple #[rfV (oldF i (s0, g0) (s1, g1) (s2, g2) (s3, g3)), .int .i64 0]) := by
  have HK := Lib.hid hk
  have hc0 := Below.refl w.heap.size w
  clear hk
  obtain ⟨hi0, hi1⟩ := hi
  rcases (by omega : i = 0 ∨ i = 1 ∨ i = 2 ∨ i = 3) with rfl | rfl | rfl | rfl
  all_goals
    go_enter Tryd.func20, Tryd.ntmps20
    go_wp2_with fail
    refine Calls.mono (HK.out _) ?_
    rintro e w1 ⟨rfl, hb1⟩
    obtain ⟨kk, ff⟩ := bcell hb1
    have hc1 : Below w.heap.size w w1 := under hb1
    have k1_0 : ∀ o, w1.cell? ⟨w.heap.size, o, none⟩ = _ := fun o => kk _ o (by first | assumption | omega | (simp; done) | (simp; omega))
    have f1_0 : ∀ o, w1.frozen? ⟨w.heap.size, o, none⟩ = _ := fun o => ff _ o (by first | assumption | omega | (simp; done) | (simp; omega))
    have z1_0 : w.heap.size < w1.heap.size := by have := hb1.size; (try simp at this); omega
    have k1_1 : ∀ o, w1.cell? ⟨w.heap.size+1, o, none⟩ = _ := fun o => kk _ o (by first | assumption | omega | (simp; done) | (simp; omega))
    have f1_1 : ∀ o, w1.frozen? ⟨w.heap.size+1, o, none⟩ = _ := fun o => ff _ o (by first | assumption | omega | (simp; done) | (simp; omega))
    have z1_1 : w.heap.size+1 < w1.heap.size := by have := hb1.size; (try simp at this); omega
    clear kk ff
    have hs1 := hc1.size
    clear hc0 hb1
    go_wp2_with fail
    first
      | exact bodyPost_ret (v := .tuple #[refV s0 g0, .int .i64 0]) (by simp [results, Tryd.results20, go_sem, k1_0, k1_1]; done) rfl ⟨rfl, by go_grown⟩
      | exact bodyPost_ret (v := .tuple #[refV s1 g1, .int .i64 0]) (by simp [results, Tryd.results20, go_sem, k1_0, k1_1]; done) rfl ⟨rfl, by go_grown⟩
      | exact bodyPost_ret (v := .tuple #[refV s2 g2, .int .i64 0]) (by simp [results, Tryd.results20, go_sem, k1_0, k1_1]; done) rfl ⟨rfl, by go_grown⟩
      | exact bodyPost_ret (v := .tuple #[refV s3 g3, .int .i64 0]) (by simp [results, Tryd.results20, go_sem, k1_0, k1_1]; done) rfl ⟨rfl, by go_grown⟩
theorem rget_c (n : Int) (a b c d : Rf) (h : Bool) (i : Int) (w : World) (ua : u32 a.2) (ub : u32 b.2) (uc : u32 c.2) (ud : u32 d.2) : Ret 20 #[obR n a b c d h, .int .i64 i] w (.tuple #[rfV (getO n a b c d h i).1, .int .i64 (getO n a b c d h i).2]) := by
  have hk := fun w => rcheck_c n a.1 a.2 b.1 b.2 c.1 c.2 d.1 d.2 h w ua ub uc ud
  unfold oErr at hk
  unfold getO
  cases ho : oOk n a b c d h
  · rw [ho] at hk
    exact rget_bad n _ _ _ _ _ _ _ _ h i w hk
  · rw [ho] at hk
    obtain ⟨⟨-, n1⟩, -⟩ := oOk_iff.1 ho
    by_cases hi : 0 ≤ i ∧ i < n
    · have e : inR n i = true := decide_eq_true hi
      rw [e]
      exact rget_ok n _ _ _ _ _ _ _ _ h i w hk hi n1
    · have e : inR n i = false := decide_eq_false hi
      rw [e]
      exact rget_range n _ _ _ _ _ _ _ _ h i w hk (by omega)
set_option maxHeartbeats 4000000 in
set_option maxRecDepth 20000 in
theorem fnew_ok (n : Int) (h : Bool) (w : World) (hk : ∀ w, Ret 13 #[obV n 0 0 0 0 0 0 0 0 h] w (.int .i64 0)) : Ret 11 #[.int .i64 n, .bool h] w (.tuple #[obV n 0 0 0 0 0 0 0 0 h, .int .i64 0]) := by
  have HK := Lib.hid hk
  have hc0 := Below.refl w.heap.size w
  clear hk
  go_enter Tryd.func11, Tryd.ntmps11
  go_wp2_with fail
  refine Calls.mono (HK.out _) ?_
  rintro e w1 ⟨rfl, hb1⟩
  obtain ⟨kk, ff⟩ := bcell hb1
  have hc1 : Below w.heap.size w w1 := under hb1
  have k1_0 : ∀ o, w1.cell? ⟨w.heap.size, o, none⟩ = _ := fun o => kk _ o (by first | assumption | omega | (simp; done) | (simp; omega))
  have f1_0 : ∀ o, w1.frozen? ⟨w.heap.size, o, none⟩ = _ := fun o => ff _ o (by first | assumption | omega | (simp; done) | (simp; omega))
  have z1_0 : w.heap.size < w1.heap.size := by have := hb1.size; (try simp at this); omega
  have k1_1 : ∀ o, w1.cell? ⟨w.heap.size+1, o, none⟩ = _ := fun o => kk _ o (by first | assumption | omega | (simp; done) | (simp; omega))
  have f1_1 : ∀ o, w1.frozen? ⟨w.heap.size+1, o, none⟩ = _ := fun o => ff _ o (by first | assumption | omega | (simp; done) | (simp; omega))
  have z1_1 : w.heap.size+1 < w1.heap.size := by have := hb1.size; (try simp at this); omega
  clear kk ff
  have hs1 := hc1.size
  clear hc0 hb1
  go_wp2_with fail
  refine bodyPost_ret (v := .tuple #[obV n 0 0 0 0 0 0 0 0 h, .int .i64 0]) (by simp [results, Tryd.results11, go_sem, k1_0, k1_1]) rfl ⟨rfl, by go_grown⟩
set_option maxHeartbeats 4000000 in
set_option maxRecDepth 20000 in
theorem fnew_bad (n : Int) (h : Bool) (w : World) (hk : ∀ w, Ret 13 #[obV n 0 0 0 0 0 0 0 0 h] w (.int .i64 2)) : Ret 11 #[.int .i64 n, .bool h] w (.tuple #[ob0, .int .i64 2]) := by
  have HK := Lib.hid hk
  have hc0 := Below.refl w.heap.size w
  clear hk
  go_enter Tryd.func11, Tryd.ntmps11
  go_wp2_with fail
  refine Calls.mono (HK.out _) ?_
  rintro e w1 ⟨rfl, hb1⟩
  obtain ⟨kk, ff⟩ := bcell hb1
  have hc1 : Below w.heap.size w w1 := under hb1
  have k1_0 : ∀ o, w1.cell? ⟨w.heap.size, o, none⟩ = _ := fun o => kk _ o (by first | assumption | omega | (simp; done) | (simp; omega))
  have f1_0 : ∀ o, w1.frozen? ⟨w.heap.size, o, none⟩ = _ := fun o => ff _ o (by first | assumption | omega | (simp; done) | (simp; omega))
  have z1_0 : w.heap.size < w1.heap.size := by have := hb1.size; (try simp at this); omega
  have k1_1 : ∀ o, w1.cell? ⟨w.heap.size+1, o, none⟩ = _ := fun o => kk _ o (by first | assumption | omega | (simp; done) | (simp; omega))
  have f1_1 : ∀ o, w1.frozen? ⟨w.heap.size+1, o, none⟩ = _ := fun o => ff _ o (by first | assumption | omega | (simp; done) | (simp; omega))
  have z1_1 : w.heap.size+1 < w1.heap.size := by have := hb1.size; (try simp at this); omega
  clear kk ff
  have hs1 := hc1.size
  clear hc0 hb1
  go_wp2_with fail
  refine bodyPost_ret (v := .tuple #[ob0, .int .i64 2]) (by simp [results, Tryd.results11, go_sem, k1_0, k1_1]) rfl ⟨rfl, by go_grown⟩
set_option maxHeartbeats 4000000 in
set_option maxRecDepth 20000 in
theorem rnew_ok (n : Int) (h : Bool) (w : World) (hk : ∀ w, Ret 14 #[obV n 0 0 0 0 0 0 0 0 h] w (.int .i64 0)) : Ret 12 #[.int .i64 n, .bool h] w (.tuple #[obV n 0 0 0 0 0 0 0 0 h, .int .i64 0]) := by
  have HK := Lib.hid hk
  have hc0 := Below.refl w.heap.size w
  clear hk
  go_enter Tryd.func12, Tryd.ntmps12
  go_wp2_with fail
  refine Calls.mono (HK.out _) ?_
  rintro e w1 ⟨rfl, hb1⟩
  obtain ⟨kk, ff⟩ := bcell hb1
  have hc1 : Below w.heap.size w w1 := under hb1
  have k1_0 : ∀ o, w1.cell? ⟨w.heap.size, o, none⟩ = _ := fun o => kk _ o (by first | assumption | omega | (simp; done) | (simp; omega))
  have f1_0 : ∀ o, w1.frozen? ⟨w.heap.size, o, none⟩ = _ := fun o => ff _ o (by first | assumption | omega | (simp; done) | (simp; omega))
  have z1_0 : w.heap.size < w1.heap.size := by have := hb1.size; (try simp at this); omega
  have k1_1 : ∀ o, w1.cell? ⟨w.heap.size+1, o, none⟩ = _ := fun o => kk _ o (by first | assumption | omega | (simp; done) | (simp; omega))
  have f1_1 : ∀ o, w1.frozen? ⟨w.heap.size+1, o, none⟩ = _ := fun o => ff _ o (by first | assumption | omega | (simp; done) | (simp; omega))
  have z1_1 : w.heap.size+1 < w1.heap.size := by have := hb1.size; (try simp at this); omega
  clear kk ff
  have hs1 := hc1.size
  clear hc0 hb1
  go_wp2_with fail
  refine bodyPost_ret (v := .tuple #[obV n 0 0 0 0 0 0 0 0 h, .int .i64 0]) (by simp [results, Tryd.results12, go_sem, k1_0, k1_1]) rfl ⟨rfl, by go_grown⟩
set_option maxHeartbeats 4000000 in
set_option maxRecDepth 20000 in
theorem rnew_bad (n : Int) (h : Bool) (w : World) (hk : ∀ w, Ret 14 #[obV n 0 0 0 0 0 0 0 0 h] w (.int .i64 2)) : Ret 12 #[.int .i64 n, .bool h] w (.tuple #[ob0, .int .i64 2]) := by
  have HK := Lib.hid hk
  have hc0 := Below.refl w.heap.size w
  clear hk
  go_enter Tryd.func12, Tryd.ntmps12
  go_wp2_with fail
  refine Calls.mono (HK.out _) ?_
  rintro e w1 ⟨rfl, hb1⟩
  obtain ⟨kk, ff⟩ := bcell hb1
  have hc1 : Below w.heap.size w w1 := under hb1
  have k1_0 : ∀ o, w1.cell? ⟨w.heap.size, o, none⟩ = _ := fun o => kk _ o (by first | assumption | omega | (simp; done) | (simp; omega))
  have f1_0 : ∀ o, w1.frozen? ⟨w.heap.size, o, none⟩ = _ := fun o => ff _ o (by first | assumption | omega | (simp; done) | (simp; omega))
  have z1_0 : w.heap.size < w1.heap.size := by have := hb1.size; (try simp at this); omega
  have k1_1 : ∀ o, w1.cell? ⟨w.heap.size+1, o, none⟩ = _ := fun o => kk _ o (by first | assumption | omega | (simp; done) | (simp; omega))
  have f1_1 : ∀ o, w1.frozen? ⟨w.heap.size+1, o, none⟩ = _ := fun o => ff _ o (by first | assumption | omega | (simp; done) | (simp; omega))
  have z1_1 : w.heap.size+1 < w1.heap.size := by have := hb1.size; (try simp at this); omega
  clear kk ff
  have hs1 := hc1.size
  clear hc0 hb1
  go_wp2_with fail
  refine bodyPost_ret (v := .tuple #[ob0, .int .i64 2]) (by simp [results, Tryd.results12, go_sem, k1_0, k1_1]) rfl ⟨rfl, by go_grown⟩
def newN (n : Int) (h : Bool) : Int := if oOk n (0, 0) (0, 0) (0, 0) (0, 0) h then n else 0
def newH (n : Int) (h : Bool) : Bool := if oOk n (0, 0) (0, 0) (0, 0) (0, 0) h then h else false
theorem fnew_c (n : Int) (h : Bool) (w : World) : Ret 11 #[.int .i64 n, .bool h] w (.tuple #[obV (newN n h) 0 0 0 0 0 0 0 0 (newH n h), .int .i64 (oErr n (0, 0) (0, 0) (0, 0) (0, 0) h)]) := by
  have hk := fun w => fcheck_c n 0 0 0 0 0 0 0 0 h w
  unfold oErr at hk
  unfold newN newH oErr
  cases ho : oOk n (0, 0) (0, 0) (0, 0) (0, 0) h
  · rw [ho] at hk; exact fnew_bad n h w hk
  · rw [ho] at hk; exact fnew_ok n h w hk
theorem rnew_c (n : Int) (h : Bool) (w : World) : Ret 12 #[.int .i64 n, .bool h] w (.tuple #[obV (newN n h) 0 0 0 0 0 0 0 0 (newH n h), .int .i64 (oErr n (0, 0) (0, 0) (0, 0) (0, 0) h)]) := by
  have hk := fun w => rcheck_c n 0 0 0 0 0 0 0 0 h w (by omega) (by omega) (by omega) (by omega)
  unfold oErr at hk
  unfold newN newH oErr
  cases ho : oOk n (0, 0) (0, 0) (0, 0) (0, 0) h
  · rw [ho] at hk; exact rnew_bad n h w hk
  · rw [ho] at hk; exact rnew_ok n h w hk
set_option maxHeartbeats 4000000 in
theorem ftext_bad (n s0 g0 s1 g1 s2 g2 s3 g3 : Int) (h : Bool) (w : World) (ho : oOk n (s0, g0) (s1, g1) (s2, g2) (s3, g3) h = false) : Ret 23 #[obV n s0 g0 s1 g1 s2 g2 s3 g3 h] w (.tuple #[.string ⟨#[]⟩, .int .i64 2]) := by
  have hk := fun w => fcheck_c n s0 g0 s1 g1 s2 g2 s3 g3 h w
  unfold oErr at hk
  rw [ho] at hk
  have HK := Lib.hid hk
  clear hk ho
  go_enter Tryd.func23, Tryd.ntmps23
  go_wp2_with fail
  refine Calls.mono (HK.out _) ?_
  rintro e w1 ⟨rfl, hb1⟩
  go_wp2_with fail
  go_returns
  exact ⟨rfl, off_alloc hb1⟩
end Go.Proofs.YtpegkcmomkdoeaaDoor
