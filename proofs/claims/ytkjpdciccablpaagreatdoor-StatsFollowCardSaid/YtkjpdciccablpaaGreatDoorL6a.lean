/- The pair of tables: do (chapter 37). -/
import Derived.Test.YtkjpdciccablpaaGreatDoorHPair2
import Derived.Test.YtkjpdciccablpaaGreatDoorHPair4
import Derived.BigQuiet
import Derived.Test.YtkjpdciccablpaaGreatDoorL4a
import Derived.Test.YtkjpdciccablpaaGreatDoorL3a
import Derived.Test.YtkjpdciccablpaaGreatDoorHWorks37
import Derived.Test.YtkjpdciccablpaaGreatDoorL0a
namespace Go.Proofs.YtkjpdciccablpaaGreatDoor
open Go.RowKit
set_option linter.unusedVariables false
set_option linter.unusedSimpArgs false
set_option maxHeartbeats 16000000
set_option maxRecDepth 20000
abbrev DeedT : TypeId := 27
theorem pset {w : World} {F : Nat → Prop} {pp B k : Nat} {T : TabR} {r : RS} {q : Int} (h : Pair w F pp T) (hG : GoodT B T) (hB : B ≤ 150) (hr : T.rs[k]? = some r) (h3 : r.st ≠ 3) (h4 : r.st ≠ 4) (hq : 2 ≤ q ∧ q ≤ 4) :
    Calls Tryz.prog 17 #[ptr pp, .int .i64 k, .int .i64 q] w fun e w' => e = .returned (.bool true) ∧ Pair w' (fun b => F b ∨ FreshL w w' b) pp (if r.st = 1 then closeT T k else triedT T k q) ∧ But F w w' := by
  have hS := hG.states _ (List.mem_of_getElem? hr)
  obtain ⟨st, tr, nx⟩ := r
  simp only at hS h3 h4
  rcases hS with ⟨h0, h1, h2⟩ | ⟨h0, _⟩ | ⟨h0, _⟩
  · subst h0
    subst h1
    subst h2
    exact pset1 h hG hB hr q
  · subst h0
    exact pset2 h hG hB hr hq
  · omega
theorem Pair.len {W : World} {F : Nat → Prop} {pp : Nat} {T : TabR} (h : Pair W F pp T) : ∃ p1 p2 vd a c, Row W pp #[ptr p1, ptr p2, vd, .slice a T.rs.length c] PairT ∧ F pp := by
  obtain ⟨F1, F2, p1, p2, vd, vs, h⟩ := h
  obtain ⟨a, c, rfl⟩ := h.stlen
  exact ⟨p1, p2, vd, a, c, h.row, h.ip⟩
theorem Pair.state {W : World} {F : Nat → Prop} {pp : Nat} {T : TabR} (h : Pair W F pp T) {k : Nat} {r : RS} (hr : T.rs[k]? = some r) : ∃ p1 p2 vd g c, Row W pp #[ptr p1, ptr p2, vd, .slice (some ⟨g, 0, none⟩) T.rs.length c] PairT ∧ g < W.heap.size ∧ W.cell? ⟨g, k, none⟩ = some (.int .i64 r.st) := by
  obtain ⟨F1, F2, p1, p2, vd, vs, h⟩ := h
  obtain ⟨g, c, rfl, hg, hc⟩ := h.state hr
  exact ⟨p1, p2, vd, g, c, h.row, hg, hc⟩
theorem doT_open {T : TabR} {kind which : Nat} (h : T.rs.length = 0 ∨ (kind % 3 = 0 ∧ T.rs.length < 60)) : doT T kind which = (openT T, 0, 1) := by
  unfold doT
  simp only
  rw [if_pos h]
theorem doT_rest {T : TabR} {kind which : Nat} {r : RS} (h : ¬ (T.rs.length = 0 ∨ (kind % 3 = 0 ∧ T.rs.length < 60))) (hr : T.rs[which % max T.rs.length 1]? = some r) : doT T kind which = if r.st = 3 ∨ r.st = 4 then (T, (0 : Int), (0 : Int)) else if r.st = 1 then (closeT T (which % max T.rs.length 1), 1, 2) else (triedT T (which % max T.rs.length 1) (2 + ((kind / 3 % 3 : Nat) : Int)), (2 : Int), 2 + ((kind / 3 % 3 : Nat) : Int)) := by
  unfold doT
  simp only
  rw [if_neg h, hr]
theorem do_end {w V W : World} {F : Nat → Prop} {pp kind which : Nat} {T T' : TabR} (hD : (doT T kind which).1 = T') (hP : Pair W (fun b => F b ∨ FreshL V W b) pp T') (hb : But F V W) (hc : Below w.heap.size w V) (hfin : ∀ b, F b → b < w.heap.size) : Pair W (fun b => F b ∨ FreshL w W b) pp (doT T kind which).1 ∧ But F w W := by
  rw [hD]
  have h1 := hc.size
  have h2 := hb.size
  refine ⟨hP.wide (fun b hb => hb.imp id (fun h => ⟨Nat.le_trans h1 h.1, h.2⟩)) (fun b hq => ?_), (but_of F hc).trans hb (fun _ _ h => h)⟩
  rcases hq with hq | hq
  · have := hfin b hq; omega
  · exact hq.2
theorem pdo {w : World} {F : Nat → Prop} {pp B : Nat} {T : TabR} {kind which : Nat} (h : Pair w F pp T) (hG : GoodT B T) (hB : B ≤ 150) (hk : kind < 256) (hw : which < 256) :
    Calls Tryz.prog 7 #[ptr pp, .agg #[.int .u8 kind, .int .u8 which]] w fun e w' => e = .returned (.tuple #[.int .i64 (doT T kind which).2.1, .int .i64 (doT T kind which).2.2, .bool true]) ∧ Pair w' (fun b => F b ∨ FreshL w w' b) pp (doT T kind which).1 ∧ But F w w' := by
  have hc := below_alloc w (.cells #[.int .u8 kind, .int .u8 which] DeedT)
  have r3 := Row.new (W := w) (cs := #[.int .u8 kind, .int .u8 which]) (t := DeedT)
  have hP := h.on hc
  have hfin := h.fin
  obtain ⟨n, hn⟩ : ∃ n, T.rs.length = n := ⟨_, rfl⟩
  have h60 := hG.most
  rw [hn] at h60
  obtain ⟨p1, p2, vd, a, c, rp, hFp⟩ := hP.len
  rw [hn] at rp
  obtain ⟨kk, hkk⟩ : ∃ kk, which % max n 1 = kk := ⟨_, rfl⟩
  have hki : (which : Int) % max (n : Int) 1 = (kk : Int) := by
    rw [← hkk]
    have e : max (n : Int) 1 = ((max n 1 : Nat) : Int) := by
      rcases Nat.lt_or_ge n 1 with h0 | h0
      · rw [show n = 0 by omega]; rfl
      · rw [Nat.max_eq_left h0, Int.max_eq_left (by omega)]
    rw [e]
    rfl
  have HP := Lib.hid hP
  have HKK := Lib.hid hkk
  have HF := Lib.hid hfin
  have HC := Lib.hid hc
  have HNN := Lib.hid hn
  have HGG := Lib.hid hG
  have m1 : max (n : Int) 1 ≠ 0 := by omega
  have hkn : n ≠ 0 → kk < n := fun h0 => by
    rw [← hkk]
    have : max n 1 = n := Nat.max_eq_left (by omega)
    rw [this]
    exact Nat.mod_lt _ (by omega)
  have r3lt := r3.lt
  go_enter Tryz.func7, Tryz.ntmps7
  go_upto_region 1 with fail
  generalize w.alloc _ = V at *
  have y1 := rp.cell
  have z1 := rp.lt
  have y3 := r3.cell
  have z3 := r3.lt
  go_upto_region 3 with fail
  rw [hki]
  by_cases hop : n = 0 ∨ (kind % 3 = 0 ∧ n < 60)
  · have HD := Lib.hid (doT_open (T := T) (kind := kind) (which := which) (by rw [hn]; exact hop))
    have hn60 : n < 60 := by omega
    have HO := Lib.hid (popen HP.out HGG.out (by rw [hn]; exact hn60))
    clear hP h hn hG hkk
    by_cases h0 : n = 0
    · subst h0
      go_wp2_with fail
      refine Calls.mono HO.out ?_
      rintro e W ⟨rfl, hP2, hb2⟩
      have H2 := Lib.hid hP2
      have HB := Lib.hid hb2
      clear hP2 hb2
      go_wp2_with fail
      go_returns
      exact ⟨by rw [HD.out]; rfl, do_end (by rw [HD.out]) H2.out HB.out HC.out HF.out⟩
    · have f0 : ((n : Int) == 0) = false := by rw [beq_eq_false_iff_ne]; omega
      have f1 : ((kind : Int) % 3 == 0) = true := by rw [beq_iff_eq]; omega
      have f1' : (kind : Int) % 3 = 0 := by omega
      have f2 : (n : Int) < 60 := by omega
      go_wp2_with fail
      refine Calls.mono HO.out ?_
      rintro e W ⟨rfl, hP2, hb2⟩
      have H2 := Lib.hid hP2
      have HB := Lib.hid hb2
      clear hP2 hb2
      go_wp2_with fail
      go_returns
      exact ⟨by rw [HD.out]; rfl, do_end (by rw [HD.out]) H2.out HB.out HC.out HF.out⟩
  · have h0 : n ≠ 0 := fun h => hop (.inl h)
    have hkl := hkn h0
    obtain ⟨r, hr⟩ : ∃ r, T.rs[kk]? = some r := ⟨_, List.getElem?_eq_getElem (by rw [hn]; exact hkl)⟩
    have HD0 := doT_rest (T := T) (kind := kind) (which := which) (r := r) (by rw [hn]; exact hop) (by rw [hn, hkk]; exact hr)
    rw [hn, hkk] at HD0
    have HD := Lib.hid HD0
    have HR := Lib.hid hr
    have f0 : ((n : Int) == 0) = false := by rw [beq_eq_false_iff_ne]; omega
    obtain ⟨p1', p2', vd', gs, cs, rp', hgs, ysc⟩ := hP.state hr
    rw [hn] at rp'
    have hrow := rp'.eq
    rw [rp.eq] at hrow
    clear HD0 hP h hn hG hkk hkn
    go_cut [33] (fun s33 wx => s33 = .bool false ∧ wx = V)
    case first =>
      by_cases hk3 : kind % 3 = 0
      · have f1 : ((kind : Int) % 3 == 0) = true := by rw [beq_iff_eq]; omega
        have f1' : (kind : Int) % 3 = 0 := by omega
        have f2 : ¬ ((n : Int) < 60) := by omega
        go_wp2_with fail
        go_meet
        exact ⟨rfl, rfl⟩
      · have f1 : ((kind : Int) % 3 == 0) = false := by rw [beq_eq_false_iff_ne]; omega
        have f1' : ¬ ((kind : Int) % 3 = 0) := by omega
        go_wp2_with fail
        go_meet
        exact ⟨rfl, rfl⟩
    case rest =>
      obtain ⟨rfl, hwc⟩ := hcut
      have hwc2 := hwc.symm
      clear hwc
      subst hwc2
      clear y1 rp hrow
      have y1 := rp'.cell
      have k0 : (0 : Int) ≤ (kk : Int) := by omega
      have k1 : (kk : Int) < (n : Int) := by omega
      obtain ⟨st, hst⟩ : ∃ x, r.st = x := ⟨_, rfl⟩
      rw [hst] at ysc
      have HST := Lib.hid hst
      by_cases h3 : st = 3
      · subst h3
        have HP0 := Lib.hid (show Pair V (fun b => F b ∨ FreshL V V b) pp T from HP.out.wide (fun b hb => .inl hb) (fun b hb => by
          rcases hb with hb | hb
          · exact HP.out.fin b hb
          · exact hb.2))
        have HT : RowKit.Hid (doT T kind which = (T, 0, 0)) := Lib.hid (by rw [HD.out, if_pos (.inl hst)])
        clear hr hst
        go_wp2_with fail
        go_returns
        exact ⟨by rw [HT.out]; rfl, do_end (by rw [HT.out]) HP0.out (But.refl F V) HC.out HF.out⟩
      by_cases h4 : st = 4
      · subst h4
        have HP0 := Lib.hid (show Pair V (fun b => F b ∨ FreshL V V b) pp T from HP.out.wide (fun b hb => .inl hb) (fun b hb => by
          rcases hb with hb | hb
          · exact HP.out.fin b hb
          · exact hb.2))
        have HT : RowKit.Hid (doT T kind which = (T, 0, 0)) := Lib.hid (by rw [HD.out, if_pos (.inr hst)])
        clear hr hst
        go_wp2_with fail
        go_returns
        exact ⟨by rw [HT.out]; rfl, do_end (by rw [HT.out]) HP0.out (But.refl F V) HC.out HF.out⟩
      have e3 : (st == 3) = false := by rw [beq_eq_false_iff_ne]; exact h3
      have e4 : (st == 4) = false := by rw [beq_eq_false_iff_ne]; exact h4
      have hq : 2 ≤ (2 : Int) + (kind : Int) / 3 % 3 ∧ (2 : Int) + (kind : Int) / 3 % 3 ≤ 4 := by omega
      have hqc : ((kind / 3 % 3 : Nat) : Int) = (kind : Int) / 3 % 3 := by omega
      have HS := Lib.hid (pset HP.out HGG.out hB HR.out (by rw [hst]; exact h3) (by rw [hst]; exact h4) hq)
      go_upto_region 8 with fail
      clear ysc y1
      go_wp2_with fail
      refine Calls.mono HS.out ?_
      rintro e W ⟨rfl, hP2, hb2⟩
      have h2f := hP2.fin
      obtain ⟨T2, hT2⟩ : ∃ T2, (if r.st = 1 then closeT T kk else triedT T kk (2 + (kind : Int) / 3 % 3)) = T2 := ⟨_, rfl⟩
      rw [hT2] at hP2
      obtain ⟨r2, hr2, hres⟩ : ∃ r2, T2.rs[kk]? = some r2 ∧ doT T kind which = (T2, st, r2.st) := by
        have hlen : kk < T.rs.length := (List.getElem?_eq_some_iff.1 HR.out).1
        by_cases h1 : r.st = 1
        · rw [if_pos h1] at hT2
          refine ⟨⟨2, 0, 1⟩, ?_, ?_⟩
          · rw [← hT2]
            show (T.rs.set kk ⟨2, 0, 1⟩)[kk]? = _
            rw [List.getElem?_set_self hlen]
          · rw [HD.out, if_neg (by rw [hst]; omega), if_pos h1, hT2, ← hst, h1]
        · rw [if_neg h1] at hT2
          have hS := HGG.out.states _ (List.mem_of_getElem? HR.out)
          have hst2 : st = 2 := by omega
          refine ⟨triedS r (2 + (kind : Int) / 3 % 3), ?_, ?_⟩
          · rw [← hT2]
            show (T.rs.set kk (triedS ((T.rs[kk]?).getD ⟨0, 0, 0⟩) (2 + (kind : Int) / 3 % 3)))[kk]? = _
            rw [List.getElem?_set_self hlen, HR.out]
            rfl
          · rw [HD.out, if_neg (by rw [hst]; omega), if_neg h1, hqc, hT2, hst2]
            have : (triedS r (2 + (kind : Int) / 3 % 3)).st = 2 + (kind : Int) / 3 % 3 := by
              unfold triedS
              split
              · rename_i h0; exact h0.symm
              · split
                · rename_i h0; exact h0.symm
                · show (2 : Int) = _; omega
            rw [this]
      have hn2 : T2.rs.length = n := by
        rw [← HNN.out, ← hT2]
        split
        · show (T.rs.set kk _).length = _; rw [List.length_set]
        · show (T.rs.set kk _).length = _; rw [List.length_set]
      obtain ⟨q1, q2, qd, g2, c2, rp2, hg2, ysc⟩ := hP2.state hr2
      rw [hn2] at rp2
      have y1 := rp2.cell
      have z1 := rp2.lt
      obtain ⟨st2, hst2⟩ : ∃ x, r2.st = x := ⟨_, rfl⟩
      rw [hst2] at ysc hres
      have HRES := Lib.hid hres
      have H2 := Lib.hid hP2
      have HB := Lib.hid hb2
      clear hP2 hb2 hr hst hr2 hst2 hres hT2 hn2 h2f y3 z3
      go_wp2_with fail
      go_quiet (fail)
      go_wp2_with fail
      go_returns
      exact ⟨by rw [HRES.out]; rfl, do_end (by rw [HRES.out]) (H2.out.on (below_nth (Below.refl _ _) _)) (HB.out.on (below_nth (Below.refl _ _) _)) HC.out HF.out⟩
end Go.Proofs.YtkjpdciccablpaaGreatDoor

/- StatsCounts (chapter 37): its walk; the deeds as lists. -/
namespace Go.Proofs.YtkjpdciccablpaaGreatDoor
open Go.RowKit
set_option linter.unusedVariables false
set_option linter.unusedSimpArgs false
set_option maxHeartbeats 16000000
set_option maxRecDepth 20000
/-- A deed, by its numbers. -/
structure DeR where
  k : Nat
  w : Nat
  hk : k < 256
  hw : w < 256
abbrev leavesD : List Leaf := [.int .u8, .int .u8]
def deN (x : DeR) : List Value := [.int .u8 x.k, .int .u8 x.w]
def HoldsD (w : World) (v : Value) (L : List DeR) : Prop := ∃ p cap, v = .slice p L.length cap ∧ L.length ≤ cap ∧ cap ≤ maxLen ∧ (L.length = 0 ∨ ∃ b off, p = some ⟨b, off, none⟩ ∧ b < w.heap.size ∧ ∀ i x, L[i]? = some x → w.cell? ⟨b, off + i * 2, none⟩ = some (.int .u8 x.k) ∧ w.cell? ⟨b, off + i * 2 + 1, none⟩ = some (.int .u8 x.w))
theorem b8d {n : Int} (h : (Lit.int .u8 n).wf = true) : 0 ≤ n ∧ n ≤ 255 := by
  have := bounds_u8 h
  omega
theorem de2 {l : List Value} (h : OkL leavesD l) : ∃ x : DeR, l = deN x := by
  obtain ⟨_, _, rfl, ⟨a, rfl, wa⟩, h1⟩ := OkL_cons h
  obtain ⟨_, _, rfl, ⟨b, rfl, wb⟩, h2⟩ := OkL_cons h1
  obtain rfl := OkL_nil h2
  have ba := b8d wa
  have bb := b8d wb
  refine ⟨⟨a.toNat, b.toNat, by omega, by omega⟩, ?_⟩
  unfold deN
  simp only
  rw [Int.toNat_of_nonneg ba.1, Int.toNat_of_nonneg bb.1]
theorem list_ofD {α β : Type} (f : β → α) (E : Nat → α) : ∀ n, (∀ i, i < n → ∃ x, E i = f x) → ∃ l : List β, l.length = n ∧ ∀ i (x : β), l[i]? = some x → E i = f x
  | 0, _ => ⟨[], rfl, fun i x h => by simp at h⟩
  | n + 1, h => by
    obtain ⟨l, hl, hi⟩ := list_ofD f E n (fun i hi => h i (by omega))
    obtain ⟨x, hx⟩ := h n (by omega)
    refine ⟨l ++ [x], by simp [hl], fun i y hy => ?_⟩
    rcases Nat.lt_or_ge i l.length with h1 | h1
    · rw [List.getElem?_append_left h1] at hy
      exact hi i y hy
    · rw [List.getElem?_append_right h1] at hy
      rcases Nat.eq_zero_or_pos (i - l.length) with h2 | h2
      · rw [h2] at hy
        simp at hy
        subst hy
        rw [show i = n by omega]
        exact hx
      · rw [List.getElem?_eq_none (by simp; omega)] at hy
        cases hy
theorem sl_de {w : World} {v : Value} {n : Nat} {E : Nat → List Value} (h : Sl w v leavesD n E) : ∃ L : List DeR, HoldsD w v L := by
  obtain ⟨⟨p, cap, rfl, h1, h2, h3⟩, hok⟩ := h
  obtain ⟨L, hL, hi⟩ := list_ofD deN E n (fun i hi => de2 (hok i hi))
  refine ⟨L, p, cap, by rw [hL], by omega, h2, ?_⟩
  rcases h3 with h3 | ⟨b, off, rfl, hb, hc⟩
  · exact .inl (by omega)
  · refine .inr ⟨b, off, rfl, hb, fun i x hx => ?_⟩
    have hlt := (List.getElem?_eq_some_iff.1 hx).1
    have h4 := hi i x hx
    have q0 := hc i (by omega) 0 (by decide)
    have q1 := hc i (by omega) 1 (by decide)
    rw [h4] at q0 q1
    exact ⟨q0, q1⟩
def runT (T : TabR) (l : List DeR) : TabR := l.foldl (fun T d => (doT T d.k d.w).1) T
theorem runT_good {B : Nat} : ∀ (l : List DeR) {T : TabR}, GoodT B T → GoodT (B + l.length) (runT T l)
  | [], T, h => h
  | d :: l, T, h => by
    have h1 := doT_good h d.k d.w
    have h2 : ∀ {B' : Nat} (l' : List DeR) {T' : TabR}, GoodT B' T' → GoodT (B' + l'.length) (runT T' l') := fun {B'} l' => by
      intro T' h'
      induction l' generalizing T' B' with
      | nil => exact h'
      | cons d' l' ih =>
        have := ih (doT_good h' d'.k d'.w)
        rw [List.length_cons, show B' + (l'.length + 1) = B' + 1 + l'.length by omega]
        exact this
    have h3 := h2 l h1
    rw [List.length_cons, show B + (l.length + 1) = B + 1 + l.length by omega]
    exact h3
theorem runT_next (T : TabR) {L : List DeR} {i : Nat} {d : DeR} (h : L[i]? = some d) : runT T (L.take (i + 1)) = (doT (runT T (L.take i)) d.k d.w).1 := by
  rw [List.take_add_one, h]
  unfold runT
  rw [List.foldl_append]
  rfl
theorem ofV_form (rs : List RS) (q : Int) : ∃ a b c d e r, ofV rs q = .tuple #[.agg #[.int .i64 a, .int .i64 b, .int .i64 c, .int .i64 d, .int .i64 e], .int .i64 r] := by
  unfold ofV
  split
  · exact ⟨_, _, _, _, _, _, rfl⟩
  · exact ⟨_, _, _, _, _, _, rfl⟩
theorem good_run (L : List DeR) (i : Nat) : GoodT i (runT emptyT (L.take i)) := by
  have h := runT_good (L.take i) good_empty
  exact h.mono (by rw [List.length_take]; omega)
theorem Pair.tabs {W : World} {F : Nat → Prop} {pp : Nat} {T : TabR} (h : Pair W F pp T) : ∃ p1 p2 vd vs F1 F2, Row W pp #[ptr p1, ptr p2, vd, vs] PairT ∧ Tab W F1 p1 T.sl T.rs ∧ RTab W F2 p2 T.sl T.rs := by
  obtain ⟨F1, F2, p1, p2, vd, vs, h⟩ := h
  exact ⟨p1, p2, vd, vs, F1, F2, h.row, h.t1, h.t2⟩
theorem counts_walk (v : Value) (n : Nat) (E : Nat → List Value) (q : Int) (w : World) (hE : Env w) (hsl : Sl w v leavesD n E) (q0 : -9223372036854775808 ≤ q) (q1 : q ≤ 9223372036854775807) :
    Ret 3 #[v, .int .i64 q] w (.bool true) := by
  obtain ⟨L, p, cap, rfl, hcap, hmax, hel⟩ := sl_de hsl
  have HE := Lib.hid hE
  have HEL := Lib.hid hel
  obtain ⟨N, hN1, hN2, eN⟩ : ∃ N : Nat, N ≤ L.length ∧ N ≤ 80 ∧ min (L.length : Int) 80 = (N : Int) := ⟨min L.length 80, by omega, by omega, by omega⟩
  have eM : max (N : Int) 0 = (N : Int) := by omega
  have HG := Lib.hid (good_run L)
  clear hel hE hsl
  go_enter Tryz.func3, Tryz.ntmps3
  go_wp2_with fail
  refine Calls.mono (newPair_c _) ?_
  rintro e V1 ⟨pp, rfl, hP, hc⟩
  go_wp2_with fail
  clear eN eM
  go_loopw [6, 23] (fun ov iv wr => ∃ (i : Nat) (F : Nat → Prop), i ≤ N ∧ ov = .bool true ∧ iv = .int .i64 i ∧ Pair wr F pp (runT emptyT (L.take i)) ∧ (∀ b, F b → w.heap.size ≤ b) ∧ Below w.heap.size w wr) (fun _ iv _ => N - (intOf iv).toNat)
  case atStart => exact ⟨0, _, Nat.zero_le _, rfl, rfl, hP, fun b hb => hb.1, hc⟩
  case round =>
    clear hP hc
    obtain ⟨i, F, hiN, rfl, rfl, hP, hF, hc⟩ := hrel
    by_cases hlt : i < N
    · rcases HEL.out with h0 | ⟨b, off, rfl, hb, hcell⟩
      · omega
      obtain ⟨x, hx⟩ : ∃ x, L[i]? = some x := ⟨L[i]'(by omega), List.getElem?_eq_getElem _⟩
      obtain ⟨d0, d1⟩ := hcell i x hx
      replace d0 := (hc.cell (p := ⟨b, off + i * 2, none⟩) hb).trans d0
      replace d1 := (hc.cell (p := ⟨b, off + i * 2 + 1, none⟩) hb).trans d1
      have HX := Lib.hid hx
      clear hcell hx
      have i0 : (0 : Int) ≤ (i : Int) := by omega
      have i1 : (i : Int) < (N : Int) := by omega
      go_upto_region 5 with fail
      clear d0 d1
      have r8 := Row.new (W := wr) (cs := #[.int .u8 (x.k : Int), .int .u8 (x.w : Int)]) (t := DeedT)
      have hn := below_alloc wr (.cells #[.int .u8 (x.k : Int), .int .u8 (x.w : Int)] DeedT)
      replace hP := hP.on hn
      replace hc := chain hc hn
      clear hn
      generalize wr.alloc _ = V at *
      generalize wr.heap.size = a8 at *
      have y8 := r8.cell
      have z8 := r8.lt
      have CD := Lib.hid (pdo (B := i) hP (HG.out i) (by omega) x.hk x.hw)
      go_wp2_with fail
      refine Calls.mono CD.out ?_
      rintro e V2 ⟨rfl, hP2, hb2⟩
      rw [← runT_next emptyT HX.out] at hP2
      have hc2 : Below w.heap.size w V2 := hc.trans (hb2.below hc.size (fun k hk h => by have := hF k h; omega))
      have H2 := Lib.hid hP2
      have hVs := hc.size
      clear hP hc hP2 hb2 y8 z8 r8 CD
      go_wp2_with fail
      go_roundw
      case rel => exact ⟨i + 1, _, by omega, rfl, by go_num, H2.out, fun b hb => by
        rcases hb with hb | hb
        · exact hF b hb
        · exact Nat.le_trans hVs hb.1, hc2⟩
      case measure => simp [intOf]; omega
    · obtain rfl : i = N := by omega
      obtain ⟨p1, p2, vd, vs, F1, F2, rp, hT1, hT2⟩ := hP.tabs
      obtain ⟨a1, b1, c1, d1, e1, r1, hV⟩ := ofV_form (runT emptyT (L.take i)).rs q
      have C1 := Lib.hid (of_c q hT1)
      have C2 := Lib.hid (fun W (hb : Below wr.heap.size wr W) => rof_c q (hT2.on hb))
      rw [hV] at C1 C2
      have HT2 := Lib.hid hT2
      have y1 := rp.cell
      have z1 := rp.lt
      clear hT1 hT2 hV hP hF
      go_wp2_with fail
      refine Calls.mono C1.out ?_
      rintro e V ⟨rfl, hn⟩
      have rp2 := rp.on hn
      have hc2 := chain hc hn
      clear y1 z1 rp
      go_upto_region 11 with fail
      have r9 := Row.new (W := V) (cs := #[.int .i64 a1, .int .i64 b1, .int .i64 c1, .int .i64 d1, .int .i64 e1]) (t := 31)
      have hn2 := below_alloc V (.cells #[.int .i64 a1, .int .i64 b1, .int .i64 c1, .int .i64 d1, .int .i64 e1] 31)
      replace rp2 := rp2.on hn2
      replace hc2 := chain hc2 hn2
      have hw2 := chain hn hn2
      clear hn hn2
      generalize V.alloc _ = V3 at *
      generalize V.heap.size = a9 at *
      have y1 := rp2.cell
      have z1 := rp2.lt
      go_wp2_with fail
      refine Calls.mono (C2.out _ hw2) ?_
      rintro e V4 ⟨rfl, hn⟩
      replace r9 := r9.on hn
      replace hc2 := chain hc2 hn
      clear y1 z1 hn rp2 hw2
      go_upto_region 12 with fail
      have hn2 := below_alloc V4 (.cells #[.int .i64 a1, .int .i64 b1, .int .i64 c1, .int .i64 d1, .int .i64 e1] 41)
      have r11 := Row.new (W := V4) (cs := #[.int .i64 a1, .int .i64 b1, .int .i64 c1, .int .i64 d1, .int .i64 e1]) (t := 41)
      replace r9 := r9.on hn2
      replace hc2 := chain hc2 hn2
      clear hn2
      generalize V4.alloc _ = V5 at *
      generalize V4.heap.size = a11 at *
      have y9 := r9.cell
      have z9 := r9.lt
      have y11 := r11.cell
      have z11 := r11.lt
      have HW := Lib.hid (works V5 (HE.out.on hc2))
      go_wp2_with fail
      refine Calls.mono HW.out ?_
      rintro e V6 ⟨rfl, hn⟩
      have hc3 := chain hc2 hn
      clear y9 z9 y11 z11 hn
      go_wp2_with fail
      go_returns
      exact ⟨rfl, hc3⟩
end Go.Proofs.YtkjpdciccablpaaGreatDoor
