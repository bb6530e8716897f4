/- The pair of tables of chapter 37's statements: what it is in memory; newPair. -/
import Derived.Test.YtkjpdciccablpaaGreatDoorL3a
import Derived.Test.YtkjpdciccablpaaGreatDoorHTab7
import Derived.Test.YtkjpdciccablpaaGreatDoorHRTab6
import Derived.Test.YtkjpdciccablpaaGreatDoorL4a
namespace Go.Proofs.YtkjpdciccablpaaGreatDoor
open Go.RowKit
set_option linter.unusedVariables false
set_option linter.unusedSimpArgs false
set_option maxHeartbeats 16000000
set_option maxRecDepth 20000
abbrev PairT : TypeId := 40
abbrev DeT : TypeId := 87
abbrev IntT : TypeId := 3
def deC (d : Nat × Int) : List Value := [.int .i64 1, .int .i64 d.1, .int .u32 d.2]
def deL (l : List (Nat × Int)) : List (List Value) := l.map deC
def stL (l : List RS) : List (List Value) := l.map fun r => [.int .i64 r.st]
theorem deL_len (l : List (Nat × Int)) : (deL l).length = l.length := by simp [deL]
theorem stL_len (l : List RS) : (stL l).length = l.length := by simp [stL]
theorem deL_get {l : List (Nat × Int)} {k : Nat} {d : Nat × Int} (h : l[k]? = some d) : (deL l)[k]? = some (deC d) := by simp [deL, h]
theorem stL_get {l : List RS} {k : Nat} {r : RS} (h : l[k]? = some r) : (stL l)[k]? = some [.int .i64 r.st] := by simp [stL, h]
theorem stL_set (l : List RS) (k : Nat) (r : RS) : stL (l.set k r) = (stL l).set k [.int .i64 r.st] := by simp [stL, List.map_set]
theorem deL_one {l : List (Nat × Int)} : ∀ c ∈ deL l, ∀ u ∈ c, u.oneCell' = true := by
  intro c hc u hu
  obtain ⟨d, _, rfl⟩ := List.mem_map.1 hc
  simp only [deC, List.mem_cons, List.not_mem_nil, or_false] at hu
  rcases hu with rfl | rfl | rfl <;> rfl
theorem stL_one {l : List RS} : ∀ c ∈ stL l, ∀ u ∈ c, u.oneCell' = true := by
  intro c hc u hu
  obtain ⟨d, _, rfl⟩ := List.mem_map.1 hc
  rw [List.mem_singleton.1 hu]
  rfl
structure PairIs (W : World) (F F1 F2 : Nat → Prop) (pp : Nat) (T : TabR) (p1 p2 : Nat) (vd vs : Value) : Prop where
  row : Row W pp #[ptr p1, ptr p2, vd, vs] PairT
  t1 : Tab W F1 p1 T.sl T.rs
  t2 : RTab W F2 p2 T.sl T.rs
  ds : OwnsC DeT 3 0 W vd (deL T.ds)
  st : OwnsC IntT 1 0 W vs (stL T.rs)
  i1 : ∀ b, F1 b → F b
  i2 : ∀ b, F2 b → F b
  ip : F pp
  id : ∀ b, vd.ownBlock = some b → F b
  is : ∀ b, vs.ownBlock = some b → F b
  fin : ∀ b, F b → b < W.heap.size
  n12 : ∀ b, F1 b → ¬ F2 b
  n1p : ¬ F1 pp
  n2p : ¬ F2 pp
  nd : ∀ b, vd.ownBlock = some b → ¬ F1 b ∧ ¬ F2 b
  ns : ∀ b, vs.ownBlock = some b → ¬ F1 b ∧ ¬ F2 b
def Pair (W : World) (F : Nat → Prop) (pp : Nat) (T : TabR) : Prop := ∃ F1 F2 p1 p2 vd vs, PairIs W F F1 F2 pp T p1 p2 vd vs
section
variable {W W' : World} {F F1 F2 : Nat → Prop} {pp : Nat} {T : TabR} {p1 p2 : Nat} {vd vs : Value}
theorem PairIs.but {G : Nat → Prop} (h : PairIs W F F1 F2 pp T p1 p2 vd vs) (hb : But G W W') (hd : ∀ b, F b → ¬ G b) : PairIs W' F F1 F2 pp T p1 p2 vd vs :=
  { h with
    row := hb.row h.row (hd pp h.ip)
    t1 := h.t1.but hb (fun b hb => hd b (h.i1 b hb))
    t2 := h.t2.but hb (fun b hb => hd b (h.i2 b hb))
    ds := h.ds.via (fun i hi => hb.block i (h.ds.lt i hi).2 (hd i (h.id i hi)))
    st := h.st.via (fun i hi => hb.block i (h.st.lt i hi).2 (hd i (h.is i hi)))
    fin := fun b hF => Nat.lt_of_lt_of_le (h.fin b hF) hb.size }
theorem PairIs.on (h : PairIs W F F1 F2 pp T p1 p2 vd vs) (hb : Below W.heap.size W W') : PairIs W' F F1 F2 pp T p1 p2 vd vs := h.but (but_of (fun _ => False) hb) (fun _ _ h => h)
theorem PairIs.drew (h : PairIs W F F1 F2 pp T p1 p2 vd vs) : PairIs W.drew F F1 F2 pp T p1 p2 vd vs := h.on ((Below.refl _ _).drew)
theorem Pair.on (h : Pair W F pp T) (hb : Below W.heap.size W W') : Pair W' F pp T := by
  obtain ⟨F1, F2, p1, p2, vd, vs, h⟩ := h
  exact ⟨F1, F2, p1, p2, vd, vs, h.on hb⟩
theorem Pair.but {G : Nat → Prop} (h : Pair W F pp T) (hb : But G W W') (hd : ∀ b, F b → ¬ G b) : Pair W' F pp T := by
  obtain ⟨F1, F2, p1, p2, vd, vs, h⟩ := h
  exact ⟨F1, F2, p1, p2, vd, vs, h.but hb hd⟩
theorem Pair.fin (h : Pair W F pp T) : ∀ b, F b → b < W.heap.size := by
  obtain ⟨F1, F2, p1, p2, vd, vs, h⟩ := h
  exact h.fin
theorem Pair.wide {G : Nat → Prop} (h : Pair W F pp T) (hF : ∀ b, F b → G b) (hG : ∀ b, G b → b < W.heap.size) : Pair W G pp T := by
  obtain ⟨F1, F2, p1, p2, vd, vs, h⟩ := h
  exact ⟨F1, F2, p1, p2, vd, vs, { h with i1 := fun b hb => hF b (h.i1 b hb), i2 := fun b hb => hF b (h.i2 b hb), ip := hF _ h.ip, id := fun b hb => hF b (h.id b hb), is := fun b hb => hF b (h.is b hb), fin := hG }⟩
theorem PairIs.stlen (h : PairIs W F F1 F2 pp T p1 p2 vd vs) : ∃ a c, vs = .slice a T.rs.length c := by
  obtain ⟨a, c, e⟩ := h.st.len
  rw [stL_len] at e
  exact ⟨a, c, e⟩
theorem PairIs.state (h : PairIs W F F1 F2 pp T p1 p2 vd vs) {k : Nat} {r : RS} (hr : T.rs[k]? = some r) : ∃ g c, vs = .slice (some ⟨g, 0, none⟩) T.rs.length c ∧ g < W.heap.size ∧ W.cell? ⟨g, k, none⟩ = some (.int .i64 r.st) := by
  obtain ⟨g, c, e, hg, hc⟩ := h.st.cells (stL_get hr)
  rw [stL_len] at e
  have h0 := hc 0 (by omega)
  simp only [Nat.mul_one, Nat.add_zero, List.getElem?_cons_zero] at h0
  exact ⟨g, c, e, hg, h0⟩
theorem PairIs.desc (h : PairIs W F F1 F2 pp T p1 p2 vd vs) {k : Nat} {d : Nat × Int} (hd : T.ds[k]? = some d) : ∃ g c, vd = .slice (some ⟨g, 0, none⟩) T.ds.length c ∧ g < W.heap.size ∧ W.cell? ⟨g, k * 3, none⟩ = some (.int .i64 1) ∧ W.cell? ⟨g, k * 3 + 1, none⟩ = some (.int .i64 d.1) ∧ W.cell? ⟨g, k * 3 + 2, none⟩ = some (.int .u32 d.2) := by
  obtain ⟨g, c, e, hg, hc⟩ := h.ds.cells (deL_get hd)
  rw [deL_len] at e
  exact ⟨g, c, e, hg, hc 0 (by omega), hc 1 (by omega), hc 2 (by omega)⟩
end
theorem newPair_c (w : World) : Calls Tryz.prog 6 #[] w fun e w' => ∃ pp, e = .returned (.tuple #[ptr pp, .bool true]) ∧ Pair w' (FreshL w w') pp emptyT ∧ Below w.heap.size w w' := by
  go_enter Tryz.func6, Tryz.ntmps6
  go_wp2_with fail
  refine Calls.mono (tnew_c _) ?_
  rintro e V1 ⟨p1, rfl, h1, hc1⟩
  have H1 := Lib.hid h1
  have HC1 := Lib.hid hc1
  clear h1 hc1
  go_wp2_with fail
  refine Calls.mono (rtnew_c _) ?_
  rintro e V2 ⟨p2, rfl, h2, hc2⟩
  have H2 := Lib.hid h2
  have HC2 := Lib.hid hc2
  clear h2 hc2
  go_wp2_with fail
  go_returns
  have hb := below_alloc V2 (.cells #[ptr p1, ptr p2, .slice none 0 0, .slice none 0 0] PairT)
  have rp := Row.new (W := V2) (cs := #[ptr p1, ptr p2, .slice none 0 0, .slice none 0 0]) (t := PairT)
  have s1 := HC1.out.size
  have s2 := HC2.out.size
  have s3 := hb.size
  have s4 := rp.lt
  have hc12 := chain HC1.out HC2.out
  refine ⟨_, rfl, ⟨FreshL w V1, FreshL V1 V2, p1, p2, .slice none 0 0, .slice none 0 0, {
    row := rp
    t1 := (H1.out.on HC2.out).on hb
    t2 := H2.out.on hb
    ds := OwnsC.nil _ _ _ _
    st := OwnsC.nil _ _ _ _
    i1 := fun b hb => ⟨hb.1, Nat.lt_of_lt_of_le hb.2 (Nat.le_trans s2 s3)⟩
    i2 := fun b hb => ⟨Nat.le_trans s1 hb.1, Nat.lt_of_lt_of_le hb.2 s3⟩
    ip := ⟨Nat.le_trans s1 s2, s4⟩
    id := fun b hb => by cases hb
    is := fun b hb => by cases hb
    fin := fun b hb => hb.2
    n12 := fun b h1 h2 => by have := h1.2; have := h2.1; omega
    n1p := fun h => by have := h.2; omega
    n2p := fun h => by have := h.2; omega
    nd := fun b hb => by cases hb
    ns := fun b hb => by cases hb }⟩, chain hc12 hb⟩
end Go.Proofs.YtkjpdciccablpaaGreatDoor

/- The pair of tables: what set calls, in its own words (chapter 37). -/
namespace Go.Proofs.YtkjpdciccablpaaGreatDoor
open Go.RowKit
set_option linter.unusedVariables false
set_option linter.unusedSimpArgs false
set_option maxHeartbeats 16000000
set_option maxRecDepth 20000
theorem ptget {W : World} {F : Nat → Prop} {p : Nat} {sl : List SlotR} {rs : List RS} {k : Nat} {r : RS} (h : Tab W F p sl rs) (hr : rs[k]? = some r) : Ret 31 #[ptr p, .int .i64 ((k : Int) + 1)] W (.tuple #[resV k r, .int .i64 0]) := by
  obtain ⟨z, m, cs, v, h⟩ := h
  exact tget_c h hr
theorem rptget {W : World} {F : Nat → Prop} {p : Nat} {sl : List SlotR} {rs : List RS} {k : Nat} {r : RS} (h : RTab W F p sl rs) (hr : rs[k]? = some r) : Ret 32 #[ptr p, .int .i64 ((k : Int) + 1)] W (.tuple #[resV k r, .int .i64 0]) := by
  obtain ⟨z, vs, vl, vr, h⟩ := h
  exact rget_c h hr
theorem ptclose {W : World} {F : Nat → Prop} {p : Nat} {sl : List SlotR} {rs : List RS} {i k : Nat} {g : Int} (h : Tab W F p sl rs) (hi : sl[i]? = some ⟨some k, g⟩) (hg9 : g ≤ 900) (hu : ∀ (j : Nat) (g' : Int), sl[j]? = some ⟨some k, g'⟩ → j = i) :
    Calls Tryz.prog 33 #[ptr p, dV 1 i g] W fun e w' => (∃ b, e = .returned (.tuple #[.int .i64 ((k : Int) + 1), .bool b, .int .i64 0])) ∧ Tab w' F p (sl.set i ⟨none, g + 1⟩) rs ∧ But F W w' := by
  obtain ⟨z, m, cs, v, h⟩ := h
  refine (tclose_c h hi hg9 hu).mono ?_
  rintro e V ⟨h1, ⟨cs', h2⟩, h3⟩
  exact ⟨h1, ⟨z, m, cs', v, h2⟩, h3⟩
theorem rptclose {W : World} {F : Nat → Prop} {p : Nat} {sl : List SlotR} {rs : List RS} {i k : Nat} {g : Int} (h : RTab W F p sl rs) (hi : sl[i]? = some ⟨some k, g⟩) (hg9 : g ≤ 900) :
    Calls Tryz.prog 34 #[ptr p, dV 1 i g] W fun e w' => (∃ b, e = .returned (.tuple #[.int .i64 ((k : Int) + 1), .bool b, .int .i64 0])) ∧ RTab w' (fun b => F b ∨ FreshL W w' b) p (sl.set i ⟨none, g + 1⟩) rs ∧ But F W w' := by
  obtain ⟨z, vs, vl, vr, h⟩ := h
  exact rtclose_c h hi hg9
theorem ptset {W : World} {F : Nat → Prop} {p : Nat} {sl : List SlotR} {rs : List RS} {k : Nat} {r r' : RS} (h : Tab W F p sl rs) (hr : rs[k]? = some r) (hst : r'.st ≠ 1) (hok : rErr 1 k 1 r'.st (whyS r'.st) r'.tr r'.nx tagB = 0) (hn : ∀ (i k' : Nat) (g : Int), sl[i]? = some ⟨some k', g⟩ → k' ≠ k) :
    Calls Tryz.prog 39 #[ptr p, .int .i64 ((k : Int) + 1), resV k r'] W fun e w' => e = .returned (.int .i64 0) ∧ Tab w' F p sl (rs.set k r') ∧ But F W w' := by
  obtain ⟨z, m, cs, v, h⟩ := h
  refine (tset_c h hr hst hok hn).mono ?_
  rintro e V ⟨h1, h2, h3⟩
  exact ⟨h1, ⟨z, m, cs, v, h2⟩, h3⟩
theorem rptset {W : World} {F : Nat → Prop} {p : Nat} {sl : List SlotR} {rs : List RS} {k : Nat} {r r' : RS} (h : RTab W F p sl rs) (hr : rs[k]? = some r) (hst : r'.st ≠ 1) (hok : rErr 1 k 1 r'.st (whyS r'.st) r'.tr r'.nx tagB = 0) (hn : ∀ (i k' : Nat) (g : Int), sl[i]? = some ⟨some k', g⟩ → k' ≠ k) :
    Calls Tryz.prog 40 #[ptr p, .int .i64 ((k : Int) + 1), resV k r'] W fun e w' => e = .returned (.int .i64 0) ∧ RTab w' (fun b => F b ∨ FreshL W w' b) p sl (rs.set k r') ∧ But F W w' := by
  obtain ⟨z, vs, vl, vr, h⟩ := h
  exact rset_c h hr hst hok hn
theorem live_ok {k : Nat} (hk : k < 60) : rErr 1 k 1 1 0 0 0 tagB = 0 := by
  have hd : dOk 64 1 k 1 = true := by unfold dOk; simp; omega
  have hp : pOk 1 k 1 1 0 0 0 = true := by rw [pOk_1 hd]; decide
  unfold rErr
  rw [if_pos hp]
  decide
theorem close_val {k : Nat} (hk : k < 60) : closeV 1 k 1 1 0 0 0 tagB 1 1 = .tuple #[resV k ⟨2, 0, 1⟩, .int .i64 0] := by
  have h1 := live_ok hk
  have h2 : chkE 1 k 1 1 0 0 0 tagB (inB 1 1 3 && isT 1) 1 = 0 := by
    unfold chkE
    rw [h1]
    decide
  unfold closeV
  rw [if_pos h2]
  rfl
theorem tried_val {k : Nat} (hk : k < 60) {tr nx q a : Int} (ht : 0 ≤ tr ∧ tr ≤ 200) (hn : nx = 1 ∨ nx = 2) (hq : (q = 2 ∧ a = 2) ∨ (q = 3 ∧ a = 1) ∨ (q = 4 ∧ a = 3)) : triedV 1 k 1 2 1 tr nx tagB a 1 1 = .tuple #[resV k (triedS ⟨2, tr, nx⟩ q), .int .i64 0] := by
  have h1 : rErr 1 k 1 2 1 tr nx tagB = 0 := res_ok (r := ⟨2, tr, nx⟩) hk (.inl ⟨rfl, ht.1, ht.2, hn⟩)
  have h2 : chkE 1 k 1 2 1 tr nx tagB (triedA a 1 1) 2 = 0 := by
    unfold chkE
    rw [h1]
    rcases hq with ⟨_, rfl⟩ | ⟨_, rfl⟩ | ⟨_, rfl⟩ <;> decide
  unfold triedV
  rw [if_pos h2]
  rcases hq with ⟨rfl, rfl⟩ | ⟨rfl, rfl⟩ | ⟨rfl, rfl⟩
  · rw [if_neg (by decide), if_neg (by decide), if_neg (by omega)]
    rfl
  · rfl
  · rfl
theorem pres_close (k : Nat) (hk : k < 60) (W : World) : Ret 35 #[resV k ⟨1, 0, 0⟩, .int .i64 1, .int .i64 1] W (.tuple #[resV k ⟨2, 0, 1⟩, .int .i64 0]) := by
  rw [← close_val hk]
  exact close_c 1 k 1 1 0 0 0 1 1 tagB W (by omega) (by omega) (by decide)
theorem rpres_close (k : Nat) (hk : k < 60) (W : World) : Ret 36 #[resV k ⟨1, 0, 0⟩, .int .i64 1, .int .i64 1] W (.tuple #[resV k ⟨2, 0, 1⟩, .int .i64 0]) := by
  rw [← close_val hk]
  exact rclose_c 1 k 1 1 0 0 0 1 1 tagB W (by omega) (by decide)
theorem pres_tried (k : Nat) (hk : k < 60) {tr nx q a : Int} (ht : 0 ≤ tr ∧ tr ≤ 200) (hn : nx = 1 ∨ nx = 2) (hq : (q = 2 ∧ a = 2) ∨ (q = 3 ∧ a = 1) ∨ (q = 4 ∧ a = 3)) (W : World) : Ret 37 #[resV k ⟨2, tr, nx⟩, .int .i64 a, .int .i64 1, .int .i64 1] W (.tuple #[resV k (triedS ⟨2, tr, nx⟩ q), .int .i64 0]) := by
  rw [← tried_val hk ht hn hq]
  exact tried_c 1 k 1 2 1 tr nx a 1 1 tagB W (by omega) (by omega) (by decide)
theorem rpres_tried (k : Nat) (hk : k < 60) {tr nx q a : Int} (ht : 0 ≤ tr ∧ tr ≤ 200) (hn : nx = 1 ∨ nx = 2) (hq : (q = 2 ∧ a = 2) ∨ (q = 3 ∧ a = 1) ∨ (q = 4 ∧ a = 3)) (W : World) : Ret 38 #[resV k ⟨2, tr, nx⟩, .int .i64 a, .int .i64 1, .int .i64 1] W (.tuple #[resV k (triedS ⟨2, tr, nx⟩ q), .int .i64 0]) := by
  rw [← tried_val hk ht hn hq]
  exact rtried_c 1 k 1 2 1 tr nx a 1 1 tagB W (by omega) (by decide)
/-- What a live resource's descriptor is. -/
theorem live_slot {B : Nat} {T : TabR} (h : GoodT B T) {k : Nat} (hr : T.rs[k]? = some ⟨1, 0, 0⟩) : ∃ i g, T.ds[k]? = some (i, g) ∧ T.sl[i]? = some ⟨some k, g⟩ ∧ 1 ≤ g ∧ g ≤ 1 + B ∧ (∀ (j : Nat) (g' : Int), T.sl[j]? = some ⟨some k, g'⟩ → j = i) ∧ closeT T k = ⟨T.sl.set i ⟨none, g + 1⟩, T.rs.set k ⟨2, 0, 1⟩, T.ds⟩ := by
  obtain ⟨hk, hrk⟩ := List.getElem?_eq_some_iff.1 hr
  obtain ⟨i, g, hd, hi, h1, h2⟩ := live_cell h hk (by rw [hrk])
  have hs : T.sl[i]? = some ⟨some k, g⟩ := by
    rw [List.getElem?_eq_getElem hi, ← h1, ← h2]
  have hg := h.gens _ (List.mem_of_getElem? hs)
  refine ⟨i, g, hd, hs, hg.1, hg.2, fun j g' hj => ?_, ?_⟩
  · obtain ⟨hjl, hj2⟩ := List.getElem?_eq_some_iff.1 hj
    obtain ⟨h3, h4, h5, h6⟩ := h.owned j hjl k (by rw [hj2])
    rw [List.getElem?_eq_getElem h4, h6] at hd
    exact (Prod.mk.inj (Option.some.inj hd)).1
  · unfold closeT
    rw [hd]
    simp only [Option.map_some, Option.getD_some]
    rw [hs]
    rfl
/-- A resource that is not live has no descriptor. -/
theorem dead_slot {B : Nat} {T : TabR} (h : GoodT B T) {k : Nat} {r : RS} (hr : T.rs[k]? = some r) (hst : r.st ≠ 1) : ∀ (j k' : Nat) (g' : Int), T.sl[j]? = some ⟨some k', g'⟩ → k' ≠ k := by
  rintro j k' g' hj rfl
  obtain ⟨hjl, hj2⟩ := List.getElem?_eq_some_iff.1 hj
  obtain ⟨h3, h4, h5, h6⟩ := h.owned j hjl k' (by rw [hj2])
  obtain ⟨hk, hrk⟩ := List.getElem?_eq_some_iff.1 hr
  rw [hrk] at h5
  exact hst h5
theorem gone_slot {T : TabR} {i k : Nat} {g g1 : Int} (hs : T.sl[i]? = some ⟨some k, g⟩) (hu : ∀ (j : Nat) (g' : Int), T.sl[j]? = some ⟨some k, g'⟩ → j = i) : ∀ (j k' : Nat) (g' : Int), (T.sl.set i ⟨none, g1⟩)[j]? = some ⟨some k', g'⟩ → k' ≠ k := by
  rintro j k' g' hj rfl
  by_cases hij : i = j
  · subst hij
    rw [List.getElem?_set_self (List.getElem?_eq_some_iff.1 hs).1] at hj
    cases hj
  · rw [List.getElem?_set_ne hij] at hj
    exact hij (hu j g' hj).symm
end Go.Proofs.YtkjpdciccablpaaGreatDoor
