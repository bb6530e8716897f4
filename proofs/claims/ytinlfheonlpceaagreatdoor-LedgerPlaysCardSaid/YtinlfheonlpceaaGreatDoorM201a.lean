/- LedgerTexts walked. -/
import Derived.Test.YtinlfheonlpceaaGreatDoorM181a
import Derived.Test.YtinlfheonlpceaaGreatDoorM61a
import Derived.Test.YtinlfheonlpceaaGreatDoorM171a
import Derived.Deep.CutBlock
namespace Go.Proofs.YtinlfheonlpceaaGreatDoor
open Go.RowKit
set_option linter.unusedVariables false
set_option linter.unusedSimpArgs false
set_option maxHeartbeats 40000000
set_option maxRecDepth 20000
theorem mem_rep {α : Type} {l : List α} {n : Nat} {a : α} (h : a ∈ (List.replicate n l).flatten) : a ∈ l := by
  obtain ⟨m, hm, ha⟩ := List.mem_flatten.1 h
  rwa [List.eq_of_mem_replicate hm] at ha
/-- slices.Repeat of a slice that may be empty with any pointer. -/
theorem repeatW_c (v : Value) (l : List AtR) (n : Nat) (w : World) (hv : HoldsW w v l) (hN : l.length ≤ 10000) (hn : 1 ≤ n) (hn2 : n ≤ 10000) (hp : l.length * n ≤ 20000) :
    Calls Tryz.prog 47 #[v, .int .i64 n] w fun e w' => ∃ u, e = .returned u ∧ OwnsA w.heap.size w' u (List.replicate n l).flatten ∧ Below w.heap.size w w' := by
  obtain ⟨p, c, rfl, h⟩ := hv
  rcases h with rfl | ⟨b, off, rfl, hc⟩
  · have e : (List.replicate n ([] : List AtR)).flatten = [] := List.eq_nil_of_length_eq_zero (by rw [rep_len]; simp)
    rw [e]
    exact repeat0_c p c n w hn hn2
  · exact repeatA_c _ l n w (.inr ⟨b, off, c, rfl, hc⟩) hN hn hn2 hp
theorem texts_walk (v : Value) (n : Nat) (E : Nat → List Value) (t : Int) (w : World) (hE : EnvP w) (hsl : Sl w v leavesA n E) (t0 : 0 ≤ t) (t1 : t ≤ 255) :
    Ret 12 #[v, .int .u8 t] w (.bool true) := by
  obtain ⟨L, rfl, hl, hg⟩ := sl_at hsl
  obtain ⟨p, cp, hv, -⟩ := id hl
  have HE := Lib.hid hE
  have HL := Lib.hid hl
  have hc := Below.refl w.heap.size w
  clear hE hsl
  by_cases hbig : (200 : Int) < L.length
  · clear hl hg
    subst hv
    go_enter Tryz.func12, Tryz.ntmps12
    go_wp2_with fail
    refine Calls.mono (works _ HE.out) ?_
    rintro e V1 ⟨rfl, hn⟩
    go_wp2_with fail
    go_returns
    exact ⟨rfl, hn⟩
  · obtain ⟨m, hm⟩ : ∃ m : Nat, (m : Int) = 1 + t % 40 := ⟨(1 + t % 40).toNat, by omega⟩
    have hmod : t.tmod 40 = t % 40 := Int.tmod_eq_emod_of_nonneg t0
    have w1 : IntKind.i64.wrap t = t := IntWalk.i64_in _ ⟨by omega, by omega⟩
    have w2 : IntKind.i64.wrap (1 + t % 40) = (m : Int) := by rw [hm]; exact IntWalk.i64_in _ ⟨by omega, by omega⟩
    have hm1 : 1 ≤ m := by omega
    have hm2 : m ≤ 40 := by omega
    have hLm : L.length * m ≤ 8000 := Nat.le_trans (Nat.mul_le_mul (show L.length ≤ 200 by omega) hm2) (by omega)
    have CR := Lib.hid (fun W (h : HoldsW W v L) => repeatW_c v L m W h (by omega) hm1 (by omega) (by omega))
    have hrl : (List.replicate m L).flatten.length = L.length * m := rep_len L m
    have HG := Lib.hid (fun a (ha : a ∈ (List.replicate m L).flatten) => (hg a (mem_rep ha)).1)
    generalize (List.replicate m L).flatten = A at *
    have hAl : A.length ≤ 8000 := by omega
    clear hm hLm hrl hg hl
    subst hv
    go_enter Tryz.func12, Tryz.ntmps12
    go_wp2_with fail
    refine Calls.mono (CR.out _ HL.out) ?_
    rintro e V1 ⟨u, rfl, h1, hn⟩
    replace hc := chain hc hn
    replace h1 := OwnsA.holds h1
    clear hn CR HL
    go_wp2_with fail
    refine Calls.mono (cloneA_c _ A _ h1 (by omega)) ?_
    rintro e V2 ⟨u2, rfl, h2, hn⟩
    replace hc := chain hc hn
    replace h1 := HoldsA.on h1 hn
    replace h2 := OwnsA.holds h2
    clear hn
    have CL := Lib.hid (fun W (h : EnvP W) (hh : HoldsA W u2 A) => lprint_c u2 A W h.toEnv hh (by omega) HG.out)
    have CP := Lib.hid (fun W (hh : HoldsA W u A) => rprint_c u A W hh (by omega) HG.out)
    have e2 : ((printA A).2 == (printA A).2) = true := by simp
    have e1 : ((⟨(printA A).1.toArray⟩ : ByteArray).toList == (⟨(printA A).1.toArray⟩ : ByteArray).toList) = true := by simp
    generalize (⟨(printA A).1.toArray⟩ : ByteArray) = T at *
    generalize (printA A).2 = N at *
    go_wp2_with fail
    refine Calls.mono (CL.out _ (HE.out.on hc) h2) ?_
    rintro e V3 ⟨rfl, hn⟩
    replace hc := chain hc hn
    replace h1 := HoldsA.on h1 hn
    replace h2 := HoldsA.on h2 hn
    clear hn
    go_wp2_with fail
    refine Calls.mono (CP.out _ h1) ?_
    rintro e V4 ⟨rfl, hn⟩
    replace hc := chain hc hn
    replace h1 := HoldsA.on h1 hn
    replace h2 := HoldsA.on h2 hn
    clear hn
    go_wp2_with fail
    refine Calls.mono (equal_same _ _ A _ h2 h1 (by omega)) ?_
    rintro e V5 ⟨rfl, hn⟩
    replace hc := chain hc hn
    clear hn h1 h2
    go_wp2_with fail
    refine Calls.mono (works _ (HE.out.on hc)) ?_
    rintro e V6 ⟨rfl, hn⟩
    replace hc := chain hc hn
    go_wp2_with fail
    go_returns
    exact ⟨rfl, hc⟩
end Go.Proofs.YtinlfheonlpceaaGreatDoor

/- LedgerPlays walked. -/
namespace Go.Proofs.YtinlfheonlpceaaGreatDoor
open Go.RowKit
set_option linter.unusedVariables false
set_option linter.unusedSimpArgs false
set_option maxHeartbeats 40000000
set_option maxRecDepth 20000
theorem RLedW.len {w W : World} {G : Nat → Prop} {q : Nat} {l : List AtR} (h : RLedW w W G q l) : l.length ≤ 10000 := by
  obtain ⟨⟨v, hi⟩, lo⟩ := h
  exact hi.len
theorem rlenW_c {w W : World} {G : Nat → Prop} {q : Nat} {l : List AtR} (h : RLedW w W G q l) : Ret 42 #[ledP q] W (.int .i64 l.length) := by
  obtain ⟨⟨v, hi⟩, lo⟩ := h
  exact rlen_c hi.row hi.own.holds (by have := hi.len; omega)
theorem rallW_c {w W : World} {G : Nat → Prop} {q : Nat} {l : List AtR} (h : RLedW w W G q l) : Calls Tryz.prog 43 #[ledP q] W fun e w' => ∃ u, e = .returned u ∧ OwnsA W.heap.size w' u l ∧ Below W.heap.size W w' := by
  obtain ⟨⟨v, hi⟩, lo⟩ := h
  exact rall_c hi.row hi.own.holds (by have := hi.len; omega)
theorem rofW_c {w W : World} {G : Nat → Prop} {q : Nat} {l : List AtR} (k i g : Int) (h : RLedW w W G q l) : Calls Tryz.prog 41 #[ledP q, oV k i g] W fun e w' => ∃ u, e = .returned u ∧ OwnsA W.heap.size w' u (ofL k i g l) ∧ Below W.heap.size W w' := by
  obtain ⟨⟨v, hi⟩, lo⟩ := h
  exact rof_c k i g hi.row hi.own.holds (by have := hi.len; omega)
theorem rendedW_c {w W : World} {G : Nat → Prop} {q : Nat} {l : List AtR} (k i g : Int) (h : RLedW w W G q l) : Ret 40 #[ledP q, oV k i g] W (.tuple #[.int .i64 (((ofL k i g l).find? qEnd).getD at0).ans, .bool ((ofL k i g l).find? qEnd).isSome]) := by
  obtain ⟨⟨v, hi⟩, lo⟩ := h
  exact rended_c k i g hi.row hi.own.holds (by have := hi.len; omega)
theorem rfirstW_c {w W : World} {G : Nat → Prop} {q : Nat} {l : List AtR} (k i g : Int) (h : RLedW w W G q l) : Ret 39 #[ledP q, oV k i g] W (.tuple #[atV (((ofL k i g l).find? qAll).getD at0), .bool ((ofL k i g l).find? qAll).isSome]) := by
  obtain ⟨⟨v, hi⟩, lo⟩ := h
  exact rfirst_c k i g hi.row hi.own.holds (by have := hi.len; omega)
/-- Both ledgers, with the same attempts, apart, behind a world. -/
structure Both (B W : World) (F G : Nat → Prop) (p q : Nat) (M : List AtR) : Prop where
  led : LedW B W F p M
  rled : RLedW B W G q M
  apart : ∀ b, G b → ¬ F b
  beh : Beh B W
theorem Both.on {B W W' : World} {F G : Nat → Prop} {p q : Nat} {M : List AtR} (h : Both B W F G p q M) (hb : Below W.heap.size W W') : Both B W' F G p q M := ⟨h.led.on hb, h.rled.on hb, h.apart, h.beh.on hb⟩
theorem Both.drew {B W : World} {F G : Nat → Prop} {p q : Nat} {M : List AtR} (h : Both B W F G p q M) : Both B W.drew F G p q M := h.on (Below.refl _ _).drew
/-- What is not a block of one of the two. -/
def Off (F G : Nat → Prop) (x : Nat) : Prop := ¬ F x ∧ ¬ G x
theorem Both.off {B W : World} {F G : Nat → Prop} {p q : Nat} {M : List AtR} (h : Both B W F G p q M) {x : Nat} (hx : W.heap.size ≤ x) : Off F G x := ⟨h.led.not_new hx, h.rled.not_new hx⟩
theorem addB_c {B W : World} {F G : Nat → Prop} {p q : Nat} {M : List AtR} (a : AtR) (hg : gIn a) (h : Both B W F G p q M) :
    Calls Tryz.prog 32 #[ledP p, atV a] W fun e W' => e = .returned (.int .i64 (addE M a)) ∧ (∀ (x : Nat) cs t, Off F G x → Row W x cs t → Row W' x cs t) ∧ ∃ F', (LedW B W' F' p (addL M a) ∧ RLedW B W' G q M ∧ (∀ b, G b → ¬ F' b) ∧ Beh B W') ∧ ∀ x, x < W.heap.size → Off F G x → Off F' G x := by
  refine Calls.mono (addW_c a hg h.beh.b.size h.led) ?_
  rintro e W' ⟨rfl, F', h1, h2⟩
  obtain ⟨h3, h4⟩ := h2.rled h.rled h.apart
  exact ⟨rfl, fun x cs t hx r => h2.row r hx.1, F', ⟨h1, h3, h4, h.beh.add h2⟩, fun x hx ho => ⟨h2.no x hx ho.1, ho.2⟩⟩
theorem AddTo.ledR {w W W' : World} {G G' : Nat → Prop} (h : AddTo w W W' G G') {F : Nat → Prop} {p : Nat} {m : List AtR} (hl : LedW w W F p m) (hd : ∀ b, G b → ¬ F b) : LedW w W' F p m ∧ ∀ b, G' b → ¬ F b := by
  obtain ⟨h1, h2⟩ := h.led hl (fun b hf hg => hd b hg hf)
  exact ⟨h1, fun b hg hf => h2 b hf hg⟩
theorem raddB_c {B W : World} {F G : Nat → Prop} {p q : Nat} {M M' : List AtR} (a : AtR) (hg : gIn a) (h1 : LedW B W F p M') (h2 : RLedW B W G q M) (h3 : ∀ b, G b → ¬ F b) (h4 : Beh B W) (hM : addL M a = M') :
    Calls Tryz.prog 38 #[ledP q, atV a] W fun e W' => e = .returned (.int .i64 (addE M a)) ∧ (∀ (x : Nat) cs t, Off F G x → Row W x cs t → Row W' x cs t) ∧ ∃ G', Both B W' F G' p q M' ∧ ∀ x, x < W.heap.size → Off F G x → Off F G' x := by
  refine Calls.mono (raddW_c a hg h4.b.size h2) ?_
  rintro e W' ⟨rfl, G', h5, h6⟩
  obtain ⟨h7, h8⟩ := h6.ledR h1 h3
  rw [hM] at h5
  exact ⟨rfl, fun x cs t hx r => h6.row r hx.2, G', ⟨h7, h5, h8, h4.add h6⟩, fun x hx ho => ⟨ho.1, h6.no x hx ho.2⟩⟩
/-- A copy goes on. -/
theorem copyB_c {B W : World} {F G : Nat → Prop} {p q : Nat} {M : List AtR} (h : Both B W F G p q M) : Calls Tryz.prog 35 #[ledP p] W fun e W' => ∃ p2, e = .returned (ledP p2) ∧ (∃ F2, (LedW B W' F p M ∧ LedW B W' F2 p2 M ∧ RLedW B W' G q M ∧ (∀ b, G b → ¬ F b) ∧ (∀ b, G b → ¬ F2 b) ∧ (∀ b, F2 b → ¬ F b) ∧ Beh B W') ∧ ∀ x, x < W.heap.size → ¬ F2 x) ∧ Below W.heap.size W W' := by
  refine Calls.mono (copyW_c h.beh.b.size h.led) ?_
  rintro e W' ⟨p2, rfl, ⟨F2, h1, h2⟩, hb⟩
  refine ⟨p2, rfl, ⟨F2, ⟨h.led.on hb, h1, h.rled.on hb, h.apart, fun b hg hf => h.rled.not_new (h2 b hf) hg, fun b hf hf' => h.led.not_new (h2 b hf) hf', h.beh.on hb⟩, fun x hx hf => by have := h2 x hf; omega⟩, hb⟩
/-- The old one is added to; the copy and the reference stay. -/
theorem oldB_c {B W : World} {F F2 G : Nat → Prop} {p p2 q : Nat} {M : List AtR} (a : AtR) (hg : gIn a) (h1 : LedW B W F p M) (h2 : LedW B W F2 p2 M) (h3 : RLedW B W G q M) (h4 : ∀ b, G b → ¬ F b) (h5 : ∀ b, G b → ¬ F2 b) (h6 : ∀ b, F2 b → ¬ F b) (h7 : Beh B W) :
    Calls Tryz.prog 32 #[ledP p, atV a] W fun e W' => (∃ n : Int, e = .returned (.int .i64 n)) ∧ (∀ (x : Nat) cs t, ¬ F x → Row W x cs t → Row W' x cs t) ∧ Both B W' F2 G p2 q M := by
  refine Calls.mono (addW_c a hg h7.b.size h1) ?_
  rintro e W' ⟨rfl, F', h8, h9⟩
  obtain ⟨ha, -⟩ := h9.led h2 h6
  obtain ⟨hb, -⟩ := h9.rled h3 h4
  exact ⟨⟨_, rfl⟩, fun x cs t hx r => h9.row r hx, ⟨ha, hb, h5, h7.add h9⟩⟩
theorem startB_c {W : World} (B : World) (h : Beh B W) : Calls Tryz.prog 33 #[] W fun e W' => ∃ p, e = .returned (ledP p) ∧ (∃ F, LedW B W' F p [] ∧ Beh B W') ∧ Below W.heap.size W W' := by
  refine Calls.mono (newW_c W h.b.size) ?_
  rintro e W' ⟨p, rfl, ⟨F, h1, -⟩, hb⟩
  exact ⟨p, rfl, ⟨F, h1, h.on hb⟩, hb⟩
theorem rstartB_c {W B : World} {F : Nat → Prop} {p : Nat} (h1 : LedW B W F p []) (h : Beh B W) : Calls Tryz.prog 34 #[] W fun e W' => ∃ q, e = .returned (ledP q) ∧ (∃ G, Both B W' F G p q []) ∧ Below W.heap.size W W' := by
  refine Calls.mono (rnewW_c W h.b.size) ?_
  rintro e W' ⟨q, rfl, ⟨G, h2, h3⟩, hb⟩
  exact ⟨q, rfl, ⟨G, h1.on hb, h2, fun b hg hf => h1.not_new (h3 b hg) hf, h.on hb⟩, hb⟩
theorem ledP_ne (p : Nat) : ∀ W : World, (binOp .eql 48 (ledP p) (.pointer none)).run Tryz.prog W = .ok (.bool false) W := by
  intro W
  rfl
theorem plays_walk (v : Value) (n : Nat) (E : Nat → List Value) (k i g c : Int) (w : World) (hE : EnvP w) (hsl : Sl w v leavesA n E) (k0 : -9223372036854775808 ≤ k) (k1 : k ≤ 9223372036854775807) (i0 : -9223372036854775808 ≤ i) (i1 : i ≤ 9223372036854775807) (g0 : 0 ≤ g) (g1 : g ≤ 4294967295) (c0 : 0 ≤ c) (c1 : c ≤ 255) :
    Ret 8 #[v, .agg #[.int .i64 k, .int .i64 i, .int .u32 g], .int .u8 c] w (.bool true) := by
  obtain ⟨L, rfl, hl, hg⟩ := sl_at hsl
  obtain ⟨pv, cv, hv, hcase⟩ := id hl
  have HE := Lib.hid hE
  have HG := Lib.hid hg
  clear hE hsl k0 k1 i0 i1 g0 g1 hg
  have w1 : IntKind.i64.wrap c = c := IntWalk.i64_in _ ⟨by omega, by omega⟩
  by_cases hbig : (60 : Int) < L.length
  · clear hl hcase
    subst hv
    go_enter Tryz.func8, Tryz.ntmps8
    go_upto_region 1 with fail
    have hb := below_alloc w (.cells #[.int .i64 k, .int .i64 i, .int .u32 g] 41)
    generalize w.alloc (.cells #[.int .i64 k, .int .i64 i, .int .u32 g] 41) = V1 at *
    go_wp2_with fail
    refine Calls.mono (works _ (HE.out.on hb)) ?_
    rintro e V2 ⟨rfl, hn⟩
    replace hb := chain hb hn
    go_wp2_with fail
    go_returns
    exact ⟨rfl, hb⟩
  · have hL60 : L.length ≤ 60 := by omega
    have HL := Lib.hid hl
    clear hl
    subst hv
    go_enter Tryz.func8, Tryz.ntmps8
    go_upto_region 1 with fail
    have ro := Row.new (W := w) (cs := #[.int .i64 k, .int .i64 i, .int .u32 g]) (t := 41)
    have hb := below_alloc w (.cells #[.int .i64 k, .int .i64 i, .int .u32 g] 41)
    replace HL : RowKit.Hid (HoldsW (w.alloc (.cells #[.int .i64 k, .int .i64 i, .int .u32 g] 41)) (.slice pv L.length cv) L) := HL.out.on hb
    replace HE := Lib.hid (HE.out.on hb)
    generalize w.alloc (.cells #[.int .i64 k, .int .i64 i, .int .u32 g] 41) = B at *
    have HB0 := Lib.hid hb
    clear hb
    have hB : Beh B B := ⟨Below.refl _ _⟩
    go_wp2_with fail
    refine Calls.mono (startB_c B hB) ?_
    rintro e V1 ⟨p, rfl, ⟨F, hp, hB⟩, hn⟩
    clear hn
    go_wp2_with fail
    refine Calls.mono (rstartB_c hp hB) ?_
    rintro e V2 ⟨q, rfl, ⟨G, hb⟩, hn⟩
    clear hn hp hB
    go_wp2_with fail
    go_loopw [7, 30] (fun av iv wr => ∃ (j p : Nat) (F G : Nat → Prop) (M : List AtR), j ≤ L.length ∧ iv = .int .i64 j ∧ av = ledP p ∧ Both B wr F G p q M) (fun _ iv _ => L.length - (intOf iv).toNat)
    case atStart => exact ⟨0, p, F, G, [], Nat.zero_le _, rfl, rfl, hb⟩
    case round =>
      clear hb
      obtain ⟨j, p, F, G, M, hj, rfl, rfl, hb⟩ := hrel
      by_cases hlt : j < L.length
      · have hx2 : L[j]? = some L[j] := List.getElem?_eq_getElem hlt
        have hgx := (HG.out L[j] (List.getElem_mem hlt)).1
        generalize L[j] = x at *
        have hlB := HL.out.on hb.beh.b
        obtain ⟨p9, c9, hve, hcs⟩ := hlB
        simp only [Value.slice.injEq] at hve
        obtain ⟨rfl, -, rfl⟩ := hve
        rcases hcs with h0 | ⟨bb, off, rfl, hcell⟩
        · rw [h0] at hlt; simp at hlt
        obtain ⟨d0, d1, d2, d3, d4, d5⟩ := HoldsA.six (hcell j x hx2)
        clear hcell hx2 hcase
        go_upto_region 7 with fail
        clear d0 d1 d2 d3 d4 d5
        have rx := Row.new (W := wr) (cs := #[.int .i64 x.at_, .int .i64 x.k, .int .i64 x.i, .int .u32 x.g, .int .i64 x.why, .int .i64 x.ans]) (t := 43)
        have hn := below_alloc wr (.cells #[.int .i64 x.at_, .int .i64 x.k, .int .i64 x.i, .int .u32 x.g, .int .i64 x.why, .int .i64 x.ans] 43)
        have hoff := hb.off (Nat.le_refl _)
        replace hb := hb.on hn
        clear hn
        generalize wr.alloc (.cells #[.int .i64 x.at_, .int .i64 x.k, .int .i64 x.i, .int .u32 x.g, .int .i64 x.why, .int .i64 x.ans] 43) = V3 at *
        generalize wr.heap.size = bx at *
        by_cases hjc : (j : Int) = c
        · have f1 : ((j : Int) == c) = true := by rw [hjc]; simp
          clear hjc
          go_wp2_with fail
          refine Calls.mono (copyB_c hb) ?_
          rintro e V4 ⟨p2, rfl, ⟨F2, ⟨h1, h2, h3, h4, h5, h6, h7⟩, h8⟩, hn⟩
          have hoff2 : Off F2 G bx := ⟨h8 bx rx.lt, hoff.2⟩
          replace rx := rx.on hn
          clear hn h8 hb
          have qn := ledP_ne p2
          go_wp2_with fail
          refine Calls.mono (file_c _) ?_
          rintro e V5 ⟨rfl, hn⟩
          replace rx := rx.on hn
          replace h1 := h1.on hn
          replace h2 := h2.on hn
          replace h3 := h3.on hn
          replace h7 := h7.on hn
          clear hn
          go_wp2_with fail
          refine Calls.mono (oldB_c ⟨1099511627776, 1, 3, 1, 1, 1⟩ ⟨by decide, by decide⟩ h1 h2 h3 h4 h5 h6 h7) ?_
          rintro e V6 ⟨⟨ne, rfl⟩, hk, hb⟩
          replace rx := hk _ _ _ hoff.1 rx
          clear hk h1 h2 h3 h4 h5 h6 h7 hoff
          have hoff := hoff2
          clear hoff2
          have CK := Lib.hid (fun W => acheck_c x hgx W)
          have CR := Lib.hid (fun W => rcheck_a x hgx W)
          have f2 : (aErr x != aErr x) = false := by simp
          have f3 : (addE M x != addE M x) = false := by simp
          have HGX := Lib.hid hgx
          clear hgx
          generalize aErr x = ex at *
          go_upto_region 13 with fail
          refine wp_region_held_drew (S := (fun W' => ∀ j, W'.cell? ⟨bx, j, none⟩ = (#[.int .i64 x.at_, .int .i64 x.k, .int .i64 x.i, .int .u32 x.g, .int .i64 x.why, .int .i64 x.ans] : Array Value)[j]?)) (by kernel_rfl) rx.cell (fun hHeld => ?_)
          replace rx := rx.drew
          replace hb := hb.drew
          generalize V6.drew = W3 at *
          refine' wpAnyH_take (i := 0) (oi := _) (v := _) ?_ (by kernel_rfl) (by kernel_rfl) (by kernel_rfl) ?_ (Or.inl ⟨?_, ?_⟩) (by assumption) ?_
          rotate_left 2
          · (simp only [List.getElem?_toArray, List.getElem?_cons_succ, List.getElem?_cons_zero]; rfl)
          · first | exact fun _ _ _ h => h | exact fun _ _ _ h => nomatch h.1
          · rfl
          · (intro W hSW; (try dsimp only at hSW); go_split_ands; first | (go_simp; done) | (go_simp; with_reducible rfl))
          try simp only [Act.put, List.setIfInBounds_toArray, List.set_cons_zero, List.set_cons_succ]
          refine' wpAnyH_take (i := 2) (oi := _) (v := _) ?_ (by kernel_rfl) (by kernel_rfl) (by kernel_rfl) ?_ (Or.inl ⟨?_, ?_⟩) (by assumption) ?_
          rotate_left 2
          · (simp only [List.getElem?_toArray, List.getElem?_cons_succ, List.getElem?_cons_zero]; rfl)
          · first | exact fun _ _ _ h => h | exact fun _ _ _ h => nomatch h.1
          · rfl
          · (intro W hSW; (try dsimp only at hSW); go_split_ands; first | (go_simp; done) | (go_simp; with_reducible rfl))
          try simp only [Act.put, List.setIfInBounds_toArray, List.set_cons_zero, List.set_cons_succ]
          clear hHeld
          refine wpAnyH_ready (rs := [1]) (by kernel_rfl) (by simp) ?_
          refine' AllReadyH.cons (o := _) ?_ (fun K hK => ?_) AllReadyH.nil
          rotate_left 1
          · (simp only [List.getElem?_toArray, List.getElem?_cons_succ, List.getElem?_cons_zero]; rfl)
          go_simp
          refine Calls.mono (CK.out _) ?_
          rintro e W4 ⟨rfl, hn⟩
          replace rx := rx.on hn
          replace hb := hb.on hn
          clear hn
          go_simp
          refine hK.out _ _ rx.cell (fun hHeld => ?_)
          clear hK K
          clear hHeld
          refine wpAnyH_ready (rs := [3]) (by kernel_rfl) (by simp) ?_
          refine' AllReadyH.cons (o := _) ?_ (fun K hK => ?_) AllReadyH.nil
          rotate_left 1
          · (simp only [List.getElem?_toArray, List.getElem?_cons_succ, List.getElem?_cons_zero]; rfl)
          go_simp
          refine Calls.mono (CR.out _) ?_
          rintro e W5 ⟨rfl, hn⟩
          replace rx := rx.on hn
          replace hb := hb.on hn
          clear hn
          go_simp
          refine hK.out _ _ rx.cell (fun hHeld => ?_)
          clear hK K
          refine' wpAnyH_take (i := 4) (oi := _) (v := _) ?_ (by kernel_rfl) (by kernel_rfl) (by kernel_rfl) ?_ (Or.inl ⟨?_, ?_⟩) (by assumption) ?_
          rotate_left 2
          · (simp only [List.getElem?_toArray, List.getElem?_cons_succ, List.getElem?_cons_zero]; rfl)
          · first | exact fun _ _ _ h => h | exact fun _ _ _ h => nomatch h.1
          · rfl
          · (intro W hSW; (try dsimp only at hSW); go_split_ands; first | (go_simp; done) | (go_simp; with_reducible rfl))
          try simp only [Act.put, List.setIfInBounds_toArray, List.set_cons_zero, List.set_cons_succ]
          refine' wpAnyH_take (i := 5) (oi := _) (v := _) ?_ (by kernel_rfl) (by kernel_rfl) (by kernel_rfl) ?_ (Or.inl ⟨?_, ?_⟩) (by assumption) ?_
          rotate_left 2
          · (simp only [List.getElem?_toArray, List.getElem?_cons_succ, List.getElem?_cons_zero]; rfl)
          · first | exact fun _ _ _ h => h | exact fun _ _ _ h => nomatch h.1
          · rfl
          · (intro W hSW; (try dsimp only at hSW); go_split_ands; first | (go_simp; done) | (go_simp; with_reducible rfl))
          try simp only [Act.put, List.setIfInBounds_toArray, List.set_cons_zero, List.set_cons_succ]
          refine' wpAnyH_take (i := 6) (oi := _) (v := _) ?_ (by kernel_rfl) (by kernel_rfl) (by kernel_rfl) ?_ (Or.inl ⟨?_, ?_⟩) (by assumption) ?_
          rotate_left 2
          · (simp only [List.getElem?_toArray, List.getElem?_cons_succ, List.getElem?_cons_zero]; rfl)
          · first | exact fun _ _ _ h => h | exact fun _ _ _ h => nomatch h.1
          · rfl
          · (intro W hSW; (try dsimp only at hSW); go_split_ands; first | (go_simp; done) | (go_simp; with_reducible rfl))
          try simp only [Act.put, List.setIfInBounds_toArray, List.set_cons_zero, List.set_cons_succ]
          refine' wpAnyH_take (i := 7) (oi := _) (v := _) ?_ (by kernel_rfl) (by kernel_rfl) (by kernel_rfl) ?_ (Or.inl ⟨?_, ?_⟩) (by assumption) ?_
          rotate_left 2
          · (simp only [List.getElem?_toArray, List.getElem?_cons_succ, List.getElem?_cons_zero]; rfl)
          · first | exact fun _ _ _ h => h | exact fun _ _ _ h => nomatch h.1
          · rfl
          · (intro W hSW; (try dsimp only at hSW); go_split_ands; first | (go_simp; done) | (go_simp; with_reducible rfl))
          try simp only [Act.put, List.setIfInBounds_toArray, List.set_cons_zero, List.set_cons_succ]
          refine' wpAnyH_take (i := 9) (oi := _) (v := _) ?_ (by kernel_rfl) (by kernel_rfl) (by kernel_rfl) ?_ (Or.inl ⟨?_, ?_⟩) (by assumption) ?_
          rotate_left 2
          · (simp only [List.getElem?_toArray, List.getElem?_cons_succ, List.getElem?_cons_zero]; rfl)
          · first | exact fun _ _ _ h => h | exact fun _ _ _ h => nomatch h.1
          · rfl
          · (intro W hSW; (try dsimp only at hSW); go_split_ands; first | (go_simp; done) | (go_simp; with_reducible rfl))
          try simp only [Act.put, List.setIfInBounds_toArray, List.set_cons_zero, List.set_cons_succ]
          refine' wpAnyH_take (i := 10) (oi := _) (v := _) ?_ (by kernel_rfl) (by kernel_rfl) (by kernel_rfl) ?_ (Or.inl ⟨?_, ?_⟩) (by assumption) ?_
          rotate_left 2
          · (simp only [List.getElem?_toArray, List.getElem?_cons_succ, List.getElem?_cons_zero]; rfl)
          · first | exact fun _ _ _ h => h | exact fun _ _ _ h => nomatch h.1
          · rfl
          · (intro W hSW; (try dsimp only at hSW); go_split_ands; first | (go_simp; done) | (go_simp; with_reducible rfl))
          try simp only [Act.put, List.setIfInBounds_toArray, List.set_cons_zero, List.set_cons_succ]
          clear hHeld
          refine wpAnyH_ready (rs := [8]) (by kernel_rfl) (by simp) ?_
          refine' AllReadyH.cons (o := _) ?_ (fun K hK => ?_) AllReadyH.nil
          rotate_left 1
          · (simp only [List.getElem?_toArray, List.getElem?_cons_succ, List.getElem?_cons_zero]; rfl)
          go_simp
          refine Calls.mono (addB_c x HGX.out hb) ?_
          rintro e W6 ⟨rfl, hk, F6, ⟨h1, h2, h3, h4⟩, hno⟩
          have hoff6 := hno bx rx.lt hoff
          replace rx := hk _ _ _ hoff rx
          clear hk hno hb hoff
          go_simp
          refine hK.out _ _ rx.cell (fun hHeld => ?_)
          clear hK K
          clear hHeld
          refine wpAnyH_ready (rs := [11]) (by kernel_rfl) (by simp) ?_
          refine' AllReadyH.cons (o := _) ?_ (fun K hK => ?_) AllReadyH.nil
          rotate_left 1
          · (simp only [List.getElem?_toArray, List.getElem?_cons_succ, List.getElem?_cons_zero]; rfl)
          go_simp
          refine Calls.mono (raddB_c x HGX.out h1 h2 h3 h4 rfl) ?_
          rintro e W7 ⟨rfl, hk, G7, hb, hno⟩
          have hoff7 := hno bx rx.lt hoff6
          replace rx := hk _ _ _ hoff6 rx
          clear hk hno h1 h2 h3 h4 hoff6 hoff7
          go_simp
          refine hK.out _ _ rx.cell (fun hHeld => ?_)
          clear hK K
          refine' wpAnyH_take (i := 12) (oi := _) (v := _) ?_ (by kernel_rfl) (by kernel_rfl) (by kernel_rfl) ?_ (Or.inl ⟨?_, ?_⟩) (by assumption) ?_
          rotate_left 2
          · (simp only [List.getElem?_toArray, List.getElem?_cons_succ, List.getElem?_cons_zero]; rfl)
          · first | exact fun _ _ _ h => h | exact fun _ _ _ h => nomatch h.1
          · rfl
          · (intro W hSW; (try dsimp only at hSW); go_split_ands; first | (go_simp; done) | (go_simp; with_reducible rfl))
          try simp only [Act.put, List.setIfInBounds_toArray, List.set_cons_zero, List.set_cons_succ]
          refine' wpAnyH_take (i := 13) (oi := _) (v := _) ?_ (by kernel_rfl) (by kernel_rfl) (by kernel_rfl) ?_ (Or.inl ⟨?_, ?_⟩) (by assumption) ?_
          rotate_left 2
          · (simp only [List.getElem?_toArray, List.getElem?_cons_succ, List.getElem?_cons_zero]; rfl)
          · first | exact fun _ _ _ h => h | exact fun _ _ _ h => nomatch h.1
          · rfl
          · (intro W hSW; (try dsimp only at hSW); go_split_ands; first | (go_simp; done) | (go_simp; with_reducible rfl))
          try simp only [Act.put, List.setIfInBounds_toArray, List.set_cons_zero, List.set_cons_succ]
          clear hHeld
          refine wpAnyH_done (by kernel_rfl) ?_ _
          generalize addL M x = M2 at *
          clear f2 f3
          have ro7 := ro.on hb.beh.b
          have yo := ro7.cell
          have zo := ro7.lt
          have yx := rx.cell
          have zx := rx.lt
          go_upto_region 16 with fail
          clear yo zo yx zx ro7 rx
          have rs := Row.new (W := W7) (cs := #[.int .i64 k, .int .i64 i, .int .u32 g, .int .i64 x.k, .int .i64 x.i, .int .u32 x.g]) (t := 41)
          have hn := below_alloc W7 (.cells #[.int .i64 k, .int .i64 i, .int .u32 g, .int .i64 x.k, .int .i64 x.i, .int .u32 x.g] 41)
          replace hb := hb.on hn
          clear hn
          generalize W7.alloc (.cells #[.int .i64 k, .int .i64 i, .int .u32 g, .int .i64 x.k, .int .i64 x.i, .int .u32 x.g] 41) = W8 at *
          generalize W7.heap.size = bs at *
          have hx := Below.refl W8.heap.size W8
          have cOf : ∀ m : Nat, m < 2 → ∃ kk ii gg : Int, (#[.int .i64 k, .int .i64 i, .int .u32 g, .int .i64 x.k, .int .i64 x.i, .int .u32 x.g] : Array Value)[m * 3]? = some (.int .i64 kk) ∧ (#[.int .i64 k, .int .i64 i, .int .u32 g, .int .i64 x.k, .int .i64 x.i, .int .u32 x.g] : Array Value)[m * 3 + 1]? = some (.int .i64 ii) ∧ (#[.int .i64 k, .int .i64 i, .int .u32 g, .int .i64 x.k, .int .i64 x.i, .int .u32 x.g] : Array Value)[m * 3 + 2]? = some (.int .u32 gg) := fun m hm => by
            rcases (by omega : m = 0 ∨ m = 1) with rfl | rfl
            · exact ⟨k, i, g, rfl, rfl, rfl⟩
            · exact ⟨x.k, x.i, x.g, rfl, rfl, rfl⟩
          have COF := Lib.hid cOf
          clear cOf
          have RS := Lib.hid rs
          have HBB := Lib.hid hb
          clear rs
          go_loopw [67] (fun mv wr => ∃ m : Nat, m ≤ 2 ∧ mv = .int .i64 m ∧ Below W8.heap.size W8 wr) (fun mv _ => 2 - (intOf mv).toNat)
          case atStart => exact ⟨0, by omega, rfl, hx⟩
          case round =>
            clear hx hb
            obtain ⟨m, hm, rfl, hx⟩ := hrel
            by_cases hmt : m < 2
            · obtain ⟨kk, ii, gg, e0, e1, e2⟩ := COF.out m hmt
              have rs := RS.out.on hx
              have d0 := (rs.cell (m * 3)).trans e0
              have d1 := (rs.cell (m * 3 + 1)).trans e1
              have d2 := (rs.cell (m * 3 + 2)).trans e2
              have hmt2 : (m : Int) < 2 := by omega
              have hb := HBB.out.on hx
              clear e0 e1 e2 rs
              go_upto_region 18 with fail
              clear d0 d1 d2
              have rf := Row.new (W := wr) (cs := #[.int .i64 kk, .int .i64 ii, .int .u32 gg]) (t := 41)
              have hn := below_alloc wr (.cells #[.int .i64 kk, .int .i64 ii, .int .u32 gg] 41)
              replace hb := hb.on hn
              replace hx := chain hx hn
              clear hn
              generalize wr.alloc (.cells #[.int .i64 kk, .int .i64 ii, .int .u32 gg] 41) = X0 at *
              generalize wr.heap.size = bf at *
              have CF := Lib.hid (fun W (h : LedW B W F6 p2 M2) => firstW_c kk ii gg h)
              have CFR := Lib.hid (fun W (h : RLedW B W G7 q M2) => rfirstW_c kk ii gg h)
              have CE := Lib.hid (fun W (h : LedW B W F6 p2 M2) => endedW_c kk ii gg h)
              have CER := Lib.hid (fun W (h : RLedW B W G7 q M2) => rendedW_c kk ii gg h)
              have CO := Lib.hid (fun W (h : LedW B W F6 p2 M2) => ofW_c kk ii gg h)
              have COR := Lib.hid (fun W (h : RLedW B W G7 q M2) => rofW_c kk ii gg h)
              have hSl := Nat.le_trans (ofL_len kk ii gg M2) hb.led.len
              generalize ofL kk ii gg M2 = S at *
              generalize (S.find? qAll).getD at0 = fa at *
              generalize (S.find? qAll).isSome = fs at *
              generalize ((S.find? qEnd).getD at0).ans = an at *
              generalize (S.find? qEnd).isSome = en at *
              have b1 : (fs != fs) = false := by simp
              have b2 : (an != an) = false := by simp
              have b3 : (en != en) = false := by simp
              have yrf := rf.cell
              have zrf := rf.lt
              go_wp2_with fail
              refine Calls.mono (CF.out _ hb.led) ?_
              rintro e X1 ⟨rfl, hn⟩
              clear yrf zrf
              replace rf := rf.on hn
              replace hb := hb.on hn
              replace hx := chain hx hn
              clear hn
              have yrf := rf.cell
              have zrf := rf.lt
              go_upto_region 19 with fail
              clear yrf zrf
              have r4 := Row.new (W := X1) (cs := #[.int .i64 fa.at_, .int .i64 fa.k, .int .i64 fa.i, .int .u32 fa.g, .int .i64 fa.why, .int .i64 fa.ans]) (t := 43)
              have hn := below_alloc X1 (.cells #[.int .i64 fa.at_, .int .i64 fa.k, .int .i64 fa.i, .int .u32 fa.g, .int .i64 fa.why, .int .i64 fa.ans] 43)
              replace rf := rf.on hn
              replace hb := hb.on hn
              replace hx := chain hx hn
              clear hn
              generalize X1.alloc (.cells #[.int .i64 fa.at_, .int .i64 fa.k, .int .i64 fa.i, .int .u32 fa.g, .int .i64 fa.why, .int .i64 fa.ans] 43) = X2 at *
              generalize X1.heap.size = b4 at *
              have yrf := rf.cell
              have zrf := rf.lt
              have yr4 := r4.cell
              have zr4 := r4.lt
              go_wp2_with fail
              refine Calls.mono (CFR.out _ hb.rled) ?_
              rintro e X3 ⟨rfl, hn⟩
              clear yrf zrf yr4 zr4
              replace rf := rf.on hn
              replace r4 := r4.on hn
              replace hb := hb.on hn
              replace hx := chain hx hn
              clear hn
              have yrf := rf.cell
              have zrf := rf.lt
              have yr4 := r4.cell
              have zr4 := r4.lt
              go_upto_region 20 with fail
              clear yrf zrf yr4 zr4
              have r6 := Row.new (W := X3) (cs := #[.int .i64 fa.at_, .int .i64 fa.k, .int .i64 fa.i, .int .u32 fa.g, .int .i64 fa.why, .int .i64 fa.ans]) (t := 43)
              have hn := below_alloc X3 (.cells #[.int .i64 fa.at_, .int .i64 fa.k, .int .i64 fa.i, .int .u32 fa.g, .int .i64 fa.why, .int .i64 fa.ans] 43)
              replace rf := rf.on hn
              replace r4 := r4.on hn
              replace hb := hb.on hn
              replace hx := chain hx hn
              clear hn
              generalize X3.alloc (.cells #[.int .i64 fa.at_, .int .i64 fa.k, .int .i64 fa.i, .int .u32 fa.g, .int .i64 fa.why, .int .i64 fa.ans] 43) = X4 at *
              generalize X3.heap.size = b6 at *
              have yrf := rf.cell
              have zrf := rf.lt
              have yr4 := r4.cell
              have zr4 := r4.lt
              have yr6 := r6.cell
              have zr6 := r6.lt
              go_wp2_with fail
              refine Calls.mono (CE.out _ hb.led) ?_
              rintro e X5 ⟨rfl, hn⟩
              clear yrf zrf yr4 zr4 yr6 zr6
              replace rf := rf.on hn
              replace r4 := r4.on hn
              replace r6 := r6.on hn
              replace hb := hb.on hn
              replace hx := chain hx hn
              clear hn
              have yrf := rf.cell
              have zrf := rf.lt
              have yr4 := r4.cell
              have zr4 := r4.lt
              have yr6 := r6.cell
              have zr6 := r6.lt
              go_wp2_with fail
              refine Calls.mono (CER.out _ hb.rled) ?_
              rintro e X6 ⟨rfl, hn⟩
              clear yrf zrf yr4 zr4 yr6 zr6
              replace rf := rf.on hn
              replace r4 := r4.on hn
              replace r6 := r6.on hn
              replace hb := hb.on hn
              replace hx := chain hx hn
              clear hn
              have yrf := rf.cell
              go_upto_region 22 with fail
              clear yrf
              have f5 := neq_at fa fa
              rw [decide_eq_true (rfl : fa = fa)] at f5
              refine wp_region_held_drew (S := (fun W' => (∀ j, W'.cell? ⟨bf, j, none⟩ = (#[.int .i64 kk, .int .i64 ii, .int .u32 gg] : Array Value)[j]?) ∧ (∀ j, W'.cell? ⟨b4, j, none⟩ = (#[.int .i64 fa.at_, .int .i64 fa.k, .int .i64 fa.i, .int .u32 fa.g, .int .i64 fa.why, .int .i64 fa.ans] : Array Value)[j]?) ∧ (∀ j, W'.cell? ⟨b6, j, none⟩ = (#[.int .i64 fa.at_, .int .i64 fa.k, .int .i64 fa.i, .int .u32 fa.g, .int .i64 fa.why, .int .i64 fa.ans] : Array Value)[j]?))) (by kernel_rfl) ⟨rf.cell, r4.cell, r6.cell⟩ (fun hHeld => ?_)
              replace rf := rf.drew
              replace r4 := r4.drew
              replace r6 := r6.drew
              replace hb := hb.drew
              replace hx := hx.drew
              generalize X6.drew = Y0 at *
              refine' wpAnyH_take (i := 0) (oi := _) (v := _) ?_ (by kernel_rfl) (by kernel_rfl) (by kernel_rfl) ?_ (Or.inl ⟨?_, ?_⟩) (by assumption) ?_
              rotate_left 2
              · (simp only [List.getElem?_toArray, List.getElem?_cons_succ, List.getElem?_cons_zero]; rfl)
              · first | exact fun _ _ _ h => h | exact fun _ _ _ h => nomatch h.1
              · rfl
              · (intro W hSW; (try dsimp only at hSW); go_split_ands; first | (go_simp; done) | (go_simp; with_reducible rfl))
              try simp only [Act.put, List.setIfInBounds_toArray, List.set_cons_zero, List.set_cons_succ]
              refine' wpAnyH_take (i := 1) (oi := _) (v := _) ?_ (by kernel_rfl) (by kernel_rfl) (by kernel_rfl) ?_ (Or.inl ⟨?_, ?_⟩) (by assumption) ?_
              rotate_left 2
              · (simp only [List.getElem?_toArray, List.getElem?_cons_succ, List.getElem?_cons_zero]; rfl)
              · first | exact fun _ _ _ h => h | exact fun _ _ _ h => nomatch h.1
              · rfl
              · (intro W hSW; (try dsimp only at hSW); go_split_ands; first | (go_simp; done) | (go_simp; with_reducible rfl))
              try simp only [Act.put, List.setIfInBounds_toArray, List.set_cons_zero, List.set_cons_succ]
              refine' wpAnyH_take (i := 2) (oi := _) (v := _) ?_ (by kernel_rfl) (by kernel_rfl) (by kernel_rfl) ?_ (Or.inl ⟨?_, ?_⟩) (by assumption) ?_
              rotate_left 2
              · (simp only [List.getElem?_toArray, List.getElem?_cons_succ, List.getElem?_cons_zero]; rfl)
              · first | exact fun _ _ _ h => h | exact fun _ _ _ h => nomatch h.1
              · rfl
              · (intro W hSW; (try dsimp only at hSW); go_split_ands; first | (go_simp; done) | (go_simp; with_reducible rfl))
              try simp only [Act.put, List.setIfInBounds_toArray, List.set_cons_zero, List.set_cons_succ]
              refine' wpAnyH_take (i := 3) (oi := _) (v := _) ?_ (by kernel_rfl) (by kernel_rfl) (by kernel_rfl) ?_ (Or.inl ⟨?_, ?_⟩) (by assumption) ?_
              rotate_left 2
              · (simp only [List.getElem?_toArray, List.getElem?_cons_succ, List.getElem?_cons_zero]; rfl)
              · first | exact fun _ _ _ h => h | exact fun _ _ _ h => nomatch h.1
              · rfl
              · (intro W hSW; (try dsimp only at hSW); go_split_ands; first | (go_simp; done) | (go_simp; with_reducible rfl))
              try simp only [Act.put, List.setIfInBounds_toArray, List.set_cons_zero, List.set_cons_succ]
              refine' wpAnyH_take (i := 4) (oi := _) (v := _) ?_ (by kernel_rfl) (by kernel_rfl) (by kernel_rfl) ?_ (Or.inl ⟨?_, ?_⟩) (by assumption) ?_
              rotate_left 2
              · (simp only [List.getElem?_toArray, List.getElem?_cons_succ, List.getElem?_cons_zero]; rfl)
              · first | exact fun _ _ _ h => h | exact fun _ _ _ h => nomatch h.1
              · rfl
              · (intro W hSW; (try dsimp only at hSW); go_split_ands; first | (go_simp; done) | (go_simp; with_reducible rfl))
              try simp only [Act.put, List.setIfInBounds_toArray, List.set_cons_zero, List.set_cons_succ]
              refine' wpAnyH_take (i := 5) (oi := _) (v := _) ?_ (by kernel_rfl) (by kernel_rfl) (by kernel_rfl) ?_ (Or.inl ⟨?_, ?_⟩) (by assumption) ?_
              rotate_left 2
              · (simp only [List.getElem?_toArray, List.getElem?_cons_succ, List.getElem?_cons_zero]; rfl)
              · first | exact fun _ _ _ h => h | exact fun _ _ _ h => nomatch h.1
              · rfl
              · (intro W hSW; (try dsimp only at hSW); go_split_ands; first | (go_simp; done) | (go_simp; with_reducible rfl))
              try simp only [Act.put, List.setIfInBounds_toArray, List.set_cons_zero, List.set_cons_succ]
              refine' wpAnyH_take (i := 6) (oi := _) (v := _) ?_ (by kernel_rfl) (by kernel_rfl) (by kernel_rfl) ?_ (Or.inl ⟨?_, ?_⟩) (by assumption) ?_
              rotate_left 2
              · (simp only [List.getElem?_toArray, List.getElem?_cons_succ, List.getElem?_cons_zero]; rfl)
              · first | exact fun _ _ _ h => h | exact fun _ _ _ h => nomatch h.1
              · rfl
              · (intro W hSW; (try dsimp only at hSW); go_split_ands; first | (go_simp; done) | (go_simp; with_reducible rfl))
              try simp only [Act.put, List.setIfInBounds_toArray, List.set_cons_zero, List.set_cons_succ]
              refine' wpAnyH_take (i := 7) (oi := _) (v := _) ?_ (by kernel_rfl) (by kernel_rfl) (by kernel_rfl) ?_ (Or.inl ⟨?_, ?_⟩) (by assumption) ?_
              rotate_left 2
              · (simp only [List.getElem?_toArray, List.getElem?_cons_succ, List.getElem?_cons_zero]; rfl)
              · first | exact fun _ _ _ h => h | exact fun _ _ _ h => nomatch h.1
              · rfl
              · (intro W hSW; (try dsimp only at hSW); go_split_ands; first | (go_simp; done) | (go_simp; with_reducible rfl))
              try simp only [Act.put, List.setIfInBounds_toArray, List.set_cons_zero, List.set_cons_succ]
              refine' wpAnyH_take (i := 8) (oi := _) (v := _) ?_ (by kernel_rfl) (by kernel_rfl) (by kernel_rfl) ?_ (Or.inl ⟨?_, ?_⟩) (by assumption) ?_
              rotate_left 2
              · (simp only [List.getElem?_toArray, List.getElem?_cons_succ, List.getElem?_cons_zero]; rfl)
              · first | exact fun _ _ _ h => h | exact fun _ _ _ h => nomatch h.1
              · rfl
              · (intro W hSW; (try dsimp only at hSW); go_split_ands; first | (go_simp; done) | (go_simp; with_reducible rfl))
              try simp only [Act.put, List.setIfInBounds_toArray, List.set_cons_zero, List.set_cons_succ]
              refine' wpAnyH_take (i := 9) (oi := _) (v := _) ?_ (by kernel_rfl) (by kernel_rfl) (by kernel_rfl) ?_ (Or.inl ⟨?_, ?_⟩) (by assumption) ?_
              rotate_left 2
              · (simp only [List.getElem?_toArray, List.getElem?_cons_succ, List.getElem?_cons_zero]; rfl)
              · first | exact fun _ _ _ h => h | exact fun _ _ _ h => nomatch h.1
              · rfl
              · (intro W hSW; (try dsimp only at hSW); go_split_ands; first | (go_simp; done) | (go_simp; with_reducible rfl))
              try simp only [Act.put, List.setIfInBounds_toArray, List.set_cons_zero, List.set_cons_succ]
              refine' wpAnyH_take (i := 10) (oi := _) (v := _) ?_ (by kernel_rfl) (by kernel_rfl) (by kernel_rfl) ?_ (Or.inl ⟨?_, ?_⟩) (by assumption) ?_
              rotate_left 2
              · (simp only [List.getElem?_toArray, List.getElem?_cons_succ, List.getElem?_cons_zero]; rfl)
              · first | exact fun _ _ _ h => h | exact fun _ _ _ h => nomatch h.1
              · rfl
              · (intro W hSW; (try dsimp only at hSW); go_split_ands; first | (go_simp; done) | (go_simp; with_reducible rfl))
              try simp only [Act.put, List.setIfInBounds_toArray, List.set_cons_zero, List.set_cons_succ]
              refine' wpAnyH_take (i := 11) (oi := _) (v := _) ?_ (by kernel_rfl) (by kernel_rfl) (by kernel_rfl) ?_ (Or.inl ⟨?_, ?_⟩) (by assumption) ?_
              rotate_left 2
              · (simp only [List.getElem?_toArray, List.getElem?_cons_succ, List.getElem?_cons_zero]; rfl)
              · first | exact fun _ _ _ h => h | exact fun _ _ _ h => nomatch h.1
              · rfl
              · (intro W hSW; (try dsimp only at hSW); go_split_ands; first | (go_simp; done) | (go_simp; with_reducible rfl))
              try simp only [Act.put, List.setIfInBounds_toArray, List.set_cons_zero, List.set_cons_succ]
              refine' wpAnyH_take (i := 12) (oi := _) (v := _) ?_ (by kernel_rfl) (by kernel_rfl) (by kernel_rfl) ?_ (Or.inl ⟨?_, ?_⟩) (by assumption) ?_
              rotate_left 2
              · (simp only [List.getElem?_toArray, List.getElem?_cons_succ, List.getElem?_cons_zero]; rfl)
              · first | exact fun _ _ _ h => h | exact fun _ _ _ h => nomatch h.1
              · rfl
              · (intro W hSW; (try dsimp only at hSW); go_split_ands; first | (go_simp; done) | (go_simp; with_reducible rfl))
              try simp only [Act.put, List.setIfInBounds_toArray, List.set_cons_zero, List.set_cons_succ]
              refine' wpAnyH_take (i := 13) (oi := _) (v := _) ?_ (by kernel_rfl) (by kernel_rfl) (by kernel_rfl) ?_ (Or.inl ⟨?_, ?_⟩) (by assumption) ?_
              rotate_left 2
              · (simp only [List.getElem?_toArray, List.getElem?_cons_succ, List.getElem?_cons_zero]; rfl)
              · first | exact fun _ _ _ h => h | exact fun _ _ _ h => nomatch h.1
              · rfl
              · (intro W hSW; (try dsimp only at hSW); go_split_ands; first | (go_simp; done) | (go_simp; with_reducible rfl))
              try simp only [Act.put, List.setIfInBounds_toArray, List.set_cons_zero, List.set_cons_succ]
              refine' wpAnyH_take (i := 14) (oi := _) (v := _) ?_ (by kernel_rfl) (by kernel_rfl) (by kernel_rfl) ?_ (Or.inl ⟨?_, ?_⟩) (by assumption) ?_
              rotate_left 2
              · (simp only [List.getElem?_toArray, List.getElem?_cons_succ, List.getElem?_cons_zero]; rfl)
              · first | exact fun _ _ _ h => h | exact fun _ _ _ h => nomatch h.1
              · rfl
              · (intro W hSW; (try dsimp only at hSW); go_split_ands; first | (go_simp; done) | (go_simp; with_reducible rfl))
              try simp only [Act.put, List.setIfInBounds_toArray, List.set_cons_zero, List.set_cons_succ]
              refine' wpAnyH_take (i := 15) (oi := _) (v := _) ?_ (by kernel_rfl) (by kernel_rfl) (by kernel_rfl) ?_ (Or.inl ⟨?_, ?_⟩) (by assumption) ?_
              rotate_left 2
              · (simp only [List.getElem?_toArray, List.getElem?_cons_succ, List.getElem?_cons_zero]; rfl)
              · first | exact fun _ _ _ h => h | exact fun _ _ _ h => nomatch h.1
              · rfl
              · (intro W hSW; (try dsimp only at hSW); go_split_ands; first | (go_simp; done) | (go_simp; with_reducible rfl))
              try simp only [Act.put, List.setIfInBounds_toArray, List.set_cons_zero, List.set_cons_succ]
              refine' wpAnyH_take (i := 16) (oi := _) (v := _) ?_ (by kernel_rfl) (by kernel_rfl) (by kernel_rfl) ?_ (Or.inl ⟨?_, ?_⟩) (by assumption) ?_
              rotate_left 2
              · (simp only [List.getElem?_toArray, List.getElem?_cons_succ, List.getElem?_cons_zero]; rfl)
              · first | exact fun _ _ _ h => h | exact fun _ _ _ h => nomatch h.1
              · rfl
              · (intro W hSW; (try dsimp only at hSW); go_split_ands; first | (go_simp; done) | (go_simp; with_reducible rfl))
              try simp only [Act.put, List.setIfInBounds_toArray, List.set_cons_zero, List.set_cons_succ]
              refine' wpAnyH_take (i := 17) (oi := _) (v := _) ?_ (by kernel_rfl) (by kernel_rfl) (by kernel_rfl) ?_ (Or.inl ⟨?_, ?_⟩) (by assumption) ?_
              rotate_left 2
              · (simp only [List.getElem?_toArray, List.getElem?_cons_succ, List.getElem?_cons_zero]; rfl)
              · first | exact fun _ _ _ h => h | exact fun _ _ _ h => nomatch h.1
              · rfl
              · (intro W hSW; (try dsimp only at hSW); go_split_ands; first | (go_simp; done) | (go_simp; with_reducible rfl))
              try simp only [Act.put, List.setIfInBounds_toArray, List.set_cons_zero, List.set_cons_succ]
              refine' wpAnyH_take (i := 18) (oi := _) (v := _) ?_ (by kernel_rfl) (by kernel_rfl) (by kernel_rfl) ?_ (Or.inl ⟨?_, ?_⟩) (by assumption) ?_
              rotate_left 2
              · (simp only [List.getElem?_toArray, List.getElem?_cons_succ, List.getElem?_cons_zero]; rfl)
              · first | exact fun _ _ _ h => h | exact fun _ _ _ h => nomatch h.1
              · rfl
              · (intro W hSW; (try dsimp only at hSW); go_split_ands; first | (go_simp; done) | (go_simp; with_reducible rfl))
              try simp only [Act.put, List.setIfInBounds_toArray, List.set_cons_zero, List.set_cons_succ]
              refine' wpAnyH_take (i := 19) (oi := _) (v := _) ?_ (by kernel_rfl) (by kernel_rfl) (by kernel_rfl) ?_ (Or.inl ⟨?_, ?_⟩) (by assumption) ?_
              rotate_left 2
              · (simp only [List.getElem?_toArray, List.getElem?_cons_succ, List.getElem?_cons_zero]; rfl)
              · first | exact fun _ _ _ h => h | exact fun _ _ _ h => nomatch h.1
              · rfl
              · (intro W hSW; (try dsimp only at hSW); go_split_ands; first | (go_simp; done) | (go_simp; with_reducible rfl))
              try simp only [Act.put, List.setIfInBounds_toArray, List.set_cons_zero, List.set_cons_succ]
              refine' wpAnyH_take (i := 20) (oi := _) (v := _) ?_ (by kernel_rfl) (by kernel_rfl) (by kernel_rfl) ?_ (Or.inl ⟨?_, ?_⟩) (by assumption) ?_
              rotate_left 2
              · (simp only [List.getElem?_toArray, List.getElem?_cons_succ, List.getElem?_cons_zero]; rfl)
              · first | exact fun _ _ _ h => h | exact fun _ _ _ h => nomatch h.1
              · rfl
              · (intro W hSW; (try dsimp only at hSW); go_split_ands; first | (go_simp; done) | (go_simp; with_reducible rfl))
              try simp only [Act.put, List.setIfInBounds_toArray, List.set_cons_zero, List.set_cons_succ]
              refine' wpAnyH_take (i := 22) (oi := _) (v := _) ?_ (by kernel_rfl) (by kernel_rfl) (by kernel_rfl) ?_ (Or.inl ⟨?_, ?_⟩) (by assumption) ?_
              rotate_left 2
              · (simp only [List.getElem?_toArray, List.getElem?_cons_succ, List.getElem?_cons_zero]; rfl)
              · first | exact fun _ _ _ h => h | exact fun _ _ _ h => nomatch h.1
              · rfl
              · (intro W hSW; (try dsimp only at hSW); go_split_ands; first | (go_simp; done) | (go_simp; with_reducible rfl))
              try simp only [Act.put, List.setIfInBounds_toArray, List.set_cons_zero, List.set_cons_succ]
              refine' wpAnyH_take (i := 23) (oi := _) (v := _) ?_ (by kernel_rfl) (by kernel_rfl) (by kernel_rfl) ?_ (Or.inl ⟨?_, ?_⟩) (by assumption) ?_
              rotate_left 2
              · (simp only [List.getElem?_toArray, List.getElem?_cons_succ, List.getElem?_cons_zero]; rfl)
              · first | exact fun _ _ _ h => h | exact fun _ _ _ h => nomatch h.1
              · rfl
              · (intro W hSW; (try dsimp only at hSW); go_split_ands; first | (go_simp; done) | (go_simp; with_reducible rfl))
              try simp only [Act.put, List.setIfInBounds_toArray, List.set_cons_zero, List.set_cons_succ]
              clear hHeld
              refine wpAnyH_ready (rs := [21]) (by kernel_rfl) (by simp) ?_
              refine' AllReadyH.cons (o := _) ?_ (fun K hK => ?_) AllReadyH.nil
              rotate_left 1
              · (simp only [List.getElem?_toArray, List.getElem?_cons_succ, List.getElem?_cons_zero]; rfl)
              go_simp
              refine Calls.mono (CO.out _ hb.led) ?_
              rintro e Y1 ⟨u1, rfl, hu1, hn⟩
              replace rf := rf.on hn
              replace r4 := r4.on hn
              replace r6 := r6.on hn
              replace hb := hb.on hn
              replace hx := chain hx hn
              clear hn
              go_simp
              refine hK.out _ _ ⟨rf.cell, r4.cell, r6.cell⟩ (fun hHeld => ?_)
              clear hK K
              clear hHeld
              refine wpAnyH_ready (rs := [24]) (by kernel_rfl) (by simp) ?_
              refine' AllReadyH.cons (o := _) ?_ (fun K hK => ?_) AllReadyH.nil
              rotate_left 1
              · (simp only [List.getElem?_toArray, List.getElem?_cons_succ, List.getElem?_cons_zero]; rfl)
              go_simp
              refine Calls.mono (COR.out _ hb.rled) ?_
              rintro e Y2 ⟨u2, rfl, hu2, hn⟩
              replace hu1 := OwnsA.on hu1 hn
              replace rf := rf.on hn
              replace r4 := r4.on hn
              replace r6 := r6.on hn
              replace hb := hb.on hn
              replace hx := chain hx hn
              clear hn
              go_simp
              refine hK.out _ _ ⟨rf.cell, r4.cell, r6.cell⟩ (fun hHeld => ?_)
              clear hK K
              clear hHeld
              refine wpAnyH_ready (rs := [25]) (by kernel_rfl) (by simp) ?_
              refine' AllReadyH.cons (o := _) ?_ (fun K hK => ?_) AllReadyH.nil
              rotate_left 1
              · (simp only [List.getElem?_toArray, List.getElem?_cons_succ, List.getElem?_cons_zero]; rfl)
              go_simp
              refine Calls.mono (equal_same _ _ S _ (OwnsA.holds hu1) (OwnsA.holds hu2) (by omega)) ?_
              rintro e Y3 ⟨rfl, hn⟩
              clear hu1 hu2
              replace rf := rf.on hn
              replace r4 := r4.on hn
              replace r6 := r6.on hn
              replace hb := hb.on hn
              replace hx := chain hx hn
              clear hn
              go_simp
              refine hK.out _ _ ⟨rf.cell, r4.cell, r6.cell⟩ (fun hHeld => ?_)
              clear hK K
              refine' wpAnyH_take (i := 26) (oi := _) (v := _) ?_ (by kernel_rfl) (by kernel_rfl) (by kernel_rfl) ?_ (Or.inl ⟨?_, ?_⟩) (by assumption) ?_
              rotate_left 2
              · (simp only [List.getElem?_toArray, List.getElem?_cons_succ, List.getElem?_cons_zero]; rfl)
              · first | exact fun _ _ _ h => h | exact fun _ _ _ h => nomatch h.1
              · rfl
              · (intro W hSW; (try dsimp only at hSW); go_split_ands; first | (go_simp; done) | (go_simp; with_reducible rfl))
              try simp only [Act.put, List.setIfInBounds_toArray, List.set_cons_zero, List.set_cons_succ]
              refine' wpAnyH_take (i := 27) (oi := _) (v := _) ?_ (by kernel_rfl) (by kernel_rfl) (by kernel_rfl) ?_ (Or.inl ⟨?_, ?_⟩) (by assumption) ?_
              rotate_left 2
              · (simp only [List.getElem?_toArray, List.getElem?_cons_succ, List.getElem?_cons_zero]; rfl)
              · first | exact fun _ _ _ h => h | exact fun _ _ _ h => nomatch h.1
              · rfl
              · (intro W hSW; (try dsimp only at hSW); go_split_ands; first | (go_simp; done) | (go_simp; with_reducible rfl))
              try simp only [Act.put, List.setIfInBounds_toArray, List.set_cons_zero, List.set_cons_succ]
              clear hHeld
              refine wpAnyH_done (by kernel_rfl) ?_ _
              clear rf r4 r6 hb f5
              go_wp2_with fail
              refine ⟨⟨m + 1, by omega, by go_num, hx⟩, by simp only [intOf]; omega⟩
            · obtain rfl : m = 2 := by omega
              have hb := HBB.out.on hx
              have hMl := hb.led.len
              have f7 : ((M2.length : Int) != (M2.length : Int)) = false := by simp
              clear hmt hx RS COF HBB
              go_wp2_with fail
              refine Calls.mono (lenW_c hb.led) ?_
              rintro e Z1 ⟨rfl, hn⟩
              replace hb := hb.on hn
              clear hn
              go_wp2_with fail
              refine Calls.mono (rlenW_c hb.rled) ?_
              rintro e Z2 ⟨rfl, hn⟩
              replace hb := hb.on hn
              clear hn
              go_wp2_with fail
              refine Calls.mono (allW_c hb.led) ?_
              rintro e Z3 ⟨u1, rfl, hu1, hn⟩
              replace hb := hb.on hn
              clear hn
              go_wp2_with fail
              refine Calls.mono (rallW_c hb.rled) ?_
              rintro e Z4 ⟨u2, rfl, hu2, hn⟩
              replace hu1 := OwnsA.on hu1 hn
              replace hb := hb.on hn
              clear hn
              go_wp2_with fail
              refine Calls.mono (equal_same _ _ M2 _ (OwnsA.holds hu1) (OwnsA.holds hu2) (by omega)) ?_
              rintro e Z5 ⟨rfl, hn⟩
              replace hb := hb.on hn
              clear hn hu1 hu2
              go_wp2_with fail
              refine ⟨⟨j + 1, p2, F6, G7, M2, by omega, by go_num, rfl, hb⟩, by simp only [intOf]; omega⟩
        · have f1 : ((j : Int) == c) = false := by rw [beq_eq_false_iff_ne]; exact hjc
          clear hjc
          have CK := Lib.hid (fun W => acheck_c x hgx W)
          have CR := Lib.hid (fun W => rcheck_a x hgx W)
          have f2 : (aErr x != aErr x) = false := by simp
          have f3 : (addE M x != addE M x) = false := by simp
          have HGX := Lib.hid hgx
          clear hgx
          generalize aErr x = ex at *
          go_upto_region 13 with fail
          refine wp_region_held_drew (S := (fun W' => ∀ j, W'.cell? ⟨bx, j, none⟩ = (#[.int .i64 x.at_, .int .i64 x.k, .int .i64 x.i, .int .u32 x.g, .int .i64 x.why, .int .i64 x.ans] : Array Value)[j]?)) (by kernel_rfl) rx.cell (fun hHeld => ?_)
          replace rx := rx.drew
          replace hb := hb.drew
          generalize V3.drew = W3 at *
          refine' wpAnyH_take (i := 0) (oi := _) (v := _) ?_ (by kernel_rfl) (by kernel_rfl) (by kernel_rfl) ?_ (Or.inl ⟨?_, ?_⟩) (by assumption) ?_
          rotate_left 2
          · (simp only [List.getElem?_toArray, List.getElem?_cons_succ, List.getElem?_cons_zero]; rfl)
          · first | exact fun _ _ _ h => h | exact fun _ _ _ h => nomatch h.1
          · rfl
          · (intro W hSW; (try dsimp only at hSW); go_split_ands; first | (go_simp; done) | (go_simp; with_reducible rfl))
          try simp only [Act.put, List.setIfInBounds_toArray, List.set_cons_zero, List.set_cons_succ]
          refine' wpAnyH_take (i := 2) (oi := _) (v := _) ?_ (by kernel_rfl) (by kernel_rfl) (by kernel_rfl) ?_ (Or.inl ⟨?_, ?_⟩) (by assumption) ?_
          rotate_left 2
          · (simp only [List.getElem?_toArray, List.getElem?_cons_succ, List.getElem?_cons_zero]; rfl)
          · first | exact fun _ _ _ h => h | exact fun _ _ _ h => nomatch h.1
          · rfl
          · (intro W hSW; (try dsimp only at hSW); go_split_ands; first | (go_simp; done) | (go_simp; with_reducible rfl))
          try simp only [Act.put, List.setIfInBounds_toArray, List.set_cons_zero, List.set_cons_succ]
          clear hHeld
          refine wpAnyH_ready (rs := [1]) (by kernel_rfl) (by simp) ?_
          refine' AllReadyH.cons (o := _) ?_ (fun K hK => ?_) AllReadyH.nil
          rotate_left 1
          · (simp only [List.getElem?_toArray, List.getElem?_cons_succ, List.getElem?_cons_zero]; rfl)
          go_simp
          refine Calls.mono (CK.out _) ?_
          rintro e W4 ⟨rfl, hn⟩
          replace rx := rx.on hn
          replace hb := hb.on hn
          clear hn
          go_simp
          refine hK.out _ _ rx.cell (fun hHeld => ?_)
          clear hK K
          clear hHeld
          refine wpAnyH_ready (rs := [3]) (by kernel_rfl) (by simp) ?_
          refine' AllReadyH.cons (o := _) ?_ (fun K hK => ?_) AllReadyH.nil
          rotate_left 1
          · (simp only [List.getElem?_toArray, List.getElem?_cons_succ, List.getElem?_cons_zero]; rfl)
          go_simp
          refine Calls.mono (CR.out _) ?_
          rintro e W5 ⟨rfl, hn⟩
          replace rx := rx.on hn
          replace hb := hb.on hn
          clear hn
          go_simp
          refine hK.out _ _ rx.cell (fun hHeld => ?_)
          clear hK K
          refine' wpAnyH_take (i := 4) (oi := _) (v := _) ?_ (by kernel_rfl) (by kernel_rfl) (by kernel_rfl) ?_ (Or.inl ⟨?_, ?_⟩) (by assumption) ?_
          rotate_left 2
          · (simp only [List.getElem?_toArray, List.getElem?_cons_succ, List.getElem?_cons_zero]; rfl)
          · first | exact fun _ _ _ h => h | exact fun _ _ _ h => nomatch h.1
          · rfl
          · (intro W hSW; (try dsimp only at hSW); go_split_ands; first | (go_simp; done) | (go_simp; with_reducible rfl))
          try simp only [Act.put, List.setIfInBounds_toArray, List.set_cons_zero, List.set_cons_succ]
          refine' wpAnyH_take (i := 5) (oi := _) (v := _) ?_ (by kernel_rfl) (by kernel_rfl) (by kernel_rfl) ?_ (Or.inl ⟨?_, ?_⟩) (by assumption) ?_
          rotate_left 2
          · (simp only [List.getElem?_toArray, List.getElem?_cons_succ, List.getElem?_cons_zero]; rfl)
          · first | exact fun _ _ _ h => h | exact fun _ _ _ h => nomatch h.1
          · rfl
          · (intro W hSW; (try dsimp only at hSW); go_split_ands; first | (go_simp; done) | (go_simp; with_reducible rfl))
          try simp only [Act.put, List.setIfInBounds_toArray, List.set_cons_zero, List.set_cons_succ]
          refine' wpAnyH_take (i := 6) (oi := _) (v := _) ?_ (by kernel_rfl) (by kernel_rfl) (by kernel_rfl) ?_ (Or.inl ⟨?_, ?_⟩) (by assumption) ?_
          rotate_left 2
          · (simp only [List.getElem?_toArray, List.getElem?_cons_succ, List.getElem?_cons_zero]; rfl)
          · first | exact fun _ _ _ h => h | exact fun _ _ _ h => nomatch h.1
          · rfl
          · (intro W hSW; (try dsimp only at hSW); go_split_ands; first | (go_simp; done) | (go_simp; with_reducible rfl))
          try simp only [Act.put, List.setIfInBounds_toArray, List.set_cons_zero, List.set_cons_succ]
          refine' wpAnyH_take (i := 7) (oi := _) (v := _) ?_ (by kernel_rfl) (by kernel_rfl) (by kernel_rfl) ?_ (Or.inl ⟨?_, ?_⟩) (by assumption) ?_
          rotate_left 2
          · (simp only [List.getElem?_toArray, List.getElem?_cons_succ, List.getElem?_cons_zero]; rfl)
          · first | exact fun _ _ _ h => h | exact fun _ _ _ h => nomatch h.1
          · rfl
          · (intro W hSW; (try dsimp only at hSW); go_split_ands; first | (go_simp; done) | (go_simp; with_reducible rfl))
          try simp only [Act.put, List.setIfInBounds_toArray, List.set_cons_zero, List.set_cons_succ]
          refine' wpAnyH_take (i := 9) (oi := _) (v := _) ?_ (by kernel_rfl) (by kernel_rfl) (by kernel_rfl) ?_ (Or.inl ⟨?_, ?_⟩) (by assumption) ?_
          rotate_left 2
          · (simp only [List.getElem?_toArray, List.getElem?_cons_succ, List.getElem?_cons_zero]; rfl)
          · first | exact fun _ _ _ h => h | exact fun _ _ _ h => nomatch h.1
          · rfl
          · (intro W hSW; (try dsimp only at hSW); go_split_ands; first | (go_simp; done) | (go_simp; with_reducible rfl))
          try simp only [Act.put, List.setIfInBounds_toArray, List.set_cons_zero, List.set_cons_succ]
          refine' wpAnyH_take (i := 10) (oi := _) (v := _) ?_ (by kernel_rfl) (by kernel_rfl) (by kernel_rfl) ?_ (Or.inl ⟨?_, ?_⟩) (by assumption) ?_
          rotate_left 2
          · (simp only [List.getElem?_toArray, List.getElem?_cons_succ, List.getElem?_cons_zero]; rfl)
          · first | exact fun _ _ _ h => h | exact fun _ _ _ h => nomatch h.1
          · rfl
          · (intro W hSW; (try dsimp only at hSW); go_split_ands; first | (go_simp; done) | (go_simp; with_reducible rfl))
          try simp only [Act.put, List.setIfInBounds_toArray, List.set_cons_zero, List.set_cons_succ]
          clear hHeld
          refine wpAnyH_ready (rs := [8]) (by kernel_rfl) (by simp) ?_
          refine' AllReadyH.cons (o := _) ?_ (fun K hK => ?_) AllReadyH.nil
          rotate_left 1
          · (simp only [List.getElem?_toArray, List.getElem?_cons_succ, List.getElem?_cons_zero]; rfl)
          go_simp
          refine Calls.mono (addB_c x HGX.out hb) ?_
          rintro e W6 ⟨rfl, hk, F6, ⟨h1, h2, h3, h4⟩, hno⟩
          have hoff6 := hno bx rx.lt hoff
          replace rx := hk _ _ _ hoff rx
          clear hk hno hb hoff
          go_simp
          refine hK.out _ _ rx.cell (fun hHeld => ?_)
          clear hK K
          clear hHeld
          refine wpAnyH_ready (rs := [11]) (by kernel_rfl) (by simp) ?_
          refine' AllReadyH.cons (o := _) ?_ (fun K hK => ?_) AllReadyH.nil
          rotate_left 1
          · (simp only [List.getElem?_toArray, List.getElem?_cons_succ, List.getElem?_cons_zero]; rfl)
          go_simp
          refine Calls.mono (raddB_c x HGX.out h1 h2 h3 h4 rfl) ?_
          rintro e W7 ⟨rfl, hk, G7, hb, hno⟩
          have hoff7 := hno bx rx.lt hoff6
          replace rx := hk _ _ _ hoff6 rx
          clear hk hno h1 h2 h3 h4 hoff6 hoff7
          go_simp
          refine hK.out _ _ rx.cell (fun hHeld => ?_)
          clear hK K
          refine' wpAnyH_take (i := 12) (oi := _) (v := _) ?_ (by kernel_rfl) (by kernel_rfl) (by kernel_rfl) ?_ (Or.inl ⟨?_, ?_⟩) (by assumption) ?_
          rotate_left 2
          · (simp only [List.getElem?_toArray, List.getElem?_cons_succ, List.getElem?_cons_zero]; rfl)
          · first | exact fun _ _ _ h => h | exact fun _ _ _ h => nomatch h.1
          · rfl
          · (intro W hSW; (try dsimp only at hSW); go_split_ands; first | (go_simp; done) | (go_simp; with_reducible rfl))
          try simp only [Act.put, List.setIfInBounds_toArray, List.set_cons_zero, List.set_cons_succ]
          refine' wpAnyH_take (i := 13) (oi := _) (v := _) ?_ (by kernel_rfl) (by kernel_rfl) (by kernel_rfl) ?_ (Or.inl ⟨?_, ?_⟩) (by assumption) ?_
          rotate_left 2
          · (simp only [List.getElem?_toArray, List.getElem?_cons_succ, List.getElem?_cons_zero]; rfl)
          · first | exact fun _ _ _ h => h | exact fun _ _ _ h => nomatch h.1
          · rfl
          · (intro W hSW; (try dsimp only at hSW); go_split_ands; first | (go_simp; done) | (go_simp; with_reducible rfl))
          try simp only [Act.put, List.setIfInBounds_toArray, List.set_cons_zero, List.set_cons_succ]
          clear hHeld
          refine wpAnyH_done (by kernel_rfl) ?_ _
          generalize addL M x = M2 at *
          clear f2 f3
          have ro7 := ro.on hb.beh.b
          have yo := ro7.cell
          have zo := ro7.lt
          have yx := rx.cell
          have zx := rx.lt
          go_upto_region 16 with fail
          clear yo zo yx zx ro7 rx
          have rs := Row.new (W := W7) (cs := #[.int .i64 k, .int .i64 i, .int .u32 g, .int .i64 x.k, .int .i64 x.i, .int .u32 x.g]) (t := 41)
          have hn := below_alloc W7 (.cells #[.int .i64 k, .int .i64 i, .int .u32 g, .int .i64 x.k, .int .i64 x.i, .int .u32 x.g] 41)
          replace hb := hb.on hn
          clear hn
          generalize W7.alloc (.cells #[.int .i64 k, .int .i64 i, .int .u32 g, .int .i64 x.k, .int .i64 x.i, .int .u32 x.g] 41) = W8 at *
          generalize W7.heap.size = bs at *
          have hx := Below.refl W8.heap.size W8
          have cOf : ∀ m : Nat, m < 2 → ∃ kk ii gg : Int, (#[.int .i64 k, .int .i64 i, .int .u32 g, .int .i64 x.k, .int .i64 x.i, .int .u32 x.g] : Array Value)[m * 3]? = some (.int .i64 kk) ∧ (#[.int .i64 k, .int .i64 i, .int .u32 g, .int .i64 x.k, .int .i64 x.i, .int .u32 x.g] : Array Value)[m * 3 + 1]? = some (.int .i64 ii) ∧ (#[.int .i64 k, .int .i64 i, .int .u32 g, .int .i64 x.k, .int .i64 x.i, .int .u32 x.g] : Array Value)[m * 3 + 2]? = some (.int .u32 gg) := fun m hm => by
            rcases (by omega : m = 0 ∨ m = 1) with rfl | rfl
            · exact ⟨k, i, g, rfl, rfl, rfl⟩
            · exact ⟨x.k, x.i, x.g, rfl, rfl, rfl⟩
          have COF := Lib.hid cOf
          clear cOf
          have RS := Lib.hid rs
          have HBB := Lib.hid hb
          clear rs
          go_loopw [67] (fun mv wr => ∃ m : Nat, m ≤ 2 ∧ mv = .int .i64 m ∧ Below W8.heap.size W8 wr) (fun mv _ => 2 - (intOf mv).toNat)
          case atStart => exact ⟨0, by omega, rfl, hx⟩
          case round =>
            clear hx hb
            obtain ⟨m, hm, rfl, hx⟩ := hrel
            by_cases hmt : m < 2
            · obtain ⟨kk, ii, gg, e0, e1, e2⟩ := COF.out m hmt
              have rs := RS.out.on hx
              have d0 := (rs.cell (m * 3)).trans e0
              have d1 := (rs.cell (m * 3 + 1)).trans e1
              have d2 := (rs.cell (m * 3 + 2)).trans e2
              have hmt2 : (m : Int) < 2 := by omega
              have hb := HBB.out.on hx
              clear e0 e1 e2 rs
              go_upto_region 18 with fail
              clear d0 d1 d2
              have rf := Row.new (W := wr) (cs := #[.int .i64 kk, .int .i64 ii, .int .u32 gg]) (t := 41)
              have hn := below_alloc wr (.cells #[.int .i64 kk, .int .i64 ii, .int .u32 gg] 41)
              replace hb := hb.on hn
              replace hx := chain hx hn
              clear hn
              generalize wr.alloc (.cells #[.int .i64 kk, .int .i64 ii, .int .u32 gg] 41) = X0 at *
              generalize wr.heap.size = bf at *
              have CF := Lib.hid (fun W (h : LedW B W F6 p M2) => firstW_c kk ii gg h)
              have CFR := Lib.hid (fun W (h : RLedW B W G7 q M2) => rfirstW_c kk ii gg h)
              have CE := Lib.hid (fun W (h : LedW B W F6 p M2) => endedW_c kk ii gg h)
              have CER := Lib.hid (fun W (h : RLedW B W G7 q M2) => rendedW_c kk ii gg h)
              have CO := Lib.hid (fun W (h : LedW B W F6 p M2) => ofW_c kk ii gg h)
              have COR := Lib.hid (fun W (h : RLedW B W G7 q M2) => rofW_c kk ii gg h)
              have hSl := Nat.le_trans (ofL_len kk ii gg M2) hb.led.len
              generalize ofL kk ii gg M2 = S at *
              generalize (S.find? qAll).getD at0 = fa at *
              generalize (S.find? qAll).isSome = fs at *
              generalize ((S.find? qEnd).getD at0).ans = an at *
              generalize (S.find? qEnd).isSome = en at *
              have b1 : (fs != fs) = false := by simp
              have b2 : (an != an) = false := by simp
              have b3 : (en != en) = false := by simp
              have yrf := rf.cell
              have zrf := rf.lt
              go_wp2_with fail
              refine Calls.mono (CF.out _ hb.led) ?_
              rintro e X1 ⟨rfl, hn⟩
              clear yrf zrf
              replace rf := rf.on hn
              replace hb := hb.on hn
              replace hx := chain hx hn
              clear hn
              have yrf := rf.cell
              have zrf := rf.lt
              go_upto_region 19 with fail
              clear yrf zrf
              have r4 := Row.new (W := X1) (cs := #[.int .i64 fa.at_, .int .i64 fa.k, .int .i64 fa.i, .int .u32 fa.g, .int .i64 fa.why, .int .i64 fa.ans]) (t := 43)
              have hn := below_alloc X1 (.cells #[.int .i64 fa.at_, .int .i64 fa.k, .int .i64 fa.i, .int .u32 fa.g, .int .i64 fa.why, .int .i64 fa.ans] 43)
              replace rf := rf.on hn
              replace hb := hb.on hn
              replace hx := chain hx hn
              clear hn
              generalize X1.alloc (.cells #[.int .i64 fa.at_, .int .i64 fa.k, .int .i64 fa.i, .int .u32 fa.g, .int .i64 fa.why, .int .i64 fa.ans] 43) = X2 at *
              generalize X1.heap.size = b4 at *
              have yrf := rf.cell
              have zrf := rf.lt
              have yr4 := r4.cell
              have zr4 := r4.lt
              go_wp2_with fail
              refine Calls.mono (CFR.out _ hb.rled) ?_
              rintro e X3 ⟨rfl, hn⟩
              clear yrf zrf yr4 zr4
              replace rf := rf.on hn
              replace r4 := r4.on hn
              replace hb := hb.on hn
              replace hx := chain hx hn
              clear hn
              have yrf := rf.cell
              have zrf := rf.lt
              have yr4 := r4.cell
              have zr4 := r4.lt
              go_upto_region 20 with fail
              clear yrf zrf yr4 zr4
              have r6 := Row.new (W := X3) (cs := #[.int .i64 fa.at_, .int .i64 fa.k, .int .i64 fa.i, .int .u32 fa.g, .int .i64 fa.why, .int .i64 fa.ans]) (t := 43)
              have hn := below_alloc X3 (.cells #[.int .i64 fa.at_, .int .i64 fa.k, .int .i64 fa.i, .int .u32 fa.g, .int .i64 fa.why, .int .i64 fa.ans] 43)
              replace rf := rf.on hn
              replace r4 := r4.on hn
              replace hb := hb.on hn
              replace hx := chain hx hn
              clear hn
              generalize X3.alloc (.cells #[.int .i64 fa.at_, .int .i64 fa.k, .int .i64 fa.i, .int .u32 fa.g, .int .i64 fa.why, .int .i64 fa.ans] 43) = X4 at *
              generalize X3.heap.size = b6 at *
              have yrf := rf.cell
              have zrf := rf.lt
              have yr4 := r4.cell
              have zr4 := r4.lt
              have yr6 := r6.cell
              have zr6 := r6.lt
              go_wp2_with fail
              refine Calls.mono (CE.out _ hb.led) ?_
              rintro e X5 ⟨rfl, hn⟩
              clear yrf zrf yr4 zr4 yr6 zr6
              replace rf := rf.on hn
              replace r4 := r4.on hn
              replace r6 := r6.on hn
              replace hb := hb.on hn
              replace hx := chain hx hn
              clear hn
              have yrf := rf.cell
              have zrf := rf.lt
              have yr4 := r4.cell
              have zr4 := r4.lt
              have yr6 := r6.cell
              have zr6 := r6.lt
              go_wp2_with fail
              refine Calls.mono (CER.out _ hb.rled) ?_
              rintro e X6 ⟨rfl, hn⟩
              clear yrf zrf yr4 zr4 yr6 zr6
              replace rf := rf.on hn
              replace r4 := r4.on hn
              replace r6 := r6.on hn
              replace hb := hb.on hn
              replace hx := chain hx hn
              clear hn
              have yrf := rf.cell
              go_upto_region 22 with fail
              clear yrf
              have f5 := neq_at fa fa
              rw [decide_eq_true (rfl : fa = fa)] at f5
              refine wp_region_held_drew (S := (fun W' => (∀ j, W'.cell? ⟨bf, j, none⟩ = (#[.int .i64 kk, .int .i64 ii, .int .u32 gg] : Array Value)[j]?) ∧ (∀ j, W'.cell? ⟨b4, j, none⟩ = (#[.int .i64 fa.at_, .int .i64 fa.k, .int .i64 fa.i, .int .u32 fa.g, .int .i64 fa.why, .int .i64 fa.ans] : Array Value)[j]?) ∧ (∀ j, W'.cell? ⟨b6, j, none⟩ = (#[.int .i64 fa.at_, .int .i64 fa.k, .int .i64 fa.i, .int .u32 fa.g, .int .i64 fa.why, .int .i64 fa.ans] : Array Value)[j]?))) (by kernel_rfl) ⟨rf.cell, r4.cell, r6.cell⟩ (fun hHeld => ?_)
              replace rf := rf.drew
              replace r4 := r4.drew
              replace r6 := r6.drew
              replace hb := hb.drew
              replace hx := hx.drew
              generalize X6.drew = Y0 at *
              refine' wpAnyH_take (i := 0) (oi := _) (v := _) ?_ (by kernel_rfl) (by kernel_rfl) (by kernel_rfl) ?_ (Or.inl ⟨?_, ?_⟩) (by assumption) ?_
              rotate_left 2
              · (simp only [List.getElem?_toArray, List.getElem?_cons_succ, List.getElem?_cons_zero]; rfl)
              · first | exact fun _ _ _ h => h | exact fun _ _ _ h => nomatch h.1
              · rfl
              · (intro W hSW; (try dsimp only at hSW); go_split_ands; first | (go_simp; done) | (go_simp; with_reducible rfl))
              try simp only [Act.put, List.setIfInBounds_toArray, List.set_cons_zero, List.set_cons_succ]
              refine' wpAnyH_take (i := 1) (oi := _) (v := _) ?_ (by kernel_rfl) (by kernel_rfl) (by kernel_rfl) ?_ (Or.inl ⟨?_, ?_⟩) (by assumption) ?_
              rotate_left 2
              · (simp only [List.getElem?_toArray, List.getElem?_cons_succ, List.getElem?_cons_zero]; rfl)
              · first | exact fun _ _ _ h => h | exact fun _ _ _ h => nomatch h.1
              · rfl
              · (intro W hSW; (try dsimp only at hSW); go_split_ands; first | (go_simp; done) | (go_simp; with_reducible rfl))
              try simp only [Act.put, List.setIfInBounds_toArray, List.set_cons_zero, List.set_cons_succ]
              refine' wpAnyH_take (i := 2) (oi := _) (v := _) ?_ (by kernel_rfl) (by kernel_rfl) (by kernel_rfl) ?_ (Or.inl ⟨?_, ?_⟩) (by assumption) ?_
              rotate_left 2
              · (simp only [List.getElem?_toArray, List.getElem?_cons_succ, List.getElem?_cons_zero]; rfl)
              · first | exact fun _ _ _ h => h | exact fun _ _ _ h => nomatch h.1
              · rfl
              · (intro W hSW; (try dsimp only at hSW); go_split_ands; first | (go_simp; done) | (go_simp; with_reducible rfl))
              try simp only [Act.put, List.setIfInBounds_toArray, List.set_cons_zero, List.set_cons_succ]
              refine' wpAnyH_take (i := 3) (oi := _) (v := _) ?_ (by kernel_rfl) (by kernel_rfl) (by kernel_rfl) ?_ (Or.inl ⟨?_, ?_⟩) (by assumption) ?_
              rotate_left 2
              · (simp only [List.getElem?_toArray, List.getElem?_cons_succ, List.getElem?_cons_zero]; rfl)
              · first | exact fun _ _ _ h => h | exact fun _ _ _ h => nomatch h.1
              · rfl
              · (intro W hSW; (try dsimp only at hSW); go_split_ands; first | (go_simp; done) | (go_simp; with_reducible rfl))
              try simp only [Act.put, List.setIfInBounds_toArray, List.set_cons_zero, List.set_cons_succ]
              refine' wpAnyH_take (i := 4) (oi := _) (v := _) ?_ (by kernel_rfl) (by kernel_rfl) (by kernel_rfl) ?_ (Or.inl ⟨?_, ?_⟩) (by assumption) ?_
              rotate_left 2
              · (simp only [List.getElem?_toArray, List.getElem?_cons_succ, List.getElem?_cons_zero]; rfl)
              · first | exact fun _ _ _ h => h | exact fun _ _ _ h => nomatch h.1
              · rfl
              · (intro W hSW; (try dsimp only at hSW); go_split_ands; first | (go_simp; done) | (go_simp; with_reducible rfl))
              try simp only [Act.put, List.setIfInBounds_toArray, List.set_cons_zero, List.set_cons_succ]
              refine' wpAnyH_take (i := 5) (oi := _) (v := _) ?_ (by kernel_rfl) (by kernel_rfl) (by kernel_rfl) ?_ (Or.inl ⟨?_, ?_⟩) (by assumption) ?_
              rotate_left 2
              · (simp only [List.getElem?_toArray, List.getElem?_cons_succ, List.getElem?_cons_zero]; rfl)
              · first | exact fun _ _ _ h => h | exact fun _ _ _ h => nomatch h.1
              · rfl
              · (intro W hSW; (try dsimp only at hSW); go_split_ands; first | (go_simp; done) | (go_simp; with_reducible rfl))
              try simp only [Act.put, List.setIfInBounds_toArray, List.set_cons_zero, List.set_cons_succ]
              refine' wpAnyH_take (i := 6) (oi := _) (v := _) ?_ (by kernel_rfl) (by kernel_rfl) (by kernel_rfl) ?_ (Or.inl ⟨?_, ?_⟩) (by assumption) ?_
              rotate_left 2
              · (simp only [List.getElem?_toArray, List.getElem?_cons_succ, List.getElem?_cons_zero]; rfl)
              · first | exact fun _ _ _ h => h | exact fun _ _ _ h => nomatch h.1
              · rfl
              · (intro W hSW; (try dsimp only at hSW); go_split_ands; first | (go_simp; done) | (go_simp; with_reducible rfl))
              try simp only [Act.put, List.setIfInBounds_toArray, List.set_cons_zero, List.set_cons_succ]
              refine' wpAnyH_take (i := 7) (oi := _) (v := _) ?_ (by kernel_rfl) (by kernel_rfl) (by kernel_rfl) ?_ (Or.inl ⟨?_, ?_⟩) (by assumption) ?_
              rotate_left 2
              · (simp only [List.getElem?_toArray, List.getElem?_cons_succ, List.getElem?_cons_zero]; rfl)
              · first | exact fun _ _ _ h => h | exact fun _ _ _ h => nomatch h.1
              · rfl
              · (intro W hSW; (try dsimp only at hSW); go_split_ands; first | (go_simp; done) | (go_simp; with_reducible rfl))
              try simp only [Act.put, List.setIfInBounds_toArray, List.set_cons_zero, List.set_cons_succ]
              refine' wpAnyH_take (i := 8) (oi := _) (v := _) ?_ (by kernel_rfl) (by kernel_rfl) (by kernel_rfl) ?_ (Or.inl ⟨?_, ?_⟩) (by assumption) ?_
              rotate_left 2
              · (simp only [List.getElem?_toArray, List.getElem?_cons_succ, List.getElem?_cons_zero]; rfl)
              · first | exact fun _ _ _ h => h | exact fun _ _ _ h => nomatch h.1
              · rfl
              · (intro W hSW; (try dsimp only at hSW); go_split_ands; first | (go_simp; done) | (go_simp; with_reducible rfl))
              try simp only [Act.put, List.setIfInBounds_toArray, List.set_cons_zero, List.set_cons_succ]
              refine' wpAnyH_take (i := 9) (oi := _) (v := _) ?_ (by kernel_rfl) (by kernel_rfl) (by kernel_rfl) ?_ (Or.inl ⟨?_, ?_⟩) (by assumption) ?_
              rotate_left 2
              · (simp only [List.getElem?_toArray, List.getElem?_cons_succ, List.getElem?_cons_zero]; rfl)
              · first | exact fun _ _ _ h => h | exact fun _ _ _ h => nomatch h.1
              · rfl
              · (intro W hSW; (try dsimp only at hSW); go_split_ands; first | (go_simp; done) | (go_simp; with_reducible rfl))
              try simp only [Act.put, List.setIfInBounds_toArray, List.set_cons_zero, List.set_cons_succ]
              refine' wpAnyH_take (i := 10) (oi := _) (v := _) ?_ (by kernel_rfl) (by kernel_rfl) (by kernel_rfl) ?_ (Or.inl ⟨?_, ?_⟩) (by assumption) ?_
              rotate_left 2
              · (simp only [List.getElem?_toArray, List.getElem?_cons_succ, List.getElem?_cons_zero]; rfl)
              · first | exact fun _ _ _ h => h | exact fun _ _ _ h => nomatch h.1
              · rfl
              · (intro W hSW; (try dsimp only at hSW); go_split_ands; first | (go_simp; done) | (go_simp; with_reducible rfl))
              try simp only [Act.put, List.setIfInBounds_toArray, List.set_cons_zero, List.set_cons_succ]
              refine' wpAnyH_take (i := 11) (oi := _) (v := _) ?_ (by kernel_rfl) (by kernel_rfl) (by kernel_rfl) ?_ (Or.inl ⟨?_, ?_⟩) (by assumption) ?_
              rotate_left 2
              · (simp only [List.getElem?_toArray, List.getElem?_cons_succ, List.getElem?_cons_zero]; rfl)
              · first | exact fun _ _ _ h => h | exact fun _ _ _ h => nomatch h.1
              · rfl
              · (intro W hSW; (try dsimp only at hSW); go_split_ands; first | (go_simp; done) | (go_simp; with_reducible rfl))
              try simp only [Act.put, List.setIfInBounds_toArray, List.set_cons_zero, List.set_cons_succ]
              refine' wpAnyH_take (i := 12) (oi := _) (v := _) ?_ (by kernel_rfl) (by kernel_rfl) (by kernel_rfl) ?_ (Or.inl ⟨?_, ?_⟩) (by assumption) ?_
              rotate_left 2
              · (simp only [List.getElem?_toArray, List.getElem?_cons_succ, List.getElem?_cons_zero]; rfl)
              · first | exact fun _ _ _ h => h | exact fun _ _ _ h => nomatch h.1
              · rfl
              · (intro W hSW; (try dsimp only at hSW); go_split_ands; first | (go_simp; done) | (go_simp; with_reducible rfl))
              try simp only [Act.put, List.setIfInBounds_toArray, List.set_cons_zero, List.set_cons_succ]
              refine' wpAnyH_take (i := 13) (oi := _) (v := _) ?_ (by kernel_rfl) (by kernel_rfl) (by kernel_rfl) ?_ (Or.inl ⟨?_, ?_⟩) (by assumption) ?_
              rotate_left 2
              · (simp only [List.getElem?_toArray, List.getElem?_cons_succ, List.getElem?_cons_zero]; rfl)
              · first | exact fun _ _ _ h => h | exact fun _ _ _ h => nomatch h.1
              · rfl
              · (intro W hSW; (try dsimp only at hSW); go_split_ands; first | (go_simp; done) | (go_simp; with_reducible rfl))
              try simp only [Act.put, List.setIfInBounds_toArray, List.set_cons_zero, List.set_cons_succ]
              refine' wpAnyH_take (i := 14) (oi := _) (v := _) ?_ (by kernel_rfl) (by kernel_rfl) (by kernel_rfl) ?_ (Or.inl ⟨?_, ?_⟩) (by assumption) ?_
              rotate_left 2
              · (simp only [List.getElem?_toArray, List.getElem?_cons_succ, List.getElem?_cons_zero]; rfl)
              · first | exact fun _ _ _ h => h | exact fun _ _ _ h => nomatch h.1
              · rfl
              · (intro W hSW; (try dsimp only at hSW); go_split_ands; first | (go_simp; done) | (go_simp; with_reducible rfl))
              try simp only [Act.put, List.setIfInBounds_toArray, List.set_cons_zero, List.set_cons_succ]
              refine' wpAnyH_take (i := 15) (oi := _) (v := _) ?_ (by kernel_rfl) (by kernel_rfl) (by kernel_rfl) ?_ (Or.inl ⟨?_, ?_⟩) (by assumption) ?_
              rotate_left 2
              · (simp only [List.getElem?_toArray, List.getElem?_cons_succ, List.getElem?_cons_zero]; rfl)
              · first | exact fun _ _ _ h => h | exact fun _ _ _ h => nomatch h.1
              · rfl
              · (intro W hSW; (try dsimp only at hSW); go_split_ands; first | (go_simp; done) | (go_simp; with_reducible rfl))
              try simp only [Act.put, List.setIfInBounds_toArray, List.set_cons_zero, List.set_cons_succ]
              refine' wpAnyH_take (i := 16) (oi := _) (v := _) ?_ (by kernel_rfl) (by kernel_rfl) (by kernel_rfl) ?_ (Or.inl ⟨?_, ?_⟩) (by assumption) ?_
              rotate_left 2
              · (simp only [List.getElem?_toArray, List.getElem?_cons_succ, List.getElem?_cons_zero]; rfl)
              · first | exact fun _ _ _ h => h | exact fun _ _ _ h => nomatch h.1
              · rfl
              · (intro W hSW; (try dsimp only at hSW); go_split_ands; first | (go_simp; done) | (go_simp; with_reducible rfl))
              try simp only [Act.put, List.setIfInBounds_toArray, List.set_cons_zero, List.set_cons_succ]
              refine' wpAnyH_take (i := 17) (oi := _) (v := _) ?_ (by kernel_rfl) (by kernel_rfl) (by kernel_rfl) ?_ (Or.inl ⟨?_, ?_⟩) (by assumption) ?_
              rotate_left 2
              · (simp only [List.getElem?_toArray, List.getElem?_cons_succ, List.getElem?_cons_zero]; rfl)
              · first | exact fun _ _ _ h => h | exact fun _ _ _ h => nomatch h.1
              · rfl
              · (intro W hSW; (try dsimp only at hSW); go_split_ands; first | (go_simp; done) | (go_simp; with_reducible rfl))
              try simp only [Act.put, List.setIfInBounds_toArray, List.set_cons_zero, List.set_cons_succ]
              refine' wpAnyH_take (i := 18) (oi := _) (v := _) ?_ (by kernel_rfl) (by kernel_rfl) (by kernel_rfl) ?_ (Or.inl ⟨?_, ?_⟩) (by assumption) ?_
              rotate_left 2
              · (simp only [List.getElem?_toArray, List.getElem?_cons_succ, List.getElem?_cons_zero]; rfl)
              · first | exact fun _ _ _ h => h | exact fun _ _ _ h => nomatch h.1
              · rfl
              · (intro W hSW; (try dsimp only at hSW); go_split_ands; first | (go_simp; done) | (go_simp; with_reducible rfl))
              try simp only [Act.put, List.setIfInBounds_toArray, List.set_cons_zero, List.set_cons_succ]
              refine' wpAnyH_take (i := 19) (oi := _) (v := _) ?_ (by kernel_rfl) (by kernel_rfl) (by kernel_rfl) ?_ (Or.inl ⟨?_, ?_⟩) (by assumption) ?_
              rotate_left 2
              · (simp only [List.getElem?_toArray, List.getElem?_cons_succ, List.getElem?_cons_zero]; rfl)
              · first | exact fun _ _ _ h => h | exact fun _ _ _ h => nomatch h.1
              · rfl
              · (intro W hSW; (try dsimp only at hSW); go_split_ands; first | (go_simp; done) | (go_simp; with_reducible rfl))
              try simp only [Act.put, List.setIfInBounds_toArray, List.set_cons_zero, List.set_cons_succ]
              refine' wpAnyH_take (i := 20) (oi := _) (v := _) ?_ (by kernel_rfl) (by kernel_rfl) (by kernel_rfl) ?_ (Or.inl ⟨?_, ?_⟩) (by assumption) ?_
              rotate_left 2
              · (simp only [List.getElem?_toArray, List.getElem?_cons_succ, List.getElem?_cons_zero]; rfl)
              · first | exact fun _ _ _ h => h | exact fun _ _ _ h => nomatch h.1
              · rfl
              · (intro W hSW; (try dsimp only at hSW); go_split_ands; first | (go_simp; done) | (go_simp; with_reducible rfl))
              try simp only [Act.put, List.setIfInBounds_toArray, List.set_cons_zero, List.set_cons_succ]
              refine' wpAnyH_take (i := 22) (oi := _) (v := _) ?_ (by kernel_rfl) (by kernel_rfl) (by kernel_rfl) ?_ (Or.inl ⟨?_, ?_⟩) (by assumption) ?_
              rotate_left 2
              · (simp only [List.getElem?_toArray, List.getElem?_cons_succ, List.getElem?_cons_zero]; rfl)
              · first | exact fun _ _ _ h => h | exact fun _ _ _ h => nomatch h.1
              · rfl
              · (intro W hSW; (try dsimp only at hSW); go_split_ands; first | (go_simp; done) | (go_simp; with_reducible rfl))
              try simp only [Act.put, List.setIfInBounds_toArray, List.set_cons_zero, List.set_cons_succ]
              refine' wpAnyH_take (i := 23) (oi := _) (v := _) ?_ (by kernel_rfl) (by kernel_rfl) (by kernel_rfl) ?_ (Or.inl ⟨?_, ?_⟩) (by assumption) ?_
              rotate_left 2
              · (simp only [List.getElem?_toArray, List.getElem?_cons_succ, List.getElem?_cons_zero]; rfl)
              · first | exact fun _ _ _ h => h | exact fun _ _ _ h => nomatch h.1
              · rfl
              · (intro W hSW; (try dsimp only at hSW); go_split_ands; first | (go_simp; done) | (go_simp; with_reducible rfl))
              try simp only [Act.put, List.setIfInBounds_toArray, List.set_cons_zero, List.set_cons_succ]
              clear hHeld
              refine wpAnyH_ready (rs := [21]) (by kernel_rfl) (by simp) ?_
              refine' AllReadyH.cons (o := _) ?_ (fun K hK => ?_) AllReadyH.nil
              rotate_left 1
              · (simp only [List.getElem?_toArray, List.getElem?_cons_succ, List.getElem?_cons_zero]; rfl)
              go_simp
              refine Calls.mono (CO.out _ hb.led) ?_
              rintro e Y1 ⟨u1, rfl, hu1, hn⟩
              replace rf := rf.on hn
              replace r4 := r4.on hn
              replace r6 := r6.on hn
              replace hb := hb.on hn
              replace hx := chain hx hn
              clear hn
              go_simp
              refine hK.out _ _ ⟨rf.cell, r4.cell, r6.cell⟩ (fun hHeld => ?_)
              clear hK K
              clear hHeld
              refine wpAnyH_ready (rs := [24]) (by kernel_rfl) (by simp) ?_
              refine' AllReadyH.cons (o := _) ?_ (fun K hK => ?_) AllReadyH.nil
              rotate_left 1
              · (simp only [List.getElem?_toArray, List.getElem?_cons_succ, List.getElem?_cons_zero]; rfl)
              go_simp
              refine Calls.mono (COR.out _ hb.rled) ?_
              rintro e Y2 ⟨u2, rfl, hu2, hn⟩
              replace hu1 := OwnsA.on hu1 hn
              replace rf := rf.on hn
              replace r4 := r4.on hn
              replace r6 := r6.on hn
              replace hb := hb.on hn
              replace hx := chain hx hn
              clear hn
              go_simp
              refine hK.out _ _ ⟨rf.cell, r4.cell, r6.cell⟩ (fun hHeld => ?_)
              clear hK K
              clear hHeld
              refine wpAnyH_ready (rs := [25]) (by kernel_rfl) (by simp) ?_
              refine' AllReadyH.cons (o := _) ?_ (fun K hK => ?_) AllReadyH.nil
              rotate_left 1
              · (simp only [List.getElem?_toArray, List.getElem?_cons_succ, List.getElem?_cons_zero]; rfl)
              go_simp
              refine Calls.mono (equal_same _ _ S _ (OwnsA.holds hu1) (OwnsA.holds hu2) (by omega)) ?_
              rintro e Y3 ⟨rfl, hn⟩
              clear hu1 hu2
              replace rf := rf.on hn
              replace r4 := r4.on hn
              replace r6 := r6.on hn
              replace hb := hb.on hn
              replace hx := chain hx hn
              clear hn
              go_simp
              refine hK.out _ _ ⟨rf.cell, r4.cell, r6.cell⟩ (fun hHeld => ?_)
              clear hK K
              refine' wpAnyH_take (i := 26) (oi := _) (v := _) ?_ (by kernel_rfl) (by kernel_rfl) (by kernel_rfl) ?_ (Or.inl ⟨?_, ?_⟩) (by assumption) ?_
              rotate_left 2
              · (simp only [List.getElem?_toArray, List.getElem?_cons_succ, List.getElem?_cons_zero]; rfl)
              · first | exact fun _ _ _ h => h | exact fun _ _ _ h => nomatch h.1
              · rfl
              · (intro W hSW; (try dsimp only at hSW); go_split_ands; first | (go_simp; done) | (go_simp; with_reducible rfl))
              try simp only [Act.put, List.setIfInBounds_toArray, List.set_cons_zero, List.set_cons_succ]
              refine' wpAnyH_take (i := 27) (oi := _) (v := _) ?_ (by kernel_rfl) (by kernel_rfl) (by kernel_rfl) ?_ (Or.inl ⟨?_, ?_⟩) (by assumption) ?_
              rotate_left 2
              · (simp only [List.getElem?_toArray, List.getElem?_cons_succ, List.getElem?_cons_zero]; rfl)
              · first | exact fun _ _ _ h => h | exact fun _ _ _ h => nomatch h.1
              · rfl
              · (intro W hSW; (try dsimp only at hSW); go_split_ands; first | (go_simp; done) | (go_simp; with_reducible rfl))
              try simp only [Act.put, List.setIfInBounds_toArray, List.set_cons_zero, List.set_cons_succ]
              clear hHeld
              refine wpAnyH_done (by kernel_rfl) ?_ _
              clear rf r4 r6 hb f5
              go_wp2_with fail
              refine ⟨⟨m + 1, by omega, by go_num, hx⟩, by simp only [intOf]; omega⟩
            · obtain rfl : m = 2 := by omega
              have hb := HBB.out.on hx
              have hMl := hb.led.len
              have f7 : ((M2.length : Int) != (M2.length : Int)) = false := by simp
              clear hmt hx RS COF HBB
              go_wp2_with fail
              refine Calls.mono (lenW_c hb.led) ?_
              rintro e Z1 ⟨rfl, hn⟩
              replace hb := hb.on hn
              clear hn
              go_wp2_with fail
              refine Calls.mono (rlenW_c hb.rled) ?_
              rintro e Z2 ⟨rfl, hn⟩
              replace hb := hb.on hn
              clear hn
              go_wp2_with fail
              refine Calls.mono (allW_c hb.led) ?_
              rintro e Z3 ⟨u1, rfl, hu1, hn⟩
              replace hb := hb.on hn
              clear hn
              go_wp2_with fail
              refine Calls.mono (rallW_c hb.rled) ?_
              rintro e Z4 ⟨u2, rfl, hu2, hn⟩
              replace hu1 := OwnsA.on hu1 hn
              replace hb := hb.on hn
              clear hn
              go_wp2_with fail
              refine Calls.mono (equal_same _ _ M2 _ (OwnsA.holds hu1) (OwnsA.holds hu2) (by omega)) ?_
              rintro e Z5 ⟨rfl, hn⟩
              replace hb := hb.on hn
              clear hn hu1 hu2
              go_wp2_with fail
              refine ⟨⟨j + 1, p, F6, G7, M2, by omega, by go_num, rfl, hb⟩, by simp only [intOf]; omega⟩
      · have hx := hb.beh.b
        clear hb
        go_wp2_with fail
        refine Calls.mono (works _ (HE.out.on hx)) ?_
        rintro e V9 ⟨rfl, hn⟩
        replace hx := chain hx hn
        go_wp2_with fail
        go_returns
        exact ⟨rfl, chain HB0.out hx⟩
end Go.Proofs.YtinlfheonlpceaaGreatDoor
