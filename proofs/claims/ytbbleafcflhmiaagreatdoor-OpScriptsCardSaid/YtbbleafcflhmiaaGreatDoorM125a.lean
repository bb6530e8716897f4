/- OpScripts walked. -/
import Derived.Test.YtbbleafcflhmiaaGreatDoorM124a
import Derived.Test.YtbbleafcflhmiaaGreatDoorHWorks39
import Derived.Test.YtbbleafcflhmiaaGreatDoorM120a
import Derived.Test.YtbbleafcflhmiaaGreatDoorM122a
import Derived.Deep.DeepCutAuto
import Derived.Deep.CutBlock
namespace Go.Proofs.YtbbleafcflhmiaaGreatDoor
open Go.RowKit
set_option linter.unusedVariables false
set_option linter.unusedSimpArgs false
set_option maxHeartbeats 40000000
set_option maxRecDepth 20000
theorem count_ops {l : List OpR} (h : l.all okR = true) : (opsL l).count 10 = l.length := by
  induction l with
  | nil => rfl
  | cons p l ih =>
    rw [List.all_cons, Bool.and_eq_true] at h
    rw [show opsL (p :: l) = opLR p ++ [10] ++ opsL l from rfl, List.count_append, List.count_append, ih h.2, List.count_eq_zero.2 (opLR_no10 h.1)]
    simp
    omega
theorem lines_ops (l : List OpR) : linesL (l.map opLR) = opsL l := by
  unfold linesL opsL
  rw [List.flatMap_map]
theorem join_nil : ∀ ys : List (List UInt8), Lib.join (ys.map (· ++ [10]) ++ [[]]) [] = linesL ys
  | [] => rfl
  | y :: ys => by
    have h : ∀ (x : List UInt8) (r : List (List UInt8)), r ≠ [] → Lib.join (x :: r) [] = x ++ Lib.join r [] := by
      intro x r hr
      cases r with
      | nil => exact absurd rfl hr
      | cons z r => simp [Lib.join, List.intercalate, List.intersperse]
    rw [List.map_cons, List.cons_append, h _ _ (by simp), join_nil ys]
    simp [linesL]
theorem cnt_c (s : ByteArray) (n : Nat) (h : s.data.toList.count 10 = n) (w : World) : Ret 17 #[.string s, .string ⟨#[10]⟩] w (.int .i64 n) :=
  (Tryz.strings_Count_one s 10 w).mono fun e w' he => by
    obtain ⟨rfl, rfl⟩ := he
    exact ⟨by rw [← h]; rfl, Below.refl _ _⟩
theorem OwnsS.base {b b' : Nat} {W : World} {v : Value} {l : List ByteArray} (h : OwnsS b W v l) (hb : b' ≤ b) : OwnsS b' W v l := by
  refine ⟨h.1, ?_⟩
  rcases h.2 with h0 | ⟨g, cap, cur, h1, h2, h3⟩
  · exact .inl h0
  · exact .inr ⟨g, cap, cur, h1, Nat.le_trans hb h2, h3⟩
theorem OwnsS.lt {b : Nat} {W : World} {v : Value} {l : List ByteArray} (h : OwnsS b W v l) : v.ownBlock ≠ some W.heap.size := fun e => by
  have := (World.ownsRow.lt h _ e).2
  omega
theorem u8of {l : List Value} (h : OkL [.int .u8] l) : ∃ a : Int, l = [.int .u8 a] ∧ 0 ≤ a ∧ a ≤ 255 := by
  obtain ⟨_, _, rfl, ⟨a, rfl, wa⟩, h1⟩ := OkL_cons h
  obtain rfl := OkL_nil h1
  exact ⟨a, rfl, b8n wa⟩
/-- What is kept between the rounds. -/
structure Lns (B : Nat) (w : World) (v : Value) (l : List OpR) (i : Nat) (xs : List ByteArray) (ys : List (List UInt8)) : Prop where
  own : OwnsS B w v xs
  map : xs.map (·.data.toList) = ys.map (· ++ [10]) ++ [[]]
  mix : Mix l ys
  num : ys.length = l.length + i
  siz : (linesL ys).length ≤ (opsL l).length + 10 * i
theorem Lns.on {B : Nat} {w w' : World} {v : Value} {l : List OpR} {i : Nat} {xs : List ByteArray} {ys : List (List UInt8)} (h : Lns B w v l i xs ys) (hb : Below w.heap.size w w') : Lns B w' v l i xs ys := ⟨h.own.on hb, h.map, h.mix, h.num, h.siz⟩
theorem Lns.len {B : Nat} {w : World} {v : Value} {l : List OpR} {i : Nat} {xs : List ByteArray} {ys : List (List UInt8)} (h : Lns B w v l i xs ys) : xs.length = l.length + i + 1 := by
  have := congrArg List.length h.map
  simp at this
  rw [this, h.num]
theorem Lns.ins {B : Nat} {w w' : World} {v v' : Value} {l : List OpR} {i : Nat} {xs : List ByteArray} {ys : List (List UInt8)} (h : Lns B w v l i xs ys) (k : Nat) (hk : k < xs.length) (x : ByteArray) (y : List UInt8) (hx : x.data.toList = y ++ [10]) (h1 : (10 : UInt8) ∉ y) (h2 : skipL y = true) (h3 : y.length ≤ 9) (ho : OwnsS B w' v' (xs.take k ++ x :: xs.drop k)) :
    Lns B w' v' l (i + 1) (xs.take k ++ x :: xs.drop k) (ys.take k ++ y :: ys.drop k) := by
  have hn := h.num
  have hl := h.len
  refine ⟨ho, ?_, mix_ins h.mix k y h1 h2, by simp; omega, by rw [mix_size]; have := h.siz; omega⟩
  rw [List.map_append, List.map_cons, List.map_take, List.map_drop, h.map, hx, List.take_append_of_le_length (by simp; omega), List.drop_append_of_le_length (by simp; omega)]
  simp
theorem join_c {B : Nat} {w : World} {v : Value} {l : List OpR} {i : Nat} {xs : List ByteArray} {ys : List (List UInt8)} (h : Lns B w v l i xs ys) (hs : (linesL ys).length ≤ 1000000) (hx : xs.length ≤ 1000) : Ret 21 #[v, .string ⟨#[]⟩] w (.string ⟨(linesL ys).toArray⟩) := by
  have hlen := h.len
  obtain ⟨g, c, rfl, hg, hc, hcell⟩ := OwnsS.cell h.own (by intro e; rw [e] at hlen; simp at hlen)
  have hj : Lib.join (xs.map (·.data.toList)) (⟨#[]⟩ : ByteArray).data.toList = linesL ys := by rw [h.map]; exact join_nil ys
  have := Tryz.strings_Join g 0 c xs ⟨#[]⟩ w hcell hg (by omega) hc (by rw [hj]; omega)
  rw [hj] at this
  exact this
theorem trim_c (s : ByteArray) (hs : s.size ≤ 1000000) (w : World) : Ret 20 #[.string s, .string ⟨#[10]⟩] w (.string ⟨(Lib.trimSuffix s.data.toList [10]).toArray⟩) :=
  (Tryz.strings_TrimSuffix s ⟨#[10]⟩ w (by omega)).mono fun e w' ⟨he, hw⟩ => ⟨he, by rw [hw]; exact Below.refl _ _⟩
theorem scripts_walk (v : Value) (n : Nat) (E : Nat → List Value) (u : Value) (nu : Nat) (Eu : Nat → List Value) (w : World) (hsl : Sl w v leavesN n E) (hsu : Sl w u [.int .u8] nu Eu) (hE : EnvL w) :
    Ret 4 #[v, u] w (.bool true) := by
  have HE := Lib.hid hE
  have SC := Lib.hid (script_c v n E w hsl)
  obtain ⟨⟨pu, cu, rfl, hcu, hmu, helu⟩, hat⟩ := hsu
  have HEL := Lib.hid helu
  clear hE hsl helu
  have hc := Below.refl w.heap.size w
  obtain ⟨N, hN1, hN2, eN⟩ : ∃ N : Nat, N ≤ nu ∧ N ≤ 20 ∧ min (nu : Int) 20 = (N : Int) := ⟨min nu 20, by omega, by omega, by omega⟩
  have eM : max (N : Int) 0 = (N : Int) := by omega
  go_enter Tryz.func4, Tryz.ntmps4
  go_wp2_with fail
  refine Calls.mono SC.out ?_
  rintro e V1 ⟨⟨ov, l, rfl, ho, hall, hl⟩, hn⟩
  replace hc := chain hc hn
  clear hn SC
  have hsh := opsL_short hall
  have cp := fun W hE hv => printAll_c ov l W hE hv (by omega) (fun p hp => by have := tag_sz (show p.2.ok p.1 from List.all_eq_true.1 hall p hp); omega)
  rw [print_ops hall hl] at cp
  obtain ⟨T, hT⟩ : ∃ T : ByteArray, T = ⟨(opsL l).toArray⟩ := ⟨_, rfl⟩
  have hTl : T.data.toList = opsL l := by rw [hT]
  have hTs : T.size ≤ 61000 := by rw [← len_bytes, hTl]; omega
  rw [← hT] at cp
  clear hT
  have ca := fun W hE => parseAll_c T W hE (by omega)
  unfold ParseAllP at ca
  rw [hTl, parse_ops hall hl] at ca
  have ce := fun v2 W h2 h3 => equalO_c v2 ov l l W h2 h3 (by omega) (by omega)
  rw [decide_eq_true rfl] at ce
  have cc := fun W => cnt_c T l.length (by rw [hTl]; exact count_ops hall) W
  have hcut : cutAll 10 T.data.toList = l.map opLR ++ [[]] := by have := cut_ops hall []; rw [List.append_nil] at this; rw [hTl, this]; rfl
  have cs := fun W (hW : EnvL W) => splitAfter_c T W hW.shp (by omega) (by rw [hcut]; simp; omega)
  rw [hcut, aft_end] at cs
  obtain ⟨g0, c0, rfl⟩ := ownsRow_len ho
  have HO := Lib.hid ho
  have CP := Lib.hid cp
  have CA := Lib.hid ca
  have CE := Lib.hid ce
  have CC := Lib.hid cc
  have CS := Lib.hid cs
  have HALL := Lib.hid hall
  have HSH := Lib.hid hsh
  clear cp ca ce cc cs hcut hTl ho hall hsh
  go_wp2_with fail
  refine Calls.mono (CP.out _ (HE.out.on hc) HO.out.holds) ?_
  rintro e V2 ⟨rfl, hn⟩
  replace HO := Lib.hid (HO.out.on hn)
  replace hc := chain hc hn
  clear hn CP
  go_wp2_with fail
  refine Calls.mono (CA.out _ (HE.out.on hc)) ?_
  rintro e V3 ⟨⟨v2, rfl, ho2⟩, hn⟩
  replace HO := Lib.hid (HO.out.on hn)
  replace hc := chain hc hn
  clear hn CA
  have HO2 := Lib.hid ho2
  obtain ⟨g2, c2, rfl⟩ := ownsRow_len ho2
  clear ho2
  go_wp2_with fail
  refine Calls.mono (CE.out _ _ HO2.out.holds HO.out.holds) ?_
  rintro e V4 ⟨rfl, hn⟩
  replace HO := Lib.hid (HO.out.on hn)
  replace hc := chain hc hn
  clear hn HO2
  go_wp2_with fail
  refine Calls.mono (CC.out _) ?_
  rintro e V5 ⟨rfl, hn⟩
  replace HO := Lib.hid (HO.out.on hn)
  replace hc := chain hc hn
  clear hn CC
  go_wp2_with fail
  refine Calls.mono (CS.out _ (HE.out.on hc)) ?_
  rintro e V6 ⟨lv, xs, rfl, hxo, hxm, hd⟩
  clear CS
  have hL0 : Lns V5.heap.size V6 lv l 0 xs (l.map opLR) := ⟨hxo, hxm, mix_ops HALL.out, by simp, by rw [lines_ops]; omega⟩
  clear hxo hxm
  have HC := Lib.hid hc
  clear hc
  go_wp2_with fail
  clear eN eM
  go_loopw [11, 60] (fun lv iv wr => ∃ (i : Nat) (xs : List ByteArray) (ys : List (List UInt8)), i ≤ N ∧ iv = .int .i64 i ∧ Lns V5.heap.size wr lv l i xs ys ∧ Below V5.heap.size V5 wr) (fun _ iv _ => N - (intOf iv).toNat)
  case atStart => exact ⟨0, xs, _, Nat.zero_le _, rfl, hL0, hd⟩
  case round =>
    clear hL0 hd xs
    obtain ⟨i, xs, ys, hiN, rfl, hL, hd⟩ := hrel
    by_cases hlt : i < N
    · rcases HEL.out with h0 | ⟨b, off, rfl, hb, hcell⟩
      · omega
      obtain ⟨a, hEa, a0, a1⟩ := u8of (hat i (by omega))
      have q := hcell i (by omega) 0 (by decide)
      rw [hEa, List.length_singleton, Nat.mul_one, Nat.add_zero] at q
      have hcw := HC.out.trans (hd.mono HC.out.size)
      have d0 : wr.cell? ⟨b, off + i, none⟩ = some (.int .u8 a) := (hcw.cell (p := ⟨b, off + i, none⟩) hb).trans q
      clear q hcell hb hEa hcw
      have hlen := hL.len
      obtain ⟨M, hM⟩ : ∃ M, xs.length = M := ⟨_, rfl⟩
      have hM1 : 1 ≤ M ∧ M ≤ 1000 := by omega
      have x2 : ((M : Int) == 0) = false := by rw [beq_eq_false_iff_ne]; omega
      have x3 : ¬ ((M : Int) = 0) := by omega
      obtain ⟨K, hK1, hK2⟩ : ∃ K : Nat, K < M ∧ a.tmod (M : Int) = K := by
        have h1 := Int.emod_nonneg a (show (M : Int) ≠ 0 by omega)
        have h2 := Int.emod_lt_of_pos a (show 0 < (M : Int) by omega)
        rw [Int.tmod_eq_emod_of_nonneg a0]
        exact ⟨(a % (M : Int)).toNat, by omega, by omega⟩
      have HK2 := Lib.hid hK2
      clear hK2
      have h4 : a % 4 = 0 ∨ a % 4 = 1 ∨ a % 4 = 2 ∨ a % 4 = 3 := by omega
      obtain ⟨x4, x5, q1⟩ : wrap64 (K : Int) = K ∧ IntKind.i64.wrap (K : Int) = K ∧ IntKind.i64.wrap a = a := ⟨IntWalk.wrap64_in _ ⟨by omega, by omega⟩, IntWalk.i64_in _ ⟨by omega, by omega⟩, IntWalk.i64_in _ ⟨by omega, by omega⟩⟩
      have HX4 := Lib.hid x4
      have HX5 := Lib.hid x5
      have HQ1 := Lib.hid q1
      clear x4 x5 q1
      obtain ⟨a1v, c1v, rfl⟩ := ownsRow_len hL.own
      have HL := Lib.hid hL
      rw [hM]
      have HM := Lib.hid hM
      clear hM hlen hL
      rcases h4 with h4 | h4 | h4 | h4
      · have e4 : a.tmod 4 = 0 := by rw [Int.tmod_eq_emod_of_nonneg a0, h4]
        go_upto_region 11 with fail
        have r1 := Row.new (W := wr) (cs := #[.string ⟨#[10]⟩, .string ⟨#[35, 10]⟩, .string ⟨#[35, 32, 98, 97, 116, 99, 104, 10]⟩, .string ⟨#[35, 98, 97, 116, 99, 104, 32, 57, 10]⟩]) (t := 9)
        have hn := below_alloc wr (.cells #[.string ⟨#[10]⟩, .string ⟨#[35, 10]⟩, .string ⟨#[35, 32, 98, 97, 116, 99, 104, 10]⟩, .string ⟨#[35, 98, 97, 116, 99, 104, 32, 57, 10]⟩] 9)
        replace hd := chain hd hn
        have HL1 := Lib.hid (HL.out.on hn)
        clear hn d0 r1
        generalize wr.alloc (.cells #[.string ⟨#[10]⟩, .string ⟨#[35, 10]⟩, .string ⟨#[35, 32, 98, 97, 116, 99, 104, 10]⟩, .string ⟨#[35, 98, 97, 116, 99, 104, 32, 57, 10]⟩] 9) = R1 at *
        have HI := Lib.hid (insert_c V5.heap.size (.slice a1v M c1v) xs K ⟨#[10]⟩ R1.heap.size (R1.alloc (.cells #[.string ⟨#[10]⟩] 9)) (by rw [← HM.out]; exact HL1.out.own.on (below_alloc _ _)) (by rw [HM.out]; exact hK1) (by rw [HM.out]; omega) Row.new (by have := HL1.out.own.lt; rw [HM.out] at this; exact this))
        have hK2 := HK2.out
        have x4 := HX4.out
        have x5 := HX5.out
        have q1 := HQ1.out
        clear e4
        go_wp2_with fail
        refine Calls.mono HI.out ?_
        clear hK2 x4 x5 q1 x2 x3
        rintro e R2 ⟨v', rfl, ho', hbl⟩
        have hd1 := hd.alloc hd.size (.cells #[.string ⟨#[10]⟩] 9)
        have hd2 := hd1.trans (hbl _ (Nat.le_refl _) hd1.size)
        have hL2 := HL1.out.ins K (by rw [HM.out]; exact hK1) ⟨#[10]⟩ [] rfl (by decide) (by decide) (by decide) (ho'.base (by have := hd1.size; omega))
        clear HI hbl hd1 ho'
        go_wp2_with fail
        exact ⟨⟨i + 1, _, _, by omega, by go_num, hL2, hd2⟩, by simp [intOf]; omega⟩
      · have e4 : a.tmod 4 = 1 := by rw [Int.tmod_eq_emod_of_nonneg a0, h4]
        go_upto_region 11 with fail
        have r1 := Row.new (W := wr) (cs := #[.string ⟨#[10]⟩, .string ⟨#[35, 10]⟩, .string ⟨#[35, 32, 98, 97, 116, 99, 104, 10]⟩, .string ⟨#[35, 98, 97, 116, 99, 104, 32, 57, 10]⟩]) (t := 9)
        have hn := below_alloc wr (.cells #[.string ⟨#[10]⟩, .string ⟨#[35, 10]⟩, .string ⟨#[35, 32, 98, 97, 116, 99, 104, 10]⟩, .string ⟨#[35, 98, 97, 116, 99, 104, 32, 57, 10]⟩] 9)
        replace hd := chain hd hn
        have HL1 := Lib.hid (HL.out.on hn)
        clear hn d0 r1
        generalize wr.alloc (.cells #[.string ⟨#[10]⟩, .string ⟨#[35, 10]⟩, .string ⟨#[35, 32, 98, 97, 116, 99, 104, 10]⟩, .string ⟨#[35, 98, 97, 116, 99, 104, 32, 57, 10]⟩] 9) = R1 at *
        have HI := Lib.hid (insert_c V5.heap.size (.slice a1v M c1v) xs K ⟨#[35, 10]⟩ R1.heap.size (R1.alloc (.cells #[.string ⟨#[35, 10]⟩] 9)) (by rw [← HM.out]; exact HL1.out.own.on (below_alloc _ _)) (by rw [HM.out]; exact hK1) (by rw [HM.out]; omega) Row.new (by have := HL1.out.own.lt; rw [HM.out] at this; exact this))
        have hK2 := HK2.out
        have x4 := HX4.out
        have x5 := HX5.out
        have q1 := HQ1.out
        clear e4
        go_wp2_with fail
        refine Calls.mono HI.out ?_
        clear hK2 x4 x5 q1 x2 x3
        rintro e R2 ⟨v', rfl, ho', hbl⟩
        have hd1 := hd.alloc hd.size (.cells #[.string ⟨#[35, 10]⟩] 9)
        have hd2 := hd1.trans (hbl _ (Nat.le_refl _) hd1.size)
        have hL2 := HL1.out.ins K (by rw [HM.out]; exact hK1) ⟨#[35, 10]⟩ [35] rfl (by decide) (by decide) (by decide) (ho'.base (by have := hd1.size; omega))
        clear HI hbl hd1 ho'
        go_wp2_with fail
        exact ⟨⟨i + 1, _, _, by omega, by go_num, hL2, hd2⟩, by simp [intOf]; omega⟩
      · have e4 : a.tmod 4 = 2 := by rw [Int.tmod_eq_emod_of_nonneg a0, h4]
        go_upto_region 11 with fail
        have r1 := Row.new (W := wr) (cs := #[.string ⟨#[10]⟩, .string ⟨#[35, 10]⟩, .string ⟨#[35, 32, 98, 97, 116, 99, 104, 10]⟩, .string ⟨#[35, 98, 97, 116, 99, 104, 32, 57, 10]⟩]) (t := 9)
        have hn := below_alloc wr (.cells #[.string ⟨#[10]⟩, .string ⟨#[35, 10]⟩, .string ⟨#[35, 32, 98, 97, 116, 99, 104, 10]⟩, .string ⟨#[35, 98, 97, 116, 99, 104, 32, 57, 10]⟩] 9)
        replace hd := chain hd hn
        have HL1 := Lib.hid (HL.out.on hn)
        clear hn d0 r1
        generalize wr.alloc (.cells #[.string ⟨#[10]⟩, .string ⟨#[35, 10]⟩, .string ⟨#[35, 32, 98, 97, 116, 99, 104, 10]⟩, .string ⟨#[35, 98, 97, 116, 99, 104, 32, 57, 10]⟩] 9) = R1 at *
        have HI := Lib.hid (insert_c V5.heap.size (.slice a1v M c1v) xs K ⟨#[35, 32, 98, 97, 116, 99, 104, 10]⟩ R1.heap.size (R1.alloc (.cells #[.string ⟨#[35, 32, 98, 97, 116, 99, 104, 10]⟩] 9)) (by rw [← HM.out]; exact HL1.out.own.on (below_alloc _ _)) (by rw [HM.out]; exact hK1) (by rw [HM.out]; omega) Row.new (by have := HL1.out.own.lt; rw [HM.out] at this; exact this))
        have hK2 := HK2.out
        have x4 := HX4.out
        have x5 := HX5.out
        have q1 := HQ1.out
        clear e4
        go_wp2_with fail
        refine Calls.mono HI.out ?_
        clear hK2 x4 x5 q1 x2 x3
        rintro e R2 ⟨v', rfl, ho', hbl⟩
        have hd1 := hd.alloc hd.size (.cells #[.string ⟨#[35, 32, 98, 97, 116, 99, 104, 10]⟩] 9)
        have hd2 := hd1.trans (hbl _ (Nat.le_refl _) hd1.size)
        have hL2 := HL1.out.ins K (by rw [HM.out]; exact hK1) ⟨#[35, 32, 98, 97, 116, 99, 104, 10]⟩ [35, 32, 98, 97, 116, 99, 104] rfl (by decide) (by decide) (by decide) (ho'.base (by have := hd1.size; omega))
        clear HI hbl hd1 ho'
        go_wp2_with fail
        exact ⟨⟨i + 1, _, _, by omega, by go_num, hL2, hd2⟩, by simp [intOf]; omega⟩
      · have e4 : a.tmod 4 = 3 := by rw [Int.tmod_eq_emod_of_nonneg a0, h4]
        go_upto_region 11 with fail
        have r1 := Row.new (W := wr) (cs := #[.string ⟨#[10]⟩, .string ⟨#[35, 10]⟩, .string ⟨#[35, 32, 98, 97, 116, 99, 104, 10]⟩, .string ⟨#[35, 98, 97, 116, 99, 104, 32, 57, 10]⟩]) (t := 9)
        have hn := below_alloc wr (.cells #[.string ⟨#[10]⟩, .string ⟨#[35, 10]⟩, .string ⟨#[35, 32, 98, 97, 116, 99, 104, 10]⟩, .string ⟨#[35, 98, 97, 116, 99, 104, 32, 57, 10]⟩] 9)
        replace hd := chain hd hn
        have HL1 := Lib.hid (HL.out.on hn)
        clear hn d0 r1
        generalize wr.alloc (.cells #[.string ⟨#[10]⟩, .string ⟨#[35, 10]⟩, .string ⟨#[35, 32, 98, 97, 116, 99, 104, 10]⟩, .string ⟨#[35, 98, 97, 116, 99, 104, 32, 57, 10]⟩] 9) = R1 at *
        have HI := Lib.hid (insert_c V5.heap.size (.slice a1v M c1v) xs K ⟨#[35, 98, 97, 116, 99, 104, 32, 57, 10]⟩ R1.heap.size (R1.alloc (.cells #[.string ⟨#[35, 98, 97, 116, 99, 104, 32, 57, 10]⟩] 9)) (by rw [← HM.out]; exact HL1.out.own.on (below_alloc _ _)) (by rw [HM.out]; exact hK1) (by rw [HM.out]; omega) Row.new (by have := HL1.out.own.lt; rw [HM.out] at this; exact this))
        have hK2 := HK2.out
        have x4 := HX4.out
        have x5 := HX5.out
        have q1 := HQ1.out
        clear e4
        go_wp2_with fail
        refine Calls.mono HI.out ?_
        clear hK2 x4 x5 q1 x2 x3
        rintro e R2 ⟨v', rfl, ho', hbl⟩
        have hd1 := hd.alloc hd.size (.cells #[.string ⟨#[35, 98, 97, 116, 99, 104, 32, 57, 10]⟩] 9)
        have hd2 := hd1.trans (hbl _ (Nat.le_refl _) hd1.size)
        have hL2 := HL1.out.ins K (by rw [HM.out]; exact hK1) ⟨#[35, 98, 97, 116, 99, 104, 32, 57, 10]⟩ [35, 98, 97, 116, 99, 104, 32, 57] rfl (by decide) (by decide) (by decide) (ho'.base (by have := hd1.size; omega))
        clear HI hbl hd1 ho'
        go_wp2_with fail
        exact ⟨⟨i + 1, _, _, by omega, by go_num, hL2, hd2⟩, by simp [intOf]; omega⟩
    · obtain rfl : i = N := by omega
      have hc := HC.out.trans (hd.mono HC.out.size)
      replace HO := Lib.hid (HO.out.on hd)
      have hsz : (linesL ys).length ≤ 61000 := by have := hL.siz; have := HSH.out; omega
      have cj := join_c hL (by omega) (by have := hL.len; omega)
      have hmp := mix_parse hL.mix HALL.out hl (by omega)
      obtain ⟨J, hJ⟩ : ∃ J : ByteArray, J = ⟨(linesL ys).toArray⟩ := ⟨_, rfl⟩
      have hJl : J.data.toList = linesL ys := by rw [hJ]
      rw [← hJ] at cj
      clear hJ
      have ctr := fun W => trim_c J (by rw [← len_bytes, hJl]; omega) W
      rw [← hJl] at hmp
      have htl : (Lib.trimSuffix J.data.toList [10]).length ≤ 61000 := by
        have : (Lib.trimSuffix J.data.toList [10]).length ≤ J.data.toList.length := by unfold Lib.trimSuffix; split <;> simp
        rw [hJl] at this
        rw [hJl]
        omega
      obtain ⟨S, hS⟩ : ∃ S : ByteArray, S = ⟨(Lib.trimSuffix J.data.toList [10]).toArray⟩ := ⟨_, rfl⟩
      have hSl : S.data.toList = Lib.trimSuffix J.data.toList [10] := by rw [hS]
      rw [← hS] at ctr
      have ca := fun W hE => parseAll_c S W hE (by rw [← len_bytes, hSl]; omega)
      unfold ParseAllP at ca
      rw [hSl, hmp] at ca
      have CJ := Lib.hid cj
      have CT := Lib.hid ctr
      have CA := Lib.hid ca
      obtain ⟨a1v, c1v, rfl⟩ := ownsRow_len hL.own
      clear cj ctr ca hmp hJl htl hSl hS hsz hL hd HC
      obtain ⟨M, hM⟩ : ∃ M, xs.length = M := ⟨_, rfl⟩
      rw [hM] at CJ ⊢
      clear hM
      go_wp2_with fail
      refine Calls.mono CJ.out ?_
      rintro e W1 ⟨rfl, hn⟩
      replace HO := Lib.hid (HO.out.on hn)
      replace hc := chain hc hn
      clear hn CJ
      go_wp2_with fail
      refine Calls.mono (CT.out _) ?_
      rintro e W2 ⟨rfl, hn⟩
      replace HO := Lib.hid (HO.out.on hn)
      replace hc := chain hc hn
      clear hn CT
      go_wp2_with fail
      refine Calls.mono (CA.out _ (HE.out.on hc)) ?_
      rintro e W3 ⟨⟨v3, rfl, ho3⟩, hn⟩
      replace HO := Lib.hid (HO.out.on hn)
      replace hc := chain hc hn
      clear hn CA
      have HO3 := Lib.hid ho3
      obtain ⟨g3, c3, rfl⟩ := ownsRow_len ho3
      clear ho3
      go_wp2_with fail
      refine Calls.mono (CE.out _ _ HO3.out.holds HO.out.holds) ?_
      rintro e W4 ⟨rfl, hn⟩
      replace hc := chain hc hn
      clear hn CE
      go_wp2_with fail
      refine Calls.mono (works _ (HE.out.on hc)) ?_
      rintro e W5 ⟨rfl, hn⟩
      replace hc := chain hc hn
      clear hn
      go_wp2_with fail
      go_returns
      exact ⟨rfl, hc⟩
end Go.Proofs.YtbbleafcflhmiaaGreatDoor
