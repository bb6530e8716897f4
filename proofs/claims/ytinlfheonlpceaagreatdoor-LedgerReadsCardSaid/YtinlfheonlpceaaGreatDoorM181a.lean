/- The reference of chapter 07: Print. -/
import Derived.Test.YtinlfheonlpceaaGreatDoorM171a
import Derived.Deep.CutBlock
import Derived.Test.YtinlfheonlpceaaGreatDoorM151a
import Derived.Laws.AppendOwnNone
namespace Go.Proofs.YtinlfheonlpceaaGreatDoor
open Go.RowKit
set_option linter.unusedVariables false
set_option linter.unusedSimpArgs false
set_option maxHeartbeats 16000000
set_option maxRecDepth 20000
theorem printA_bad {l : List AtR} {k : Nat} (h : k < l.length) (hb : aOk l[k] = false) : printA l = ([], 2) := by
  unfold printA
  rw [if_neg (fun hall => by rw [List.all_eq_true] at hall; rw [hall l[k] (List.getElem_mem h)] at hb; cases hb)]
theorem printA_long {l : List AtR} (hall : l.all aOk = true) {k : Nat} (hk : 65536 < (linesA (l.take k)).length) : printA l = ([], 10) := by
  unfold printA
  have e : linesA l = linesA (l.take k) ++ linesA (l.drop k) := by rw [← linesA_app, List.take_append_drop]
  rw [if_pos hall, if_pos (by rw [e, List.length_append]; omega)]
theorem printA_ok {l : List AtR} (hall : l.all aOk = true) (h : (linesA l).length ≤ 65536) : printA l = (linesA l, 0) := by
  unfold printA
  rw [if_pos hall, if_neg (by omega)]
theorem take_all {l : List AtR} {k : Nat} (h : k < l.length) (h1 : (l.take k).all aOk = true) (h2 : aOk l[k] = true) : (l.take (k + 1)).all aOk = true := by
  rw [List.take_succ_eq_append_getElem h, List.all_append, h1]
  simp [h2]
theorem rprint_c (v : Value) (l : List AtR) (w : World) (hv : HoldsA w v l) (hl : l.length ≤ 100000) (ht : ∀ p ∈ l, gIn p) :
    Ret 48 #[v] w (.tuple #[.string ⟨(printA l).1.toArray⟩, .int .i64 (printA l).2]) := by
  obtain ⟨p0, c0, hve⟩ := hv.len
  have HV := Lib.hid hv
  have HG := Lib.hid ht
  subst hve
  obtain ⟨N, hN⟩ : ∃ N, l.length = N := ⟨_, rfl⟩
  have HN := Lib.hid hN
  rw [hN] at HV hl ⊢
  have hc := Below.refl w.heap.size w
  clear hv ht hN
  go_enter Tryz.func48, Tryz.ntmps48
  go_wp2_with fail
  go_loopw [4] (fun iv wr => ∃ k : Nat, k ≤ N ∧ iv = .int .i64 k ∧ RowKit.Hid ((l.take k).all aOk = true) ∧ Below w.heap.size w wr) (fun iv _ => N - (intOf iv).toNat)
  case atStart => exact ⟨0, by omega, rfl, Lib.hid rfl, hc⟩
  case round =>
    clear hc
    obtain ⟨k, hk, rfl, HA, hc⟩ := hrel
    by_cases hlt : k < N
    · have hkl : k < l.length := by rw [HN.out]; exact hlt
      obtain ⟨gg, o, c, hvv, x0, x1, x2, x3, x4, x5⟩ := holds_at HV.out hc hkl
      rw [HN.out] at hvv
      injection hvv with hp1 hp2 hp3
      subst hp1
      have cc := fun W => rcheck_a l[k] (HG.out l[k] (List.getElem_mem hkl)) W
      cases hok : aOk l[k]
      · have H0 := Lib.hid (printA_bad hkl hok)
        rw [aErr_bad hok] at cc
        have CC := Lib.hid cc
        clear cc hok hp2 hp3
        generalize l[k] = a at *
        go_wp2_with fail
        refine Calls.mono (CC.out _) ?_
        rintro e W1 ⟨rfl, hn⟩
        replace hc := chain hc hn
        go_wp2_with fail
        go_returns
        exact ⟨by rw [H0.out]; rfl, hc⟩
      · have H1 := Lib.hid (take_all hkl HA.out hok)
        rw [aErr_ok hok] at cc
        have CC := Lib.hid cc
        clear cc hok hp2 hp3
        generalize l[k] = a at *
        go_wp2_with fail
        refine Calls.mono (CC.out _) ?_
        rintro e W1 ⟨rfl, hn⟩
        replace hc := chain hc hn
        go_wp2_with fail
        go_roundw
        case rel => exact ⟨k + 1, by omega, by go_num, H1, hc⟩
        case measure => simp [intOf]; omega
    · obtain rfl : k = N := by omega
      have HALL := Lib.hid (show l.all aOk = true by have h := HA.out; rwa [List.take_of_length_le (by rw [HN.out]; exact Nat.le_refl _)] at h)
      clear HA hlt hk
      go_wp2_with fail
      go_loopw [5, 6] (fun sv iv wr => ∃ (i : Nat) (S : ByteArray), i ≤ k ∧ iv = .int .i64 i ∧ sv = .string S ∧ RowKit.Hid (S.data.toList = linesA (l.take i)) ∧ S.size ≤ 65536 ∧ Below w.heap.size w wr) (fun _ iv _ => k - (intOf iv).toNat)
      case atStart => exact ⟨0, ⟨#[]⟩, by omega, rfl, rfl, Lib.hid rfl, by decide, hc⟩
      case round =>
        clear hc
        obtain ⟨i, S, hi, rfl, rfl, HS, hsz, hc⟩ := hrel
        by_cases hlt : i < k
        · have hkl : i < l.length := by rw [HN.out]; exact hlt
          obtain ⟨gg, o, c, hvv, x0, x1, x2, x3, x4, x5⟩ := holds_at HV.out hc hkl
          rw [HN.out] at hvv
          injection hvv with hp1 hp2 hp3
          subst hp1
          have hok := List.all_eq_true.1 HALL.out l[i] (List.getElem_mem hkl)
          have hgi := HG.out l[i] (List.getElem_mem hkl)
          have CC := Lib.hid (fun W => rline_c l[i] hok hgi W)
          have hls := lineL_len hok hgi
          have htk : linesA (l.take (i + 1)) = linesA (l.take i) ++ lineL l[i] ++ [10] := by rw [List.take_succ_eq_append_getElem hkl, linesA_snoc]
          have hz : (⟨(lineL l[i]).toArray⟩ : ByteArray).size = (lineL l[i]).length := by show (lineL l[i]).toArray.size = _; rw [List.size_toArray]
          have hzl : (⟨(lineL l[i]).toArray⟩ : ByteArray).data.toList = lineL l[i] := by simp
          obtain ⟨LB, hLB⟩ : ∃ LB : ByteArray, LB = ⟨(lineL l[i]).toArray⟩ := ⟨_, rfl⟩
          rw [← hLB] at hz hzl CC
          have q1 : CatL S LB (S ++ LB) := fun W => add_run rfl (by omega) W
          have q2 : CatL (S ++ LB) nlL (S ++ LB ++ nlL) := fun W => add_run rfl (by rw [ByteArray.size_append]; show _ + 1 ≤ _; omega) W
          have hS2 : (S ++ LB ++ nlL).data.toList = linesA (l.take (i + 1)) := by
            rw [htk, ← HS.out, ← hzl]
            simp [ByteArray.data_append]
          have hs2z : (S ++ LB ++ nlL).size = (linesA (l.take (i + 1))).length := by rw [← hS2, len_bytes]
          have HS2 := Lib.hid hS2
          have HLG := Lib.hid (fun h => printA_long (l := l) HALL.out (k := i + 1) h)
          rw [← hs2z] at HLG
          clear hS2 hs2z htk hok hgi hp2 hp3 hz hzl hLB hls HS
          generalize S ++ LB ++ nlL = S3 at *
          generalize S ++ LB = S2 at *
          generalize l[i] = a at *
          go_wp2_with fail
          refine Calls.mono (CC.out _) ?_
          rintro e W1 ⟨rfl, hn⟩
          replace hc := chain hc hn
          clear x0 x1 x2 x3 x4 x5 hn
          by_cases hlong : (65536 : Int) < S3.size
          · have H10 := Lib.hid (HLG.out (by omega))
            go_wp2_with fail
            go_returns
            exact ⟨by rw [H10.out]; rfl, hc⟩
          · have hs5 : S3.size ≤ 65536 := by omega
            go_wp2_with fail
            go_roundw
            case rel => exact ⟨i + 1, S3, by omega, by go_num, rfl, HS2, hs5, hc⟩
            case measure => simp [intOf]; omega
        · obtain rfl : i = k := by omega
          have hS := HS.out
          rw [List.take_of_length_le (by rw [HN.out]; exact Nat.le_refl _)] at hS
          have h0 := printA_ok HALL.out (by rw [← hS, len_bytes]; exact hsz)
          have hb : (⟨(linesA l).toArray⟩ : ByteArray) = S := str_ext (by rw [hS])
          have H0 := Lib.hid (show (printA l).1 = linesA l ∧ (printA l).2 = 0 by rw [h0]; exact ⟨rfl, rfl⟩)
          have HB := Lib.hid hb
          clear h0 hb hS
          go_wp2_with fail
          go_returns
          exact ⟨by rw [H0.out.1, H0.out.2, HB.out]; rfl, hc⟩
end Go.Proofs.YtinlfheonlpceaaGreatDoor

/- The reference of chapter 07: read. -/
namespace Go.Proofs.YtinlfheonlpceaaGreatDoor
open Go.RowKit
open Go.Lib (decDigits)
set_option linter.unusedVariables false
set_option linter.unusedSimpArgs false
set_option maxHeartbeats 40000000
set_option maxRecDepth 20000
abbrev cwL (l : List UInt8) : List UInt8 := (Lib.cut l [32]).1
abbrev crL (l : List UInt8) : List UInt8 := (Lib.cut l [32]).2.1
theorem cwL_len (l : List UInt8) : (cwL l).length + (crL l).length ≤ l.length := by
  rcases mem_split l 32 with h | ⟨pre, post, h1, h2⟩
  · unfold cwL crL; rw [cut_no _ _ h]; simp
  · unfold cwL crL; rw [h2, cut_at _ _ _ h1]; simp
/-- A line's parts are what the reference takes. -/
theorem cand_is {p : AtR} {s : List UInt8} (h : isA p s) : num13 (cwL s) = p.at_ ∧ cwL (crL s) = dTextL 58 p.k p.i p.g ∧ s = cwL s ++ 32 :: (cwL (crL s) ++ 32 :: crL (crL s)) := by
  obtain ⟨ok, hg, e⟩ := h
  have o := aOk_iff.1 ok
  have e1 : Lib.cut s [32] = (decDigits p.at_.toNat, dTextL 58 p.k p.i p.g ++ 32 :: (whyW p.why ++ 32 :: ansW p.ans), true) := by
    rw [← e]; unfold lineL; exact cut_at _ _ _ (dec_no _ _ (.inl rfl))
  have e2 : Lib.cut (dTextL 58 p.k p.i p.g ++ 32 :: (whyW p.why ++ 32 :: ansW p.ans)) [32] = (dTextL 58 p.k p.i p.g, whyW p.why ++ 32 :: ansW p.ans, true) := cut_at _ _ _ (dTextL_no _ _ _ _ (.inl rfl))
  have w1 : cwL s = decDigits p.at_.toNat := by unfold cwL; rw [e1]
  have w2 : crL s = dTextL 58 p.k p.i p.g ++ 32 :: (whyW p.why ++ 32 :: ansW p.ans) := by unfold crL; rw [e1]
  have w3 : cwL (crL s) = dTextL 58 p.k p.i p.g := by rw [w2]; unfold cwL; rw [e2]
  have w4 : crL (crL s) = whyW p.why ++ 32 :: ansW p.ans := by rw [w2]; unfold crL; rw [e2]
  refine ⟨?_, w3, ?_⟩
  · rw [w1, num13_dec _ (by have := o.1.2; unfold maxT at this; omega)]
    have := o.1.1
    omega
  · rw [w1, w3, w4, ← e]; rfl
/-- What a candidate comes to. -/
def AccA (s B LT : ByteArray) (e ok : Bool) : Prop := (ok = true ∧ e = true ∧ LT = B ∧ B = s) ∨ (ok = false ∧ e = false) ∨ (ok = false ∧ e = true ∧ (LT.toList == B.toList) = false) ∨ (ok = false ∧ e = true ∧ LT = B ∧ (B.toList == s.toList) = false)
abbrev zA6 : Array Value := #[.int .i64 0, .int .i64 0, .int .i64 0, .int .u32 0, .int .i64 0, .int .i64 0]
theorem rread_walk (s X1 L1 X2 L2 B1 B2 B3 B4 : ByteArray) (t k i g oe : Int) (LT : Int → Int → ByteArray) (E ok : Int → Int → Bool)
    (c1 : ∀ w, Ret 103 #[.string s] w (.tuple #[.string X1, .string L1]))
    (c2 : ∀ w, Ret 103 #[.string L1] w (.tuple #[.string X2, .string L2]))
    (c3 : ∀ w, Ret 104 #[.string X1] w (.int .i64 t))
    (c4 : ∀ w, Ret 105 #[.string X2] w (.tuple #[dV k i g, .int .i64 oe]))
    (q1 : CatL X1 spL B1) (q2 : CatL B1 X2 B2) (q3 : CatL B2 spL B3) (q4 : CatL B3 L2 B4)
    (ck : ∀ wy an w, Ret 37 #[atV ⟨t, k, i, g, wy, an⟩] w (.int .i64 (if E wy an then 0 else 2)))
    (ln : ∀ wy an w, E wy an = true → Ret 83 #[atV ⟨t, k, i, g, wy, an⟩] w (.string (LT wy an)))
    (ha : ∀ wy an, AccA s B4 (LT wy an) (E wy an) (ok wy an)) (w : World) :
    Calls Tryz.prog 69 #[.string s] w fun e w' => Below w.heap.size w w' ∧
      ((∃ wy an, ok wy an = true ∧ e = .returned (.tuple #[atV ⟨t, k, i, g, wy, an⟩, .bool true])) ∨
       ((∀ wy an, 1 ≤ wy → wy ≤ 3 → 1 ≤ an → an ≤ 3 → ok wy an = false) ∧ e = .returned (.tuple #[atV at0, .bool false]))) := by
  have C1 := Lib.hid c1
  clear c1
  have C2 := Lib.hid c2
  clear c2
  have C3 := Lib.hid c3
  clear c3
  have C4 := Lib.hid c4
  clear c4
  have CK := Lib.hid ck
  clear ck
  have LN := Lib.hid ln
  clear ln
  have HA := Lib.hid ha
  clear ha
  go_enter Tryz.func69, Tryz.ntmps69
  go_upto_region 1 with fail
  have r2 := Row.new (W := w) (cs := zA6) (t := 43)
  have hc := below_alloc w (.cells zA6 43)
  generalize w.alloc (.cells zA6 43) = W0 at r2 hc ⊢
  go_wp2_with fail
  refine Calls.mono (C1.out _) ?_
  rintro e W1 ⟨rfl, hn⟩
  replace r2 := r2.on hn
  replace hc := chain hc hn
  clear hn
  go_wp2_with fail
  refine Calls.mono (C2.out _) ?_
  rintro e W2 ⟨rfl, hn⟩
  replace r2 := r2.on hn
  replace hc := chain hc hn
  clear hn
  go_wp2_with fail
  refine Calls.mono (C3.out _) ?_
  rintro e W3 ⟨rfl, hn⟩
  replace r2 := r2.on hn
  replace hc := chain hc hn
  clear hn
  go_upto_region 4 with fail
  have rx := Row.new (W := W3) (cs := #[.int .i64 t, .int .i64 0, .int .i64 0, .int .u32 0, .int .i64 0, .int .i64 0]) (t := 43)
  have hn := below_alloc W3 (.cells #[.int .i64 t, .int .i64 0, .int .i64 0, .int .u32 0, .int .i64 0, .int .i64 0] 43)
  have hbx : w.heap.size < W3.heap.size := r2.lt
  replace r2 := r2.on hn
  replace hc := chain hc hn
  clear hn
  generalize W3.alloc (.cells #[.int .i64 t, .int .i64 0, .int .i64 0, .int .u32 0, .int .i64 0, .int .i64 0] 43) = W4 at rx r2 hc ⊢
  generalize W3.heap.size = b at rx hbx ⊢
  have y0 := rx.cell
  have y1 := rx.lt
  go_wp2_with fail
  refine Calls.mono (C4.out _) ?_
  rintro e W5 ⟨rfl, hn⟩
  clear y0 y1
  replace r2 := r2.on hn
  replace rx := rx.on hn
  replace hc := chain hc hn
  clear hn
  have y0 := rx.cell
  have y1 := rx.lt
  have y2 := rx.free
  go_upto_region 6 with fail
  clear y0 y1 y2
  replace r2 := r2.other (show b ≠ w.heap.size by omega) 1 (.int .i64 k)
  replace rx := rx.set 1 (.int .i64 k)
  replace hc := hc.setCell (p := ⟨b, 1, none⟩) (show w.heap.size ≤ b by omega) (.int .i64 k)
  replace r2 := r2.other (show b ≠ w.heap.size by omega) 2 (.int .i64 i)
  replace rx := rx.set 2 (.int .i64 i)
  replace hc := hc.setCell (p := ⟨b, 2, none⟩) (show w.heap.size ≤ b by omega) (.int .i64 i)
  replace r2 := r2.other (show b ≠ w.heap.size by omega) 3 (.int .u32 g)
  replace rx := rx.set 3 (.int .u32 g)
  replace hc := hc.setCell (p := ⟨b, 3, none⟩) (show w.heap.size ≤ b by omega) (.int .u32 g)
  simp only [List.setIfInBounds_toArray, List.set_cons_zero, List.set_cons_succ] at rx
  generalize hW : World.setCell _ _ _ = W6 at *
  clear hW
  go_loopw [8] (fun yv wr => ∃ wy : Int, 1 ≤ wy ∧ wy ≤ 4 ∧ yv = .int .i64 wy ∧ Row wr w.heap.size zA6 43 ∧ (∃ u v : Int, Row wr b #[.int .i64 t, .int .i64 k, .int .i64 i, .int .u32 g, .int .i64 u, .int .i64 v] 43) ∧ Below w.heap.size w wr ∧ RowKit.Hid (∀ a c, 1 ≤ a → a < wy → 1 ≤ c → c ≤ 3 → ok a c = false)) (fun yv _ => 4 - (intOf yv).toNat)
  case atStart => exact ⟨1, by omega, by omega, rfl, r2, ⟨0, 0, rx⟩, hc, Lib.hid (fun a c h1 h2 => by omega)⟩
  case round =>
    clear r2 rx hc
    obtain ⟨wy, hy1, hy4, rfl, r2, ⟨u, v, rx⟩, hc, hno⟩ := hrel
    by_cases hlt : wy ≤ 3
    · go_wp2_with fail
      go_loopw [9] (fun yv wr => ∃ an : Int, 1 ≤ an ∧ an ≤ 4 ∧ yv = .int .i64 an ∧ Row wr w.heap.size zA6 43 ∧ (∃ u v : Int, Row wr b #[.int .i64 t, .int .i64 k, .int .i64 i, .int .u32 g, .int .i64 u, .int .i64 v] 43) ∧ Below w.heap.size w wr ∧ RowKit.Hid (∀ c, 1 ≤ c → c < an → ok wy c = false)) (fun yv _ => 4 - (intOf yv).toNat)
      case atStart => exact ⟨1, by omega, by omega, rfl, r2, ⟨u, v, rx⟩, hc, Lib.hid (fun c h1 h2 => by omega)⟩
      case round =>
        clear r2 rx hc
        obtain ⟨an, ha1, ha4, rfl, r2, ⟨u, v, rx⟩, hc, hny⟩ := hrel
        by_cases hlt2 : an ≤ 3
        · have y0 := rx.cell
          have y1 := rx.lt
          have y2 := rx.free
          go_upto_region 13 with fail
          clear y0 y1 y2
          replace r2 := r2.other (show b ≠ w.heap.size by omega) 4 (.int .i64 wy)
          replace rx := rx.set 4 (.int .i64 wy)
          replace hc := hc.setCell (p := ⟨b, 4, none⟩) (show w.heap.size ≤ b by omega) (.int .i64 wy)
          replace r2 := r2.other (show b ≠ w.heap.size by omega) 5 (.int .i64 an)
          replace rx := rx.set 5 (.int .i64 an)
          replace hc := hc.setCell (p := ⟨b, 5, none⟩) (show w.heap.size ≤ b by omega) (.int .i64 an)
          simp only [List.setIfInBounds_toArray, List.set_cons_zero, List.set_cons_succ] at rx
          generalize hW : World.setCell _ _ _ = W7 at *
          clear hW
          have ck := fun W => CK.out wy an W
          have ln := fun W => LN.out wy an W
          have a := HA.out wy an
          generalize hX : LT wy an = X at *
          clear hX
          rcases a with ⟨hb, hE, rfl, rfl⟩ | ⟨hb, hE⟩ | ⟨hb, hE, he⟩ | ⟨hb, hE, rfl, he⟩
          · have hb2 := hb
            clear hb
            rw [hE] at ck
            replace ck := fun W => ck W
            have CK1 := Lib.hid ck
            have LN1 := Lib.hid (fun W => ln W hE)
            clear ck ln hE
            have y0 := rx.cell
            have y1 := rx.lt
            go_wp2_with fail
            refine Calls.mono (CK1.out _) ?_
            rintro e V1 ⟨rfl, hn⟩
            clear y0 y1
            replace r2 := r2.on hn
            replace rx := rx.on hn
            replace hc := chain hc hn
            clear hn
            have y0 := rx.cell
            have y1 := rx.lt
            go_wp2_with fail
            refine Calls.mono (LN1.out _) ?_
            rintro e V2 ⟨rfl, hn⟩
            clear y0 y1
            replace r2 := r2.on hn
            replace rx := rx.on hn
            replace hc := chain hc hn
            clear hn
            have y0 := rx.cell
            have y1 := rx.lt
            go_wp2_with fail
            refine Calls.mono (LN1.out _) ?_
            rintro e V3 ⟨rfl, hn⟩
            clear y0 y1
            replace r2 := r2.on hn
            replace rx := rx.on hn
            replace hc := chain hc hn
            clear hn
            have y0 := rx.cell
            have y1 := rx.lt
            have x0 := r2.cell
            have x1 := r2.lt
            have x2 := r2.free
            go_wp2_with fail
            clear y0 y1 x0 x1 x2
            clear rx
            replace r2 := r2.set 0 (.int .i64 t)
            replace r2 := r2.set 1 (.int .i64 k)
            replace r2 := r2.set 2 (.int .i64 i)
            replace r2 := r2.set 3 (.int .u32 g)
            replace r2 := r2.set 4 (.int .i64 wy)
            replace r2 := r2.set 5 (.int .i64 an)
            replace hc := hc.setCell (p := ⟨w.heap.size, 0, none⟩) (Nat.le_refl _) (.int .i64 t)
            replace hc := hc.setCell (p := ⟨w.heap.size, 1, none⟩) (Nat.le_refl _) (.int .i64 k)
            replace hc := hc.setCell (p := ⟨w.heap.size, 2, none⟩) (Nat.le_refl _) (.int .i64 i)
            replace hc := hc.setCell (p := ⟨w.heap.size, 3, none⟩) (Nat.le_refl _) (.int .u32 g)
            replace hc := hc.setCell (p := ⟨w.heap.size, 4, none⟩) (Nat.le_refl _) (.int .i64 wy)
            replace hc := hc.setCell (p := ⟨w.heap.size, 5, none⟩) (Nat.le_refl _) (.int .i64 an)
            simp only [zA6, List.setIfInBounds_toArray, List.set_cons_zero, List.set_cons_succ] at r2
            generalize hW : World.setCell _ _ _ = Z at *
            clear hW
            have z := r2.cell
            refine bodyPost_ret (v := .tuple #[atV ⟨t, k, i, g, wy, an⟩, .bool true]) (by simp [results, Tryz.results69, go_sem, z]) rfl ⟨hc, .inl ⟨wy, an, hb2, rfl⟩⟩
          · rw [hE] at ck
            replace ck := fun W => ck W
            have CK1 := Lib.hid ck
            clear ck ln hE
            have y0 := rx.cell
            have y1 := rx.lt
            go_wp2_with fail
            refine Calls.mono (CK1.out _) ?_
            rintro e V1 ⟨rfl, hn⟩
            clear y0 y1
            replace r2 := r2.on hn
            replace rx := rx.on hn
            replace hc := chain hc hn
            clear hn
            go_wp2_with fail
            go_roundw
            case rel => exact ⟨an + 1, by omega, by omega, by go_num, r2, ⟨wy, an, rx⟩, hc, Lib.hid (fun c h1 h2 => by
                by_cases hcw : c = an
                · rw [hcw]; exact hb
                · exact hny.out c h1 (by omega))⟩
            case measure => simp [intOf]; omega
          · rw [hE] at ck
            replace ck := fun W => ck W
            have CK1 := Lib.hid ck
            have LN1 := Lib.hid (fun W => ln W hE)
            clear ck ln hE
            have y0 := rx.cell
            have y1 := rx.lt
            go_wp2_with fail
            refine Calls.mono (CK1.out _) ?_
            rintro e V1 ⟨rfl, hn⟩
            clear y0 y1
            replace r2 := r2.on hn
            replace rx := rx.on hn
            replace hc := chain hc hn
            clear hn
            have y0 := rx.cell
            have y1 := rx.lt
            go_wp2_with fail
            refine Calls.mono (LN1.out _) ?_
            rintro e V2 ⟨rfl, hn⟩
            clear y0 y1
            replace r2 := r2.on hn
            replace rx := rx.on hn
            replace hc := chain hc hn
            clear hn
            go_wp2_with fail
            go_roundw
            case rel => exact ⟨an + 1, by omega, by omega, by go_num, r2, ⟨wy, an, rx⟩, hc, Lib.hid (fun c h1 h2 => by
                by_cases hcw : c = an
                · rw [hcw]; exact hb
                · exact hny.out c h1 (by omega))⟩
            case measure => simp [intOf]; omega
          · rw [hE] at ck
            replace ck := fun W => ck W
            have CK1 := Lib.hid ck
            have LN1 := Lib.hid (fun W => ln W hE)
            clear ck ln hE
            have y0 := rx.cell
            have y1 := rx.lt
            go_wp2_with fail
            refine Calls.mono (CK1.out _) ?_
            rintro e V1 ⟨rfl, hn⟩
            clear y0 y1
            replace r2 := r2.on hn
            replace rx := rx.on hn
            replace hc := chain hc hn
            clear hn
            have y0 := rx.cell
            have y1 := rx.lt
            go_wp2_with fail
            refine Calls.mono (LN1.out _) ?_
            rintro e V2 ⟨rfl, hn⟩
            clear y0 y1
            replace r2 := r2.on hn
            replace rx := rx.on hn
            replace hc := chain hc hn
            clear hn
            have y0 := rx.cell
            have y1 := rx.lt
            go_wp2_with fail
            refine Calls.mono (LN1.out _) ?_
            rintro e V3 ⟨rfl, hn⟩
            clear y0 y1
            replace r2 := r2.on hn
            replace rx := rx.on hn
            replace hc := chain hc hn
            clear hn
            go_wp2_with fail
            go_roundw
            case rel => exact ⟨an + 1, by omega, by omega, by go_num, r2, ⟨wy, an, rx⟩, hc, Lib.hid (fun c h1 h2 => by
                by_cases hcw : c = an
                · rw [hcw]; exact hb
                · exact hny.out c h1 (by omega))⟩
            case measure => simp [intOf]; omega
        · have ey : an = 4 := by omega
          go_wp2_with fail
          go_roundw
          case rel => exact ⟨wy + 1, by omega, by omega, by go_num, r2, ⟨u, v, rx⟩, hc, Lib.hid (fun a c h1 h2 h3 h4 => by
            by_cases ha : a = wy
            · rw [ha]; exact hny.out c h3 (by omega)
            · exact hno.out a c h1 (by omega) h3 h4)⟩
          case measure => simp [intOf]; omega
    · have es : wy = 4 := by omega
      have y0 := r2.cell
      have y1 := r2.lt
      have y2 := r2.free
      go_wp2_with fail
      clear y0 y1 y2
      clear rx
      replace r2 := r2.set 0 (.int .i64 0)
      replace r2 := r2.set 1 (.int .i64 0)
      replace r2 := r2.set 2 (.int .i64 0)
      replace r2 := r2.set 3 (.int .u32 0)
      replace r2 := r2.set 4 (.int .i64 0)
      replace r2 := r2.set 5 (.int .i64 0)
      replace hc := hc.setCell (p := ⟨w.heap.size, 0, none⟩) (Nat.le_refl _) (.int .i64 0)
      replace hc := hc.setCell (p := ⟨w.heap.size, 1, none⟩) (Nat.le_refl _) (.int .i64 0)
      replace hc := hc.setCell (p := ⟨w.heap.size, 2, none⟩) (Nat.le_refl _) (.int .i64 0)
      replace hc := hc.setCell (p := ⟨w.heap.size, 3, none⟩) (Nat.le_refl _) (.int .u32 0)
      replace hc := hc.setCell (p := ⟨w.heap.size, 4, none⟩) (Nat.le_refl _) (.int .i64 0)
      replace hc := hc.setCell (p := ⟨w.heap.size, 5, none⟩) (Nat.le_refl _) (.int .i64 0)
      simp only [zA6, List.setIfInBounds_toArray, List.set_cons_zero, List.set_cons_succ] at r2
      generalize hW : World.setCell _ _ _ = Z at *
      clear hW
      have z := r2.cell
      refine bodyPost_ret (v := .tuple #[atV at0, .bool false]) (by simp [results, Tryz.results69, go_sem, z]) rfl ⟨hc, .inr ⟨fun a c h1 h2 h3 h4 => hno.out a c h1 (by omega) h3 h4, rfl⟩⟩
theorem cut_l (l : List UInt8) (h : l.length ≤ 100000) (w : World) : Ret 103 #[.string ⟨l.toArray⟩] w (.tuple #[.string ⟨(cwL l).toArray⟩, .string ⟨(crL l).toArray⟩]) := by
  have := rcut_c ⟨l.toArray⟩ (by show l.toArray.size ≤ _; simpa using h) w
  simpa using this
theorem outer_any (X : ByteArray) (hX : X.size ≤ 100000) : ∃ k i g oe : Int, 0 ≤ g ∧ g ≤ 4294967295 ∧ (∀ w, Ret 105 #[.string X] w (.tuple #[dV k i g, .int .i64 oe])) ∧ ∀ k' i' g' : Int, dOk 64 k' i' g' = true → 0 ≤ g' → g' ≤ 4294967295 → X.data.toList = dTextL 58 k' i' g' → k' = k ∧ i' = i ∧ g' = g := by
  by_cases h : ∃ k i g, IsD 58 64 X.data.toList k i g
  · obtain ⟨k, i, g, hd⟩ := h
    refine ⟨k, i, g, 0, hd.g0, hd.gm, fun w => ro_parse_is X k i g hd w, fun k' i' g' h1 h2 h3 h4 => ?_⟩
    obtain ⟨a, b, c⟩ := dTextL_inj (.inr rfl) h1 hd.ok h2 hd.g0 (h4.symm.trans hd.eq)
    exact ⟨a, b, c⟩
  · refine ⟨0, 0, 0, 9, by omega, by omega, fun w => ro_parse_not X hX (fun k sl g hd => h ⟨k, sl, g, hd⟩) w, fun k' i' g' h1 h2 h3 h4 => absurd ⟨k', i', g', ⟨h1, h3, h2, h4⟩⟩ h⟩
theorem rread_c (s : ByteArray) (w : World) (hs : s.size ≤ 70000) : Ret 69 #[.string s] w (.tuple #[atV ((readA s.data.toList).getD at0), .bool (readA s.data.toList).isSome]) := by
  have hsl := len_bytes s
  have l1 := cwL_len s.data.toList
  have l2 := cwL_len (crL s.data.toList)
  obtain ⟨k, i, g, oe, g0, g1, c4, hu⟩ := outer_any ⟨(cwL (crL s.data.toList)).toArray⟩ (by show (cwL (crL s.data.toList)).toArray.size ≤ _; rw [List.size_toArray]; omega)
  have c1 := fun w => rcut_c s (by omega) w
  have c2 := fun w => cut_l (crL s.data.toList) (by omega) w
  have c3 := fun w => rnumber_c ⟨(cwL s.data.toList).toArray⟩ (by show (cwL s.data.toList).toArray.size ≤ _; rw [List.size_toArray]; omega) w
  simp only [List.toList_toArray] at c3 hu
  have z1 : (⟨(cwL s.data.toList).toArray⟩ : ByteArray).size = (cwL s.data.toList).length := by show (cwL s.data.toList).toArray.size = _; rw [List.size_toArray]
  have z2 : (⟨(cwL (crL s.data.toList)).toArray⟩ : ByteArray).size = (cwL (crL s.data.toList)).length := by show (cwL (crL s.data.toList)).toArray.size = _; rw [List.size_toArray]
  have z3 : (⟨(crL (crL s.data.toList)).toArray⟩ : ByteArray).size = (crL (crL s.data.toList)).length := by show (crL (crL s.data.toList)).toArray.size = _; rw [List.size_toArray]
  have hgi : ∀ wy an, gIn ⟨num13 (cwL s.data.toList), k, i, g, wy, an⟩ := fun _ _ => ⟨g0, g1⟩
  let B : ByteArray := ⟨(cwL s.data.toList).toArray⟩ ++ spL ++ ⟨(cwL (crL s.data.toList)).toArray⟩ ++ spL ++ ⟨(crL (crL s.data.toList)).toArray⟩
  have hB : B.data.toList = cwL s.data.toList ++ 32 :: (cwL (crL s.data.toList) ++ 32 :: crL (crL s.data.toList)) := by
    show (⟨(cwL s.data.toList).toArray⟩ ++ spL ++ ⟨(cwL (crL s.data.toList)).toArray⟩ ++ spL ++ ⟨(crL (crL s.data.toList)).toArray⟩ : ByteArray).data.toList = _
    simp [ByteArray.data_append]
  classical
  have key : ∀ p, isA p s.data.toList → p.at_ = num13 (cwL s.data.toList) ∧ p.k = k ∧ p.i = i ∧ p.g = g ∧ B = s := fun p hp => by
    obtain ⟨h1, h2, h3⟩ := cand_is hp
    have o := aOk_iff.1 hp.1
    obtain ⟨a, b, c⟩ := hu p.k p.i p.g o.2.1 hp.2.1.1 hp.2.1.2 h2
    exact ⟨h1.symm, a, b, c, str_ext (by rw [hB]; exact h3.symm)⟩
  have W := rread_walk s _ _ _ _ _ _ _ B (num13 (cwL s.data.toList)) k i g oe (fun wy an => ⟨(lineL ⟨num13 (cwL s.data.toList), k, i, g, wy, an⟩).toArray⟩) (fun wy an => aOk ⟨num13 (cwL s.data.toList), k, i, g, wy, an⟩) (fun wy an => decide (isA ⟨num13 (cwL s.data.toList), k, i, g, wy, an⟩ s.data.toList)) c1 c2 c3 c4
    (fun W => add_run rfl (by rw [z1]; show _ + 1 ≤ _; omega) W) (fun W => add_run rfl (by rw [ByteArray.size_append, z1, z2]; show _ + 1 + _ ≤ _; omega) W) (fun W => add_run rfl (by rw [ByteArray.size_append, ByteArray.size_append, z1, z2]; show _ + 1 + _ + 1 ≤ _; omega) W) (fun W => add_run rfl (by rw [ByteArray.size_append, ByteArray.size_append, ByteArray.size_append, z1, z2, z3]; show _ + 1 + _ + 1 + _ ≤ _; omega) W)
    (fun wy an w => rcheck_a _ (hgi wy an) w) (fun wy an w h => rline_c _ h (hgi wy an) w)
    (fun wy an => by
      by_cases h : isA ⟨num13 (cwL s.data.toList), k, i, g, wy, an⟩ s.data.toList
      · have hBs := (key _ h).2.2.2.2
        refine .inl ⟨decide_eq_true h, h.1, ?_, hBs⟩
        rw [hBs]
        exact str_ext (by simpa using h.2.2)
      · rcases Bool.eq_false_or_eq_true (aOk ⟨num13 (cwL s.data.toList), k, i, g, wy, an⟩) with he | he
        rotate_left 1
        · exact .inr (.inl ⟨decide_eq_false h, he⟩)
        · by_cases hl : (⟨(lineL ⟨num13 (cwL s.data.toList), k, i, g, wy, an⟩).toArray⟩ : ByteArray) = B
          · refine .inr (.inr (.inr ⟨decide_eq_false h, he, hl, str_beq_ne (fun hbs => h ⟨he, hgi wy an, ?_⟩)⟩))
            have e := congrArg (fun z : ByteArray => z.data.toList) (hl.trans hbs)
            simpa using e
          · exact .inr (.inr (.inl ⟨decide_eq_false h, he, str_beq_ne hl⟩)))
    w
  refine W.mono ?_
  rintro e w' ⟨hb, h | h⟩
  · obtain ⟨wy, an, hok, rfl⟩ := h
    rw [readA_some (of_decide_eq_true hok)]
    exact ⟨rfl, hb⟩
  · obtain ⟨hno, rfl⟩ := h
    rw [readA_none (fun p hp => by
      obtain ⟨h1, h2, h3, h4, _⟩ := key p hp
      have o := aOk_iff.1 hp.1
      have h5 := hno p.why p.ans o.2.2.1.1 o.2.2.1.2 o.2.2.2.1 o.2.2.2.2
      rw [decide_eq_false_iff_not] at h5
      apply h5
      rw [← h1, ← h2, ← h3, ← h4]
      exact hp)]
    exact ⟨rfl, hb⟩
end Go.Proofs.YtinlfheonlpceaaGreatDoor

/- The reference's ledger (chapter 07): All, Of, First, Ended, Len. -/
namespace Go.Proofs.YtinlfheonlpceaaGreatDoor
open Go.RowKit
set_option linter.unusedVariables false
set_option linter.unusedSimpArgs false
set_option maxHeartbeats 16000000
set_option maxRecDepth 20000
theorem rall_c {w : World} {q : Nat} {v : Value} {l : List AtR} (h : Row w q #[.bool true, v] RLT) (hv : HoldsA w v l) (hl : l.length ≤ 100000) : Calls Tryz.prog 43 #[ledP q] w fun e w' => ∃ u, e = .returned u ∧ OwnsA w.heap.size w' u l ∧ Below w.heap.size w w' := by
  obtain ⟨i0, hi, hz0, hz1, hz2⟩ := info_parts at_info
  have HI0 := Lib.hid hi
  have HZ0 := Lib.hid hz0
  have HZ1 := Lib.hid hz1
  have HZ2 := Lib.hid hz2
  clear hi hz0 hz1 hz2
  have y := h.cell
  have z := h.lt
  have hb := below_alloc w (.cells #[] 43)
  have HO := Lib.hid (World.ownsRow_made (base := w.heap.size) (e := 43) (size := 6) w #[] 0 (Nat.le_refl _) (by unfold maxLen; omega) rfl)
  have HB := Lib.hid hb
  rcases hv with ⟨rfl, rfl⟩ | ⟨g, o, c, rfl, ha⟩
  · clear hb
    go_enter Tryz.func43, Tryz.ntmps43
    go_wp2_with fail
    refine Calls.mono (rvalid_c h) ?_
    rintro e V1 ⟨rfl, hW⟩
    subst hW
    go_wp2_with (at_builtin; refine wpList_append_own_none rfl _ _ 26 rfl V1.heap.size 43 i0 6 Tryz.underlying26 HI0.out _ 0 [] rfl HO.out rfl ?_)
    go_returns
    exact ⟨_, rfl, HO.out, HB.out⟩
  · have hsrc : ∀ j u, (cellsA l)[j]? = some u → (w.alloc (.cells #[] 43)).cell? ((⟨g, o, none⟩ : Addr).add j) = some u := fun j u hj => by
      rw [add_off]
      have q := holdsA_cell ha j u hj
      exact keep_cell hb (block_lt_of_cell (a := ⟨g, o + j, none⟩) q) q
    have HS := Lib.hid hsrc
    clear hsrc hb ha
    go_enter Tryz.func43, Tryz.ntmps43
    go_wp2_with fail
    refine Calls.mono (rvalid_c h) ?_
    rintro e V1 ⟨rfl, hW⟩
    subst hW
    go_wp2_with (at_builtin; refine wpList_append_own _ rfl _ _ 26 rfl V1.heap.size 43 i0 (.agg #[.int .i64 0, .int .i64 0, .int .i64 0, .int .u32 0, .int .i64 0, .int .i64 0]) 6 48 Tryz.underlying26 HI0.out HZ0.out HZ1.out HZ2.out rfl (by decide) _ 0 [] rfl HO.out ⟨g, o, none⟩ l.length c (cellsA l) rfl (by rw [cellsA_len, Nat.mul_comm]) HS.out (cellsA_one l) (by unfold maxLen; omega) (by omega) (by simp) ?_; intro v' w9 hown' hgrow hnil; have HOWN := Lib.hid hown'; have HGR := Lib.hid hgrow; clear hown' hgrow hnil)
    go_returns
    refine ⟨_, rfl, ?_, HB.out.grown HGR.out (by simp) (fun k hk => Nat.le_of_eq (Option.some.inj (show some V1.heap.size = some k from hk)))⟩
    have h9 := HOWN.out
    rw [Nat.zero_add, List.nil_append] at h9
    exact h9
theorem rof_c {w : World} {q : Nat} {v : Value} {l : List AtR} (k i g : Int) (h : Row w q #[.bool true, v] RLT) (hv : HoldsA w v l) (hl : l.length ≤ 100000) : Calls Tryz.prog 41 #[ledP q, oV k i g] w fun e w' => ∃ u, e = .returned u ∧ OwnsA w.heap.size w' u (ofL k i g l) ∧ Below w.heap.size w w' := by
  obtain ⟨i0, hi, hz0, hz1, hz2⟩ := info_parts at_info
  have HI0 := Lib.hid hi
  have HZ0 := Lib.hid hz0
  have HZ1 := Lib.hid hz1
  have HZ2 := Lib.hid hz2
  clear hi hz0 hz1 hz2
  go_enter Tryz.func41, Tryz.ntmps41
  go_upto_region 2 with fail
  have r1 := Row.new (W := w) (cs := #[.int .i64 k, .int .i64 i, .int .u32 g]) (t := 41)
  have hc := below_alloc w (.cells #[.int .i64 k, .int .i64 i, .int .u32 g] 41)
  replace h := h.on hc
  replace hv := hv.on hc
  generalize w.alloc (.cells #[.int .i64 k, .int .i64 i, .int .u32 g] 41) = V1 at *
  go_wp2_with fail
  refine Calls.mono (rall_c h hv hl) ?_
  rintro e V2 ⟨u, rfl, hu, hn⟩
  replace r1 := r1.on hn
  replace hc := chain hc hn
  clear h hv hn
  have HU := Lib.hid (OwnsA.holds hu)
  obtain ⟨p0, c0, rfl⟩ := HU.out.len
  have HC := Lib.hid hc
  clear hu hc
  have hx := Below.refl V2.heap.size V2
  go_wp2_with fail
  go_loopw [5, 7] (fun ov iv wr => ∃ j : Nat, j ≤ l.length ∧ iv = .int .i64 j ∧ OwnsA V2.heap.size wr ov (ofL k i g (l.take j)) ∧ Row wr w.heap.size #[.int .i64 k, .int .i64 i, .int .u32 g] 41 ∧ Below V2.heap.size V2 wr) (fun _ iv _ => l.length - (intOf iv).toNat)
  case atStart => exact ⟨0, Nat.zero_le _, rfl, OwnsA.nil _ _, r1, hx⟩
  case round =>
    clear r1 hx
    obtain ⟨j, hj, rfl, hof, r1, hx⟩ := hrel
    by_cases hlt : j < l.length
    · have hx2 : l[j]? = some l[j] := List.getElem?_eq_getElem hlt
      have htk : l.take (j + 1) = l.take j ++ [l[j]] := by rw [List.take_add_one, hx2]; rfl
      generalize l[j] = x at *
      have hsn := ofL_snoc k i g (l.take j) x
      rw [← htk] at hsn
      have hSl : (ofL k i g (l.take j)).length ≤ 100000 := Nat.le_trans (ofL_len _ _ _ _) (by rw [List.length_take]; omega)
      have HS2 := Lib.hid (Eq.refl (ofL k i g (l.take (j + 1))))
      generalize hS2 : ofL k i g (l.take (j + 1)) = S2 at hsn HS2
      replace HS2 : RowKit.Hid (ofL k i g (l.take (j + 1)) = S2) := Lib.hid hS2
      clear hS2 htk
      generalize ofL k i g (l.take j) = S1 at *
      rcases HU.out.on hx with ⟨-, h0⟩ | ⟨b, off, c, hve, hcell⟩
      · rw [h0] at hlt; simp at hlt
      simp only [Value.slice.injEq] at hve
      obtain ⟨rfl, -, rfl⟩ := hve
      obtain ⟨d0, d1, d2, d3, d4, d5⟩ := HoldsA.six (hcell j x hx2)
      have qe := eq_out x.k x.i x.g k i g
      by_cases hm : x.k = k ∧ x.i = i ∧ x.g = g
      · rw [if_pos hm] at hsn
        rw [decide_eq_true hm.1, decide_eq_true hm.2.1, decide_eq_true hm.2.2] at qe
        have HSN := Lib.hid hsn
        clear hsn hm
        go_upto_region 6 with fail
        refine wp_region_held_drew (S := fun W' => (∀ t, W'.cell? ⟨w.heap.size, t, none⟩ = (#[.int .i64 k, .int .i64 i, .int .u32 g] : Array Value)[t]?) ∧ W'.cell? ⟨b, off + j * 6 + 1, none⟩ = some (.int .i64 x.k) ∧ W'.cell? ⟨b, off + j * 6 + 2, none⟩ = some (.int .i64 x.i) ∧ W'.cell? ⟨b, off + j * 6 + 3, none⟩ = some (.int .u32 x.g)) (by kernel_rfl) ⟨r1.cell, d1, d2, d3⟩ (fun hHeld => ?_)
        replace r1 := r1.drew
        replace hof := OwnsA.drew hof
        replace hx := hx.drew
        have hcell2 : ∀ t, t < 6 → wr.drew.cell? ⟨b, off + j * 6 + t, none⟩ = (atL x)[t]? := hcell j x hx2
        clear d0 d1 d2 d3 d4 d5 hcell hx2
        generalize wr.drew = W3 at *
        refine' wpAnyH_take (i := 0) (oi := _) (v := _) ?_ (by kernel_rfl) (by kernel_rfl) (by kernel_rfl) ?_ (Or.inl ⟨?_, ?_⟩) (by assumption) ?_
        rotate_left 2
        · (simp only [List.getElem?_toArray, List.getElem?_cons_succ, List.getElem?_cons_zero]; rfl)
        · first | exact fun _ _ _ h => h | exact fun _ _ _ h => nomatch h.1
        · rfl
        · (intro W hSW; (try dsimp only at hSW); go_split_ands; first | (go_simp; done) | (go_simp; with_reducible rfl))
        try simp only [Act.put, List.setIfInBounds_toArray, List.set_cons_zero, List.set_cons_succ]
        refine' wpAnyH_take (i := 1) (oi := _) (v := _) ?_ (by kernel_rfl) (by kernel_rfl) (by kernel_rfl) ?_ (Or.inl ⟨?_, ?_⟩) (by assumption) ?_
        rotate_left 2
        · (simp only [List.getElem?_toArray, List.getElem?_cons_succ, List.getElem?_cons_zero]; rfl)
        · first | exact fun _ _ _ h => h | exact fun _ _ _ h => nomatch h.1
        · rfl
        · (intro W hSW; (try dsimp only at hSW); go_split_ands; first | (go_simp; done) | (go_simp; with_reducible rfl))
        try simp only [Act.put, List.setIfInBounds_toArray, List.set_cons_zero, List.set_cons_succ]
        refine' wpAnyH_take (i := 2) (oi := _) (v := _) ?_ (by kernel_rfl) (by kernel_rfl) (by kernel_rfl) ?_ (Or.inl ⟨?_, ?_⟩) (by assumption) ?_
        rotate_left 2
        · (simp only [List.getElem?_toArray, List.getElem?_cons_succ, List.getElem?_cons_zero]; rfl)
        · first | exact fun _ _ _ h => h | exact fun _ _ _ h => nomatch h.1
        · rfl
        · (intro W hSW; (try dsimp only at hSW); go_split_ands; first | (go_simp; done) | (go_simp; with_reducible rfl))
        try simp only [Act.put, List.setIfInBounds_toArray, List.set_cons_zero, List.set_cons_succ]
        refine' wpAnyH_take (i := 3) (oi := _) (v := _) ?_ (by kernel_rfl) (by kernel_rfl) (by kernel_rfl) ?_ (Or.inl ⟨?_, ?_⟩) (by assumption) ?_
        rotate_left 2
        · (simp only [List.getElem?_toArray, List.getElem?_cons_succ, List.getElem?_cons_zero]; rfl)
        · first | exact fun _ _ _ h => h | exact fun _ _ _ h => nomatch h.1
        · rfl
        · (intro W hSW; (try dsimp only at hSW); go_split_ands; first | (go_simp; done) | (go_simp; with_reducible rfl))
        try simp only [Act.put, List.setIfInBounds_toArray, List.set_cons_zero, List.set_cons_succ]
        refine' wpAnyH_take (i := 4) (oi := _) (v := _) ?_ (by kernel_rfl) (by kernel_rfl) (by kernel_rfl) ?_ (Or.inl ⟨?_, ?_⟩) (by assumption) ?_
        rotate_left 2
        · (simp only [List.getElem?_toArray, List.getElem?_cons_succ, List.getElem?_cons_zero]; rfl)
        · first | exact fun _ _ _ h => h | exact fun _ _ _ h => nomatch h.1
        · rfl
        · (intro W hSW; (try dsimp only at hSW); go_split_ands; first | (go_simp; done) | (go_simp; with_reducible rfl))
        try simp only [Act.put, List.setIfInBounds_toArray, List.set_cons_zero, List.set_cons_succ]
        refine' wpAnyH_take (i := 5) (oi := _) (v := _) ?_ (by kernel_rfl) (by kernel_rfl) (by kernel_rfl) ?_ (Or.inl ⟨?_, ?_⟩) (by assumption) ?_
        rotate_left 2
        · (simp only [List.getElem?_toArray, List.getElem?_cons_succ, List.getElem?_cons_zero]; rfl)
        · first | exact fun _ _ _ h => h | exact fun _ _ _ h => nomatch h.1
        · rfl
        · (intro W hSW; (try dsimp only at hSW); go_split_ands; first | (go_simp; done) | (go_simp; with_reducible rfl))
        try simp only [Act.put, List.setIfInBounds_toArray, List.set_cons_zero, List.set_cons_succ]
        refine' wpAnyH_take (i := 6) (oi := _) (v := _) ?_ (by kernel_rfl) (by kernel_rfl) (by kernel_rfl) ?_ (Or.inl ⟨?_, ?_⟩) (by assumption) ?_
        rotate_left 2
        · (simp only [List.getElem?_toArray, List.getElem?_cons_succ, List.getElem?_cons_zero]; rfl)
        · first | exact fun _ _ _ h => h | exact fun _ _ _ h => nomatch h.1
        · rfl
        · (intro W hSW; (try dsimp only at hSW); go_split_ands; first | (go_simp; done) | (go_simp; with_reducible rfl))
        try simp only [Act.put, List.setIfInBounds_toArray, List.set_cons_zero, List.set_cons_succ]
        clear hHeld qe
        refine wpAnyH_done (by kernel_rfl) ?_ _
        obtain ⟨d0, d1, d2, d3, d4, d5⟩ := HoldsA.six hcell2
        clear hcell2
        obtain ⟨a0, c1, rfl⟩ := (OwnsA.holds hof).len
        have Q2 := Lib.hid (OwnsA.on hof (below_alloc W3 (.cells (atC x) 43)))
        have HSRC := Lib.hid (at_src W3 x)
        have hxs := hx.size
        have R1 := Lib.hid (r1.on (below_alloc W3 (.cells (atC x) 43)))
        have HX := Lib.hid (hx.alloc hx.size (.cells (atC x) 43))
        clear hof r1 hx
        go_wp2_with (at_builtin; refine wpList_append_own _ rfl _ _ 26 rfl V2.heap.size 43 i0 (.agg #[.int .i64 0, .int .i64 0, .int .i64 0, .int .u32 0, .int .i64 0, .int .i64 0]) 6 48 Tryz.underlying26 HI0.out HZ0.out HZ1.out HZ2.out rfl (by decide) _ _ _ rfl Q2.out ⟨W3.heap.size, 0, none⟩ 1 1 (atL x) rfl rfl HSRC.out (by intro u hu; simp at hu; rcases hu with rfl | rfl | rfl | rfl | rfl | rfl <;> rfl) (by unfold maxLen; omega) (by omega) (by simp; omega) ?_; intro v2 w9 hown' hgrow hnil; have HOWN := Lib.hid hown'; have HGR := Lib.hid hgrow; clear hown' hgrow hnil)
        have hlo := fun k hk => (World.ownsRow.lt Q2.out k hk).1
        have hx9 : Below V2.heap.size V2 w9 := HX.out.grown HGR.out (by simp; omega) hlo
        have r9 := row_grown R1.out HGR.out (ownA_ne_row Q2.out R1.out (by decide))
        have hof9 : OwnsA V2.heap.size w9 v2 (S1 ++ [x]) := by unfold OwnsA; rw [cellsA_snoc, List.length_append]; exact HOWN.out
        refine ⟨⟨j + 1, by omega, by go_num, by rw [HS2.out, HSN.out]; exact hof9, r9, hx9⟩, by simp only [intOf]; omega⟩
      · rw [if_neg hm] at hsn
        have hdf : (decide (x.k = k) && (decide (x.i = i) && decide (x.g = g))) = false := by
          cases hd : (decide (x.k = k) && (decide (x.i = i) && decide (x.g = g))) with
          | false => rfl
          | true => exact absurd (by simpa using hd) hm
        rw [hdf] at qe
        have HSN := Lib.hid hsn
        clear hsn hm hdf
        go_upto_region 6 with fail
        refine wp_region_held_drew (S := fun W' => (∀ t, W'.cell? ⟨w.heap.size, t, none⟩ = (#[.int .i64 k, .int .i64 i, .int .u32 g] : Array Value)[t]?) ∧ W'.cell? ⟨b, off + j * 6 + 1, none⟩ = some (.int .i64 x.k) ∧ W'.cell? ⟨b, off + j * 6 + 2, none⟩ = some (.int .i64 x.i) ∧ W'.cell? ⟨b, off + j * 6 + 3, none⟩ = some (.int .u32 x.g)) (by kernel_rfl) ⟨r1.cell, d1, d2, d3⟩ (fun hHeld => ?_)
        replace r1 := r1.drew
        replace hof := OwnsA.drew hof
        replace hx := hx.drew
        have hcell2 : ∀ t, t < 6 → wr.drew.cell? ⟨b, off + j * 6 + t, none⟩ = (atL x)[t]? := hcell j x hx2
        clear d0 d1 d2 d3 d4 d5 hcell hx2
        generalize wr.drew = W3 at *
        refine' wpAnyH_take (i := 0) (oi := _) (v := _) ?_ (by kernel_rfl) (by kernel_rfl) (by kernel_rfl) ?_ (Or.inl ⟨?_, ?_⟩) (by assumption) ?_
        rotate_left 2
        · (simp only [List.getElem?_toArray, List.getElem?_cons_succ, List.getElem?_cons_zero]; rfl)
        · first | exact fun _ _ _ h => h | exact fun _ _ _ h => nomatch h.1
        · rfl
        · (intro W hSW; (try dsimp only at hSW); go_split_ands; first | (go_simp; done) | (go_simp; with_reducible rfl))
        try simp only [Act.put, List.setIfInBounds_toArray, List.set_cons_zero, List.set_cons_succ]
        refine' wpAnyH_take (i := 1) (oi := _) (v := _) ?_ (by kernel_rfl) (by kernel_rfl) (by kernel_rfl) ?_ (Or.inl ⟨?_, ?_⟩) (by assumption) ?_
        rotate_left 2
        · (simp only [List.getElem?_toArray, List.getElem?_cons_succ, List.getElem?_cons_zero]; rfl)
        · first | exact fun _ _ _ h => h | exact fun _ _ _ h => nomatch h.1
        · rfl
        · (intro W hSW; (try dsimp only at hSW); go_split_ands; first | (go_simp; done) | (go_simp; with_reducible rfl))
        try simp only [Act.put, List.setIfInBounds_toArray, List.set_cons_zero, List.set_cons_succ]
        refine' wpAnyH_take (i := 2) (oi := _) (v := _) ?_ (by kernel_rfl) (by kernel_rfl) (by kernel_rfl) ?_ (Or.inl ⟨?_, ?_⟩) (by assumption) ?_
        rotate_left 2
        · (simp only [List.getElem?_toArray, List.getElem?_cons_succ, List.getElem?_cons_zero]; rfl)
        · first | exact fun _ _ _ h => h | exact fun _ _ _ h => nomatch h.1
        · rfl
        · (intro W hSW; (try dsimp only at hSW); go_split_ands; first | (go_simp; done) | (go_simp; with_reducible rfl))
        try simp only [Act.put, List.setIfInBounds_toArray, List.set_cons_zero, List.set_cons_succ]
        refine' wpAnyH_take (i := 3) (oi := _) (v := _) ?_ (by kernel_rfl) (by kernel_rfl) (by kernel_rfl) ?_ (Or.inl ⟨?_, ?_⟩) (by assumption) ?_
        rotate_left 2
        · (simp only [List.getElem?_toArray, List.getElem?_cons_succ, List.getElem?_cons_zero]; rfl)
        · first | exact fun _ _ _ h => h | exact fun _ _ _ h => nomatch h.1
        · rfl
        · (intro W hSW; (try dsimp only at hSW); go_split_ands; first | (go_simp; done) | (go_simp; with_reducible rfl))
        try simp only [Act.put, List.setIfInBounds_toArray, List.set_cons_zero, List.set_cons_succ]
        refine' wpAnyH_take (i := 4) (oi := _) (v := _) ?_ (by kernel_rfl) (by kernel_rfl) (by kernel_rfl) ?_ (Or.inl ⟨?_, ?_⟩) (by assumption) ?_
        rotate_left 2
        · (simp only [List.getElem?_toArray, List.getElem?_cons_succ, List.getElem?_cons_zero]; rfl)
        · first | exact fun _ _ _ h => h | exact fun _ _ _ h => nomatch h.1
        · rfl
        · (intro W hSW; (try dsimp only at hSW); go_split_ands; first | (go_simp; done) | (go_simp; with_reducible rfl))
        try simp only [Act.put, List.setIfInBounds_toArray, List.set_cons_zero, List.set_cons_succ]
        refine' wpAnyH_take (i := 5) (oi := _) (v := _) ?_ (by kernel_rfl) (by kernel_rfl) (by kernel_rfl) ?_ (Or.inl ⟨?_, ?_⟩) (by assumption) ?_
        rotate_left 2
        · (simp only [List.getElem?_toArray, List.getElem?_cons_succ, List.getElem?_cons_zero]; rfl)
        · first | exact fun _ _ _ h => h | exact fun _ _ _ h => nomatch h.1
        · rfl
        · (intro W hSW; (try dsimp only at hSW); go_split_ands; first | (go_simp; done) | (go_simp; with_reducible rfl))
        try simp only [Act.put, List.setIfInBounds_toArray, List.set_cons_zero, List.set_cons_succ]
        refine' wpAnyH_take (i := 6) (oi := _) (v := _) ?_ (by kernel_rfl) (by kernel_rfl) (by kernel_rfl) ?_ (Or.inl ⟨?_, ?_⟩) (by assumption) ?_
        rotate_left 2
        · (simp only [List.getElem?_toArray, List.getElem?_cons_succ, List.getElem?_cons_zero]; rfl)
        · first | exact fun _ _ _ h => h | exact fun _ _ _ h => nomatch h.1
        · rfl
        · (intro W hSW; (try dsimp only at hSW); go_split_ands; first | (go_simp; done) | (go_simp; with_reducible rfl))
        try simp only [Act.put, List.setIfInBounds_toArray, List.set_cons_zero, List.set_cons_succ]
        clear hHeld qe
        refine wpAnyH_done (by kernel_rfl) ?_ _
        obtain ⟨d0, d1, d2, d3, d4, d5⟩ := HoldsA.six hcell2
        clear hcell2
        clear d0 d1 d2 d3 d4 d5
        go_wp2_with fail
        refine ⟨⟨j + 1, by omega, by go_num, by rw [HS2.out, HSN.out]; exact hof, r1, hx⟩, by simp only [intOf]; omega⟩
    · obtain rfl : j = l.length := by omega
      rw [List.take_of_length_le (Nat.le_refl _)] at hof
      have HOF := Lib.hid (OwnsA.base hof HC.out.size)
      clear hof
      go_wp2_with fail
      go_returns
      exact ⟨_, rfl, HOF.out, chain HC.out hx⟩
theorem rlen_c {w : World} {q : Nat} {v : Value} {l : List AtR} (h : Row w q #[.bool true, v] RLT) (hv : HoldsA w v l) (hl : l.length ≤ 100000) : Ret 42 #[ledP q] w (.int .i64 l.length) := by
  go_enter Tryz.func42, Tryz.ntmps42
  go_wp2_with fail
  refine Calls.mono (rall_c h hv hl) ?_
  rintro e V2 ⟨u, rfl, hu, hn⟩
  obtain ⟨p0, c0, rfl⟩ := (OwnsA.holds hu).len
  clear hu
  go_wp2_with fail
  go_returns
  exact ⟨rfl, hn⟩
theorem rfirst_c {w : World} {q : Nat} {v : Value} {l : List AtR} (k i g : Int) (h : Row w q #[.bool true, v] RLT) (hv : HoldsA w v l) (hl : l.length ≤ 100000) : Ret 39 #[ledP q, oV k i g] w (.tuple #[atV (((ofL k i g l).find? qAll).getD at0), .bool ((ofL k i g l).find? qAll).isSome]) := by
  go_enter Tryz.func39, Tryz.ntmps39
  go_upto_region 1 with fail
  have r1 := Row.new (W := w) (cs := #[.int .i64 k, .int .i64 i, .int .u32 g]) (t := 41)
  have hc := below_alloc w (.cells #[.int .i64 k, .int .i64 i, .int .u32 g] 41)
  have hs1 : (w.alloc (.cells #[.int .i64 k, .int .i64 i, .int .u32 g] 41)).heap.size = w.heap.size + 1 := by simp
  replace h := h.on hc
  replace hv := hv.on hc
  generalize w.alloc (.cells #[.int .i64 k, .int .i64 i, .int .u32 g] 41) = V1 at *
  have r2 := Row.new (W := V1) (cs := #[.int .i64 0, .int .i64 0, .int .i64 0, .int .u32 0, .int .i64 0, .int .i64 0]) (t := 43)
  have hn := below_alloc V1 (.cells #[.int .i64 0, .int .i64 0, .int .i64 0, .int .u32 0, .int .i64 0, .int .i64 0] 43)
  rw [hs1] at r2
  replace h := h.on hn
  replace hv := hv.on hn
  replace r1 := r1.on hn
  replace hc := chain hc hn
  generalize V1.alloc (.cells #[.int .i64 0, .int .i64 0, .int .i64 0, .int .u32 0, .int .i64 0, .int .i64 0] 43) = V2 at *
  clear hn hs1
  have y1 := r1.cell
  have z1 := r1.lt
  go_wp2_with fail
  refine Calls.mono (rof_c k i g h hv hl) ?_
  rintro e V3 ⟨u, rfl, hu, hn⟩
  replace r2 := r2.on hn
  replace hc := chain hc hn
  clear h hv hn y1 z1 r1
  generalize hS : ofL k i g l = S at *
  have hh := OwnsA.holds hu
  have HS := Lib.hid hS
  clear hS
  clear hu
  have y2 := r2.cell
  have z2 := r2.lt
  have u2 := r2.free
  cases S with
  | nil =>
    obtain ⟨p0, c0, rfl⟩ := hh.len
    clear hh
    go_wp2_with fail
    clear y2 z2 u2
    replace r2 := r2.set 0 (.int .i64 0)
    replace r2 := r2.set 1 (.int .i64 0)
    replace r2 := r2.set 2 (.int .i64 0)
    replace r2 := r2.set 3 (.int .u32 0)
    replace r2 := r2.set 4 (.int .i64 0)
    replace r2 := r2.set 5 (.int .i64 0)
    replace hc := hc.setCell (p := ⟨w.heap.size + 1, 0, none⟩) (Nat.le_succ _) (.int .i64 0)
    replace hc := hc.setCell (p := ⟨w.heap.size + 1, 1, none⟩) (Nat.le_succ _) (.int .i64 0)
    replace hc := hc.setCell (p := ⟨w.heap.size + 1, 2, none⟩) (Nat.le_succ _) (.int .i64 0)
    replace hc := hc.setCell (p := ⟨w.heap.size + 1, 3, none⟩) (Nat.le_succ _) (.int .u32 0)
    replace hc := hc.setCell (p := ⟨w.heap.size + 1, 4, none⟩) (Nat.le_succ _) (.int .i64 0)
    replace hc := hc.setCell (p := ⟨w.heap.size + 1, 5, none⟩) (Nat.le_succ _) (.int .i64 0)
    simp only [List.setIfInBounds_toArray, List.set_cons_zero, List.set_cons_succ] at r2
    generalize hW : World.setCell _ _ _ = Z at *
    clear hW
    have z := r2.cell
    refine bodyPost_ret (v := .tuple #[atV at0, .bool false]) (by simp [results, Tryz.results39, go_sem, z]) rfl ⟨by rw [HS.out]; rfl, hc⟩
  | cons x r =>
    rcases hh with ⟨-, h0⟩ | ⟨b, off, c, rfl, hcell⟩
    · cases h0
    obtain ⟨d0, d1, d2, d3, d4, d5⟩ := HoldsA.head (.inr ⟨b, off, c, rfl, hcell⟩)
    clear hcell
    go_wp2_with fail
    clear y2 z2 u2
    replace r2 := r2.set 0 (.int .i64 x.at_)
    replace r2 := r2.set 1 (.int .i64 x.k)
    replace r2 := r2.set 2 (.int .i64 x.i)
    replace r2 := r2.set 3 (.int .u32 x.g)
    replace r2 := r2.set 4 (.int .i64 x.why)
    replace r2 := r2.set 5 (.int .i64 x.ans)
    replace hc := hc.setCell (p := ⟨w.heap.size + 1, 0, none⟩) (Nat.le_succ _) (.int .i64 x.at_)
    replace hc := hc.setCell (p := ⟨w.heap.size + 1, 1, none⟩) (Nat.le_succ _) (.int .i64 x.k)
    replace hc := hc.setCell (p := ⟨w.heap.size + 1, 2, none⟩) (Nat.le_succ _) (.int .i64 x.i)
    replace hc := hc.setCell (p := ⟨w.heap.size + 1, 3, none⟩) (Nat.le_succ _) (.int .u32 x.g)
    replace hc := hc.setCell (p := ⟨w.heap.size + 1, 4, none⟩) (Nat.le_succ _) (.int .i64 x.why)
    replace hc := hc.setCell (p := ⟨w.heap.size + 1, 5, none⟩) (Nat.le_succ _) (.int .i64 x.ans)
    simp only [List.setIfInBounds_toArray, List.set_cons_zero, List.set_cons_succ] at r2
    generalize hW : World.setCell _ _ _ = Z at *
    clear hW
    have z := r2.cell
    refine bodyPost_ret (v := .tuple #[atV x, .bool true]) (by simp [results, Tryz.results39, go_sem, z]) rfl ⟨by rw [HS.out]; rfl, hc⟩
theorem find_at {l : List AtR} {j : Nat} (h : j < l.length) (hn : (l.take j).find? qEnd = none) (hq : qEnd l[j] = true) : l.find? qEnd = some l[j] := by
  have e : l = l.take j ++ l[j] :: l.drop (j + 1) := by rw [← List.drop_eq_getElem_cons h, List.take_append_drop]
  have e2 : l.find? qEnd = (l.take j ++ l[j] :: l.drop (j + 1)).find? qEnd := by rw [← e]
  rw [e2, List.find?_append, hn, Option.none_or, List.find?_cons_of_pos hq]
theorem rended_c {w : World} {q : Nat} {v : Value} {l : List AtR} (k i g : Int) (h : Row w q #[.bool true, v] RLT) (hv : HoldsA w v l) (hl : l.length ≤ 100000) : Ret 40 #[ledP q, oV k i g] w (.tuple #[.int .i64 (((ofL k i g l).find? qEnd).getD at0).ans, .bool ((ofL k i g l).find? qEnd).isSome]) := by
  go_enter Tryz.func40, Tryz.ntmps40
  go_upto_region 1 with fail
  have r1 := Row.new (W := w) (cs := #[.int .i64 k, .int .i64 i, .int .u32 g]) (t := 41)
  have hc := below_alloc w (.cells #[.int .i64 k, .int .i64 i, .int .u32 g] 41)
  replace h := h.on hc
  replace hv := hv.on hc
  generalize w.alloc (.cells #[.int .i64 k, .int .i64 i, .int .u32 g] 41) = V1 at *
  have y1 := r1.cell
  have z1 := r1.lt
  go_wp2_with fail
  refine Calls.mono (rof_c k i g h hv hl) ?_
  rintro e V2 ⟨u, rfl, hu, hn⟩
  have hSl : (ofL k i g l).length ≤ 100000 := Nat.le_trans (ofL_len _ _ _ _) hl
  replace hc := chain hc hn
  clear h hv hn y1 z1 r1
  generalize hS : ofL k i g l = S at *
  have HS := Lib.hid hS
  clear hS
  have HH := Lib.hid (OwnsA.holds hu)
  obtain ⟨p0, c0, rfl⟩ := HH.out.len
  clear hu
  obtain ⟨N, hN⟩ : ∃ N, S.length = N := ⟨_, rfl⟩
  have HN := Lib.hid hN
  rw [hN] at HH hSl ⊢
  clear hN
  go_wp2_with fail
  go_loop [7] (fun iv => ∃ j : Nat, j ≤ N ∧ iv = .int .i64 j ∧ RowKit.Hid ((S.take j).find? qEnd = none)) (fun iv => N - (intOf iv).toNat)
  case atStart => exact ⟨0, Nat.zero_le _, rfl, Lib.hid rfl⟩
  case round =>
    obtain ⟨j, hj, rfl, hno⟩ := hrel
    by_cases hlt : j < N
    · have hjl : j < S.length := by rw [HN.out]; exact hlt
      rcases HH.out with ⟨-, h0⟩ | ⟨b, off, c, hve, hcell⟩
      · rw [h0] at hjl; simp at hjl
      simp only [Value.slice.injEq] at hve
      obtain ⟨rfl, -, rfl⟩ := hve
      obtain ⟨d0, d1, d2, d3, d4, d5⟩ := HoldsA.six (hcell j S[j] (List.getElem?_eq_getElem hjl))
      have hfa := find_at hjl hno.out
      have hfn : qEnd S[j] = false → (S.take (j + 1)).find? qEnd = none := fun hq => by
        rw [List.take_succ_eq_append_getElem hjl, List.find?_append, hno.out]
        simp [hq]
      have HFA := Lib.hid hfa
      have HFN := Lib.hid hfn
      clear hfa hfn hcell hno
      generalize S[j] = x at *
      by_cases h2 : x.ans = 2
      · have HNO := Lib.hid (HFN.out (by unfold qEnd; rw [h2]; rfl))
        have f1 : (x.ans != 2) = false := by rw [h2]; rfl
        clear h2
        go_wp2_with fail
        go_round
        case rel => exact ⟨j + 1, by omega, by go_num, HNO⟩
        case measure => simp [intOf]; omega
      · have HF := Lib.hid (HFA.out (by unfold qEnd; exact decide_eq_true h2))
        have f1 : (x.ans != 2) = true := by rw [bne_iff_ne]; exact h2
        clear h2
        go_wp2_with fail
        go_returns
        exact ⟨by rw [HS.out, HF.out]; rfl, hc⟩
    · obtain rfl : j = N := by omega
      have h0 := hno.out
      rw [List.take_of_length_le (by rw [HN.out]; exact Nat.le_refl _)] at h0
      have H0 := Lib.hid h0
      clear h0
      go_wp2_with fail
      go_returns
      exact ⟨by rw [HS.out, H0.out]; rfl, hc⟩
end Go.Proofs.YtinlfheonlpceaaGreatDoor
