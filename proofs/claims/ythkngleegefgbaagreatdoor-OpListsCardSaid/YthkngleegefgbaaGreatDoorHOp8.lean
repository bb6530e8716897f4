/- The program's Parse of operations: its contract. -/
import Derived.Test.YthkngleegefgbaaGreatDoorHOp7
namespace Go.Proofs.YthkngleegefgbaaGreatDoor
open Go.RowKit
set_option linter.unusedVariables false
set_option linter.unusedSimpArgs false
set_option maxHeartbeats 40000000
set_option maxRecDepth 20000
theorem cutO_c (s : ByteArray) (c : UInt8) (w : World) (hE : Env w) (hs : s.size ≤ 100000) :
    Ret 34 #[.string s, .string ⟨#[c]⟩] w (.tuple #[.string ⟨(Lib.cut s.data.toList [c]).1.toArray⟩, .string ⟨(Lib.cut s.data.toList [c]).2.1.toArray⟩, .bool (Lib.cut s.data.toList [c]).2.2]) :=
  (Tryz.strings_Cut_shaped s ⟨#[c]⟩ w hE.shp (by omega)).mono fun e w' ⟨he, n, hw⟩ => ⟨he, by rw [hw]; exact below_drewN (Below.refl _ _) n⟩
/-- A space ahead. -/
theorem hp_yes (s : ByteArray) (r : List UInt8) (h : s.data.toList = 32 :: r) (w : World) : Calls Tryz.prog 63 #[.string s, .string ⟨#[32]⟩] w fun e w' => e = .returned (.bool true) ∧ w' = w := by
  have c := Tryz.stringslite_HasPrefix s ⟨#[32]⟩ w
  rw [show (⟨#[32]⟩ : ByteArray).data.toList = [32] from rfl, h] at c
  exact c
theorem hp_no (s : ByteArray) (h : ∀ r, s.data.toList ≠ 32 :: r) (w : World) : Calls Tryz.prog 63 #[.string s, .string ⟨#[32]⟩] w fun e w' => e = .returned (.bool false) ∧ w' = w := by
  have c := Tryz.stringslite_HasPrefix s ⟨#[32]⟩ w
  rw [show (⟨#[32]⟩ : ByteArray).data.toList = [32] from rfl] at c
  have e : Lib.hasPrefix s.data.toList [32] = false := by
    unfold Lib.hasPrefix
    cases hh : s.data.toList with
    | nil => rfl
    | cons a l =>
      have : a ≠ 32 := fun e => h l (by rw [hh, e])
      simp [List.isPrefixOf]
      exact fun e => this e.symm
  rw [e] at c
  exact c
theorem pre_yes (s : ByteArray) (r : List UInt8) (h : s.data.toList = 32 :: r) (hs : s.size ≤ 100000) (w : World) : Calls Tryz.prog 38 #[.string s, .string ⟨#[32]⟩] w fun e w' => e = .returned (.tuple #[.string ⟨r.toArray⟩, .bool true]) ∧ w' = w := by
  have c := hp_yes s r h
  have hl : (1 : Int) ≤ s.size := by rw [← len_bytes, h]; simp; omega
  have e1 : s.extract 1 s.size = ⟨r.toArray⟩ := by
    apply str_ext
    rw [Lib.extract_to_end, h]
    simp
  have C := Lib.hid c
  clear c h
  generalize (⟨r.toArray⟩ : ByteArray) = t at *
  have c2 : ∀ w, Calls Tryz.prog 65 #[.string s, .string ⟨#[32]⟩] w fun e w' => e = .returned (.tuple #[.string t, .bool true]) ∧ w' = w := fun w => by
    go_enter Tryz.func65, Tryz.ntmps65
    go_wp2_with fail
    refine Calls.mono (C.out _) ?_
    rintro e w1 ⟨rfl, rfl⟩
    go_wp2_with fail
    go_returns
    exact ⟨by simp [e1], rfl⟩
  have C2 := Lib.hid c2
  clear c2 C
  go_enter Tryz.func38, Tryz.ntmps38
  go_wp2_with fail
  refine Calls.mono (C2.out _) ?_
  rintro e w1 ⟨rfl, rfl⟩
  go_wp2_with fail
  go_returns
  exact ⟨rfl, rfl⟩
theorem pre_no (s : ByteArray) (h : ∀ r, s.data.toList ≠ 32 :: r) (hs : s.size ≤ 100000) (w : World) : Calls Tryz.prog 38 #[.string s, .string ⟨#[32]⟩] w fun e w' => e = .returned (.tuple #[.string s, .bool false]) ∧ w' = w := by
  have c := hp_no s h
  have C := Lib.hid c
  clear c h
  have c2 : ∀ w, Calls Tryz.prog 65 #[.string s, .string ⟨#[32]⟩] w fun e w' => e = .returned (.tuple #[.string s, .bool false]) ∧ w' = w := fun w => by
    go_enter Tryz.func65, Tryz.ntmps65
    go_wp2_with fail
    refine Calls.mono (C.out _) ?_
    rintro e w1 ⟨rfl, rfl⟩
    go_wp2_with fail
    go_returns
    exact ⟨rfl, rfl⟩
  have C2 := Lib.hid c2
  clear c2 C
  go_enter Tryz.func38, Tryz.ntmps38
  go_wp2_with fail
  refine Calls.mono (C2.out _) ?_
  rintro e w1 ⟨rfl, rfl⟩
  go_wp2_with fail
  go_returns
  exact ⟨rfl, rfl⟩
def ParseP (s : ByteArray) (e : Ending) : Prop := (∃ (kd : Int) (x : Fl), x.ok kd ∧ opL kd x.m x.a x.b x.c x.tag.data.toList = s.data.toList ∧ e = .returned (.tuple #[flV kd x, .int .i64 0])) ∨ ((∀ (kd : Int) (x : Fl), x.ok kd → opL kd x.m x.a x.b x.c x.tag.data.toList ≠ s.data.toList) ∧ e = .returned (.tuple #[op0V, .int .i64 9]))
theorem parse_c (s : ByteArray) (w : World) (hE : EnvL w) (hs : s.size ≤ 100000) : Calls Tryz.prog 15 #[.string s] w fun e w' => ParseP s e ∧ Below w.heap.size w w' := by
  obtain ⟨n, hn, hns, -, sp, -⟩ := head_ends s
  have cu := fun W hW => cutO_c s 32 W hW hs
  obtain ⟨q, hq⟩ : ∃ q, q = (⟨(Lib.cut s.data.toList [32]).2.1.toArray⟩ : ByteArray) := ⟨_, rfl⟩
  obtain ⟨f, hf⟩ : ∃ f, f = (Lib.cut s.data.toList [32]).2.2 := ⟨_, rfl⟩
  rw [← hq, ← hf] at cu
  change ∀ W, Env W → Ret 34 #[.string s, .string ⟨#[32]⟩] W (.tuple #[.string ⟨(hdW s.data.toList).toArray⟩, .string q, .bool f]) at cu
  obtain ⟨wd, hwd⟩ : ∃ wd, wd = (⟨(hdW s.data.toList).toArray⟩ : ByteArray) := ⟨_, rfl⟩
  have hwl : wd.data.toList = hdW s.data.toList := by rw [hwd]
  have hws : wd.size = n := by rw [← len_bytes, hwl, hn]
  obtain ⟨R0, hR0⟩ : ∃ R0, R0 = (⟨(s.data.toList.drop n).toArray⟩ : ByteArray) := ⟨_, rfl⟩
  have hRl : R0.data.toList = s.data.toList.drop (hdW s.data.toList).length := by rw [hR0, ← hn]
  rw [← hR0] at sp
  rw [← hwd] at cu
  have hRs : R0.size ≤ 100000 := by
    have h1 := len_bytes R0
    have h2 := len_bytes s
    rw [hRl, List.length_drop] at h1
    omega
  have CU := Lib.hid cu
  have HWL := Lib.hid hwl
  have HRL := Lib.hid hRl
  have HE := Lib.hid hE
  have hq1 : (wd.size : Int) ≤ s.size := by omega
  rw [← hws] at sp
  clear cu hq hf hwd hwl hR0 hRl hE hn hns hws
  have hc := Below.refl w.heap.size w
  go_enter Tryz.func15, Tryz.ntmps15
  go_upto_region 1 with fail
  have r2 := Row.new (W := w) (cs := (opC 0 0 0 0 0 ⟨#[]⟩)) (t := 23)
  have hn := below_alloc w (.cells (opC 0 0 0 0 0 ⟨#[]⟩) 23)
  have wr2 : w.heap.size ≤ w.heap.size := hc.size
  replace hc := chain hc hn
  clear hn
  generalize w.alloc (.cells (opC 0 0 0 0 0 ⟨#[]⟩) 23) = V1 at r2 hc ⊢
  have yr2 := r2.cell
  have zr2 := r2.lt
  go_wp2_with fail
  refine Calls.mono (CU.out _ (HE.out.on hc).toEnvP.toEnv) ?_
  rintro e V2 ⟨rfl, hn⟩
  clear yr2 zr2
  replace r2 := r2.on hn
  replace hc := chain hc hn
  clear hn
  have yr2 := r2.cell
  have zr2 := r2.lt
  go_upto_region 2 with fail
  clear yr2 zr2
  have r4 := Row.new (W := V2) (cs := #[.string wd]) (t := 9)
  have hn := below_alloc V2 (.cells #[.string wd] 9)
  have nr2_r4 : w.heap.size ≠ V2.heap.size := Nat.ne_of_lt r2.lt
  have wr4 : w.heap.size ≤ V2.heap.size := hc.size
  replace r2 := r2.on hn
  replace hc := chain hc hn
  clear hn
  generalize V2.alloc (.cells #[.string wd] 9) = V3 at r2 r4 hc ⊢
  generalize V2.heap.size = b4 at *
  have yr2 := r2.cell
  have zr2 := r2.lt
  have yr4 := r4.cell
  have zr4 := r4.lt
  go_wp2_with fail
  clear yr2 yr4 zr2 zr4
  refine Calls.mono (op_shapes_c _) ?_
  rintro e W7 ⟨rfl, hW⟩
  subst W7
  have rs := Row.new (W := V3) (cs := shCells) (t := 44)
  have hn := below_alloc V3 (.cells shCells 44)
  replace r2 := r2.on hn
  replace r4 := r4.on hn
  replace hc := chain hc hn
  clear hn
  generalize V3.alloc (.cells shCells 44) = V4 at rs r2 r4 hc ⊢
  generalize V3.heap.size = bs at *
  have yr2 := r2.cell
  have zr2 := r2.lt
  have yr4 := r4.cell
  have zr4 := r4.lt
  have yrs := rs.cell
  have zrs := rs.lt
  go_wp2_with fail
  clear yr2 yr4 yrs zr2 zr4 zrs
  refine Calls.mono (ixf_c wd b4 bs _ r4 rs) ?_
  rintro e V5 ⟨⟨kd, rfl, hkd⟩, hn⟩
  replace r2 := r2.on hn
  replace r4 := r4.on hn
  replace rs := rs.on hn
  replace hc := chain hc hn
  clear hn
  clear rs
  have HKD := Lib.hid hkd
  clear hkd
  have yr2 := r2.cell
  have zr2 := r2.lt
  have yr4 := r4.cell
  have zr4 := r4.lt
  go_upto_region 3 with fail
  clear yr2 yr4 zr2 zr4
  have r7 := Row.new (W := V5) (cs := #[.int .i64 kd, .int .i64 0, .int .i64 0, .int .i64 0, .int .i64 0, .string ⟨#[]⟩]) (t := 23)
  have hn := below_alloc V5 (.cells #[.int .i64 kd, .int .i64 0, .int .i64 0, .int .i64 0, .int .i64 0, .string ⟨#[]⟩] 23)
  have nr2_r7 : w.heap.size ≠ V5.heap.size := Nat.ne_of_lt r2.lt
  have nr4_r7 : b4 ≠ V5.heap.size := Nat.ne_of_lt r4.lt
  have wr7 : w.heap.size ≤ V5.heap.size := hc.size
  replace r2 := r2.on hn
  replace r4 := r4.on hn
  replace hc := chain hc hn
  clear hn
  generalize V5.alloc (.cells #[.int .i64 kd, .int .i64 0, .int .i64 0, .int .i64 0, .int .i64 0, .string ⟨#[]⟩] 23) = V6 at r2 r4 r7 hc ⊢
  generalize V5.heap.size = b7 at *
  have yr2 := r2.cell
  have zr2 := r2.lt
  have yr4 := r4.cell
  have zr4 := r4.lt
  have yr7 := r7.cell
  have zr7 := r7.lt
  go_wp2_with fail
  refine Calls.mono (of_c kd _) ?_
  rintro e V7 ⟨rfl, hn⟩
  clear yr2 yr4 yr7 zr2 zr4 zr7
  replace r2 := r2.on hn
  replace r4 := r4.on hn
  replace r7 := r7.on hn
  replace hc := chain hc hn
  clear hn
  have yr2 := r2.cell
  have zr2 := r2.lt
  have yr4 := r4.cell
  have zr4 := r4.lt
  have yr7 := r7.cell
  have zr7 := r7.lt
  go_upto_region 5 with fail
  clear yr2 yr4 yr7 zr2 zr4 zr7
  have r9 := Row.new (W := V7) (cs := #[.string (wordB kd), .string (partsB kd)]) (t := 44)
  have hn := below_alloc V7 (.cells #[.string (wordB kd), .string (partsB kd)] 44)
  have nr2_r9 : w.heap.size ≠ V7.heap.size := Nat.ne_of_lt r2.lt
  have nr4_r9 : b4 ≠ V7.heap.size := Nat.ne_of_lt r4.lt
  have nr7_r9 : b7 ≠ V7.heap.size := Nat.ne_of_lt r7.lt
  have wr9 : w.heap.size ≤ V7.heap.size := hc.size
  replace r2 := r2.on hn
  replace r4 := r4.on hn
  replace r7 := r7.on hn
  replace hc := chain hc hn
  clear hn
  generalize V7.alloc (.cells #[.string (wordB kd), .string (partsB kd)] 44) = V8 at r2 r4 r7 r9 hc ⊢
  generalize V7.heap.size = b9 at *
  have yr2 := r2.cell
  have zr2 := r2.lt
  have yr4 := r4.cell
  have zr4 := r4.lt
  have yr7 := r7.cell
  have zr7 := r7.lt
  have yr9 := r9.cell
  have zr9 := r9.lt
  go_wp2_with fail
  clear yr2 yr4 yr7 yr9 zr2 zr4 zr7 zr9
  have hbi : w.heap.size ≤ V8.heap.size := hc.size
  have it := It.new V8 (partsB kd)
  have hn := below_iter V8 (partsB kd)
  replace r2 := r2.on hn
  replace r4 := r4.on hn
  replace r7 := r7.on hn
  replace r9 := r9.on hn
  replace hc := chain hc hn
  clear hn
  generalize V8.iter (partsB kd) 0 = V9 at it r2 r4 r7 r9 hc ⊢
  generalize V8.heap.size = bi at *
  rcases HKD.out with ⟨hk, hwk⟩ | ⟨hk, hno⟩
  · rw [inB_iff.2 hk]
    have hps : (partsB kd).data.toList = partsK kd := by simp [partsB]
    have hpl := len_bytes (partsB kd)
    rw [hps] at hpl
    have hbad : (∀ y : Fl, y.ok kd → R0.data.toList ≠ tailL ((partsK kd).map (txt · y))) → ∀ (kd2 : Int) (x : Fl), x.ok kd2 → opL kd2 x.m x.a x.b x.c x.tag.data.toList ≠ s.data.toList := fun hh kd2 x hx h => by
      have e1 := word_of hx h
      have e2 := rest_of hx h
      rw [← HRL.out] at e2
      obtain rfl : kd = kd2 := word_inj hk (opOk_iff.1 hx).1 (by rw [hwk, HWL.out, e1])
      exact hh x hx e2
    have hgood : ∀ x : Fl, x.ok kd → R0.data.toList = tailL ((partsK kd).map (txt · x)) → opL kd x.m x.a x.b x.c x.tag.data.toList = s.data.toList := fun x hx h => by
      rw [isO_word hx, ← h, HRL.out, hwk, HWL.out]
      exact (hdW_pre _).symm
    have HPS := Lib.hid hps
    have HBAD := Lib.hid hbad
    have HGOOD := Lib.hid hgood
    have HK := Lib.hid hk
    clear hps hbad hgood hwk hk
    generalize partsB kd = ps at *
    generalize wordB kd = wk at *
    go_loopw [8, 10] (fun rv ov wr => ∃ (j : Nat) (x : Fl) (rest : ByteArray) (ok : Bool), j ≤ ps.size ∧ rv = .string rest ∧ ov = .bool ok ∧ PInv kd R0.data.toList j x rest.data.toList ok ∧ Row wr w.heap.size (opC 0 0 0 0 0 ⟨#[]⟩) 23 ∧ Row wr b7 (flC kd x) 23 ∧ Row wr b9 #[.string wk, .string ps] 44 ∧ It wr bi ps j ∧ Below w.heap.size w wr) (fun _ _ wr => ps.size - posOf wr bi)
    case atStart => exact ⟨0, fl0, R0, true, Nat.zero_le _, rfl, rfl, pinv_0 _ _, r2, (show Row _ b7 (flC kd fl0) _ from r7), r9, it, hc⟩
    case round =>
      clear r2 r4 r7 r9 it hc
      obtain ⟨j, x, rest, ok, hj, rfl, rfl, hpi, r2, r7, r9, it, hc⟩ := hrel
      have hts0 : x.tag.size ≤ 1000000 := by
        have h2 := len_bytes R0
        have h3 := hpi.tsz
        omega
      have hrs : rest.size ≤ 100000 := by
        have h1 := len_bytes rest
        have h2 := len_bytes R0
        have h3 := hpi.len
        omega
      have HPI := Lib.hid hpi
      clear hpi
      have hpw := it.pos
      rcases Nat.lt_or_ge j ps.size with hlt | hge
      · have hjl : j < (partsK kd).length := by omega
        have hch : (partsK kd)[j] = ps[j] := by
          have e := HPS.out
          have e2 : ps.data.toList[j]? = (partsK kd)[j]? := by rw [e]
          rw [List.getElem?_eq_getElem hjl] at e2
          have e3 : ps.data.toList[j]? = some ps[j] := by rw [List.getElem?_eq_getElem (by rw [len_bytes]; exact hlt)]; rfl
          rw [e3] at e2
          injection e2 with e2
          exact e2.symm
        have hlet : ps[j] ∈ lettersL := parts_letters kd _ (by rw [← hch]; exact List.getElem_mem hjl)
        have hn128 : ps[j].toNat < 128 := by
          have key : ∀ c ∈ lettersL, c.toNat < 128 := by decide
          exact key _ hlet
        have hx := it.next hlt ps[j].toNat rfl hn128
        have HJL := Lib.hid hjl
        generalize hCH : ps[j] = ch at *
        clear hCH
        have yr2 := r2.cell
        have zr2 := r2.lt
        have yr7 := r7.cell
        have zr7 := r7.lt
        have yr9 := r9.cell
        have zr9 := r9.lt
        go_upto_region 9 with fail
        clear yr2 yr7 yr9 zr2 zr7 zr9
        clear hx
        replace r2 := r2.iter it (j + 1)
        replace r7 := r7.iter it (j + 1)
        replace r9 := r9.iter it (j + 1)
        replace hc := Lib.below_iterAt hc hbi ps (j + 1)
        replace it := it.step (j + 1)
        generalize wr.iterAt bi ps (j + 1) = V10 at it r2 r7 r9 hc ⊢
        by_cases hsp : ∃ t, rest.data.toList = 32 :: t
        · obtain ⟨t, ht⟩ := hsp
          have hpi := HPI.out
          rw [ht] at hpi
          have cp := pre_yes rest t ht hrs
          have hts : (⟨t.toArray⟩ : ByteArray).size ≤ 100000 := by
            have h1 := len_bytes rest
            rw [ht] at h1
            have h2 : (⟨t.toArray⟩ : ByteArray).size = t.length := by show t.toArray.size = _; simp
            simp at h1
            omega
          have htl : (⟨t.toArray⟩ : ByteArray).data.toList = t := by simp
          have CP := Lib.hid cp
          have HPI2 := Lib.hid hpi
          have HTL := Lib.hid htl
          clear cp ht htl hpi HPI
          generalize (⟨t.toArray⟩ : ByteArray) = T at *
          have yr2 := r2.cell
          have zr2 := r2.lt
          have yr7 := r7.cell
          have zr7 := r7.lt
          have yr9 := r9.cell
          have zr9 := r9.lt
          go_wp2_with fail
          refine Calls.mono (CP.out _) ?_
          rintro e W9 ⟨rfl, hW⟩
          subst W9
          clear yr2 yr7 yr9 zr2 zr7 zr9
          have yr2 := r2.cell
          have zr2 := r2.lt
          have yr7 := r7.cell
          have zr7 := r7.lt
          have yr9 := r9.cell
          have zr9 := r9.lt
          go_wp2_with fail
          refine Calls.mono (take_c hlet kd x T hts b7 w _ HE.out.toEnvP hc wr7 r7) ?_
          rintro e W9 ⟨x2, rest2, is, rfl, hmv, htk⟩
          clear yr2 yr7 yr9 zr2 zr7 zr9
          replace r2 := hmv.rowOf r2 nr2_r7
          replace r9 := hmv.rowOf r9 nr7_r9.symm
          replace it := hmv.itOf r7 it
          replace hc := hmv.below _ _ wr7 hc
          replace r7 := hmv.row
          clear hmv
          rw [HTL.out, ← hch] at htk
          have hp2 := pinv_step HK.out HJL.out HPI2.out htk
          have HP2 := Lib.hid hp2
          have HIT := Lib.hid it
          clear hp2 htk hch it HPI2
          cases ok
          · have yr2 := r2.cell
            have zr2 := r2.lt
            have yr7 := r7.cell
            have zr7 := r7.lt
            have yr9 := r9.cell
            have zr9 := r9.lt
            go_wp2_with fail
            clear yr2 yr7 yr9 zr2 zr7 zr9
            have hps9 := HIT.out.pos
            go_roundw
            case rel => exact ⟨j + 1, x2, rest2, _, by omega, rfl, rfl, HP2.out, r2, r7, r9, HIT.out, hc⟩
            case measure => rw [hps9, hpw]; omega
          · have yr2 := r2.cell
            have zr2 := r2.lt
            have yr7 := r7.cell
            have zr7 := r7.lt
            have yr9 := r9.cell
            have zr9 := r9.lt
            go_wp2_with fail
            clear yr2 yr7 yr9 zr2 zr7 zr9
            have hps9 := HIT.out.pos
            go_roundw
            case rel => exact ⟨j + 1, x2, rest2, _, by omega, rfl, rfl, HP2.out, r2, r7, r9, HIT.out, hc⟩
            case measure => rw [hps9, hpw]; omega
        · have hno : ∀ t, rest.data.toList ≠ 32 :: t := fun t ht => hsp ⟨t, ht⟩
          have cp := pre_no rest hno hrs
          have hnn := HBAD.out (pinv_none HJL.out HPI.out hno)
          have CP := Lib.hid cp
          have HNN := Lib.hid hnn
          clear cp hno hsp hnn
          have yr2 := r2.cell
          have zr2 := r2.lt
          have yr7 := r7.cell
          have zr7 := r7.lt
          have yr9 := r9.cell
          have zr9 := r9.lt
          go_wp2_with fail
          refine Calls.mono (CP.out _) ?_
          rintro e W9 ⟨rfl, hW⟩
          subst W9
          clear yr2 yr7 yr9 zr2 zr7 zr9
          have yr2 := r2.cell
          have zr2 := r2.lt
          have yr7 := r7.cell
          have zr7 := r7.lt
          have yr9 := r9.cell
          have zr9 := r9.lt
          have ur2 := r2.free
          go_wp2_with fail
          clear yr2 yr7 yr9 zr2 zr7 zr9 ur2
          replace r2 := r2.set 0 (.int .i64 0)
          replace r2 := r2.set 1 (.int .i64 0)
          replace r2 := r2.set 2 (.int .i64 0)
          replace r2 := r2.set 3 (.int .i64 0)
          replace r2 := r2.set 4 (.int .i64 0)
          replace r2 := r2.set 5 (.string ⟨#[]⟩)
          replace hc := hc.setCell (p := ⟨w.heap.size, 0, none⟩) (Nat.le_refl _) (.int .i64 0)
          replace hc := hc.setCell (p := ⟨w.heap.size, 1, none⟩) (Nat.le_refl _) (.int .i64 0)
          replace hc := hc.setCell (p := ⟨w.heap.size, 2, none⟩) (Nat.le_refl _) (.int .i64 0)
          replace hc := hc.setCell (p := ⟨w.heap.size, 3, none⟩) (Nat.le_refl _) (.int .i64 0)
          replace hc := hc.setCell (p := ⟨w.heap.size, 4, none⟩) (Nat.le_refl _) (.int .i64 0)
          replace hc := hc.setCell (p := ⟨w.heap.size, 5, none⟩) (Nat.le_refl _) (.string ⟨#[]⟩)
          simp only [List.setIfInBounds_toArray, List.set_cons_zero, List.set_cons_succ] at r2
          generalize hW : World.setCell _ _ _ = Z9 at *
          clear hW
          have z9 := r2.cell
          refine bodyPost_ret (v := .tuple #[op0V, .int .i64 9]) (by simp [results, Tryz.results15, go_sem, z9]) rfl ⟨.inr ⟨HNN.out, rfl⟩, hc⟩
      · obtain rfl : j = ps.size := by omega
        have hx := it.done (by omega)
        have hpi := HPI.out
        rw [← hpl] at hpi
        have HPI2 := Lib.hid hpi
        clear hpi HPI
        cases ok
        · have yr2 := r2.cell
          have zr2 := r2.lt
          have yr7 := r7.cell
          have zr7 := r7.lt
          have yr9 := r9.cell
          have zr9 := r9.lt
          have ur2 := r2.free
          go_wp2_with fail
          clear yr2 yr7 yr9 zr2 zr7 zr9 ur2
          replace r2 := r2.set 0 (.int .i64 0)
          replace r2 := r2.set 1 (.int .i64 0)
          replace r2 := r2.set 2 (.int .i64 0)
          replace r2 := r2.set 3 (.int .i64 0)
          replace r2 := r2.set 4 (.int .i64 0)
          replace r2 := r2.set 5 (.string ⟨#[]⟩)
          replace hc := hc.setCell (p := ⟨w.heap.size, 0, none⟩) (Nat.le_refl _) (.int .i64 0)
          replace hc := hc.setCell (p := ⟨w.heap.size, 1, none⟩) (Nat.le_refl _) (.int .i64 0)
          replace hc := hc.setCell (p := ⟨w.heap.size, 2, none⟩) (Nat.le_refl _) (.int .i64 0)
          replace hc := hc.setCell (p := ⟨w.heap.size, 3, none⟩) (Nat.le_refl _) (.int .i64 0)
          replace hc := hc.setCell (p := ⟨w.heap.size, 4, none⟩) (Nat.le_refl _) (.int .i64 0)
          replace hc := hc.setCell (p := ⟨w.heap.size, 5, none⟩) (Nat.le_refl _) (.string ⟨#[]⟩)
          simp only [List.setIfInBounds_toArray, List.set_cons_zero, List.set_cons_succ] at r2
          generalize hW : World.setCell _ _ _ = Z9 at *
          clear hW
          have z9 := r2.cell
          refine bodyPost_ret (v := .tuple #[op0V, .int .i64 9]) (by simp [results, Tryz.results15, go_sem, z9]) rfl ⟨.inr ⟨HBAD.out (pinv_bad HPI2.out (fun h => by cases h.1)), rfl⟩, hc⟩
        · by_cases hre : rest.data.toList = []
          · have hq : rest = ⟨#[]⟩ := str_ext hre
            subst hq
            by_cases hok : x.ok kd
            · have htz := tag_sz hok
              have cc := fun W (hW : EnvL W) => check_c kd x.m x.a x.b x.c x.tag W hW (by omega)
              rw [show opErr kd x.m x.a x.b x.c x.tag = 0 by unfold opErr; rw [if_pos hok]] at cc
              have CC := Lib.hid cc
              clear cc
              have yr2 := r2.cell
              have zr2 := r2.lt
              have yr7 := r7.cell
              have zr7 := r7.lt
              have yr9 := r9.cell
              have zr9 := r9.lt
              have ur2 := r2.free
              go_wp2_with fail
              refine Calls.mono (CC.out _ (HE.out.on hc)) ?_
              rintro e W9 ⟨rfl, hn⟩
              clear yr2 yr7 yr9 zr2 zr7 zr9 ur2
              replace r2 := r2.on hn
              replace r7 := r7.on hn
              replace hc := chain hc hn
              clear hn it r9 hx
              have yr2 := r2.cell
              have zr2 := r2.lt
              have yr7 := r7.cell
              have zr7 := r7.lt
              have ur2 := r2.free
              go_wp2_with fail
              clear yr2 yr7 zr2 zr7 ur2
              replace r2 := r2.set 0 (.int .i64 kd)
              replace r2 := r2.set 1 (.int .i64 x.m)
              replace r2 := r2.set 2 (.int .i64 x.a)
              replace r2 := r2.set 3 (.int .i64 x.b)
              replace r2 := r2.set 4 (.int .i64 x.c)
              replace r2 := r2.set 5 (.string x.tag)
              replace hc := hc.setCell (p := ⟨w.heap.size, 0, none⟩) (Nat.le_refl _) (.int .i64 kd)
              replace hc := hc.setCell (p := ⟨w.heap.size, 1, none⟩) (Nat.le_refl _) (.int .i64 x.m)
              replace hc := hc.setCell (p := ⟨w.heap.size, 2, none⟩) (Nat.le_refl _) (.int .i64 x.a)
              replace hc := hc.setCell (p := ⟨w.heap.size, 3, none⟩) (Nat.le_refl _) (.int .i64 x.b)
              replace hc := hc.setCell (p := ⟨w.heap.size, 4, none⟩) (Nat.le_refl _) (.int .i64 x.c)
              replace hc := hc.setCell (p := ⟨w.heap.size, 5, none⟩) (Nat.le_refl _) (.string x.tag)
              simp only [List.setIfInBounds_toArray, List.set_cons_zero, List.set_cons_succ] at r2
              generalize hW : World.setCell _ _ _ = Z9 at *
              clear hW
              have z9 := r2.cell
              refine bodyPost_ret (v := .tuple #[flV kd x, .int .i64 0]) (by simp [results, Tryz.results15, go_sem, z9]) rfl ⟨.inl ⟨kd, x, hok, HGOOD.out x hok (pinv_good (show PInv kd R0.data.toList (partsK kd).length x [] true from HPI2.out) hok), rfl⟩, hc⟩
            · have cc := fun W (hW : EnvL W) => check_c kd x.m x.a x.b x.c x.tag W hW hts0
              rw [show opErr kd x.m x.a x.b x.c x.tag = 2 by unfold opErr; rw [if_neg hok]] at cc
              have CC := Lib.hid cc
              have HNOK := Lib.hid hok
              clear cc hok
              have yr2 := r2.cell
              have zr2 := r2.lt
              have yr7 := r7.cell
              have zr7 := r7.lt
              have yr9 := r9.cell
              have zr9 := r9.lt
              have ur2 := r2.free
              go_wp2_with fail
              refine Calls.mono (CC.out _ (HE.out.on hc)) ?_
              rintro e W9 ⟨rfl, hn⟩
              clear yr2 yr7 yr9 zr2 zr7 zr9 ur2
              replace r2 := r2.on hn
              replace r7 := r7.on hn
              replace hc := chain hc hn
              clear hn it r9 hx
              have yr2 := r2.cell
              have zr2 := r2.lt
              have yr7 := r7.cell
              have zr7 := r7.lt
              have ur2 := r2.free
              go_wp2_with fail
              clear yr2 yr7 zr2 zr7 ur2
              replace r2 := r2.set 0 (.int .i64 0)
              replace r2 := r2.set 1 (.int .i64 0)
              replace r2 := r2.set 2 (.int .i64 0)
              replace r2 := r2.set 3 (.int .i64 0)
              replace r2 := r2.set 4 (.int .i64 0)
              replace r2 := r2.set 5 (.string ⟨#[]⟩)
              replace hc := hc.setCell (p := ⟨w.heap.size, 0, none⟩) (Nat.le_refl _) (.int .i64 0)
              replace hc := hc.setCell (p := ⟨w.heap.size, 1, none⟩) (Nat.le_refl _) (.int .i64 0)
              replace hc := hc.setCell (p := ⟨w.heap.size, 2, none⟩) (Nat.le_refl _) (.int .i64 0)
              replace hc := hc.setCell (p := ⟨w.heap.size, 3, none⟩) (Nat.le_refl _) (.int .i64 0)
              replace hc := hc.setCell (p := ⟨w.heap.size, 4, none⟩) (Nat.le_refl _) (.int .i64 0)
              replace hc := hc.setCell (p := ⟨w.heap.size, 5, none⟩) (Nat.le_refl _) (.string ⟨#[]⟩)
              simp only [List.setIfInBounds_toArray, List.set_cons_zero, List.set_cons_succ] at r2
              generalize hW : World.setCell _ _ _ = Z9 at *
              clear hW
              have z9 := r2.cell
              refine bodyPost_ret (v := .tuple #[op0V, .int .i64 9]) (by simp [results, Tryz.results15, go_sem, z9]) rfl ⟨.inr ⟨HBAD.out (pinv_bad HPI2.out (fun h => HNOK.out h.2.2)), rfl⟩, hc⟩
          · have hq : (rest.toList == []) = false := by
              rw [beq_eq_false_iff_ne, ByteArray.toList_eq]
              exact hre
            have HRE := Lib.hid hre
            clear hre
            have yr2 := r2.cell
            have zr2 := r2.lt
            have yr7 := r7.cell
            have zr7 := r7.lt
            have yr9 := r9.cell
            have zr9 := r9.lt
            have ur2 := r2.free
            go_wp2_with fail
            clear yr2 yr7 yr9 zr2 zr7 zr9 ur2
            replace r2 := r2.set 0 (.int .i64 0)
            replace r2 := r2.set 1 (.int .i64 0)
            replace r2 := r2.set 2 (.int .i64 0)
            replace r2 := r2.set 3 (.int .i64 0)
            replace r2 := r2.set 4 (.int .i64 0)
            replace r2 := r2.set 5 (.string ⟨#[]⟩)
            replace hc := hc.setCell (p := ⟨w.heap.size, 0, none⟩) (Nat.le_refl _) (.int .i64 0)
            replace hc := hc.setCell (p := ⟨w.heap.size, 1, none⟩) (Nat.le_refl _) (.int .i64 0)
            replace hc := hc.setCell (p := ⟨w.heap.size, 2, none⟩) (Nat.le_refl _) (.int .i64 0)
            replace hc := hc.setCell (p := ⟨w.heap.size, 3, none⟩) (Nat.le_refl _) (.int .i64 0)
            replace hc := hc.setCell (p := ⟨w.heap.size, 4, none⟩) (Nat.le_refl _) (.int .i64 0)
            replace hc := hc.setCell (p := ⟨w.heap.size, 5, none⟩) (Nat.le_refl _) (.string ⟨#[]⟩)
            simp only [List.setIfInBounds_toArray, List.set_cons_zero, List.set_cons_succ] at r2
            generalize hW : World.setCell _ _ _ = Z9 at *
            clear hW
            have z9 := r2.cell
            refine bodyPost_ret (v := .tuple #[op0V, .int .i64 9]) (by simp [results, Tryz.results15, go_sem, z9]) rfl ⟨.inr ⟨HBAD.out (pinv_bad HPI2.out (fun h => HRE.out h.2.1)), rfl⟩, hc⟩
  · subst hk
    rw [show inB (-1) 1 17 = false from rfl]
    rw [show partsB (-1) = ⟨#[]⟩ from rfl] at it
    have hx := it.done (by decide)
    have HNO := Lib.hid hno
    clear hno
    refine wp_loop_rounds 2 ?_
    rw [rounds_succ]
    have yr2 := r2.cell
    have zr2 := r2.lt
    have yr4 := r4.cell
    have zr4 := r4.lt
    have yr7 := r7.cell
    have zr7 := r7.lt
    have yr9 := r9.cell
    have zr9 := r9.lt
    have ur2 := r2.free
    go_wp2_with fail
    clear yr2 yr4 yr7 yr9 zr2 zr4 zr7 zr9 ur2
    clear hx
    replace r2 := r2.set 0 (.int .i64 0)
    replace r2 := r2.set 1 (.int .i64 0)
    replace r2 := r2.set 2 (.int .i64 0)
    replace r2 := r2.set 3 (.int .i64 0)
    replace r2 := r2.set 4 (.int .i64 0)
    replace r2 := r2.set 5 (.string ⟨#[]⟩)
    replace hc := hc.setCell (p := ⟨w.heap.size, 0, none⟩) (Nat.le_refl _) (.int .i64 0)
    replace hc := hc.setCell (p := ⟨w.heap.size, 1, none⟩) (Nat.le_refl _) (.int .i64 0)
    replace hc := hc.setCell (p := ⟨w.heap.size, 2, none⟩) (Nat.le_refl _) (.int .i64 0)
    replace hc := hc.setCell (p := ⟨w.heap.size, 3, none⟩) (Nat.le_refl _) (.int .i64 0)
    replace hc := hc.setCell (p := ⟨w.heap.size, 4, none⟩) (Nat.le_refl _) (.int .i64 0)
    replace hc := hc.setCell (p := ⟨w.heap.size, 5, none⟩) (Nat.le_refl _) (.string ⟨#[]⟩)
    simp only [List.setIfInBounds_toArray, List.set_cons_zero, List.set_cons_succ] at r2
    generalize hW : World.setCell _ _ _ = Z9 at *
    clear hW
    have z9 := r2.cell
    refine bodyPost_ret (v := .tuple #[op0V, .int .i64 9]) (by simp [results, Tryz.results15, go_sem, z9]) rfl ⟨.inr ⟨fun kd x hx h => ?_, rfl⟩, hc⟩
    exact HNO.out kd (opOk_iff.1 hx).1.1 (opOk_iff.1 hx).1.2 (by rw [HWL.out, word_of hx h])
end Go.Proofs.YthkngleegefgbaaGreatDoor
