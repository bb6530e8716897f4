/- The reference of chapter 13: Parse. -/
import Derived.Test.YtpegkcmomkdoeaaDoorFieldC
import Derived.Deep.DeepCutAuto
namespace Go.Proofs.YtpegkcmomkdoeaaDoor
open Go.RowKit
set_option linter.unusedVariables false
set_option linter.unusedSimpArgs false

theorem ref_c (x : ByteArray) (hs : x.size ≤ 100000) (w : World) : Ret 40 #[.string x] w (.tuple #[rfV (refR x.data.toList).1, .bool (refR x.data.toList).2]) := by
  by_cases hd : x.data.toList = [45]
  · obtain rfl : x = ⟨#[45]⟩ := str_ext (by rw [hd])
    exact ref_dash w
  · have hb : (x.toList == [45]) = false := by rw [ByteArray.toList_eq, beq_eq_false_iff_ne]; exact hd
    unfold refR
    rw [if_neg hd]
    by_cases hm : (46 : UInt8) ∈ x.data.toList
    · rw [if_pos hm]
      rcases mem_split x.data.toList 46 with hn | ⟨pre, post, hp, he⟩
      · exact absurd hm hn
      · refine (ref_at x hs hb pre post he hp _ rfl w).to ?_
        rw [he, cut_at pre post 46 hp]
        simp only [Bool.and_assoc]
    · rw [if_neg hm]
      exact ref_no x hs hb hm w
def strSz : Value → Nat
  | .string b => b.size
  | _ => 0
abbrev stC (l : List Rf) : Array Value := obC (l.length : Nat) (fldAt l 0).1 (fldAt l 0).2 (fldAt l 1).1 (fldAt l 1).2 (fldAt l 2).1 (fldAt l 2).2 (fldAt l 3).1 (fldAt l 3).2 false
abbrev stV (l : List Rf) : Value := obV (l.length : Nat) (fldAt l 0).1 (fldAt l 0).2 (fldAt l 1).1 (fldAt l 1).2 (fldAt l 2).1 (fldAt l 2).2 (fldAt l 3).1 (fldAt l 3).2 false
def rpV : Option (List Rf) → Value
  | some l => .tuple #[stV l, .int .i64 0]
  | none => .tuple #[ob0, .int .i64 9]
theorem rp_nil (f : Nat) : rp f [] = some [] := by cases f <;> rfl
theorem rp_bad (f : Nat) {c : UInt8} (tl : List UInt8) (h : c ≠ 32) : rp f (c :: tl) = none := by
  cases f
  · rfl
  · rw [rp, if_neg h]
theorem tw_no (l : List UInt8) : (32 : UInt8) ∉ l.takeWhile (fun x => decide (x ≠ 32)) := by
  induction l with
  | nil => simp
  | cons b l ih =>
    rw [List.takeWhile_cons]
    by_cases hb : b = 32
    · simp [hb]
    · have e : decide (b ≠ 32) = true := decide_eq_true hb
      rw [if_pos e]
      simp only [List.mem_cons, not_or]
      exact ⟨fun h => hb h.symm, ih⟩
theorem tw_head (l : List UInt8) : ∀ c t, l.dropWhile (fun x => decide (x ≠ 32)) = c :: t → c = 32 := by
  induction l with
  | nil => intro c t h; simp at h
  | cons b l ih =>
    intro c t h
    rw [List.dropWhile_cons] at h
    by_cases hb : b = 32
    · rw [if_neg (by simp [hb])] at h
      injection h with h1 _
      rw [← h1, hb]
    · have e : decide (b ≠ 32) = true := decide_eq_true hb
      rw [if_pos e] at h
      exact ih c t h
/-- The state of the reference's loop. -/
def PSt (w : World) (R : Option (List Rf)) (l : List Rf) (rest : ByteArray) (wr : World) : Prop :=
  Row wr (w.heap.size + 1) (stC l) 31 ∧ Row wr w.heap.size ob0C 31 ∧ (rp (4 - l.length) rest.data.toList).map (l ++ ·) = R ∧ Below w.heap.size w wr
set_option maxHeartbeats 4000000 in
theorem rparse_han (w : World) : Ret 26 #[.string ⟨#[104, 97, 110, 100, 108, 101]⟩] w (.tuple #[obV 0 0 0 0 0 0 0 0 0 true, .int .i64 0]) := by
  go_enter Tryd.func26, Tryd.ntmps26
  go_wp2_with fail
  refine bodyPost_ret (v := .tuple #[obV 0 0 0 0 0 0 0 0 0 true, .int .i64 0]) (by simp [results, Tryd.results26, go_sem]) rfl ⟨rfl, by go_grown⟩
set_option maxHeartbeats 4000000 in
theorem rparse_short (s : ByteArray) (w : World) (hh : (s.toList == [104, 97, 110, 100, 108, 101]) = false) (hs : s.size < 6) : Ret 26 #[.string s] w (.tuple #[ob0, .int .i64 9]) := by
  have hs' : (s.size : Int) < 6 := by omega
  go_enter Tryd.func26, Tryd.ntmps26
  go_wp2_with fail
  refine bodyPost_ret (v := .tuple #[ob0, .int .i64 9]) (by simp [results, Tryd.results26, go_sem]) rfl ⟨rfl, by go_grown⟩
set_option maxHeartbeats 4000000 in
theorem rparse_other (s : ByteArray) (w : World) (hh : (s.toList == [104, 97, 110, 100, 108, 101]) = false) (hs : 6 ≤ s.size) (X : ByteArray) (hX : s.extract 0 6 = X) (ho : (X.toList == [111, 98, 106, 101, 99, 116]) = false) : Ret 26 #[.string s] w (.tuple #[ob0, .int .i64 9]) := by
  have hs' : 6 ≤ (s.size : Int) := by omega
  go_enter Tryd.func26, Tryd.ntmps26
  go_wp2_with fail
  refine bodyPost_ret (v := .tuple #[ob0, .int .i64 9]) (by simp [results, Tryd.results26, go_sem]) rfl ⟨rfl, by go_grown⟩
set_option maxHeartbeats 16000000 in
set_option maxRecDepth 20000 in
theorem rparse_loop (s : ByteArray) (w : World) (hsz : s.size ≤ 100000) (hh : (s.toList == [104, 97, 110, 100, 108, 101]) = false) (hs : 6 ≤ s.size) (X : ByteArray) (hX : s.extract 0 6 = X) (ho : (X.toList == [111, 98, 106, 101, 99, 116]) = true)
    (rest0 : ByteArray) (hr0 : s.extract 6 s.size = rest0) (R : Option (List Rf)) (hR : rp 4 rest0.data.toList = R) : Ret 26 #[.string s] w (rpV R) := by
  have hs' : 6 ≤ (s.size : Int) := by omega
  have hrs : rest0.size ≤ 100000 := by rw [← hr0, ByteArray.size_extract]; omega
  have HR := Lib.hid hR
  have HS := Lib.hid hrs
  clear hR hrs
  go_enter Tryd.func26, Tryd.ntmps26
  go_wp2_with fail
  go_loopw [5] (fun r wr => ∃ (l : List Rf) (rest : ByteArray), l.length ≤ 4 ∧ rest.size ≤ 100000 ∧ r = .string rest ∧ PSt w R l rest wr) (fun r _ => strSz r)
  case atStart =>
    have hx : Row ((w.alloc (.cells ob0C 31)).alloc (.cells ob0C 31)) (w.heap.size + 1) ob0C 31 := by simpa using Row.new (W := w.alloc (.cells ob0C 31)) (cs := ob0C) (t := 31)
    refine ⟨[], rest0, by simp, HS.out, rfl, hx, Row.new.on (below_alloc _ _), ?_, by go_grown⟩
    simp only [List.length_nil, Nat.sub_zero, HR.out]
    cases R <;> rfl
  case round =>
    obtain ⟨l, rest, hl, hrs, rfl, p0, p1, p2, hB⟩ := hrel
    have HP := Lib.hid p2
    clear p2 HR
    have z1 := p1.lt
    have y0 := p1.cell
    have y1 := p1.free
    have c0 := p0.cell
    cases hrl : rest.data.toList with
    | nil =>
      have er : rest = ⟨#[]⟩ := str_ext (by rw [hrl])
      have hv : rpV R = .tuple #[stV l, .int .i64 0] := by rw [← HP.out, hrl, rp_nil]; simp [rpV]
      have HV := Lib.hid hv
      subst er
      clear hrl hv
      go_wp2_with fail
      refine bodyPost_ret (v := .tuple #[stV l, .int .i64 0]) (by simp [results, Tryd.results26, go_sem, y0]) rfl ⟨by rw [HV.out], ?_⟩
      repeat (refine Below.setCell ?_ (by simp) _)
      exact hB
    | cons c tl =>
      have hne : rest.toList.isEmpty = false := by rw [ByteArray.toList_eq, hrl]; rfl
      have hsz0 : 0 < rest.size := by rw [← len_bytes, hrl]; simp
      have h0 : rest[0] = c := by
        have e1 : rest[0] = rest.data.toList[0]'(by rw [hrl]; simp) := rfl
        rw [e1]
        simp only [hrl, List.getElem_cons_zero]
      by_cases hc : c = 32
      · subst hc
        have b1 : (rest[0].toNat : Int) = 32 := by rw [h0]; rfl
        have tw1 := List.takeWhile_append_dropWhile (p := fun x : UInt8 => decide (x ≠ 32)) (l := tl)
        have tw2 := tw_no tl
        have tw3 := tw_head tl
        have hrp : ∀ f, rp (f + 1) (32 :: tl) = if (refR (tl.takeWhile (fun x => decide (x ≠ 32)))).2 then (rp f (tl.dropWhile (fun x => decide (x ≠ 32)))).map ((refR (tl.takeWhile (fun x => decide (x ≠ 32)))).1 :: ·) else none := fun f => by rw [rp, if_pos rfl]
        generalize tl.takeWhile (fun x => decide (x ≠ 32)) = p at *
        generalize tl.dropWhile (fun x => decide (x ≠ 32)) = q at *
        have hpq : rest.data.toList = 32 :: (p ++ q) := by rw [hrl, tw1]
        have hszr : rest.size = p.length + q.length + 1 := by rw [← len_bytes, hpq]; simp
        have sx : rest.extract 1 (p.length + 1) = ⟨p.toArray⟩ := by
          apply str_ext
          rw [Lib.extract_data, hpq]
          simp
        have sy : rest.extract (p.length + 1) rest.size = ⟨q.toArray⟩ := by
          apply str_ext
          rw [Lib.extract_to_end, hpq]
          simp
        have hin : ∀ j, 1 ≤ j → j < p.length + 1 → ∀ hj : j < rest.size, rest[j] ≠ 32 := fun j j1 j2 hj e => by
          apply tw2
          have e1 : rest[j] = rest.data.toList[j]'(by simpa using hj) := rfl
          have e2 : rest.data.toList[j]'(by simpa using hj) = p[j - 1]'(by omega) := by
            have e3 : (32 :: (p ++ q))[j]'(by simp; omega) = p[j - 1]'(by omega) := by
              rw [List.getElem_cons, dif_neg (by omega), List.getElem_append_left (by omega)]
            rw [← e3]
            congr 1
          rw [← e, e1, e2]
          exact List.getElem_mem _
        have hat : ∀ hj : p.length + 1 < rest.size, rest[p.length + 1] = 32 := fun hj => by
          have e1 : rest[p.length + 1] = rest.data.toList[p.length + 1]'(by simpa using hj) := rfl
          cases q with
          | nil => simp at hszr; omega
          | cons c t =>
            obtain rfl := tw3 c t rfl
            rw [e1]
            have e3 : (32 :: (p ++ 32 :: t))[p.length + 1]'(by simp) = 32 := by
              rw [List.getElem_cons, dif_neg (by omega)]
              simp
            rw [← e3]
            congr 1
        have hpz : (⟨p.toArray⟩ : ByteArray).size = p.length := by show p.toArray.size = _; simp
        have hqz : (⟨q.toArray⟩ : ByteArray).size = q.length := by show q.toArray.size = _; simp
        have hcon := fun w => ref_c ⟨p.toArray⟩ (by rw [hpz]; omega) w
        have hpl : (⟨p.toArray⟩ : ByteArray).data.toList = p := by simp
        have hql : (⟨q.toArray⟩ : ByteArray).data.toList = q := by simp
        rw [hpl] at hcon
        have HP2 := Lib.hid (HP.out)
        rw [hrl] at HP2
        have HRP := Lib.hid hrp
        have HIN := Lib.hid hin
        have HAT := Lib.hid hat
        have HCON := Lib.hid hcon
        have HQZ := Lib.hid hqz
        have HQL := Lib.hid hql
        have HSZ := Lib.hid hszr
        generalize hm : p.length + 1 = m at *
        have HM := Lib.hid hm
        have hms : m ≤ rest.size := by omega
        clear tw1 tw2 tw3 hrp hin hat hcon hqz hql hszr hpz hpl hpq hrl HP h0 hm
        generalize refR p = rr at *
        obtain ⟨rv, ok⟩ := rr
        rcases l with _ | ⟨a0, _ | ⟨a1, _ | ⟨a2, _ | ⟨a3, _ | ⟨a4, t⟩⟩⟩⟩⟩
        · have c0 : ∀ j, wr.cell? ⟨w.heap.size + 1, j, none⟩ = (obC 0 0 0 0 0 0 0 0 0 false)[j]? := p0.cell
          have d0 := p0.free
          have z0 := p0.lt
          go_wp2_with fail
          go_loop [6] (fun e => ∃ j : Nat, 1 ≤ j ∧ j ≤ m ∧ e = .int .i64 j) (fun e => m - (intOf e).toNat)
          case atStart => exact ⟨1, by omega, by have := HM.out; omega, rfl⟩
          case round =>
            obtain ⟨j, j1, j2, rfl⟩ := hrel
            by_cases hlt : j < m
            · have hjs : j < rest.size := by omega
              obtain ⟨f1, f2⟩ := byt_ne (c := 32) (m := 32) rfl (HIN.out j j1 hlt hjs)
              go_wp2_with fail
              go_round
              case rel => exact ⟨j + 1, by omega, by omega, by go_num⟩
              case measure => simp [intOf]; omega
            · obtain rfl : j = m := by omega
              have g1 : (1 : Int) ≤ (j : Int) := by omega
              have g2 : (j : Int) ≤ (rest.size : Int) := by omega
              have g3 : (j : Int).toNat = j := by omega
              by_cases hjs : j < rest.size
              case' pos => obtain ⟨f1, f2⟩ := byt_eq (c := 32) (m := 32) rfl (HAT.out hjs)
              all_goals
                go_wp2_with fail
                refine (HCON.out _).mono ?_
                rintro e w1 ⟨rfl, hb1⟩
                have q0 := p0.on hb1
                have q1 := p1.on hb1
                have hB1 : Below w.heap.size w w1 := chain hB hb1
                have n0 : ∀ j, w1.cell? ⟨w.heap.size + 1, j, none⟩ = (obC 0 0 0 0 0 0 0 0 0 false)[j]? := q0.cell
                have m0 := q0.free
                have x0 := q0.lt
                have n1 := q1.cell
                have m1 := q1.free
                have x1 := q1.lt
                clear c0 d0 z0 y0 y1 z1
                cases ok
                · have hv : rpV R = .tuple #[ob0, .int .i64 9] := by rw [← HP2.out, show (4 - ([] : List Rf).length) = 3 + 1 from rfl, HRP.out]; rfl
                  have HV := Lib.hid hv
                  clear hv
                  go_upto_region 15 with fail
                  have hx := below_alloc w1 (.cells (refC rv.1 rv.2) 24)
                  have hB2 := chain hB1 hx
                  have e1 := q1.on hx
                  clear n0 m0 x0 n1 m1 x1 q0 q1 hx
                  generalize w1.alloc (.cells (refC rv.1 rv.2) 24) = w5 at *
                  have n1 := e1.cell
                  have m1 := e1.free
                  have x1 := e1.lt
                  go_wp2_with fail
                  refine bodyPost_ret (v := .tuple #[ob0, .int .i64 9]) (by simp [results, Tryd.results26, go_sem, n1, x1]) rfl ⟨by rw [HV.out], ?_⟩
                  repeat (refine Below.setCell ?_ (by simp) _)
                  exact hB2
                · go_wp2_with fail
                  have hq1 := HQZ.out
                  have hs1 := HSZ.out
                  have r0 := ((q0.set 1 (.int .i64 rv.1)).set 2 (.int .u32 rv.2)).set 0 (.int .i64 1)
                  simp only [stC, obC, List.setIfInBounds_toArray, List.set_cons_succ, List.set_cons_zero] at r0
                  have r1 := ((q1.other (y := w.heap.size + 1) (by omega) 1 (.int .i64 rv.1)).other (y := w.heap.size + 1) (by omega) 2 (.int .u32 rv.2)).other (y := w.heap.size + 1) (by omega) 0 (.int .i64 1)
                  refine ⟨⟨[] ++ [rv], ⟨q.toArray⟩, by simp, by rw [hq1]; omega, rfl, r0.on (below_alloc _ _), r1.on (below_alloc _ _), ?_, ?_⟩, ?_⟩
                  · rw [← HP2.out, show (4 - ([] : List Rf).length) = 3 + 1 from rfl, HRP.out]
                    simp only [List.toList_toArray, if_true]
                    show (rp 3 q).map _ = _
                    cases rp 3 q <;> rfl
                  · exact Below.alloc (((hB1.setCell (p := ⟨w.heap.size + 1, _, none⟩) (by simp) _).setCell (p := ⟨w.heap.size + 1, _, none⟩) (by simp) _).setCell (p := ⟨w.heap.size + 1, _, none⟩) (by simp) _) (by simpa using hB1.size) _
                  · show (⟨q.toArray⟩ : ByteArray).size < rest.size
                    rw [hq1]
                    omega
        · have c0 : ∀ j, wr.cell? ⟨w.heap.size + 1, j, none⟩ = (obC 1 a0.1 a0.2 0 0 0 0 0 0 false)[j]? := p0.cell
          have d0 := p0.free
          have z0 := p0.lt
          go_wp2_with fail
          go_loop [6] (fun e => ∃ j : Nat, 1 ≤ j ∧ j ≤ m ∧ e = .int .i64 j) (fun e => m - (intOf e).toNat)
          case atStart => exact ⟨1, by omega, by have := HM.out; omega, rfl⟩
          case round =>
            obtain ⟨j, j1, j2, rfl⟩ := hrel
            by_cases hlt : j < m
            · have hjs : j < rest.size := by omega
              obtain ⟨f1, f2⟩ := byt_ne (c := 32) (m := 32) rfl (HIN.out j j1 hlt hjs)
              go_wp2_with fail
              go_round
              case rel => exact ⟨j + 1, by omega, by omega, by go_num⟩
              case measure => simp [intOf]; omega
            · obtain rfl : j = m := by omega
              have g1 : (1 : Int) ≤ (j : Int) := by omega
              have g2 : (j : Int) ≤ (rest.size : Int) := by omega
              have g3 : (j : Int).toNat = j := by omega
              by_cases hjs : j < rest.size
              case' pos => obtain ⟨f1, f2⟩ := byt_eq (c := 32) (m := 32) rfl (HAT.out hjs)
              all_goals
                go_wp2_with fail
                refine (HCON.out _).mono ?_
                rintro e w1 ⟨rfl, hb1⟩
                have q0 := p0.on hb1
                have q1 := p1.on hb1
                have hB1 : Below w.heap.size w w1 := chain hB hb1
                have n0 : ∀ j, w1.cell? ⟨w.heap.size + 1, j, none⟩ = (obC 1 a0.1 a0.2 0 0 0 0 0 0 false)[j]? := q0.cell
                have m0 := q0.free
                have x0 := q0.lt
                have n1 := q1.cell
                have m1 := q1.free
                have x1 := q1.lt
                clear c0 d0 z0 y0 y1 z1
                cases ok
                · have hv : rpV R = .tuple #[ob0, .int .i64 9] := by rw [← HP2.out, show (4 - ([a0] : List Rf).length) = 2 + 1 from rfl, HRP.out]; rfl
                  have HV := Lib.hid hv
                  clear hv
                  go_upto_region 15 with fail
                  have hx := below_alloc w1 (.cells (refC rv.1 rv.2) 24)
                  have hB2 := chain hB1 hx
                  have e1 := q1.on hx
                  clear n0 m0 x0 n1 m1 x1 q0 q1 hx
                  generalize w1.alloc (.cells (refC rv.1 rv.2) 24) = w5 at *
                  have n1 := e1.cell
                  have m1 := e1.free
                  have x1 := e1.lt
                  go_wp2_with fail
                  refine bodyPost_ret (v := .tuple #[ob0, .int .i64 9]) (by simp [results, Tryd.results26, go_sem, n1, x1]) rfl ⟨by rw [HV.out], ?_⟩
                  repeat (refine Below.setCell ?_ (by simp) _)
                  exact hB2
                · go_wp2_with fail
                  have hq1 := HQZ.out
                  have hs1 := HSZ.out
                  have r0 := ((q0.set 3 (.int .i64 rv.1)).set 4 (.int .u32 rv.2)).set 0 (.int .i64 2)
                  simp only [stC, obC, List.setIfInBounds_toArray, List.set_cons_succ, List.set_cons_zero] at r0
                  have r1 := ((q1.other (y := w.heap.size + 1) (by omega) 3 (.int .i64 rv.1)).other (y := w.heap.size + 1) (by omega) 4 (.int .u32 rv.2)).other (y := w.heap.size + 1) (by omega) 0 (.int .i64 2)
                  refine ⟨⟨[a0] ++ [rv], ⟨q.toArray⟩, by simp, by rw [hq1]; omega, rfl, r0.on (below_alloc _ _), r1.on (below_alloc _ _), ?_, ?_⟩, ?_⟩
                  · rw [← HP2.out, show (4 - ([a0] : List Rf).length) = 2 + 1 from rfl, HRP.out]
                    simp only [List.toList_toArray, if_true]
                    show (rp 2 q).map _ = _
                    cases rp 2 q <;> rfl
                  · exact Below.alloc (((hB1.setCell (p := ⟨w.heap.size + 1, _, none⟩) (by simp) _).setCell (p := ⟨w.heap.size + 1, _, none⟩) (by simp) _).setCell (p := ⟨w.heap.size + 1, _, none⟩) (by simp) _) (by simpa using hB1.size) _
                  · show (⟨q.toArray⟩ : ByteArray).size < rest.size
                    rw [hq1]
                    omega
        · have c0 : ∀ j, wr.cell? ⟨w.heap.size + 1, j, none⟩ = (obC 2 a0.1 a0.2 a1.1 a1.2 0 0 0 0 false)[j]? := p0.cell
          have d0 := p0.free
          have z0 := p0.lt
          go_wp2_with fail
          go_loop [6] (fun e => ∃ j : Nat, 1 ≤ j ∧ j ≤ m ∧ e = .int .i64 j) (fun e => m - (intOf e).toNat)
          case atStart => exact ⟨1, by omega, by have := HM.out; omega, rfl⟩
          case round =>
            obtain ⟨j, j1, j2, rfl⟩ := hrel
            by_cases hlt : j < m
            · have hjs : j < rest.size := by omega
              obtain ⟨f1, f2⟩ := byt_ne (c := 32) (m := 32) rfl (HIN.out j j1 hlt hjs)
              go_wp2_with fail
              go_round
              case rel => exact ⟨j + 1, by omega, by omega, by go_num⟩
              case measure => simp [intOf]; omega
            · obtain rfl : j = m := by omega
              have g1 : (1 : Int) ≤ (j : Int) := by omega
              have g2 : (j : Int) ≤ (rest.size : Int) := by omega
              have g3 : (j : Int).toNat = j := by omega
              by_cases hjs : j < rest.size
              case' pos => obtain ⟨f1, f2⟩ := byt_eq (c := 32) (m := 32) rfl (HAT.out hjs)
              all_goals
                go_wp2_with fail
                refine (HCON.out _).mono ?_
                rintro e w1 ⟨rfl, hb1⟩
                have q0 := p0.on hb1
                have q1 := p1.on hb1
                have hB1 : Below w.heap.size w w1 := chain hB hb1
                have n0 : ∀ j, w1.cell? ⟨w.heap.size + 1, j, none⟩ = (obC 2 a0.1 a0.2 a1.1 a1.2 0 0 0 0 false)[j]? := q0.cell
                have m0 := q0.free
                have x0 := q0.lt
                have n1 := q1.cell
                have m1 := q1.free
                have x1 := q1.lt
                clear c0 d0 z0 y0 y1 z1
                cases ok
                · have hv : rpV R = .tuple #[ob0, .int .i64 9] := by rw [← HP2.out, show (4 - ([a0, a1] : List Rf).length) = 1 + 1 from rfl, HRP.out]; rfl
                  have HV := Lib.hid hv
                  clear hv
                  go_upto_region 15 with fail
                  have hx := below_alloc w1 (.cells (refC rv.1 rv.2) 24)
                  have hB2 := chain hB1 hx
                  have e1 := q1.on hx
                  clear n0 m0 x0 n1 m1 x1 q0 q1 hx
                  generalize w1.alloc (.cells (refC rv.1 rv.2) 24) = w5 at *
                  have n1 := e1.cell
                  have m1 := e1.free
                  have x1 := e1.lt
                  go_wp2_with fail
                  refine bodyPost_ret (v := .tuple #[ob0, .int .i64 9]) (by simp [results, Tryd.results26, go_sem, n1, x1]) rfl ⟨by rw [HV.out], ?_⟩
                  repeat (refine Below.setCell ?_ (by simp) _)
                  exact hB2
                · go_wp2_with fail
                  have hq1 := HQZ.out
                  have hs1 := HSZ.out
                  have r0 := ((q0.set 5 (.int .i64 rv.1)).set 6 (.int .u32 rv.2)).set 0 (.int .i64 3)
                  simp only [stC, obC, List.setIfInBounds_toArray, List.set_cons_succ, List.set_cons_zero] at r0
                  have r1 := ((q1.other (y := w.heap.size + 1) (by omega) 5 (.int .i64 rv.1)).other (y := w.heap.size + 1) (by omega) 6 (.int .u32 rv.2)).other (y := w.heap.size + 1) (by omega) 0 (.int .i64 3)
                  refine ⟨⟨[a0, a1] ++ [rv], ⟨q.toArray⟩, by simp, by rw [hq1]; omega, rfl, r0.on (below_alloc _ _), r1.on (below_alloc _ _), ?_, ?_⟩, ?_⟩
                  · rw [← HP2.out, show (4 - ([a0, a1] : List Rf).length) = 1 + 1 from rfl, HRP.out]
                    simp only [List.toList_toArray, if_true]
                    show (rp 1 q).map _ = _
                    cases rp 1 q <;> rfl
                  · exact Below.alloc (((hB1.setCell (p := ⟨w.heap.size + 1, _, none⟩) (by simp) _).setCell (p := ⟨w.heap.size + 1, _, none⟩) (by simp) _).setCell (p := ⟨w.heap.size + 1, _, none⟩) (by simp) _) (by simpa using hB1.size) _
                  · show (⟨q.toArray⟩ : ByteArray).size < rest.size
                    rw [hq1]
                    omega
        · have c0 : ∀ j, wr.cell? ⟨w.heap.size + 1, j, none⟩ = (obC 3 a0.1 a0.2 a1.1 a1.2 a2.1 a2.2 0 0 false)[j]? := p0.cell
          have d0 := p0.free
          have z0 := p0.lt
          go_wp2_with fail
          go_loop [6] (fun e => ∃ j : Nat, 1 ≤ j ∧ j ≤ m ∧ e = .int .i64 j) (fun e => m - (intOf e).toNat)
          case atStart => exact ⟨1, by omega, by have := HM.out; omega, rfl⟩
          case round =>
            obtain ⟨j, j1, j2, rfl⟩ := hrel
            by_cases hlt : j < m
            · have hjs : j < rest.size := by omega
              obtain ⟨f1, f2⟩ := byt_ne (c := 32) (m := 32) rfl (HIN.out j j1 hlt hjs)
              go_wp2_with fail
              go_round
              case rel => exact ⟨j + 1, by omega, by omega, by go_num⟩
              case measure => simp [intOf]; omega
            · obtain rfl : j = m := by omega
              have g1 : (1 : Int) ≤ (j : Int) := by omega
              have g2 : (j : Int) ≤ (rest.size : Int) := by omega
              have g3 : (j : Int).toNat = j := by omega
              by_cases hjs : j < rest.size
              case' pos => obtain ⟨f1, f2⟩ := byt_eq (c := 32) (m := 32) rfl (HAT.out hjs)
              all_goals
                go_wp2_with fail
                refine (HCON.out _).mono ?_
                rintro e w1 ⟨rfl, hb1⟩
                have q0 := p0.on hb1
                have q1 := p1.on hb1
                have hB1 : Below w.heap.size w w1 := chain hB hb1
                have n0 : ∀ j, w1.cell? ⟨w.heap.size + 1, j, none⟩ = (obC 3 a0.1 a0.2 a1.1 a1.2 a2.1 a2.2 0 0 false)[j]? := q0.cell
                have m0 := q0.free
                have x0 := q0.lt
                have n1 := q1.cell
                have m1 := q1.free
                have x1 := q1.lt
                clear c0 d0 z0 y0 y1 z1
                cases ok
                · have hv : rpV R = .tuple #[ob0, .int .i64 9] := by rw [← HP2.out, show (4 - ([a0, a1, a2] : List Rf).length) = 0 + 1 from rfl, HRP.out]; rfl
                  have HV := Lib.hid hv
                  clear hv
                  go_upto_region 15 with fail
                  have hx := below_alloc w1 (.cells (refC rv.1 rv.2) 24)
                  have hB2 := chain hB1 hx
                  have e1 := q1.on hx
                  clear n0 m0 x0 n1 m1 x1 q0 q1 hx
                  generalize w1.alloc (.cells (refC rv.1 rv.2) 24) = w5 at *
                  have n1 := e1.cell
                  have m1 := e1.free
                  have x1 := e1.lt
                  go_wp2_with fail
                  refine bodyPost_ret (v := .tuple #[ob0, .int .i64 9]) (by simp [results, Tryd.results26, go_sem, n1, x1]) rfl ⟨by rw [HV.out], ?_⟩
                  repeat (refine Below.setCell ?_ (by simp) _)
                  exact hB2
                · go_wp2_with fail
                  have hq1 := HQZ.out
                  have hs1 := HSZ.out
                  have r0 := ((q0.set 7 (.int .i64 rv.1)).set 8 (.int .u32 rv.2)).set 0 (.int .i64 4)
                  simp only [stC, obC, List.setIfInBounds_toArray, List.set_cons_succ, List.set_cons_zero] at r0
                  have r1 := ((q1.other (y := w.heap.size + 1) (by omega) 7 (.int .i64 rv.1)).other (y := w.heap.size + 1) (by omega) 8 (.int .u32 rv.2)).other (y := w.heap.size + 1) (by omega) 0 (.int .i64 4)
                  refine ⟨⟨[a0, a1, a2] ++ [rv], ⟨q.toArray⟩, by simp, by rw [hq1]; omega, rfl, r0.on (below_alloc _ _), r1.on (below_alloc _ _), ?_, ?_⟩, ?_⟩
                  · rw [← HP2.out, show (4 - ([a0, a1, a2] : List Rf).length) = 0 + 1 from rfl, HRP.out]
                    simp only [List.toList_toArray, if_true]
                    show (rp 0 q).map _ = _
                    cases rp 0 q <;> rfl
                  · exact Below.alloc (((hB1.setCell (p := ⟨w.heap.size + 1, _, none⟩) (by simp) _).setCell (p := ⟨w.heap.size + 1, _, none⟩) (by simp) _).setCell (p := ⟨w.heap.size + 1, _, none⟩) (by simp) _) (by simpa using hB1.size) _
                  · show (⟨q.toArray⟩ : ByteArray).size < rest.size
                    rw [hq1]
                    omega
        · have hv : rpV R = .tuple #[ob0, .int .i64 9] := by rw [← HP2.out]; rfl
          have HV := Lib.hid hv
          have c0 : ∀ j, wr.cell? ⟨w.heap.size + 1, j, none⟩ = (obC 4 a0.1 a0.2 a1.1 a1.2 a2.1 a2.2 a3.1 a3.2 false)[j]? := p0.cell
          clear hv
          go_wp2_with fail
          refine bodyPost_ret (v := .tuple #[ob0, .int .i64 9]) (by simp [results, Tryd.results26, go_sem, y0]) rfl ⟨by rw [HV.out], ?_⟩
          repeat (refine Below.setCell ?_ (by simp) _)
          exact hB
        · simp at hl
      · have hv : rpV R = .tuple #[ob0, .int .i64 9] := by rw [← HP.out, hrl, rp_bad _ _ hc]; rfl
        have HV := Lib.hid hv
        obtain ⟨b1, b2⟩ := byt_ne (c := 32) (m := 32) rfl (fun e => hc (h0.symm.trans e))
        clear hv hrl hc h0
        go_wp2_with fail
        refine bodyPost_ret (v := .tuple #[ob0, .int .i64 9]) (by simp [results, Tryd.results26, go_sem, y0]) rfl ⟨by rw [HV.out], ?_⟩
        repeat (refine Below.setCell ?_ (by simp) _)
        exact hB
end Go.Proofs.YtpegkcmomkdoeaaDoor
