/- The program's Text, joined; strconv.FormatInt. -/
import Derived.Test.YtgckfiadnmjonabGreatDoorHRes4
import Derived.Test.YtgckfiadnmjonabGreatDoorL0b
import Derived.Lib.ParseIntBTie
import Derived.Test.YtgckfiadnmjonabGreatDoorL1a
namespace Go.Proofs.YtgckfiadnmjonabGreatDoor
open Go.RowKit
set_option linter.unusedVariables false
set_option linter.unusedSimpArgs false
theorem fmtint_c (n : Int) (w : World) (hE : Env w) (h0 : 0 ≤ n) (h1 : n ≤ 9223372036854775807) : Ret 28 #[.int .i64 n, .int .i64 10] w (.string (digits n.toNat)) := by
  have c := fun w hE => Tryz.internal_strconv_FormatInt_10 n (by omega) h1 w (Env.tabIs hE)
  have C := Lib.hid c
  clear c
  go_enter Tryz.func28, Tryz.ntmps28
  go_wp2_with fail
  refine Calls.mono (C.out _ hE) ?_
  rintro e w1 ⟨rfl, k, os, hw⟩
  go_wp2_with fail
  go_returns
  exact ⟨by rw [show (⟨(Lib.itoa n).toArray⟩ : ByteArray) = digits n.toNat by unfold Lib.itoa digits; rw [if_neg (by omega)]]; rfl, by first | exact below_grow_ w k os | (rw [hw]; exact below_grow_ w k os)⟩
theorem text_e (k i g st wy tr nx e : Int) (tag : ByteArray) (w : World) (he : e ≠ 0) (c1 : ∀ w, Ret 13 #[rV k i g st wy tr nx tag] w (.int .i64 e)) : Ret 12 #[rV k i g st wy tr nx tag] w (.tuple #[.string ⟨#[]⟩, .int .i64 e]) := by
  have q : (e != 0) = true := by rw [bne_iff_ne]; exact he
  have C := Lib.hid c1
  clear c1
  go_enter Tryz.func12, Tryz.ntmps12
  go_wp2_with fail
  refine Calls.mono (C.out _) ?_
  rintro e w1 ⟨rfl, hb⟩
  go_wp2_with fail
  go_returns
  exact ⟨rfl, under hb⟩
theorem pOk_iff5 {k i g st wy tr nx : Int} (h : pOk k i g st wy tr nx = true) (hs : st ≠ 1) : (1 ≤ wy ∧ wy ≤ 3) ∧ (0 ≤ tr ∧ tr ≤ 10000) ∧ (0 ≤ nx ∧ nx ≤ 1099511627776) ∧ (st = 2 ∨ nx = 0) := by
  unfold pOk at h
  rw [if_neg hs] at h
  simp only [Bool.and_eq_true, Bool.or_eq_true, inB_iff, isT_iff, decide_eq_true_iff] at h
  obtain ⟨-, -, a, b, c, d⟩ := h
  exact ⟨a, b, c, d⟩
theorem reason_of (wy : Int) (h1 : 1 ≤ wy) (h2 : wy ≤ 3) : ∃ R : ByteArray, (∀ w, (Instr.index 64 reasonsV (.int .i64 wy)).run Tryz.prog w = .ok (.string R) w) ∧ R.size ≤ 1000 ∧ R.data.toList = whL wy := by
  rcases (by omega : wy = 1 ∨ wy = 2 ∨ wy = 3) with rfl | rfl | rfl
  · exact ⟨_, reIdx1, by decide, rfl⟩
  · exact ⟨_, reIdx2, by decide, rfl⟩
  · exact ⟨_, reIdx3, by decide, rfl⟩
theorem text_c (k i g st wy tr nx : Int) (tag : ByteArray) (w : World) (hE : Env w) (g0 : 0 ≤ g) (g1 : g ≤ 4294967295) (hs : tag.size ≤ 1000000) : Ret 12 #[rV k i g st wy tr nx tag] w (textV k i g st wy tr nx tag) := by
  have c1 := fun w => rerr_c k i g st wy tr nx tag w g0 g1 hs
  unfold textV
  by_cases he : rErr k i g st wy tr nx tag = 0
  · rw [if_pos he]
    rw [he] at c1
    obtain ⟨hp, ht⟩ := rErr_zero he
    obtain ⟨hd, hst⟩ := pOk_out hp
    obtain ⟨d1, d2, d3, d4, d5⟩ := dOk_iff.1 hd
    have c2 := fun w hE => o_text_ok k i g w hE hd g0 g1
    have c3 := fun w => tquote_c tag w hs
    unfold quoteV at c3
    rw [if_pos ht] at c3
    have hO := dText_size 58 (k := k) (s := i) (g := g) (by omega) (by omega)
    have hQ : (⟨(quoteL tag.data.toList).toArray⟩ : ByteArray).size ≤ 10000000 := by
      rw [← len_bytes]
      have h1 := (escL_len tag.data.toList).2
      rw [len_bytes] at h1
      simp [quoteL]
      omega
    have hOl := dText_list 58 k i g
    have hQl : (⟨(quoteL tag.data.toList).toArray⟩ : ByteArray).data.toList = quoteL tag.data.toList := by simp
    rcases hst with rfl | rfl | rfl | rfl
    · have := text_1 k i g 1 wy tr nx tag sLive (dText 58 k i g) _ w hE ⟨by omega, by decide, hQ⟩ shIdx1 c1 c2 c3
      rw [hOl, hQl] at this
      exact this
    · obtain ⟨⟨b1, b2⟩, ⟨b3, b4⟩, ⟨b5, b6⟩, -⟩ := (pOk_iff5 hp) (by omega)
      obtain ⟨R, hR, hRs, hRl⟩ := reason_of wy b1 b2
      have hD := digits_size_le tr.toNat (by omega)
      have hD2 := digits_size_le nx.toNat (by omega)
      have := text_2 k i g 2 wy tr nx tag sClos (dText 58 k i g) _ R (digits tr.toNat) (digits nx.toNat) w hE ⟨by omega, by decide, hQ⟩ shIdx2 c1 c2 c3 hR (fun w hE => itoa_ret tr w hE b3 (by omega)) ⟨hRs, by omega, by omega⟩ (fun w hE => fmtint_c nx w hE b5 (by omega))
      rw [hOl, hQl, hRl, digits_list, digits_list] at this
      exact this
    · obtain ⟨⟨b1, b2⟩, ⟨b3, b4⟩, ⟨b5, b6⟩, -⟩ := (pOk_iff5 hp) (by omega)
      obtain ⟨R, hR, hRs, hRl⟩ := reason_of wy b1 b2
      have hD := digits_size_le tr.toNat (by omega)
      have := text_3 k i g 3 wy tr nx tag sRele (dText 58 k i g) _ R (digits tr.toNat) w hE ⟨by omega, by decide, hQ⟩ shIdx3 c1 c2 c3 hR (fun w hE => itoa_ret tr w hE b3 (by omega)) ⟨hRs, by omega⟩
      rw [hOl, hQl, hRl, digits_list] at this
      exact this
    · obtain ⟨⟨b1, b2⟩, ⟨b3, b4⟩, ⟨b5, b6⟩, -⟩ := (pOk_iff5 hp) (by omega)
      obtain ⟨R, hR, hRs, hRl⟩ := reason_of wy b1 b2
      have hD := digits_size_le tr.toNat (by omega)
      have := text_3 k i g 4 wy tr nx tag sQuar (dText 58 k i g) _ R (digits tr.toNat) w hE ⟨by omega, by decide, hQ⟩ shIdx4 c1 c2 c3 hR (fun w hE => itoa_ret tr w hE b3 (by omega)) ⟨hRs, by omega⟩
      rw [hOl, hQl, hRl, digits_list] at this
      exact this
  · rw [if_neg he]
    exact text_e k i g st wy tr nx _ tag w he c1
end Go.Proofs.YtgckfiadnmjonabGreatDoor

/- The reader of texts: need, word, number. -/
namespace Go.Proofs.YtgckfiadnmjonabGreatDoor
open Go.RowKit
set_option linter.unusedVariables false
set_option linter.unusedSimpArgs false
/-- What a reader panics with. -/
abbrev malf : List PanicEntry := [{ v := .iface 72 (.agg #[]), recovered := false }]
theorem need_t (w : World) : Calls Tryz.prog 51 #[.bool true] w fun e w' => e = .returned (.tuple #[]) ∧ w' = w := by
  go_enter Tryz.func51, Tryz.ntmps51
  go_wp2_with fail
  go_returns
  exact ⟨rfl, rfl⟩
theorem need_f (w : World) : Calls Tryz.prog 51 #[.bool false] w fun e w' => e = .panicked malf ∧ w' = w := by
  go_enter Tryz.func51, Tryz.ntmps51
  go_wp2_with fail
  simp [bodyPost]
theorem word_ok (p : Nat) (s : ByteArray) (pre post : List UInt8) (w : World) (hE : Env w) (hs : s.size ≤ 100000) (hr : Row w p #[.string s] 76) (hc : Lib.cut s.data.toList [32] = (pre, post, true)) :
    Calls Tryz.prog 50 #[.pointer (some ⟨p, 0, none⟩)] w fun e w' => e = .returned (.string ⟨pre.toArray⟩) ∧ ∃ w1, Below w.heap.size w w1 ∧ w' = w1.setCell ⟨p, 0, none⟩ (.string ⟨post.toArray⟩) := by
  have c := cut_c s 32 w hE hs
  rw [hc] at c
  have C := Lib.hid c
  have y0 := hr.cell
  have y1 := hr.lt
  clear c
  go_enter Tryz.func50, Tryz.ntmps50
  go_wp2_with fail
  clear y0 y1
  refine Calls.mono C.out ?_
  rintro e w1 ⟨rfl, hb⟩
  go_wp2_with fail
  refine Calls.mono (need_t _) ?_
  rintro e w2 ⟨rfl, rfl⟩
  have r2 := hr.on hb
  have y0 := r2.cell
  have y1 := r2.lt
  have y2 := r2.free
  go_wp2_with fail
  go_returns
  exact ⟨rfl, _, hb, rfl⟩
theorem word_no (p : Nat) (s : ByteArray) (pre post : List UInt8) (w : World) (hE : Env w) (hs : s.size ≤ 100000) (hr : Row w p #[.string s] 76) (hc : Lib.cut s.data.toList [32] = (pre, post, false)) :
    Calls Tryz.prog 50 #[.pointer (some ⟨p, 0, none⟩)] w fun e w' => e = .panicked malf ∧ Below w.heap.size w w' := by
  have c := cut_c s 32 w hE hs
  rw [hc] at c
  have C := Lib.hid c
  have y0 := hr.cell
  have y1 := hr.lt
  clear c
  go_enter Tryz.func50, Tryz.ntmps50
  go_wp2_with fail
  clear y0 y1
  refine Calls.mono C.out ?_
  rintro e w1 ⟨rfl, hb⟩
  go_wp2_with fail
  refine Calls.mono (need_f _) ?_
  rintro e w2 ⟨rfl, rfl⟩
  go_wp2_with fail
  simp [bodyPost]
  exact hb
end Go.Proofs.YtgckfiadnmjonabGreatDoor

/- The reader of texts: what a step leaves; number. -/
namespace Go.Proofs.YtgckfiadnmjonabGreatDoor
open Go.RowKit
set_option linter.unusedVariables false
set_option linter.unusedSimpArgs false
/-- The reader at p has moved on to s; whatever else was there stands. -/
structure Mv (p : Nat) (s : ByteArray) (w w' : World) : Prop where
  row : Row w' p #[.string s] 76
  keep : ∀ (x : Nat) (cs : Array Value) (t : TypeId), x ≠ p → Row w x cs t → Row w' x cs t
  below : ∀ (B : Nat) (w0 : World), B ≤ p → Below B w0 w → Below B w0 w'
  size : w.heap.size ≤ w'.heap.size
theorem Mv.on {p : Nat} {s : ByteArray} {w w1 w2 : World} (h : Mv p s w w1) (hb : Below w1.heap.size w1 w2) : Mv p s w w2 :=
  ⟨h.row.on hb, fun x cs t hx hr => (h.keep x cs t hx hr).on hb, fun B w0 hB hw => (h.below B w0 hB hw).trans (hb.mono (Nat.le_trans hB (Nat.le_of_lt h.row.lt))), Nat.le_trans h.size hb.size⟩
theorem Mv.trans {p : Nat} {s s' : ByteArray} {w w1 w2 : World} (h : Mv p s w w1) (k : Mv p s' w1 w2) : Mv p s' w w2 :=
  ⟨k.row, fun x cs t hx hr => k.keep x cs t hx (h.keep x cs t hx hr), fun B w0 hB hw => k.below B w0 hB (h.below B w0 hB hw), Nat.le_trans h.size k.size⟩
theorem mv_of {p : Nat} {s0 s : ByteArray} {w w1 : World} (hr : Row w p #[.string s0] 76) (hb : Below w.heap.size w w1) : Mv p s w (w1.setCell ⟨p, 0, none⟩ (.string s)) := by
  refine ⟨(hr.on hb).set 0 (.string s), fun x cs t hx h => (h.on hb).other hx.symm 0 _, fun B w0 hB hw => ?_, ?_⟩
  · exact (hw.trans (hb.mono (Nat.le_trans hB (Nat.le_of_lt hr.lt)))).setCell (p := ⟨p, 0, none⟩) hB _
  · have := hb.size
    simpa using this
theorem word_mv (p : Nat) (s : ByteArray) (pre post : List UInt8) (w : World) (hE : Env w) (hs : s.size ≤ 100000) (hr : Row w p #[.string s] 76) (hc : Lib.cut s.data.toList [32] = (pre, post, true)) :
    Calls Tryz.prog 50 #[.pointer (some ⟨p, 0, none⟩)] w fun e w' => e = .returned (.string ⟨pre.toArray⟩) ∧ Mv p ⟨post.toArray⟩ w w' :=
  (word_ok p s pre post w hE hs hr hc).mono fun e w' ⟨he, w1, hb, hw⟩ => ⟨he, by rw [hw]; exact mv_of hr hb⟩
end Go.Proofs.YtgckfiadnmjonabGreatDoor

/- The reader of texts: number. -/
namespace Go.Proofs.YtgckfiadnmjonabGreatDoor
open Go.RowKit
set_option linter.unusedVariables false
set_option linter.unusedSimpArgs false
/-- The reader at p may have moved; whatever else was there stands. -/
structure Kp (p : Nat) (w w' : World) : Prop where
  keep : ∀ (x : Nat) (cs : Array Value) (t : TypeId), x ≠ p → Row w x cs t → Row w' x cs t
  below : ∀ (B : Nat) (w0 : World), B ≤ p → Below B w0 w → Below B w0 w'
  size : w.heap.size ≤ w'.heap.size
theorem Mv.kp {p : Nat} {s : ByteArray} {w w1 : World} (h : Mv p s w w1) : Kp p w w1 := ⟨h.keep, h.below, h.size⟩
theorem kp_of {p : Nat} {w w1 : World} (hp : p < w.heap.size) (hb : Below w.heap.size w w1) : Kp p w w1 :=
  ⟨fun x cs t _ h => h.on hb, fun B w0 hB h => h.trans (hb.mono (Nat.le_trans hB (Nat.le_of_lt hp))), hb.size⟩
theorem Kp.trans {p : Nat} {w w1 w2 : World} (h : Kp p w w1) (k : Kp p w1 w2) : Kp p w w2 :=
  ⟨fun x cs t hx hr => k.keep x cs t hx (h.keep x cs t hx hr), fun B w0 hB hw => k.below B w0 hB (h.below B w0 hB hw), Nat.le_trans h.size k.size⟩
theorem number_ok (p : Nat) (s : ByteArray) (pre post : List UInt8) (n : Int) (w0 w : World) (hE0 : EnvP w0) (hB : Below w0.heap.size w0 w) (hp : w0.heap.size ≤ p) (hs : s.size ≤ 100000) (hps : pre.length ≤ 100000) (hr : Row w p #[.string s] 76) (hc : Lib.cut s.data.toList [32] = (pre, post, true)) (hn : Lib.parseIntB 64 pre = .ok n) (h0 : 0 ≤ n) (h1 : n ≤ 9223372036854775807) (hd : digits n.toNat = ⟨pre.toArray⟩) :
    Calls Tryz.prog 52 #[.pointer (some ⟨p, 0, none⟩)] w fun e w' => e = .returned (.int .i64 n) ∧ Mv p ⟨post.toArray⟩ w w' := by
  have C := Lib.hid (word_mv p s pre post w (hE0.on hB).toEnv hs hr hc)
  have D := fun w => Lib.hid (pint_ok ⟨pre.toArray⟩ (by exact hps) n (by exact hn) w)
  have e1 : decide (n ≥ 0) = true := by simpa using h0
  have e2 : ((⟨pre.toArray⟩ : ByteArray).toList == (digits n.toNat).toList) = true := by rw [hd]; exact beq_self_eq_true _
  have e3 : ((digits n.toNat).toList == (⟨pre.toArray⟩ : ByteArray).toList) = true := by rw [hd]; exact beq_self_eq_true _
  go_enter Tryz.func52, Tryz.ntmps52
  go_wp2_with fail
  refine Calls.mono C.out ?_
  rintro e w1 ⟨rfl, hm⟩
  go_wp2_with fail
  refine Calls.mono (D _).out ?_
  rintro e w2 ⟨rfl, hb⟩
  have hm2 := hm.on hb
  have F := Lib.hid (fmtint_c n w2 (hE0.on (hm2.below _ _ hp hB)).toEnv h0 h1)
  go_wp2_with fail
  refine Calls.mono F.out ?_
  rintro e w3 ⟨rfl, hb3⟩
  have hm3 := hm2.on hb3
  go_wp2_with fail
  refine Calls.mono (need_t _) ?_
  rintro e w4 ⟨rfl, rfl⟩
  go_wp2_with fail
  go_returns
  exact ⟨rfl, hm3⟩
theorem number_w (p : Nat) (s : ByteArray) (pre post : List UInt8) (w0 w : World) (hE0 : EnvP w0) (hB : Below w0.heap.size w0 w) (hp : w0.heap.size ≤ p) (hs : s.size ≤ 100000) (hr : Row w p #[.string s] 76) (hc : Lib.cut s.data.toList [32] = (pre, post, false)) :
    Calls Tryz.prog 52 #[.pointer (some ⟨p, 0, none⟩)] w fun e w' => e = .panicked malf ∧ Kp p w w' := by
  have C := Lib.hid (word_no p s pre post w (hE0.on hB).toEnv hs hr hc)
  go_enter Tryz.func52, Tryz.ntmps52
  go_wp2_with fail
  refine Calls.mono C.out ?_
  rintro e w1 ⟨rfl, hm⟩
  go_wp2_with fail
  simp [bodyPost]
  exact kp_of hr.lt hm
theorem number_p (p : Nat) (s : ByteArray) (pre post : List UInt8) (w0 w : World) (hE0 : EnvP w0) (hB : Below w0.heap.size w0 w) (hp : w0.heap.size ≤ p) (hs : s.size ≤ 100000) (hr : Row w p #[.string s] 76) (hps : pre.length ≤ 100000) (hc : Lib.cut s.data.toList [32] = (pre, post, true)) (hn : ∀ v, Lib.parseIntB 64 pre ≠ .ok v) :
    Calls Tryz.prog 52 #[.pointer (some ⟨p, 0, none⟩)] w fun e w' => e = .panicked malf ∧ Kp p w w' := by
  have C := Lib.hid (word_mv p s pre post w (hE0.on hB).toEnv hs hr hc)
  have D := fun w hE => Lib.hid (pint_bad ⟨pre.toArray⟩ (by exact hps) (by exact hn) w hE)
  go_enter Tryz.func52, Tryz.ntmps52
  go_wp2_with fail
  refine Calls.mono C.out ?_
  rintro e w1 ⟨rfl, hm⟩
  go_wp2_with fail
  refine Calls.mono (D _ (hE0.on (hm.below _ _ hp hB))).out ?_
  rintro e w2 ⟨n, N, rfl, hb⟩
  have hm2 := hm.on hb
  go_wp2_with fail
  refine Calls.mono (need_f _) ?_
  rintro e w4 ⟨rfl, rfl⟩
  go_wp2_with fail
  simp [bodyPost]
  exact hm2.kp
theorem number_n (p : Nat) (s : ByteArray) (pre post : List UInt8) (w0 w : World) (hE0 : EnvP w0) (hB : Below w0.heap.size w0 w) (hp : w0.heap.size ≤ p) (hs : s.size ≤ 100000) (hr : Row w p #[.string s] 76) (hps : pre.length ≤ 100000) (hc : Lib.cut s.data.toList [32] = (pre, post, true)) (n : Int) (hn : Lib.parseIntB 64 pre = .ok n) (h0 : n < 0) :
    Calls Tryz.prog 52 #[.pointer (some ⟨p, 0, none⟩)] w fun e w' => e = .panicked malf ∧ Kp p w w' := by
  have C := Lib.hid (word_mv p s pre post w (hE0.on hB).toEnv hs hr hc)
  have D := fun w => Lib.hid (pint_ok ⟨pre.toArray⟩ (by exact hps) n (by exact hn) w)
  have e1 : decide (n ≥ 0) = false := by simpa using h0
  go_enter Tryz.func52, Tryz.ntmps52
  go_wp2_with fail
  refine Calls.mono C.out ?_
  rintro e w1 ⟨rfl, hm⟩
  go_wp2_with fail
  refine Calls.mono (D _).out ?_
  rintro e w2 ⟨rfl, hb⟩
  have hm2 := hm.on hb
  go_wp2_with fail
  refine Calls.mono (need_f _) ?_
  rintro e w4 ⟨rfl, rfl⟩
  go_wp2_with fail
  simp [bodyPost]
  exact hm2.kp
theorem number_d (p : Nat) (s : ByteArray) (pre post : List UInt8) (w0 w : World) (hE0 : EnvP w0) (hB : Below w0.heap.size w0 w) (hp : w0.heap.size ≤ p) (hs : s.size ≤ 100000) (hr : Row w p #[.string s] 76) (hps : pre.length ≤ 100000) (hc : Lib.cut s.data.toList [32] = (pre, post, true)) (n : Int) (hn : Lib.parseIntB 64 pre = .ok n) (h0 : 0 ≤ n) (h1 : n ≤ 9223372036854775807) (hd : digits n.toNat ≠ ⟨pre.toArray⟩) :
    Calls Tryz.prog 52 #[.pointer (some ⟨p, 0, none⟩)] w fun e w' => e = .panicked malf ∧ Kp p w w' := by
  have C := Lib.hid (word_mv p s pre post w (hE0.on hB).toEnv hs hr hc)
  have D := fun w => Lib.hid (pint_ok ⟨pre.toArray⟩ (by exact hps) n (by exact hn) w)
  have e1 : decide (n ≥ 0) = true := by simpa using h0
  have e3 : ((digits n.toNat).toList == pre) = false := by
    have := str_beq_ne hd
    rw [ByteArray.toList_eq (⟨pre.toArray⟩ : ByteArray)] at this
    exact this
  go_enter Tryz.func52, Tryz.ntmps52
  go_wp2_with fail
  refine Calls.mono C.out ?_
  rintro e w1 ⟨rfl, hm⟩
  go_wp2_with fail
  refine Calls.mono (D _).out ?_
  rintro e w2 ⟨rfl, hb⟩
  have hm2 := hm.on hb
  have F := Lib.hid (fmtint_c n w2 (hE0.on (hm2.below _ _ hp hB)).toEnv h0 h1)
  go_wp2_with fail
  refine Calls.mono F.out ?_
  rintro e w3 ⟨rfl, hb3⟩
  have hm3 := hm2.on hb3
  go_wp2_with fail
  refine Calls.mono (need_f _) ?_
  rintro e w4 ⟨rfl, rfl⟩
  go_wp2_with fail
  simp [bodyPost]
  exact hm3.kp
end Go.Proofs.YtgckfiadnmjonabGreatDoor

/- The reader of texts: word and number, one contract each. -/
namespace Go.Proofs.YtgckfiadnmjonabGreatDoor
open Go.RowKit Lib
set_option linter.unusedVariables false
set_option linter.unusedSimpArgs false
/-- A text that begins with a number's digits and a space. -/
def IsN (s : List UInt8) (n : Int) (post : List UInt8) : Prop := 0 ≤ n ∧ n ≤ 9223372036854775807 ∧ s = decDigits n.toNat ++ 32 :: post
theorem word_both (p : Nat) (s : ByteArray) (w : World) (hE : Env w) (hs : s.size ≤ 100000) (hr : Row w p #[.string s] 76) :
    Calls Tryz.prog 50 #[.pointer (some ⟨p, 0, none⟩)] w fun e w' =>
      (∃ pre post, (32 : UInt8) ∉ pre ∧ s.data.toList = pre ++ 32 :: post ∧ e = .returned (.string ⟨pre.toArray⟩) ∧ Mv p ⟨post.toArray⟩ w w') ∨ ((32 : UInt8) ∉ s.data.toList ∧ e = .panicked malf ∧ Kp p w w') := by
  by_cases h : (32 : UInt8) ∈ s.data.toList
  · obtain ⟨pre, post, hl, hn⟩ := List.eq_append_cons_of_mem h
    exact (word_mv p s pre post w hE hs hr (by rw [hl]; exact cut_at _ _ _ hn)).mono fun e w' ⟨he, hm⟩ => .inl ⟨pre, post, hn, hl, he, hm⟩
  · exact (word_no p s _ _ w hE hs hr (cut_no _ _ h)).mono fun e w' ⟨he, hb⟩ => .inr ⟨h, he, kp_of hr.lt hb⟩
theorem number_both (p : Nat) (s : ByteArray) (w0 w : World) (hE0 : EnvP w0) (hB : Below w0.heap.size w0 w) (hp : w0.heap.size ≤ p) (hs : s.size ≤ 100000) (hr : Row w p #[.string s] 76) :
    Calls Tryz.prog 52 #[.pointer (some ⟨p, 0, none⟩)] w fun e w' =>
      (∃ n post, IsN s.data.toList n post ∧ e = .returned (.int .i64 n) ∧ Mv p ⟨post.toArray⟩ w w') ∨ ((∀ n post, ¬ IsN s.data.toList n post) ∧ e = .panicked malf ∧ Kp p w w') := by
  by_cases h : (32 : UInt8) ∈ s.data.toList
  · obtain ⟨pre, post, hl, hn⟩ := List.eq_append_cons_of_mem h
    have hc : cut s.data.toList [32] = (pre, post, true) := by rw [hl]; exact cut_at _ _ _ hn
    have hps : pre.length ≤ 100000 := by
      have := congrArg List.length hl
      rw [len_bytes] at this
      simp at this
      omega
    have only : ∀ n post', IsN s.data.toList n post' → pre = decDigits n.toNat ∧ post = post' := fun n post' ⟨_, _, h3⟩ => by
      rw [h3, cut_at _ _ _ (not_mem_dec (by decide))] at hc
      cases hc
      exact ⟨rfl, rfl⟩
    cases hq : parseIntB 64 pre with
    | ok n =>
      have hb := parseIntB_bounds hq
      have h1 : n ≤ 9223372036854775807 := by
        have := hb.2
        simp at this
        omega
      by_cases h0 : n < 0
      · refine (number_n p s pre post w0 w hE0 hB hp hs hr hps hc n hq h0).mono fun e w' ⟨he, hk⟩ => .inr ⟨fun m post' hm => ?_, he, hk⟩
        obtain ⟨rfl, rfl⟩ := only _ _ hm
        rw [parseIntB_64, atoi_dec _ (by have := hm.1; have := hm.2.1; omega)] at hq
        cases hq
        omega
      · by_cases hd : decDigits n.toNat = pre
        · exact (number_ok p s pre post n w0 w hE0 hB hp hs hps hr hc hq (by omega) h1 (str_ext (by rw [digits_list, hd]))).mono fun e w' ⟨he, hm⟩ => .inl ⟨n, post, ⟨by omega, h1, by rw [hd]; exact hl⟩, he, hm⟩
        · refine (number_d p s pre post w0 w hE0 hB hp hs hr hps hc n hq (by omega) h1 (fun e => hd (by rw [← digits_list, e]))).mono fun e w' ⟨he, hk⟩ => .inr ⟨fun m post' hm => ?_, he, hk⟩
          obtain ⟨rfl, rfl⟩ := only _ _ hm
          rw [parseIntB_64, atoi_dec _ (by have := hm.1; have := hm.2.1; omega)] at hq
          cases hq
          exact hd (by rw [Int.toNat_natCast])
    | _ =>
      refine (number_p p s pre post w0 w hE0 hB hp hs hr hps hc (fun v hv => by rw [hq] at hv; cases hv)).mono fun e w' ⟨he, hk⟩ => .inr ⟨fun m post' hm => ?_, he, hk⟩
      obtain ⟨rfl, rfl⟩ := only _ _ hm
      rw [parseIntB_64, atoi_dec _ (by have := hm.1; have := hm.2.1; omega)] at hq
      cases hq
  · refine (number_w p s _ _ w0 w hE0 hB hp hs hr (cut_no _ _ h)).mono fun e w' ⟨he, hb⟩ => .inr ⟨fun n post ⟨_, _, h3⟩ => h (by rw [h3]; simp), he, hb⟩
end Go.Proofs.YtgckfiadnmjonabGreatDoor

/- Texts of resources: what each part that is read decides (plain). -/
namespace Go.Proofs.YtgckfiadnmjonabGreatDoor
open Go.RowKit Lib
set_option linter.unusedVariables false
set_option linter.unusedSimpArgs false
/-- The parts of a possible resource whose text is s. -/
def IsR (k i g st wy tr nx : Int) (tag : ByteArray) (s : List UInt8) : Prop := (0 ≤ g ∧ g ≤ 4294967295) ∧ rErr k i g st wy tr nx tag = 0 ∧ rsL k i g st wy tr nx tag.data.toList = s
theorem stL_inj {a b : Int} (ha : a = 1 ∨ a = 2 ∨ a = 3 ∨ a = 4) (hb : b = 1 ∨ b = 2 ∨ b = 3 ∨ b = 4) (h : stL a = stL b) : a = b := by
  rcases ha with rfl | rfl | rfl | rfl <;> rcases hb with rfl | rfl | rfl | rfl <;> first | rfl | (exfalso; revert h; decide)
theorem whL_inj {a b : Int} (ha : a = 1 ∨ a = 2 ∨ a = 3) (hb : b = 1 ∨ b = 2 ∨ b = 3) (h : whL a = whL b) : a = b := by
  rcases ha with rfl | rfl | rfl <;> rcases hb with rfl | rfl | rfl <;> first | rfl | (exfalso; revert h; decide)
/-- What a possible resource's parts are, where its text has been cut twice. -/
structure Cuts (k i g st wy tr nx : Int) (tag x1 x2 l2 : List UInt8) : Prop where
  out : dTextL 58 k i g = x1
  word2 : stL st = x2
  rest : tail2 st wy tr nx tag = l2
  ok : pOk k i g st wy tr nx = true
  tag : tagOk tag = true
  g0 : 0 ≤ g
  g1 : g ≤ 4294967295
theorem isR_cuts {k i g st wy tr nx : Int} {tag : ByteArray} {s x1 l1 x2 l2 : List UInt8} (h : IsR k i g st wy tr nx tag s) (h1 : (32 : UInt8) ∉ x1) (e1 : s = x1 ++ 32 :: l1) (h2 : (32 : UInt8) ∉ x2) (e2 : l1 = x2 ++ 32 :: l2) : Cuts k i g st wy tr nx tag.data.toList x1 x2 l2 := by
  obtain ⟨⟨g0, g1⟩, he, hq⟩ := h
  have hc : cut s [32] = (x1, l1, true) := by rw [e1]; exact cut_at _ _ _ h1
  rw [← hq, rsL_cut] at hc
  have hx1 : dTextL 58 k i g = x1 := congrArg Prod.fst hc
  have hl1 : stL st ++ 32 :: tail2 st wy tr nx tag.data.toList = l1 := congrArg (fun z => z.2.1) hc
  have hc2 : cut l1 [32] = (x2, l2, true) := by rw [e2]; exact cut_at _ _ _ h2
  rw [← hl1, rsL_cut2] at hc2
  have hz := rErr_zero he
  exact ⟨hx1, congrArg Prod.fst hc2, congrArg (fun z => z.2.1) hc2, hz.1, hz.2, g0, g1⟩
theorem Cuts.state {k i g st wy tr nx : Int} {tag x1 x2 l2 : List UInt8} (h : Cuts k i g st wy tr nx tag x1 x2 l2) : st = 1 ∨ st = 2 ∨ st = 3 ∨ st = 4 := (pOk_out h.ok).2
/-- Beside live: the ranges. -/
theorem Cuts.range {k i g st wy tr nx : Int} {tag x1 x2 l2 : List UInt8} (h : Cuts k i g st wy tr nx tag x1 x2 l2) (h1 : st ≠ 1) : (wy = 1 ∨ wy = 2 ∨ wy = 3) ∧ (0 ≤ tr ∧ tr ≤ 10000) ∧ (0 ≤ nx ∧ nx ≤ 1099511627776) ∧ (st = 2 ∨ nx = 0) := by
  have ho := h.ok
  have hd := (pOk_out ho).1
  rcases h.state with rfl | rfl | rfl | rfl
  · exact absurd rfl h1
  · rw [pOk_2 hd] at ho
    simp only [Bool.and_eq_true, inB_iff, isT_iff] at ho
    exact ⟨by omega, by omega, by omega, .inl rfl⟩
  · rw [pOk_34 hd (.inl rfl)] at ho
    simp only [Bool.and_eq_true, inB_iff, isT_iff, decide_eq_true_iff] at ho
    exact ⟨by omega, by omega, by omega, .inr (by omega)⟩
  · rw [pOk_34 hd (.inr rfl)] at ho
    simp only [Bool.and_eq_true, inB_iff, isT_iff, decide_eq_true_iff] at ho
    exact ⟨by omega, by omega, by omega, .inr (by omega)⟩
/-- Live: the rest are noughts. -/
theorem Cuts.live {k i g wy tr nx : Int} {tag x1 x2 l2 : List UInt8} (h : Cuts k i g 1 wy tr nx tag x1 x2 l2) : wy = 0 ∧ tr = 0 ∧ nx = 0 ∧ quoteL tag = l2 := by
  have ho := h.ok
  have hd := (pOk_out ho).1
  rw [pOk_1 hd] at ho
  simp only [Bool.and_eq_true, inB_iff, isT_iff, decide_eq_true_iff] at ho
  refine ⟨by omega, by omega, by omega, ?_⟩
  rw [← h.rest, tail2_one]
/-- Beside live: a word and a number follow. -/
theorem Cuts.more {k i g st wy tr nx : Int} {tag x1 x2 l2 : List UInt8} (h : Cuts k i g st wy tr nx tag x1 x2 l2) (h1 : st ≠ 1) : l2 = whL wy ++ 32 :: (decDigits tr.toNat ++ 32 :: tail4 st nx tag) := by
  rw [← h.rest]
  unfold tail2
  rw [if_neg h1]
theorem Cuts.word {k i g st wy tr nx : Int} {tag x1 x2 l2 x3 l3 : List UInt8} (h : Cuts k i g st wy tr nx tag x1 x2 l2) (h1 : st ≠ 1) (h3 : (32 : UInt8) ∉ x3) (e3 : l2 = x3 ++ 32 :: l3) : whL wy = x3 ∧ l3 = decDigits tr.toNat ++ 32 :: tail4 st nx tag := by
  have hc : cut l2 [32] = (x3, l3, true) := by rw [e3]; exact cut_at _ _ _ h3
  rw [← h.rest, tail2_cut _ _ _ _ _ h1] at hc
  exact ⟨congrArg Prod.fst hc, (congrArg (fun z => z.2.1) hc).symm⟩
theorem isN_unique {l post post' : List UInt8} {n n' : Int} (h : IsN l n post) (h' : IsN l n' post') : n = n' ∧ post = post' := by
  obtain ⟨a1, a2, a3⟩ := h
  obtain ⟨b1, b2, b3⟩ := h'
  have hc : cut l [32] = (decDigits n.toNat, post, true) := by rw [a3]; exact cut_at _ _ _ (not_mem_dec (by decide))
  rw [b3, cut_at _ _ _ (not_mem_dec (by decide))] at hc
  have e1 := decDigits_inj (congrArg Prod.fst hc)
  have e2 : post' = post := congrArg (fun z => z.2.1) hc
  exact ⟨by omega, e2.symm⟩
theorem Cuts.num {k i g st wy tr nx : Int} {tag x1 x2 l2 x3 l3 : List UInt8} (h : Cuts k i g st wy tr nx tag x1 x2 l2) (h1 : st ≠ 1) (h3 : (32 : UInt8) ∉ x3) (e3 : l2 = x3 ++ 32 :: l3) : IsN l3 tr (tail4 st nx tag) := by
  have := (h.range h1).2.1
  exact ⟨by omega, by omega, (h.word h1 h3 e3).2⟩
theorem Cuts.num2 {k i g wy tr nx : Int} {tag x1 x2 l2 x3 l3 : List UInt8} (h : Cuts k i g 2 wy tr nx tag x1 x2 l2) (h3 : (32 : UInt8) ∉ x3) (e3 : l2 = x3 ++ 32 :: l3) : IsN (tail4 2 nx tag) nx (quoteL tag) := by
  have := (h.range (by decide)).2.2.1
  exact ⟨by omega, by omega, by unfold tail4; rw [if_pos rfl]⟩
/-- The parts known so far, of the text s: whatever possible resource has this text has them, and ends in lX; with a tag whose quoted text is lX they make this text. -/
structure Rd (k i g st wy tr nx : Int) (lX s : List UInt8) : Prop where
  only : ∀ k' i' g' st' wy' tr' nx' tag', IsR k' i' g' st' wy' tr' nx' tag' s → st' = st ∧ wy' = wy ∧ tr' = tr ∧ nx' = nx ∧ k' = k ∧ i' = i ∧ g' = g ∧ quoteL tag'.data.toList = lX
  full : ∀ tag : List UInt8, (st = 1 ∨ wy = 1 ∨ wy = 2 ∨ wy = 3) → quoteL tag = lX → rsL k i g st wy tr nx tag = s
theorem Cuts.outer {k i g st wy tr nx k' i' g' : Int} {tag x1 x2 l2 : List UInt8} (h : Cuts k' i' g' st wy tr nx tag x1 x2 l2) (hD : IsD 58 64 x1 k i g) : k' = k ∧ i' = i ∧ g' = g := by
  have := IsD.unique (by simp [sgn]) hD ⟨(pOk_out h.ok).1, h.g1, h.g0, h.out.symm⟩
  omega
theorem rd_live {k i g : Int} {s x1 l1 l2 : List UInt8} (hD : IsD 58 64 x1 k i g) (h1 : (32 : UInt8) ∉ x1) (e1 : s = x1 ++ 32 :: l1) (e2 : l1 = stL 1 ++ 32 :: l2) : Rd k i g 1 0 0 0 l2 s := by
  refine ⟨fun k' i' g' st' wy' tr' nx' tag' h => ?_, fun tag _ hq => ?_⟩
  · have hc := isR_cuts h h1 e1 (no32_st 1) e2
    obtain rfl := stL_inj hc.state (.inl rfl) hc.word2
    have := hc.live
    have := hc.outer hD
    exact ⟨rfl, by omega, by omega, by omega, by omega, by omega, by omega, hc.live.2.2.2⟩
  · rw [rsL_eq, tail2_one, hq, e1, e2, hD.eq]
theorem rd_two {k i g n m wy : Int} {s x1 l1 l2 x3 l3 l4 l5 : List UInt8} (hD : IsD 58 64 x1 k i g) (h1 : (32 : UInt8) ∉ x1) (e1 : s = x1 ++ 32 :: l1) (e2 : l1 = stL 2 ++ 32 :: l2) (h3 : (32 : UInt8) ∉ x3) (e3 : l2 = x3 ++ 32 :: l3)
    (hw : (wy = 0 ∧ x3 ≠ whL 1 ∧ x3 ≠ whL 2 ∧ x3 ≠ whL 3) ∨ ((wy = 1 ∨ wy = 2 ∨ wy = 3) ∧ x3 = whL wy)) (e4 : IsN l3 n l4) (e5 : IsN l4 m l5) : Rd k i g 2 wy n m l5 s := by
  refine ⟨fun k' i' g' st' wy' tr' nx' tag' h => ?_, fun tag hy hq => ?_⟩
  · have hc := isR_cuts h h1 e1 (no32_st 2) e2
    obtain rfl := stL_inj hc.state (.inr (.inl rfl)) hc.word2
    have hr := hc.range (by decide)
    have hx := (hc.word (by decide) h3 e3).1
    obtain ⟨n1, n2⟩ := isN_unique e4 (hc.num (by decide) h3 e3)
    rw [n2] at e5
    obtain ⟨m1, m2⟩ := isN_unique e5 (hc.num2 h3 e3)
    have hout := hc.outer hD
    have hwy : wy' = wy := by
      rcases hw with ⟨rfl, a, b, c⟩ | ⟨hy, hz⟩
      · exfalso
        rcases hr.1 with rfl | rfl | rfl
        · exact a hx.symm
        · exact b hx.symm
        · exact c hx.symm
      · exact whL_inj hr.1 hy (by rw [hx, hz])
    exact ⟨rfl, hwy, n1.symm, m1.symm, by omega, by omega, by omega, m2.symm⟩
  · have hz : x3 = whL wy := by
      rcases hw with ⟨rfl, _⟩ | ⟨_, hz⟩
      · omega
      · exact hz
    rw [rsL_eq, e1, e2, e3, hz, e4.2.2, e5.2.2, hD.eq]
    unfold tail2 tail4
    rw [if_neg (by decide), if_pos rfl, hq]
theorem rd_done {k i g n wy st : Int} {s x1 l1 l2 x3 l3 l4 : List UInt8} (hst : st = 3 ∨ st = 4) (hD : IsD 58 64 x1 k i g) (h1 : (32 : UInt8) ∉ x1) (e1 : s = x1 ++ 32 :: l1) (e2 : l1 = stL st ++ 32 :: l2) (h3 : (32 : UInt8) ∉ x3) (e3 : l2 = x3 ++ 32 :: l3)
    (hw : (wy = 0 ∧ x3 ≠ whL 1 ∧ x3 ≠ whL 2 ∧ x3 ≠ whL 3) ∨ ((wy = 1 ∨ wy = 2 ∨ wy = 3) ∧ x3 = whL wy)) (e4 : IsN l3 n l4) : Rd k i g st wy n 0 l4 s := by
  refine ⟨fun k' i' g' st' wy' tr' nx' tag' h => ?_, fun tag hy hq => ?_⟩
  · have hc := isR_cuts h h1 e1 (no32_st st) e2
    obtain rfl := stL_inj (b := st) hc.state (by omega) hc.word2
    have hr := hc.range (show st' ≠ 1 by omega)
    have hx := (hc.word (by omega) h3 e3).1
    obtain ⟨n1, n2⟩ := isN_unique e4 (hc.num (by omega) h3 e3)
    rw [tail4_else (by omega)] at n2
    have hout := hc.outer hD
    have hwy : wy' = wy := by
      rcases hw with ⟨rfl, a, b, c⟩ | ⟨hy, hz⟩
      · exfalso
        rcases hr.1 with rfl | rfl | rfl
        · exact a hx.symm
        · exact b hx.symm
        · exact c hx.symm
      · exact whL_inj hr.1 hy (by rw [hx, hz])
    exact ⟨rfl, hwy, n1.symm, by omega, by omega, by omega, by omega, n2.symm⟩
  · have hz : x3 = whL wy := by
      rcases hw with ⟨rfl, _⟩ | ⟨_, hz⟩
      · omega
      · exact hz
    rw [rsL_eq, e1, e2, e3, hz, e4.2.2, hD.eq]
    unfold tail2
    rw [if_neg (by omega), tail4_else (by omega), hq]
/-- The end: what is read is the resource. -/
theorem rd_is {k i g st wy tr nx : Int} {lX s : List UInt8} {tag : ByteArray} (h : Rd k i g st wy tr nx lX s) (g0 : 0 ≤ g) (g1 : g ≤ 4294967295) (hq : quoteL tag.data.toList = lX) (he : rErr k i g st wy tr nx tag = 0) : IsR k i g st wy tr nx tag s := by
  refine ⟨⟨g0, g1⟩, he, h.full _ ?_ hq⟩
  have ho := (rErr_zero he).1
  have hd := (pOk_out ho).1
  rcases (pOk_out ho).2 with rfl | rfl | rfl | rfl
  · exact .inl rfl
  · rw [pOk_2 hd] at ho
    simp only [Bool.and_eq_true, inB_iff, isT_iff] at ho
    omega
  · rw [pOk_34 hd (.inl rfl)] at ho
    simp only [Bool.and_eq_true, inB_iff, isT_iff, decide_eq_true_iff] at ho
    omega
  · rw [pOk_34 hd (.inr rfl)] at ho
    simp only [Bool.and_eq_true, inB_iff, isT_iff, decide_eq_true_iff] at ho
    omega
/-- The end: nothing has this text where the tag does not come out. -/
theorem rd_not {k i g st wy tr nx : Int} {lX s : List UInt8} (h : Rd k i g st wy tr nx lX s) (hb : ∀ tag : ByteArray, quoteL tag.data.toList = lX → tagOk tag.data.toList = true → rErr k i g st wy tr nx tag ≠ 0) : ∀ k' i' g' st' wy' tr' nx' tag', ¬ IsR k' i' g' st' wy' tr' nx' tag' s := by
  intro k' i' g' st' wy' tr' nx' tag' hr
  obtain ⟨rfl, rfl, rfl, rfl, rfl, rfl, rfl, hq⟩ := h.only _ _ _ _ _ _ _ _ hr
  exact hb tag' hq (rErr_zero hr.2.1).2 hr.2.1
/-- One text, one resource. -/
theorem isR_unique {k i g st wy tr nx k' i' g' st' wy' tr' nx' : Int} {tag tag' : ByteArray} {s : List UInt8} (h : IsR k i g st wy tr nx tag s) (h' : IsR k' i' g' st' wy' tr' nx' tag' s) : k' = k ∧ i' = i ∧ g' = g ∧ st' = st ∧ wy' = wy ∧ tr' = tr ∧ nx' = nx ∧ tag' = tag := by
  have e1 : s = dTextL 58 k i g ++ 32 :: (stL st ++ 32 :: tail2 st wy tr nx tag.data.toList) := by rw [← h.2.2, rsL_eq]
  have hc := isR_cuts h (no32_out k i g) e1 (no32_st st) rfl
  have hc' := isR_cuts h' (no32_out k i g) e1 (no32_st st) rfl
  have hD : IsD 58 64 (dTextL 58 k i g) k i g := ⟨(pOk_out hc.ok).1, hc.g1, hc.g0, rfl⟩
  have ho := hc'.outer hD
  obtain rfl := stL_inj hc'.state hc.state hc'.word2
  by_cases h1 : st' = 1
  · subst h1
    have a := hc.live
    have b := hc'.live
    exact ⟨by omega, by omega, by omega, rfl, by omega, by omega, by omega, str_ext (quoteL_inj (by rw [b.2.2.2, a.2.2.2]))⟩
  · have m := hc.more h1
    have w' := hc'.word h1 (no32_wh wy) m
    have hr := hc.range h1
    have hr' := hc'.range h1
    have hw := whL_inj hr'.1 hr.1 w'.1
    obtain ⟨n1, n2⟩ := isN_unique (hc.num h1 (no32_wh wy) m) (hc'.num h1 (no32_wh wy) m)
    by_cases h2 : st' = 2
    · subst h2
      have p := hc.num2 (no32_wh wy) m
      have q := hc'.num2 (no32_wh wy) m
      rw [n2] at p
      obtain ⟨m1, m2⟩ := isN_unique p q
      exact ⟨by omega, by omega, by omega, rfl, hw, by omega, by omega, str_ext (quoteL_inj m2.symm)⟩
    · rw [tail4_else h2, tail4_else h2] at n2
      exact ⟨by omega, by omega, by omega, rfl, hw, by omega, by omega, str_ext (quoteL_inj n2.symm)⟩
theorem scanL_len {l x : List UInt8} {n : Nat} (h : scanL l = some (x, n)) : x.length ≤ l.length := by
  obtain ⟨_, t, ht⟩ := scanL_some l.length l x n (Nat.le_refl _) h
  rw [ht, List.length_append, List.length_cons]
  have := escL_len x
  omega
theorem unqL_len (l : List UInt8) : (unqL l).1.length ≤ l.length := by
  unfold unqL
  split
  · rename_i t
    cases hx : scanL t with
    | none => simp
    | some p =>
      obtain ⟨x, n⟩ := p
      have := scanL_len hx
      simp only
      split
      · simp; omega
      · simp
  · simp
end Go.Proofs.YtgckfiadnmjonabGreatDoor

/- Equality of resources and of outer resources, as Go's == and != give it. -/
namespace Go.Proofs.YtgckfiadnmjonabGreatDoor
open Go.RowKit
set_option linter.unusedVariables false
set_option linter.unusedSimpArgs false
theorem req_F (k i g st wy tr nx : Int) (tag : ByteArray) : ∀ W, (binOp .eql 27 (rV k i g st wy tr nx tag) (rV k i g st wy tr nx tag)).run Tryz.prog W = .ok (.bool true) W := by
  intro W
  go_simp
theorem rne_F (k i g st wy tr nx : Int) (tag : ByteArray) : ∀ W, (binOp .neq 27 (rV k i g st wy tr nx tag) (rV k i g st wy tr nx tag)).run Tryz.prog W = .ok (.bool false) W := by
  intro W
  go_simp
end Go.Proofs.YtgckfiadnmjonabGreatDoor

/- Texts a byte beside a resource's text are none (plain). -/
namespace Go.Proofs.YtgckfiadnmjonabGreatDoor
open Go.RowKit Lib
set_option linter.unusedVariables false
set_option linter.unusedSimpArgs false
/-- The text up to the tag, and that whatever follows it is known to be the tag's. -/
theorem rd_any {k i g st wy tr nx : Int} {tag : ByteArray} {s : List UInt8} (h : IsR k i g st wy tr nx tag s) : ∃ pre, s = pre ++ quoteL tag.data.toList ∧ ∀ lX, Rd k i g st wy tr nx lX (pre ++ lX) := by
  have e1 : s = dTextL 58 k i g ++ 32 :: (stL st ++ 32 :: tail2 st wy tr nx tag.data.toList) := by rw [← h.2.2, rsL_eq]
  have hc := isR_cuts h (no32_out k i g) e1 (no32_st st) rfl
  have hD : IsD 58 64 (dTextL 58 k i g) k i g := ⟨(pOk_out hc.ok).1, hc.g1, hc.g0, rfl⟩
  by_cases h1 : st = 1
  · subst h1
    obtain ⟨rfl, rfl, rfl, hq⟩ := hc.live
    refine ⟨dTextL 58 k i g ++ 32 :: (stL 1 ++ [32]), ?_, fun lX => ?_⟩
    · rw [e1, ← hq]; simp
    · exact rd_live hD (no32_out k i g) (l1 := stL 1 ++ 32 :: lX) (by simp) rfl
  · have hr := hc.range h1
    have m := hc.more h1
    by_cases h2 : st = 2
    · subst h2
      refine ⟨dTextL 58 k i g ++ 32 :: (stL 2 ++ 32 :: (whL wy ++ 32 :: (decDigits tr.toNat ++ 32 :: (decDigits nx.toNat ++ [32])))), ?_, fun lX => ?_⟩
      · rw [e1, m]; unfold tail4; rw [if_pos rfl]; simp
      · exact rd_two hD (no32_out k i g) (l1 := stL 2 ++ 32 :: (whL wy ++ 32 :: (decDigits tr.toNat ++ 32 :: (decDigits nx.toNat ++ 32 :: lX)))) (by simp) rfl (no32_wh wy) rfl (.inr ⟨hr.1, rfl⟩) ⟨by omega, by omega, rfl⟩ ⟨by omega, by omega, rfl⟩
    · have hn : nx = 0 := by omega
      subst hn
      refine ⟨dTextL 58 k i g ++ 32 :: (stL st ++ 32 :: (whL wy ++ 32 :: (decDigits tr.toNat ++ [32]))), ?_, fun lX => ?_⟩
      · rw [e1, m, tail4_else h2]; simp
      · exact rd_done (by have := hc.state; omega) hD (no32_out k i g) (l1 := stL st ++ 32 :: (whL wy ++ 32 :: (decDigits tr.toNat ++ 32 :: lX))) (by simp) rfl (no32_wh wy) rfl (.inr ⟨hr.1, rfl⟩) ⟨by omega, by omega, rfl⟩
/-- A space behind it. -/
theorem bad_more {k i g st wy tr nx : Int} {tag : ByteArray} {s : List UInt8} (h : IsR k i g st wy tr nx tag s) : ∀ k' i' g' st' wy' tr' nx' tag', ¬ IsR k' i' g' st' wy' tr' nx' tag' (s ++ [32]) := by
  intro k' i' g' st' wy' tr' nx' tag' hr
  obtain ⟨pre, hs, hR⟩ := rd_any h
  have := (hR (quoteL tag.data.toList ++ [32])).only k' i' g' st' wy' tr' nx' tag' (by rw [← List.append_assoc, ← hs]; exact hr)
  have hq := congrArg List.getLast? this.2.2.2.2.2.2.2
  have q1 : (quoteL tag'.data.toList).getLast? = some 34 := by unfold quoteL; rw [← List.cons_append, List.getLast?_concat]
  rw [q1, List.getLast?_concat] at hq
  injection hq with hq
  cases hq
/-- The last byte taken away. -/
theorem bad_less {k i g st wy tr nx : Int} {tag : ByteArray} {s t : List UInt8} (h : IsR k i g st wy tr nx tag s) (ht : s = t ++ [34]) : ∀ k' i' g' st' wy' tr' nx' tag', ¬ IsR k' i' g' st' wy' tr' nx' tag' t := by
  intro k' i' g' st' wy' tr' nx' tag' hr
  obtain ⟨pre, hs, hR⟩ := rd_any h
  have e : t = pre ++ 34 :: escL tag.data.toList := by
    have : t ++ [34] = (pre ++ 34 :: escL tag.data.toList) ++ [34] := by rw [← ht, hs]; simp [quoteL]
    exact List.append_cancel_right this
  have := (hR (34 :: escL tag.data.toList)).only k' i' g' st' wy' tr' nx' tag' (by rw [← e]; exact hr)
  have hq := this.2.2.2.2.2.2.2
  unfold quoteL at hq
  injection hq with _ hq
  have a := scanL_esc [34] tag'.data.toList
  have b := scanL_esc [] tag.data.toList
  rw [← hq] at b
  rw [show escL tag'.data.toList ++ 34 :: [34] = escL tag'.data.toList ++ [34] ++ 34 :: [] by simp] at a
  rw [a] at b
  injection b with b
  injection b with _ b
  simp at b
theorem isR_first {k i g st wy tr nx : Int} {tag : ByteArray} {s : List UInt8} (h : IsR k i g st wy tr nx tag s) : ∃ c d r, s = c :: d :: r ∧ isDig d = true ∧ isDig c = false ∧ c ≠ 32 := by
  obtain ⟨c, r, hc, hd⟩ := dec_cons i.toNat
  refine ⟨letterB k, c, r ++ 58 :: decDigits g.toNat ++ 32 :: (stL st ++ 32 :: tail2 st wy tr nx tag.data.toList), ?_, hd, ?_, ?_⟩
  · rw [← h.2.2, rsL_eq]; unfold dTextL; rw [hc]; simp
  · unfold letterB; split
    · rfl
    · split <;> rfl
  · unfold letterB; split
    · decide
    · split <;> decide
/-- A space ahead. -/
theorem bad_ahead (s : List UInt8) : ∀ k' i' g' st' wy' tr' nx' tag', ¬ IsR k' i' g' st' wy' tr' nx' tag' (32 :: s) := by
  intro k' i' g' st' wy' tr' nx' tag' hr
  obtain ⟨c, d, r, he, _, _, hc⟩ := isR_first hr
  injection he with he _
  exact hc he.symm
/-- The first byte taken away. -/
theorem bad_tail {k i g st wy tr nx : Int} {tag : ByteArray} {c : UInt8} {s : List UInt8} (h : IsR k i g st wy tr nx tag (c :: s)) : ∀ k' i' g' st' wy' tr' nx' tag', ¬ IsR k' i' g' st' wy' tr' nx' tag' s := by
  intro k' i' g' st' wy' tr' nx' tag' hr
  obtain ⟨c1, d1, r1, e1, hd1, _, _⟩ := isR_first h
  obtain ⟨c2, d2, r2, e2, _, hc2, _⟩ := isR_first hr
  injection e1 with _ e1
  rw [e2] at e1
  injection e1 with e1 _
  rw [e1, hd1] at hc2
  cases hc2
/-- The first space twice. -/
theorem bad_twice {k i g : Int} (rest : List UInt8) : ∀ k' i' g' st' wy' tr' nx' tag', ¬ IsR k' i' g' st' wy' tr' nx' tag' (dTextL 58 k i g ++ 32 :: 32 :: rest) := by
  intro k' i' g' st' wy' tr' nx' tag' hr
  have hc := isR_cuts hr (no32_out k i g) rfl (x2 := []) (by simp) rfl
  have := hc.word2
  unfold stL at this
  split at this
  · cases this
  · split at this
    · cases this
    · split at this <;> cases this
theorem isR_last {k i g st wy tr nx : Int} {tag : ByteArray} {s : List UInt8} (h : IsR k i g st wy tr nx tag s) : ∃ t, s = t ++ [34] := by
  obtain ⟨pre, hs, _⟩ := rd_any h
  exact ⟨pre ++ 34 :: escL tag.data.toList, by rw [hs]; simp [quoteL]⟩
theorem isR_out {k i g st wy tr nx : Int} {tag : ByteArray} {s : List UInt8} (h : IsR k i g st wy tr nx tag s) : ∃ rest, s = dTextL 58 k i g ++ 32 :: rest := ⟨_, by rw [← h.2.2, rsL_eq]⟩
end Go.Proofs.YtgckfiadnmjonabGreatDoor
