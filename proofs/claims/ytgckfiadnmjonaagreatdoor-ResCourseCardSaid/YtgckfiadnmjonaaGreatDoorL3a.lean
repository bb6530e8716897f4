/- The program's Text, joined; strconv.FormatInt. -/
import Derived.Test.YtgckfiadnmjonaaGreatDoorHRes4
import Derived.Test.YtgckfiadnmjonaaGreatDoorL0b
import Derived.Lib.ParseIntBTie
import Derived.Test.YtgckfiadnmjonaaGreatDoorL1a
import Derived.Test.YtgckfiadnmjonaaGreatDoorHRRes1
import Derived.Deep.DeepCutAuto
namespace Go.Proofs.YtgckfiadnmjonaaGreatDoor
open Go.RowKit
set_option linter.unusedVariables false
set_option linter.unusedSimpArgs false
theorem fmtint_c (n : Int) (w : World) (hE : Env w) (h0 : 0 ≤ n) (h1 : n ≤ 9223372036854775807) : Ret 41 #[.int .i64 n, .int .i64 10] w (.string (digits n.toNat)) := by
  have c := fun w hE => Tryz.internal_strconv_FormatInt_10 n (by omega) h1 w (Env.tabIs hE)
  have C := Lib.hid c
  clear c
  go_enter Tryz.func41, Tryz.ntmps41
  go_wp2_with fail
  refine Calls.mono (C.out _ hE) ?_
  rintro e w1 ⟨rfl, k, os, hw⟩
  go_wp2_with fail
  go_returns
  exact ⟨by rw [show (⟨(Lib.itoa n).toArray⟩ : ByteArray) = digits n.toNat by unfold Lib.itoa digits; rw [if_neg (by omega)]]; rfl, by first | exact below_grow_ w k os | (rw [hw]; exact below_grow_ w k os)⟩
theorem text_e (k i g st wy tr nx e : Int) (tag : ByteArray) (w : World) (he : e ≠ 0) (c1 : ∀ w, Ret 12 #[rV k i g st wy tr nx tag] w (.int .i64 e)) : Ret 18 #[rV k i g st wy tr nx tag] w (.tuple #[.string ⟨#[]⟩, .int .i64 e]) := by
  have q : (e != 0) = true := by rw [bne_iff_ne]; exact he
  have C := Lib.hid c1
  clear c1
  go_enter Tryz.func18, Tryz.ntmps18
  go_wp2_with fail
  refine Calls.mono (C.out _) ?_
  rintro e w1 ⟨rfl, hb⟩
  go_wp2_with fail
  go_returns
  exact ⟨rfl, under hb⟩
theorem pOk_iff5 {k i g st wy tr nx : Int} (h : pOk k i g st wy tr nx = true) (hs : st ≠ 1) : (1 ≤ wy ∧ wy ≤ 3) ∧ (0 ≤ tr ∧ tr ≤ 10000) ∧ (0 ≤ nx ∧ nx ≤ 1099511627776) ∧ (st = 2 ∨ nx = 0) := by
  unfold pOk at h
  rw [if_neg hs] at h
  simp only [Bool.and_eq_true, Bool.or_eq_true, inB_iff, isT_iff, decide_eq_true_iff] at h
  obtain ⟨-, -, a, b, c, d⟩ := h
  exact ⟨a, b, c, d⟩
theorem reason_of (wy : Int) (h1 : 1 ≤ wy) (h2 : wy ≤ 3) : ∃ R : ByteArray, (∀ w, (Instr.index 76 reasonsV (.int .i64 wy)).run Tryz.prog w = .ok (.string R) w) ∧ R.size ≤ 1000 ∧ R.data.toList = whL wy := by
  rcases (by omega : wy = 1 ∨ wy = 2 ∨ wy = 3) with rfl | rfl | rfl
  · exact ⟨_, reIdx1, by decide, rfl⟩
  · exact ⟨_, reIdx2, by decide, rfl⟩
  · exact ⟨_, reIdx3, by decide, rfl⟩
theorem text_c (k i g st wy tr nx : Int) (tag : ByteArray) (w : World) (hE : Env w) (g0 : 0 ≤ g) (g1 : g ≤ 4294967295) (hs : tag.size ≤ 1000000) : Ret 18 #[rV k i g st wy tr nx tag] w (textV k i g st wy tr nx tag) := by
  have c1 := fun w => rerr_c k i g st wy tr nx tag w g0 g1 hs
  unfold textV
  by_cases he : rErr k i g st wy tr nx tag = 0
  · rw [if_pos he]
    rw [he] at c1
    obtain ⟨hp, ht⟩ := rErr_zero he
    obtain ⟨hd, hst⟩ := pOk_out hp
    obtain ⟨d1, d2, d3, d4, d5⟩ := dOk_iff.1 hd
    have c2 := fun w hE => o_text_ok k i g w hE hd g0 g1
    have c3 := fun w => tquote_c tag w hs
    unfold quoteV at c3
    rw [if_pos ht] at c3
    have hO := dText_size 58 (k := k) (s := i) (g := g) (by omega) (by omega)
    have hQ : (⟨(quoteL tag.data.toList).toArray⟩ : ByteArray).size ≤ 10000000 := by
      rw [← len_bytes]
      have h1 := (escL_len tag.data.toList).2
      rw [len_bytes] at h1
      simp [quoteL]
      omega
    have hOl := dText_list 58 k i g
    have hQl : (⟨(quoteL tag.data.toList).toArray⟩ : ByteArray).data.toList = quoteL tag.data.toList := by simp
    rcases hst with rfl | rfl | rfl | rfl
    · have := text_1 k i g 1 wy tr nx tag sLive (dText 58 k i g) _ w hE ⟨by omega, by decide, hQ⟩ shIdx1 c1 c2 c3
      rw [hOl, hQl] at this
      exact this
    · obtain ⟨⟨b1, b2⟩, ⟨b3, b4⟩, ⟨b5, b6⟩, -⟩ := (pOk_iff5 hp) (by omega)
      obtain ⟨R, hR, hRs, hRl⟩ := reason_of wy b1 b2
      have hD := digits_size_le tr.toNat (by omega)
      have hD2 := digits_size_le nx.toNat (by omega)
      have := text_2 k i g 2 wy tr nx tag sClos (dText 58 k i g) _ R (digits tr.toNat) (digits nx.toNat) w hE ⟨by omega, by decide, hQ⟩ shIdx2 c1 c2 c3 hR (fun w hE => itoa_ret tr w hE b3 (by omega)) ⟨hRs, by omega, by omega⟩ (fun w hE => fmtint_c nx w hE b5 (by omega))
      rw [hOl, hQl, hRl, digits_list, digits_list] at this
      exact this
    · obtain ⟨⟨b1, b2⟩, ⟨b3, b4⟩, ⟨b5, b6⟩, -⟩ := (pOk_iff5 hp) (by omega)
      obtain ⟨R, hR, hRs, hRl⟩ := reason_of wy b1 b2
      have hD := digits_size_le tr.toNat (by omega)
      have := text_3 k i g 3 wy tr nx tag sRele (dText 58 k i g) _ R (digits tr.toNat) w hE ⟨by omega, by decide, hQ⟩ shIdx3 c1 c2 c3 hR (fun w hE => itoa_ret tr w hE b3 (by omega)) ⟨hRs, by omega⟩
      rw [hOl, hQl, hRl, digits_list] at this
      exact this
    · obtain ⟨⟨b1, b2⟩, ⟨b3, b4⟩, ⟨b5, b6⟩, -⟩ := (pOk_iff5 hp) (by omega)
      obtain ⟨R, hR, hRs, hRl⟩ := reason_of wy b1 b2
      have hD := digits_size_le tr.toNat (by omega)
      have := text_3 k i g 4 wy tr nx tag sQuar (dText 58 k i g) _ R (digits tr.toNat) w hE ⟨by omega, by decide, hQ⟩ shIdx4 c1 c2 c3 hR (fun w hE => itoa_ret tr w hE b3 (by omega)) ⟨hRs, by omega⟩
      rw [hOl, hQl, hRl, digits_list] at this
      exact this
  · rw [if_neg he]
    exact text_e k i g st wy tr nx _ tag w he c1
end Go.Proofs.YtgckfiadnmjonaaGreatDoor

/- The reader of texts: need, word, number. -/
namespace Go.Proofs.YtgckfiadnmjonaaGreatDoor
open Go.RowKit
set_option linter.unusedVariables false
set_option linter.unusedSimpArgs false
/-- What a reader panics with. -/
abbrev malf : List PanicEntry := [{ v := .iface 83 (.agg #[]), recovered := false }]
theorem need_t (w : World) : Calls Tryz.prog 71 #[.bool true] w fun e w' => e = .returned (.tuple #[]) ∧ w' = w := by
  go_enter Tryz.func71, Tryz.ntmps71
  go_wp2_with fail
  go_returns
  exact ⟨rfl, rfl⟩
theorem need_f (w : World) : Calls Tryz.prog 71 #[.bool false] w fun e w' => e = .panicked malf ∧ w' = w := by
  go_enter Tryz.func71, Tryz.ntmps71
  go_wp2_with fail
  simp [bodyPost]
theorem word_ok (p : Nat) (s : ByteArray) (pre post : List UInt8) (w : World) (hE : Env w) (hs : s.size ≤ 100000) (hr : Row w p #[.string s] 87) (hc : Lib.cut s.data.toList [32] = (pre, post, true)) :
    Calls Tryz.prog 70 #[.pointer (some ⟨p, 0, none⟩)] w fun e w' => e = .returned (.string ⟨pre.toArray⟩) ∧ ∃ w1, Below w.heap.size w w1 ∧ w' = w1.setCell ⟨p, 0, none⟩ (.string ⟨post.toArray⟩) := by
  have c := cut_c s 32 w hE hs
  rw [hc] at c
  have C := Lib.hid c
  have y0 := hr.cell
  have y1 := hr.lt
  clear c
  go_enter Tryz.func70, Tryz.ntmps70
  go_wp2_with fail
  clear y0 y1
  refine Calls.mono C.out ?_
  rintro e w1 ⟨rfl, hb⟩
  go_wp2_with fail
  refine Calls.mono (need_t _) ?_
  rintro e w2 ⟨rfl, rfl⟩
  have r2 := hr.on hb
  have y0 := r2.cell
  have y1 := r2.lt
  have y2 := r2.free
  go_wp2_with fail
  go_returns
  exact ⟨rfl, _, hb, rfl⟩
theorem word_no (p : Nat) (s : ByteArray) (pre post : List UInt8) (w : World) (hE : Env w) (hs : s.size ≤ 100000) (hr : Row w p #[.string s] 87) (hc : Lib.cut s.data.toList [32] = (pre, post, false)) :
    Calls Tryz.prog 70 #[.pointer (some ⟨p, 0, none⟩)] w fun e w' => e = .panicked malf ∧ Below w.heap.size w w' := by
  have c := cut_c s 32 w hE hs
  rw [hc] at c
  have C := Lib.hid c
  have y0 := hr.cell
  have y1 := hr.lt
  clear c
  go_enter Tryz.func70, Tryz.ntmps70
  go_wp2_with fail
  clear y0 y1
  refine Calls.mono C.out ?_
  rintro e w1 ⟨rfl, hb⟩
  go_wp2_with fail
  refine Calls.mono (need_f _) ?_
  rintro e w2 ⟨rfl, rfl⟩
  go_wp2_with fail
  simp [bodyPost]
  exact hb
end Go.Proofs.YtgckfiadnmjonaaGreatDoor

/- The reader of texts: what a step leaves; number. -/
namespace Go.Proofs.YtgckfiadnmjonaaGreatDoor
open Go.RowKit
set_option linter.unusedVariables false
set_option linter.unusedSimpArgs false
/-- The reader at p has moved on to s; whatever else was there stands. -/
structure Mv (p : Nat) (s : ByteArray) (w w' : World) : Prop where
  row : Row w' p #[.string s] 87
  keep : ∀ (x : Nat) (cs : Array Value) (t : TypeId), x ≠ p → Row w x cs t → Row w' x cs t
  below : ∀ (B : Nat) (w0 : World), B ≤ p → Below B w0 w → Below B w0 w'
  size : w.heap.size ≤ w'.heap.size
theorem Mv.on {p : Nat} {s : ByteArray} {w w1 w2 : World} (h : Mv p s w w1) (hb : Below w1.heap.size w1 w2) : Mv p s w w2 :=
  ⟨h.row.on hb, fun x cs t hx hr => (h.keep x cs t hx hr).on hb, fun B w0 hB hw => (h.below B w0 hB hw).trans (hb.mono (Nat.le_trans hB (Nat.le_of_lt h.row.lt))), Nat.le_trans h.size hb.size⟩
theorem Mv.trans {p : Nat} {s s' : ByteArray} {w w1 w2 : World} (h : Mv p s w w1) (k : Mv p s' w1 w2) : Mv p s' w w2 :=
  ⟨k.row, fun x cs t hx hr => k.keep x cs t hx (h.keep x cs t hx hr), fun B w0 hB hw => k.below B w0 hB (h.below B w0 hB hw), Nat.le_trans h.size k.size⟩
theorem mv_of {p : Nat} {s0 s : ByteArray} {w w1 : World} (hr : Row w p #[.string s0] 87) (hb : Below w.heap.size w w1) : Mv p s w (w1.setCell ⟨p, 0, none⟩ (.string s)) := by
  refine ⟨(hr.on hb).set 0 (.string s), fun x cs t hx h => (h.on hb).other hx.symm 0 _, fun B w0 hB hw => ?_, ?_⟩
  · exact (hw.trans (hb.mono (Nat.le_trans hB (Nat.le_of_lt hr.lt)))).setCell (p := ⟨p, 0, none⟩) hB _
  · have := hb.size
    simpa using this
theorem word_mv (p : Nat) (s : ByteArray) (pre post : List UInt8) (w : World) (hE : Env w) (hs : s.size ≤ 100000) (hr : Row w p #[.string s] 87) (hc : Lib.cut s.data.toList [32] = (pre, post, true)) :
    Calls Tryz.prog 70 #[.pointer (some ⟨p, 0, none⟩)] w fun e w' => e = .returned (.string ⟨pre.toArray⟩) ∧ Mv p ⟨post.toArray⟩ w w' :=
  (word_ok p s pre post w hE hs hr hc).mono fun e w' ⟨he, w1, hb, hw⟩ => ⟨he, by rw [hw]; exact mv_of hr hb⟩
end Go.Proofs.YtgckfiadnmjonaaGreatDoor

/- The reader of texts: number. -/
namespace Go.Proofs.YtgckfiadnmjonaaGreatDoor
open Go.RowKit
set_option linter.unusedVariables false
set_option linter.unusedSimpArgs false
/-- The reader at p may have moved; whatever else was there stands. -/
structure Kp (p : Nat) (w w' : World) : Prop where
  keep : ∀ (x : Nat) (cs : Array Value) (t : TypeId), x ≠ p → Row w x cs t → Row w' x cs t
  below : ∀ (B : Nat) (w0 : World), B ≤ p → Below B w0 w → Below B w0 w'
  size : w.heap.size ≤ w'.heap.size
theorem Mv.kp {p : Nat} {s : ByteArray} {w w1 : World} (h : Mv p s w w1) : Kp p w w1 := ⟨h.keep, h.below, h.size⟩
theorem kp_of {p : Nat} {w w1 : World} (hp : p < w.heap.size) (hb : Below w.heap.size w w1) : Kp p w w1 :=
  ⟨fun x cs t _ h => h.on hb, fun B w0 hB h => h.trans (hb.mono (Nat.le_trans hB (Nat.le_of_lt hp))), hb.size⟩
theorem Kp.trans {p : Nat} {w w1 w2 : World} (h : Kp p w w1) (k : Kp p w1 w2) : Kp p w w2 :=
  ⟨fun x cs t hx hr => k.keep x cs t hx (h.keep x cs t hx hr), fun B w0 hB hw => k.below B w0 hB (h.below B w0 hB hw), Nat.le_trans h.size k.size⟩
theorem number_ok (p : Nat) (s : ByteArray) (pre post : List UInt8) (n : Int) (w0 w : World) (hE0 : EnvP w0) (hB : Below w0.heap.size w0 w) (hp : w0.heap.size ≤ p) (hs : s.size ≤ 100000) (hps : pre.length ≤ 100000) (hr : Row w p #[.string s] 87) (hc : Lib.cut s.data.toList [32] = (pre, post, true)) (hn : Lib.parseIntB 64 pre = .ok n) (h0 : 0 ≤ n) (h1 : n ≤ 9223372036854775807) (hd : digits n.toNat = ⟨pre.toArray⟩) :
    Calls Tryz.prog 72 #[.pointer (some ⟨p, 0, none⟩)] w fun e w' => e = .returned (.int .i64 n) ∧ Mv p ⟨post.toArray⟩ w w' := by
  have C := Lib.hid (word_mv p s pre post w (hE0.on hB).toEnv hs hr hc)
  have D := fun w => Lib.hid (pint_ok ⟨pre.toArray⟩ (by exact hps) n (by exact hn) w)
  have e1 : decide (n ≥ 0) = true := by simpa using h0
  have e2 : ((⟨pre.toArray⟩ : ByteArray).toList == (digits n.toNat).toList) = true := by rw [hd]; exact beq_self_eq_true _
  have e3 : ((digits n.toNat).toList == (⟨pre.toArray⟩ : ByteArray).toList) = true := by rw [hd]; exact beq_self_eq_true _
  go_enter Tryz.func72, Tryz.ntmps72
  go_wp2_with fail
  refine Calls.mono C.out ?_
  rintro e w1 ⟨rfl, hm⟩
  go_wp2_with fail
  refine Calls.mono (D _).out ?_
  rintro e w2 ⟨rfl, hb⟩
  have hm2 := hm.on hb
  have F := Lib.hid (fmtint_c n w2 (hE0.on (hm2.below _ _ hp hB)).toEnv h0 h1)
  go_wp2_with fail
  refine Calls.mono F.out ?_
  rintro e w3 ⟨rfl, hb3⟩
  have hm3 := hm2.on hb3
  go_wp2_with fail
  refine Calls.mono (need_t _) ?_
  rintro e w4 ⟨rfl, rfl⟩
  go_wp2_with fail
  go_returns
  exact ⟨rfl, hm3⟩
theorem number_w (p : Nat) (s : ByteArray) (pre post : List UInt8) (w0 w : World) (hE0 : EnvP w0) (hB : Below w0.heap.size w0 w) (hp : w0.heap.size ≤ p) (hs : s.size ≤ 100000) (hr : Row w p #[.string s] 87) (hc : Lib.cut s.data.toList [32] = (pre, post, false)) :
    Calls Tryz.prog 72 #[.pointer (some ⟨p, 0, none⟩)] w fun e w' => e = .panicked malf ∧ Kp p w w' := by
  have C := Lib.hid (word_no p s pre post w (hE0.on hB).toEnv hs hr hc)
  go_enter Tryz.func72, Tryz.ntmps72
  go_wp2_with fail
  refine Calls.mono C.out ?_
  rintro e w1 ⟨rfl, hm⟩
  go_wp2_with fail
  simp [bodyPost]
  exact kp_of hr.lt hm
theorem number_p (p : Nat) (s : ByteArray) (pre post : List UInt8) (w0 w : World) (hE0 : EnvP w0) (hB : Below w0.heap.size w0 w) (hp : w0.heap.size ≤ p) (hs : s.size ≤ 100000) (hr : Row w p #[.string s] 87) (hps : pre.length ≤ 100000) (hc : Lib.cut s.data.toList [32] = (pre, post, true)) (hn : ∀ v, Lib.parseIntB 64 pre ≠ .ok v) :
    Calls Tryz.prog 72 #[.pointer (some ⟨p, 0, none⟩)] w fun e w' => e = .panicked malf ∧ Kp p w w' := by
  have C := Lib.hid (word_mv p s pre post w (hE0.on hB).toEnv hs hr hc)
  have D := fun w hE => Lib.hid (pint_bad ⟨pre.toArray⟩ (by exact hps) (by exact hn) w hE)
  go_enter Tryz.func72, Tryz.ntmps72
  go_wp2_with fail
  refine Calls.mono C.out ?_
  rintro e w1 ⟨rfl, hm⟩
  go_wp2_with fail
  refine Calls.mono (D _ (hE0.on (hm.below _ _ hp hB))).out ?_
  rintro e w2 ⟨n, N, rfl, hb⟩
  have hm2 := hm.on hb
  go_wp2_with fail
  refine Calls.mono (need_f _) ?_
  rintro e w4 ⟨rfl, rfl⟩
  go_wp2_with fail
  simp [bodyPost]
  exact hm2.kp
theorem number_n (p : Nat) (s : ByteArray) (pre post : List UInt8) (w0 w : World) (hE0 : EnvP w0) (hB : Below w0.heap.size w0 w) (hp : w0.heap.size ≤ p) (hs : s.size ≤ 100000) (hr : Row w p #[.string s] 87) (hps : pre.length ≤ 100000) (hc : Lib.cut s.data.toList [32] = (pre, post, true)) (n : Int) (hn : Lib.parseIntB 64 pre = .ok n) (h0 : n < 0) :
    Calls Tryz.prog 72 #[.pointer (some ⟨p, 0, none⟩)] w fun e w' => e = .panicked malf ∧ Kp p w w' := by
  have C := Lib.hid (word_mv p s pre post w (hE0.on hB).toEnv hs hr hc)
  have D := fun w => Lib.hid (pint_ok ⟨pre.toArray⟩ (by exact hps) n (by exact hn) w)
  have e1 : decide (n ≥ 0) = false := by simpa using h0
  go_enter Tryz.func72, Tryz.ntmps72
  go_wp2_with fail
  refine Calls.mono C.out ?_
  rintro e w1 ⟨rfl, hm⟩
  go_wp2_with fail
  refine Calls.mono (D _).out ?_
  rintro e w2 ⟨rfl, hb⟩
  have hm2 := hm.on hb
  go_wp2_with fail
  refine Calls.mono (need_f _) ?_
  rintro e w4 ⟨rfl, rfl⟩
  go_wp2_with fail
  simp [bodyPost]
  exact hm2.kp
theorem number_d (p : Nat) (s : ByteArray) (pre post : List UInt8) (w0 w : World) (hE0 : EnvP w0) (hB : Below w0.heap.size w0 w) (hp : w0.heap.size ≤ p) (hs : s.size ≤ 100000) (hr : Row w p #[.string s] 87) (hps : pre.length ≤ 100000) (hc : Lib.cut s.data.toList [32] = (pre, post, true)) (n : Int) (hn : Lib.parseIntB 64 pre = .ok n) (h0 : 0 ≤ n) (h1 : n ≤ 9223372036854775807) (hd : digits n.toNat ≠ ⟨pre.toArray⟩) :
    Calls Tryz.prog 72 #[.pointer (some ⟨p, 0, none⟩)] w fun e w' => e = .panicked malf ∧ Kp p w w' := by
  have C := Lib.hid (word_mv p s pre post w (hE0.on hB).toEnv hs hr hc)
  have D := fun w => Lib.hid (pint_ok ⟨pre.toArray⟩ (by exact hps) n (by exact hn) w)
  have e1 : decide (n ≥ 0) = true := by simpa using h0
  have e3 : ((digits n.toNat).toList == pre) = false := by
    have := str_beq_ne hd
    rw [ByteArray.toList_eq (⟨pre.toArray⟩ : ByteArray)] at this
    exact this
  go_enter Tryz.func72, Tryz.ntmps72
  go_wp2_with fail
  refine Calls.mono C.out ?_
  rintro e w1 ⟨rfl, hm⟩
  go_wp2_with fail
  refine Calls.mono (D _).out ?_
  rintro e w2 ⟨rfl, hb⟩
  have hm2 := hm.on hb
  have F := Lib.hid (fmtint_c n w2 (hE0.on (hm2.below _ _ hp hB)).toEnv h0 h1)
  go_wp2_with fail
  refine Calls.mono F.out ?_
  rintro e w3 ⟨rfl, hb3⟩
  have hm3 := hm2.on hb3
  go_wp2_with fail
  refine Calls.mono (need_f _) ?_
  rintro e w4 ⟨rfl, rfl⟩
  go_wp2_with fail
  simp [bodyPost]
  exact hm3.kp
end Go.Proofs.YtgckfiadnmjonaaGreatDoor

/- The reader of texts: word and number, one contract each. -/
namespace Go.Proofs.YtgckfiadnmjonaaGreatDoor
open Go.RowKit Lib
set_option linter.unusedVariables false
set_option linter.unusedSimpArgs false
/-- A text that begins with a number's digits and a space. -/
def IsN (s : List UInt8) (n : Int) (post : List UInt8) : Prop := 0 ≤ n ∧ n ≤ 9223372036854775807 ∧ s = decDigits n.toNat ++ 32 :: post
theorem word_both (p : Nat) (s : ByteArray) (w : World) (hE : Env w) (hs : s.size ≤ 100000) (hr : Row w p #[.string s] 87) :
    Calls Tryz.prog 70 #[.pointer (some ⟨p, 0, none⟩)] w fun e w' =>
      (∃ pre post, (32 : UInt8) ∉ pre ∧ s.data.toList = pre ++ 32 :: post ∧ e = .returned (.string ⟨pre.toArray⟩) ∧ Mv p ⟨post.toArray⟩ w w') ∨ ((32 : UInt8) ∉ s.data.toList ∧ e = .panicked malf ∧ Kp p w w') := by
  by_cases h : (32 : UInt8) ∈ s.data.toList
  · obtain ⟨pre, post, hl, hn⟩ := List.eq_append_cons_of_mem h
    exact (word_mv p s pre post w hE hs hr (by rw [hl]; exact cut_at _ _ _ hn)).mono fun e w' ⟨he, hm⟩ => .inl ⟨pre, post, hn, hl, he, hm⟩
  · exact (word_no p s _ _ w hE hs hr (cut_no _ _ h)).mono fun e w' ⟨he, hb⟩ => .inr ⟨h, he, kp_of hr.lt hb⟩
theorem number_both (p : Nat) (s : ByteArray) (w0 w : World) (hE0 : EnvP w0) (hB : Below w0.heap.size w0 w) (hp : w0.heap.size ≤ p) (hs : s.size ≤ 100000) (hr : Row w p #[.string s] 87) :
    Calls Tryz.prog 72 #[.pointer (some ⟨p, 0, none⟩)] w fun e w' =>
      (∃ n post, IsN s.data.toList n post ∧ e = .returned (.int .i64 n) ∧ Mv p ⟨post.toArray⟩ w w') ∨ ((∀ n post, ¬ IsN s.data.toList n post) ∧ e = .panicked malf ∧ Kp p w w') := by
  by_cases h : (32 : UInt8) ∈ s.data.toList
  · obtain ⟨pre, post, hl, hn⟩ := List.eq_append_cons_of_mem h
    have hc : cut s.data.toList [32] = (pre, post, true) := by rw [hl]; exact cut_at _ _ _ hn
    have hps : pre.length ≤ 100000 := by
      have := congrArg List.length hl
      rw [len_bytes] at this
      simp at this
      omega
    have only : ∀ n post', IsN s.data.toList n post' → pre = decDigits n.toNat ∧ post = post' := fun n post' ⟨_, _, h3⟩ => by
      rw [h3, cut_at _ _ _ (not_mem_dec (by decide))] at hc
      cases hc
      exact ⟨rfl, rfl⟩
    cases hq : parseIntB 64 pre with
    | ok n =>
      have hb := parseIntB_bounds hq
      have h1 : n ≤ 9223372036854775807 := by
        have := hb.2
        simp at this
        omega
      by_cases h0 : n < 0
      · refine (number_n p s pre post w0 w hE0 hB hp hs hr hps hc n hq h0).mono fun e w' ⟨he, hk⟩ => .inr ⟨fun m post' hm => ?_, he, hk⟩
        obtain ⟨rfl, rfl⟩ := only _ _ hm
        rw [parseIntB_64, atoi_dec _ (by have := hm.1; have := hm.2.1; omega)] at hq
        cases hq
        omega
      · by_cases hd : decDigits n.toNat = pre
        · exact (number_ok p s pre post n w0 w hE0 hB hp hs hps hr hc hq (by omega) h1 (str_ext (by rw [digits_list, hd]))).mono fun e w' ⟨he, hm⟩ => .inl ⟨n, post, ⟨by omega, h1, by rw [hd]; exact hl⟩, he, hm⟩
        · refine (number_d p s pre post w0 w hE0 hB hp hs hr hps hc n hq (by omega) h1 (fun e => hd (by rw [← digits_list, e]))).mono fun e w' ⟨he, hk⟩ => .inr ⟨fun m post' hm => ?_, he, hk⟩
          obtain ⟨rfl, rfl⟩ := only _ _ hm
          rw [parseIntB_64, atoi_dec _ (by have := hm.1; have := hm.2.1; omega)] at hq
          cases hq
          exact hd (by rw [Int.toNat_natCast])
    | _ =>
      refine (number_p p s pre post w0 w hE0 hB hp hs hr hps hc (fun v hv => by rw [hq] at hv; cases hv)).mono fun e w' ⟨he, hk⟩ => .inr ⟨fun m post' hm => ?_, he, hk⟩
      obtain ⟨rfl, rfl⟩ := only _ _ hm
      rw [parseIntB_64, atoi_dec _ (by have := hm.1; have := hm.2.1; omega)] at hq
      cases hq
  · refine (number_w p s _ _ w0 w hE0 hB hp hs hr (cut_no _ _ h)).mono fun e w' ⟨he, hb⟩ => .inr ⟨fun n post ⟨_, _, h3⟩ => h (by rw [h3]; simp), he, hb⟩
end Go.Proofs.YtgckfiadnmjonaaGreatDoor

/- Texts of resources: what each part that is read decides (plain). -/
namespace Go.Proofs.YtgckfiadnmjonaaGreatDoor
open Go.RowKit Lib
set_option linter.unusedVariables false
set_option linter.unusedSimpArgs false
/-- The parts of a possible resource whose text is s. -/
def IsR (k i g st wy tr nx : Int) (tag : ByteArray) (s : List UInt8) : Prop := (0 ≤ g ∧ g ≤ 4294967295) ∧ rErr k i g st wy tr nx tag = 0 ∧ rsL k i g st wy tr nx tag.data.toList = s
theorem stL_inj {a b : Int} (ha : a = 1 ∨ a = 2 ∨ a = 3 ∨ a = 4) (hb : b = 1 ∨ b = 2 ∨ b = 3 ∨ b = 4) (h : stL a = stL b) : a = b := by
  rcases ha with rfl | rfl | rfl | rfl <;> rcases hb with rfl | rfl | rfl | rfl <;> first | rfl | (exfalso; revert h; decide)
theorem whL_inj {a b : Int} (ha : a = 1 ∨ a = 2 ∨ a = 3) (hb : b = 1 ∨ b = 2 ∨ b = 3) (h : whL a = whL b) : a = b := by
  rcases ha with rfl | rfl | rfl <;> rcases hb with rfl | rfl | rfl <;> first | rfl | (exfalso; revert h; decide)
/-- What a possible resource's parts are, where its text has been cut twice. -/
structure Cuts (k i g st wy tr nx : Int) (tag x1 x2 l2 : List UInt8) : Prop where
  out : dTextL 58 k i g = x1
  word2 : stL st = x2
  rest : tail2 st wy tr nx tag = l2
  ok : pOk k i g st wy tr nx = true
  tag : tagOk tag = true
  g0 : 0 ≤ g
  g1 : g ≤ 4294967295
theorem isR_cuts {k i g st wy tr nx : Int} {tag : ByteArray} {s x1 l1 x2 l2 : List UInt8} (h : IsR k i g st wy tr nx tag s) (h1 : (32 : UInt8) ∉ x1) (e1 : s = x1 ++ 32 :: l1) (h2 : (32 : UInt8) ∉ x2) (e2 : l1 = x2 ++ 32 :: l2) : Cuts k i g st wy tr nx tag.data.toList x1 x2 l2 := by
  obtain ⟨⟨g0, g1⟩, he, hq⟩ := h
  have hc : cut s [32] = (x1, l1, true) := by rw [e1]; exact cut_at _ _ _ h1
  rw [← hq, rsL_cut] at hc
  have hx1 : dTextL 58 k i g = x1 := congrArg Prod.fst hc
  have hl1 : stL st ++ 32 :: tail2 st wy tr nx tag.data.toList = l1 := congrArg (fun z => z.2.1) hc
  have hc2 : cut l1 [32] = (x2, l2, true) := by rw [e2]; exact cut_at _ _ _ h2
  rw [← hl1, rsL_cut2] at hc2
  have hz := rErr_zero he
  exact ⟨hx1, congrArg Prod.fst hc2, congrArg (fun z => z.2.1) hc2, hz.1, hz.2, g0, g1⟩
theorem Cuts.state {k i g st wy tr nx : Int} {tag x1 x2 l2 : List UInt8} (h : Cuts k i g st wy tr nx tag x1 x2 l2) : st = 1 ∨ st = 2 ∨ st = 3 ∨ st = 4 := (pOk_out h.ok).2
/-- Beside live: the ranges. -/
theorem Cuts.range {k i g st wy tr nx : Int} {tag x1 x2 l2 : List UInt8} (h : Cuts k i g st wy tr nx tag x1 x2 l2) (h1 : st ≠ 1) : (wy = 1 ∨ wy = 2 ∨ wy = 3) ∧ (0 ≤ tr ∧ tr ≤ 10000) ∧ (0 ≤ nx ∧ nx ≤ 1099511627776) ∧ (st = 2 ∨ nx = 0) := by
  have ho := h.ok
  have hd := (pOk_out ho).1
  rcases h.state with rfl | rfl | rfl | rfl
  · exact absurd rfl h1
  · rw [pOk_2 hd] at ho
    simp only [Bool.and_eq_true, inB_iff, isT_iff] at ho
    exact ⟨by omega, by omega, by omega, .inl rfl⟩
  · rw [pOk_34 hd (.inl rfl)] at ho
    simp only [Bool.and_eq_true, inB_iff, isT_iff, decide_eq_true_iff] at ho
    exact ⟨by omega, by omega, by omega, .inr (by omega)⟩
  · rw [pOk_34 hd (.inr rfl)] at ho
    simp only [Bool.and_eq_true, inB_iff, isT_iff, decide_eq_true_iff] at ho
    exact ⟨by omega, by omega, by omega, .inr (by omega)⟩
/-- Live: the rest are noughts. -/
theorem Cuts.live {k i g wy tr nx : Int} {tag x1 x2 l2 : List UInt8} (h : Cuts k i g 1 wy tr nx tag x1 x2 l2) : wy = 0 ∧ tr = 0 ∧ nx = 0 ∧ quoteL tag = l2 := by
  have ho := h.ok
  have hd := (pOk_out ho).1
  rw [pOk_1 hd] at ho
  simp only [Bool.and_eq_true, inB_iff, isT_iff, decide_eq_true_iff] at ho
  refine ⟨by omega, by omega, by omega, ?_⟩
  rw [← h.rest, tail2_one]
/-- Beside live: a word and a number follow. -/
theorem Cuts.more {k i g st wy tr nx : Int} {tag x1 x2 l2 : List UInt8} (h : Cuts k i g st wy tr nx tag x1 x2 l2) (h1 : st ≠ 1) : l2 = whL wy ++ 32 :: (decDigits tr.toNat ++ 32 :: tail4 st nx tag) := by
  rw [← h.rest]
  unfold tail2
  rw [if_neg h1]
theorem Cuts.word {k i g st wy tr nx : Int} {tag x1 x2 l2 x3 l3 : List UInt8} (h : Cuts k i g st wy tr nx tag x1 x2 l2) (h1 : st ≠ 1) (h3 : (32 : UInt8) ∉ x3) (e3 : l2 = x3 ++ 32 :: l3) : whL wy = x3 ∧ l3 = decDigits tr.toNat ++ 32 :: tail4 st nx tag := by
  have hc : cut l2 [32] = (x3, l3, true) := by rw [e3]; exact cut_at _ _ _ h3
  rw [← h.rest, tail2_cut _ _ _ _ _ h1] at hc
  exact ⟨congrArg Prod.fst hc, (congrArg (fun z => z.2.1) hc).symm⟩
theorem isN_unique {l post post' : List UInt8} {n n' : Int} (h : IsN l n post) (h' : IsN l n' post') : n = n' ∧ post = post' := by
  obtain ⟨a1, a2, a3⟩ := h
  obtain ⟨b1, b2, b3⟩ := h'
  have hc : cut l [32] = (decDigits n.toNat, post, true) := by rw [a3]; exact cut_at _ _ _ (not_mem_dec (by decide))
  rw [b3, cut_at _ _ _ (not_mem_dec (by decide))] at hc
  have e1 := decDigits_inj (congrArg Prod.fst hc)
  have e2 : post' = post := congrArg (fun z => z.2.1) hc
  exact ⟨by omega, e2.symm⟩
theorem Cuts.num {k i g st wy tr nx : Int} {tag x1 x2 l2 x3 l3 : List UInt8} (h : Cuts k i g st wy tr nx tag x1 x2 l2) (h1 : st ≠ 1) (h3 : (32 : UInt8) ∉ x3) (e3 : l2 = x3 ++ 32 :: l3) : IsN l3 tr (tail4 st nx tag) := by
  have := (h.range h1).2.1
  exact ⟨by omega, by omega, (h.word h1 h3 e3).2⟩
theorem Cuts.num2 {k i g wy tr nx : Int} {tag x1 x2 l2 x3 l3 : List UInt8} (h : Cuts k i g 2 wy tr nx tag x1 x2 l2) (h3 : (32 : UInt8) ∉ x3) (e3 : l2 = x3 ++ 32 :: l3) : IsN (tail4 2 nx tag) nx (quoteL tag) := by
  have := (h.range (by decide)).2.2.1
  exact ⟨by omega, by omega, by unfold tail4; rw [if_pos rfl]⟩
/-- The parts known so far, of the text s: whatever possible resource has this text has them, and ends in lX; with a tag whose quoted text is lX they make this text. -/
structure Rd (k i g st wy tr nx : Int) (lX s : List UInt8) : Prop where
  only : ∀ k' i' g' st' wy' tr' nx' tag', IsR k' i' g' st' wy' tr' nx' tag' s → st' = st ∧ wy' = wy ∧ tr' = tr ∧ nx' = nx ∧ k' = k ∧ i' = i ∧ g' = g ∧ quoteL tag'.data.toList = lX
  full : ∀ tag : List UInt8, (st = 1 ∨ wy = 1 ∨ wy = 2 ∨ wy = 3) → quoteL tag = lX → rsL k i g st wy tr nx tag = s
theorem Cuts.outer {k i g st wy tr nx k' i' g' : Int} {tag x1 x2 l2 : List UInt8} (h : Cuts k' i' g' st wy tr nx tag x1 x2 l2) (hD : IsD 58 64 x1 k i g) : k' = k ∧ i' = i ∧ g' = g := by
  have := IsD.unique (by simp [sgn]) hD ⟨(pOk_out h.ok).1, h.g1, h.g0, h.out.symm⟩
  omega
theorem rd_live {k i g : Int} {s x1 l1 l2 : List UInt8} (hD : IsD 58 64 x1 k i g) (h1 : (32 : UInt8) ∉ x1) (e1 : s = x1 ++ 32 :: l1) (e2 : l1 = stL 1 ++ 32 :: l2) : Rd k i g 1 0 0 0 l2 s := by
  refine ⟨fun k' i' g' st' wy' tr' nx' tag' h => ?_, fun tag _ hq => ?_⟩
  · have hc := isR_cuts h h1 e1 (no32_st 1) e2
    obtain rfl := stL_inj hc.state (.inl rfl) hc.word2
    have := hc.live
    have := hc.outer hD
    exact ⟨rfl, by omega, by omega, by omega, by omega, by omega, by omega, hc.live.2.2.2⟩
  · rw [rsL_eq, tail2_one, hq, e1, e2, hD.eq]
theorem rd_two {k i g n m wy : Int} {s x1 l1 l2 x3 l3 l4 l5 : List UInt8} (hD : IsD 58 64 x1 k i g) (h1 : (32 : UInt8) ∉ x1) (e1 : s = x1 ++ 32 :: l1) (e2 : l1 = stL 2 ++ 32 :: l2) (h3 : (32 : UInt8) ∉ x3) (e3 : l2 = x3 ++ 32 :: l3)
    (hw : (wy = 0 ∧ x3 ≠ whL 1 ∧ x3 ≠ whL 2 ∧ x3 ≠ whL 3) ∨ ((wy = 1 ∨ wy = 2 ∨ wy = 3) ∧ x3 = whL wy)) (e4 : IsN l3 n l4) (e5 : IsN l4 m l5) : Rd k i g 2 wy n m l5 s := by
  refine ⟨fun k' i' g' st' wy' tr' nx' tag' h => ?_, fun tag hy hq => ?_⟩
  · have hc := isR_cuts h h1 e1 (no32_st 2) e2
    obtain rfl := stL_inj hc.state (.inr (.inl rfl)) hc.word2
    have hr := hc.range (by decide)
    have hx := (hc.word (by decide) h3 e3).1
    obtain ⟨n1, n2⟩ := isN_unique e4 (hc.num (by decide) h3 e3)
    rw [n2] at e5
    obtain ⟨m1, m2⟩ := isN_unique e5 (hc.num2 h3 e3)
    have hout := hc.outer hD
    have hwy : wy' = wy := by
      rcases hw with ⟨rfl, a, b, c⟩ | ⟨hy, hz⟩
      · exfalso
        rcases hr.1 with rfl | rfl | rfl
        · exact a hx.symm
        · exact b hx.symm
        · exact c hx.symm
      · exact whL_inj hr.1 hy (by rw [hx, hz])
    exact ⟨rfl, hwy, n1.symm, m1.symm, by omega, by omega, by omega, m2.symm⟩
  · have hz : x3 = whL wy := by
      rcases hw with ⟨rfl, _⟩ | ⟨_, hz⟩
      · omega
      · exact hz
    rw [rsL_eq, e1, e2, e3, hz, e4.2.2, e5.2.2, hD.eq]
    unfold tail2 tail4
    rw [if_neg (by decide), if_pos rfl, hq]
theorem rd_done {k i g n wy st : Int} {s x1 l1 l2 x3 l3 l4 : List UInt8} (hst : st = 3 ∨ st = 4) (hD : IsD 58 64 x1 k i g) (h1 : (32 : UInt8) ∉ x1) (e1 : s = x1 ++ 32 :: l1) (e2 : l1 = stL st ++ 32 :: l2) (h3 : (32 : UInt8) ∉ x3) (e3 : l2 = x3 ++ 32 :: l3)
    (hw : (wy = 0 ∧ x3 ≠ whL 1 ∧ x3 ≠ whL 2 ∧ x3 ≠ whL 3) ∨ ((wy = 1 ∨ wy = 2 ∨ wy = 3) ∧ x3 = whL wy)) (e4 : IsN l3 n l4) : Rd k i g st wy n 0 l4 s := by
  refine ⟨fun k' i' g' st' wy' tr' nx' tag' h => ?_, fun tag hy hq => ?_⟩
  · have hc := isR_cuts h h1 e1 (no32_st st) e2
    obtain rfl := stL_inj (b := st) hc.state (by omega) hc.word2
    have hr := hc.range (show st' ≠ 1 by omega)
    have hx := (hc.word (by omega) h3 e3).1
    obtain ⟨n1, n2⟩ := isN_unique e4 (hc.num (by omega) h3 e3)
    rw [tail4_else (by omega)] at n2
    have hout := hc.outer hD
    have hwy : wy' = wy := by
      rcases hw with ⟨rfl, a, b, c⟩ | ⟨hy, hz⟩
      · exfalso
        rcases hr.1 with rfl | rfl | rfl
        · exact a hx.symm
        · exact b hx.symm
        · exact c hx.symm
      · exact whL_inj hr.1 hy (by rw [hx, hz])
    exact ⟨rfl, hwy, n1.symm, by omega, by omega, by omega, by omega, n2.symm⟩
  · have hz : x3 = whL wy := by
      rcases hw with ⟨rfl, _⟩ | ⟨_, hz⟩
      · omega
      · exact hz
    rw [rsL_eq, e1, e2, e3, hz, e4.2.2, hD.eq]
    unfold tail2
    rw [if_neg (by omega), tail4_else (by omega), hq]
/-- The end: what is read is the resource. -/
theorem rd_is {k i g st wy tr nx : Int} {lX s : List UInt8} {tag : ByteArray} (h : Rd k i g st wy tr nx lX s) (g0 : 0 ≤ g) (g1 : g ≤ 4294967295) (hq : quoteL tag.data.toList = lX) (he : rErr k i g st wy tr nx tag = 0) : IsR k i g st wy tr nx tag s := by
  refine ⟨⟨g0, g1⟩, he, h.full _ ?_ hq⟩
  have ho := (rErr_zero he).1
  have hd := (pOk_out ho).1
  rcases (pOk_out ho).2 with rfl | rfl | rfl | rfl
  · exact .inl rfl
  · rw [pOk_2 hd] at ho
    simp only [Bool.and_eq_true, inB_iff, isT_iff] at ho
    omega
  · rw [pOk_34 hd (.inl rfl)] at ho
    simp only [Bool.and_eq_true, inB_iff, isT_iff, decide_eq_true_iff] at ho
    omega
  · rw [pOk_34 hd (.inr rfl)] at ho
    simp only [Bool.and_eq_true, inB_iff, isT_iff, decide_eq_true_iff] at ho
    omega
/-- The end: nothing has this text where the tag does not come out. -/
theorem rd_not {k i g st wy tr nx : Int} {lX s : List UInt8} (h : Rd k i g st wy tr nx lX s) (hb : ∀ tag : ByteArray, quoteL tag.data.toList = lX → tagOk tag.data.toList = true → rErr k i g st wy tr nx tag ≠ 0) : ∀ k' i' g' st' wy' tr' nx' tag', ¬ IsR k' i' g' st' wy' tr' nx' tag' s := by
  intro k' i' g' st' wy' tr' nx' tag' hr
  obtain ⟨rfl, rfl, rfl, rfl, rfl, rfl, rfl, hq⟩ := h.only _ _ _ _ _ _ _ _ hr
  exact hb tag' hq (rErr_zero hr.2.1).2 hr.2.1
/-- One text, one resource. -/
theorem isR_unique {k i g st wy tr nx k' i' g' st' wy' tr' nx' : Int} {tag tag' : ByteArray} {s : List UInt8} (h : IsR k i g st wy tr nx tag s) (h' : IsR k' i' g' st' wy' tr' nx' tag' s) : k' = k ∧ i' = i ∧ g' = g ∧ st' = st ∧ wy' = wy ∧ tr' = tr ∧ nx' = nx ∧ tag' = tag := by
  have e1 : s = dTextL 58 k i g ++ 32 :: (stL st ++ 32 :: tail2 st wy tr nx tag.data.toList) := by rw [← h.2.2, rsL_eq]
  have hc := isR_cuts h (no32_out k i g) e1 (no32_st st) rfl
  have hc' := isR_cuts h' (no32_out k i g) e1 (no32_st st) rfl
  have hD : IsD 58 64 (dTextL 58 k i g) k i g := ⟨(pOk_out hc.ok).1, hc.g1, hc.g0, rfl⟩
  have ho := hc'.outer hD
  obtain rfl := stL_inj hc'.state hc.state hc'.word2
  by_cases h1 : st' = 1
  · subst h1
    have a := hc.live
    have b := hc'.live
    exact ⟨by omega, by omega, by omega, rfl, by omega, by omega, by omega, str_ext (quoteL_inj (by rw [b.2.2.2, a.2.2.2]))⟩
  · have m := hc.more h1
    have w' := hc'.word h1 (no32_wh wy) m
    have hr := hc.range h1
    have hr' := hc'.range h1
    have hw := whL_inj hr'.1 hr.1 w'.1
    obtain ⟨n1, n2⟩ := isN_unique (hc.num h1 (no32_wh wy) m) (hc'.num h1 (no32_wh wy) m)
    by_cases h2 : st' = 2
    · subst h2
      have p := hc.num2 (no32_wh wy) m
      have q := hc'.num2 (no32_wh wy) m
      rw [n2] at p
      obtain ⟨m1, m2⟩ := isN_unique p q
      exact ⟨by omega, by omega, by omega, rfl, hw, by omega, by omega, str_ext (quoteL_inj m2.symm)⟩
    · rw [tail4_else h2, tail4_else h2] at n2
      exact ⟨by omega, by omega, by omega, rfl, hw, by omega, by omega, str_ext (quoteL_inj n2.symm)⟩
theorem scanL_len {l x : List UInt8} {n : Nat} (h : scanL l = some (x, n)) : x.length ≤ l.length := by
  obtain ⟨_, t, ht⟩ := scanL_some l.length l x n (Nat.le_refl _) h
  rw [ht, List.length_append, List.length_cons]
  have := escL_len x
  omega
theorem unqL_len (l : List UInt8) : (unqL l).1.length ≤ l.length := by
  unfold unqL
  split
  · rename_i t
    cases hx : scanL t with
    | none => simp
    | some p =>
      obtain ⟨x, n⟩ := p
      have := scanL_len hx
      simp only
      split
      · simp; omega
      · simp
  · simp
end Go.Proofs.YtgckfiadnmjonaaGreatDoor

/- The reference's digits and Text (chapter 31): their contracts. -/
namespace Go.Proofs.YtgckfiadnmjonaaGreatDoor
open Go.RowKit
set_option linter.unusedVariables false
set_option linter.unusedSimpArgs false

set_option maxHeartbeats 1000000 in
theorem rdig_any (k : Nat) : ∀ (n : Int) (w : World), n ≤ k → 0 ≤ n → n ≤ 9223372036854775807 →
    Ret 45 #[.int .i64 n] w (.string (digits n.toNat)) := by
  induction k with
  | zero =>
    intro n w hk h0 h1
    obtain rfl : n = 0 := by omega
    have hc := conv_one 48 (by omega) (by omega)
    have hd : digits (0 : Int).toNat = ⟨#[48]⟩ := digits_small (n := 0) (by omega) (by omega)
    rw [hd]
    clear hd
    go_enter Tryz.func45, Tryz.ntmps45
    go_wp2_with fail
    go_returns
    exact ⟨rfl, by go_grown⟩
  | succ k ih =>
    intro n w hk h0 h1
    have IH := Lib.hid ih
    clear ih
    by_cases h : n < 10
    · have hc := conv_one (48 + n) (by omega) (by omega)
      have hd := digits_small h0 h
      rw [hd]
      clear hd
      go_enter Tryz.func45, Tryz.ntmps45
      go_wp2_with fail
      go_returns
      exact ⟨rfl, by go_grown⟩
    · have hd := digits_app (n := n) (by omega)
      have hrun : ∀ W, (Op.stringOp .add (digits (n / 10).toNat) ⟨#[UInt8.ofNat (48 + n % 10).toNat]⟩).run Tryz.prog W = .ok (.string (digits n.toNat)) W := fun W => by
        rw [hd]
        have h1 := digits_size_le (n / 10).toNat (by omega)
        exact run_string_add_sum W _ _ (by rw [show (ByteArray.mk #[UInt8.ofNat (48 + n % 10).toNat]).size = 1 from rfl]; omega)
      have hc := conv_one (48 + n % 10) (by omega) (by omega)
      have q0 : n.tdiv 10 = n / 10 := Int.tdiv_eq_ediv_of_nonneg h0
      have q1 : IntKind.i64.wrap (n / 10) = n / 10 := IntWalk.i64_in _ ⟨by omega, by omega⟩
      have q2 : n.tmod 10 = n % 10 := Int.tmod_eq_emod_of_nonneg h0
      have q3 : IntKind.i64.wrap (48 + n % 10) = 48 + n % 10 := IntWalk.i64_in _ ⟨by omega, by omega⟩
      have q4 : IntKind.u8.wrap (48 + n % 10) = 48 + n % 10 := by rw [IntKind.wrap_u8]; omega
      have r1 : n / 10 ≤ k := by omega
      have r2 : 0 ≤ n / 10 := by omega
      have r3 : n / 10 ≤ 9223372036854775807 := by omega
      clear hd hk
      go_enter Tryz.func45, Tryz.ntmps45
      go_wp2_with fail
      go_region_with (first | (go_at_call 45; refine ((IH.out) _ _ ?_ ?_ ?_).mono ?_; exact r1; exact r2; exact r3; rintro e w' ⟨rfl, hb⟩; try have hc1 := keep_new_drew hb))
      all_goals
        go_wp2
        go_returns
        refine ⟨rfl, ?_⟩
        first
          | exact off_alloc (off_drew hb)
          | exact (off_drew hb).alloc (off_drew hb).size _
theorem rdig_c (n : Int) (w : World) (h0 : 0 ≤ n) (h1 : n ≤ 9223372036854775807) : Ret 45 #[.int .i64 n] w (.string (digits n.toNat)) := rdig_any n.toNat n w (by omega) h0 h1
end Go.Proofs.YtgckfiadnmjonaaGreatDoor

/- Equality of resources and of outer resources, as Go's == and != give it. -/
namespace Go.Proofs.YtgckfiadnmjonaaGreatDoor
open Go.RowKit
set_option linter.unusedVariables false
set_option linter.unusedSimpArgs false
theorem req_F (k i g st wy tr nx : Int) (tag : ByteArray) : ∀ W, (binOp .eql 26 (rV k i g st wy tr nx tag) (rV k i g st wy tr nx tag)).run Tryz.prog W = .ok (.bool true) W := by
  intro W
  go_simp
theorem rne_F (k i g st wy tr nx : Int) (tag : ByteArray) : ∀ W, (binOp .neq 26 (rV k i g st wy tr nx tag) (rV k i g st wy tr nx tag)).run Tryz.prog W = .ok (.bool false) W := by
  intro W
  go_simp
theorem rne_R (k i g st wy tr nx : Int) (tag : ByteArray) : ∀ W, (binOp .neq 28 (rV k i g st wy tr nx tag) (rV k i g st wy tr nx tag)).run Tryz.prog W = .ok (.bool false) W := by
  intro W
  go_simp
theorem req_R (k i g st wy tr nx : Int) (tag : ByteArray) : ∀ W, (binOp .eql 28 (rV k i g st wy tr nx tag) (rV k i g st wy tr nx tag)).run Tryz.prog W = .ok (.bool true) W := by
  intro W
  go_simp
end Go.Proofs.YtgckfiadnmjonaaGreatDoor

/- The reference's New, Close, Tried, Due, Over: their contracts. -/
namespace Go.Proofs.YtgckfiadnmjonaaGreatDoor
open Go.RowKit
set_option linter.unusedVariables false
set_option linter.unusedSimpArgs false

set_option maxHeartbeats 8000000 in
set_option maxRecDepth 20000 in
theorem rclose_e (k i g st wy tr nx why now e : Int) (tag : ByteArray) (w : World) (g0 : 0 ≤ g) (hs : tag.size ≤ 1000000) (he : rErr k i g st wy tr nx tag = e) (hne : e ≠ 0) : Ret 9 #[rV k i g st wy tr nx tag, .int .i64 why, .int .i64 now] w (.tuple #[r0V, .int .i64 e]) := by
  have p0 : (e != 0) = true := by rw [bne_iff_ne]; exact hne
  have c0 := fun w => rrerr_c k i g st wy tr nx tag w g0 hs
  rw [he] at c0
  have C0 := Lib.hid c0
  clear c0
  go_enter Tryz.func9, Tryz.ntmps9
  go_wp2_with fail
  have r1 := (Row.new (W := w) (cs := (rC k i g st wy tr nx tag)) (t := 28)).on (below_alloc _ (.cells (rC 0 0 0 0 0 0 0 ⟨#[]⟩) 28))
  have r2 := Row.new (W := w.alloc (.cells (rC k i g st wy tr nx tag) 28)) (cs := (rC 0 0 0 0 0 0 0 ⟨#[]⟩)) (t := 28)
  rw [World.size_alloc] at r2
  have hc := ((Below.refl w.heap.size w).alloc (Nat.le_refl _) (.cells (rC k i g st wy tr nx tag) 28)).alloc (by simp) (.cells (rC 0 0 0 0 0 0 0 ⟨#[]⟩) 28)
  generalize (w.alloc (.cells (rC k i g st wy tr nx tag) 28)).alloc (.cells (rC 0 0 0 0 0 0 0 ⟨#[]⟩) 28) = W at *
  have h12 : w.heap.size ≠ w.heap.size + 1 := by omega
  have hp : w.heap.size ≤ w.heap.size + 1 := Nat.le_succ _
  generalize w.heap.size + 1 = p2 at *
  obtain ⟨p1, hp1⟩ : ∃ p1, w.heap.size = p1 := ⟨_, rfl⟩
  rw [hp1] at r1 h12
  rw [hp1]
  refine Calls.mono (C0.out _) ?_
  rintro e V0 ⟨rfl, hb⟩
  replace r1 := r1.on hb
  replace r2 := r2.on hb
  replace hc := chain hc hb
  clear hb
  have y2 := r2.cell
  have y2f := r2.free
  have y2l := r2.lt
  have y1 := r1.cell
  have y1l := r1.lt
  go_wp2_with fail
  clear y2 y2f y2l y1 y1l
  replace r2 := ((((((((r2.set 0 (.int .i64 0)).set 1 (.int .i64 0)).set 2 (.int .u32 0)).set 3 (.int .i64 0)).set 4 (.int .i64 0)).set 5 (.int .i64 0)).set 6 (.int .i64 0)).set 7 (.string ⟨#[]⟩))
  replace hc := ((((((((hc.setCell (p := ⟨p2, 0, none⟩) hp (.int .i64 0)).setCell (p := ⟨p2, 1, none⟩) hp (.int .i64 0)).setCell (p := ⟨p2, 2, none⟩) hp (.int .u32 0)).setCell (p := ⟨p2, 3, none⟩) hp (.int .i64 0)).setCell (p := ⟨p2, 4, none⟩) hp (.int .i64 0)).setCell (p := ⟨p2, 5, none⟩) hp (.int .i64 0)).setCell (p := ⟨p2, 6, none⟩) hp (.int .i64 0)).setCell (p := ⟨p2, 7, none⟩) hp (.string ⟨#[]⟩))
  simp only [List.setIfInBounds_toArray, List.set_cons_zero, List.set_cons_succ] at r2
  generalize hW : World.setCell _ _ _ = Z9 at *
  clear hW
  have q0 := r2.cell 0
  have q1 := r2.cell 1
  have q2 := r2.cell 2
  have q3 := r2.cell 3
  have q4 := r2.cell 4
  have q5 := r2.cell 5
  have q6 := r2.cell 6
  have q7 := r2.cell 7
  simp only [List.getElem?_toArray, List.getElem?_cons_succ, List.getElem?_cons_zero] at q0 q1 q2 q3 q4 q5 q6 q7
  clear r2 r1
  refine bodyPost_ret (v := .tuple #[r0V, .int .i64 e]) (by simp [results, Tryz.results9, go_sem, q0, q1, q2, q3, q4, q5, q6, q7]) rfl ⟨rfl, by first | exact hc | (rw [← hp1]; exact hc)⟩

set_option maxHeartbeats 8000000 in
set_option maxRecDepth 20000 in
theorem rclose_w (k i g st wy tr nx why now e : Int) (tag : ByteArray) (w : World) (g0 : 0 ≤ g) (hs : tag.size ≤ 1000000) (he : rErr k i g st wy tr nx tag = 0) (h1 : inB why 1 3 = false) : Ret 9 #[rV k i g st wy tr nx tag, .int .i64 why, .int .i64 now] w (.tuple #[r0V, .int .i64 2]) := by
  have c0 := fun w => rrerr_c k i g st wy tr nx tag w g0 hs
  rw [he] at c0
  have C0 := Lib.hid c0
  clear c0
  have c1 := fun w => rwhy_c why w
  rw [h1] at c1
  have C1 := Lib.hid c1
  clear c1
  go_enter Tryz.func9, Tryz.ntmps9
  go_wp2_with fail
  have r1 := (Row.new (W := w) (cs := (rC k i g st wy tr nx tag)) (t := 28)).on (below_alloc _ (.cells (rC 0 0 0 0 0 0 0 ⟨#[]⟩) 28))
  have r2 := Row.new (W := w.alloc (.cells (rC k i g st wy tr nx tag) 28)) (cs := (rC 0 0 0 0 0 0 0 ⟨#[]⟩)) (t := 28)
  rw [World.size_alloc] at r2
  have hc := ((Below.refl w.heap.size w).alloc (Nat.le_refl _) (.cells (rC k i g st wy tr nx tag) 28)).alloc (by simp) (.cells (rC 0 0 0 0 0 0 0 ⟨#[]⟩) 28)
  generalize (w.alloc (.cells (rC k i g st wy tr nx tag) 28)).alloc (.cells (rC 0 0 0 0 0 0 0 ⟨#[]⟩) 28) = W at *
  have h12 : w.heap.size ≠ w.heap.size + 1 := by omega
  have hp : w.heap.size ≤ w.heap.size + 1 := Nat.le_succ _
  generalize w.heap.size + 1 = p2 at *
  obtain ⟨p1, hp1⟩ : ∃ p1, w.heap.size = p1 := ⟨_, rfl⟩
  rw [hp1] at r1 h12
  rw [hp1]
  refine Calls.mono (C0.out _) ?_
  rintro e V0 ⟨rfl, hb⟩
  replace r1 := r1.on hb
  replace r2 := r2.on hb
  replace hc := chain hc hb
  clear hb
  have y1 := r1.cell
  have y1l := r1.lt
  go_wp2_with fail
  clear y1 y1l
  refine Calls.mono (C1.out _) ?_
  rintro e V1 ⟨rfl, hb⟩
  replace r1 := r1.on hb
  replace r2 := r2.on hb
  replace hc := chain hc hb
  clear hb
  have y2 := r2.cell
  have y2f := r2.free
  have y2l := r2.lt
  have y1 := r1.cell
  have y1l := r1.lt
  go_wp2_with fail
  clear y2 y2f y2l y1 y1l
  replace r2 := ((((((((r2.set 0 (.int .i64 0)).set 1 (.int .i64 0)).set 2 (.int .u32 0)).set 3 (.int .i64 0)).set 4 (.int .i64 0)).set 5 (.int .i64 0)).set 6 (.int .i64 0)).set 7 (.string ⟨#[]⟩))
  replace hc := ((((((((hc.setCell (p := ⟨p2, 0, none⟩) hp (.int .i64 0)).setCell (p := ⟨p2, 1, none⟩) hp (.int .i64 0)).setCell (p := ⟨p2, 2, none⟩) hp (.int .u32 0)).setCell (p := ⟨p2, 3, none⟩) hp (.int .i64 0)).setCell (p := ⟨p2, 4, none⟩) hp (.int .i64 0)).setCell (p := ⟨p2, 5, none⟩) hp (.int .i64 0)).setCell (p := ⟨p2, 6, none⟩) hp (.int .i64 0)).setCell (p := ⟨p2, 7, none⟩) hp (.string ⟨#[]⟩))
  simp only [List.setIfInBounds_toArray, List.set_cons_zero, List.set_cons_succ] at r2
  generalize hW : World.setCell _ _ _ = Z9 at *
  clear hW
  have q0 := r2.cell 0
  have q1 := r2.cell 1
  have q2 := r2.cell 2
  have q3 := r2.cell 3
  have q4 := r2.cell 4
  have q5 := r2.cell 5
  have q6 := r2.cell 6
  have q7 := r2.cell 7
  simp only [List.getElem?_toArray, List.getElem?_cons_succ, List.getElem?_cons_zero] at q0 q1 q2 q3 q4 q5 q6 q7
  clear r2 r1
  refine bodyPost_ret (v := .tuple #[r0V, .int .i64 2]) (by simp [results, Tryz.results9, go_sem, q0, q1, q2, q3, q4, q5, q6, q7]) rfl ⟨rfl, by first | exact hc | (rw [← hp1]; exact hc)⟩

set_option maxHeartbeats 8000000 in
set_option maxRecDepth 20000 in
theorem rclose_t (k i g st wy tr nx why now e : Int) (tag : ByteArray) (w : World) (g0 : 0 ≤ g) (hs : tag.size ≤ 1000000) (he : rErr k i g st wy tr nx tag = 0) (h1 : inB why 1 3 = true) (h2 : isT now = false) : Ret 9 #[rV k i g st wy tr nx tag, .int .i64 why, .int .i64 now] w (.tuple #[r0V, .int .i64 2]) := by
  have c0 := fun w => rrerr_c k i g st wy tr nx tag w g0 hs
  rw [he] at c0
  have C0 := Lib.hid c0
  clear c0
  have c1 := fun w => rwhy_c why w
  rw [h1] at c1
  have C1 := Lib.hid c1
  clear c1
  have c2 := fun w => rtime_c now w
  rw [h2] at c2
  have C2 := Lib.hid c2
  clear c2
  go_enter Tryz.func9, Tryz.ntmps9
  go_wp2_with fail
  have r1 := (Row.new (W := w) (cs := (rC k i g st wy tr nx tag)) (t := 28)).on (below_alloc _ (.cells (rC 0 0 0 0 0 0 0 ⟨#[]⟩) 28))
  have r2 := Row.new (W := w.alloc (.cells (rC k i g st wy tr nx tag) 28)) (cs := (rC 0 0 0 0 0 0 0 ⟨#[]⟩)) (t := 28)
  rw [World.size_alloc] at r2
  have hc := ((Below.refl w.heap.size w).alloc (Nat.le_refl _) (.cells (rC k i g st wy tr nx tag) 28)).alloc (by simp) (.cells (rC 0 0 0 0 0 0 0 ⟨#[]⟩) 28)
  generalize (w.alloc (.cells (rC k i g st wy tr nx tag) 28)).alloc (.cells (rC 0 0 0 0 0 0 0 ⟨#[]⟩) 28) = W at *
  have h12 : w.heap.size ≠ w.heap.size + 1 := by omega
  have hp : w.heap.size ≤ w.heap.size + 1 := Nat.le_succ _
  generalize w.heap.size + 1 = p2 at *
  obtain ⟨p1, hp1⟩ : ∃ p1, w.heap.size = p1 := ⟨_, rfl⟩
  rw [hp1] at r1 h12
  rw [hp1]
  refine Calls.mono (C0.out _) ?_
  rintro e V0 ⟨rfl, hb⟩
  replace r1 := r1.on hb
  replace r2 := r2.on hb
  replace hc := chain hc hb
  clear hb
  have y1 := r1.cell
  have y1l := r1.lt
  go_wp2_with fail
  clear y1 y1l
  refine Calls.mono (C1.out _) ?_
  rintro e V1 ⟨rfl, hb⟩
  replace r1 := r1.on hb
  replace r2 := r2.on hb
  replace hc := chain hc hb
  clear hb
  have y1 := r1.cell
  have y1l := r1.lt
  go_wp2_with fail
  clear y1 y1l
  refine Calls.mono (C2.out _) ?_
  rintro e V2 ⟨rfl, hb⟩
  replace r1 := r1.on hb
  replace r2 := r2.on hb
  replace hc := chain hc hb
  clear hb
  have y2 := r2.cell
  have y2f := r2.free
  have y2l := r2.lt
  have y1 := r1.cell
  have y1l := r1.lt
  go_wp2_with fail
  clear y2 y2f y2l y1 y1l
  replace r2 := ((((((((r2.set 0 (.int .i64 0)).set 1 (.int .i64 0)).set 2 (.int .u32 0)).set 3 (.int .i64 0)).set 4 (.int .i64 0)).set 5 (.int .i64 0)).set 6 (.int .i64 0)).set 7 (.string ⟨#[]⟩))
  replace hc := ((((((((hc.setCell (p := ⟨p2, 0, none⟩) hp (.int .i64 0)).setCell (p := ⟨p2, 1, none⟩) hp (.int .i64 0)).setCell (p := ⟨p2, 2, none⟩) hp (.int .u32 0)).setCell (p := ⟨p2, 3, none⟩) hp (.int .i64 0)).setCell (p := ⟨p2, 4, none⟩) hp (.int .i64 0)).setCell (p := ⟨p2, 5, none⟩) hp (.int .i64 0)).setCell (p := ⟨p2, 6, none⟩) hp (.int .i64 0)).setCell (p := ⟨p2, 7, none⟩) hp (.string ⟨#[]⟩))
  simp only [List.setIfInBounds_toArray, List.set_cons_zero, List.set_cons_succ] at r2
  generalize hW : World.setCell _ _ _ = Z9 at *
  clear hW
  have q0 := r2.cell 0
  have q1 := r2.cell 1
  have q2 := r2.cell 2
  have q3 := r2.cell 3
  have q4 := r2.cell 4
  have q5 := r2.cell 5
  have q6 := r2.cell 6
  have q7 := r2.cell 7
  simp only [List.getElem?_toArray, List.getElem?_cons_succ, List.getElem?_cons_zero] at q0 q1 q2 q3 q4 q5 q6 q7
  clear r2 r1
  refine bodyPost_ret (v := .tuple #[r0V, .int .i64 2]) (by simp [results, Tryz.results9, go_sem, q0, q1, q2, q3, q4, q5, q6, q7]) rfl ⟨rfl, by first | exact hc | (rw [← hp1]; exact hc)⟩

set_option maxHeartbeats 8000000 in
set_option maxRecDepth 20000 in
theorem rclose_s (k i g st wy tr nx why now e : Int) (tag : ByteArray) (w : World) (g0 : 0 ≤ g) (hs : tag.size ≤ 1000000) (he : rErr k i g st wy tr nx tag = 0) (h1 : inB why 1 3 = true) (h2 : isT now = true) (h3 : st ≠ 1) : Ret 9 #[rV k i g st wy tr nx tag, .int .i64 why, .int .i64 now] w (.tuple #[r0V, .int .i64 8]) := by
  have p0 : (st != 1) = true := by rw [bne_iff_ne]; omega
  have c0 := fun w => rrerr_c k i g st wy tr nx tag w g0 hs
  rw [he] at c0
  have C0 := Lib.hid c0
  clear c0
  have c1 := fun w => rwhy_c why w
  rw [h1] at c1
  have C1 := Lib.hid c1
  clear c1
  have c2 := fun w => rtime_c now w
  rw [h2] at c2
  have C2 := Lib.hid c2
  clear c2
  go_enter Tryz.func9, Tryz.ntmps9
  go_wp2_with fail
  have r1 := (Row.new (W := w) (cs := (rC k i g st wy tr nx tag)) (t := 28)).on (below_alloc _ (.cells (rC 0 0 0 0 0 0 0 ⟨#[]⟩) 28))
  have r2 := Row.new (W := w.alloc (.cells (rC k i g st wy tr nx tag) 28)) (cs := (rC 0 0 0 0 0 0 0 ⟨#[]⟩)) (t := 28)
  rw [World.size_alloc] at r2
  have hc := ((Below.refl w.heap.size w).alloc (Nat.le_refl _) (.cells (rC k i g st wy tr nx tag) 28)).alloc (by simp) (.cells (rC 0 0 0 0 0 0 0 ⟨#[]⟩) 28)
  generalize (w.alloc (.cells (rC k i g st wy tr nx tag) 28)).alloc (.cells (rC 0 0 0 0 0 0 0 ⟨#[]⟩) 28) = W at *
  have h12 : w.heap.size ≠ w.heap.size + 1 := by omega
  have hp : w.heap.size ≤ w.heap.size + 1 := Nat.le_succ _
  generalize w.heap.size + 1 = p2 at *
  obtain ⟨p1, hp1⟩ : ∃ p1, w.heap.size = p1 := ⟨_, rfl⟩
  rw [hp1] at r1 h12
  rw [hp1]
  refine Calls.mono (C0.out _) ?_
  rintro e V0 ⟨rfl, hb⟩
  replace r1 := r1.on hb
  replace r2 := r2.on hb
  replace hc := chain hc hb
  clear hb
  have y1 := r1.cell
  have y1l := r1.lt
  go_wp2_with fail
  clear y1 y1l
  refine Calls.mono (C1.out _) ?_
  rintro e V1 ⟨rfl, hb⟩
  replace r1 := r1.on hb
  replace r2 := r2.on hb
  replace hc := chain hc hb
  clear hb
  have y1 := r1.cell
  have y1l := r1.lt
  go_wp2_with fail
  clear y1 y1l
  refine Calls.mono (C2.out _) ?_
  rintro e V2 ⟨rfl, hb⟩
  replace r1 := r1.on hb
  replace r2 := r2.on hb
  replace hc := chain hc hb
  clear hb
  have y2 := r2.cell
  have y2f := r2.free
  have y2l := r2.lt
  have y1 := r1.cell
  have y1l := r1.lt
  go_wp2_with fail
  clear y2 y2f y2l y1 y1l
  replace r2 := ((((((((r2.set 0 (.int .i64 0)).set 1 (.int .i64 0)).set 2 (.int .u32 0)).set 3 (.int .i64 0)).set 4 (.int .i64 0)).set 5 (.int .i64 0)).set 6 (.int .i64 0)).set 7 (.string ⟨#[]⟩))
  replace hc := ((((((((hc.setCell (p := ⟨p2, 0, none⟩) hp (.int .i64 0)).setCell (p := ⟨p2, 1, none⟩) hp (.int .i64 0)).setCell (p := ⟨p2, 2, none⟩) hp (.int .u32 0)).setCell (p := ⟨p2, 3, none⟩) hp (.int .i64 0)).setCell (p := ⟨p2, 4, none⟩) hp (.int .i64 0)).setCell (p := ⟨p2, 5, none⟩) hp (.int .i64 0)).setCell (p := ⟨p2, 6, none⟩) hp (.int .i64 0)).setCell (p := ⟨p2, 7, none⟩) hp (.string ⟨#[]⟩))
  simp only [List.setIfInBounds_toArray, List.set_cons_zero, List.set_cons_succ] at r2
  generalize hW : World.setCell _ _ _ = Z9 at *
  clear hW
  have q0 := r2.cell 0
  have q1 := r2.cell 1
  have q2 := r2.cell 2
  have q3 := r2.cell 3
  have q4 := r2.cell 4
  have q5 := r2.cell 5
  have q6 := r2.cell 6
  have q7 := r2.cell 7
  simp only [List.getElem?_toArray, List.getElem?_cons_succ, List.getElem?_cons_zero] at q0 q1 q2 q3 q4 q5 q6 q7
  clear r2 r1
  refine bodyPost_ret (v := .tuple #[r0V, .int .i64 8]) (by simp [results, Tryz.results9, go_sem, q0, q1, q2, q3, q4, q5, q6, q7]) rfl ⟨rfl, by first | exact hc | (rw [← hp1]; exact hc)⟩

set_option maxHeartbeats 8000000 in
set_option maxRecDepth 20000 in
theorem rclose_ok (k i g st wy tr nx why now e : Int) (tag : ByteArray) (w : World) (g0 : 0 ≤ g) (hs : tag.size ≤ 1000000) (he : rErr k i g st wy tr nx tag = 0) (h1 : inB why 1 3 = true) (h2 : isT now = true) (h3 : st = 1) : Ret 9 #[rV k i g st wy tr nx tag, .int .i64 why, .int .i64 now] w (.tuple #[rV k i g 2 why tr now tag, .int .i64 0]) := by
  have p0 : (st != 1) = false := by rw [bne_eq_false_iff_eq]; omega
  have c0 := fun w => rrerr_c k i g st wy tr nx tag w g0 hs
  rw [he] at c0
  have C0 := Lib.hid c0
  clear c0
  have c1 := fun w => rwhy_c why w
  rw [h1] at c1
  have C1 := Lib.hid c1
  clear c1
  have c2 := fun w => rtime_c now w
  rw [h2] at c2
  have C2 := Lib.hid c2
  clear c2
  clear h3
  go_enter Tryz.func9, Tryz.ntmps9
  go_wp2_with fail
  have r1 := (Row.new (W := w) (cs := (rC k i g st wy tr nx tag)) (t := 28)).on (below_alloc _ (.cells (rC 0 0 0 0 0 0 0 ⟨#[]⟩) 28))
  have r2 := Row.new (W := w.alloc (.cells (rC k i g st wy tr nx tag) 28)) (cs := (rC 0 0 0 0 0 0 0 ⟨#[]⟩)) (t := 28)
  rw [World.size_alloc] at r2
  have hc := ((Below.refl w.heap.size w).alloc (Nat.le_refl _) (.cells (rC k i g st wy tr nx tag) 28)).alloc (by simp) (.cells (rC 0 0 0 0 0 0 0 ⟨#[]⟩) 28)
  generalize (w.alloc (.cells (rC k i g st wy tr nx tag) 28)).alloc (.cells (rC 0 0 0 0 0 0 0 ⟨#[]⟩) 28) = W at *
  have h12 : w.heap.size ≠ w.heap.size + 1 := by omega
  have hp : w.heap.size ≤ w.heap.size + 1 := Nat.le_succ _
  generalize w.heap.size + 1 = p2 at *
  obtain ⟨p1, hp1⟩ : ∃ p1, w.heap.size = p1 := ⟨_, rfl⟩
  rw [hp1] at r1 h12
  rw [hp1]
  refine Calls.mono (C0.out _) ?_
  rintro e V0 ⟨rfl, hb⟩
  replace r1 := r1.on hb
  replace r2 := r2.on hb
  replace hc := chain hc hb
  clear hb
  have y1 := r1.cell
  have y1l := r1.lt
  go_wp2_with fail
  clear y1 y1l
  refine Calls.mono (C1.out _) ?_
  rintro e V1 ⟨rfl, hb⟩
  replace r1 := r1.on hb
  replace r2 := r2.on hb
  replace hc := chain hc hb
  clear hb
  have y1 := r1.cell
  have y1l := r1.lt
  go_wp2_with fail
  clear y1 y1l
  refine Calls.mono (C2.out _) ?_
  rintro e V2 ⟨rfl, hb⟩
  replace r1 := r1.on hb
  replace r2 := r2.on hb
  replace hc := chain hc hb
  clear hb
  have y1 := r1.cell
  have y1f := r1.free
  have y1l := r1.lt
  go_upto_region 11 with fail
  clear y1 y1f y1l
  replace r2 := (((r2.other h12 3 (.int .i64 2)).other h12 4 (.int .i64 why)).other h12 6 (.int .i64 now))
  replace hc := (((hc.setCell (p := ⟨p1, 3, none⟩) (Nat.le_of_eq hp1) (.int .i64 2)).setCell (p := ⟨p1, 4, none⟩) (Nat.le_of_eq hp1) (.int .i64 why)).setCell (p := ⟨p1, 6, none⟩) (Nat.le_of_eq hp1) (.int .i64 now))
  replace r1 := (((r1.set 3 (.int .i64 2)).set 4 (.int .i64 why)).set 6 (.int .i64 now))
  simp only [List.setIfInBounds_toArray, List.set_cons_zero, List.set_cons_succ] at r1
  generalize hW : World.setCell _ _ _ = X at *
  clear hW
  have y2 := r2.cell
  have y2f := r2.free
  have y2l := r2.lt
  have y1 := r1.cell
  have y1l := r1.lt
  go_wp2_with fail
  clear y2 y2f y2l y1 y1l
  replace r2 := ((((((((r2.set 0 (.int .i64 k)).set 1 (.int .i64 i)).set 2 (.int .u32 g)).set 3 (.int .i64 2)).set 4 (.int .i64 why)).set 5 (.int .i64 tr)).set 6 (.int .i64 now)).set 7 (.string tag))
  replace hc := ((((((((hc.setCell (p := ⟨p2, 0, none⟩) hp (.int .i64 k)).setCell (p := ⟨p2, 1, none⟩) hp (.int .i64 i)).setCell (p := ⟨p2, 2, none⟩) hp (.int .u32 g)).setCell (p := ⟨p2, 3, none⟩) hp (.int .i64 2)).setCell (p := ⟨p2, 4, none⟩) hp (.int .i64 why)).setCell (p := ⟨p2, 5, none⟩) hp (.int .i64 tr)).setCell (p := ⟨p2, 6, none⟩) hp (.int .i64 now)).setCell (p := ⟨p2, 7, none⟩) hp (.string tag))
  simp only [List.setIfInBounds_toArray, List.set_cons_zero, List.set_cons_succ] at r2
  generalize hW : World.setCell _ _ _ = Z9 at *
  clear hW
  have q0 := r2.cell 0
  have q1 := r2.cell 1
  have q2 := r2.cell 2
  have q3 := r2.cell 3
  have q4 := r2.cell 4
  have q5 := r2.cell 5
  have q6 := r2.cell 6
  have q7 := r2.cell 7
  simp only [List.getElem?_toArray, List.getElem?_cons_succ, List.getElem?_cons_zero] at q0 q1 q2 q3 q4 q5 q6 q7
  clear r2 r1
  refine bodyPost_ret (v := .tuple #[rV k i g 2 why tr now tag, .int .i64 0]) (by simp [results, Tryz.results9, go_sem, q0, q1, q2, q3, q4, q5, q6, q7]) rfl ⟨rfl, by first | exact hc | (rw [← hp1]; exact hc)⟩

theorem rclose_c (k i g st wy tr nx why now : Int) (tag : ByteArray) (w : World) (g0 : 0 ≤ g) (hs : tag.size ≤ 1000000) : Ret 9 #[rV k i g st wy tr nx tag, .int .i64 why, .int .i64 now] w (closeV k i g st wy tr nx tag why now) := by
  unfold closeV
  by_cases he : rErr k i g st wy tr nx tag = 0
  · cases h1 : inB why 1 3 with
    | false =>
      rw [Bool.false_and, if_neg chkE_false, chkE_not he]
      exact rclose_w k i g st wy tr nx why now 0 tag w g0 hs he h1
    | true =>
      cases h2 : isT now with
      | false =>
        rw [Bool.and_false, if_neg chkE_false, chkE_not he]
        exact rclose_t k i g st wy tr nx why now 0 tag w g0 hs he h1 h2
      | true =>
        rw [Bool.and_true]
        by_cases h3 : st = 1
        · rw [if_pos (chkE_ok he h3)]
          exact rclose_ok k i g st wy tr nx why now 0 tag w g0 hs he h1 h2 h3
        · rw [if_neg (by rw [chkE_st he h3]; decide), chkE_st he h3]
          exact rclose_s k i g st wy tr nx why now 0 tag w g0 hs he h1 h2 h3
  · rw [chkE_bad he, if_neg he]
    exact rclose_e k i g st wy tr nx why now _ tag w g0 hs rfl he

set_option maxHeartbeats 8000000 in
set_option maxRecDepth 20000 in
theorem rtried_e (k i g st wy tr nx answer now wait e : Int) (tag : ByteArray) (w : World) (g0 : 0 ≤ g) (hs : tag.size ≤ 1000000) (he : rErr k i g st wy tr nx tag = e) (hne : e ≠ 0) : Ret 11 #[rV k i g st wy tr nx tag, .int .i64 answer, .int .i64 now, .int .i64 wait] w (.tuple #[r0V, .int .i64 e]) := by
  have p0 : (e != 0) = true := by rw [bne_iff_ne]; exact hne
  have c0 := fun w => rrerr_c k i g st wy tr nx tag w g0 hs
  rw [he] at c0
  have C0 := Lib.hid c0
  clear c0
  go_enter Tryz.func11, Tryz.ntmps11
  go_wp2_with fail
  have r1 := (Row.new (W := w) (cs := (rC k i g st wy tr nx tag)) (t := 28)).on (below_alloc _ (.cells (rC 0 0 0 0 0 0 0 ⟨#[]⟩) 28))
  have r2 := Row.new (W := w.alloc (.cells (rC k i g st wy tr nx tag) 28)) (cs := (rC 0 0 0 0 0 0 0 ⟨#[]⟩)) (t := 28)
  rw [World.size_alloc] at r2
  have hc := ((Below.refl w.heap.size w).alloc (Nat.le_refl _) (.cells (rC k i g st wy tr nx tag) 28)).alloc (by simp) (.cells (rC 0 0 0 0 0 0 0 ⟨#[]⟩) 28)
  generalize (w.alloc (.cells (rC k i g st wy tr nx tag) 28)).alloc (.cells (rC 0 0 0 0 0 0 0 ⟨#[]⟩) 28) = W at *
  have h12 : w.heap.size ≠ w.heap.size + 1 := by omega
  have hp : w.heap.size ≤ w.heap.size + 1 := Nat.le_succ _
  generalize w.heap.size + 1 = p2 at *
  obtain ⟨p1, hp1⟩ : ∃ p1, w.heap.size = p1 := ⟨_, rfl⟩
  rw [hp1] at r1 h12
  rw [hp1]
  refine Calls.mono (C0.out _) ?_
  rintro e V0 ⟨rfl, hb⟩
  replace r1 := r1.on hb
  replace r2 := r2.on hb
  replace hc := chain hc hb
  clear hb
  have y2 := r2.cell
  have y2f := r2.free
  have y2l := r2.lt
  have y1 := r1.cell
  have y1l := r1.lt
  go_wp2_with fail
  clear y2 y2f y2l y1 y1l
  replace r2 := ((((((((r2.set 0 (.int .i64 0)).set 1 (.int .i64 0)).set 2 (.int .u32 0)).set 3 (.int .i64 0)).set 4 (.int .i64 0)).set 5 (.int .i64 0)).set 6 (.int .i64 0)).set 7 (.string ⟨#[]⟩))
  replace hc := ((((((((hc.setCell (p := ⟨p2, 0, none⟩) hp (.int .i64 0)).setCell (p := ⟨p2, 1, none⟩) hp (.int .i64 0)).setCell (p := ⟨p2, 2, none⟩) hp (.int .u32 0)).setCell (p := ⟨p2, 3, none⟩) hp (.int .i64 0)).setCell (p := ⟨p2, 4, none⟩) hp (.int .i64 0)).setCell (p := ⟨p2, 5, none⟩) hp (.int .i64 0)).setCell (p := ⟨p2, 6, none⟩) hp (.int .i64 0)).setCell (p := ⟨p2, 7, none⟩) hp (.string ⟨#[]⟩))
  simp only [List.setIfInBounds_toArray, List.set_cons_zero, List.set_cons_succ] at r2
  generalize hW : World.setCell _ _ _ = Z9 at *
  clear hW
  have q0 := r2.cell 0
  have q1 := r2.cell 1
  have q2 := r2.cell 2
  have q3 := r2.cell 3
  have q4 := r2.cell 4
  have q5 := r2.cell 5
  have q6 := r2.cell 6
  have q7 := r2.cell 7
  simp only [List.getElem?_toArray, List.getElem?_cons_succ, List.getElem?_cons_zero] at q0 q1 q2 q3 q4 q5 q6 q7
  clear r2 r1
  refine bodyPost_ret (v := .tuple #[r0V, .int .i64 e]) (by simp [results, Tryz.results11, go_sem, q0, q1, q2, q3, q4, q5, q6, q7]) rfl ⟨rfl, by first | exact hc | (rw [← hp1]; exact hc)⟩

set_option maxHeartbeats 8000000 in
set_option maxRecDepth 20000 in
theorem rtried_a1 (k i g st wy tr nx answer now wait e : Int) (tag : ByteArray) (w : World) (g0 : 0 ≤ g) (hs : tag.size ≤ 1000000) (he : rErr k i g st wy tr nx tag = 0) (h1 : answer < 1) : Ret 11 #[rV k i g st wy tr nx tag, .int .i64 answer, .int .i64 now, .int .i64 wait] w (.tuple #[r0V, .int .i64 2]) := by
  have p0 : decide (answer < 1) = true := decide_eq_true (by omega)
  have c0 := fun w => rrerr_c k i g st wy tr nx tag w g0 hs
  rw [he] at c0
  have C0 := Lib.hid c0
  clear c0
  go_enter Tryz.func11, Tryz.ntmps11
  go_wp2_with fail
  have r1 := (Row.new (W := w) (cs := (rC k i g st wy tr nx tag)) (t := 28)).on (below_alloc _ (.cells (rC 0 0 0 0 0 0 0 ⟨#[]⟩) 28))
  have r2 := Row.new (W := w.alloc (.cells (rC k i g st wy tr nx tag) 28)) (cs := (rC 0 0 0 0 0 0 0 ⟨#[]⟩)) (t := 28)
  rw [World.size_alloc] at r2
  have hc := ((Below.refl w.heap.size w).alloc (Nat.le_refl _) (.cells (rC k i g st wy tr nx tag) 28)).alloc (by simp) (.cells (rC 0 0 0 0 0 0 0 ⟨#[]⟩) 28)
  generalize (w.alloc (.cells (rC k i g st wy tr nx tag) 28)).alloc (.cells (rC 0 0 0 0 0 0 0 ⟨#[]⟩) 28) = W at *
  have h12 : w.heap.size ≠ w.heap.size + 1 := by omega
  have hp : w.heap.size ≤ w.heap.size + 1 := Nat.le_succ _
  generalize w.heap.size + 1 = p2 at *
  obtain ⟨p1, hp1⟩ : ∃ p1, w.heap.size = p1 := ⟨_, rfl⟩
  rw [hp1] at r1 h12
  rw [hp1]
  refine Calls.mono (C0.out _) ?_
  rintro e V0 ⟨rfl, hb⟩
  replace r1 := r1.on hb
  replace r2 := r2.on hb
  replace hc := chain hc hb
  clear hb
  have y2 := r2.cell
  have y2f := r2.free
  have y2l := r2.lt
  have y1 := r1.cell
  have y1l := r1.lt
  go_wp2_with fail
  clear y2 y2f y2l y1 y1l
  replace r2 := ((((((((r2.set 0 (.int .i64 0)).set 1 (.int .i64 0)).set 2 (.int .u32 0)).set 3 (.int .i64 0)).set 4 (.int .i64 0)).set 5 (.int .i64 0)).set 6 (.int .i64 0)).set 7 (.string ⟨#[]⟩))
  replace hc := ((((((((hc.setCell (p := ⟨p2, 0, none⟩) hp (.int .i64 0)).setCell (p := ⟨p2, 1, none⟩) hp (.int .i64 0)).setCell (p := ⟨p2, 2, none⟩) hp (.int .u32 0)).setCell (p := ⟨p2, 3, none⟩) hp (.int .i64 0)).setCell (p := ⟨p2, 4, none⟩) hp (.int .i64 0)).setCell (p := ⟨p2, 5, none⟩) hp (.int .i64 0)).setCell (p := ⟨p2, 6, none⟩) hp (.int .i64 0)).setCell (p := ⟨p2, 7, none⟩) hp (.string ⟨#[]⟩))
  simp only [List.setIfInBounds_toArray, List.set_cons_zero, List.set_cons_succ] at r2
  generalize hW : World.setCell _ _ _ = Z9 at *
  clear hW
  have q0 := r2.cell 0
  have q1 := r2.cell 1
  have q2 := r2.cell 2
  have q3 := r2.cell 3
  have q4 := r2.cell 4
  have q5 := r2.cell 5
  have q6 := r2.cell 6
  have q7 := r2.cell 7
  simp only [List.getElem?_toArray, List.getElem?_cons_succ, List.getElem?_cons_zero] at q0 q1 q2 q3 q4 q5 q6 q7
  clear r2 r1
  refine bodyPost_ret (v := .tuple #[r0V, .int .i64 2]) (by simp [results, Tryz.results11, go_sem, q0, q1, q2, q3, q4, q5, q6, q7]) rfl ⟨rfl, by first | exact hc | (rw [← hp1]; exact hc)⟩

set_option maxHeartbeats 8000000 in
set_option maxRecDepth 20000 in
theorem rtried_a2 (k i g st wy tr nx answer now wait e : Int) (tag : ByteArray) (w : World) (g0 : 0 ≤ g) (hs : tag.size ≤ 1000000) (he : rErr k i g st wy tr nx tag = 0) (h1 : 3 < answer) : Ret 11 #[rV k i g st wy tr nx tag, .int .i64 answer, .int .i64 now, .int .i64 wait] w (.tuple #[r0V, .int .i64 2]) := by
  have p0 : decide (answer < 1) = false := decide_eq_false (by omega)
  have p1 : decide ((3 : Int) < answer) = true := decide_eq_true (by omega)
  have c0 := fun w => rrerr_c k i g st wy tr nx tag w g0 hs
  rw [he] at c0
  have C0 := Lib.hid c0
  clear c0
  go_enter Tryz.func11, Tryz.ntmps11
  go_wp2_with fail
  have r1 := (Row.new (W := w) (cs := (rC k i g st wy tr nx tag)) (t := 28)).on (below_alloc _ (.cells (rC 0 0 0 0 0 0 0 ⟨#[]⟩) 28))
  have r2 := Row.new (W := w.alloc (.cells (rC k i g st wy tr nx tag) 28)) (cs := (rC 0 0 0 0 0 0 0 ⟨#[]⟩)) (t := 28)
  rw [World.size_alloc] at r2
  have hc := ((Below.refl w.heap.size w).alloc (Nat.le_refl _) (.cells (rC k i g st wy tr nx tag) 28)).alloc (by simp) (.cells (rC 0 0 0 0 0 0 0 ⟨#[]⟩) 28)
  generalize (w.alloc (.cells (rC k i g st wy tr nx tag) 28)).alloc (.cells (rC 0 0 0 0 0 0 0 ⟨#[]⟩) 28) = W at *
  have h12 : w.heap.size ≠ w.heap.size + 1 := by omega
  have hp : w.heap.size ≤ w.heap.size + 1 := Nat.le_succ _
  generalize w.heap.size + 1 = p2 at *
  obtain ⟨p1, hp1⟩ : ∃ p1, w.heap.size = p1 := ⟨_, rfl⟩
  rw [hp1] at r1 h12
  rw [hp1]
  refine Calls.mono (C0.out _) ?_
  rintro e V0 ⟨rfl, hb⟩
  replace r1 := r1.on hb
  replace r2 := r2.on hb
  replace hc := chain hc hb
  clear hb
  have y2 := r2.cell
  have y2f := r2.free
  have y2l := r2.lt
  have y1 := r1.cell
  have y1l := r1.lt
  go_wp2_with fail
  clear y2 y2f y2l y1 y1l
  replace r2 := ((((((((r2.set 0 (.int .i64 0)).set 1 (.int .i64 0)).set 2 (.int .u32 0)).set 3 (.int .i64 0)).set 4 (.int .i64 0)).set 5 (.int .i64 0)).set 6 (.int .i64 0)).set 7 (.string ⟨#[]⟩))
  replace hc := ((((((((hc.setCell (p := ⟨p2, 0, none⟩) hp (.int .i64 0)).setCell (p := ⟨p2, 1, none⟩) hp (.int .i64 0)).setCell (p := ⟨p2, 2, none⟩) hp (.int .u32 0)).setCell (p := ⟨p2, 3, none⟩) hp (.int .i64 0)).setCell (p := ⟨p2, 4, none⟩) hp (.int .i64 0)).setCell (p := ⟨p2, 5, none⟩) hp (.int .i64 0)).setCell (p := ⟨p2, 6, none⟩) hp (.int .i64 0)).setCell (p := ⟨p2, 7, none⟩) hp (.string ⟨#[]⟩))
  simp only [List.setIfInBounds_toArray, List.set_cons_zero, List.set_cons_succ] at r2
  generalize hW : World.setCell _ _ _ = Z9 at *
  clear hW
  have q0 := r2.cell 0
  have q1 := r2.cell 1
  have q2 := r2.cell 2
  have q3 := r2.cell 3
  have q4 := r2.cell 4
  have q5 := r2.cell 5
  have q6 := r2.cell 6
  have q7 := r2.cell 7
  simp only [List.getElem?_toArray, List.getElem?_cons_succ, List.getElem?_cons_zero] at q0 q1 q2 q3 q4 q5 q6 q7
  clear r2 r1
  refine bodyPost_ret (v := .tuple #[r0V, .int .i64 2]) (by simp [results, Tryz.results11, go_sem, q0, q1, q2, q3, q4, q5, q6, q7]) rfl ⟨rfl, by first | exact hc | (rw [← hp1]; exact hc)⟩

set_option maxHeartbeats 8000000 in
set_option maxRecDepth 20000 in
theorem rtried_t (k i g st wy tr nx answer now wait e : Int) (tag : ByteArray) (w : World) (g0 : 0 ≤ g) (hs : tag.size ≤ 1000000) (he : rErr k i g st wy tr nx tag = 0) (h1 : 1 ≤ answer ∧ answer ≤ 3) (h2 : isT now = false) : Ret 11 #[rV k i g st wy tr nx tag, .int .i64 answer, .int .i64 now, .int .i64 wait] w (.tuple #[r0V, .int .i64 2]) := by
  have p0 : decide (answer < 1) = false := decide_eq_false (by omega)
  have p1 : decide ((3 : Int) < answer) = false := decide_eq_false (by omega)
  have c0 := fun w => rrerr_c k i g st wy tr nx tag w g0 hs
  rw [he] at c0
  have C0 := Lib.hid c0
  clear c0
  have c1 := fun w => rtime_c now w
  rw [h2] at c1
  have C1 := Lib.hid c1
  clear c1
  go_enter Tryz.func11, Tryz.ntmps11
  go_wp2_with fail
  have r1 := (Row.new (W := w) (cs := (rC k i g st wy tr nx tag)) (t := 28)).on (below_alloc _ (.cells (rC 0 0 0 0 0 0 0 ⟨#[]⟩) 28))
  have r2 := Row.new (W := w.alloc (.cells (rC k i g st wy tr nx tag) 28)) (cs := (rC 0 0 0 0 0 0 0 ⟨#[]⟩)) (t := 28)
  rw [World.size_alloc] at r2
  have hc := ((Below.refl w.heap.size w).alloc (Nat.le_refl _) (.cells (rC k i g st wy tr nx tag) 28)).alloc (by simp) (.cells (rC 0 0 0 0 0 0 0 ⟨#[]⟩) 28)
  generalize (w.alloc (.cells (rC k i g st wy tr nx tag) 28)).alloc (.cells (rC 0 0 0 0 0 0 0 ⟨#[]⟩) 28) = W at *
  have h12 : w.heap.size ≠ w.heap.size + 1 := by omega
  have hp : w.heap.size ≤ w.heap.size + 1 := Nat.le_succ _
  generalize w.heap.size + 1 = p2 at *
  obtain ⟨p1, hp1⟩ : ∃ p1, w.heap.size = p1 := ⟨_, rfl⟩
  rw [hp1] at r1 h12
  rw [hp1]
  refine Calls.mono (C0.out _) ?_
  rintro e V0 ⟨rfl, hb⟩
  replace r1 := r1.on hb
  replace r2 := r2.on hb
  replace hc := chain hc hb
  clear hb
  have y1 := r1.cell
  have y1l := r1.lt
  go_wp2_with fail
  clear y1 y1l
  refine Calls.mono (C1.out _) ?_
  rintro e V1 ⟨rfl, hb⟩
  replace r1 := r1.on hb
  replace r2 := r2.on hb
  replace hc := chain hc hb
  clear hb
  have y2 := r2.cell
  have y2f := r2.free
  have y2l := r2.lt
  have y1 := r1.cell
  have y1l := r1.lt
  go_wp2_with fail
  clear y2 y2f y2l y1 y1l
  replace r2 := ((((((((r2.set 0 (.int .i64 0)).set 1 (.int .i64 0)).set 2 (.int .u32 0)).set 3 (.int .i64 0)).set 4 (.int .i64 0)).set 5 (.int .i64 0)).set 6 (.int .i64 0)).set 7 (.string ⟨#[]⟩))
  replace hc := ((((((((hc.setCell (p := ⟨p2, 0, none⟩) hp (.int .i64 0)).setCell (p := ⟨p2, 1, none⟩) hp (.int .i64 0)).setCell (p := ⟨p2, 2, none⟩) hp (.int .u32 0)).setCell (p := ⟨p2, 3, none⟩) hp (.int .i64 0)).setCell (p := ⟨p2, 4, none⟩) hp (.int .i64 0)).setCell (p := ⟨p2, 5, none⟩) hp (.int .i64 0)).setCell (p := ⟨p2, 6, none⟩) hp (.int .i64 0)).setCell (p := ⟨p2, 7, none⟩) hp (.string ⟨#[]⟩))
  simp only [List.setIfInBounds_toArray, List.set_cons_zero, List.set_cons_succ] at r2
  generalize hW : World.setCell _ _ _ = Z9 at *
  clear hW
  have q0 := r2.cell 0
  have q1 := r2.cell 1
  have q2 := r2.cell 2
  have q3 := r2.cell 3
  have q4 := r2.cell 4
  have q5 := r2.cell 5
  have q6 := r2.cell 6
  have q7 := r2.cell 7
  simp only [List.getElem?_toArray, List.getElem?_cons_succ, List.getElem?_cons_zero] at q0 q1 q2 q3 q4 q5 q6 q7
  clear r2 r1
  refine bodyPost_ret (v := .tuple #[r0V, .int .i64 2]) (by simp [results, Tryz.results11, go_sem, q0, q1, q2, q3, q4, q5, q6, q7]) rfl ⟨rfl, by first | exact hc | (rw [← hp1]; exact hc)⟩

set_option maxHeartbeats 8000000 in
set_option maxRecDepth 20000 in
theorem rtried_w1 (k i g st wy tr nx answer now wait e : Int) (tag : ByteArray) (w : World) (g0 : 0 ≤ g) (hs : tag.size ≤ 1000000) (he : rErr k i g st wy tr nx tag = 0) (h1 : 1 ≤ answer ∧ answer ≤ 3) (h2 : isT now = true) (h3 : wait < 1) : Ret 11 #[rV k i g st wy tr nx tag, .int .i64 answer, .int .i64 now, .int .i64 wait] w (.tuple #[r0V, .int .i64 2]) := by
  have p0 : decide (answer < 1) = false := decide_eq_false (by omega)
  have p1 : decide ((3 : Int) < answer) = false := decide_eq_false (by omega)
  have p2 : decide (wait < 1) = true := decide_eq_true (by omega)
  have c0 := fun w => rrerr_c k i g st wy tr nx tag w g0 hs
  rw [he] at c0
  have C0 := Lib.hid c0
  clear c0
  have c1 := fun w => rtime_c now w
  rw [h2] at c1
  have C1 := Lib.hid c1
  clear c1
  go_enter Tryz.func11, Tryz.ntmps11
  go_wp2_with fail
  have r1 := (Row.new (W := w) (cs := (rC k i g st wy tr nx tag)) (t := 28)).on (below_alloc _ (.cells (rC 0 0 0 0 0 0 0 ⟨#[]⟩) 28))
  have r2 := Row.new (W := w.alloc (.cells (rC k i g st wy tr nx tag) 28)) (cs := (rC 0 0 0 0 0 0 0 ⟨#[]⟩)) (t := 28)
  rw [World.size_alloc] at r2
  have hc := ((Below.refl w.heap.size w).alloc (Nat.le_refl _) (.cells (rC k i g st wy tr nx tag) 28)).alloc (by simp) (.cells (rC 0 0 0 0 0 0 0 ⟨#[]⟩) 28)
  generalize (w.alloc (.cells (rC k i g st wy tr nx tag) 28)).alloc (.cells (rC 0 0 0 0 0 0 0 ⟨#[]⟩) 28) = W at *
  have h12 : w.heap.size ≠ w.heap.size + 1 := by omega
  have hp : w.heap.size ≤ w.heap.size + 1 := Nat.le_succ _
  generalize w.heap.size + 1 = p2 at *
  obtain ⟨p1, hp1⟩ : ∃ p1, w.heap.size = p1 := ⟨_, rfl⟩
  rw [hp1] at r1 h12
  rw [hp1]
  refine Calls.mono (C0.out _) ?_
  rintro e V0 ⟨rfl, hb⟩
  replace r1 := r1.on hb
  replace r2 := r2.on hb
  replace hc := chain hc hb
  clear hb
  have y1 := r1.cell
  have y1l := r1.lt
  go_wp2_with fail
  clear y1 y1l
  refine Calls.mono (C1.out _) ?_
  rintro e V1 ⟨rfl, hb⟩
  replace r1 := r1.on hb
  replace r2 := r2.on hb
  replace hc := chain hc hb
  clear hb
  have y2 := r2.cell
  have y2f := r2.free
  have y2l := r2.lt
  have y1 := r1.cell
  have y1l := r1.lt
  go_wp2_with fail
  clear y2 y2f y2l y1 y1l
  replace r2 := ((((((((r2.set 0 (.int .i64 0)).set 1 (.int .i64 0)).set 2 (.int .u32 0)).set 3 (.int .i64 0)).set 4 (.int .i64 0)).set 5 (.int .i64 0)).set 6 (.int .i64 0)).set 7 (.string ⟨#[]⟩))
  replace hc := ((((((((hc.setCell (p := ⟨p2, 0, none⟩) hp (.int .i64 0)).setCell (p := ⟨p2, 1, none⟩) hp (.int .i64 0)).setCell (p := ⟨p2, 2, none⟩) hp (.int .u32 0)).setCell (p := ⟨p2, 3, none⟩) hp (.int .i64 0)).setCell (p := ⟨p2, 4, none⟩) hp (.int .i64 0)).setCell (p := ⟨p2, 5, none⟩) hp (.int .i64 0)).setCell (p := ⟨p2, 6, none⟩) hp (.int .i64 0)).setCell (p := ⟨p2, 7, none⟩) hp (.string ⟨#[]⟩))
  simp only [List.setIfInBounds_toArray, List.set_cons_zero, List.set_cons_succ] at r2
  generalize hW : World.setCell _ _ _ = Z9 at *
  clear hW
  have q0 := r2.cell 0
  have q1 := r2.cell 1
  have q2 := r2.cell 2
  have q3 := r2.cell 3
  have q4 := r2.cell 4
  have q5 := r2.cell 5
  have q6 := r2.cell 6
  have q7 := r2.cell 7
  simp only [List.getElem?_toArray, List.getElem?_cons_succ, List.getElem?_cons_zero] at q0 q1 q2 q3 q4 q5 q6 q7
  clear r2 r1
  refine bodyPost_ret (v := .tuple #[r0V, .int .i64 2]) (by simp [results, Tryz.results11, go_sem, q0, q1, q2, q3, q4, q5, q6, q7]) rfl ⟨rfl, by first | exact hc | (rw [← hp1]; exact hc)⟩

set_option maxHeartbeats 8000000 in
set_option maxRecDepth 20000 in
theorem rtried_w2 (k i g st wy tr nx answer now wait e : Int) (tag : ByteArray) (w : World) (g0 : 0 ≤ g) (hs : tag.size ≤ 1000000) (he : rErr k i g st wy tr nx tag = 0) (h1 : 1 ≤ answer ∧ answer ≤ 3) (h2 : isT now = true) (h3 : 1048576 < wait) : Ret 11 #[rV k i g st wy tr nx tag, .int .i64 answer, .int .i64 now, .int .i64 wait] w (.tuple #[r0V, .int .i64 2]) := by
  have p0 : decide (answer < 1) = false := decide_eq_false (by omega)
  have p1 : decide ((3 : Int) < answer) = false := decide_eq_false (by omega)
  have p2 : decide (wait < 1) = false := decide_eq_false (by omega)
  have p3 : decide ((1048576 : Int) < wait) = true := decide_eq_true (by omega)
  have c0 := fun w => rrerr_c k i g st wy tr nx tag w g0 hs
  rw [he] at c0
  have C0 := Lib.hid c0
  clear c0
  have c1 := fun w => rtime_c now w
  rw [h2] at c1
  have C1 := Lib.hid c1
  clear c1
  go_enter Tryz.func11, Tryz.ntmps11
  go_wp2_with fail
  have r1 := (Row.new (W := w) (cs := (rC k i g st wy tr nx tag)) (t := 28)).on (below_alloc _ (.cells (rC 0 0 0 0 0 0 0 ⟨#[]⟩) 28))
  have r2 := Row.new (W := w.alloc (.cells (rC k i g st wy tr nx tag) 28)) (cs := (rC 0 0 0 0 0 0 0 ⟨#[]⟩)) (t := 28)
  rw [World.size_alloc] at r2
  have hc := ((Below.refl w.heap.size w).alloc (Nat.le_refl _) (.cells (rC k i g st wy tr nx tag) 28)).alloc (by simp) (.cells (rC 0 0 0 0 0 0 0 ⟨#[]⟩) 28)
  generalize (w.alloc (.cells (rC k i g st wy tr nx tag) 28)).alloc (.cells (rC 0 0 0 0 0 0 0 ⟨#[]⟩) 28) = W at *
  have h12 : w.heap.size ≠ w.heap.size + 1 := by omega
  have hp : w.heap.size ≤ w.heap.size + 1 := Nat.le_succ _
  generalize w.heap.size + 1 = p2 at *
  obtain ⟨p1, hp1⟩ : ∃ p1, w.heap.size = p1 := ⟨_, rfl⟩
  rw [hp1] at r1 h12
  rw [hp1]
  refine Calls.mono (C0.out _) ?_
  rintro e V0 ⟨rfl, hb⟩
  replace r1 := r1.on hb
  replace r2 := r2.on hb
  replace hc := chain hc hb
  clear hb
  have y1 := r1.cell
  have y1l := r1.lt
  go_wp2_with fail
  clear y1 y1l
  refine Calls.mono (C1.out _) ?_
  rintro e V1 ⟨rfl, hb⟩
  replace r1 := r1.on hb
  replace r2 := r2.on hb
  replace hc := chain hc hb
  clear hb
  have y2 := r2.cell
  have y2f := r2.free
  have y2l := r2.lt
  have y1 := r1.cell
  have y1l := r1.lt
  go_wp2_with fail
  clear y2 y2f y2l y1 y1l
  replace r2 := ((((((((r2.set 0 (.int .i64 0)).set 1 (.int .i64 0)).set 2 (.int .u32 0)).set 3 (.int .i64 0)).set 4 (.int .i64 0)).set 5 (.int .i64 0)).set 6 (.int .i64 0)).set 7 (.string ⟨#[]⟩))
  replace hc := ((((((((hc.setCell (p := ⟨p2, 0, none⟩) hp (.int .i64 0)).setCell (p := ⟨p2, 1, none⟩) hp (.int .i64 0)).setCell (p := ⟨p2, 2, none⟩) hp (.int .u32 0)).setCell (p := ⟨p2, 3, none⟩) hp (.int .i64 0)).setCell (p := ⟨p2, 4, none⟩) hp (.int .i64 0)).setCell (p := ⟨p2, 5, none⟩) hp (.int .i64 0)).setCell (p := ⟨p2, 6, none⟩) hp (.int .i64 0)).setCell (p := ⟨p2, 7, none⟩) hp (.string ⟨#[]⟩))
  simp only [List.setIfInBounds_toArray, List.set_cons_zero, List.set_cons_succ] at r2
  generalize hW : World.setCell _ _ _ = Z9 at *
  clear hW
  have q0 := r2.cell 0
  have q1 := r2.cell 1
  have q2 := r2.cell 2
  have q3 := r2.cell 3
  have q4 := r2.cell 4
  have q5 := r2.cell 5
  have q6 := r2.cell 6
  have q7 := r2.cell 7
  simp only [List.getElem?_toArray, List.getElem?_cons_succ, List.getElem?_cons_zero] at q0 q1 q2 q3 q4 q5 q6 q7
  clear r2 r1
  refine bodyPost_ret (v := .tuple #[r0V, .int .i64 2]) (by simp [results, Tryz.results11, go_sem, q0, q1, q2, q3, q4, q5, q6, q7]) rfl ⟨rfl, by first | exact hc | (rw [← hp1]; exact hc)⟩

set_option maxHeartbeats 8000000 in
set_option maxRecDepth 20000 in
theorem rtried_s (k i g st wy tr nx answer now wait e : Int) (tag : ByteArray) (w : World) (g0 : 0 ≤ g) (hs : tag.size ≤ 1000000) (he : rErr k i g st wy tr nx tag = 0) (h1 : 1 ≤ answer ∧ answer ≤ 3) (h2 : isT now = true) (h3 : 1 ≤ wait ∧ wait ≤ 1048576) (h4 : st ≠ 2) : Ret 11 #[rV k i g st wy tr nx tag, .int .i64 answer, .int .i64 now, .int .i64 wait] w (.tuple #[r0V, .int .i64 8]) := by
  have p0 : decide (answer < 1) = false := decide_eq_false (by omega)
  have p1 : decide ((3 : Int) < answer) = false := decide_eq_false (by omega)
  have p2 : decide (wait < 1) = false := decide_eq_false (by omega)
  have p3 : decide ((1048576 : Int) < wait) = false := decide_eq_false (by omega)
  have p4 : (st != 2) = true := by rw [bne_iff_ne]; omega
  have c0 := fun w => rrerr_c k i g st wy tr nx tag w g0 hs
  rw [he] at c0
  have C0 := Lib.hid c0
  clear c0
  have c1 := fun w => rtime_c now w
  rw [h2] at c1
  have C1 := Lib.hid c1
  clear c1
  go_enter Tryz.func11, Tryz.ntmps11
  go_wp2_with fail
  have r1 := (Row.new (W := w) (cs := (rC k i g st wy tr nx tag)) (t := 28)).on (below_alloc _ (.cells (rC 0 0 0 0 0 0 0 ⟨#[]⟩) 28))
  have r2 := Row.new (W := w.alloc (.cells (rC k i g st wy tr nx tag) 28)) (cs := (rC 0 0 0 0 0 0 0 ⟨#[]⟩)) (t := 28)
  rw [World.size_alloc] at r2
  have hc := ((Below.refl w.heap.size w).alloc (Nat.le_refl _) (.cells (rC k i g st wy tr nx tag) 28)).alloc (by simp) (.cells (rC 0 0 0 0 0 0 0 ⟨#[]⟩) 28)
  generalize (w.alloc (.cells (rC k i g st wy tr nx tag) 28)).alloc (.cells (rC 0 0 0 0 0 0 0 ⟨#[]⟩) 28) = W at *
  have h12 : w.heap.size ≠ w.heap.size + 1 := by omega
  have hp : w.heap.size ≤ w.heap.size + 1 := Nat.le_succ _
  generalize w.heap.size + 1 = p2 at *
  obtain ⟨p1, hp1⟩ : ∃ p1, w.heap.size = p1 := ⟨_, rfl⟩
  rw [hp1] at r1 h12
  rw [hp1]
  refine Calls.mono (C0.out _) ?_
  rintro e V0 ⟨rfl, hb⟩
  replace r1 := r1.on hb
  replace r2 := r2.on hb
  replace hc := chain hc hb
  clear hb
  have y1 := r1.cell
  have y1l := r1.lt
  go_wp2_with fail
  clear y1 y1l
  refine Calls.mono (C1.out _) ?_
  rintro e V1 ⟨rfl, hb⟩
  replace r1 := r1.on hb
  replace r2 := r2.on hb
  replace hc := chain hc hb
  clear hb
  have y2 := r2.cell
  have y2f := r2.free
  have y2l := r2.lt
  have y1 := r1.cell
  have y1l := r1.lt
  go_wp2_with fail
  clear y2 y2f y2l y1 y1l
  replace r2 := ((((((((r2.set 0 (.int .i64 0)).set 1 (.int .i64 0)).set 2 (.int .u32 0)).set 3 (.int .i64 0)).set 4 (.int .i64 0)).set 5 (.int .i64 0)).set 6 (.int .i64 0)).set 7 (.string ⟨#[]⟩))
  replace hc := ((((((((hc.setCell (p := ⟨p2, 0, none⟩) hp (.int .i64 0)).setCell (p := ⟨p2, 1, none⟩) hp (.int .i64 0)).setCell (p := ⟨p2, 2, none⟩) hp (.int .u32 0)).setCell (p := ⟨p2, 3, none⟩) hp (.int .i64 0)).setCell (p := ⟨p2, 4, none⟩) hp (.int .i64 0)).setCell (p := ⟨p2, 5, none⟩) hp (.int .i64 0)).setCell (p := ⟨p2, 6, none⟩) hp (.int .i64 0)).setCell (p := ⟨p2, 7, none⟩) hp (.string ⟨#[]⟩))
  simp only [List.setIfInBounds_toArray, List.set_cons_zero, List.set_cons_succ] at r2
  generalize hW : World.setCell _ _ _ = Z9 at *
  clear hW
  have q0 := r2.cell 0
  have q1 := r2.cell 1
  have q2 := r2.cell 2
  have q3 := r2.cell 3
  have q4 := r2.cell 4
  have q5 := r2.cell 5
  have q6 := r2.cell 6
  have q7 := r2.cell 7
  simp only [List.getElem?_toArray, List.getElem?_cons_succ, List.getElem?_cons_zero] at q0 q1 q2 q3 q4 q5 q6 q7
  clear r2 r1
  refine bodyPost_ret (v := .tuple #[r0V, .int .i64 8]) (by simp [results, Tryz.results11, go_sem, q0, q1, q2, q3, q4, q5, q6, q7]) rfl ⟨rfl, by first | exact hc | (rw [← hp1]; exact hc)⟩

set_option maxHeartbeats 8000000 in
set_option maxRecDepth 20000 in
theorem rtried_2a (k i g st wy tr nx now wait e : Int) (tag : ByteArray) (w : World) (g0 : 0 ≤ g) (hs : tag.size ≤ 1000000) (he : rErr k i g st wy tr nx tag = 0) (h2 : isT now = true) (h3 : 1 ≤ wait ∧ wait ≤ 1048576) (h4 : st = 2) (h5 : 1099511627776 < now + wait) : Ret 11 #[rV k i g st wy tr nx tag, .int .i64 2, .int .i64 now, .int .i64 wait] w (.tuple #[r0V, .int .i64 17]) := by
  have p0 : decide (wait < 1) = false := decide_eq_false (by omega)
  have p1 : decide ((1048576 : Int) < wait) = false := decide_eq_false (by omega)
  have p2 : (st != 2) = false := by rw [bne_eq_false_iff_eq]; omega
  have p3 : IntKind.i64.wrap (now + wait) = now + wait := IntWalk.i64_in _ ⟨by have := isT_iff.1 h2; omega, by have := isT_iff.1 h2; omega⟩
  have p4 : decide ((1099511627776 : Int) < now + wait) = true := decide_eq_true (by omega)
  have c0 := fun w => rrerr_c k i g st wy tr nx tag w g0 hs
  rw [he] at c0
  have C0 := Lib.hid c0
  clear c0
  have c1 := fun w => rtime_c now w
  rw [h2] at c1
  have C1 := Lib.hid c1
  clear c1
  clear h4
  go_enter Tryz.func11, Tryz.ntmps11
  go_wp2_with fail
  have r1 := (Row.new (W := w) (cs := (rC k i g st wy tr nx tag)) (t := 28)).on (below_alloc _ (.cells (rC 0 0 0 0 0 0 0 ⟨#[]⟩) 28))
  have r2 := Row.new (W := w.alloc (.cells (rC k i g st wy tr nx tag) 28)) (cs := (rC 0 0 0 0 0 0 0 ⟨#[]⟩)) (t := 28)
  rw [World.size_alloc] at r2
  have hc := ((Below.refl w.heap.size w).alloc (Nat.le_refl _) (.cells (rC k i g st wy tr nx tag) 28)).alloc (by simp) (.cells (rC 0 0 0 0 0 0 0 ⟨#[]⟩) 28)
  generalize (w.alloc (.cells (rC k i g st wy tr nx tag) 28)).alloc (.cells (rC 0 0 0 0 0 0 0 ⟨#[]⟩) 28) = W at *
  have h12 : w.heap.size ≠ w.heap.size + 1 := by omega
  have hp : w.heap.size ≤ w.heap.size + 1 := Nat.le_succ _
  generalize w.heap.size + 1 = p2 at *
  obtain ⟨p1, hp1⟩ : ∃ p1, w.heap.size = p1 := ⟨_, rfl⟩
  rw [hp1] at r1 h12
  rw [hp1]
  refine Calls.mono (C0.out _) ?_
  rintro e V0 ⟨rfl, hb⟩
  replace r1 := r1.on hb
  replace r2 := r2.on hb
  replace hc := chain hc hb
  clear hb
  have y1 := r1.cell
  have y1l := r1.lt
  go_wp2_with fail
  clear y1 y1l
  refine Calls.mono (C1.out _) ?_
  rintro e V1 ⟨rfl, hb⟩
  replace r1 := r1.on hb
  replace r2 := r2.on hb
  replace hc := chain hc hb
  clear hb
  have y2 := r2.cell
  have y2f := r2.free
  have y2l := r2.lt
  have y1 := r1.cell
  have y1l := r1.lt
  go_wp2_with fail
  clear y2 y2f y2l y1 y1l
  replace r2 := ((((((((r2.set 0 (.int .i64 0)).set 1 (.int .i64 0)).set 2 (.int .u32 0)).set 3 (.int .i64 0)).set 4 (.int .i64 0)).set 5 (.int .i64 0)).set 6 (.int .i64 0)).set 7 (.string ⟨#[]⟩))
  replace hc := ((((((((hc.setCell (p := ⟨p2, 0, none⟩) hp (.int .i64 0)).setCell (p := ⟨p2, 1, none⟩) hp (.int .i64 0)).setCell (p := ⟨p2, 2, none⟩) hp (.int .u32 0)).setCell (p := ⟨p2, 3, none⟩) hp (.int .i64 0)).setCell (p := ⟨p2, 4, none⟩) hp (.int .i64 0)).setCell (p := ⟨p2, 5, none⟩) hp (.int .i64 0)).setCell (p := ⟨p2, 6, none⟩) hp (.int .i64 0)).setCell (p := ⟨p2, 7, none⟩) hp (.string ⟨#[]⟩))
  simp only [List.setIfInBounds_toArray, List.set_cons_zero, List.set_cons_succ] at r2
  generalize hW : World.setCell _ _ _ = Z9 at *
  clear hW
  have q0 := r2.cell 0
  have q1 := r2.cell 1
  have q2 := r2.cell 2
  have q3 := r2.cell 3
  have q4 := r2.cell 4
  have q5 := r2.cell 5
  have q6 := r2.cell 6
  have q7 := r2.cell 7
  simp only [List.getElem?_toArray, List.getElem?_cons_succ, List.getElem?_cons_zero] at q0 q1 q2 q3 q4 q5 q6 q7
  clear r2 r1
  refine bodyPost_ret (v := .tuple #[r0V, .int .i64 17]) (by simp [results, Tryz.results11, go_sem, q0, q1, q2, q3, q4, q5, q6, q7]) rfl ⟨rfl, by first | exact hc | (rw [← hp1]; exact hc)⟩

set_option maxHeartbeats 8000000 in
set_option maxRecDepth 20000 in
theorem rtried_2b (k i g st wy tr nx now wait e : Int) (tag : ByteArray) (w : World) (g0 : 0 ≤ g) (hs : tag.size ≤ 1000000) (he : rErr k i g st wy tr nx tag = 0) (h2 : isT now = true) (h3 : 1 ≤ wait ∧ wait ≤ 1048576) (h4 : st = 2) (h5 : ¬ 1099511627776 < now + wait) (h6 : 10000 ≤ tr) : Ret 11 #[rV k i g st wy tr nx tag, .int .i64 2, .int .i64 now, .int .i64 wait] w (.tuple #[r0V, .int .i64 17]) := by
  have p0 : decide (wait < 1) = false := decide_eq_false (by omega)
  have p1 : decide ((1048576 : Int) < wait) = false := decide_eq_false (by omega)
  have p2 : (st != 2) = false := by rw [bne_eq_false_iff_eq]; omega
  have p3 : IntKind.i64.wrap (now + wait) = now + wait := IntWalk.i64_in _ ⟨by have := isT_iff.1 h2; omega, by have := isT_iff.1 h2; omega⟩
  have p4 : decide ((1099511627776 : Int) < now + wait) = false := decide_eq_false (by omega)
  have p5 : decide ((10000 : Int) ≤ tr) = true := decide_eq_true (by omega)
  have c0 := fun w => rrerr_c k i g st wy tr nx tag w g0 hs
  rw [he] at c0
  have C0 := Lib.hid c0
  clear c0
  have c1 := fun w => rtime_c now w
  rw [h2] at c1
  have C1 := Lib.hid c1
  clear c1
  clear h4
  go_enter Tryz.func11, Tryz.ntmps11
  go_wp2_with fail
  have r1 := (Row.new (W := w) (cs := (rC k i g st wy tr nx tag)) (t := 28)).on (below_alloc _ (.cells (rC 0 0 0 0 0 0 0 ⟨#[]⟩) 28))
  have r2 := Row.new (W := w.alloc (.cells (rC k i g st wy tr nx tag) 28)) (cs := (rC 0 0 0 0 0 0 0 ⟨#[]⟩)) (t := 28)
  rw [World.size_alloc] at r2
  have hc := ((Below.refl w.heap.size w).alloc (Nat.le_refl _) (.cells (rC k i g st wy tr nx tag) 28)).alloc (by simp) (.cells (rC 0 0 0 0 0 0 0 ⟨#[]⟩) 28)
  generalize (w.alloc (.cells (rC k i g st wy tr nx tag) 28)).alloc (.cells (rC 0 0 0 0 0 0 0 ⟨#[]⟩) 28) = W at *
  have h12 : w.heap.size ≠ w.heap.size + 1 := by omega
  have hp : w.heap.size ≤ w.heap.size + 1 := Nat.le_succ _
  generalize w.heap.size + 1 = p2 at *
  obtain ⟨p1, hp1⟩ : ∃ p1, w.heap.size = p1 := ⟨_, rfl⟩
  rw [hp1] at r1 h12
  rw [hp1]
  refine Calls.mono (C0.out _) ?_
  rintro e V0 ⟨rfl, hb⟩
  replace r1 := r1.on hb
  replace r2 := r2.on hb
  replace hc := chain hc hb
  clear hb
  have y1 := r1.cell
  have y1l := r1.lt
  go_wp2_with fail
  clear y1 y1l
  refine Calls.mono (C1.out _) ?_
  rintro e V1 ⟨rfl, hb⟩
  replace r1 := r1.on hb
  replace r2 := r2.on hb
  replace hc := chain hc hb
  clear hb
  have y2 := r2.cell
  have y2f := r2.free
  have y2l := r2.lt
  have y1 := r1.cell
  have y1l := r1.lt
  go_wp2_with fail
  clear y2 y2f y2l y1 y1l
  replace r2 := ((((((((r2.set 0 (.int .i64 0)).set 1 (.int .i64 0)).set 2 (.int .u32 0)).set 3 (.int .i64 0)).set 4 (.int .i64 0)).set 5 (.int .i64 0)).set 6 (.int .i64 0)).set 7 (.string ⟨#[]⟩))
  replace hc := ((((((((hc.setCell (p := ⟨p2, 0, none⟩) hp (.int .i64 0)).setCell (p := ⟨p2, 1, none⟩) hp (.int .i64 0)).setCell (p := ⟨p2, 2, none⟩) hp (.int .u32 0)).setCell (p := ⟨p2, 3, none⟩) hp (.int .i64 0)).setCell (p := ⟨p2, 4, none⟩) hp (.int .i64 0)).setCell (p := ⟨p2, 5, none⟩) hp (.int .i64 0)).setCell (p := ⟨p2, 6, none⟩) hp (.int .i64 0)).setCell (p := ⟨p2, 7, none⟩) hp (.string ⟨#[]⟩))
  simp only [List.setIfInBounds_toArray, List.set_cons_zero, List.set_cons_succ] at r2
  generalize hW : World.setCell _ _ _ = Z9 at *
  clear hW
  have q0 := r2.cell 0
  have q1 := r2.cell 1
  have q2 := r2.cell 2
  have q3 := r2.cell 3
  have q4 := r2.cell 4
  have q5 := r2.cell 5
  have q6 := r2.cell 6
  have q7 := r2.cell 7
  simp only [List.getElem?_toArray, List.getElem?_cons_succ, List.getElem?_cons_zero] at q0 q1 q2 q3 q4 q5 q6 q7
  clear r2 r1
  refine bodyPost_ret (v := .tuple #[r0V, .int .i64 17]) (by simp [results, Tryz.results11, go_sem, q0, q1, q2, q3, q4, q5, q6, q7]) rfl ⟨rfl, by first | exact hc | (rw [← hp1]; exact hc)⟩

set_option maxHeartbeats 8000000 in
set_option maxRecDepth 20000 in
theorem rtried_2c (k i g st wy tr nx now wait e : Int) (tag : ByteArray) (w : World) (g0 : 0 ≤ g) (hs : tag.size ≤ 1000000) (he : rErr k i g st wy tr nx tag = 0) (h2 : isT now = true) (h3 : 1 ≤ wait ∧ wait ≤ 1048576) (h4 : st = 2) (h5 : ¬ 1099511627776 < now + wait) (h6 : ¬ 10000 ≤ tr) (h7 : 0 ≤ tr) : Ret 11 #[rV k i g st wy tr nx tag, .int .i64 2, .int .i64 now, .int .i64 wait] w (.tuple #[rV k i g st wy (tr + 1) (now + wait) tag, .int .i64 0]) := by
  have p0 : decide (wait < 1) = false := decide_eq_false (by omega)
  have p1 : decide ((1048576 : Int) < wait) = false := decide_eq_false (by omega)
  have p2 : (st != 2) = false := by rw [bne_eq_false_iff_eq]; omega
  have p3 : IntKind.i64.wrap (now + wait) = now + wait := IntWalk.i64_in _ ⟨by have := isT_iff.1 h2; omega, by have := isT_iff.1 h2; omega⟩
  have p4 : decide ((1099511627776 : Int) < now + wait) = false := decide_eq_false (by omega)
  have p5 : decide ((10000 : Int) ≤ tr) = false := decide_eq_false (by omega)
  have p6 : IntKind.i64.wrap (tr + 1) = tr + 1 := IntWalk.i64_in _ ⟨by omega, by omega⟩
  have c0 := fun w => rrerr_c k i g st wy tr nx tag w g0 hs
  rw [he] at c0
  have C0 := Lib.hid c0
  clear c0
  have c1 := fun w => rtime_c now w
  rw [h2] at c1
  have C1 := Lib.hid c1
  clear c1
  clear h4
  go_enter Tryz.func11, Tryz.ntmps11
  go_wp2_with fail
  have r1 := (Row.new (W := w) (cs := (rC k i g st wy tr nx tag)) (t := 28)).on (below_alloc _ (.cells (rC 0 0 0 0 0 0 0 ⟨#[]⟩) 28))
  have r2 := Row.new (W := w.alloc (.cells (rC k i g st wy tr nx tag) 28)) (cs := (rC 0 0 0 0 0 0 0 ⟨#[]⟩)) (t := 28)
  rw [World.size_alloc] at r2
  have hc := ((Below.refl w.heap.size w).alloc (Nat.le_refl _) (.cells (rC k i g st wy tr nx tag) 28)).alloc (by simp) (.cells (rC 0 0 0 0 0 0 0 ⟨#[]⟩) 28)
  generalize (w.alloc (.cells (rC k i g st wy tr nx tag) 28)).alloc (.cells (rC 0 0 0 0 0 0 0 ⟨#[]⟩) 28) = W at *
  have h12 : w.heap.size ≠ w.heap.size + 1 := by omega
  have hp : w.heap.size ≤ w.heap.size + 1 := Nat.le_succ _
  generalize w.heap.size + 1 = p2 at *
  obtain ⟨p1, hp1⟩ : ∃ p1, w.heap.size = p1 := ⟨_, rfl⟩
  rw [hp1] at r1 h12
  rw [hp1]
  refine Calls.mono (C0.out _) ?_
  rintro e V0 ⟨rfl, hb⟩
  replace r1 := r1.on hb
  replace r2 := r2.on hb
  replace hc := chain hc hb
  clear hb
  have y1 := r1.cell
  have y1l := r1.lt
  go_wp2_with fail
  clear y1 y1l
  refine Calls.mono (C1.out _) ?_
  rintro e V1 ⟨rfl, hb⟩
  replace r1 := r1.on hb
  replace r2 := r2.on hb
  replace hc := chain hc hb
  clear hb
  have y1 := r1.cell
  have y1f := r1.free
  have y1l := r1.lt
  go_upto_region 13 with fail
  clear y1 y1f y1l
  replace r2 := ((r2.other h12 5 (.int .i64 (tr + 1))).other h12 6 (.int .i64 (now + wait)))
  replace hc := ((hc.setCell (p := ⟨p1, 5, none⟩) (Nat.le_of_eq hp1) (.int .i64 (tr + 1))).setCell (p := ⟨p1, 6, none⟩) (Nat.le_of_eq hp1) (.int .i64 (now + wait)))
  replace r1 := ((r1.set 5 (.int .i64 (tr + 1))).set 6 (.int .i64 (now + wait)))
  simp only [List.setIfInBounds_toArray, List.set_cons_zero, List.set_cons_succ] at r1
  generalize hW : World.setCell _ _ _ = X at *
  clear hW
  have y2 := r2.cell
  have y2f := r2.free
  have y2l := r2.lt
  have y1 := r1.cell
  have y1l := r1.lt
  go_wp2_with fail
  clear y2 y2f y2l y1 y1l
  replace r2 := ((((((((r2.set 0 (.int .i64 k)).set 1 (.int .i64 i)).set 2 (.int .u32 g)).set 3 (.int .i64 st)).set 4 (.int .i64 wy)).set 5 (.int .i64 (tr + 1))).set 6 (.int .i64 (now + wait))).set 7 (.string tag))
  replace hc := ((((((((hc.setCell (p := ⟨p2, 0, none⟩) hp (.int .i64 k)).setCell (p := ⟨p2, 1, none⟩) hp (.int .i64 i)).setCell (p := ⟨p2, 2, none⟩) hp (.int .u32 g)).setCell (p := ⟨p2, 3, none⟩) hp (.int .i64 st)).setCell (p := ⟨p2, 4, none⟩) hp (.int .i64 wy)).setCell (p := ⟨p2, 5, none⟩) hp (.int .i64 (tr + 1))).setCell (p := ⟨p2, 6, none⟩) hp (.int .i64 (now + wait))).setCell (p := ⟨p2, 7, none⟩) hp (.string tag))
  simp only [List.setIfInBounds_toArray, List.set_cons_zero, List.set_cons_succ] at r2
  generalize hW : World.setCell _ _ _ = Z9 at *
  clear hW
  have q0 := r2.cell 0
  have q1 := r2.cell 1
  have q2 := r2.cell 2
  have q3 := r2.cell 3
  have q4 := r2.cell 4
  have q5 := r2.cell 5
  have q6 := r2.cell 6
  have q7 := r2.cell 7
  simp only [List.getElem?_toArray, List.getElem?_cons_succ, List.getElem?_cons_zero] at q0 q1 q2 q3 q4 q5 q6 q7
  clear r2 r1
  refine bodyPost_ret (v := .tuple #[rV k i g st wy (tr + 1) (now + wait) tag, .int .i64 0]) (by simp [results, Tryz.results11, go_sem, q0, q1, q2, q3, q4, q5, q6, q7]) rfl ⟨rfl, by first | exact hc | (rw [← hp1]; exact hc)⟩

set_option maxHeartbeats 8000000 in
set_option maxRecDepth 20000 in
theorem rtried_1 (k i g st wy tr nx now wait e : Int) (tag : ByteArray) (w : World) (g0 : 0 ≤ g) (hs : tag.size ≤ 1000000) (he : rErr k i g st wy tr nx tag = 0) (h2 : isT now = true) (h3 : 1 ≤ wait ∧ wait ≤ 1048576) (h4 : st = 2) : Ret 11 #[rV k i g st wy tr nx tag, .int .i64 1, .int .i64 now, .int .i64 wait] w (.tuple #[rV k i g 3 wy tr 0 tag, .int .i64 0]) := by
  have p0 : decide (wait < 1) = false := decide_eq_false (by omega)
  have p1 : decide ((1048576 : Int) < wait) = false := decide_eq_false (by omega)
  have p2 : (st != 2) = false := by rw [bne_eq_false_iff_eq]; omega
  have c0 := fun w => rrerr_c k i g st wy tr nx tag w g0 hs
  rw [he] at c0
  have C0 := Lib.hid c0
  clear c0
  have c1 := fun w => rtime_c now w
  rw [h2] at c1
  have C1 := Lib.hid c1
  clear c1
  clear h4
  go_enter Tryz.func11, Tryz.ntmps11
  go_wp2_with fail
  have r1 := (Row.new (W := w) (cs := (rC k i g st wy tr nx tag)) (t := 28)).on (below_alloc _ (.cells (rC 0 0 0 0 0 0 0 ⟨#[]⟩) 28))
  have r2 := Row.new (W := w.alloc (.cells (rC k i g st wy tr nx tag) 28)) (cs := (rC 0 0 0 0 0 0 0 ⟨#[]⟩)) (t := 28)
  rw [World.size_alloc] at r2
  have hc := ((Below.refl w.heap.size w).alloc (Nat.le_refl _) (.cells (rC k i g st wy tr nx tag) 28)).alloc (by simp) (.cells (rC 0 0 0 0 0 0 0 ⟨#[]⟩) 28)
  generalize (w.alloc (.cells (rC k i g st wy tr nx tag) 28)).alloc (.cells (rC 0 0 0 0 0 0 0 ⟨#[]⟩) 28) = W at *
  have h12 : w.heap.size ≠ w.heap.size + 1 := by omega
  have hp : w.heap.size ≤ w.heap.size + 1 := Nat.le_succ _
  generalize w.heap.size + 1 = p2 at *
  obtain ⟨p1, hp1⟩ : ∃ p1, w.heap.size = p1 := ⟨_, rfl⟩
  rw [hp1] at r1 h12
  rw [hp1]
  refine Calls.mono (C0.out _) ?_
  rintro e V0 ⟨rfl, hb⟩
  replace r1 := r1.on hb
  replace r2 := r2.on hb
  replace hc := chain hc hb
  clear hb
  have y1 := r1.cell
  have y1l := r1.lt
  go_wp2_with fail
  clear y1 y1l
  refine Calls.mono (C1.out _) ?_
  rintro e V1 ⟨rfl, hb⟩
  replace r1 := r1.on hb
  replace r2 := r2.on hb
  replace hc := chain hc hb
  clear hb
  have y1 := r1.cell
  have y1f := r1.free
  have y1l := r1.lt
  go_upto_region 18 with fail
  clear y1 y1f y1l
  replace r2 := ((r2.other h12 3 (.int .i64 3)).other h12 6 (.int .i64 0))
  replace hc := ((hc.setCell (p := ⟨p1, 3, none⟩) (Nat.le_of_eq hp1) (.int .i64 3)).setCell (p := ⟨p1, 6, none⟩) (Nat.le_of_eq hp1) (.int .i64 0))
  replace r1 := ((r1.set 3 (.int .i64 3)).set 6 (.int .i64 0))
  simp only [List.setIfInBounds_toArray, List.set_cons_zero, List.set_cons_succ] at r1
  generalize hW : World.setCell _ _ _ = X at *
  clear hW
  have y2 := r2.cell
  have y2f := r2.free
  have y2l := r2.lt
  have y1 := r1.cell
  have y1l := r1.lt
  go_wp2_with fail
  clear y2 y2f y2l y1 y1l
  replace r2 := ((((((((r2.set 0 (.int .i64 k)).set 1 (.int .i64 i)).set 2 (.int .u32 g)).set 3 (.int .i64 3)).set 4 (.int .i64 wy)).set 5 (.int .i64 tr)).set 6 (.int .i64 0)).set 7 (.string tag))
  replace hc := ((((((((hc.setCell (p := ⟨p2, 0, none⟩) hp (.int .i64 k)).setCell (p := ⟨p2, 1, none⟩) hp (.int .i64 i)).setCell (p := ⟨p2, 2, none⟩) hp (.int .u32 g)).setCell (p := ⟨p2, 3, none⟩) hp (.int .i64 3)).setCell (p := ⟨p2, 4, none⟩) hp (.int .i64 wy)).setCell (p := ⟨p2, 5, none⟩) hp (.int .i64 tr)).setCell (p := ⟨p2, 6, none⟩) hp (.int .i64 0)).setCell (p := ⟨p2, 7, none⟩) hp (.string tag))
  simp only [List.setIfInBounds_toArray, List.set_cons_zero, List.set_cons_succ] at r2
  generalize hW : World.setCell _ _ _ = Z9 at *
  clear hW
  have q0 := r2.cell 0
  have q1 := r2.cell 1
  have q2 := r2.cell 2
  have q3 := r2.cell 3
  have q4 := r2.cell 4
  have q5 := r2.cell 5
  have q6 := r2.cell 6
  have q7 := r2.cell 7
  simp only [List.getElem?_toArray, List.getElem?_cons_succ, List.getElem?_cons_zero] at q0 q1 q2 q3 q4 q5 q6 q7
  clear r2 r1
  refine bodyPost_ret (v := .tuple #[rV k i g 3 wy tr 0 tag, .int .i64 0]) (by simp [results, Tryz.results11, go_sem, q0, q1, q2, q3, q4, q5, q6, q7]) rfl ⟨rfl, by first | exact hc | (rw [← hp1]; exact hc)⟩

set_option maxHeartbeats 8000000 in
set_option maxRecDepth 20000 in
theorem rtried_3 (k i g st wy tr nx now wait e : Int) (tag : ByteArray) (w : World) (g0 : 0 ≤ g) (hs : tag.size ≤ 1000000) (he : rErr k i g st wy tr nx tag = 0) (h2 : isT now = true) (h3 : 1 ≤ wait ∧ wait ≤ 1048576) (h4 : st = 2) : Ret 11 #[rV k i g st wy tr nx tag, .int .i64 3, .int .i64 now, .int .i64 wait] w (.tuple #[rV k i g 4 wy tr 0 tag, .int .i64 0]) := by
  have p0 : decide (wait < 1) = false := decide_eq_false (by omega)
  have p1 : decide ((1048576 : Int) < wait) = false := decide_eq_false (by omega)
  have p2 : (st != 2) = false := by rw [bne_eq_false_iff_eq]; omega
  have c0 := fun w => rrerr_c k i g st wy tr nx tag w g0 hs
  rw [he] at c0
  have C0 := Lib.hid c0
  clear c0
  have c1 := fun w => rtime_c now w
  rw [h2] at c1
  have C1 := Lib.hid c1
  clear c1
  clear h4
  go_enter Tryz.func11, Tryz.ntmps11
  go_wp2_with fail
  have r1 := (Row.new (W := w) (cs := (rC k i g st wy tr nx tag)) (t := 28)).on (below_alloc _ (.cells (rC 0 0 0 0 0 0 0 ⟨#[]⟩) 28))
  have r2 := Row.new (W := w.alloc (.cells (rC k i g st wy tr nx tag) 28)) (cs := (rC 0 0 0 0 0 0 0 ⟨#[]⟩)) (t := 28)
  rw [World.size_alloc] at r2
  have hc := ((Below.refl w.heap.size w).alloc (Nat.le_refl _) (.cells (rC k i g st wy tr nx tag) 28)).alloc (by simp) (.cells (rC 0 0 0 0 0 0 0 ⟨#[]⟩) 28)
  generalize (w.alloc (.cells (rC k i g st wy tr nx tag) 28)).alloc (.cells (rC 0 0 0 0 0 0 0 ⟨#[]⟩) 28) = W at *
  have h12 : w.heap.size ≠ w.heap.size + 1 := by omega
  have hp : w.heap.size ≤ w.heap.size + 1 := Nat.le_succ _
  generalize w.heap.size + 1 = p2 at *
  obtain ⟨p1, hp1⟩ : ∃ p1, w.heap.size = p1 := ⟨_, rfl⟩
  rw [hp1] at r1 h12
  rw [hp1]
  refine Calls.mono (C0.out _) ?_
  rintro e V0 ⟨rfl, hb⟩
  replace r1 := r1.on hb
  replace r2 := r2.on hb
  replace hc := chain hc hb
  clear hb
  have y1 := r1.cell
  have y1l := r1.lt
  go_wp2_with fail
  clear y1 y1l
  refine Calls.mono (C1.out _) ?_
  rintro e V1 ⟨rfl, hb⟩
  replace r1 := r1.on hb
  replace r2 := r2.on hb
  replace hc := chain hc hb
  clear hb
  have y1 := r1.cell
  have y1f := r1.free
  have y1l := r1.lt
  go_upto_region 18 with fail
  clear y1 y1f y1l
  replace r2 := (((r2.other h12 3 (.int .i64 3)).other h12 3 (.int .i64 4)).other h12 6 (.int .i64 0))
  replace hc := (((hc.setCell (p := ⟨p1, 3, none⟩) (Nat.le_of_eq hp1) (.int .i64 3)).setCell (p := ⟨p1, 3, none⟩) (Nat.le_of_eq hp1) (.int .i64 4)).setCell (p := ⟨p1, 6, none⟩) (Nat.le_of_eq hp1) (.int .i64 0))
  replace r1 := (((r1.set 3 (.int .i64 3)).set 3 (.int .i64 4)).set 6 (.int .i64 0))
  simp only [List.setIfInBounds_toArray, List.set_cons_zero, List.set_cons_succ] at r1
  generalize hW : World.setCell _ _ _ = X at *
  clear hW
  have y2 := r2.cell
  have y2f := r2.free
  have y2l := r2.lt
  have y1 := r1.cell
  have y1l := r1.lt
  go_wp2_with fail
  clear y2 y2f y2l y1 y1l
  replace r2 := ((((((((r2.set 0 (.int .i64 k)).set 1 (.int .i64 i)).set 2 (.int .u32 g)).set 3 (.int .i64 4)).set 4 (.int .i64 wy)).set 5 (.int .i64 tr)).set 6 (.int .i64 0)).set 7 (.string tag))
  replace hc := ((((((((hc.setCell (p := ⟨p2, 0, none⟩) hp (.int .i64 k)).setCell (p := ⟨p2, 1, none⟩) hp (.int .i64 i)).setCell (p := ⟨p2, 2, none⟩) hp (.int .u32 g)).setCell (p := ⟨p2, 3, none⟩) hp (.int .i64 4)).setCell (p := ⟨p2, 4, none⟩) hp (.int .i64 wy)).setCell (p := ⟨p2, 5, none⟩) hp (.int .i64 tr)).setCell (p := ⟨p2, 6, none⟩) hp (.int .i64 0)).setCell (p := ⟨p2, 7, none⟩) hp (.string tag))
  simp only [List.setIfInBounds_toArray, List.set_cons_zero, List.set_cons_succ] at r2
  generalize hW : World.setCell _ _ _ = Z9 at *
  clear hW
  have q0 := r2.cell 0
  have q1 := r2.cell 1
  have q2 := r2.cell 2
  have q3 := r2.cell 3
  have q4 := r2.cell 4
  have q5 := r2.cell 5
  have q6 := r2.cell 6
  have q7 := r2.cell 7
  simp only [List.getElem?_toArray, List.getElem?_cons_succ, List.getElem?_cons_zero] at q0 q1 q2 q3 q4 q5 q6 q7
  clear r2 r1
  refine bodyPost_ret (v := .tuple #[rV k i g 4 wy tr 0 tag, .int .i64 0]) (by simp [results, Tryz.results11, go_sem, q0, q1, q2, q3, q4, q5, q6, q7]) rfl ⟨rfl, by first | exact hc | (rw [← hp1]; exact hc)⟩

theorem rtried_c (k i g st wy tr nx answer now wait : Int) (tag : ByteArray) (w : World) (g0 : 0 ≤ g) (hs : tag.size ≤ 1000000) : Ret 11 #[rV k i g st wy tr nx tag, .int .i64 answer, .int .i64 now, .int .i64 wait] w (triedV k i g st wy tr nx tag answer now wait) := by
  unfold triedV triedA
  by_cases he : rErr k i g st wy tr nx tag = 0
  · by_cases a1 : answer < 1
    · rw [inB_not (by omega), Bool.false_and, if_neg chkE_false, chkE_not he]
      exact rtried_a1 k i g st wy tr nx answer now wait 0 tag w g0 hs he a1
    by_cases a2 : 3 < answer
    · rw [inB_not (by omega), Bool.false_and, if_neg chkE_false, chkE_not he]
      exact rtried_a2 k i g st wy tr nx answer now wait 0 tag w g0 hs he a2
    rw [show inB answer 1 3 = true from inB_iff.2 (by omega), Bool.true_and]
    cases h2 : isT now with
    | false =>
      rw [Bool.false_and, if_neg chkE_false, chkE_not he]
      exact rtried_t k i g st wy tr nx answer now wait 0 tag w g0 hs he (by omega) h2
    | true =>
      rw [Bool.true_and]
      by_cases w1 : wait < 1
      · rw [inB_not (by omega), if_neg chkE_false, chkE_not he]
        exact rtried_w1 k i g st wy tr nx answer now wait 0 tag w g0 hs he (by omega) h2 w1
      by_cases w2 : 1048576 < wait
      · rw [inB_not (by omega), if_neg chkE_false, chkE_not he]
        exact rtried_w2 k i g st wy tr nx answer now wait 0 tag w g0 hs he (by omega) h2 w2
      rw [show inB wait 1 1048576 = true from inB_iff.2 (by omega)]
      by_cases h4 : st = 2
      · rw [if_pos (chkE_ok he h4)]
        have ht : 0 ≤ tr := by
          have := (pOk_iff.1 (rErr_zero he).1).2.2.2 (by omega)
          omega
        rcases (by omega : answer = 1 ∨ answer = 2 ∨ answer = 3) with rfl | rfl | rfl
        · rw [if_pos rfl]
          exact rtried_1 k i g st wy tr nx now wait 0 tag w g0 hs he h2 (by omega) h4
        · rw [if_neg (by decide), if_neg (by decide)]
          by_cases h5 : 1099511627776 < now + wait
          · rw [if_pos (.inl (by omega))]
            exact rtried_2a k i g st wy tr nx now wait 0 tag w g0 hs he h2 (by omega) h4 h5
          · by_cases h6 : 10000 ≤ tr
            · rw [if_pos (.inr h6)]
              exact rtried_2b k i g st wy tr nx now wait 0 tag w g0 hs he h2 (by omega) h4 h5 h6
            · rw [if_neg (by omega)]
              have := rtried_2c k i g st wy tr nx now wait 0 tag w g0 hs he h2 (by omega) h4 h5 h6 ht
              rw [h4] at this ⊢
              exact this
        · rw [if_neg (by decide), if_pos rfl]
          exact rtried_3 k i g st wy tr nx now wait 0 tag w g0 hs he h2 (by omega) h4
      · rw [if_neg (by rw [chkE_st he h4]; decide), chkE_st he h4]
        exact rtried_s k i g st wy tr nx answer now wait 0 tag w g0 hs he (by omega) h2 (by omega) h4
  · rw [chkE_bad he, if_neg he]
    exact rtried_e k i g st wy tr nx answer now wait _ tag w g0 hs rfl he

set_option maxHeartbeats 8000000 in
set_option maxRecDepth 20000 in
theorem rdue_e (k i g st wy tr nx now e : Int) (tag : ByteArray) (w : World) (g0 : 0 ≤ g) (hs : tag.size ≤ 1000000) (he : rErr k i g st wy tr nx tag = e) (hne : e ≠ 0) : Ret 15 #[rV k i g st wy tr nx tag, .int .i64 now] w (.tuple #[.bool false, .int .i64 e]) := by
  have p0 : (e != 0) = true := by rw [bne_iff_ne]; exact hne
  have p1 : (e == 0) = false := by rw [beq_eq_false_iff_ne]; exact hne
  have c0 := fun w => rrerr_c k i g st wy tr nx tag w g0 hs
  rw [he] at c0
  have C0 := Lib.hid c0
  clear c0
  go_enter Tryz.func15, Tryz.ntmps15
  go_wp2_with fail
  have r1 := Row.new (W := w) (cs := (rC k i g st wy tr nx tag)) (t := 28)
  have hc := (Below.refl w.heap.size w).alloc (Nat.le_refl _) (.cells (rC k i g st wy tr nx tag) 28)
  generalize w.alloc (.cells (rC k i g st wy tr nx tag) 28) = W at *
  obtain ⟨p1, hp1⟩ : ∃ p1, w.heap.size = p1 := ⟨_, rfl⟩
  rw [hp1] at r1
  rw [hp1]
  refine Calls.mono (C0.out _) ?_
  rintro e V0 ⟨rfl, hb⟩
  replace r1 := r1.on hb
  replace hc := chain hc hb
  clear hb
  have y1 := r1.cell
  have y1l := r1.lt
  go_wp2_with fail
  go_returns
  exact ⟨rfl, by first | exact hc | (rw [← hp1]; exact hc)⟩

set_option maxHeartbeats 8000000 in
set_option maxRecDepth 20000 in
theorem rdue_t (k i g st wy tr nx now e : Int) (tag : ByteArray) (w : World) (g0 : 0 ≤ g) (hs : tag.size ≤ 1000000) (he : rErr k i g st wy tr nx tag = 0) (h2 : isT now = false) : Ret 15 #[rV k i g st wy tr nx tag, .int .i64 now] w (.tuple #[.bool false, .int .i64 2]) := by
  have c0 := fun w => rrerr_c k i g st wy tr nx tag w g0 hs
  rw [he] at c0
  have C0 := Lib.hid c0
  clear c0
  have c1 := fun w => rtime_c now w
  rw [h2] at c1
  have C1 := Lib.hid c1
  clear c1
  go_enter Tryz.func15, Tryz.ntmps15
  go_wp2_with fail
  have r1 := Row.new (W := w) (cs := (rC k i g st wy tr nx tag)) (t := 28)
  have hc := (Below.refl w.heap.size w).alloc (Nat.le_refl _) (.cells (rC k i g st wy tr nx tag) 28)
  generalize w.alloc (.cells (rC k i g st wy tr nx tag) 28) = W at *
  obtain ⟨p1, hp1⟩ : ∃ p1, w.heap.size = p1 := ⟨_, rfl⟩
  rw [hp1] at r1
  rw [hp1]
  refine Calls.mono (C0.out _) ?_
  rintro e V0 ⟨rfl, hb⟩
  replace r1 := r1.on hb
  replace hc := chain hc hb
  clear hb
  have y1 := r1.cell
  have y1l := r1.lt
  go_wp2_with fail
  clear y1 y1l
  refine Calls.mono (C1.out _) ?_
  rintro e V1 ⟨rfl, hb⟩
  replace r1 := r1.on hb
  replace hc := chain hc hb
  clear hb
  have y1 := r1.cell
  have y1l := r1.lt
  go_wp2_with fail
  go_returns
  exact ⟨rfl, by first | exact hc | (rw [← hp1]; exact hc)⟩

set_option maxHeartbeats 8000000 in
set_option maxRecDepth 20000 in
theorem rdue_2 (k i g st wy tr nx now e : Int) (tag : ByteArray) (w : World) (g0 : 0 ≤ g) (hs : tag.size ≤ 1000000) (he : rErr k i g st wy tr nx tag = 0) (h2 : isT now = true) (h3 : (st == 2) = true) : Ret 15 #[rV k i g st wy tr nx tag, .int .i64 now] w (.tuple #[.bool (decide (nx ≤ now)), .int .i64 0]) := by
  have c0 := fun w => rrerr_c k i g st wy tr nx tag w g0 hs
  rw [he] at c0
  have C0 := Lib.hid c0
  clear c0
  have c1 := fun w => rtime_c now w
  rw [h2] at c1
  have C1 := Lib.hid c1
  clear c1
  go_enter Tryz.func15, Tryz.ntmps15
  go_wp2_with fail
  have r1 := Row.new (W := w) (cs := (rC k i g st wy tr nx tag)) (t := 28)
  have hc := (Below.refl w.heap.size w).alloc (Nat.le_refl _) (.cells (rC k i g st wy tr nx tag) 28)
  generalize w.alloc (.cells (rC k i g st wy tr nx tag) 28) = W at *
  obtain ⟨p1, hp1⟩ : ∃ p1, w.heap.size = p1 := ⟨_, rfl⟩
  rw [hp1] at r1
  rw [hp1]
  refine Calls.mono (C0.out _) ?_
  rintro e V0 ⟨rfl, hb⟩
  replace r1 := r1.on hb
  replace hc := chain hc hb
  clear hb
  have y1 := r1.cell
  have y1l := r1.lt
  go_wp2_with fail
  clear y1 y1l
  refine Calls.mono (C1.out _) ?_
  rintro e V1 ⟨rfl, hb⟩
  replace r1 := r1.on hb
  replace hc := chain hc hb
  clear hb
  have y1 := r1.cell
  have y1l := r1.lt
  go_wp2_with fail
  go_returns
  exact ⟨rfl, by first | exact hc | (rw [← hp1]; exact hc)⟩

set_option maxHeartbeats 8000000 in
set_option maxRecDepth 20000 in
theorem rdue_n (k i g st wy tr nx now e : Int) (tag : ByteArray) (w : World) (g0 : 0 ≤ g) (hs : tag.size ≤ 1000000) (he : rErr k i g st wy tr nx tag = 0) (h2 : isT now = true) (h3 : (st == 2) = false) : Ret 15 #[rV k i g st wy tr nx tag, .int .i64 now] w (.tuple #[.bool false, .int .i64 0]) := by
  have c0 := fun w => rrerr_c k i g st wy tr nx tag w g0 hs
  rw [he] at c0
  have C0 := Lib.hid c0
  clear c0
  have c1 := fun w => rtime_c now w
  rw [h2] at c1
  have C1 := Lib.hid c1
  clear c1
  go_enter Tryz.func15, Tryz.ntmps15
  go_wp2_with fail
  have r1 := Row.new (W := w) (cs := (rC k i g st wy tr nx tag)) (t := 28)
  have hc := (Below.refl w.heap.size w).alloc (Nat.le_refl _) (.cells (rC k i g st wy tr nx tag) 28)
  generalize w.alloc (.cells (rC k i g st wy tr nx tag) 28) = W at *
  obtain ⟨p1, hp1⟩ : ∃ p1, w.heap.size = p1 := ⟨_, rfl⟩
  rw [hp1] at r1
  rw [hp1]
  refine Calls.mono (C0.out _) ?_
  rintro e V0 ⟨rfl, hb⟩
  replace r1 := r1.on hb
  replace hc := chain hc hb
  clear hb
  have y1 := r1.cell
  have y1l := r1.lt
  go_wp2_with fail
  clear y1 y1l
  refine Calls.mono (C1.out _) ?_
  rintro e V1 ⟨rfl, hb⟩
  replace r1 := r1.on hb
  replace hc := chain hc hb
  clear hb
  have y1 := r1.cell
  have y1l := r1.lt
  go_wp2_with fail
  go_returns
  exact ⟨rfl, by first | exact hc | (rw [← hp1]; exact hc)⟩

set_option maxHeartbeats 8000000 in
set_option maxRecDepth 20000 in
theorem rover_e (k i g st wy tr nx e : Int) (tag : ByteArray) (w : World) (g0 : 0 ≤ g) (hs : tag.size ≤ 1000000) (he : rErr k i g st wy tr nx tag = e) (hne : e ≠ 0) : Ret 17 #[rV k i g st wy tr nx tag] w (.tuple #[.bool false, .int .i64 e]) := by
  have p0 : (e != 0) = true := by rw [bne_iff_ne]; exact hne
  have c0 := fun w => rrerr_c k i g st wy tr nx tag w g0 hs
  rw [he] at c0
  have C0 := Lib.hid c0
  clear c0
  go_enter Tryz.func17, Tryz.ntmps17
  go_wp2_with fail
  have r1 := Row.new (W := w) (cs := (rC k i g st wy tr nx tag)) (t := 28)
  have hc := (Below.refl w.heap.size w).alloc (Nat.le_refl _) (.cells (rC k i g st wy tr nx tag) 28)
  generalize w.alloc (.cells (rC k i g st wy tr nx tag) 28) = W at *
  obtain ⟨p1, hp1⟩ : ∃ p1, w.heap.size = p1 := ⟨_, rfl⟩
  rw [hp1] at r1
  rw [hp1]
  refine Calls.mono (C0.out _) ?_
  rintro e V0 ⟨rfl, hb⟩
  replace r1 := r1.on hb
  replace hc := chain hc hb
  clear hb
  have y1 := r1.cell
  have y1l := r1.lt
  go_wp2_with fail
  go_returns
  exact ⟨rfl, by first | exact hc | (rw [← hp1]; exact hc)⟩

set_option maxHeartbeats 8000000 in
set_option maxRecDepth 20000 in
theorem rover_ok (k i g st wy tr nx e : Int) (tag : ByteArray) (w : World) (g0 : 0 ≤ g) (hs : tag.size ≤ 1000000) (he : rErr k i g st wy tr nx tag = 0) : Ret 17 #[rV k i g st wy tr nx tag] w (.tuple #[.bool (decide (3 ≤ st)), .int .i64 0]) := by
  have c0 := fun w => rrerr_c k i g st wy tr nx tag w g0 hs
  rw [he] at c0
  have C0 := Lib.hid c0
  clear c0
  go_enter Tryz.func17, Tryz.ntmps17
  go_wp2_with fail
  have r1 := Row.new (W := w) (cs := (rC k i g st wy tr nx tag)) (t := 28)
  have hc := (Below.refl w.heap.size w).alloc (Nat.le_refl _) (.cells (rC k i g st wy tr nx tag) 28)
  generalize w.alloc (.cells (rC k i g st wy tr nx tag) 28) = W at *
  obtain ⟨p1, hp1⟩ : ∃ p1, w.heap.size = p1 := ⟨_, rfl⟩
  rw [hp1] at r1
  rw [hp1]
  refine Calls.mono (C0.out _) ?_
  rintro e V0 ⟨rfl, hb⟩
  replace r1 := r1.on hb
  replace hc := chain hc hb
  clear hb
  have y1 := r1.cell
  have y1l := r1.lt
  go_wp2_with fail
  go_returns
  exact ⟨rfl, by first | exact hc | (rw [← hp1]; exact hc)⟩

theorem rdue_c (k i g st wy tr nx now : Int) (tag : ByteArray) (w : World) (g0 : 0 ≤ g) (hs : tag.size ≤ 1000000) : Ret 15 #[rV k i g st wy tr nx tag, .int .i64 now] w (dueV k i g st wy tr nx tag now) := by
  unfold dueV
  by_cases he : rErr k i g st wy tr nx tag = 0
  · cases h2 : isT now with
    | false =>
      rw [if_neg chkE_false, chkE_not he]
      exact rdue_t k i g st wy tr nx now 0 tag w g0 hs he h2
    | true =>
      rw [if_pos (chkE_ok he rfl)]
      by_cases h3 : st = 2
      · rw [decide_eq_true h3, Bool.true_and]
        exact rdue_2 k i g st wy tr nx now 0 tag w g0 hs he h2 (by rw [h3]; rfl)
      · rw [decide_eq_false h3, Bool.false_and]
        exact rdue_n k i g st wy tr nx now 0 tag w g0 hs he h2 (by rw [beq_eq_false_iff_ne]; exact h3)
  · rw [chkE_bad he, if_neg he]
    exact rdue_e k i g st wy tr nx now _ tag w g0 hs rfl he
theorem rover_c (k i g st wy tr nx : Int) (tag : ByteArray) (w : World) (g0 : 0 ≤ g) (hs : tag.size ≤ 1000000) : Ret 17 #[rV k i g st wy tr nx tag] w (overV k i g st wy tr nx tag) := by
  unfold overV
  by_cases he : rErr k i g st wy tr nx tag = 0
  · rw [if_pos he]
    have hs4 := (pOk_iff.1 (rErr_zero he).1).2.1
    have e : (decide (st = 3) || decide (st = 4)) = decide (3 ≤ st) := by
      by_cases h : 3 ≤ st
      · rw [decide_eq_true h]
        rcases (by omega : st = 3 ∨ st = 4) with rfl | rfl <;> rfl
      · rw [decide_eq_false h, decide_eq_false (by omega), decide_eq_false (by omega)]
        rfl
    rw [e]
    exact rover_ok k i g st wy tr nx 0 tag w g0 hs he
  · rw [if_neg he]
    exact rover_e k i g st wy tr nx _ tag w g0 hs rfl he

set_option maxHeartbeats 8000000 in
set_option maxRecDepth 20000 in
theorem rnew_c (k i g : Int) (tag : ByteArray) (w : World) (g0 : 0 ≤ g) (hs : tag.size ≤ 1000000) : Ret 21 #[.agg #[.int .i64 k, .int .i64 i, .int .u32 g], .string tag] w (newV k i g tag) := by
  have c := fun w => rrerr_c k i g 1 0 0 0 tag w g0 hs
  unfold newV
  generalize rErr k i g 1 0 0 0 tag = er at *
  have CC := Lib.hid c
  clear c
  by_cases he : er = 0
  · rw [if_pos he]
    subst he
    go_enter Tryz.func21, Tryz.ntmps21
    go_wp2_with fail
    refine Calls.mono (CC.out _) ?_
    rintro e w1 ⟨rfl, hb⟩
    have r2 := ((Row.new (W := w.alloc (.cells #[.int .i64 k, .int .i64 i, .int .u32 g] 24)) (cs := rC 0 0 0 0 0 0 0 ⟨#[]⟩) (t := 28)).on (below_alloc _ (.cells (rC k i g 1 0 0 0 tag) 28))).on hb
    have r3 := (Row.new (W := (w.alloc (.cells #[.int .i64 k, .int .i64 i, .int .u32 g] 24)).alloc (.cells (rC 0 0 0 0 0 0 0 ⟨#[]⟩) 28)) (cs := rC k i g 1 0 0 0 tag) (t := 28)).on hb
    rw [World.size_alloc] at r2 r3
    rw [World.size_alloc] at r3
    have hc : Below w.heap.size w w1 := under hb
    clear hb
    have y2 := r2.cell
    have y2f := r2.free
    have y2l := r2.lt
    have y3 := r3.cell
    have y3l := r3.lt
    have hp : w.heap.size ≤ w.heap.size + 1 := Nat.le_succ _
    generalize w.heap.size + 1 + 1 = p3 at *
    generalize w.heap.size + 1 = p2 at *
    go_wp2_with fail
    clear y2 y2f y2l y3 y3l
    replace r2 := ((((((((r2.set 0 (.int .i64 k)).set 1 (.int .i64 i)).set 2 (.int .u32 g)).set 3 (.int .i64 1)).set 4 (.int .i64 0)).set 5 (.int .i64 0)).set 6 (.int .i64 0)).set 7 (.string tag))
    replace hc := ((((((((hc.setCell (p := ⟨p2, 0, none⟩) hp (.int .i64 k)).setCell (p := ⟨p2, 1, none⟩) hp (.int .i64 i)).setCell (p := ⟨p2, 2, none⟩) hp (.int .u32 g)).setCell (p := ⟨p2, 3, none⟩) hp (.int .i64 1)).setCell (p := ⟨p2, 4, none⟩) hp (.int .i64 0)).setCell (p := ⟨p2, 5, none⟩) hp (.int .i64 0)).setCell (p := ⟨p2, 6, none⟩) hp (.int .i64 0)).setCell (p := ⟨p2, 7, none⟩) hp (.string tag))
    simp only [List.setIfInBounds_toArray, List.set_cons_zero, List.set_cons_succ] at r2
    generalize hW : World.setCell _ _ _ = Z at *
    clear hW
    have q0 := r2.cell 0
    have q1 := r2.cell 1
    have q2 := r2.cell 2
    have q3 := r2.cell 3
    have q4 := r2.cell 4
    have q5 := r2.cell 5
    have q6 := r2.cell 6
    have q7 := r2.cell 7
    simp only [List.getElem?_toArray, List.getElem?_cons_succ, List.getElem?_cons_zero] at q0 q1 q2 q3 q4 q5 q6 q7
    clear r2 r3
    refine bodyPost_ret (v := .tuple #[rV k i g 1 0 0 0 tag, .int .i64 0]) (by simp [results, Tryz.results21, go_sem, q0, q1, q2, q3, q4, q5, q6, q7]) rfl ⟨rfl, hc⟩
  · rw [if_neg he]
    have q : (er != 0) = true := by rw [bne_iff_ne]; exact he
    go_enter Tryz.func21, Tryz.ntmps21
    go_wp2_with fail
    refine Calls.mono (CC.out _) ?_
    rintro e w1 ⟨rfl, hb⟩
    have r2 := ((Row.new (W := w.alloc (.cells #[.int .i64 k, .int .i64 i, .int .u32 g] 24)) (cs := rC 0 0 0 0 0 0 0 ⟨#[]⟩) (t := 28)).on (below_alloc _ (.cells (rC k i g 1 0 0 0 tag) 28))).on hb
    have r3 := (Row.new (W := (w.alloc (.cells #[.int .i64 k, .int .i64 i, .int .u32 g] 24)).alloc (.cells (rC 0 0 0 0 0 0 0 ⟨#[]⟩) 28)) (cs := rC k i g 1 0 0 0 tag) (t := 28)).on hb
    rw [World.size_alloc] at r2 r3
    rw [World.size_alloc] at r3
    have hc : Below w.heap.size w w1 := under hb
    clear hb
    have y2 := r2.cell
    have y2f := r2.free
    have y2l := r2.lt
    have y3 := r3.cell
    have y3l := r3.lt
    have hp : w.heap.size ≤ w.heap.size + 1 := Nat.le_succ _
    generalize w.heap.size + 1 + 1 = p3 at *
    generalize w.heap.size + 1 = p2 at *
    go_wp2_with fail
    clear y2 y2f y2l y3 y3l
    replace r2 := ((((((((r2.set 0 (.int .i64 0)).set 1 (.int .i64 0)).set 2 (.int .u32 0)).set 3 (.int .i64 0)).set 4 (.int .i64 0)).set 5 (.int .i64 0)).set 6 (.int .i64 0)).set 7 (.string ⟨#[]⟩))
    replace hc := ((((((((hc.setCell (p := ⟨p2, 0, none⟩) hp (.int .i64 0)).setCell (p := ⟨p2, 1, none⟩) hp (.int .i64 0)).setCell (p := ⟨p2, 2, none⟩) hp (.int .u32 0)).setCell (p := ⟨p2, 3, none⟩) hp (.int .i64 0)).setCell (p := ⟨p2, 4, none⟩) hp (.int .i64 0)).setCell (p := ⟨p2, 5, none⟩) hp (.int .i64 0)).setCell (p := ⟨p2, 6, none⟩) hp (.int .i64 0)).setCell (p := ⟨p2, 7, none⟩) hp (.string ⟨#[]⟩))
    simp only [List.setIfInBounds_toArray, List.set_cons_zero, List.set_cons_succ] at r2
    generalize hW : World.setCell _ _ _ = Z at *
    clear hW
    have q0 := r2.cell 0
    have q1 := r2.cell 1
    have q2 := r2.cell 2
    have q3 := r2.cell 3
    have q4 := r2.cell 4
    have q5 := r2.cell 5
    have q6 := r2.cell 6
    have q7 := r2.cell 7
    simp only [List.getElem?_toArray, List.getElem?_cons_succ, List.getElem?_cons_zero] at q0 q1 q2 q3 q4 q5 q6 q7
    clear r2 r3
    refine bodyPost_ret (v := .tuple #[r0V, .int .i64 er]) (by simp [results, Tryz.results21, go_sem, q0, q1, q2, q3, q4, q5, q6, q7]) rfl ⟨rfl, hc⟩

end Go.Proofs.YtgckfiadnmjonaaGreatDoor
