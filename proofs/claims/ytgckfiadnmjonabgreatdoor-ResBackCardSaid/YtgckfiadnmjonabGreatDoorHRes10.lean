/- The reader of texts: res. -/
import Derived.Test.YtgckfiadnmjonabGreatDoorL3a
import Derived.Deep.DeepCutAuto
import Derived.Deep.CutBlock

namespace Go.Proofs.YtgckfiadnmjonabGreatDoor
open Go.RowKit Lib
set_option linter.unusedVariables false
set_option linter.unusedSimpArgs false
set_option maxHeartbeats 40000000
set_option maxRecDepth 20000
theorem Kp.set {p : Nat} {w W : World} (h : Kp p w W) {b : Nat} (hb : w.heap.size ≤ b) (hp : p < w.heap.size) (j : Nat) (v : Value) : Kp p w (W.setCell ⟨b, j, none⟩ v) :=
  ⟨fun x cs t hx hr => (h.keep x cs t hx hr).other (by have := hr.lt; omega) j v, fun B w0 hB hw => (h.below B w0 hB hw).setCell (p := ⟨b, j, none⟩) (by show B ≤ b; omega) v, by simpa using h.size⟩
theorem Kp.on {p : Nat} {w w1 w2 : World} (h : Kp p w w1) (hp : p < w.heap.size) (hb : Below w1.heap.size w1 w2) : Kp p w w2 := h.trans (kp_of (Nat.lt_of_lt_of_le hp h.size) hb)
theorem Kp.drew {p : Nat} {w W : World} (h : Kp p w W) : Kp p w W.drew := ⟨fun x cs t hx hr => (h.keep x cs t hx hr).drew, fun B w0 hB hw => (h.below B w0 hB hw).drew, h.size⟩
abbrev zRow : Array Value := #[.int .i64 0, .int .i64 0, .int .u32 0, .int .i64 0, .int .i64 0, .int .i64 0, .int .i64 0, .string ⟨#[]⟩]
theorem two_new (p : Nat) (s : ByteArray) (w : World) (t : TypeId) (hr : Row w p #[.string s] 76) :
    ∀ (W : World), W = (w.alloc (.cells zRow t)).alloc (.cells zRow t) →
      Row W p #[.string s] 76 ∧ Row W w.heap.size zRow t ∧ Row W (w.heap.size + 1) zRow t ∧ Kp p w W ∧ Below w.heap.size w W := by
  rintro W rfl
  have b1 := below_alloc w (.cells zRow t)
  have b2 := below_alloc (w.alloc (.cells zRow t)) (.cells zRow t)
  have b3 : Below w.heap.size w ((w.alloc (.cells zRow t)).alloc (.cells zRow t)) := b1.alloc (by simp) _
  refine ⟨hr.on b3, Row.new.on b2, ?_, kp_of hr.lt b3, b3⟩
  have := @Row.new (w.alloc (.cells zRow t)) zRow t
  simpa using this
/-- What reading a resource may come to. -/
def resPost (p : Nat) (s : ByteArray) (w : World) (e : Ending) (w' : World) : Prop :=
  Kp p w w' ∧ ((∃ k i g st wy tr nx tag, IsR k i g st wy tr nx tag s.data.toList ∧ e = .returned (rV k i g st wy tr nx tag)) ∨ ((∀ k i g st wy tr nx tag, ¬ IsR k i g st wy tr nx tag s.data.toList) ∧ e = .panicked malf))
theorem bad_end {p : Nat} {s : ByteArray} {w W : World} (hk : Kp p w W) (hn : ∀ k i g st wy tr nx tag, ¬ IsR k i g st wy tr nx tag s.data.toList) (f : Act) (hd : f.defers = []) : bodyPost Tryz.prog Tryz.f33 (resPost p s w) (.panic malf) f W := by
  have h : resPost p s w (.panicked malf) W := ⟨hk, .inr ⟨hn, rfl⟩⟩
  exact ⟨hd, h⟩
theorem outer_both (s : ByteArray) (hs : s.size ≤ 100000) (w : World) (hE : EnvP w) :
    Calls Tryz.prog 49 #[.string s] w fun e w' => Below w.heap.size w w' ∧ ((∃ k i g, IsD 58 64 s.data.toList k i g ∧ e = .returned (.tuple #[dV k i g, .int .i64 0])) ∨ ((∀ k i g, ¬ IsD 58 64 s.data.toList k i g) ∧ e = .returned (.tuple #[dV 0 0 0, .int .i64 9]))) := by
  by_cases h : ∃ k i g, IsD 58 64 s.data.toList k i g
  · obtain ⟨k, i, g, h⟩ := h
    exact (o_parse_is s k i g h w hE).mono fun e w' ⟨he, hb⟩ => ⟨hb, .inl ⟨k, i, g, h, he⟩⟩
  · have h' : ∀ k i g, ¬ IsD 58 64 s.data.toList k i g := fun k i g hh => h ⟨k, i, g, hh⟩
    exact (o_parse_not s hs h' w hE).mono fun e w' ⟨he, hb⟩ => ⟨hb, .inr ⟨h', he⟩⟩
theorem outer_none {l x1 l1 : List UInt8} (hno : ∀ k i g, ¬ IsD 58 64 x1 k i g) (hx : (32 : UInt8) ∉ x1) (hl : l = x1 ++ 32 :: l1) {k i g st wy tr nx : Int} {tag : ByteArray} (h : IsR k i g st wy tr nx tag l) : False := by
  obtain ⟨⟨g0, g1⟩, he, hq⟩ := h
  have hc : cut l [32] = (x1, l1, true) := by rw [hl]; exact cut_at _ _ _ hx
  rw [← hq, rsL_cut] at hc
  have hx1 : dTextL 58 k i g = x1 := (congrArg Prod.fst hc)
  have hp := (rErr_zero he).1
  unfold pOk at hp
  simp only [Bool.and_eq_true] at hp
  exact hno k i g ⟨hp.1, g1, g0, hx1.symm⟩
theorem unq_split (l : List UInt8) : (∃ x n e, unqL l = (x, n, e) ∧ (e == 0) = false ∧ ∀ tag : List UInt8, tagOk tag = true → quoteL tag ≠ l) ∨ (∃ x n, unqL l = (x, n, 0) ∧ n ≠ l.length ∧ ∀ tag : List UInt8, tagOk tag = true → quoteL tag ≠ l) ∨ (∃ x, unqL l = (x, l.length, 0) ∧ quoteL x = l) := by
  have key : ∀ tag : List UInt8, tagOk tag = true → quoteL tag = l → unqL l = (tag, l.length, 0) := fun tag ht hq => by
    have := unqL_quote ht []
    rw [List.append_nil, hq] at this
    exact this
  cases h : unqL l with
  | mk x p =>
    obtain ⟨n, e⟩ := p
    by_cases he : e = 0
    · subst he
      obtain ⟨ht, hn, t, hl⟩ := unqL_ok h rfl
      by_cases hlen : n = l.length
      · have : t = [] := by
          have := congrArg List.length hl
          rw [List.length_append] at this
          exact List.eq_nil_of_length_eq_zero (by omega)
        subst this
        rw [List.append_nil] at hl
        exact .inr (.inr ⟨x, by rw [hlen], hl.symm⟩)
      · refine .inr (.inl ⟨x, n, rfl, hlen, fun tag ht hq => hlen ?_⟩)
        have := key tag ht hq
        rw [h] at this
        injection this with _ this
        injection this
    · refine .inl ⟨x, n, e, rfl, by rw [beq_eq_false_iff_ne]; exact he, fun tag ht hq => he ?_⟩
      have := key tag ht hq
      rw [h] at this
      injection this with _ this
      injection this
theorem sz_of {s : ByteArray} {pre post : List UInt8} (hs : s.size ≤ 100000) (h : s.data.toList = pre ++ 32 :: post) : (⟨post.toArray⟩ : ByteArray).size ≤ 100000 := by
  have := congrArg List.length h
  rw [len_bytes] at this
  simp at this
  show post.toArray.size ≤ 100000
  simp
  omega
theorem sz_n {s : ByteArray} {n : Int} {post : List UInt8} (hs : s.size ≤ 100000) (h : IsN s.data.toList n post) : (⟨post.toArray⟩ : ByteArray).size ≤ 100000 := sz_of hs h.2.2
theorem c_st {k i g st wy tr nx : Int} {tag : ByteArray} {s x1 l1 l2 : List UInt8} {st0 : Int} (h : IsR k i g st wy tr nx tag s) (hx1 : (32 : UInt8) ∉ x1) (e1 : s = x1 ++ 32 :: l1) (h0 : st0 = 1 ∨ st0 = 2 ∨ st0 = 3 ∨ st0 = 4) (e2 : l1 = stL st0 ++ 32 :: l2) : Cuts k i g st0 wy tr nx tag.data.toList x1 (stL st0) l2 := by
  have hc := isR_cuts h hx1 e1 (no32_st st0) e2
  obtain rfl := stL_inj hc.state h0 hc.word2
  exact hc
theorem no_w {k i g st wy tr nx : Int} {tag : ByteArray} {s x1 l1 l2 : List UInt8} {st0 : Int} (h : IsR k i g st wy tr nx tag s) (hx1 : (32 : UInt8) ∉ x1) (e1 : s = x1 ++ 32 :: l1) (h0 : st0 = 2 ∨ st0 = 3 ∨ st0 = 4) (e2 : l1 = stL st0 ++ 32 :: l2) (hno : (32 : UInt8) ∉ (ByteArray.mk l2.toArray).data.toList) : False := by
  have hc := c_st h hx1 e1 (.inr h0) e2
  rw [of_list, hc.more (by omega)] at hno
  simp at hno
theorem no_n {k i g st wy tr nx : Int} {tag : ByteArray} {s x1 l1 l2 x3 l3 : List UInt8} {st0 : Int} (h : IsR k i g st wy tr nx tag s) (hx1 : (32 : UInt8) ∉ x1) (e1 : s = x1 ++ 32 :: l1) (h0 : st0 = 2 ∨ st0 = 3 ∨ st0 = 4) (e2 : l1 = stL st0 ++ 32 :: l2) (hx3 : (32 : UInt8) ∉ x3) (e3 : l2 = x3 ++ 32 :: l3) (hno : ∀ n post, ¬ IsN (ByteArray.mk l3.toArray).data.toList n post) : False := by
  have hc := c_st h hx1 e1 (.inr h0) e2
  rw [of_list] at hno
  exact hno _ _ (hc.num (by omega) hx3 e3)
theorem no_big {k i g st wy tr nx n : Int} {tag : ByteArray} {s x1 l1 l2 x3 l3 l4 : List UInt8} {st0 : Int} (h : IsR k i g st wy tr nx tag s) (hx1 : (32 : UInt8) ∉ x1) (e1 : s = x1 ++ 32 :: l1) (h0 : st0 = 2 ∨ st0 = 3 ∨ st0 = 4) (e2 : l1 = stL st0 ++ 32 :: l2) (hx3 : (32 : UInt8) ∉ x3) (e3 : l2 = x3 ++ 32 :: l3) (hn : IsN l3 n l4) (hbig : ¬ n ≤ 10000) : False := by
  have hc := c_st h hx1 e1 (.inr h0) e2
  obtain ⟨n1, _⟩ := isN_unique hn (hc.num (by omega) hx3 e3)
  have := (hc.range (by omega)).2.1
  omega
theorem no_n2 {k i g st wy tr nx n : Int} {tag : ByteArray} {s x1 l1 l2 x3 l3 l4 : List UInt8} (h : IsR k i g st wy tr nx tag s) (hx1 : (32 : UInt8) ∉ x1) (e1 : s = x1 ++ 32 :: l1) (e2 : l1 = stL 2 ++ 32 :: l2) (hx3 : (32 : UInt8) ∉ x3) (e3 : l2 = x3 ++ 32 :: l3) (hn : IsN l3 n l4) (hno : ∀ n post, ¬ IsN (ByteArray.mk l4.toArray).data.toList n post) : False := by
  have hc := c_st h hx1 e1 (.inr (.inl rfl)) e2
  obtain ⟨_, n2⟩ := isN_unique hn (hc.num (by decide) hx3 e3)
  rw [of_list, n2] at hno
  exact hno _ _ (hc.num2 hx3 e3)
theorem res_1 (p : Nat) (s : ByteArray) (w0 w : World) (hE0 : EnvP w0) (hB : Below w0.heap.size w0 w) (hp : w0.heap.size ≤ p) (hs : s.size ≤ 100000) (hr : Row w p #[.string s] 76) :
    Calls Tryz.prog 33 #[.pointer (some ⟨p, 0, none⟩)] w (resPost p s w) := by
  have hlt := hr.lt
  go_enter Tryz.func33, Tryz.ntmps33
  go_wp2_with fail
  obtain ⟨rp, r2, r3, kp, bw⟩ := two_new p s w 27 hr _ rfl
  generalize (w.alloc (.cells zRow 27)).alloc (.cells zRow 27) = W1 at rp r2 r3 kp bw ⊢
  refine Calls.mono (word_both p s W1 (hE0.on (kp.below _ _ hp hB)).toEnv hs rp) ?_
  rintro e W2 (⟨x1, l1, hx1, hl1, rfl, m1⟩ | ⟨hno, rfl, k1⟩)
  case' inr =>
    go_wp2_with fail
    exact bad_end (kp.trans k1) (fun k i g st wy tr nx tag h => hno (by rw [← h.2.2, rsL_eq]; simp)) _ rfl
  have hs1 : (⟨x1.toArray⟩ : ByteArray).size ≤ 100000 := by
    have := congrArg List.length hl1
    rw [len_bytes] at this
    simp at this
    show x1.toArray.size ≤ 100000
    simp
    omega
  have C := Lib.hid (outer_both ⟨x1.toArray⟩ hs1 W2 (hE0.on (m1.kp.below _ _ hp (kp.below _ _ hp hB))))
  have rp2 := m1.row
  have r22 := m1.keep _ _ _ (by omega) r2
  have r32 := m1.keep _ _ _ (by omega) r3
  have k2 := kp.trans m1.kp
  clear rp r2 r3 kp m1 bw
  go_wp2_with fail
  refine Calls.mono C.out ?_
  rintro e W3 ⟨hb3, (⟨k, i, g, hD, rfl⟩ | ⟨hno, rfl⟩)⟩
  case' inr =>
    have rp3 := rp2.on hb3
    have r33 := r32.on hb3
    have k3 := k2.on hlt hb3
    have y0 := r33.cell
    have y1 := r33.lt
    have y2 := r33.free
    go_wp2_with fail
    refine Calls.mono (need_f _) ?_
    rintro e W4 ⟨rfl, rfl⟩
    go_wp2_with fail
    exact bad_end (((k3.set (by omega) hlt 0 _).set (by omega) hlt 1 _).set (by omega) hlt 2 _) (fun k i g st wy tr nx tag h => outer_none hno hx1 hl1 h) _ rfl
  have rp3 := rp2.on hb3
  have r23 := r22.on hb3
  have r33 := r32.on hb3
  have k3 := k2.on hlt hb3
  have y0 := r33.cell
  have y1 := r33.lt
  have y2 := r33.free
  clear rp2 r22 r32 k2 hb3
  go_wp2_with fail
  refine Calls.mono (need_t _) ?_
  rintro e W4 ⟨rfl, hW4⟩
  have rp4 := ((rp3.other (show w.heap.size + 1 ≠ p by omega) 0 (.int .i64 k)).other (show w.heap.size + 1 ≠ p by omega) 1 (.int .i64 i)).other (show w.heap.size + 1 ≠ p by omega) 2 (.int .u32 g)
  have r24 := ((r23.other (show w.heap.size + 1 ≠ w.heap.size by omega) 0 (.int .i64 k)).other (show w.heap.size + 1 ≠ w.heap.size by omega) 1 (.int .i64 i)).other (show w.heap.size + 1 ≠ w.heap.size by omega) 2 (.int .u32 g)
  have r34 := ((r33.set 0 (.int .i64 k)).set 1 (.int .i64 i)).set 2 (.int .u32 g)
  have k4 := ((k3.set (show w.heap.size ≤ w.heap.size + 1 by omega) hlt 0 (.int .i64 k)).set (show w.heap.size ≤ w.heap.size + 1 by omega) hlt 1 (.int .i64 i)).set (show w.heap.size ≤ w.heap.size + 1 by omega) hlt 2 (.int .u32 g)
  rw [← hW4] at rp4 r24 r34 k4
  clear rp3 r23 r33 k3 y0 y1 y2 hW4
  go_wp2_with fail
  have hl1s : (⟨l1.toArray⟩ : ByteArray).size ≤ 100000 := by
    have := congrArg List.length hl1
    rw [len_bytes] at this
    simp at this
    show l1.toArray.size ≤ 100000
    simp
    omega
  refine Calls.mono (word_both p _ W4 (hE0.on (k4.below _ _ hp hB)).toEnv hl1s rp4) ?_
  rintro e W5 (⟨x2, l2, hx2, hl2, rfl, m5⟩ | ⟨hno, rfl, k5⟩)
  case' inr =>
    go_wp2_with fail
    exact bad_end (k4.trans k5) (fun k i g st wy tr nx tag h => hno (by
      obtain ⟨_, _, hq⟩ := h
      have hc : cut s.data.toList [32] = (x1, l1, true) := by rw [hl1]; exact cut_at _ _ _ hx1
      rw [← hq, rsL_cut] at hc
      have h2 : stL st ++ 32 :: tail2 st wy tr nx tag.data.toList = l1 := congrArg (fun z => z.2.1) hc
      rw [← h2]; simp)) _ rfl
  have rp5 := m5.row
  have r25 := m5.keep _ _ _ (by omega) r24
  have r35 := m5.keep _ _ _ (by omega) r34
  have k5 := k4.trans m5.kp
  clear rp4 r24 r34 k4 m5
  go_wp2_with fail
  refine Calls.mono (shapes_c _) ?_
  rintro e W6 ⟨rfl, hb6⟩
  have rp := rp5.on hb6
  have r2 := r25.on hb6
  have r3 := r35.on hb6
  have kp := k5.on hlt hb6
  clear rp5 r25 r35 k5 hb6
  go_upto_block 0 with (fail)
  go_cut [] (fun wx => ∃ st : Int, Row wx p #[.string ⟨l2.toArray⟩] 76 ∧ Row wx w.heap.size zRow 27 ∧ Row wx (w.heap.size + 1) (rC k i g st 0 0 0 ⟨#[]⟩) 27 ∧ Kp p w wx ∧ ((st = 0 ∧ ∀ t, x2 ≠ stL t) ∨ ((st = 1 ∨ st = 2 ∨ st = 3 ∨ st = 4) ∧ x2 = stL st)))
  case first =>
    have sh0 := shIdx0
    have sh1 := shIdx1
    have sh2 := shIdx2
    have sh3 := shIdx3
    have sh4 := shIdx4
    by_cases q1 : x2 = [108, 105, 118, 101]
    · subst q1
      go_wp2_with fail
      refine wp_loop_rounds 6 ?_
      rw [rounds_succ]
      go_upto_region 9 with fail
      have rs := Row.new (W := W6) (cs := #[.string ⟨#[]⟩, .int .i64 0, .bool false]) (t := 61)
      replace rp := rp.on (below_alloc W6 (.cells #[.string ⟨#[]⟩, .int .i64 0, .bool false] 61))
      replace r2 := r2.on (below_alloc W6 (.cells #[.string ⟨#[]⟩, .int .i64 0, .bool false] 61))
      replace r3 := r3.on (below_alloc W6 (.cells #[.string ⟨#[]⟩, .int .i64 0, .bool false] 61))
      replace kp := kp.on hlt (below_alloc W6 (.cells #[.string ⟨#[]⟩, .int .i64 0, .bool false] 61))
      generalize W6.heap.size = bV0 at rs ⊢
      generalize W6.alloc (.cells #[.string ⟨#[]⟩, .int .i64 0, .bool false] 61) = V0 at rs rp r2 r3 kp ⊢
      have y0 := rs.cell
      have y1 := rs.lt
      go_wp2_with fail
      clear y0 y1 rs
      rw [rounds_succ]
      go_upto_region 9 with fail
      have rs := Row.new (W := V0) (cs := #[.string sLive, .int .i64 0, .bool false]) (t := 61)
      replace rp := rp.on (below_alloc V0 (.cells #[.string sLive, .int .i64 0, .bool false] 61))
      replace r2 := r2.on (below_alloc V0 (.cells #[.string sLive, .int .i64 0, .bool false] 61))
      replace r3 := r3.on (below_alloc V0 (.cells #[.string sLive, .int .i64 0, .bool false] 61))
      replace kp := kp.on hlt (below_alloc V0 (.cells #[.string sLive, .int .i64 0, .bool false] 61))
      generalize V0.heap.size = bV1 at rs ⊢
      generalize V0.alloc (.cells #[.string sLive, .int .i64 0, .bool false] 61) = V1 at rs rp r2 r3 kp ⊢
      have y0 := rs.cell
      have y1 := rs.lt
      have y2 := r3.cell
      have y3 := r3.lt
      have y4 := r3.free
      go_wp2_with fail
      clear y0 y1 rs
      clear y2 y3 y4
      replace rp := rp.other (show w.heap.size + 1 ≠ p by omega) 3 (.int .i64 1)
      replace r2 := r2.other (show w.heap.size + 1 ≠ w.heap.size by omega) 3 (.int .i64 1)
      replace r3 := r3.set 3 (.int .i64 1)
      replace kp := kp.set (show w.heap.size ≤ w.heap.size + 1 by omega) hlt 3 (.int .i64 1)
      generalize V1.setCell ⟨w.heap.size + 1, 3, none⟩ (.int .i64 1) = U1 at rp r2 r3 kp ⊢
      rw [rounds_succ]
      go_upto_region 9 with fail
      have rs := Row.new (W := U1) (cs := #[.string sClos, .int .i64 3, .bool true]) (t := 61)
      replace rp := rp.on (below_alloc U1 (.cells #[.string sClos, .int .i64 3, .bool true] 61))
      replace r2 := r2.on (below_alloc U1 (.cells #[.string sClos, .int .i64 3, .bool true] 61))
      replace r3 := r3.on (below_alloc U1 (.cells #[.string sClos, .int .i64 3, .bool true] 61))
      replace kp := kp.on hlt (below_alloc U1 (.cells #[.string sClos, .int .i64 3, .bool true] 61))
      generalize U1.heap.size = bV2 at rs ⊢
      generalize U1.alloc (.cells #[.string sClos, .int .i64 3, .bool true] 61) = V2 at rs rp r2 r3 kp ⊢
      have y0 := rs.cell
      have y1 := rs.lt
      go_wp2_with fail
      clear y0 y1 rs
      rw [rounds_succ]
      go_upto_region 9 with fail
      have rs := Row.new (W := V2) (cs := #[.string sRele, .int .i64 3, .bool false]) (t := 61)
      replace rp := rp.on (below_alloc V2 (.cells #[.string sRele, .int .i64 3, .bool false] 61))
      replace r2 := r2.on (below_alloc V2 (.cells #[.string sRele, .int .i64 3, .bool false] 61))
      replace r3 := r3.on (below_alloc V2 (.cells #[.string sRele, .int .i64 3, .bool false] 61))
      replace kp := kp.on hlt (below_alloc V2 (.cells #[.string sRele, .int .i64 3, .bool false] 61))
      generalize V2.heap.size = bV3 at rs ⊢
      generalize V2.alloc (.cells #[.string sRele, .int .i64 3, .bool false] 61) = V3 at rs rp r2 r3 kp ⊢
      have y0 := rs.cell
      have y1 := rs.lt
      go_wp2_with fail
      clear y0 y1 rs
      rw [rounds_succ]
      go_upto_region 9 with fail
      have rs := Row.new (W := V3) (cs := #[.string sQuar, .int .i64 3, .bool false]) (t := 61)
      replace rp := rp.on (below_alloc V3 (.cells #[.string sQuar, .int .i64 3, .bool false] 61))
      replace r2 := r2.on (below_alloc V3 (.cells #[.string sQuar, .int .i64 3, .bool false] 61))
      replace r3 := r3.on (below_alloc V3 (.cells #[.string sQuar, .int .i64 3, .bool false] 61))
      replace kp := kp.on hlt (below_alloc V3 (.cells #[.string sQuar, .int .i64 3, .bool false] 61))
      generalize V3.heap.size = bV4 at rs ⊢
      generalize V3.alloc (.cells #[.string sQuar, .int .i64 3, .bool false] 61) = V4 at rs rp r2 r3 kp ⊢
      have y0 := rs.cell
      have y1 := rs.lt
      go_wp2_with fail
      clear y0 y1 rs
      rw [rounds_succ]
      go_wp2_with fail
      go_meet
      exact ⟨1, rp, r2, r3, kp, .inr ⟨by decide, rfl⟩⟩
    by_cases q2 : x2 = [99, 108, 111, 115, 105, 110, 103]
    · subst q2
      go_wp2_with fail
      refine wp_loop_rounds 6 ?_
      rw [rounds_succ]
      go_upto_region 9 with fail
      have rs := Row.new (W := W6) (cs := #[.string ⟨#[]⟩, .int .i64 0, .bool false]) (t := 61)
      replace rp := rp.on (below_alloc W6 (.cells #[.string ⟨#[]⟩, .int .i64 0, .bool false] 61))
      replace r2 := r2.on (below_alloc W6 (.cells #[.string ⟨#[]⟩, .int .i64 0, .bool false] 61))
      replace r3 := r3.on (below_alloc W6 (.cells #[.string ⟨#[]⟩, .int .i64 0, .bool false] 61))
      replace kp := kp.on hlt (below_alloc W6 (.cells #[.string ⟨#[]⟩, .int .i64 0, .bool false] 61))
      generalize W6.heap.size = bV0 at rs ⊢
      generalize W6.alloc (.cells #[.string ⟨#[]⟩, .int .i64 0, .bool false] 61) = V0 at rs rp r2 r3 kp ⊢
      have y0 := rs.cell
      have y1 := rs.lt
      go_wp2_with fail
      clear y0 y1 rs
      rw [rounds_succ]
      go_upto_region 9 with fail
      have rs := Row.new (W := V0) (cs := #[.string sLive, .int .i64 0, .bool false]) (t := 61)
      replace rp := rp.on (below_alloc V0 (.cells #[.string sLive, .int .i64 0, .bool false] 61))
      replace r2 := r2.on (below_alloc V0 (.cells #[.string sLive, .int .i64 0, .bool false] 61))
      replace r3 := r3.on (below_alloc V0 (.cells #[.string sLive, .int .i64 0, .bool false] 61))
      replace kp := kp.on hlt (below_alloc V0 (.cells #[.string sLive, .int .i64 0, .bool false] 61))
      generalize V0.heap.size = bV1 at rs ⊢
      generalize V0.alloc (.cells #[.string sLive, .int .i64 0, .bool false] 61) = V1 at rs rp r2 r3 kp ⊢
      have y0 := rs.cell
      have y1 := rs.lt
      go_wp2_with fail
      clear y0 y1 rs
      rw [rounds_succ]
      go_upto_region 9 with fail
      have rs := Row.new (W := V1) (cs := #[.string sClos, .int .i64 3, .bool true]) (t := 61)
      replace rp := rp.on (below_alloc V1 (.cells #[.string sClos, .int .i64 3, .bool true] 61))
      replace r2 := r2.on (below_alloc V1 (.cells #[.string sClos, .int .i64 3, .bool true] 61))
      replace r3 := r3.on (below_alloc V1 (.cells #[.string sClos, .int .i64 3, .bool true] 61))
      replace kp := kp.on hlt (below_alloc V1 (.cells #[.string sClos, .int .i64 3, .bool true] 61))
      generalize V1.heap.size = bV2 at rs ⊢
      generalize V1.alloc (.cells #[.string sClos, .int .i64 3, .bool true] 61) = V2 at rs rp r2 r3 kp ⊢
      have y0 := rs.cell
      have y1 := rs.lt
      have y2 := r3.cell
      have y3 := r3.lt
      have y4 := r3.free
      go_wp2_with fail
      clear y0 y1 rs
      clear y2 y3 y4
      replace rp := rp.other (show w.heap.size + 1 ≠ p by omega) 3 (.int .i64 2)
      replace r2 := r2.other (show w.heap.size + 1 ≠ w.heap.size by omega) 3 (.int .i64 2)
      replace r3 := r3.set 3 (.int .i64 2)
      replace kp := kp.set (show w.heap.size ≤ w.heap.size + 1 by omega) hlt 3 (.int .i64 2)
      generalize V2.setCell ⟨w.heap.size + 1, 3, none⟩ (.int .i64 2) = U2 at rp r2 r3 kp ⊢
      rw [rounds_succ]
      go_upto_region 9 with fail
      have rs := Row.new (W := U2) (cs := #[.string sRele, .int .i64 3, .bool false]) (t := 61)
      replace rp := rp.on (below_alloc U2 (.cells #[.string sRele, .int .i64 3, .bool false] 61))
      replace r2 := r2.on (below_alloc U2 (.cells #[.string sRele, .int .i64 3, .bool false] 61))
      replace r3 := r3.on (below_alloc U2 (.cells #[.string sRele, .int .i64 3, .bool false] 61))
      replace kp := kp.on hlt (below_alloc U2 (.cells #[.string sRele, .int .i64 3, .bool false] 61))
      generalize U2.heap.size = bV3 at rs ⊢
      generalize U2.alloc (.cells #[.string sRele, .int .i64 3, .bool false] 61) = V3 at rs rp r2 r3 kp ⊢
      have y0 := rs.cell
      have y1 := rs.lt
      go_wp2_with fail
      clear y0 y1 rs
      rw [rounds_succ]
      go_upto_region 9 with fail
      have rs := Row.new (W := V3) (cs := #[.string sQuar, .int .i64 3, .bool false]) (t := 61)
      replace rp := rp.on (below_alloc V3 (.cells #[.string sQuar, .int .i64 3, .bool false] 61))
      replace r2 := r2.on (below_alloc V3 (.cells #[.string sQuar, .int .i64 3, .bool false] 61))
      replace r3 := r3.on (below_alloc V3 (.cells #[.string sQuar, .int .i64 3, .bool false] 61))
      replace kp := kp.on hlt (below_alloc V3 (.cells #[.string sQuar, .int .i64 3, .bool false] 61))
      generalize V3.heap.size = bV4 at rs ⊢
      generalize V3.alloc (.cells #[.string sQuar, .int .i64 3, .bool false] 61) = V4 at rs rp r2 r3 kp ⊢
      have y0 := rs.cell
      have y1 := rs.lt
      go_wp2_with fail
      clear y0 y1 rs
      rw [rounds_succ]
      go_wp2_with fail
      go_meet
      exact ⟨2, rp, r2, r3, kp, .inr ⟨by decide, rfl⟩⟩
    by_cases q3 : x2 = [114, 101, 108, 101, 97, 115, 101, 100]
    · subst q3
      go_wp2_with fail
      refine wp_loop_rounds 6 ?_
      rw [rounds_succ]
      go_upto_region 9 with fail
      have rs := Row.new (W := W6) (cs := #[.string ⟨#[]⟩, .int .i64 0, .bool false]) (t := 61)
      replace rp := rp.on (below_alloc W6 (.cells #[.string ⟨#[]⟩, .int .i64 0, .bool false] 61))
      replace r2 := r2.on (below_alloc W6 (.cells #[.string ⟨#[]⟩, .int .i64 0, .bool false] 61))
      replace r3 := r3.on (below_alloc W6 (.cells #[.string ⟨#[]⟩, .int .i64 0, .bool false] 61))
      replace kp := kp.on hlt (below_alloc W6 (.cells #[.string ⟨#[]⟩, .int .i64 0, .bool false] 61))
      generalize W6.heap.size = bV0 at rs ⊢
      generalize W6.alloc (.cells #[.string ⟨#[]⟩, .int .i64 0, .bool false] 61) = V0 at rs rp r2 r3 kp ⊢
      have y0 := rs.cell
      have y1 := rs.lt
      go_wp2_with fail
      clear y0 y1 rs
      rw [rounds_succ]
      go_upto_region 9 with fail
      have rs := Row.new (W := V0) (cs := #[.string sLive, .int .i64 0, .bool false]) (t := 61)
      replace rp := rp.on (below_alloc V0 (.cells #[.string sLive, .int .i64 0, .bool false] 61))
      replace r2 := r2.on (below_alloc V0 (.cells #[.string sLive, .int .i64 0, .bool false] 61))
      replace r3 := r3.on (below_alloc V0 (.cells #[.string sLive, .int .i64 0, .bool false] 61))
      replace kp := kp.on hlt (below_alloc V0 (.cells #[.string sLive, .int .i64 0, .bool false] 61))
      generalize V0.heap.size = bV1 at rs ⊢
      generalize V0.alloc (.cells #[.string sLive, .int .i64 0, .bool false] 61) = V1 at rs rp r2 r3 kp ⊢
      have y0 := rs.cell
      have y1 := rs.lt
      go_wp2_with fail
      clear y0 y1 rs
      rw [rounds_succ]
      go_upto_region 9 with fail
      have rs := Row.new (W := V1) (cs := #[.string sClos, .int .i64 3, .bool true]) (t := 61)
      replace rp := rp.on (below_alloc V1 (.cells #[.string sClos, .int .i64 3, .bool true] 61))
      replace r2 := r2.on (below_alloc V1 (.cells #[.string sClos, .int .i64 3, .bool true] 61))
      replace r3 := r3.on (below_alloc V1 (.cells #[.string sClos, .int .i64 3, .bool true] 61))
      replace kp := kp.on hlt (below_alloc V1 (.cells #[.string sClos, .int .i64 3, .bool true] 61))
      generalize V1.heap.size = bV2 at rs ⊢
      generalize V1.alloc (.cells #[.string sClos, .int .i64 3, .bool true] 61) = V2 at rs rp r2 r3 kp ⊢
      have y0 := rs.cell
      have y1 := rs.lt
      go_wp2_with fail
      clear y0 y1 rs
      rw [rounds_succ]
      go_upto_region 9 with fail
      have rs := Row.new (W := V2) (cs := #[.string sRele, .int .i64 3, .bool false]) (t := 61)
      replace rp := rp.on (below_alloc V2 (.cells #[.string sRele, .int .i64 3, .bool false] 61))
      replace r2 := r2.on (below_alloc V2 (.cells #[.string sRele, .int .i64 3, .bool false] 61))
      replace r3 := r3.on (below_alloc V2 (.cells #[.string sRele, .int .i64 3, .bool false] 61))
      replace kp := kp.on hlt (below_alloc V2 (.cells #[.string sRele, .int .i64 3, .bool false] 61))
      generalize V2.heap.size = bV3 at rs ⊢
      generalize V2.alloc (.cells #[.string sRele, .int .i64 3, .bool false] 61) = V3 at rs rp r2 r3 kp ⊢
      have y0 := rs.cell
      have y1 := rs.lt
      have y2 := r3.cell
      have y3 := r3.lt
      have y4 := r3.free
      go_wp2_with fail
      clear y0 y1 rs
      clear y2 y3 y4
      replace rp := rp.other (show w.heap.size + 1 ≠ p by omega) 3 (.int .i64 3)
      replace r2 := r2.other (show w.heap.size + 1 ≠ w.heap.size by omega) 3 (.int .i64 3)
      replace r3 := r3.set 3 (.int .i64 3)
      replace kp := kp.set (show w.heap.size ≤ w.heap.size + 1 by omega) hlt 3 (.int .i64 3)
      generalize V3.setCell ⟨w.heap.size + 1, 3, none⟩ (.int .i64 3) = U3 at rp r2 r3 kp ⊢
      rw [rounds_succ]
      go_upto_region 9 with fail
      have rs := Row.new (W := U3) (cs := #[.string sQuar, .int .i64 3, .bool false]) (t := 61)
      replace rp := rp.on (below_alloc U3 (.cells #[.string sQuar, .int .i64 3, .bool false] 61))
      replace r2 := r2.on (below_alloc U3 (.cells #[.string sQuar, .int .i64 3, .bool false] 61))
      replace r3 := r3.on (below_alloc U3 (.cells #[.string sQuar, .int .i64 3, .bool false] 61))
      replace kp := kp.on hlt (below_alloc U3 (.cells #[.string sQuar, .int .i64 3, .bool false] 61))
      generalize U3.heap.size = bV4 at rs ⊢
      generalize U3.alloc (.cells #[.string sQuar, .int .i64 3, .bool false] 61) = V4 at rs rp r2 r3 kp ⊢
      have y0 := rs.cell
      have y1 := rs.lt
      go_wp2_with fail
      clear y0 y1 rs
      rw [rounds_succ]
      go_wp2_with fail
      go_meet
      exact ⟨3, rp, r2, r3, kp, .inr ⟨by decide, rfl⟩⟩
    by_cases q4 : x2 = [113, 117, 97, 114, 97, 110, 116, 105, 110, 101]
    · subst q4
      go_wp2_with fail
      refine wp_loop_rounds 6 ?_
      rw [rounds_succ]
      go_upto_region 9 with fail
      have rs := Row.new (W := W6) (cs := #[.string ⟨#[]⟩, .int .i64 0, .bool false]) (t := 61)
      replace rp := rp.on (below_alloc W6 (.cells #[.string ⟨#[]⟩, .int .i64 0, .bool false] 61))
      replace r2 := r2.on (below_alloc W6 (.cells #[.string ⟨#[]⟩, .int .i64 0, .bool false] 61))
      replace r3 := r3.on (below_alloc W6 (.cells #[.string ⟨#[]⟩, .int .i64 0, .bool false] 61))
      replace kp := kp.on hlt (below_alloc W6 (.cells #[.string ⟨#[]⟩, .int .i64 0, .bool false] 61))
      generalize W6.heap.size = bV0 at rs ⊢
      generalize W6.alloc (.cells #[.string ⟨#[]⟩, .int .i64 0, .bool false] 61) = V0 at rs rp r2 r3 kp ⊢
      have y0 := rs.cell
      have y1 := rs.lt
      go_wp2_with fail
      clear y0 y1 rs
      rw [rounds_succ]
      go_upto_region 9 with fail
      have rs := Row.new (W := V0) (cs := #[.string sLive, .int .i64 0, .bool false]) (t := 61)
      replace rp := rp.on (below_alloc V0 (.cells #[.string sLive, .int .i64 0, .bool false] 61))
      replace r2 := r2.on (below_alloc V0 (.cells #[.string sLive, .int .i64 0, .bool false] 61))
      replace r3 := r3.on (below_alloc V0 (.cells #[.string sLive, .int .i64 0, .bool false] 61))
      replace kp := kp.on hlt (below_alloc V0 (.cells #[.string sLive, .int .i64 0, .bool false] 61))
      generalize V0.heap.size = bV1 at rs ⊢
      generalize V0.alloc (.cells #[.string sLive, .int .i64 0, .bool false] 61) = V1 at rs rp r2 r3 kp ⊢
      have y0 := rs.cell
      have y1 := rs.lt
      go_wp2_with fail
      clear y0 y1 rs
      rw [rounds_succ]
      go_upto_region 9 with fail
      have rs := Row.new (W := V1) (cs := #[.string sClos, .int .i64 3, .bool true]) (t := 61)
      replace rp := rp.on (below_alloc V1 (.cells #[.string sClos, .int .i64 3, .bool true] 61))
      replace r2 := r2.on (below_alloc V1 (.cells #[.string sClos, .int .i64 3, .bool true] 61))
      replace r3 := r3.on (below_alloc V1 (.cells #[.string sClos, .int .i64 3, .bool true] 61))
      replace kp := kp.on hlt (below_alloc V1 (.cells #[.string sClos, .int .i64 3, .bool true] 61))
      generalize V1.heap.size = bV2 at rs ⊢
      generalize V1.alloc (.cells #[.string sClos, .int .i64 3, .bool true] 61) = V2 at rs rp r2 r3 kp ⊢
      have y0 := rs.cell
      have y1 := rs.lt
      go_wp2_with fail
      clear y0 y1 rs
      rw [rounds_succ]
      go_upto_region 9 with fail
      have rs := Row.new (W := V2) (cs := #[.string sRele, .int .i64 3, .bool false]) (t := 61)
      replace rp := rp.on (below_alloc V2 (.cells #[.string sRele, .int .i64 3, .bool false] 61))
      replace r2 := r2.on (below_alloc V2 (.cells #[.string sRele, .int .i64 3, .bool false] 61))
      replace r3 := r3.on (below_alloc V2 (.cells #[.string sRele, .int .i64 3, .bool false] 61))
      replace kp := kp.on hlt (below_alloc V2 (.cells #[.string sRele, .int .i64 3, .bool false] 61))
      generalize V2.heap.size = bV3 at rs ⊢
      generalize V2.alloc (.cells #[.string sRele, .int .i64 3, .bool false] 61) = V3 at rs rp r2 r3 kp ⊢
      have y0 := rs.cell
      have y1 := rs.lt
      go_wp2_with fail
      clear y0 y1 rs
      rw [rounds_succ]
      go_upto_region 9 with fail
      have rs := Row.new (W := V3) (cs := #[.string sQuar, .int .i64 3, .bool false]) (t := 61)
      replace rp := rp.on (below_alloc V3 (.cells #[.string sQuar, .int .i64 3, .bool false] 61))
      replace r2 := r2.on (below_alloc V3 (.cells #[.string sQuar, .int .i64 3, .bool false] 61))
      replace r3 := r3.on (below_alloc V3 (.cells #[.string sQuar, .int .i64 3, .bool false] 61))
      replace kp := kp.on hlt (below_alloc V3 (.cells #[.string sQuar, .int .i64 3, .bool false] 61))
      generalize V3.heap.size = bV4 at rs ⊢
      generalize V3.alloc (.cells #[.string sQuar, .int .i64 3, .bool false] 61) = V4 at rs rp r2 r3 kp ⊢
      have y0 := rs.cell
      have y1 := rs.lt
      have y2 := r3.cell
      have y3 := r3.lt
      have y4 := r3.free
      go_wp2_with fail
      clear y0 y1 rs
      clear y2 y3 y4
      replace rp := rp.other (show w.heap.size + 1 ≠ p by omega) 3 (.int .i64 4)
      replace r2 := r2.other (show w.heap.size + 1 ≠ w.heap.size by omega) 3 (.int .i64 4)
      replace r3 := r3.set 3 (.int .i64 4)
      replace kp := kp.set (show w.heap.size ≤ w.heap.size + 1 by omega) hlt 3 (.int .i64 4)
      generalize V4.setCell ⟨w.heap.size + 1, 3, none⟩ (.int .i64 4) = U4 at rp r2 r3 kp ⊢
      rw [rounds_succ]
      go_wp2_with fail
      go_meet
      exact ⟨4, rp, r2, r3, kp, .inr ⟨by decide, rfl⟩⟩
    have f1 : (([108, 105, 118, 101] : List UInt8) == x2) = false := by rw [beq_eq_false_iff_ne]; exact fun e => q1 e.symm
    have f2 : (([99, 108, 111, 115, 105, 110, 103] : List UInt8) == x2) = false := by rw [beq_eq_false_iff_ne]; exact fun e => q2 e.symm
    have f3 : (([114, 101, 108, 101, 97, 115, 101, 100] : List UInt8) == x2) = false := by rw [beq_eq_false_iff_ne]; exact fun e => q3 e.symm
    have f4 : (([113, 117, 97, 114, 97, 110, 116, 105, 110, 101] : List UInt8) == x2) = false := by rw [beq_eq_false_iff_ne]; exact fun e => q4 e.symm
    have hx : ∀ t, x2 ≠ stL t := fun t => by unfold stL; split; exact q1; split; exact q2; split; exact q3; exact q4
    clear q1 q2 q3 q4
    go_wp2_with fail
    refine wp_loop_rounds 6 ?_
    rw [rounds_succ]
    go_upto_region 9 with fail
    have rs := Row.new (W := W6) (cs := #[.string ⟨#[]⟩, .int .i64 0, .bool false]) (t := 61)
    replace rp := rp.on (below_alloc W6 (.cells #[.string ⟨#[]⟩, .int .i64 0, .bool false] 61))
    replace r2 := r2.on (below_alloc W6 (.cells #[.string ⟨#[]⟩, .int .i64 0, .bool false] 61))
    replace r3 := r3.on (below_alloc W6 (.cells #[.string ⟨#[]⟩, .int .i64 0, .bool false] 61))
    replace kp := kp.on hlt (below_alloc W6 (.cells #[.string ⟨#[]⟩, .int .i64 0, .bool false] 61))
    generalize W6.heap.size = bV0 at rs ⊢
    generalize W6.alloc (.cells #[.string ⟨#[]⟩, .int .i64 0, .bool false] 61) = V0 at rs rp r2 r3 kp ⊢
    have y0 := rs.cell
    have y1 := rs.lt
    go_wp2_with fail
    clear y0 y1 rs
    rw [rounds_succ]
    go_upto_region 9 with fail
    have rs := Row.new (W := V0) (cs := #[.string sLive, .int .i64 0, .bool false]) (t := 61)
    replace rp := rp.on (below_alloc V0 (.cells #[.string sLive, .int .i64 0, .bool false] 61))
    replace r2 := r2.on (below_alloc V0 (.cells #[.string sLive, .int .i64 0, .bool false] 61))
    replace r3 := r3.on (below_alloc V0 (.cells #[.string sLive, .int .i64 0, .bool false] 61))
    replace kp := kp.on hlt (below_alloc V0 (.cells #[.string sLive, .int .i64 0, .bool false] 61))
    generalize V0.heap.size = bV1 at rs ⊢
    generalize V0.alloc (.cells #[.string sLive, .int .i64 0, .bool false] 61) = V1 at rs rp r2 r3 kp ⊢
    have y0 := rs.cell
    have y1 := rs.lt
    go_wp2_with fail
    clear y0 y1 rs
    rw [rounds_succ]
    go_upto_region 9 with fail
    have rs := Row.new (W := V1) (cs := #[.string sClos, .int .i64 3, .bool true]) (t := 61)
    replace rp := rp.on (below_alloc V1 (.cells #[.string sClos, .int .i64 3, .bool true] 61))
    replace r2 := r2.on (below_alloc V1 (.cells #[.string sClos, .int .i64 3, .bool true] 61))
    replace r3 := r3.on (below_alloc V1 (.cells #[.string sClos, .int .i64 3, .bool true] 61))
    replace kp := kp.on hlt (below_alloc V1 (.cells #[.string sClos, .int .i64 3, .bool true] 61))
    generalize V1.heap.size = bV2 at rs ⊢
    generalize V1.alloc (.cells #[.string sClos, .int .i64 3, .bool true] 61) = V2 at rs rp r2 r3 kp ⊢
    have y0 := rs.cell
    have y1 := rs.lt
    go_wp2_with fail
    clear y0 y1 rs
    rw [rounds_succ]
    go_upto_region 9 with fail
    have rs := Row.new (W := V2) (cs := #[.string sRele, .int .i64 3, .bool false]) (t := 61)
    replace rp := rp.on (below_alloc V2 (.cells #[.string sRele, .int .i64 3, .bool false] 61))
    replace r2 := r2.on (below_alloc V2 (.cells #[.string sRele, .int .i64 3, .bool false] 61))
    replace r3 := r3.on (below_alloc V2 (.cells #[.string sRele, .int .i64 3, .bool false] 61))
    replace kp := kp.on hlt (below_alloc V2 (.cells #[.string sRele, .int .i64 3, .bool false] 61))
    generalize V2.heap.size = bV3 at rs ⊢
    generalize V2.alloc (.cells #[.string sRele, .int .i64 3, .bool false] 61) = V3 at rs rp r2 r3 kp ⊢
    have y0 := rs.cell
    have y1 := rs.lt
    go_wp2_with fail
    clear y0 y1 rs
    rw [rounds_succ]
    go_upto_region 9 with fail
    have rs := Row.new (W := V3) (cs := #[.string sQuar, .int .i64 3, .bool false]) (t := 61)
    replace rp := rp.on (below_alloc V3 (.cells #[.string sQuar, .int .i64 3, .bool false] 61))
    replace r2 := r2.on (below_alloc V3 (.cells #[.string sQuar, .int .i64 3, .bool false] 61))
    replace r3 := r3.on (below_alloc V3 (.cells #[.string sQuar, .int .i64 3, .bool false] 61))
    replace kp := kp.on hlt (below_alloc V3 (.cells #[.string sQuar, .int .i64 3, .bool false] 61))
    generalize V3.heap.size = bV4 at rs ⊢
    generalize V3.alloc (.cells #[.string sQuar, .int .i64 3, .bool false] 61) = V4 at rs rp r2 r3 kp ⊢
    have y0 := rs.cell
    have y1 := rs.lt
    go_wp2_with fail
    clear y0 y1 rs
    rw [rounds_succ]
    go_wp2_with fail
    go_meet
    exact ⟨0, rp, r2, r3, kp, .inl ⟨rfl, hx⟩⟩
  obtain ⟨st, rp, r2, r3, kp, hst⟩ := hcut
  have hl2' : l1 = x2 ++ 32 :: l2 := by simpa using hl2
  have hs2 := sz_of hl1s hl2
  clear hl2
  have y0 := r3.cell
  have y1 := r3.lt
  rcases hst with ⟨rfl, hx⟩ | ⟨hst, rfl⟩
  · go_wp2_with fail
    refine Calls.mono (need_f _) ?_
    rintro e W7 ⟨rfl, rfl⟩
    go_wp2_with fail
    exact bad_end kp (fun k i g st wy tr nx tag h => hx st (isR_cuts h hx1 hl1 hx2 hl2').word2.symm) _ rfl
  rcases hst with rfl | rfl | rfl | rfl
  · go_wp2_with fail
    refine Calls.mono (need_t _) ?_
    rintro e W7 ⟨rfl, rfl⟩
    clear y0 y1
    have hix := shIdx1
    go_upto_region 13 with fail
    go_cut [8] (fun v wx => ∃ b, v = .pointer (some ⟨b, 0, none⟩) ∧ Row wx p #[.string ⟨l2.toArray⟩] 76 ∧ Row wx w.heap.size zRow 27 ∧ Row wx (w.heap.size + 1) (rC k i g 1 0 0 0 ⟨#[]⟩) 27 ∧ Row wx b #[.string sLive, .int .i64 0, .bool false] 61 ∧ Kp p w wx ∧ w.heap.size + 1 < b)
    case first =>
      refine wp_region_held_drew (S := fun W' => (∀ j, W'.cell? ⟨w.heap.size + 1, j, none⟩ = (rC k i g 1 0 0 0 ⟨#[]⟩)[j]?)) (by kernel_rfl) r3.cell (fun hHeld => ?_)
      replace rp := rp.drew
      replace r2 := r2.drew
      replace r3 := r3.drew
      replace kp := kp.drew
      generalize W7.drew = X_0 at *
      refine' wpAnyH_take (i := 1) (oi := _) (v := _) ?_ (by kernel_rfl) (by kernel_rfl) (by kernel_rfl) ?_ (Or.inl ⟨?_, ?_⟩) (by assumption) ?_
      rotate_left 2
      · (simp only [List.getElem?_toArray, List.getElem?_cons_succ, List.getElem?_cons_zero]; rfl)
      · first | exact fun _ _ _ h => h | exact fun _ _ _ h => nomatch h.1
      · rfl
      · (intro W hSW; (try dsimp only at hSW); go_split_ands; first | (go_simp; done) | (go_simp; with_reducible rfl))
      try simp only [Act.put, List.setIfInBounds_toArray, List.set_cons_zero, List.set_cons_succ]
      refine' wpAnyH_take (i := 2) (oi := _) (v := _) ?_ (by kernel_rfl) (by kernel_rfl) (by kernel_rfl) ?_ (Or.inl ⟨?_, ?_⟩) (by assumption) ?_
      rotate_left 2
      · (simp only [List.getElem?_toArray, List.getElem?_cons_succ, List.getElem?_cons_zero]; rfl)
      · first | exact fun _ _ _ h => h | exact fun _ _ _ h => nomatch h.1
      · rfl
      · (intro W hSW; (try dsimp only at hSW); go_split_ands; first | (go_simp; done) | (go_simp; with_reducible rfl))
      try simp only [Act.put, List.setIfInBounds_toArray, List.set_cons_zero, List.set_cons_succ]
      clear hHeld
      refine wpAnyH_ready (rs := [0, 4]) (by kernel_rfl) (by simp) ?_
      refine' AllReadyH.cons (o := _) (by simp only [List.getElem?_toArray, List.getElem?_cons_succ, List.getElem?_cons_zero]; rfl) (fun K hK => ?_) (AllReadyH.cons (o := _) (by simp only [List.getElem?_toArray, List.getElem?_cons_succ, List.getElem?_cons_zero]; rfl) (fun K hK => ?_) AllReadyH.nil)
      · go_simp
        refine Calls.mono (shapes_c _) ?_
        rintro e X_1 ⟨rfl, hn⟩
        replace rp := rp.on hn
        replace r2 := r2.on hn
        replace r3 := r3.on hn
        replace kp := kp.on hlt hn
        clear hn
        go_simp
        refine hK.out _ _ r3.cell (fun hHeld => ?_)
        clear hK K
        refine' wpAnyH_take (i := 3) (oi := _) (v := _) ?_ (by kernel_rfl) (by kernel_rfl) (by kernel_rfl) ?_ (Or.inl ⟨?_, ?_⟩) (by assumption) ?_
        rotate_left 2
        · (simp only [List.getElem?_toArray, List.getElem?_cons_succ, List.getElem?_cons_zero]; rfl)
        · first | exact fun _ _ _ h => h | exact fun _ _ _ h => nomatch h.1
        · rfl
        · (intro W hSW; (try dsimp only at hSW); go_split_ands; first | (go_simp; done) | (go_simp; with_reducible rfl))
        try simp only [Act.put, List.setIfInBounds_toArray, List.set_cons_zero, List.set_cons_succ]
        clear hHeld
        refine wpAnyH_ready (rs := [4]) (by kernel_rfl) (by simp) ?_
        refine' AllReadyH.cons (o := _) ?_ (fun K hK => ?_) AllReadyH.nil
        rotate_left 1
        · (simp only [List.getElem?_toArray, List.getElem?_cons_succ, List.getElem?_cons_zero]; rfl)
        go_simp
        have rs := Row.new (W := X_1) (cs := #[.string ⟨#[]⟩, .int .i64 0, .bool false]) (t := 61)
        have hb1 : w.heap.size + 1 < X_1.heap.size := r3.lt
        have hb2 : X_1.heap.size ≠ p := Nat.ne_of_gt rp.lt
        replace rp := rp.on (below_alloc X_1 (.cells #[.string ⟨#[]⟩, .int .i64 0, .bool false] 61))
        replace r2 := r2.on (below_alloc X_1 (.cells #[.string ⟨#[]⟩, .int .i64 0, .bool false] 61))
        replace r3 := r3.on (below_alloc X_1 (.cells #[.string ⟨#[]⟩, .int .i64 0, .bool false] 61))
        replace kp := kp.on hlt (below_alloc X_1 (.cells #[.string ⟨#[]⟩, .int .i64 0, .bool false] 61))
        generalize X_1.alloc (.cells #[.string ⟨#[]⟩, .int .i64 0, .bool false] 61) = X_2 at rs rp r2 r3 kp ⊢
        generalize X_1.heap.size = b at *
        refine hK.out _ _ r3.cell (fun _ => ?_)
        clear hK K
        have y0 := rs.cell
        have y1 := rs.free
        have y2 := rs.lt
        refine wpAnyH_ready (rs := [5]) (by kernel_rfl) (by simp) ?_
        refine' AllReadyH.cons (o := _) ?_ (fun K hK => ?_) AllReadyH.nil
        rotate_left 1
        · (simp only [List.getElem?_toArray, List.getElem?_cons_succ, List.getElem?_cons_zero]; rfl)
        go_simp
        clear y0 y1 y2
        replace rp := ((rp.other (show b ≠ p by omega) 0 (.string sLive)).other (show b ≠ p by omega) 1 (.int .i64 0)).other (show b ≠ p by omega) 2 (.bool false)
        replace r2 := ((r2.other (show b ≠ w.heap.size by omega) 0 (.string sLive)).other (show b ≠ w.heap.size by omega) 1 (.int .i64 0)).other (show b ≠ w.heap.size by omega) 2 (.bool false)
        replace r3 := ((r3.other (show b ≠ w.heap.size + 1 by omega) 0 (.string sLive)).other (show b ≠ w.heap.size + 1 by omega) 1 (.int .i64 0)).other (show b ≠ w.heap.size + 1 by omega) 2 (.bool false)
        replace rs := ((rs.set 0 (.string sLive)).set 1 (.int .i64 0)).set 2 (.bool false)
        replace kp := ((kp.set (show w.heap.size ≤ b by omega) hlt 0 (.string sLive)).set (show w.heap.size ≤ b by omega) hlt 1 (.int .i64 0)).set (show w.heap.size ≤ b by omega) hlt 2 (.bool false)
        simp only [List.setIfInBounds_toArray, List.set_cons_zero, List.set_cons_succ] at rs
        generalize hW : World.setCell _ _ _ = V at *
        clear hW
        refine hK.out _ _ r3.cell (fun _ => ?_)
        clear hK K
        refine wpAnyH_done (by kernel_rfl) ?_ _
        go_wp2_with fail
        go_meet
        exact ⟨b, rfl, rp, r2, r3, rs, kp, hb1⟩
      · go_simp
        have rs := Row.new (W := X_0) (cs := #[.string ⟨#[]⟩, .int .i64 0, .bool false]) (t := 61)
        have hb1 : w.heap.size + 1 < X_0.heap.size := r3.lt
        have hb2 : X_0.heap.size ≠ p := Nat.ne_of_gt rp.lt
        replace rp := rp.on (below_alloc X_0 (.cells #[.string ⟨#[]⟩, .int .i64 0, .bool false] 61))
        replace r2 := r2.on (below_alloc X_0 (.cells #[.string ⟨#[]⟩, .int .i64 0, .bool false] 61))
        replace r3 := r3.on (below_alloc X_0 (.cells #[.string ⟨#[]⟩, .int .i64 0, .bool false] 61))
        replace kp := kp.on hlt (below_alloc X_0 (.cells #[.string ⟨#[]⟩, .int .i64 0, .bool false] 61))
        generalize X_0.alloc (.cells #[.string ⟨#[]⟩, .int .i64 0, .bool false] 61) = X_2 at rs rp r2 r3 kp ⊢
        generalize X_0.heap.size = b at *
        refine hK.out _ _ r3.cell (fun _ => ?_)
        clear hK K
        refine wpAnyH_ready (rs := [0]) (by kernel_rfl) (by simp) ?_
        refine' AllReadyH.cons (o := _) ?_ (fun K hK => ?_) AllReadyH.nil
        rotate_left 1
        · (simp only [List.getElem?_toArray, List.getElem?_cons_succ, List.getElem?_cons_zero]; rfl)
        go_simp
        refine Calls.mono (shapes_c _) ?_
        rintro e X_3 ⟨rfl, hn⟩
        replace rp := rp.on hn
        replace r2 := r2.on hn
        replace r3 := r3.on hn
        replace kp := kp.on hlt hn
        replace rs := rs.on hn
        clear hn
        refine hK.out _ _ r3.cell (fun hHeld => ?_)
        clear hK K
        refine' wpAnyH_take (i := 3) (oi := _) (v := _) ?_ (by kernel_rfl) (by kernel_rfl) (by kernel_rfl) ?_ (Or.inl ⟨?_, ?_⟩) (by assumption) ?_
        rotate_left 2
        · (simp only [List.getElem?_toArray, List.getElem?_cons_succ, List.getElem?_cons_zero]; rfl)
        · first | exact fun _ _ _ h => h | exact fun _ _ _ h => nomatch h.1
        · rfl
        · (intro W hSW; (try dsimp only at hSW); go_split_ands; first | (go_simp; done) | (go_simp; with_reducible rfl))
        try simp only [Act.put, List.setIfInBounds_toArray, List.set_cons_zero, List.set_cons_succ]
        clear hHeld
        have y0 := rs.cell
        have y1 := rs.free
        have y2 := rs.lt
        refine wpAnyH_ready (rs := [5]) (by kernel_rfl) (by simp) ?_
        refine' AllReadyH.cons (o := _) ?_ (fun K hK => ?_) AllReadyH.nil
        rotate_left 1
        · (simp only [List.getElem?_toArray, List.getElem?_cons_succ, List.getElem?_cons_zero]; rfl)
        go_simp
        clear y0 y1 y2
        replace rp := ((rp.other (show b ≠ p by omega) 0 (.string sLive)).other (show b ≠ p by omega) 1 (.int .i64 0)).other (show b ≠ p by omega) 2 (.bool false)
        replace r2 := ((r2.other (show b ≠ w.heap.size by omega) 0 (.string sLive)).other (show b ≠ w.heap.size by omega) 1 (.int .i64 0)).other (show b ≠ w.heap.size by omega) 2 (.bool false)
        replace r3 := ((r3.other (show b ≠ w.heap.size + 1 by omega) 0 (.string sLive)).other (show b ≠ w.heap.size + 1 by omega) 1 (.int .i64 0)).other (show b ≠ w.heap.size + 1 by omega) 2 (.bool false)
        replace rs := ((rs.set 0 (.string sLive)).set 1 (.int .i64 0)).set 2 (.bool false)
        replace kp := ((kp.set (show w.heap.size ≤ b by omega) hlt 0 (.string sLive)).set (show w.heap.size ≤ b by omega) hlt 1 (.int .i64 0)).set (show w.heap.size ≤ b by omega) hlt 2 (.bool false)
        simp only [List.setIfInBounds_toArray, List.set_cons_zero, List.set_cons_succ] at rs
        generalize hW : World.setCell _ _ _ = V at *
        clear hW
        refine hK.out _ _ r3.cell (fun _ => ?_)
        clear hK K
        refine wpAnyH_done (by kernel_rfl) ?_ _
        go_wp2_with fail
        go_meet
        exact ⟨b, rfl, rp, r2, r3, rs, kp, hb1⟩
    obtain ⟨b, rfl, rp, r2, r3, rs, kp, hb⟩ := hcut
    have y0 := r3.cell
    have y1 := r3.lt
    have y2 := r3.free
    have y3 := rs.cell
    have y4 := rs.lt
    have y5 := rp.cell
    have y6 := rp.lt
    go_upto_region 27 with fail
    clear y0 y1 y2 y3 y4 y5 y6
    have hR := rd_live hD hx1 hl1 hl2'
    have hsX := hs2
    have y0 := r3.cell
    have y1 := r3.lt
    have y2 := r3.free
    have y3 := rs.cell
    have y4 := rs.lt
    have y5 := rp.cell
    have y6 := rp.lt
    have TU := fun W => Lib.hid (tunq_c ⟨l2.toArray⟩ W (by omega))
    simp only [of_list, unqV] at TU
    have hu := unq_split l2
    rcases hu with ⟨xt, n0, e0, hu, f0, hno⟩ | ⟨xt, n0, hu, hne, hno⟩ | ⟨xt, hu, hq⟩
    · rw [hu] at TU
      dsimp only at TU
      go_wp2_with fail
      refine Calls.mono (TU _).out ?_
      rintro e W20 ⟨rfl, hn⟩
      clear y0 y1 y2 y3 y4 y5 y6
      replace rp := rp.on hn
      replace r2 := r2.on hn
      replace r3 := r3.on hn
      replace rs := rs.on hn
      replace kp := kp.on hlt hn
      clear hn TU
      have y0 := r3.cell
      have y1 := r3.lt
      have y2 := r3.free
      have y3 := rs.cell
      have y4 := rs.lt
      have y5 := rp.cell
      have y6 := rp.lt
      go_wp2_with fail
      clear y0 y1 y2 y3 y4 y5 y6
      refine Calls.mono (need_f _) ?_
      rintro e W21 ⟨rfl, rfl⟩
      go_wp2_with fail
      exact bad_end kp (fun k i g st wy tr nx tag h => rd_not hR (fun tag hq ht _ => hno _ ht hq) k i g st wy tr nx tag h) _ rfl
    · have f0 : ((n0 : Int) == (l2.length : Int)) = false := by rw [beq_eq_false_iff_ne]; omega
      rw [hu] at TU
      dsimp only at TU
      go_wp2_with fail
      refine Calls.mono (TU _).out ?_
      rintro e W20 ⟨rfl, hn⟩
      clear y0 y1 y2 y3 y4 y5 y6
      replace rp := rp.on hn
      replace r2 := r2.on hn
      replace r3 := r3.on hn
      replace rs := rs.on hn
      replace kp := kp.on hlt hn
      clear hn TU
      have y0 := r3.cell
      have y1 := r3.lt
      have y2 := r3.free
      have y3 := rs.cell
      have y4 := rs.lt
      have y5 := rp.cell
      have y6 := rp.lt
      go_wp2_with fail
      clear y0 y1 y2 y3 y4 y5 y6
      refine Calls.mono (need_f _) ?_
      rintro e W21 ⟨rfl, rfl⟩
      go_wp2_with fail
      exact bad_end kp (fun k i g st wy tr nx tag h => rd_not hR (fun tag hq ht _ => hno _ ht hq) k i g st wy tr nx tag h) _ rfl
    · have f0 : ((l2.length : Int) == (l2.length : Int)) = true := by rw [beq_iff_eq]
      have htl : (⟨xt.toArray⟩ : ByteArray).size ≤ 1000000 := by have := unqL_len l2; rw [hu] at this; rw [← len_bytes, of_list] at hsX ⊢; dsimp only at this; omega
      rw [hu] at TU
      dsimp only at TU
      go_wp2_with fail
      refine Calls.mono (TU _).out ?_
      rintro e W20 ⟨rfl, hn⟩
      clear y0 y1 y2 y3 y4 y5 y6
      replace rp := rp.on hn
      replace r2 := r2.on hn
      replace r3 := r3.on hn
      replace rs := rs.on hn
      replace kp := kp.on hlt hn
      clear hn TU
      have y0 := r3.cell
      have y1 := r3.lt
      have y2 := r3.free
      have y3 := rs.cell
      have y4 := rs.lt
      have y5 := rp.cell
      have y6 := rp.lt
      go_wp2_with fail
      clear y0 y1 y2 y3 y4 y5 y6
      refine Calls.mono (need_t _) ?_
      rintro e W21 ⟨rfl, rfl⟩
      have y0 := r3.cell
      have y1 := r3.lt
      have y2 := r3.free
      have y3 := rs.cell
      have y4 := rs.lt
      have y5 := rp.cell
      have y6 := rp.lt
      go_upto_region 30 with fail
      clear y0 y1 y2 y3 y4 y5 y6
      replace rp := rp.other (show w.heap.size + 1 ≠ p by omega) 7 (.string ⟨xt.toArray⟩)
      replace r2 := r2.other (show w.heap.size + 1 ≠ w.heap.size by omega) 7 (.string ⟨xt.toArray⟩)
      replace rs := rs.other (show w.heap.size + 1 ≠ b by omega) 7 (.string ⟨xt.toArray⟩)
      replace r3 := r3.set 7 (.string ⟨xt.toArray⟩)
      simp only [List.setIfInBounds_toArray, List.set_cons_zero, List.set_cons_succ] at r3
      replace kp := kp.set (show w.heap.size ≤ w.heap.size + 1 by omega) hlt 7 (.string ⟨xt.toArray⟩)
      generalize W21.setCell ⟨w.heap.size + 1, 7, none⟩ (.string ⟨xt.toArray⟩) = W22 at rp r2 r3 rs kp ⊢
      have EC := fun W => Lib.hid (rerr_c k i g 1 0 0 0 ⟨xt.toArray⟩ W hD.g0 hD.gm htl)
      by_cases he : rErr k i g 1 0 0 0 ⟨xt.toArray⟩ = 0
      · rw [he] at EC
        have y0 := r3.cell
        have y1 := r3.lt
        have y2 := r3.free
        have y3 := rs.cell
        have y4 := rs.lt
        have y5 := rp.cell
        have y6 := rp.lt
        go_wp2_with fail
        refine Calls.mono (EC _).out ?_
        rintro e W23 ⟨rfl, hn⟩
        clear y0 y1 y2 y3 y4 y5 y6
        replace rp := rp.on hn
        replace r2 := r2.on hn
        replace r3 := r3.on hn
        replace rs := rs.on hn
        replace kp := kp.on hlt hn
        clear hn EC
        go_wp2_with fail
        refine Calls.mono (need_t _) ?_
        rintro e W24 ⟨rfl, rfl⟩
        have y0 := r3.cell
        have y1 := r3.lt
        have y2 := r3.free
        have y3 := rs.cell
        have y4 := rs.lt
        have y5 := rp.cell
        have y6 := rp.lt
        have y7 := r2.cell
        have y8 := r2.lt
        have y9 := r2.free
        go_wp2_with fail
        clear y0 y1 y2 y3 y4 y5 y6
        clear y7 y8 y9 r3 rs rp
        replace r2 := r2.set 0 (.int .i64 k)
        replace r2 := r2.set 1 (.int .i64 i)
        replace r2 := r2.set 2 (.int .u32 g)
        replace r2 := r2.set 3 (.int .i64 1)
        replace r2 := r2.set 4 (.int .i64 0)
        replace r2 := r2.set 5 (.int .i64 0)
        replace r2 := r2.set 6 (.int .i64 0)
        replace r2 := r2.set 7 (.string ⟨xt.toArray⟩)
        replace kp := kp.set (Nat.le_refl w.heap.size) hlt 0 (.int .i64 k)
        replace kp := kp.set (Nat.le_refl w.heap.size) hlt 1 (.int .i64 i)
        replace kp := kp.set (Nat.le_refl w.heap.size) hlt 2 (.int .u32 g)
        replace kp := kp.set (Nat.le_refl w.heap.size) hlt 3 (.int .i64 1)
        replace kp := kp.set (Nat.le_refl w.heap.size) hlt 4 (.int .i64 0)
        replace kp := kp.set (Nat.le_refl w.heap.size) hlt 5 (.int .i64 0)
        replace kp := kp.set (Nat.le_refl w.heap.size) hlt 6 (.int .i64 0)
        replace kp := kp.set (Nat.le_refl w.heap.size) hlt 7 (.string ⟨xt.toArray⟩)
        simp only [List.setIfInBounds_toArray, List.set_cons_zero, List.set_cons_succ] at r2
        generalize hW : World.setCell _ _ _ = V at *
        clear hW
        have y0 := r2.cell
        refine bodyPost_ret (v := rV k i g 1 0 0 0 ⟨xt.toArray⟩) (by simp [results, Tryz.results33, go_sem, y0]) rfl ⟨kp, .inl ⟨k, i, g, 1, 0, 0, 0, ⟨xt.toArray⟩, rd_is hR hD.g0 hD.gm (by rw [of_list]; exact hq) he, rfl⟩⟩
      · have f1 : (rErr k i g 1 0 0 0 ⟨xt.toArray⟩ == 0) = false := by rw [beq_eq_false_iff_ne]; exact he
        have hno : ∀ tag : ByteArray, quoteL tag.data.toList = l2 → tagOk tag.data.toList = true → rErr k i g 1 0 0 0 tag ≠ 0 := fun tag h1 _ => by
          have : tag = ⟨xt.toArray⟩ := str_ext (by rw [of_list]; exact quoteL_inj (by rw [h1, hq]))
          rw [this]; exact he
        have y0 := r3.cell
        have y1 := r3.lt
        have y2 := r3.free
        have y3 := rs.cell
        have y4 := rs.lt
        have y5 := rp.cell
        have y6 := rp.lt
        go_wp2_with fail
        refine Calls.mono (EC _).out ?_
        rintro e W23 ⟨rfl, hn⟩
        clear y0 y1 y2 y3 y4 y5 y6
        replace kp := kp.on hlt hn
        clear hn EC
        go_wp2_with fail
        refine Calls.mono (need_f _) ?_
        rintro e W24 ⟨rfl, rfl⟩
        go_wp2_with fail
        exact bad_end kp (fun k i g st wy tr nx tag h => rd_not hR hno k i g st wy tr nx tag h) _ rfl
  · go_wp2_with fail
    refine Calls.mono (need_t _) ?_
    rintro e W7 ⟨rfl, rfl⟩
    clear y0 y1
    have hix := shIdx2
    go_upto_region 13 with fail
    go_cut [8] (fun v wx => ∃ b, v = .pointer (some ⟨b, 0, none⟩) ∧ Row wx p #[.string ⟨l2.toArray⟩] 76 ∧ Row wx w.heap.size zRow 27 ∧ Row wx (w.heap.size + 1) (rC k i g 2 0 0 0 ⟨#[]⟩) 27 ∧ Row wx b #[.string sClos, .int .i64 3, .bool true] 61 ∧ Kp p w wx ∧ w.heap.size + 1 < b)
    case first =>
      refine wp_region_held_drew (S := fun W' => (∀ j, W'.cell? ⟨w.heap.size + 1, j, none⟩ = (rC k i g 2 0 0 0 ⟨#[]⟩)[j]?)) (by kernel_rfl) r3.cell (fun hHeld => ?_)
      replace rp := rp.drew
      replace r2 := r2.drew
      replace r3 := r3.drew
      replace kp := kp.drew
      generalize W7.drew = X_0 at *
      refine' wpAnyH_take (i := 1) (oi := _) (v := _) ?_ (by kernel_rfl) (by kernel_rfl) (by kernel_rfl) ?_ (Or.inl ⟨?_, ?_⟩) (by assumption) ?_
      rotate_left 2
      · (simp only [List.getElem?_toArray, List.getElem?_cons_succ, List.getElem?_cons_zero]; rfl)
      · first | exact fun _ _ _ h => h | exact fun _ _ _ h => nomatch h.1
      · rfl
      · (intro W hSW; (try dsimp only at hSW); go_split_ands; first | (go_simp; done) | (go_simp; with_reducible rfl))
      try simp only [Act.put, List.setIfInBounds_toArray, List.set_cons_zero, List.set_cons_succ]
      refine' wpAnyH_take (i := 2) (oi := _) (v := _) ?_ (by kernel_rfl) (by kernel_rfl) (by kernel_rfl) ?_ (Or.inl ⟨?_, ?_⟩) (by assumption) ?_
      rotate_left 2
      · (simp only [List.getElem?_toArray, List.getElem?_cons_succ, List.getElem?_cons_zero]; rfl)
      · first | exact fun _ _ _ h => h | exact fun _ _ _ h => nomatch h.1
      · rfl
      · (intro W hSW; (try dsimp only at hSW); go_split_ands; first | (go_simp; done) | (go_simp; with_reducible rfl))
      try simp only [Act.put, List.setIfInBounds_toArray, List.set_cons_zero, List.set_cons_succ]
      clear hHeld
      refine wpAnyH_ready (rs := [0, 4]) (by kernel_rfl) (by simp) ?_
      refine' AllReadyH.cons (o := _) (by simp only [List.getElem?_toArray, List.getElem?_cons_succ, List.getElem?_cons_zero]; rfl) (fun K hK => ?_) (AllReadyH.cons (o := _) (by simp only [List.getElem?_toArray, List.getElem?_cons_succ, List.getElem?_cons_zero]; rfl) (fun K hK => ?_) AllReadyH.nil)
      · go_simp
        refine Calls.mono (shapes_c _) ?_
        rintro e X_1 ⟨rfl, hn⟩
        replace rp := rp.on hn
        replace r2 := r2.on hn
        replace r3 := r3.on hn
        replace kp := kp.on hlt hn
        clear hn
        go_simp
        refine hK.out _ _ r3.cell (fun hHeld => ?_)
        clear hK K
        refine' wpAnyH_take (i := 3) (oi := _) (v := _) ?_ (by kernel_rfl) (by kernel_rfl) (by kernel_rfl) ?_ (Or.inl ⟨?_, ?_⟩) (by assumption) ?_
        rotate_left 2
        · (simp only [List.getElem?_toArray, List.getElem?_cons_succ, List.getElem?_cons_zero]; rfl)
        · first | exact fun _ _ _ h => h | exact fun _ _ _ h => nomatch h.1
        · rfl
        · (intro W hSW; (try dsimp only at hSW); go_split_ands; first | (go_simp; done) | (go_simp; with_reducible rfl))
        try simp only [Act.put, List.setIfInBounds_toArray, List.set_cons_zero, List.set_cons_succ]
        clear hHeld
        refine wpAnyH_ready (rs := [4]) (by kernel_rfl) (by simp) ?_
        refine' AllReadyH.cons (o := _) ?_ (fun K hK => ?_) AllReadyH.nil
        rotate_left 1
        · (simp only [List.getElem?_toArray, List.getElem?_cons_succ, List.getElem?_cons_zero]; rfl)
        go_simp
        have rs := Row.new (W := X_1) (cs := #[.string ⟨#[]⟩, .int .i64 0, .bool false]) (t := 61)
        have hb1 : w.heap.size + 1 < X_1.heap.size := r3.lt
        have hb2 : X_1.heap.size ≠ p := Nat.ne_of_gt rp.lt
        replace rp := rp.on (below_alloc X_1 (.cells #[.string ⟨#[]⟩, .int .i64 0, .bool false] 61))
        replace r2 := r2.on (below_alloc X_1 (.cells #[.string ⟨#[]⟩, .int .i64 0, .bool false] 61))
        replace r3 := r3.on (below_alloc X_1 (.cells #[.string ⟨#[]⟩, .int .i64 0, .bool false] 61))
        replace kp := kp.on hlt (below_alloc X_1 (.cells #[.string ⟨#[]⟩, .int .i64 0, .bool false] 61))
        generalize X_1.alloc (.cells #[.string ⟨#[]⟩, .int .i64 0, .bool false] 61) = X_2 at rs rp r2 r3 kp ⊢
        generalize X_1.heap.size = b at *
        refine hK.out _ _ r3.cell (fun _ => ?_)
        clear hK K
        have y0 := rs.cell
        have y1 := rs.free
        have y2 := rs.lt
        refine wpAnyH_ready (rs := [5]) (by kernel_rfl) (by simp) ?_
        refine' AllReadyH.cons (o := _) ?_ (fun K hK => ?_) AllReadyH.nil
        rotate_left 1
        · (simp only [List.getElem?_toArray, List.getElem?_cons_succ, List.getElem?_cons_zero]; rfl)
        go_simp
        clear y0 y1 y2
        replace rp := ((rp.other (show b ≠ p by omega) 0 (.string sClos)).other (show b ≠ p by omega) 1 (.int .i64 3)).other (show b ≠ p by omega) 2 (.bool true)
        replace r2 := ((r2.other (show b ≠ w.heap.size by omega) 0 (.string sClos)).other (show b ≠ w.heap.size by omega) 1 (.int .i64 3)).other (show b ≠ w.heap.size by omega) 2 (.bool true)
        replace r3 := ((r3.other (show b ≠ w.heap.size + 1 by omega) 0 (.string sClos)).other (show b ≠ w.heap.size + 1 by omega) 1 (.int .i64 3)).other (show b ≠ w.heap.size + 1 by omega) 2 (.bool true)
        replace rs := ((rs.set 0 (.string sClos)).set 1 (.int .i64 3)).set 2 (.bool true)
        replace kp := ((kp.set (show w.heap.size ≤ b by omega) hlt 0 (.string sClos)).set (show w.heap.size ≤ b by omega) hlt 1 (.int .i64 3)).set (show w.heap.size ≤ b by omega) hlt 2 (.bool true)
        simp only [List.setIfInBounds_toArray, List.set_cons_zero, List.set_cons_succ] at rs
        generalize hW : World.setCell _ _ _ = V at *
        clear hW
        refine hK.out _ _ r3.cell (fun _ => ?_)
        clear hK K
        refine wpAnyH_done (by kernel_rfl) ?_ _
        go_wp2_with fail
        go_meet
        exact ⟨b, rfl, rp, r2, r3, rs, kp, hb1⟩
      · go_simp
        have rs := Row.new (W := X_0) (cs := #[.string ⟨#[]⟩, .int .i64 0, .bool false]) (t := 61)
        have hb1 : w.heap.size + 1 < X_0.heap.size := r3.lt
        have hb2 : X_0.heap.size ≠ p := Nat.ne_of_gt rp.lt
        replace rp := rp.on (below_alloc X_0 (.cells #[.string ⟨#[]⟩, .int .i64 0, .bool false] 61))
        replace r2 := r2.on (below_alloc X_0 (.cells #[.string ⟨#[]⟩, .int .i64 0, .bool false] 61))
        replace r3 := r3.on (below_alloc X_0 (.cells #[.string ⟨#[]⟩, .int .i64 0, .bool false] 61))
        replace kp := kp.on hlt (below_alloc X_0 (.cells #[.string ⟨#[]⟩, .int .i64 0, .bool false] 61))
        generalize X_0.alloc (.cells #[.string ⟨#[]⟩, .int .i64 0, .bool false] 61) = X_2 at rs rp r2 r3 kp ⊢
        generalize X_0.heap.size = b at *
        refine hK.out _ _ r3.cell (fun _ => ?_)
        clear hK K
        refine wpAnyH_ready (rs := [0]) (by kernel_rfl) (by simp) ?_
        refine' AllReadyH.cons (o := _) ?_ (fun K hK => ?_) AllReadyH.nil
        rotate_left 1
        · (simp only [List.getElem?_toArray, List.getElem?_cons_succ, List.getElem?_cons_zero]; rfl)
        go_simp
        refine Calls.mono (shapes_c _) ?_
        rintro e X_3 ⟨rfl, hn⟩
        replace rp := rp.on hn
        replace r2 := r2.on hn
        replace r3 := r3.on hn
        replace kp := kp.on hlt hn
        replace rs := rs.on hn
        clear hn
        refine hK.out _ _ r3.cell (fun hHeld => ?_)
        clear hK K
        refine' wpAnyH_take (i := 3) (oi := _) (v := _) ?_ (by kernel_rfl) (by kernel_rfl) (by kernel_rfl) ?_ (Or.inl ⟨?_, ?_⟩) (by assumption) ?_
        rotate_left 2
        · (simp only [List.getElem?_toArray, List.getElem?_cons_succ, List.getElem?_cons_zero]; rfl)
        · first | exact fun _ _ _ h => h | exact fun _ _ _ h => nomatch h.1
        · rfl
        · (intro W hSW; (try dsimp only at hSW); go_split_ands; first | (go_simp; done) | (go_simp; with_reducible rfl))
        try simp only [Act.put, List.setIfInBounds_toArray, List.set_cons_zero, List.set_cons_succ]
        clear hHeld
        have y0 := rs.cell
        have y1 := rs.free
        have y2 := rs.lt
        refine wpAnyH_ready (rs := [5]) (by kernel_rfl) (by simp) ?_
        refine' AllReadyH.cons (o := _) ?_ (fun K hK => ?_) AllReadyH.nil
        rotate_left 1
        · (simp only [List.getElem?_toArray, List.getElem?_cons_succ, List.getElem?_cons_zero]; rfl)
        go_simp
        clear y0 y1 y2
        replace rp := ((rp.other (show b ≠ p by omega) 0 (.string sClos)).other (show b ≠ p by omega) 1 (.int .i64 3)).other (show b ≠ p by omega) 2 (.bool true)
        replace r2 := ((r2.other (show b ≠ w.heap.size by omega) 0 (.string sClos)).other (show b ≠ w.heap.size by omega) 1 (.int .i64 3)).other (show b ≠ w.heap.size by omega) 2 (.bool true)
        replace r3 := ((r3.other (show b ≠ w.heap.size + 1 by omega) 0 (.string sClos)).other (show b ≠ w.heap.size + 1 by omega) 1 (.int .i64 3)).other (show b ≠ w.heap.size + 1 by omega) 2 (.bool true)
        replace rs := ((rs.set 0 (.string sClos)).set 1 (.int .i64 3)).set 2 (.bool true)
        replace kp := ((kp.set (show w.heap.size ≤ b by omega) hlt 0 (.string sClos)).set (show w.heap.size ≤ b by omega) hlt 1 (.int .i64 3)).set (show w.heap.size ≤ b by omega) hlt 2 (.bool true)
        simp only [List.setIfInBounds_toArray, List.set_cons_zero, List.set_cons_succ] at rs
        generalize hW : World.setCell _ _ _ = V at *
        clear hW
        refine hK.out _ _ r3.cell (fun _ => ?_)
        clear hK K
        refine wpAnyH_done (by kernel_rfl) ?_ _
        go_wp2_with fail
        go_meet
        exact ⟨b, rfl, rp, r2, r3, rs, kp, hb1⟩
    obtain ⟨b, rfl, rp, r2, r3, rs, kp, hb⟩ := hcut
    have y0 := r3.cell
    have y1 := r3.lt
    have y2 := r3.free
    have y3 := rs.cell
    have y4 := rs.lt
    have y5 := rp.cell
    have y6 := rp.lt
    go_wp2_with fail
    clear y0 y1 y2 y3 y4 y5 y6
    refine Calls.mono (word_both p _ wc (hE0.on (kp.below _ _ hp hB)).toEnv hs2 rp) ?_
    rintro e W8 (⟨x3, l3, hx3, hl3, rfl, m8⟩ | ⟨hno, rfl, k8⟩)
    case' inr =>
      go_wp2_with fail
      exact bad_end (kp.trans k8) (fun k i g st wy tr nx tag h => no_w h hx1 hl1 (st0 := 2) (by decide) hl2' hno) _ rfl
    replace rp := m8.row
    replace r2 := m8.keep _ _ _ (by omega) r2
    replace r3 := m8.keep _ _ _ (by omega) r3
    replace rs := m8.keep _ _ _ (by omega) rs
    replace kp := kp.trans m8.kp
    clear m8
    go_wp2_with fail
    refine Calls.mono (reasons_c _) ?_
    rintro e W9 ⟨rfl, hn⟩
    replace rp := rp.on hn
    replace r2 := r2.on hn
    replace r3 := r3.on hn
    replace rs := rs.on hn
    replace kp := kp.on hlt hn
    clear hn
    go_upto_block 2 with (fail)
    go_cut [] (fun wx => ∃ wy : Int, Row wx p #[.string ⟨l3.toArray⟩] 76 ∧ Row wx w.heap.size zRow 27 ∧ Row wx (w.heap.size + 1) (rC k i g 2 wy 0 0 ⟨#[]⟩) 27 ∧ Row wx b #[.string sClos, .int .i64 3, .bool true] 61 ∧ Kp p w wx ∧ ((wy = 0 ∧ x3 ≠ whL 1 ∧ x3 ≠ whL 2 ∧ x3 ≠ whL 3) ∨ ((wy = 1 ∨ wy = 2 ∨ wy = 3) ∧ x3 = whL wy)))
    case first =>
      have rx0 := reIdx0
      have rx1 := reIdx1
      have rx2 := reIdx2
      have rx3 := reIdx3
      have y0 := r3.cell
      have y1 := r3.lt
      have y2 := r3.free
      have y3 := rs.cell
      have y4 := rs.lt
      have y5 := rp.cell
      have y6 := rp.lt
      by_cases q1 : x3 = [99, 108, 111, 115, 101]
      · subst q1
        go_wp2_with fail
        refine wp_loop_rounds 5 ?_
        rw [rounds_succ]
        go_wp2_with fail
        rw [rounds_succ]
        go_wp2_with fail
        clear y0 y1 y2 y3 y4 y5 y6
        replace rp := rp.other (show w.heap.size + 1 ≠ p by omega) 4 (.int .i64 1)
        replace r2 := r2.other (show w.heap.size + 1 ≠ w.heap.size by omega) 4 (.int .i64 1)
        replace rs := rs.other (show w.heap.size + 1 ≠ b by omega) 4 (.int .i64 1)
        replace r3 := r3.set 4 (.int .i64 1)
        simp only [List.setIfInBounds_toArray, List.set_cons_zero, List.set_cons_succ] at r3
        replace kp := kp.set (show w.heap.size ≤ w.heap.size + 1 by omega) hlt 4 (.int .i64 1)
        generalize W9.setCell ⟨w.heap.size + 1, 4, none⟩ (.int .i64 1) = U9 at rp r2 r3 rs kp ⊢
        rw [rounds_succ]
        go_wp2_with fail
        rw [rounds_succ]
        go_wp2_with fail
        rw [rounds_succ]
        go_wp2_with fail
        go_meet
        exact ⟨1, rp, r2, r3, rs, kp, .inr ⟨by decide, rfl⟩⟩
      by_cases q2 : x3 = [101, 120, 112, 105, 114, 121]
      · subst q2
        go_wp2_with fail
        refine wp_loop_rounds 5 ?_
        rw [rounds_succ]
        go_wp2_with fail
        rw [rounds_succ]
        go_wp2_with fail
        rw [rounds_succ]
        go_wp2_with fail
        clear y0 y1 y2 y3 y4 y5 y6
        replace rp := rp.other (show w.heap.size + 1 ≠ p by omega) 4 (.int .i64 2)
        replace r2 := r2.other (show w.heap.size + 1 ≠ w.heap.size by omega) 4 (.int .i64 2)
        replace rs := rs.other (show w.heap.size + 1 ≠ b by omega) 4 (.int .i64 2)
        replace r3 := r3.set 4 (.int .i64 2)
        simp only [List.setIfInBounds_toArray, List.set_cons_zero, List.set_cons_succ] at r3
        replace kp := kp.set (show w.heap.size ≤ w.heap.size + 1 by omega) hlt 4 (.int .i64 2)
        generalize W9.setCell ⟨w.heap.size + 1, 4, none⟩ (.int .i64 2) = U9 at rp r2 r3 rs kp ⊢
        rw [rounds_succ]
        go_wp2_with fail
        rw [rounds_succ]
        go_wp2_with fail
        go_meet
        exact ⟨2, rp, r2, r3, rs, kp, .inr ⟨by decide, rfl⟩⟩
      by_cases q3 : x3 = [99, 111, 108, 108, 101, 99, 116]
      · subst q3
        go_wp2_with fail
        refine wp_loop_rounds 5 ?_
        rw [rounds_succ]
        go_wp2_with fail
        rw [rounds_succ]
        go_wp2_with fail
        rw [rounds_succ]
        go_wp2_with fail
        rw [rounds_succ]
        go_wp2_with fail
        clear y0 y1 y2 y3 y4 y5 y6
        replace rp := rp.other (show w.heap.size + 1 ≠ p by omega) 4 (.int .i64 3)
        replace r2 := r2.other (show w.heap.size + 1 ≠ w.heap.size by omega) 4 (.int .i64 3)
        replace rs := rs.other (show w.heap.size + 1 ≠ b by omega) 4 (.int .i64 3)
        replace r3 := r3.set 4 (.int .i64 3)
        simp only [List.setIfInBounds_toArray, List.set_cons_zero, List.set_cons_succ] at r3
        replace kp := kp.set (show w.heap.size ≤ w.heap.size + 1 by omega) hlt 4 (.int .i64 3)
        generalize W9.setCell ⟨w.heap.size + 1, 4, none⟩ (.int .i64 3) = U9 at rp r2 r3 rs kp ⊢
        rw [rounds_succ]
        go_wp2_with fail
        go_meet
        exact ⟨3, rp, r2, r3, rs, kp, .inr ⟨by decide, rfl⟩⟩
      have f1 : (([99, 108, 111, 115, 101] : List UInt8) == x3) = false := by rw [beq_eq_false_iff_ne]; exact fun e => q1 e.symm
      have f2 : (([101, 120, 112, 105, 114, 121] : List UInt8) == x3) = false := by rw [beq_eq_false_iff_ne]; exact fun e => q2 e.symm
      have f3 : (([99, 111, 108, 108, 101, 99, 116] : List UInt8) == x3) = false := by rw [beq_eq_false_iff_ne]; exact fun e => q3 e.symm
      have Q := Lib.hid (show x3 ≠ whL 1 ∧ x3 ≠ whL 2 ∧ x3 ≠ whL 3 from ⟨q1, q2, q3⟩)
      clear q1 q2 q3
      go_wp2_with fail
      refine wp_loop_rounds 5 ?_
      rw [rounds_succ]
      go_wp2_with fail
      rw [rounds_succ]
      go_wp2_with fail
      rw [rounds_succ]
      go_wp2_with fail
      rw [rounds_succ]
      go_wp2_with fail
      rw [rounds_succ]
      go_wp2_with fail
      go_meet
      exact ⟨0, rp, r2, r3, rs, kp, .inl ⟨rfl, Q.out⟩⟩
    obtain ⟨wy, rp, r2, r3, rs, kp, hw⟩ := hcut
    have hl3' : l2 = x3 ++ 32 :: l3 := by simpa using hl3
    have hs3 := sz_of hs2 hl3
    clear hl3
    go_wp2_with fail
    refine Calls.mono (number_both p _ w0 wc hE0 (kp.below _ _ hp hB) hp hs3 rp) ?_
    rintro e W10 (⟨n, l4, hn4, rfl, m10⟩ | ⟨hno, rfl, k10⟩)
    case' inr =>
      go_wp2_with fail
      exact bad_end (kp.trans k10) (fun k i g st wy tr nx tag h => no_n h hx1 hl1 (st0 := 2) (by decide) hl2' hx3 hl3' hno) _ rfl
    have hs4 := sz_n hs3 hn4
    rw [of_list] at hn4
    replace rp := m10.row
    replace r2 := m10.keep _ _ _ (by omega) r2
    replace r3 := m10.keep _ _ _ (by omega) r3
    replace rs := m10.keep _ _ _ (by omega) rs
    replace kp := kp.trans m10.kp
    clear m10
    by_cases hm : n ≤ 10000
    rotate_left
    · have e1 : decide (n ≤ 10000) = false := decide_eq_false hm
      go_wp2_with fail
      refine Calls.mono (need_f _) ?_
      rintro e W11 ⟨rfl, rfl⟩
      go_wp2_with fail
      exact bad_end kp (fun k i g st wy tr nx tag h => no_big h hx1 hl1 (st0 := 2) (by decide) hl2' hx3 hl3' hn4 (by omega)) _ rfl
    have e1 : decide (n ≤ 10000) = true := decide_eq_true hm
    go_wp2_with fail
    refine Calls.mono (need_t _) ?_
    rintro e W11 ⟨rfl, rfl⟩
    have y0 := r3.cell
    have y1 := r3.lt
    have y2 := r3.free
    have y3 := rs.cell
    have y4 := rs.lt
    have y5 := rp.cell
    have y6 := rp.lt
    go_upto_region 25 with fail
    clear y0 y1 y2 y3 y4 y5 y6
    replace rp := rp.other (show w.heap.size + 1 ≠ p by omega) 5 (.int .i64 n)
    replace r2 := r2.other (show w.heap.size + 1 ≠ w.heap.size by omega) 5 (.int .i64 n)
    replace rs := rs.other (show w.heap.size + 1 ≠ b by omega) 5 (.int .i64 n)
    replace r3 := r3.set 5 (.int .i64 n)
    simp only [List.setIfInBounds_toArray, List.set_cons_zero, List.set_cons_succ] at r3
    replace kp := kp.set (show w.heap.size ≤ w.heap.size + 1 by omega) hlt 5 (.int .i64 n)
    generalize W11.setCell ⟨w.heap.size + 1, 5, none⟩ (.int .i64 n) = W12 at rp r2 r3 rs kp ⊢
    have y0 := r3.cell
    have y1 := r3.lt
    have y2 := r3.free
    have y3 := rs.cell
    have y4 := rs.lt
    have y5 := rp.cell
    have y6 := rp.lt
    go_wp2_with fail
    clear y0 y1 y2 y3 y4 y5 y6
    refine Calls.mono (number_both p _ w0 W12 hE0 (kp.below _ _ hp hB) hp hs4 rp) ?_
    rintro e W13 (⟨m, l5, hn5, rfl, m13⟩ | ⟨hno, rfl, k13⟩)
    case' inr =>
      go_wp2_with fail
      exact bad_end (kp.trans k13) (fun k i g st wy tr nx tag h => no_n2 h hx1 hl1 hl2' hx3 hl3' hn4 hno) _ rfl
    have hs5 := sz_n hs4 hn5
    rw [of_list] at hn5
    replace rp := m13.row
    replace r2 := m13.keep _ _ _ (by omega) r2
    replace r3 := m13.keep _ _ _ (by omega) r3
    replace rs := m13.keep _ _ _ (by omega) rs
    replace kp := kp.trans m13.kp
    clear m13
    have y0 := r3.cell
    have y1 := r3.lt
    have y2 := r3.free
    have y3 := rs.cell
    have y4 := rs.lt
    have y5 := rp.cell
    have y6 := rp.lt
    go_upto_region 27 with fail
    clear y0 y1 y2 y3 y4 y5 y6
    replace rp := rp.other (show w.heap.size + 1 ≠ p by omega) 6 (.int .i64 m)
    replace r2 := r2.other (show w.heap.size + 1 ≠ w.heap.size by omega) 6 (.int .i64 m)
    replace rs := rs.other (show w.heap.size + 1 ≠ b by omega) 6 (.int .i64 m)
    replace r3 := r3.set 6 (.int .i64 m)
    simp only [List.setIfInBounds_toArray, List.set_cons_zero, List.set_cons_succ] at r3
    replace kp := kp.set (show w.heap.size ≤ w.heap.size + 1 by omega) hlt 6 (.int .i64 m)
    generalize W13.setCell ⟨w.heap.size + 1, 6, none⟩ (.int .i64 m) = W14 at rp r2 r3 rs kp ⊢
    have hR := rd_two hD hx1 hl1 hl2' hx3 hl3' hw hn4 hn5
    have hsX := hs5
    have y0 := r3.cell
    have y1 := r3.lt
    have y2 := r3.free
    have y3 := rs.cell
    have y4 := rs.lt
    have y5 := rp.cell
    have y6 := rp.lt
    have TU := fun W => Lib.hid (tunq_c ⟨l5.toArray⟩ W (by omega))
    simp only [of_list, unqV] at TU
    have hu := unq_split l5
    rcases hu with ⟨xt, n0, e0, hu, f0, hno⟩ | ⟨xt, n0, hu, hne, hno⟩ | ⟨xt, hu, hq⟩
    · rw [hu] at TU
      dsimp only at TU
      go_wp2_with fail
      refine Calls.mono (TU _).out ?_
      rintro e W20 ⟨rfl, hn⟩
      clear y0 y1 y2 y3 y4 y5 y6
      replace rp := rp.on hn
      replace r2 := r2.on hn
      replace r3 := r3.on hn
      replace rs := rs.on hn
      replace kp := kp.on hlt hn
      clear hn TU
      have y0 := r3.cell
      have y1 := r3.lt
      have y2 := r3.free
      have y3 := rs.cell
      have y4 := rs.lt
      have y5 := rp.cell
      have y6 := rp.lt
      go_wp2_with fail
      clear y0 y1 y2 y3 y4 y5 y6
      refine Calls.mono (need_f _) ?_
      rintro e W21 ⟨rfl, rfl⟩
      go_wp2_with fail
      exact bad_end kp (fun k i g st wy tr nx tag h => rd_not hR (fun tag hq ht _ => hno _ ht hq) k i g st wy tr nx tag h) _ rfl
    · have f0 : ((n0 : Int) == (l5.length : Int)) = false := by rw [beq_eq_false_iff_ne]; omega
      rw [hu] at TU
      dsimp only at TU
      go_wp2_with fail
      refine Calls.mono (TU _).out ?_
      rintro e W20 ⟨rfl, hn⟩
      clear y0 y1 y2 y3 y4 y5 y6
      replace rp := rp.on hn
      replace r2 := r2.on hn
      replace r3 := r3.on hn
      replace rs := rs.on hn
      replace kp := kp.on hlt hn
      clear hn TU
      have y0 := r3.cell
      have y1 := r3.lt
      have y2 := r3.free
      have y3 := rs.cell
      have y4 := rs.lt
      have y5 := rp.cell
      have y6 := rp.lt
      go_wp2_with fail
      clear y0 y1 y2 y3 y4 y5 y6
      refine Calls.mono (need_f _) ?_
      rintro e W21 ⟨rfl, rfl⟩
      go_wp2_with fail
      exact bad_end kp (fun k i g st wy tr nx tag h => rd_not hR (fun tag hq ht _ => hno _ ht hq) k i g st wy tr nx tag h) _ rfl
    · have f0 : ((l5.length : Int) == (l5.length : Int)) = true := by rw [beq_iff_eq]
      have htl : (⟨xt.toArray⟩ : ByteArray).size ≤ 1000000 := by have := unqL_len l5; rw [hu] at this; rw [← len_bytes, of_list] at hsX ⊢; dsimp only at this; omega
      rw [hu] at TU
      dsimp only at TU
      go_wp2_with fail
      refine Calls.mono (TU _).out ?_
      rintro e W20 ⟨rfl, hn⟩
      clear y0 y1 y2 y3 y4 y5 y6
      replace rp := rp.on hn
      replace r2 := r2.on hn
      replace r3 := r3.on hn
      replace rs := rs.on hn
      replace kp := kp.on hlt hn
      clear hn TU
      have y0 := r3.cell
      have y1 := r3.lt
      have y2 := r3.free
      have y3 := rs.cell
      have y4 := rs.lt
      have y5 := rp.cell
      have y6 := rp.lt
      go_wp2_with fail
      clear y0 y1 y2 y3 y4 y5 y6
      refine Calls.mono (need_t _) ?_
      rintro e W21 ⟨rfl, rfl⟩
      have y0 := r3.cell
      have y1 := r3.lt
      have y2 := r3.free
      have y3 := rs.cell
      have y4 := rs.lt
      have y5 := rp.cell
      have y6 := rp.lt
      go_upto_region 30 with fail
      clear y0 y1 y2 y3 y4 y5 y6
      replace rp := rp.other (show w.heap.size + 1 ≠ p by omega) 7 (.string ⟨xt.toArray⟩)
      replace r2 := r2.other (show w.heap.size + 1 ≠ w.heap.size by omega) 7 (.string ⟨xt.toArray⟩)
      replace rs := rs.other (show w.heap.size + 1 ≠ b by omega) 7 (.string ⟨xt.toArray⟩)
      replace r3 := r3.set 7 (.string ⟨xt.toArray⟩)
      simp only [List.setIfInBounds_toArray, List.set_cons_zero, List.set_cons_succ] at r3
      replace kp := kp.set (show w.heap.size ≤ w.heap.size + 1 by omega) hlt 7 (.string ⟨xt.toArray⟩)
      generalize W21.setCell ⟨w.heap.size + 1, 7, none⟩ (.string ⟨xt.toArray⟩) = W22 at rp r2 r3 rs kp ⊢
      have EC := fun W => Lib.hid (rerr_c k i g 2 wy n m ⟨xt.toArray⟩ W hD.g0 hD.gm htl)
      by_cases he : rErr k i g 2 wy n m ⟨xt.toArray⟩ = 0
      · rw [he] at EC
        have y0 := r3.cell
        have y1 := r3.lt
        have y2 := r3.free
        have y3 := rs.cell
        have y4 := rs.lt
        have y5 := rp.cell
        have y6 := rp.lt
        go_wp2_with fail
        refine Calls.mono (EC _).out ?_
        rintro e W23 ⟨rfl, hn⟩
        clear y0 y1 y2 y3 y4 y5 y6
        replace rp := rp.on hn
        replace r2 := r2.on hn
        replace r3 := r3.on hn
        replace rs := rs.on hn
        replace kp := kp.on hlt hn
        clear hn EC
        go_wp2_with fail
        refine Calls.mono (need_t _) ?_
        rintro e W24 ⟨rfl, rfl⟩
        have y0 := r3.cell
        have y1 := r3.lt
        have y2 := r3.free
        have y3 := rs.cell
        have y4 := rs.lt
        have y5 := rp.cell
        have y6 := rp.lt
        have y7 := r2.cell
        have y8 := r2.lt
        have y9 := r2.free
        go_wp2_with fail
        clear y0 y1 y2 y3 y4 y5 y6
        clear y7 y8 y9 r3 rs rp
        replace r2 := r2.set 0 (.int .i64 k)
        replace r2 := r2.set 1 (.int .i64 i)
        replace r2 := r2.set 2 (.int .u32 g)
        replace r2 := r2.set 3 (.int .i64 2)
        replace r2 := r2.set 4 (.int .i64 wy)
        replace r2 := r2.set 5 (.int .i64 n)
        replace r2 := r2.set 6 (.int .i64 m)
        replace r2 := r2.set 7 (.string ⟨xt.toArray⟩)
        replace kp := kp.set (Nat.le_refl w.heap.size) hlt 0 (.int .i64 k)
        replace kp := kp.set (Nat.le_refl w.heap.size) hlt 1 (.int .i64 i)
        replace kp := kp.set (Nat.le_refl w.heap.size) hlt 2 (.int .u32 g)
        replace kp := kp.set (Nat.le_refl w.heap.size) hlt 3 (.int .i64 2)
        replace kp := kp.set (Nat.le_refl w.heap.size) hlt 4 (.int .i64 wy)
        replace kp := kp.set (Nat.le_refl w.heap.size) hlt 5 (.int .i64 n)
        replace kp := kp.set (Nat.le_refl w.heap.size) hlt 6 (.int .i64 m)
        replace kp := kp.set (Nat.le_refl w.heap.size) hlt 7 (.string ⟨xt.toArray⟩)
        simp only [List.setIfInBounds_toArray, List.set_cons_zero, List.set_cons_succ] at r2
        generalize hW : World.setCell _ _ _ = V at *
        clear hW
        have y0 := r2.cell
        refine bodyPost_ret (v := rV k i g 2 wy n m ⟨xt.toArray⟩) (by simp [results, Tryz.results33, go_sem, y0]) rfl ⟨kp, .inl ⟨k, i, g, 2, wy, n, m, ⟨xt.toArray⟩, rd_is hR hD.g0 hD.gm (by rw [of_list]; exact hq) he, rfl⟩⟩
      · have f1 : (rErr k i g 2 wy n m ⟨xt.toArray⟩ == 0) = false := by rw [beq_eq_false_iff_ne]; exact he
        have hno : ∀ tag : ByteArray, quoteL tag.data.toList = l5 → tagOk tag.data.toList = true → rErr k i g 2 wy n m tag ≠ 0 := fun tag h1 _ => by
          have : tag = ⟨xt.toArray⟩ := str_ext (by rw [of_list]; exact quoteL_inj (by rw [h1, hq]))
          rw [this]; exact he
        have y0 := r3.cell
        have y1 := r3.lt
        have y2 := r3.free
        have y3 := rs.cell
        have y4 := rs.lt
        have y5 := rp.cell
        have y6 := rp.lt
        go_wp2_with fail
        refine Calls.mono (EC _).out ?_
        rintro e W23 ⟨rfl, hn⟩
        clear y0 y1 y2 y3 y4 y5 y6
        replace kp := kp.on hlt hn
        clear hn EC
        go_wp2_with fail
        refine Calls.mono (need_f _) ?_
        rintro e W24 ⟨rfl, rfl⟩
        go_wp2_with fail
        exact bad_end kp (fun k i g st wy tr nx tag h => rd_not hR hno k i g st wy tr nx tag h) _ rfl
  · go_wp2_with fail
    refine Calls.mono (need_t _) ?_
    rintro e W7 ⟨rfl, rfl⟩
    clear y0 y1
    have hix := shIdx3
    go_upto_region 13 with fail
    go_cut [8] (fun v wx => ∃ b, v = .pointer (some ⟨b, 0, none⟩) ∧ Row wx p #[.string ⟨l2.toArray⟩] 76 ∧ Row wx w.heap.size zRow 27 ∧ Row wx (w.heap.size + 1) (rC k i g 3 0 0 0 ⟨#[]⟩) 27 ∧ Row wx b #[.string sRele, .int .i64 3, .bool false] 61 ∧ Kp p w wx ∧ w.heap.size + 1 < b)
    case first =>
      refine wp_region_held_drew (S := fun W' => (∀ j, W'.cell? ⟨w.heap.size + 1, j, none⟩ = (rC k i g 3 0 0 0 ⟨#[]⟩)[j]?)) (by kernel_rfl) r3.cell (fun hHeld => ?_)
      replace rp := rp.drew
      replace r2 := r2.drew
      replace r3 := r3.drew
      replace kp := kp.drew
      generalize W7.drew = X_0 at *
      refine' wpAnyH_take (i := 1) (oi := _) (v := _) ?_ (by kernel_rfl) (by kernel_rfl) (by kernel_rfl) ?_ (Or.inl ⟨?_, ?_⟩) (by assumption) ?_
      rotate_left 2
      · (simp only [List.getElem?_toArray, List.getElem?_cons_succ, List.getElem?_cons_zero]; rfl)
      · first | exact fun _ _ _ h => h | exact fun _ _ _ h => nomatch h.1
      · rfl
      · (intro W hSW; (try dsimp only at hSW); go_split_ands; first | (go_simp; done) | (go_simp; with_reducible rfl))
      try simp only [Act.put, List.setIfInBounds_toArray, List.set_cons_zero, List.set_cons_succ]
      refine' wpAnyH_take (i := 2) (oi := _) (v := _) ?_ (by kernel_rfl) (by kernel_rfl) (by kernel_rfl) ?_ (Or.inl ⟨?_, ?_⟩) (by assumption) ?_
      rotate_left 2
      · (simp only [List.getElem?_toArray, List.getElem?_cons_succ, List.getElem?_cons_zero]; rfl)
      · first | exact fun _ _ _ h => h | exact fun _ _ _ h => nomatch h.1
      · rfl
      · (intro W hSW; (try dsimp only at hSW); go_split_ands; first | (go_simp; done) | (go_simp; with_reducible rfl))
      try simp only [Act.put, List.setIfInBounds_toArray, List.set_cons_zero, List.set_cons_succ]
      clear hHeld
      refine wpAnyH_ready (rs := [0, 4]) (by kernel_rfl) (by simp) ?_
      refine' AllReadyH.cons (o := _) (by simp only [List.getElem?_toArray, List.getElem?_cons_succ, List.getElem?_cons_zero]; rfl) (fun K hK => ?_) (AllReadyH.cons (o := _) (by simp only [List.getElem?_toArray, List.getElem?_cons_succ, List.getElem?_cons_zero]; rfl) (fun K hK => ?_) AllReadyH.nil)
      · go_simp
        refine Calls.mono (shapes_c _) ?_
        rintro e X_1 ⟨rfl, hn⟩
        replace rp := rp.on hn
        replace r2 := r2.on hn
        replace r3 := r3.on hn
        replace kp := kp.on hlt hn
        clear hn
        go_simp
        refine hK.out _ _ r3.cell (fun hHeld => ?_)
        clear hK K
        refine' wpAnyH_take (i := 3) (oi := _) (v := _) ?_ (by kernel_rfl) (by kernel_rfl) (by kernel_rfl) ?_ (Or.inl ⟨?_, ?_⟩) (by assumption) ?_
        rotate_left 2
        · (simp only [List.getElem?_toArray, List.getElem?_cons_succ, List.getElem?_cons_zero]; rfl)
        · first | exact fun _ _ _ h => h | exact fun _ _ _ h => nomatch h.1
        · rfl
        · (intro W hSW; (try dsimp only at hSW); go_split_ands; first | (go_simp; done) | (go_simp; with_reducible rfl))
        try simp only [Act.put, List.setIfInBounds_toArray, List.set_cons_zero, List.set_cons_succ]
        clear hHeld
        refine wpAnyH_ready (rs := [4]) (by kernel_rfl) (by simp) ?_
        refine' AllReadyH.cons (o := _) ?_ (fun K hK => ?_) AllReadyH.nil
        rotate_left 1
        · (simp only [List.getElem?_toArray, List.getElem?_cons_succ, List.getElem?_cons_zero]; rfl)
        go_simp
        have rs := Row.new (W := X_1) (cs := #[.string ⟨#[]⟩, .int .i64 0, .bool false]) (t := 61)
        have hb1 : w.heap.size + 1 < X_1.heap.size := r3.lt
        have hb2 : X_1.heap.size ≠ p := Nat.ne_of_gt rp.lt
        replace rp := rp.on (below_alloc X_1 (.cells #[.string ⟨#[]⟩, .int .i64 0, .bool false] 61))
        replace r2 := r2.on (below_alloc X_1 (.cells #[.string ⟨#[]⟩, .int .i64 0, .bool false] 61))
        replace r3 := r3.on (below_alloc X_1 (.cells #[.string ⟨#[]⟩, .int .i64 0, .bool false] 61))
        replace kp := kp.on hlt (below_alloc X_1 (.cells #[.string ⟨#[]⟩, .int .i64 0, .bool false] 61))
        generalize X_1.alloc (.cells #[.string ⟨#[]⟩, .int .i64 0, .bool false] 61) = X_2 at rs rp r2 r3 kp ⊢
        generalize X_1.heap.size = b at *
        refine hK.out _ _ r3.cell (fun _ => ?_)
        clear hK K
        have y0 := rs.cell
        have y1 := rs.free
        have y2 := rs.lt
        refine wpAnyH_ready (rs := [5]) (by kernel_rfl) (by simp) ?_
        refine' AllReadyH.cons (o := _) ?_ (fun K hK => ?_) AllReadyH.nil
        rotate_left 1
        · (simp only [List.getElem?_toArray, List.getElem?_cons_succ, List.getElem?_cons_zero]; rfl)
        go_simp
        clear y0 y1 y2
        replace rp := ((rp.other (show b ≠ p by omega) 0 (.string sRele)).other (show b ≠ p by omega) 1 (.int .i64 3)).other (show b ≠ p by omega) 2 (.bool false)
        replace r2 := ((r2.other (show b ≠ w.heap.size by omega) 0 (.string sRele)).other (show b ≠ w.heap.size by omega) 1 (.int .i64 3)).other (show b ≠ w.heap.size by omega) 2 (.bool false)
        replace r3 := ((r3.other (show b ≠ w.heap.size + 1 by omega) 0 (.string sRele)).other (show b ≠ w.heap.size + 1 by omega) 1 (.int .i64 3)).other (show b ≠ w.heap.size + 1 by omega) 2 (.bool false)
        replace rs := ((rs.set 0 (.string sRele)).set 1 (.int .i64 3)).set 2 (.bool false)
        replace kp := ((kp.set (show w.heap.size ≤ b by omega) hlt 0 (.string sRele)).set (show w.heap.size ≤ b by omega) hlt 1 (.int .i64 3)).set (show w.heap.size ≤ b by omega) hlt 2 (.bool false)
        simp only [List.setIfInBounds_toArray, List.set_cons_zero, List.set_cons_succ] at rs
        generalize hW : World.setCell _ _ _ = V at *
        clear hW
        refine hK.out _ _ r3.cell (fun _ => ?_)
        clear hK K
        refine wpAnyH_done (by kernel_rfl) ?_ _
        go_wp2_with fail
        go_meet
        exact ⟨b, rfl, rp, r2, r3, rs, kp, hb1⟩
      · go_simp
        have rs := Row.new (W := X_0) (cs := #[.string ⟨#[]⟩, .int .i64 0, .bool false]) (t := 61)
        have hb1 : w.heap.size + 1 < X_0.heap.size := r3.lt
        have hb2 : X_0.heap.size ≠ p := Nat.ne_of_gt rp.lt
        replace rp := rp.on (below_alloc X_0 (.cells #[.string ⟨#[]⟩, .int .i64 0, .bool false] 61))
        replace r2 := r2.on (below_alloc X_0 (.cells #[.string ⟨#[]⟩, .int .i64 0, .bool false] 61))
        replace r3 := r3.on (below_alloc X_0 (.cells #[.string ⟨#[]⟩, .int .i64 0, .bool false] 61))
        replace kp := kp.on hlt (below_alloc X_0 (.cells #[.string ⟨#[]⟩, .int .i64 0, .bool false] 61))
        generalize X_0.alloc (.cells #[.string ⟨#[]⟩, .int .i64 0, .bool false] 61) = X_2 at rs rp r2 r3 kp ⊢
        generalize X_0.heap.size = b at *
        refine hK.out _ _ r3.cell (fun _ => ?_)
        clear hK K
        refine wpAnyH_ready (rs := [0]) (by kernel_rfl) (by simp) ?_
        refine' AllReadyH.cons (o := _) ?_ (fun K hK => ?_) AllReadyH.nil
        rotate_left 1
        · (simp only [List.getElem?_toArray, List.getElem?_cons_succ, List.getElem?_cons_zero]; rfl)
        go_simp
        refine Calls.mono (shapes_c _) ?_
        rintro e X_3 ⟨rfl, hn⟩
        replace rp := rp.on hn
        replace r2 := r2.on hn
        replace r3 := r3.on hn
        replace kp := kp.on hlt hn
        replace rs := rs.on hn
        clear hn
        refine hK.out _ _ r3.cell (fun hHeld => ?_)
        clear hK K
        refine' wpAnyH_take (i := 3) (oi := _) (v := _) ?_ (by kernel_rfl) (by kernel_rfl) (by kernel_rfl) ?_ (Or.inl ⟨?_, ?_⟩) (by assumption) ?_
        rotate_left 2
        · (simp only [List.getElem?_toArray, List.getElem?_cons_succ, List.getElem?_cons_zero]; rfl)
        · first | exact fun _ _ _ h => h | exact fun _ _ _ h => nomatch h.1
        · rfl
        · (intro W hSW; (try dsimp only at hSW); go_split_ands; first | (go_simp; done) | (go_simp; with_reducible rfl))
        try simp only [Act.put, List.setIfInBounds_toArray, List.set_cons_zero, List.set_cons_succ]
        clear hHeld
        have y0 := rs.cell
        have y1 := rs.free
        have y2 := rs.lt
        refine wpAnyH_ready (rs := [5]) (by kernel_rfl) (by simp) ?_
        refine' AllReadyH.cons (o := _) ?_ (fun K hK => ?_) AllReadyH.nil
        rotate_left 1
        · (simp only [List.getElem?_toArray, List.getElem?_cons_succ, List.getElem?_cons_zero]; rfl)
        go_simp
        clear y0 y1 y2
        replace rp := ((rp.other (show b ≠ p by omega) 0 (.string sRele)).other (show b ≠ p by omega) 1 (.int .i64 3)).other (show b ≠ p by omega) 2 (.bool false)
        replace r2 := ((r2.other (show b ≠ w.heap.size by omega) 0 (.string sRele)).other (show b ≠ w.heap.size by omega) 1 (.int .i64 3)).other (show b ≠ w.heap.size by omega) 2 (.bool false)
        replace r3 := ((r3.other (show b ≠ w.heap.size + 1 by omega) 0 (.string sRele)).other (show b ≠ w.heap.size + 1 by omega) 1 (.int .i64 3)).other (show b ≠ w.heap.size + 1 by omega) 2 (.bool false)
        replace rs := ((rs.set 0 (.string sRele)).set 1 (.int .i64 3)).set 2 (.bool false)
        replace kp := ((kp.set (show w.heap.size ≤ b by omega) hlt 0 (.string sRele)).set (show w.heap.size ≤ b by omega) hlt 1 (.int .i64 3)).set (show w.heap.size ≤ b by omega) hlt 2 (.bool false)
        simp only [List.setIfInBounds_toArray, List.set_cons_zero, List.set_cons_succ] at rs
        generalize hW : World.setCell _ _ _ = V at *
        clear hW
        refine hK.out _ _ r3.cell (fun _ => ?_)
        clear hK K
        refine wpAnyH_done (by kernel_rfl) ?_ _
        go_wp2_with fail
        go_meet
        exact ⟨b, rfl, rp, r2, r3, rs, kp, hb1⟩
    obtain ⟨b, rfl, rp, r2, r3, rs, kp, hb⟩ := hcut
    have y0 := r3.cell
    have y1 := r3.lt
    have y2 := r3.free
    have y3 := rs.cell
    have y4 := rs.lt
    have y5 := rp.cell
    have y6 := rp.lt
    go_wp2_with fail
    clear y0 y1 y2 y3 y4 y5 y6
    refine Calls.mono (word_both p _ wc (hE0.on (kp.below _ _ hp hB)).toEnv hs2 rp) ?_
    rintro e W8 (⟨x3, l3, hx3, hl3, rfl, m8⟩ | ⟨hno, rfl, k8⟩)
    case' inr =>
      go_wp2_with fail
      exact bad_end (kp.trans k8) (fun k i g st wy tr nx tag h => no_w h hx1 hl1 (st0 := 3) (by decide) hl2' hno) _ rfl
    replace rp := m8.row
    replace r2 := m8.keep _ _ _ (by omega) r2
    replace r3 := m8.keep _ _ _ (by omega) r3
    replace rs := m8.keep _ _ _ (by omega) rs
    replace kp := kp.trans m8.kp
    clear m8
    go_wp2_with fail
    refine Calls.mono (reasons_c _) ?_
    rintro e W9 ⟨rfl, hn⟩
    replace rp := rp.on hn
    replace r2 := r2.on hn
    replace r3 := r3.on hn
    replace rs := rs.on hn
    replace kp := kp.on hlt hn
    clear hn
    go_upto_block 2 with (fail)
    go_cut [] (fun wx => ∃ wy : Int, Row wx p #[.string ⟨l3.toArray⟩] 76 ∧ Row wx w.heap.size zRow 27 ∧ Row wx (w.heap.size + 1) (rC k i g 3 wy 0 0 ⟨#[]⟩) 27 ∧ Row wx b #[.string sRele, .int .i64 3, .bool false] 61 ∧ Kp p w wx ∧ ((wy = 0 ∧ x3 ≠ whL 1 ∧ x3 ≠ whL 2 ∧ x3 ≠ whL 3) ∨ ((wy = 1 ∨ wy = 2 ∨ wy = 3) ∧ x3 = whL wy)))
    case first =>
      have rx0 := reIdx0
      have rx1 := reIdx1
      have rx2 := reIdx2
      have rx3 := reIdx3
      have y0 := r3.cell
      have y1 := r3.lt
      have y2 := r3.free
      have y3 := rs.cell
      have y4 := rs.lt
      have y5 := rp.cell
      have y6 := rp.lt
      by_cases q1 : x3 = [99, 108, 111, 115, 101]
      · subst q1
        go_wp2_with fail
        refine wp_loop_rounds 5 ?_
        rw [rounds_succ]
        go_wp2_with fail
        rw [rounds_succ]
        go_wp2_with fail
        clear y0 y1 y2 y3 y4 y5 y6
        replace rp := rp.other (show w.heap.size + 1 ≠ p by omega) 4 (.int .i64 1)
        replace r2 := r2.other (show w.heap.size + 1 ≠ w.heap.size by omega) 4 (.int .i64 1)
        replace rs := rs.other (show w.heap.size + 1 ≠ b by omega) 4 (.int .i64 1)
        replace r3 := r3.set 4 (.int .i64 1)
        simp only [List.setIfInBounds_toArray, List.set_cons_zero, List.set_cons_succ] at r3
        replace kp := kp.set (show w.heap.size ≤ w.heap.size + 1 by omega) hlt 4 (.int .i64 1)
        generalize W9.setCell ⟨w.heap.size + 1, 4, none⟩ (.int .i64 1) = U9 at rp r2 r3 rs kp ⊢
        rw [rounds_succ]
        go_wp2_with fail
        rw [rounds_succ]
        go_wp2_with fail
        rw [rounds_succ]
        go_wp2_with fail
        go_meet
        exact ⟨1, rp, r2, r3, rs, kp, .inr ⟨by decide, rfl⟩⟩
      by_cases q2 : x3 = [101, 120, 112, 105, 114, 121]
      · subst q2
        go_wp2_with fail
        refine wp_loop_rounds 5 ?_
        rw [rounds_succ]
        go_wp2_with fail
        rw [rounds_succ]
        go_wp2_with fail
        rw [rounds_succ]
        go_wp2_with fail
        clear y0 y1 y2 y3 y4 y5 y6
        replace rp := rp.other (show w.heap.size + 1 ≠ p by omega) 4 (.int .i64 2)
        replace r2 := r2.other (show w.heap.size + 1 ≠ w.heap.size by omega) 4 (.int .i64 2)
        replace rs := rs.other (show w.heap.size + 1 ≠ b by omega) 4 (.int .i64 2)
        replace r3 := r3.set 4 (.int .i64 2)
        simp only [List.setIfInBounds_toArray, List.set_cons_zero, List.set_cons_succ] at r3
        replace kp := kp.set (show w.heap.size ≤ w.heap.size + 1 by omega) hlt 4 (.int .i64 2)
        generalize W9.setCell ⟨w.heap.size + 1, 4, none⟩ (.int .i64 2) = U9 at rp r2 r3 rs kp ⊢
        rw [rounds_succ]
        go_wp2_with fail
        rw [rounds_succ]
        go_wp2_with fail
        go_meet
        exact ⟨2, rp, r2, r3, rs, kp, .inr ⟨by decide, rfl⟩⟩
      by_cases q3 : x3 = [99, 111, 108, 108, 101, 99, 116]
      · subst q3
        go_wp2_with fail
        refine wp_loop_rounds 5 ?_
        rw [rounds_succ]
        go_wp2_with fail
        rw [rounds_succ]
        go_wp2_with fail
        rw [rounds_succ]
        go_wp2_with fail
        rw [rounds_succ]
        go_wp2_with fail
        clear y0 y1 y2 y3 y4 y5 y6
        replace rp := rp.other (show w.heap.size + 1 ≠ p by omega) 4 (.int .i64 3)
        replace r2 := r2.other (show w.heap.size + 1 ≠ w.heap.size by omega) 4 (.int .i64 3)
        replace rs := rs.other (show w.heap.size + 1 ≠ b by omega) 4 (.int .i64 3)
        replace r3 := r3.set 4 (.int .i64 3)
        simp only [List.setIfInBounds_toArray, List.set_cons_zero, List.set_cons_succ] at r3
        replace kp := kp.set (show w.heap.size ≤ w.heap.size + 1 by omega) hlt 4 (.int .i64 3)
        generalize W9.setCell ⟨w.heap.size + 1, 4, none⟩ (.int .i64 3) = U9 at rp r2 r3 rs kp ⊢
        rw [rounds_succ]
        go_wp2_with fail
        go_meet
        exact ⟨3, rp, r2, r3, rs, kp, .inr ⟨by decide, rfl⟩⟩
      have f1 : (([99, 108, 111, 115, 101] : List UInt8) == x3) = false := by rw [beq_eq_false_iff_ne]; exact fun e => q1 e.symm
      have f2 : (([101, 120, 112, 105, 114, 121] : List UInt8) == x3) = false := by rw [beq_eq_false_iff_ne]; exact fun e => q2 e.symm
      have f3 : (([99, 111, 108, 108, 101, 99, 116] : List UInt8) == x3) = false := by rw [beq_eq_false_iff_ne]; exact fun e => q3 e.symm
      have Q := Lib.hid (show x3 ≠ whL 1 ∧ x3 ≠ whL 2 ∧ x3 ≠ whL 3 from ⟨q1, q2, q3⟩)
      clear q1 q2 q3
      go_wp2_with fail
      refine wp_loop_rounds 5 ?_
      rw [rounds_succ]
      go_wp2_with fail
      rw [rounds_succ]
      go_wp2_with fail
      rw [rounds_succ]
      go_wp2_with fail
      rw [rounds_succ]
      go_wp2_with fail
      rw [rounds_succ]
      go_wp2_with fail
      go_meet
      exact ⟨0, rp, r2, r3, rs, kp, .inl ⟨rfl, Q.out⟩⟩
    obtain ⟨wy, rp, r2, r3, rs, kp, hw⟩ := hcut
    have hl3' : l2 = x3 ++ 32 :: l3 := by simpa using hl3
    have hs3 := sz_of hs2 hl3
    clear hl3
    go_wp2_with fail
    refine Calls.mono (number_both p _ w0 wc hE0 (kp.below _ _ hp hB) hp hs3 rp) ?_
    rintro e W10 (⟨n, l4, hn4, rfl, m10⟩ | ⟨hno, rfl, k10⟩)
    case' inr =>
      go_wp2_with fail
      exact bad_end (kp.trans k10) (fun k i g st wy tr nx tag h => no_n h hx1 hl1 (st0 := 3) (by decide) hl2' hx3 hl3' hno) _ rfl
    have hs4 := sz_n hs3 hn4
    rw [of_list] at hn4
    replace rp := m10.row
    replace r2 := m10.keep _ _ _ (by omega) r2
    replace r3 := m10.keep _ _ _ (by omega) r3
    replace rs := m10.keep _ _ _ (by omega) rs
    replace kp := kp.trans m10.kp
    clear m10
    by_cases hm : n ≤ 10000
    rotate_left
    · have e1 : decide (n ≤ 10000) = false := decide_eq_false hm
      go_wp2_with fail
      refine Calls.mono (need_f _) ?_
      rintro e W11 ⟨rfl, rfl⟩
      go_wp2_with fail
      exact bad_end kp (fun k i g st wy tr nx tag h => no_big h hx1 hl1 (st0 := 3) (by decide) hl2' hx3 hl3' hn4 (by omega)) _ rfl
    have e1 : decide (n ≤ 10000) = true := decide_eq_true hm
    go_wp2_with fail
    refine Calls.mono (need_t _) ?_
    rintro e W11 ⟨rfl, rfl⟩
    have y0 := r3.cell
    have y1 := r3.lt
    have y2 := r3.free
    have y3 := rs.cell
    have y4 := rs.lt
    have y5 := rp.cell
    have y6 := rp.lt
    go_upto_region 25 with fail
    clear y0 y1 y2 y3 y4 y5 y6
    replace rp := rp.other (show w.heap.size + 1 ≠ p by omega) 5 (.int .i64 n)
    replace r2 := r2.other (show w.heap.size + 1 ≠ w.heap.size by omega) 5 (.int .i64 n)
    replace rs := rs.other (show w.heap.size + 1 ≠ b by omega) 5 (.int .i64 n)
    replace r3 := r3.set 5 (.int .i64 n)
    simp only [List.setIfInBounds_toArray, List.set_cons_zero, List.set_cons_succ] at r3
    replace kp := kp.set (show w.heap.size ≤ w.heap.size + 1 by omega) hlt 5 (.int .i64 n)
    generalize W11.setCell ⟨w.heap.size + 1, 5, none⟩ (.int .i64 n) = W12 at rp r2 r3 rs kp ⊢
    have y0 := r3.cell
    have y1 := r3.lt
    have y2 := r3.free
    have y3 := rs.cell
    have y4 := rs.lt
    have y5 := rp.cell
    have y6 := rp.lt
    go_upto_region 27 with fail
    clear y0 y1 y2 y3 y4 y5 y6
    have hR := rd_done (by decide) hD hx1 hl1 hl2' hx3 hl3' hw hn4
    have hsX := hs4
    have y0 := r3.cell
    have y1 := r3.lt
    have y2 := r3.free
    have y3 := rs.cell
    have y4 := rs.lt
    have y5 := rp.cell
    have y6 := rp.lt
    have TU := fun W => Lib.hid (tunq_c ⟨l4.toArray⟩ W (by omega))
    simp only [of_list, unqV] at TU
    have hu := unq_split l4
    rcases hu with ⟨xt, n0, e0, hu, f0, hno⟩ | ⟨xt, n0, hu, hne, hno⟩ | ⟨xt, hu, hq⟩
    · rw [hu] at TU
      dsimp only at TU
      go_wp2_with fail
      refine Calls.mono (TU _).out ?_
      rintro e W20 ⟨rfl, hn⟩
      clear y0 y1 y2 y3 y4 y5 y6
      replace rp := rp.on hn
      replace r2 := r2.on hn
      replace r3 := r3.on hn
      replace rs := rs.on hn
      replace kp := kp.on hlt hn
      clear hn TU
      have y0 := r3.cell
      have y1 := r3.lt
      have y2 := r3.free
      have y3 := rs.cell
      have y4 := rs.lt
      have y5 := rp.cell
      have y6 := rp.lt
      go_wp2_with fail
      clear y0 y1 y2 y3 y4 y5 y6
      refine Calls.mono (need_f _) ?_
      rintro e W21 ⟨rfl, rfl⟩
      go_wp2_with fail
      exact bad_end kp (fun k i g st wy tr nx tag h => rd_not hR (fun tag hq ht _ => hno _ ht hq) k i g st wy tr nx tag h) _ rfl
    · have f0 : ((n0 : Int) == (l4.length : Int)) = false := by rw [beq_eq_false_iff_ne]; omega
      rw [hu] at TU
      dsimp only at TU
      go_wp2_with fail
      refine Calls.mono (TU _).out ?_
      rintro e W20 ⟨rfl, hn⟩
      clear y0 y1 y2 y3 y4 y5 y6
      replace rp := rp.on hn
      replace r2 := r2.on hn
      replace r3 := r3.on hn
      replace rs := rs.on hn
      replace kp := kp.on hlt hn
      clear hn TU
      have y0 := r3.cell
      have y1 := r3.lt
      have y2 := r3.free
      have y3 := rs.cell
      have y4 := rs.lt
      have y5 := rp.cell
      have y6 := rp.lt
      go_wp2_with fail
      clear y0 y1 y2 y3 y4 y5 y6
      refine Calls.mono (need_f _) ?_
      rintro e W21 ⟨rfl, rfl⟩
      go_wp2_with fail
      exact bad_end kp (fun k i g st wy tr nx tag h => rd_not hR (fun tag hq ht _ => hno _ ht hq) k i g st wy tr nx tag h) _ rfl
    · have f0 : ((l4.length : Int) == (l4.length : Int)) = true := by rw [beq_iff_eq]
      have htl : (⟨xt.toArray⟩ : ByteArray).size ≤ 1000000 := by have := unqL_len l4; rw [hu] at this; rw [← len_bytes, of_list] at hsX ⊢; dsimp only at this; omega
      rw [hu] at TU
      dsimp only at TU
      go_wp2_with fail
      refine Calls.mono (TU _).out ?_
      rintro e W20 ⟨rfl, hn⟩
      clear y0 y1 y2 y3 y4 y5 y6
      replace rp := rp.on hn
      replace r2 := r2.on hn
      replace r3 := r3.on hn
      replace rs := rs.on hn
      replace kp := kp.on hlt hn
      clear hn TU
      have y0 := r3.cell
      have y1 := r3.lt
      have y2 := r3.free
      have y3 := rs.cell
      have y4 := rs.lt
      have y5 := rp.cell
      have y6 := rp.lt
      go_wp2_with fail
      clear y0 y1 y2 y3 y4 y5 y6
      refine Calls.mono (need_t _) ?_
      rintro e W21 ⟨rfl, rfl⟩
      have y0 := r3.cell
      have y1 := r3.lt
      have y2 := r3.free
      have y3 := rs.cell
      have y4 := rs.lt
      have y5 := rp.cell
      have y6 := rp.lt
      go_upto_region 30 with fail
      clear y0 y1 y2 y3 y4 y5 y6
      replace rp := rp.other (show w.heap.size + 1 ≠ p by omega) 7 (.string ⟨xt.toArray⟩)
      replace r2 := r2.other (show w.heap.size + 1 ≠ w.heap.size by omega) 7 (.string ⟨xt.toArray⟩)
      replace rs := rs.other (show w.heap.size + 1 ≠ b by omega) 7 (.string ⟨xt.toArray⟩)
      replace r3 := r3.set 7 (.string ⟨xt.toArray⟩)
      simp only [List.setIfInBounds_toArray, List.set_cons_zero, List.set_cons_succ] at r3
      replace kp := kp.set (show w.heap.size ≤ w.heap.size + 1 by omega) hlt 7 (.string ⟨xt.toArray⟩)
      generalize W21.setCell ⟨w.heap.size + 1, 7, none⟩ (.string ⟨xt.toArray⟩) = W22 at rp r2 r3 rs kp ⊢
      have EC := fun W => Lib.hid (rerr_c k i g 3 wy n 0 ⟨xt.toArray⟩ W hD.g0 hD.gm htl)
      by_cases he : rErr k i g 3 wy n 0 ⟨xt.toArray⟩ = 0
      · rw [he] at EC
        have y0 := r3.cell
        have y1 := r3.lt
        have y2 := r3.free
        have y3 := rs.cell
        have y4 := rs.lt
        have y5 := rp.cell
        have y6 := rp.lt
        go_wp2_with fail
        refine Calls.mono (EC _).out ?_
        rintro e W23 ⟨rfl, hn⟩
        clear y0 y1 y2 y3 y4 y5 y6
        replace rp := rp.on hn
        replace r2 := r2.on hn
        replace r3 := r3.on hn
        replace rs := rs.on hn
        replace kp := kp.on hlt hn
        clear hn EC
        go_wp2_with fail
        refine Calls.mono (need_t _) ?_
        rintro e W24 ⟨rfl, rfl⟩
        have y0 := r3.cell
        have y1 := r3.lt
        have y2 := r3.free
        have y3 := rs.cell
        have y4 := rs.lt
        have y5 := rp.cell
        have y6 := rp.lt
        have y7 := r2.cell
        have y8 := r2.lt
        have y9 := r2.free
        go_wp2_with fail
        clear y0 y1 y2 y3 y4 y5 y6
        clear y7 y8 y9 r3 rs rp
        replace r2 := r2.set 0 (.int .i64 k)
        replace r2 := r2.set 1 (.int .i64 i)
        replace r2 := r2.set 2 (.int .u32 g)
        replace r2 := r2.set 3 (.int .i64 3)
        replace r2 := r2.set 4 (.int .i64 wy)
        replace r2 := r2.set 5 (.int .i64 n)
        replace r2 := r2.set 6 (.int .i64 0)
        replace r2 := r2.set 7 (.string ⟨xt.toArray⟩)
        replace kp := kp.set (Nat.le_refl w.heap.size) hlt 0 (.int .i64 k)
        replace kp := kp.set (Nat.le_refl w.heap.size) hlt 1 (.int .i64 i)
        replace kp := kp.set (Nat.le_refl w.heap.size) hlt 2 (.int .u32 g)
        replace kp := kp.set (Nat.le_refl w.heap.size) hlt 3 (.int .i64 3)
        replace kp := kp.set (Nat.le_refl w.heap.size) hlt 4 (.int .i64 wy)
        replace kp := kp.set (Nat.le_refl w.heap.size) hlt 5 (.int .i64 n)
        replace kp := kp.set (Nat.le_refl w.heap.size) hlt 6 (.int .i64 0)
        replace kp := kp.set (Nat.le_refl w.heap.size) hlt 7 (.string ⟨xt.toArray⟩)
        simp only [List.setIfInBounds_toArray, List.set_cons_zero, List.set_cons_succ] at r2
        generalize hW : World.setCell _ _ _ = V at *
        clear hW
        have y0 := r2.cell
        refine bodyPost_ret (v := rV k i g 3 wy n 0 ⟨xt.toArray⟩) (by simp [results, Tryz.results33, go_sem, y0]) rfl ⟨kp, .inl ⟨k, i, g, 3, wy, n, 0, ⟨xt.toArray⟩, rd_is hR hD.g0 hD.gm (by rw [of_list]; exact hq) he, rfl⟩⟩
      · have f1 : (rErr k i g 3 wy n 0 ⟨xt.toArray⟩ == 0) = false := by rw [beq_eq_false_iff_ne]; exact he
        have hno : ∀ tag : ByteArray, quoteL tag.data.toList = l4 → tagOk tag.data.toList = true → rErr k i g 3 wy n 0 tag ≠ 0 := fun tag h1 _ => by
          have : tag = ⟨xt.toArray⟩ := str_ext (by rw [of_list]; exact quoteL_inj (by rw [h1, hq]))
          rw [this]; exact he
        have y0 := r3.cell
        have y1 := r3.lt
        have y2 := r3.free
        have y3 := rs.cell
        have y4 := rs.lt
        have y5 := rp.cell
        have y6 := rp.lt
        go_wp2_with fail
        refine Calls.mono (EC _).out ?_
        rintro e W23 ⟨rfl, hn⟩
        clear y0 y1 y2 y3 y4 y5 y6
        replace kp := kp.on hlt hn
        clear hn EC
        go_wp2_with fail
        refine Calls.mono (need_f _) ?_
        rintro e W24 ⟨rfl, rfl⟩
        go_wp2_with fail
        exact bad_end kp (fun k i g st wy tr nx tag h => rd_not hR hno k i g st wy tr nx tag h) _ rfl
  · go_wp2_with fail
    refine Calls.mono (need_t _) ?_
    rintro e W7 ⟨rfl, rfl⟩
    clear y0 y1
    have hix := shIdx4
    go_upto_region 13 with fail
    go_cut [8] (fun v wx => ∃ b, v = .pointer (some ⟨b, 0, none⟩) ∧ Row wx p #[.string ⟨l2.toArray⟩] 76 ∧ Row wx w.heap.size zRow 27 ∧ Row wx (w.heap.size + 1) (rC k i g 4 0 0 0 ⟨#[]⟩) 27 ∧ Row wx b #[.string sQuar, .int .i64 3, .bool false] 61 ∧ Kp p w wx ∧ w.heap.size + 1 < b)
    case first =>
      refine wp_region_held_drew (S := fun W' => (∀ j, W'.cell? ⟨w.heap.size + 1, j, none⟩ = (rC k i g 4 0 0 0 ⟨#[]⟩)[j]?)) (by kernel_rfl) r3.cell (fun hHeld => ?_)
      replace rp := rp.drew
      replace r2 := r2.drew
      replace r3 := r3.drew
      replace kp := kp.drew
      generalize W7.drew = X_0 at *
      refine' wpAnyH_take (i := 1) (oi := _) (v := _) ?_ (by kernel_rfl) (by kernel_rfl) (by kernel_rfl) ?_ (Or.inl ⟨?_, ?_⟩) (by assumption) ?_
      rotate_left 2
      · (simp only [List.getElem?_toArray, List.getElem?_cons_succ, List.getElem?_cons_zero]; rfl)
      · first | exact fun _ _ _ h => h | exact fun _ _ _ h => nomatch h.1
      · rfl
      · (intro W hSW; (try dsimp only at hSW); go_split_ands; first | (go_simp; done) | (go_simp; with_reducible rfl))
      try simp only [Act.put, List.setIfInBounds_toArray, List.set_cons_zero, List.set_cons_succ]
      refine' wpAnyH_take (i := 2) (oi := _) (v := _) ?_ (by kernel_rfl) (by kernel_rfl) (by kernel_rfl) ?_ (Or.inl ⟨?_, ?_⟩) (by assumption) ?_
      rotate_left 2
      · (simp only [List.getElem?_toArray, List.getElem?_cons_succ, List.getElem?_cons_zero]; rfl)
      · first | exact fun _ _ _ h => h | exact fun _ _ _ h => nomatch h.1
      · rfl
      · (intro W hSW; (try dsimp only at hSW); go_split_ands; first | (go_simp; done) | (go_simp; with_reducible rfl))
      try simp only [Act.put, List.setIfInBounds_toArray, List.set_cons_zero, List.set_cons_succ]
      clear hHeld
      refine wpAnyH_ready (rs := [0, 4]) (by kernel_rfl) (by simp) ?_
      refine' AllReadyH.cons (o := _) (by simp only [List.getElem?_toArray, List.getElem?_cons_succ, List.getElem?_cons_zero]; rfl) (fun K hK => ?_) (AllReadyH.cons (o := _) (by simp only [List.getElem?_toArray, List.getElem?_cons_succ, List.getElem?_cons_zero]; rfl) (fun K hK => ?_) AllReadyH.nil)
      · go_simp
        refine Calls.mono (shapes_c _) ?_
        rintro e X_1 ⟨rfl, hn⟩
        replace rp := rp.on hn
        replace r2 := r2.on hn
        replace r3 := r3.on hn
        replace kp := kp.on hlt hn
        clear hn
        go_simp
        refine hK.out _ _ r3.cell (fun hHeld => ?_)
        clear hK K
        refine' wpAnyH_take (i := 3) (oi := _) (v := _) ?_ (by kernel_rfl) (by kernel_rfl) (by kernel_rfl) ?_ (Or.inl ⟨?_, ?_⟩) (by assumption) ?_
        rotate_left 2
        · (simp only [List.getElem?_toArray, List.getElem?_cons_succ, List.getElem?_cons_zero]; rfl)
        · first | exact fun _ _ _ h => h | exact fun _ _ _ h => nomatch h.1
        · rfl
        · (intro W hSW; (try dsimp only at hSW); go_split_ands; first | (go_simp; done) | (go_simp; with_reducible rfl))
        try simp only [Act.put, List.setIfInBounds_toArray, List.set_cons_zero, List.set_cons_succ]
        clear hHeld
        refine wpAnyH_ready (rs := [4]) (by kernel_rfl) (by simp) ?_
        refine' AllReadyH.cons (o := _) ?_ (fun K hK => ?_) AllReadyH.nil
        rotate_left 1
        · (simp only [List.getElem?_toArray, List.getElem?_cons_succ, List.getElem?_cons_zero]; rfl)
        go_simp
        have rs := Row.new (W := X_1) (cs := #[.string ⟨#[]⟩, .int .i64 0, .bool false]) (t := 61)
        have hb1 : w.heap.size + 1 < X_1.heap.size := r3.lt
        have hb2 : X_1.heap.size ≠ p := Nat.ne_of_gt rp.lt
        replace rp := rp.on (below_alloc X_1 (.cells #[.string ⟨#[]⟩, .int .i64 0, .bool false] 61))
        replace r2 := r2.on (below_alloc X_1 (.cells #[.string ⟨#[]⟩, .int .i64 0, .bool false] 61))
        replace r3 := r3.on (below_alloc X_1 (.cells #[.string ⟨#[]⟩, .int .i64 0, .bool false] 61))
        replace kp := kp.on hlt (below_alloc X_1 (.cells #[.string ⟨#[]⟩, .int .i64 0, .bool false] 61))
        generalize X_1.alloc (.cells #[.string ⟨#[]⟩, .int .i64 0, .bool false] 61) = X_2 at rs rp r2 r3 kp ⊢
        generalize X_1.heap.size = b at *
        refine hK.out _ _ r3.cell (fun _ => ?_)
        clear hK K
        have y0 := rs.cell
        have y1 := rs.free
        have y2 := rs.lt
        refine wpAnyH_ready (rs := [5]) (by kernel_rfl) (by simp) ?_
        refine' AllReadyH.cons (o := _) ?_ (fun K hK => ?_) AllReadyH.nil
        rotate_left 1
        · (simp only [List.getElem?_toArray, List.getElem?_cons_succ, List.getElem?_cons_zero]; rfl)
        go_simp
        clear y0 y1 y2
        replace rp := ((rp.other (show b ≠ p by omega) 0 (.string sQuar)).other (show b ≠ p by omega) 1 (.int .i64 3)).other (show b ≠ p by omega) 2 (.bool false)
        replace r2 := ((r2.other (show b ≠ w.heap.size by omega) 0 (.string sQuar)).other (show b ≠ w.heap.size by omega) 1 (.int .i64 3)).other (show b ≠ w.heap.size by omega) 2 (.bool false)
        replace r3 := ((r3.other (show b ≠ w.heap.size + 1 by omega) 0 (.string sQuar)).other (show b ≠ w.heap.size + 1 by omega) 1 (.int .i64 3)).other (show b ≠ w.heap.size + 1 by omega) 2 (.bool false)
        replace rs := ((rs.set 0 (.string sQuar)).set 1 (.int .i64 3)).set 2 (.bool false)
        replace kp := ((kp.set (show w.heap.size ≤ b by omega) hlt 0 (.string sQuar)).set (show w.heap.size ≤ b by omega) hlt 1 (.int .i64 3)).set (show w.heap.size ≤ b by omega) hlt 2 (.bool false)
        simp only [List.setIfInBounds_toArray, List.set_cons_zero, List.set_cons_succ] at rs
        generalize hW : World.setCell _ _ _ = V at *
        clear hW
        refine hK.out _ _ r3.cell (fun _ => ?_)
        clear hK K
        refine wpAnyH_done (by kernel_rfl) ?_ _
        go_wp2_with fail
        go_meet
        exact ⟨b, rfl, rp, r2, r3, rs, kp, hb1⟩
      · go_simp
        have rs := Row.new (W := X_0) (cs := #[.string ⟨#[]⟩, .int .i64 0, .bool false]) (t := 61)
        have hb1 : w.heap.size + 1 < X_0.heap.size := r3.lt
        have hb2 : X_0.heap.size ≠ p := Nat.ne_of_gt rp.lt
        replace rp := rp.on (below_alloc X_0 (.cells #[.string ⟨#[]⟩, .int .i64 0, .bool false] 61))
        replace r2 := r2.on (below_alloc X_0 (.cells #[.string ⟨#[]⟩, .int .i64 0, .bool false] 61))
        replace r3 := r3.on (below_alloc X_0 (.cells #[.string ⟨#[]⟩, .int .i64 0, .bool false] 61))
        replace kp := kp.on hlt (below_alloc X_0 (.cells #[.string ⟨#[]⟩, .int .i64 0, .bool false] 61))
        generalize X_0.alloc (.cells #[.string ⟨#[]⟩, .int .i64 0, .bool false] 61) = X_2 at rs rp r2 r3 kp ⊢
        generalize X_0.heap.size = b at *
        refine hK.out _ _ r3.cell (fun _ => ?_)
        clear hK K
        refine wpAnyH_ready (rs := [0]) (by kernel_rfl) (by simp) ?_
        refine' AllReadyH.cons (o := _) ?_ (fun K hK => ?_) AllReadyH.nil
        rotate_left 1
        · (simp only [List.getElem?_toArray, List.getElem?_cons_succ, List.getElem?_cons_zero]; rfl)
        go_simp
        refine Calls.mono (shapes_c _) ?_
        rintro e X_3 ⟨rfl, hn⟩
        replace rp := rp.on hn
        replace r2 := r2.on hn
        replace r3 := r3.on hn
        replace kp := kp.on hlt hn
        replace rs := rs.on hn
        clear hn
        refine hK.out _ _ r3.cell (fun hHeld => ?_)
        clear hK K
        refine' wpAnyH_take (i := 3) (oi := _) (v := _) ?_ (by kernel_rfl) (by kernel_rfl) (by kernel_rfl) ?_ (Or.inl ⟨?_, ?_⟩) (by assumption) ?_
        rotate_left 2
        · (simp only [List.getElem?_toArray, List.getElem?_cons_succ, List.getElem?_cons_zero]; rfl)
        · first | exact fun _ _ _ h => h | exact fun _ _ _ h => nomatch h.1
        · rfl
        · (intro W hSW; (try dsimp only at hSW); go_split_ands; first | (go_simp; done) | (go_simp; with_reducible rfl))
        try simp only [Act.put, List.setIfInBounds_toArray, List.set_cons_zero, List.set_cons_succ]
        clear hHeld
        have y0 := rs.cell
        have y1 := rs.free
        have y2 := rs.lt
        refine wpAnyH_ready (rs := [5]) (by kernel_rfl) (by simp) ?_
        refine' AllReadyH.cons (o := _) ?_ (fun K hK => ?_) AllReadyH.nil
        rotate_left 1
        · (simp only [List.getElem?_toArray, List.getElem?_cons_succ, List.getElem?_cons_zero]; rfl)
        go_simp
        clear y0 y1 y2
        replace rp := ((rp.other (show b ≠ p by omega) 0 (.string sQuar)).other (show b ≠ p by omega) 1 (.int .i64 3)).other (show b ≠ p by omega) 2 (.bool false)
        replace r2 := ((r2.other (show b ≠ w.heap.size by omega) 0 (.string sQuar)).other (show b ≠ w.heap.size by omega) 1 (.int .i64 3)).other (show b ≠ w.heap.size by omega) 2 (.bool false)
        replace r3 := ((r3.other (show b ≠ w.heap.size + 1 by omega) 0 (.string sQuar)).other (show b ≠ w.heap.size + 1 by omega) 1 (.int .i64 3)).other (show b ≠ w.heap.size + 1 by omega) 2 (.bool false)
        replace rs := ((rs.set 0 (.string sQuar)).set 1 (.int .i64 3)).set 2 (.bool false)
        replace kp := ((kp.set (show w.heap.size ≤ b by omega) hlt 0 (.string sQuar)).set (show w.heap.size ≤ b by omega) hlt 1 (.int .i64 3)).set (show w.heap.size ≤ b by omega) hlt 2 (.bool false)
        simp only [List.setIfInBounds_toArray, List.set_cons_zero, List.set_cons_succ] at rs
        generalize hW : World.setCell _ _ _ = V at *
        clear hW
        refine hK.out _ _ r3.cell (fun _ => ?_)
        clear hK K
        refine wpAnyH_done (by kernel_rfl) ?_ _
        go_wp2_with fail
        go_meet
        exact ⟨b, rfl, rp, r2, r3, rs, kp, hb1⟩
    obtain ⟨b, rfl, rp, r2, r3, rs, kp, hb⟩ := hcut
    have y0 := r3.cell
    have y1 := r3.lt
    have y2 := r3.free
    have y3 := rs.cell
    have y4 := rs.lt
    have y5 := rp.cell
    have y6 := rp.lt
    go_wp2_with fail
    clear y0 y1 y2 y3 y4 y5 y6
    refine Calls.mono (word_both p _ wc (hE0.on (kp.below _ _ hp hB)).toEnv hs2 rp) ?_
    rintro e W8 (⟨x3, l3, hx3, hl3, rfl, m8⟩ | ⟨hno, rfl, k8⟩)
    case' inr =>
      go_wp2_with fail
      exact bad_end (kp.trans k8) (fun k i g st wy tr nx tag h => no_w h hx1 hl1 (st0 := 4) (by decide) hl2' hno) _ rfl
    replace rp := m8.row
    replace r2 := m8.keep _ _ _ (by omega) r2
    replace r3 := m8.keep _ _ _ (by omega) r3
    replace rs := m8.keep _ _ _ (by omega) rs
    replace kp := kp.trans m8.kp
    clear m8
    go_wp2_with fail
    refine Calls.mono (reasons_c _) ?_
    rintro e W9 ⟨rfl, hn⟩
    replace rp := rp.on hn
    replace r2 := r2.on hn
    replace r3 := r3.on hn
    replace rs := rs.on hn
    replace kp := kp.on hlt hn
    clear hn
    go_upto_block 2 with (fail)
    go_cut [] (fun wx => ∃ wy : Int, Row wx p #[.string ⟨l3.toArray⟩] 76 ∧ Row wx w.heap.size zRow 27 ∧ Row wx (w.heap.size + 1) (rC k i g 4 wy 0 0 ⟨#[]⟩) 27 ∧ Row wx b #[.string sQuar, .int .i64 3, .bool false] 61 ∧ Kp p w wx ∧ ((wy = 0 ∧ x3 ≠ whL 1 ∧ x3 ≠ whL 2 ∧ x3 ≠ whL 3) ∨ ((wy = 1 ∨ wy = 2 ∨ wy = 3) ∧ x3 = whL wy)))
    case first =>
      have rx0 := reIdx0
      have rx1 := reIdx1
      have rx2 := reIdx2
      have rx3 := reIdx3
      have y0 := r3.cell
      have y1 := r3.lt
      have y2 := r3.free
      have y3 := rs.cell
      have y4 := rs.lt
      have y5 := rp.cell
      have y6 := rp.lt
      by_cases q1 : x3 = [99, 108, 111, 115, 101]
      · subst q1
        go_wp2_with fail
        refine wp_loop_rounds 5 ?_
        rw [rounds_succ]
        go_wp2_with fail
        rw [rounds_succ]
        go_wp2_with fail
        clear y0 y1 y2 y3 y4 y5 y6
        replace rp := rp.other (show w.heap.size + 1 ≠ p by omega) 4 (.int .i64 1)
        replace r2 := r2.other (show w.heap.size + 1 ≠ w.heap.size by omega) 4 (.int .i64 1)
        replace rs := rs.other (show w.heap.size + 1 ≠ b by omega) 4 (.int .i64 1)
        replace r3 := r3.set 4 (.int .i64 1)
        simp only [List.setIfInBounds_toArray, List.set_cons_zero, List.set_cons_succ] at r3
        replace kp := kp.set (show w.heap.size ≤ w.heap.size + 1 by omega) hlt 4 (.int .i64 1)
        generalize W9.setCell ⟨w.heap.size + 1, 4, none⟩ (.int .i64 1) = U9 at rp r2 r3 rs kp ⊢
        rw [rounds_succ]
        go_wp2_with fail
        rw [rounds_succ]
        go_wp2_with fail
        rw [rounds_succ]
        go_wp2_with fail
        go_meet
        exact ⟨1, rp, r2, r3, rs, kp, .inr ⟨by decide, rfl⟩⟩
      by_cases q2 : x3 = [101, 120, 112, 105, 114, 121]
      · subst q2
        go_wp2_with fail
        refine wp_loop_rounds 5 ?_
        rw [rounds_succ]
        go_wp2_with fail
        rw [rounds_succ]
        go_wp2_with fail
        rw [rounds_succ]
        go_wp2_with fail
        clear y0 y1 y2 y3 y4 y5 y6
        replace rp := rp.other (show w.heap.size + 1 ≠ p by omega) 4 (.int .i64 2)
        replace r2 := r2.other (show w.heap.size + 1 ≠ w.heap.size by omega) 4 (.int .i64 2)
        replace rs := rs.other (show w.heap.size + 1 ≠ b by omega) 4 (.int .i64 2)
        replace r3 := r3.set 4 (.int .i64 2)
        simp only [List.setIfInBounds_toArray, List.set_cons_zero, List.set_cons_succ] at r3
        replace kp := kp.set (show w.heap.size ≤ w.heap.size + 1 by omega) hlt 4 (.int .i64 2)
        generalize W9.setCell ⟨w.heap.size + 1, 4, none⟩ (.int .i64 2) = U9 at rp r2 r3 rs kp ⊢
        rw [rounds_succ]
        go_wp2_with fail
        rw [rounds_succ]
        go_wp2_with fail
        go_meet
        exact ⟨2, rp, r2, r3, rs, kp, .inr ⟨by decide, rfl⟩⟩
      by_cases q3 : x3 = [99, 111, 108, 108, 101, 99, 116]
      · subst q3
        go_wp2_with fail
        refine wp_loop_rounds 5 ?_
        rw [rounds_succ]
        go_wp2_with fail
        rw [rounds_succ]
        go_wp2_with fail
        rw [rounds_succ]
        go_wp2_with fail
        rw [rounds_succ]
        go_wp2_with fail
        clear y0 y1 y2 y3 y4 y5 y6
        replace rp := rp.other (show w.heap.size + 1 ≠ p by omega) 4 (.int .i64 3)
        replace r2 := r2.other (show w.heap.size + 1 ≠ w.heap.size by omega) 4 (.int .i64 3)
        replace rs := rs.other (show w.heap.size + 1 ≠ b by omega) 4 (.int .i64 3)
        replace r3 := r3.set 4 (.int .i64 3)
        simp only [List.setIfInBounds_toArray, List.set_cons_zero, List.set_cons_succ] at r3
        replace kp := kp.set (show w.heap.size ≤ w.heap.size + 1 by omega) hlt 4 (.int .i64 3)
        generalize W9.setCell ⟨w.heap.size + 1, 4, none⟩ (.int .i64 3) = U9 at rp r2 r3 rs kp ⊢
        rw [rounds_succ]
        go_wp2_with fail
        go_meet
        exact ⟨3, rp, r2, r3, rs, kp, .inr ⟨by decide, rfl⟩⟩
      have f1 : (([99, 108, 111, 115, 101] : List UInt8) == x3) = false := by rw [beq_eq_false_iff_ne]; exact fun e => q1 e.symm
      have f2 : (([101, 120, 112, 105, 114, 121] : List UInt8) == x3) = false := by rw [beq_eq_false_iff_ne]; exact fun e => q2 e.symm
      have f3 : (([99, 111, 108, 108, 101, 99, 116] : List UInt8) == x3) = false := by rw [beq_eq_false_iff_ne]; exact fun e => q3 e.symm
      have Q := Lib.hid (show x3 ≠ whL 1 ∧ x3 ≠ whL 2 ∧ x3 ≠ whL 3 from ⟨q1, q2, q3⟩)
      clear q1 q2 q3
      go_wp2_with fail
      refine wp_loop_rounds 5 ?_
      rw [rounds_succ]
      go_wp2_with fail
      rw [rounds_succ]
      go_wp2_with fail
      rw [rounds_succ]
      go_wp2_with fail
      rw [rounds_succ]
      go_wp2_with fail
      rw [rounds_succ]
      go_wp2_with fail
      go_meet
      exact ⟨0, rp, r2, r3, rs, kp, .inl ⟨rfl, Q.out⟩⟩
    obtain ⟨wy, rp, r2, r3, rs, kp, hw⟩ := hcut
    have hl3' : l2 = x3 ++ 32 :: l3 := by simpa using hl3
    have hs3 := sz_of hs2 hl3
    clear hl3
    go_wp2_with fail
    refine Calls.mono (number_both p _ w0 wc hE0 (kp.below _ _ hp hB) hp hs3 rp) ?_
    rintro e W10 (⟨n, l4, hn4, rfl, m10⟩ | ⟨hno, rfl, k10⟩)
    case' inr =>
      go_wp2_with fail
      exact bad_end (kp.trans k10) (fun k i g st wy tr nx tag h => no_n h hx1 hl1 (st0 := 4) (by decide) hl2' hx3 hl3' hno) _ rfl
    have hs4 := sz_n hs3 hn4
    rw [of_list] at hn4
    replace rp := m10.row
    replace r2 := m10.keep _ _ _ (by omega) r2
    replace r3 := m10.keep _ _ _ (by omega) r3
    replace rs := m10.keep _ _ _ (by omega) rs
    replace kp := kp.trans m10.kp
    clear m10
    by_cases hm : n ≤ 10000
    rotate_left
    · have e1 : decide (n ≤ 10000) = false := decide_eq_false hm
      go_wp2_with fail
      refine Calls.mono (need_f _) ?_
      rintro e W11 ⟨rfl, rfl⟩
      go_wp2_with fail
      exact bad_end kp (fun k i g st wy tr nx tag h => no_big h hx1 hl1 (st0 := 4) (by decide) hl2' hx3 hl3' hn4 (by omega)) _ rfl
    have e1 : decide (n ≤ 10000) = true := decide_eq_true hm
    go_wp2_with fail
    refine Calls.mono (need_t _) ?_
    rintro e W11 ⟨rfl, rfl⟩
    have y0 := r3.cell
    have y1 := r3.lt
    have y2 := r3.free
    have y3 := rs.cell
    have y4 := rs.lt
    have y5 := rp.cell
    have y6 := rp.lt
    go_upto_region 25 with fail
    clear y0 y1 y2 y3 y4 y5 y6
    replace rp := rp.other (show w.heap.size + 1 ≠ p by omega) 5 (.int .i64 n)
    replace r2 := r2.other (show w.heap.size + 1 ≠ w.heap.size by omega) 5 (.int .i64 n)
    replace rs := rs.other (show w.heap.size + 1 ≠ b by omega) 5 (.int .i64 n)
    replace r3 := r3.set 5 (.int .i64 n)
    simp only [List.setIfInBounds_toArray, List.set_cons_zero, List.set_cons_succ] at r3
    replace kp := kp.set (show w.heap.size ≤ w.heap.size + 1 by omega) hlt 5 (.int .i64 n)
    generalize W11.setCell ⟨w.heap.size + 1, 5, none⟩ (.int .i64 n) = W12 at rp r2 r3 rs kp ⊢
    have y0 := r3.cell
    have y1 := r3.lt
    have y2 := r3.free
    have y3 := rs.cell
    have y4 := rs.lt
    have y5 := rp.cell
    have y6 := rp.lt
    go_upto_region 27 with fail
    clear y0 y1 y2 y3 y4 y5 y6
    have hR := rd_done (by decide) hD hx1 hl1 hl2' hx3 hl3' hw hn4
    have hsX := hs4
    have y0 := r3.cell
    have y1 := r3.lt
    have y2 := r3.free
    have y3 := rs.cell
    have y4 := rs.lt
    have y5 := rp.cell
    have y6 := rp.lt
    have TU := fun W => Lib.hid (tunq_c ⟨l4.toArray⟩ W (by omega))
    simp only [of_list, unqV] at TU
    have hu := unq_split l4
    rcases hu with ⟨xt, n0, e0, hu, f0, hno⟩ | ⟨xt, n0, hu, hne, hno⟩ | ⟨xt, hu, hq⟩
    · rw [hu] at TU
      dsimp only at TU
      go_wp2_with fail
      refine Calls.mono (TU _).out ?_
      rintro e W20 ⟨rfl, hn⟩
      clear y0 y1 y2 y3 y4 y5 y6
      replace rp := rp.on hn
      replace r2 := r2.on hn
      replace r3 := r3.on hn
      replace rs := rs.on hn
      replace kp := kp.on hlt hn
      clear hn TU
      have y0 := r3.cell
      have y1 := r3.lt
      have y2 := r3.free
      have y3 := rs.cell
      have y4 := rs.lt
      have y5 := rp.cell
      have y6 := rp.lt
      go_wp2_with fail
      clear y0 y1 y2 y3 y4 y5 y6
      refine Calls.mono (need_f _) ?_
      rintro e W21 ⟨rfl, rfl⟩
      go_wp2_with fail
      exact bad_end kp (fun k i g st wy tr nx tag h => rd_not hR (fun tag hq ht _ => hno _ ht hq) k i g st wy tr nx tag h) _ rfl
    · have f0 : ((n0 : Int) == (l4.length : Int)) = false := by rw [beq_eq_false_iff_ne]; omega
      rw [hu] at TU
      dsimp only at TU
      go_wp2_with fail
      refine Calls.mono (TU _).out ?_
      rintro e W20 ⟨rfl, hn⟩
      clear y0 y1 y2 y3 y4 y5 y6
      replace rp := rp.on hn
      replace r2 := r2.on hn
      replace r3 := r3.on hn
      replace rs := rs.on hn
      replace kp := kp.on hlt hn
      clear hn TU
      have y0 := r3.cell
      have y1 := r3.lt
      have y2 := r3.free
      have y3 := rs.cell
      have y4 := rs.lt
      have y5 := rp.cell
      have y6 := rp.lt
      go_wp2_with fail
      clear y0 y1 y2 y3 y4 y5 y6
      refine Calls.mono (need_f _) ?_
      rintro e W21 ⟨rfl, rfl⟩
      go_wp2_with fail
      exact bad_end kp (fun k i g st wy tr nx tag h => rd_not hR (fun tag hq ht _ => hno _ ht hq) k i g st wy tr nx tag h) _ rfl
    · have f0 : ((l4.length : Int) == (l4.length : Int)) = true := by rw [beq_iff_eq]
      have htl : (⟨xt.toArray⟩ : ByteArray).size ≤ 1000000 := by have := unqL_len l4; rw [hu] at this; rw [← len_bytes, of_list] at hsX ⊢; dsimp only at this; omega
      rw [hu] at TU
      dsimp only at TU
      go_wp2_with fail
      refine Calls.mono (TU _).out ?_
      rintro e W20 ⟨rfl, hn⟩
      clear y0 y1 y2 y3 y4 y5 y6
      replace rp := rp.on hn
      replace r2 := r2.on hn
      replace r3 := r3.on hn
      replace rs := rs.on hn
      replace kp := kp.on hlt hn
      clear hn TU
      have y0 := r3.cell
      have y1 := r3.lt
      have y2 := r3.free
      have y3 := rs.cell
      have y4 := rs.lt
      have y5 := rp.cell
      have y6 := rp.lt
      go_wp2_with fail
      clear y0 y1 y2 y3 y4 y5 y6
      refine Calls.mono (need_t _) ?_
      rintro e W21 ⟨rfl, rfl⟩
      have y0 := r3.cell
      have y1 := r3.lt
      have y2 := r3.free
      have y3 := rs.cell
      have y4 := rs.lt
      have y5 := rp.cell
      have y6 := rp.lt
      go_upto_region 30 with fail
      clear y0 y1 y2 y3 y4 y5 y6
      replace rp := rp.other (show w.heap.size + 1 ≠ p by omega) 7 (.string ⟨xt.toArray⟩)
      replace r2 := r2.other (show w.heap.size + 1 ≠ w.heap.size by omega) 7 (.string ⟨xt.toArray⟩)
      replace rs := rs.other (show w.heap.size + 1 ≠ b by omega) 7 (.string ⟨xt.toArray⟩)
      replace r3 := r3.set 7 (.string ⟨xt.toArray⟩)
      simp only [List.setIfInBounds_toArray, List.set_cons_zero, List.set_cons_succ] at r3
      replace kp := kp.set (show w.heap.size ≤ w.heap.size + 1 by omega) hlt 7 (.string ⟨xt.toArray⟩)
      generalize W21.setCell ⟨w.heap.size + 1, 7, none⟩ (.string ⟨xt.toArray⟩) = W22 at rp r2 r3 rs kp ⊢
      have EC := fun W => Lib.hid (rerr_c k i g 4 wy n 0 ⟨xt.toArray⟩ W hD.g0 hD.gm htl)
      by_cases he : rErr k i g 4 wy n 0 ⟨xt.toArray⟩ = 0
      · rw [he] at EC
        have y0 := r3.cell
        have y1 := r3.lt
        have y2 := r3.free
        have y3 := rs.cell
        have y4 := rs.lt
        have y5 := rp.cell
        have y6 := rp.lt
        go_wp2_with fail
        refine Calls.mono (EC _).out ?_
        rintro e W23 ⟨rfl, hn⟩
        clear y0 y1 y2 y3 y4 y5 y6
        replace rp := rp.on hn
        replace r2 := r2.on hn
        replace r3 := r3.on hn
        replace rs := rs.on hn
        replace kp := kp.on hlt hn
        clear hn EC
        go_wp2_with fail
        refine Calls.mono (need_t _) ?_
        rintro e W24 ⟨rfl, rfl⟩
        have y0 := r3.cell
        have y1 := r3.lt
        have y2 := r3.free
        have y3 := rs.cell
        have y4 := rs.lt
        have y5 := rp.cell
        have y6 := rp.lt
        have y7 := r2.cell
        have y8 := r2.lt
        have y9 := r2.free
        go_wp2_with fail
        clear y0 y1 y2 y3 y4 y5 y6
        clear y7 y8 y9 r3 rs rp
        replace r2 := r2.set 0 (.int .i64 k)
        replace r2 := r2.set 1 (.int .i64 i)
        replace r2 := r2.set 2 (.int .u32 g)
        replace r2 := r2.set 3 (.int .i64 4)
        replace r2 := r2.set 4 (.int .i64 wy)
        replace r2 := r2.set 5 (.int .i64 n)
        replace r2 := r2.set 6 (.int .i64 0)
        replace r2 := r2.set 7 (.string ⟨xt.toArray⟩)
        replace kp := kp.set (Nat.le_refl w.heap.size) hlt 0 (.int .i64 k)
        replace kp := kp.set (Nat.le_refl w.heap.size) hlt 1 (.int .i64 i)
        replace kp := kp.set (Nat.le_refl w.heap.size) hlt 2 (.int .u32 g)
        replace kp := kp.set (Nat.le_refl w.heap.size) hlt 3 (.int .i64 4)
        replace kp := kp.set (Nat.le_refl w.heap.size) hlt 4 (.int .i64 wy)
        replace kp := kp.set (Nat.le_refl w.heap.size) hlt 5 (.int .i64 n)
        replace kp := kp.set (Nat.le_refl w.heap.size) hlt 6 (.int .i64 0)
        replace kp := kp.set (Nat.le_refl w.heap.size) hlt 7 (.string ⟨xt.toArray⟩)
        simp only [List.setIfInBounds_toArray, List.set_cons_zero, List.set_cons_succ] at r2
        generalize hW : World.setCell _ _ _ = V at *
        clear hW
        have y0 := r2.cell
        refine bodyPost_ret (v := rV k i g 4 wy n 0 ⟨xt.toArray⟩) (by simp [results, Tryz.results33, go_sem, y0]) rfl ⟨kp, .inl ⟨k, i, g, 4, wy, n, 0, ⟨xt.toArray⟩, rd_is hR hD.g0 hD.gm (by rw [of_list]; exact hq) he, rfl⟩⟩
      · have f1 : (rErr k i g 4 wy n 0 ⟨xt.toArray⟩ == 0) = false := by rw [beq_eq_false_iff_ne]; exact he
        have hno : ∀ tag : ByteArray, quoteL tag.data.toList = l4 → tagOk tag.data.toList = true → rErr k i g 4 wy n 0 tag ≠ 0 := fun tag h1 _ => by
          have : tag = ⟨xt.toArray⟩ := str_ext (by rw [of_list]; exact quoteL_inj (by rw [h1, hq]))
          rw [this]; exact he
        have y0 := r3.cell
        have y1 := r3.lt
        have y2 := r3.free
        have y3 := rs.cell
        have y4 := rs.lt
        have y5 := rp.cell
        have y6 := rp.lt
        go_wp2_with fail
        refine Calls.mono (EC _).out ?_
        rintro e W23 ⟨rfl, hn⟩
        clear y0 y1 y2 y3 y4 y5 y6
        replace kp := kp.on hlt hn
        clear hn EC
        go_wp2_with fail
        refine Calls.mono (need_f _) ?_
        rintro e W24 ⟨rfl, rfl⟩
        go_wp2_with fail
        exact bad_end kp (fun k i g st wy tr nx tag h => rd_not hR hno k i g st wy tr nx tag h) _ rfl
end Go.Proofs.YtgckfiadnmjonabGreatDoor
