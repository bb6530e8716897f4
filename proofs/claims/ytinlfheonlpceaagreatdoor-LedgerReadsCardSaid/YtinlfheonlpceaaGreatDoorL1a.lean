/- Package descr: read, Parse, ParseOuter: a text of a descriptor is read as it, any other text is refused. -/
import Derived.Test.YtinlfheonlpceaaGreatDoorL0b
import Derived.Test.YtinlfheonlpceaaGreatDoorHDescr5
import Derived.Deep.DeepCutAuto
import Derived.Test.YtinlfheonlpceaaGreatDoorL0c
import Derived.Deep.LoopGhost
namespace Go.Proofs.YtinlfheonlpceaaGreatDoor
open Go.RowKit
open Go.Lib (decDigits)

theorem kIdx_letter {k : Int} (h1 : 1 ≤ k) (h2 : k ≤ 3) : kIdx (letterB k) = k := by
  rcases (by omega : k = 1 ∨ k = 2 ∨ k = 3) with rfl | rfl | rfl <;> rfl
theorem letter_kIdx {x : UInt8} (h : 1 ≤ kIdx x) : letterB (kIdx x) = x := by
  unfold kIdx at h ⊢
  by_cases e1 : x = 102
  · rw [if_pos e1, e1]; rfl
  · by_cases e2 : x = 98
    · rw [if_neg e1, if_pos e2, e2]; rfl
    · by_cases e3 : x = 108
      · rw [if_neg e1, if_neg e2, if_pos e3, e3]; rfl
      · rw [if_neg e1, if_neg e2, if_neg e3] at h; omega
theorem of_list (l : List UInt8) : (ByteArray.mk l.toArray).data.toList = l := by simp
theorem cons_facts (x : UInt8) (r : List UInt8) : (ByteArray.mk (x :: r).toArray).toList.isEmpty = false ∧ (1 : Int) ≤ (ByteArray.mk (x :: r).toArray).size ∧ (ByteArray.mk (x :: r).toArray).extract 1 (ByteArray.mk (x :: r).toArray).size = ⟨r.toArray⟩ ∧ (ByteArray.mk (x :: r).toArray).extract 0 1 = ⟨#[x]⟩ := by
  have hs : (ByteArray.mk (x :: r).toArray).size = r.length + 1 := by rw [← len_bytes]; simp
  refine ⟨by rw [ByteArray.toList_eq]; simp, by omega, ?_, ?_⟩
  · apply str_ext
    rw [Lib.extract_to_end]
    simp
  · apply str_ext
    simp
theorem gParse_bound (l : List UInt8) : 0 ≤ gParse l ∧ gParse l ≤ 4294967295 := by
  cases h : isGen l with
  | true =>
    obtain ⟨n, h1, h2, h3⟩ := (isGen_iff l).1 h
    rw [← h3, (gParse_digits h1 h2).1]
    omega
  | false => rw [(gParse_not h).1]; omega
theorem read_is (c : UInt8) (hc : sgn c) (size : Int) (hsz : size ≤ 256) (s : ByteArray) (k sl g : Int) (h : IsD c size s.data.toList k sl g) (w : World) (hE : EnvP w) :
    Ret 129 #[.string s, .string ⟨#[c]⟩, .int .i64 size] w (.tuple #[nmV k sl g, .int .i64 0]) := by
  obtain ⟨hok, gm, g0, he⟩ := h
  obtain ⟨k1, k3, s0, s1, gz⟩ := dOk_iff.1 hok
  obtain ⟨f1, f2, f3, f4⟩ := cons_facts (letterB k) (decDigits sl.toNat)
  have hsz2 : s.size ≤ 22 := by
    have := (dTextL_len c (k := k) (s := sl) (g := g) (by omega) (by omega)).1
    rw [← he, len_bytes] at this
    exact this
  have es : s = dText c k sl g := str_ext (by rw [he, dText_list])
  have hcut := fun w hE => cut_c s c w hE (by omega)
  rw [he, cut_text hc] at hcut
  have ha : Lib.atoiAll (digits sl.toNat).data.toList = .ok sl := by
    rw [digits_list, atoi_dec _ (by omega)]
    congr 1
    omega
  have hz : (digits sl.toNat).size ≤ 100000 := by have := digits_size_le sl.toNat (by omega); omega
  have hat := fun w => atoi_ok (digits sl.toNat) hz sl ha w
  have hgp := fun w hE => parse_ok g.toNat w hE (by omega) (by omega)
  rw [Int.toNat_of_nonneg g0] at hgp
  have hck := fun w => nm_check_ok size k sl g w hok g0 gm
  have htx := fun w hE => nm_text c k sl g w hE k1 k3 s0 (by omega) g0 gm
  rw [← es] at htx
  have ek := kIdx_letter k1 k3
  have := read_ok c (letterB k) size sl g s _ _ _ true w hE f1 f2 f3 f4 hcut hat hgp g0 gm (by rw [ek]; exact hck) (by rw [ek]; exact htx)
  rw [ek] at this
  exact this
theorem read_not (c : UInt8) (size : Int) (hsz : size ≤ 256) (s : ByteArray) (hs : s.size ≤ 100000) (h : ∀ k sl g, ¬ IsD c size s.data.toList k sl g) (w : World) (hE : EnvP w) :
    Ret 129 #[.string s, .string ⟨#[c]⟩, .int .i64 size] w (.tuple #[nmV 0 0 0, .int .i64 9]) := by
  have hcut := fun w hE => cut_c s c w hE hs
  obtain ⟨fl, yl, fd, e, hfl, hyl, hall⟩ : ∃ fl yl fd, Lib.cut s.data.toList [c] = (fl, yl, fd) ∧ fl.length ≤ s.data.toList.length ∧ yl.length ≤ s.data.toList.length ∧ (s.data.toList = fl ++ c :: yl ∨ yl = []) := by
    rcases mem_split s.data.toList c with hm | ⟨pre, post, hm, he⟩
    · exact ⟨_, _, _, cut_no _ _ hm, Nat.le_refl _, by simp, .inr rfl⟩
    · refine ⟨pre, post, true, by rw [he]; exact cut_at _ _ _ hm, ?_, ?_, .inl he⟩
      · rw [he]; simp
      · rw [he]; simp; omega
  rw [e] at hcut
  rw [len_bytes] at hfl hyl
  have hy : (ByteArray.mk yl.toArray).size ≤ 100000 := by rw [← len_bytes, of_list]; omega
  cases fl with
  | nil => exact read_empty c size s _ _ w hE hcut
  | cons x r =>
    obtain ⟨f1, f2, f3, f4⟩ := cons_facts x r
    have hr : (ByteArray.mk r.toArray).size ≤ 100000 := by rw [← len_bytes, of_list]; simp at hfl; omega
    have hgp := fun w hE => parse_any ⟨yl.toArray⟩ w hE hy
    rw [of_list] at hgp
    obtain ⟨gb0, gb1⟩ := gParse_bound yl
    by_cases ha : ∃ v, Lib.atoiAll (ByteArray.mk r.toArray).data.toList = .ok v
    · obtain ⟨v, ha⟩ := ha
      have hat := fun w => atoi_ok ⟨r.toArray⟩ hr v ha w
      rcases gParseE_cases yl with hg | hg
      · obtain ⟨n, n1, n2, n3, hgv⟩ := gParseE_zero hg
        rw [hg, hgv] at hgp
        cases hok : dOk size (kIdx x) v n with
        | false =>
          have hck := fun w => nm_check_bad size (kIdx x) v n w hok (by omega) (by omega)
          exact read_check c x size v n s _ _ _ fd w hE f1 f2 f3 f4 hcut hat hgp (by omega) (by omega) hck
        | true =>
          obtain ⟨k1, k3, s0, s1, _⟩ := dOk_iff.1 hok
          have hck := fun w => nm_check_ok size (kIdx x) v n w hok (by omega) (by omega)
          have htx := fun w hE => nm_text c (kIdx x) v n w hE k1 k3 s0 (by omega) (by omega) (by omega)
          refine read_text c x size v n s _ _ _ fd w hE f1 f2 f3 f4 hcut hat hgp (by omega) (by omega) hck _ (str_beq_ne fun e' => ?_) htx
          exact h (kIdx x) v n ⟨hok, by omega, by omega, by rw [← e', dText_list]⟩
      · have hg0 : gParse yl = 0 := by
          cases hi : isGen yl with
          | true =>
            obtain ⟨n, n1, n2, n3⟩ := (isGen_iff yl).1 hi
            rw [← n3, (gParse_digits n1 n2).2] at hg
            omega
          | false => exact (gParse_not hi).1
        rw [hg, hg0] at hgp
        exact read_gen c x size v 0 s _ _ _ fd w hE f1 f2 f3 f4 hcut hat hgp (by omega) (by omega)
    · have hat := fun w hE => atoi_bad ⟨r.toArray⟩ hr (fun v hv => ha ⟨v, hv⟩) w hE
      exact read_atoi c x size (gParse yl) (gParseE yl) s _ _ _ fd w hE f1 f2 f3 f4 hcut hat hgp gb0 gb1
set_option maxHeartbeats 2000000 in
theorem o_parse (s : ByteArray) (k sl g e : Int) (w : World) (g0 : 0 ≤ g) (g1 : g ≤ 4294967295)
    (hr : ∀ w, EnvP w → Ret 129 #[.string s, .string ⟨#[58]⟩, .int .i64 64] w (.tuple #[nmV k sl g, .int .i64 e])) (hE : EnvP w) :
    Ret 101 #[.string s] w (.tuple #[dV k sl g, .int .i64 e]) := by
  have hgw : IntKind.u32.wrap g = g := by rw [IntKind.wrap_u32]; omega
  have HR := Lib.hid hr
  clear hr
  go_enter Tryz.func101, Tryz.ntmps101
  go_wp2_with fail
  refine (HR.out _ (hE.alloc _)).mono ?_
  rintro e w1 ⟨rfl, hb1⟩
  have c0 : w1.cell? ⟨w.heap.size, 0, none⟩ = some (.int .i64 0) := by rw [(bcell hb1).1 _ _ (by simp)]; simp
  have c1 : w1.cell? ⟨w.heap.size, 1, none⟩ = some (.int .i64 0) := by rw [(bcell hb1).1 _ _ (by simp)]; simp
  have c2 : w1.cell? ⟨w.heap.size, 2, none⟩ = some (.int .u32 0) := by rw [(bcell hb1).1 _ _ (by simp)]; simp
  have fr : ∀ o, w1.frozen? ⟨w.heap.size, o, none⟩ = false := fun o => by rw [(bcell hb1).2 _ _ (by simp)]; simp
  have z1 : w.heap.size < w1.heap.size := by have := hb1.size; simp at this; omega
  have z2 : w.heap.size < w1.heap.size + 1 := by omega
  have z3 : w.heap.size < w1.heap.size + 1 + 1 := by omega
  have hc1 := under (w := w) hb1
  clear hb1
  go_wp2_with go_in
  refine bodyPost_ret (v := .tuple #[dV k sl g, .int .i64 e]) (by simp [results, Tryz.results101, go_sem, c0, c1, c2, z1, z2, z3]) rfl ⟨rfl, ?_⟩
  repeat (refine Below.setCell ?_ (by simp) _)
  go_grown
theorem o_parse_is (s : ByteArray) (k sl g : Int) (h : IsD 58 64 s.data.toList k sl g) (w : World) (hE : EnvP w) : Ret 101 #[.string s] w (.tuple #[dV k sl g, .int .i64 0]) :=
  o_parse s k sl g 0 w h.g0 h.gm (fun w hE => read_is 58 (by simp [sgn]) 64 (by omega) s k sl g h w hE) hE
theorem o_parse_not (s : ByteArray) (hs : s.size ≤ 100000) (h : ∀ k sl g, ¬ IsD 58 64 s.data.toList k sl g) (w : World) (hE : EnvP w) : Ret 101 #[.string s] w (.tuple #[dV 0 0 0, .int .i64 9]) :=
  o_parse s 0 0 0 9 w (by omega) (by omega) (fun w hE => read_not 58 64 (by omega) s hs h w hE) hE
end Go.Proofs.YtinlfheonlpceaaGreatDoor

/- ledger.word and parse: their contracts (chapter 07). -/
namespace Go.Proofs.YtinlfheonlpceaaGreatDoor
open Go.RowKit
set_option linter.unusedVariables false
set_option linter.unusedSimpArgs false
set_option maxHeartbeats 16000000
set_option maxRecDepth 20000
theorem split_spL (s : ByteArray) (w : World) (hw : w.ShapedOpen Tryz.prog) (hs : s.size ≤ 1000000) : Calls Tryz.prog 99 #[.string s, .string ⟨#[32]⟩] w fun e w' =>
    ∃ (xs : List ByteArray) (g : Nat), e = .returned (.slice (some ⟨g, 0, none⟩) xs.length xs.length) ∧ xs.map (·.data.toList) = cutAll 32 s.data.toList ∧ Row w' g (xs.map Value.string).toArray 9 ∧ Below w.heap.size w w' := by
  have hsc := splitB_cutAll 32 s.size s (Nat.le_refl _)
  exact (Tryz.strings_Split_shaped s ⟨#[32]⟩ w hw (by omega) (by decide)).mono fun e w' h => by
    obtain ⟨rfl, rfl⟩ := h
    have hl : (Lib.splitB ⟨#[32]⟩ 0 (Lib.countB s ⟨#[32]⟩) s).length = Lib.countB s ⟨#[32]⟩ + 1 := by rw [hsc.2, ← hsc.1, List.length_map]
    refine ⟨_, w.heap.size, by rw [hl], hsc.1, Row.new, below_alloc _ _⟩
theorem fmt_any (n : Int) (w : World) (hE : Env w) (h0 : -9223372036854775808 ≤ n) (h1 : n ≤ 9223372036854775807) : Ret 53 #[.int .i64 n, .int .i64 10] w (.string ⟨(Lib.itoa n).toArray⟩) := by
  have c := fun w hE => Tryz.internal_strconv_FormatInt_10 n h0 h1 w (Env.tabIs hE)
  have C := Lib.hid c
  clear c
  go_enter Tryz.func53, Tryz.ntmps53
  go_wp2_with fail
  refine Calls.mono (C.out _ hE) ?_
  rintro e w1 ⟨rfl, k, os, hw⟩
  go_wp2_with fail
  go_returns
  exact ⟨rfl, by first | exact below_grow_ w k os | (rw [hw]; exact below_grow_ w k os)⟩
/-- Which of four strings. -/
def idx4 (x a b c d : ByteArray) : Int := if x = a then 0 else if x = b then 1 else if x = c then 2 else if x = d then 3 else -1
theorem str_neL {a b : ByteArray} (h : a ≠ b) : (a.toList == b.toList) = false := str_beq_ne h
theorem sidx_c (x s0 s1 s2 s3 : ByteArray) (b : Nat) (w : World) (hr : Row w b #[.string s0, .string s1, .string s2, .string s3] 9) :
    Ret 131 #[.slice (some ⟨b, 0, none⟩) 4 4, .string x] w (.int .i64 (idx4 x s0 s1 s2 s3)) := by
  have y := hr.cell
  have z := hr.lt
  unfold idx4
  by_cases e0 : x = s0
  · have f0 : (x.toList == s0.toList) = true := by rw [e0]; simp
    rw [if_pos e0]
    clear e0
    go_enter Tryz.func131, Tryz.ntmps131
    go_wp2
    go_rounds 5
    go_returns
    exact ⟨rfl, by go_grown⟩
  have f0 := str_neL e0
  rw [if_neg e0]
  clear e0
  by_cases e1 : x = s1
  · have f1 : (x.toList == s1.toList) = true := by rw [e1]; simp
    rw [if_pos e1]
    clear e1
    go_enter Tryz.func131, Tryz.ntmps131
    go_wp2
    go_rounds 5
    go_returns
    exact ⟨rfl, by go_grown⟩
  have f1 := str_neL e1
  rw [if_neg e1]
  clear e1
  by_cases e2 : x = s2
  · have f2 : (x.toList == s2.toList) = true := by rw [e2]; simp
    rw [if_pos e2]
    clear e2
    go_enter Tryz.func131, Tryz.ntmps131
    go_wp2
    go_rounds 5
    go_returns
    exact ⟨rfl, by go_grown⟩
  have f2 := str_neL e2
  rw [if_neg e2]
  clear e2
  by_cases e3 : x = s3
  · have f3 : (x.toList == s3.toList) = true := by rw [e3]; simp
    rw [if_pos e3]
    clear e3
    go_enter Tryz.func131, Tryz.ntmps131
    go_wp2
    go_rounds 5
    go_returns
    exact ⟨rfl, by go_grown⟩
  have f3 := str_neL e3
  rw [if_neg e3]
  clear e3
  go_enter Tryz.func131, Tryz.ntmps131
  go_wp2
  go_rounds 5
  go_returns
  exact ⟨rfl, by go_grown⟩
theorem idx4_3 {x a b c : ByteArray} (hx : x ≠ ⟨#[]⟩) : max (idx4 x ⟨#[]⟩ a b c) 0 = idx3 a.data.toList b.data.toList c.data.toList x.data.toList := by
  have key : ∀ y : ByteArray, (x.data.toList = y.data.toList) ↔ x = y := fun y => ⟨str_ext, fun h => by rw [h]⟩
  unfold idx4 idx3
  rw [if_neg hx]
  simp only [key]
  split
  · rfl
  · split
    · rfl
    · split <;> rfl
theorem idx3_no {a b c : List UInt8} (h : a ≠ [] ∧ b ≠ [] ∧ c ≠ []) : idx3 a b c [] = 0 := by
  unfold idx3
  rw [if_neg (fun e => h.1 e.symm), if_neg (fun e => h.2.1 e.symm), if_neg (fun e => h.2.2 e.symm)]
theorem word_c (x s1 s2 s3 : ByteArray) (hs : s1.data.toList ≠ [] ∧ s2.data.toList ≠ [] ∧ s3.data.toList ≠ []) (b : Nat) (w : World) (hr : Row w b #[.string ⟨#[]⟩, .string s1, .string s2, .string s3] 9) :
    Ret 102 #[.string x, .slice (some ⟨b, 0, none⟩) 4 4] w (.int .i64 (idx3 s1.data.toList s2.data.toList s3.data.toList x.data.toList)) := by
  by_cases hx : x = ⟨#[]⟩
  · subst hx
    rw [show idx3 s1.data.toList s2.data.toList s3.data.toList (⟨#[]⟩ : ByteArray).data.toList = 0 from idx3_no hs]
    clear hs
    go_enter Tryz.func102, Tryz.ntmps102
    go_wp2_with fail
    go_returns
    exact ⟨rfl, by go_grown⟩
  · rw [← idx4_3 hx]
    have f0 : (x.toList == (⟨#[]⟩ : ByteArray).toList) = false := str_beq_ne hx
    have f1 : x.toList.isEmpty = false := by
      cases h : x.toList.isEmpty with
      | false => rfl
      | true =>
        rw [List.isEmpty_iff, ByteArray.toList_eq] at h
        exact absurd (str_ext h) hx
    have C := Lib.hid (sidx_c x ⟨#[]⟩ s1 s2 s3 b w hr)
    generalize idx4 x ⟨#[]⟩ s1 s2 s3 = I at *
    clear hr hs hx
    go_enter Tryz.func102, Tryz.ntmps102
    go_wp2_with fail
    refine Calls.mono C.out ?_
    rintro e w1 ⟨rfl, hb⟩
    go_wp2_with fail
    go_returns
    exact ⟨by first | rfl | simp, hb⟩
theorem whysR_c (w : World) : Calls Tryz.prog 54 #[] w fun e w' => ∃ b, e = .returned (.slice (some ⟨b, 0, none⟩) 4 4) ∧ Row w' b whyC 9 ∧ Below w.heap.size w w' :=
  (whys_c w).mono fun e w' ⟨he, hw⟩ => ⟨w.heap.size, he, by rw [hw]; exact Row.new, by rw [hw]; exact below_alloc w _⟩
theorem answersR_c (w : World) : Calls Tryz.prog 55 #[] w fun e w' => ∃ b, e = .returned (.slice (some ⟨b, 0, none⟩) 4 4) ∧ Row w' b ansC 9 ∧ Below w.heap.size w w' :=
  (answers_c w).mono fun e w' ⟨he, hw⟩ => ⟨w.heap.size, he, by rw [hw]; exact Row.new, by rw [hw]; exact below_alloc w _⟩
theorem wwhy_c (x : ByteArray) (b : Nat) (w : World) (hr : Row w b whyC 9) : Ret 102 #[.string x, .slice (some ⟨b, 0, none⟩) 4 4] w (.int .i64 (whyI x.data.toList)) := word_c x _ _ _ ⟨by decide, by decide, by decide⟩ b w hr
theorem wans_c (x : ByteArray) (b : Nat) (w : World) (hr : Row w b ansC 9) : Ret 102 #[.string x, .slice (some ⟨b, 0, none⟩) 4 4] w (.int .i64 (ansI x.data.toList)) := word_c x _ _ _ ⟨by decide, by decide, by decide⟩ b w hr
end Go.Proofs.YtinlfheonlpceaaGreatDoor

/- ledger.parse: its contract (chapter 07). -/
namespace Go.Proofs.YtinlfheonlpceaaGreatDoor
open Go.RowKit
set_option linter.unusedVariables false
set_option linter.unusedSimpArgs false
set_option maxHeartbeats 16000000
set_option maxRecDepth 20000
theorem rowP_ne {W : World} {x y : Nat} {cs cs' : Array Value} {t t' : TypeId} (r : Row W x cs t) (r' : Row W y cs' t') (ht : t ≠ t') : x ≠ y := fun e => by
  have h1 := r'.eq
  rw [← e, r.eq] at h1
  injection h1 with h1
  injection h1 with _ h1
  exact ht h1
theorem parse_len (s : ByteArray) (w : World) (hE : EnvP w) (hs : s.size ≤ 100000) (h4 : (cutAll 32 s.data.toList).length ≠ 4) :
    Ret 68 #[.string s] w (.tuple #[atV at0, .bool false]) := by
  have HE := Lib.hid hE
  have hc := Below.refl w.heap.size w
  go_enter Tryz.func68, Tryz.ntmps68
  go_upto_region 1 with fail
  have r2 := Row.new (W := w) (cs := #[.int .i64 0, .int .i64 0, .int .i64 0, .int .u32 0, .int .i64 0, .int .i64 0]) (t := 43)
  have hn := below_alloc w (.cells #[.int .i64 0, .int .i64 0, .int .i64 0, .int .u32 0, .int .i64 0, .int .i64 0] 43)
  have wr2 : w.heap.size ≤ w.heap.size := hc.size
  replace hc := chain hc hn
  clear hn
  generalize w.alloc (.cells #[.int .i64 0, .int .i64 0, .int .i64 0, .int .u32 0, .int .i64 0, .int .i64 0] 43) = V1 at r2 hc ⊢
  have CS := Lib.hid (split_spL s V1 (HE.out.on hc).shp (by omega))
  have yr2 := r2.cell
  have zr2 := r2.lt
  go_wp2_with fail
  refine Calls.mono CS.out ?_
  rintro e W1 ⟨xs, g, rfl, hxs, rw, hn⟩
  clear yr2 zr2
  replace r2 := r2.on hn
  replace hc := chain hc hn
  clear hn
  clear CS
  have hlen : xs.length = (cutAll 32 s.data.toList).length := by rw [← hxs, List.length_map]
  have hne : ((xs.length : Int) != 4) = true := by rw [bne_iff_ne, hlen]; omega
  generalize xs.length = m at *
  clear hlen hxs h4
  have yr2 := r2.cell
  have zr2 := r2.lt
  have ur2 := r2.free
  go_wp2_with fail
  refine bodyPost_ret (v := .tuple #[atV at0, .bool false]) (by simp [results, Tryz.results68, go_sem, yr2, zr2, ur2]) rfl ⟨rfl, ?_⟩
  refine Below.setCell ?_ (by first | exact Nat.le_refl _ | simp | omega) _
  refine Below.setCell ?_ (by first | exact Nat.le_refl _ | simp | omega) _
  refine Below.setCell ?_ (by first | exact Nat.le_refl _ | simp | omega) _
  refine Below.setCell ?_ (by first | exact Nat.le_refl _ | simp | omega) _
  refine Below.setCell ?_ (by first | exact Nat.le_refl _ | simp | omega) _
  exact hc.setCell (by first | exact Nat.le_refl _ | simp | omega) _
theorem parse_err (s x0 x1 x2 x3 : ByteArray) (w : World) (hE : EnvP w) (hs : s.size ≤ 100000) (hcut : cutAll 32 s.data.toList = [x0.data.toList, x1.data.toList, x2.data.toList, x3.data.toList]) (hp : ∀ v, Lib.parseIntB 64 x0.data.toList ≠ .ok v) :
    Ret 68 #[.string s] w (.tuple #[atV at0, .bool false]) := by
  have HE := Lib.hid hE
  have hc := Below.refl w.heap.size w
  go_enter Tryz.func68, Tryz.ntmps68
  go_upto_region 1 with fail
  have r2 := Row.new (W := w) (cs := #[.int .i64 0, .int .i64 0, .int .i64 0, .int .u32 0, .int .i64 0, .int .i64 0]) (t := 43)
  have hn := below_alloc w (.cells #[.int .i64 0, .int .i64 0, .int .i64 0, .int .u32 0, .int .i64 0, .int .i64 0] 43)
  have wr2 : w.heap.size ≤ w.heap.size := hc.size
  replace hc := chain hc hn
  clear hn
  generalize w.alloc (.cells #[.int .i64 0, .int .i64 0, .int .i64 0, .int .u32 0, .int .i64 0, .int .i64 0] 43) = V1 at r2 hc ⊢
  have CS := Lib.hid (split_spL s V1 (HE.out.on hc).shp (by omega))
  have yr2 := r2.cell
  have zr2 := r2.lt
  go_wp2_with fail
  refine Calls.mono CS.out ?_
  rintro e W1 ⟨xs, g, rfl, hxs, rw, hn⟩
  clear yr2 zr2
  replace r2 := r2.on hn
  replace hc := chain hc hn
  clear hn
  clear CS
  have hx4 : xs = [x0, x1, x2, x3] := by
    rw [hcut] at hxs
    exact (List.map_inj_right (f := fun y : ByteArray => y.data.toList) (fun a b h => str_ext h)).1 (hxs.trans rfl)
  subst hx4
  replace rw : Row W1 g #[.string x0, .string x1, .string x2, .string x3] 9 := rw
  have hx0 : x0.size ≤ 100000 := by
    have h1 := join_cutAll 32 s.data.toList
    rw [hcut] at h1
    have h2 := congrArg List.length h1
    simp [Lib.join, List.intercalate, len_bytes] at h2
    omega
  clear hxs hcut hs
  have nr2_rw : w.heap.size ≠ g := rowP_ne r2 rw (by decide)
  simp only [List.length_cons, List.length_nil, Nat.zero_add, Nat.reduceAdd]
  have CP := Lib.hid (pint_bad x0 hx0 hp W1 (HE.out.on hc))
  clear hp
  have yr2 := r2.cell
  have zr2 := r2.lt
  have yrw := rw.cell
  have zrw := rw.lt
  go_wp2_with fail
  refine Calls.mono CP.out ?_
  rintro e W2 ⟨n, NN, rfl, hn⟩
  clear yr2 yrw zr2 zrw
  replace r2 := r2.on hn
  replace rw := rw.on hn
  replace hc := chain hc hn
  clear hn
  have yr2 := r2.cell
  have zr2 := r2.lt
  have yrw := rw.cell
  have zrw := rw.lt
  go_upto_region 5 with fail
  clear yr2 yrw zr2 zrw
  refine wp_region_held_drew (S := fun W' => (∀ j, W'.cell? ⟨g, j, none⟩ = (#[.string x0, .string x1, .string x2, .string x3] : Array Value)[j]?)) (by kernel_rfl) rw.cell (fun hHeld => ?_)
  replace r2 := r2.drew
  replace rw := rw.drew
  replace hc := hc.drew
  generalize W2.drew = W9 at *
  refine' wpAnyH_take (i := 0) (oi := _) (v := _) ?_ (by kernel_rfl) (by kernel_rfl) (by kernel_rfl) ?_ (Or.inl ⟨?_, ?_⟩) (by assumption) ?_
  rotate_left 2
  · (simp only [List.getElem?_toArray, List.getElem?_cons_succ, List.getElem?_cons_zero]; rfl)
  · first | exact fun _ _ _ h => h | exact fun _ _ _ h => nomatch h.1
  · rfl
  · (intro W hSW; (try dsimp only at hSW); go_split_ands; first | (go_simp; done) | (go_simp; with_reducible rfl))
  try simp only [Act.put, List.setIfInBounds_toArray, List.set_cons_zero, List.set_cons_succ]
  refine' wpAnyH_take (i := 1) (oi := _) (v := _) ?_ (by kernel_rfl) (by kernel_rfl) (by kernel_rfl) ?_ (Or.inl ⟨?_, ?_⟩) (by assumption) ?_
  rotate_left 2
  · (simp only [List.getElem?_toArray, List.getElem?_cons_succ, List.getElem?_cons_zero]; rfl)
  · first | exact fun _ _ _ h => h | exact fun _ _ _ h => nomatch h.1
  · rfl
  · (intro W hSW; (try dsimp only at hSW); go_split_ands; first | (go_simp; done) | (go_simp; with_reducible rfl))
  try simp only [Act.put, List.setIfInBounds_toArray, List.set_cons_zero, List.set_cons_succ]
  refine' wpAnyH_take (i := 2) (oi := _) (v := _) ?_ (by kernel_rfl) (by kernel_rfl) (by kernel_rfl) ?_ (Or.inl ⟨?_, ?_⟩) (by assumption) ?_
  rotate_left 2
  · (simp only [List.getElem?_toArray, List.getElem?_cons_succ, List.getElem?_cons_zero]; rfl)
  · first | exact fun _ _ _ h => h | exact fun _ _ _ h => nomatch h.1
  · rfl
  · (intro W hSW; (try dsimp only at hSW); go_split_ands; first | (go_simp; done) | (go_simp; with_reducible rfl))
  try simp only [Act.put, List.setIfInBounds_toArray, List.set_cons_zero, List.set_cons_succ]
  refine' wpAnyH_take (i := 3) (oi := _) (v := _) ?_ (by kernel_rfl) (by kernel_rfl) (by kernel_rfl) ?_ (Or.inr ⟨?_, rfl⟩) (by assumption) ?_
  rotate_left 1
  · (simp only [List.getElem?_toArray, List.getElem?_cons_succ, List.getElem?_cons_zero]; rfl)
  · first | exact fun _ _ _ h => h | exact fun _ _ _ h => nomatch h.1
  · rfl
  try simp only [Act.put, List.setIfInBounds_toArray, List.set_cons_zero, List.set_cons_succ]
  refine' wpAnyH_take (i := 4) (oi := _) (v := _) ?_ (by kernel_rfl) (by kernel_rfl) (by kernel_rfl) ?_ (Or.inr ⟨?_, rfl⟩) (by assumption) ?_
  rotate_left 1
  · (simp only [List.getElem?_toArray, List.getElem?_cons_succ, List.getElem?_cons_zero]; rfl)
  · first | exact fun _ _ _ h => h | exact fun _ _ _ h => nomatch h.1
  · rfl
  try simp only [Act.put, List.setIfInBounds_toArray, List.set_cons_zero, List.set_cons_succ]
  refine' wpAnyH_take (i := 5) (oi := _) (v := _) ?_ (by kernel_rfl) (by kernel_rfl) (by kernel_rfl) ?_ (Or.inr ⟨?_, rfl⟩) (by assumption) ?_
  rotate_left 1
  · (simp only [List.getElem?_toArray, List.getElem?_cons_succ, List.getElem?_cons_zero]; rfl)
  · first | exact fun _ _ _ h => h | exact fun _ _ _ h => nomatch h.1
  · rfl
  try simp only [Act.put, List.setIfInBounds_toArray, List.set_cons_zero, List.set_cons_succ]
  refine' wpAnyH_take (i := 6) (oi := _) (v := _) ?_ (by kernel_rfl) (by kernel_rfl) (by kernel_rfl) ?_ (Or.inr ⟨?_, rfl⟩) (by assumption) ?_
  rotate_left 1
  · (simp only [List.getElem?_toArray, List.getElem?_cons_succ, List.getElem?_cons_zero]; rfl)
  · first | exact fun _ _ _ h => h | exact fun _ _ _ h => nomatch h.1
  · rfl
  try simp only [Act.put, List.setIfInBounds_toArray, List.set_cons_zero, List.set_cons_succ]
  refine' wpAnyH_take (i := 7) (oi := _) (v := _) ?_ (by kernel_rfl) (by kernel_rfl) (by kernel_rfl) ?_ (Or.inr ⟨?_, rfl⟩) (by assumption) ?_
  rotate_left 1
  · (simp only [List.getElem?_toArray, List.getElem?_cons_succ, List.getElem?_cons_zero]; rfl)
  · first | exact fun _ _ _ h => h | exact fun _ _ _ h => nomatch h.1
  · rfl
  try simp only [Act.put, List.setIfInBounds_toArray, List.set_cons_zero, List.set_cons_succ]
  refine' wpAnyH_take (i := 8) (oi := _) (v := _) ?_ (by kernel_rfl) (by kernel_rfl) (by kernel_rfl) ?_ (Or.inr ⟨?_, rfl⟩) (by assumption) ?_
  rotate_left 1
  · (simp only [List.getElem?_toArray, List.getElem?_cons_succ, List.getElem?_cons_zero]; rfl)
  · first | exact fun _ _ _ h => h | exact fun _ _ _ h => nomatch h.1
  · rfl
  try simp only [Act.put, List.setIfInBounds_toArray, List.set_cons_zero, List.set_cons_succ]
  refine' wpAnyH_take (i := 9) (oi := _) (v := _) ?_ (by kernel_rfl) (by kernel_rfl) (by kernel_rfl) ?_ (Or.inl ⟨?_, ?_⟩) (by assumption) ?_
  rotate_left 2
  · (simp only [List.getElem?_toArray, List.getElem?_cons_succ, List.getElem?_cons_zero]; rfl)
  · first | exact fun _ _ _ h => h | exact fun _ _ _ h => nomatch h.1
  · rfl
  · (intro W hSW; (try dsimp only at hSW); go_split_ands; first | (go_simp; done) | (go_simp; with_reducible rfl))
  try simp only [Act.put, List.setIfInBounds_toArray, List.set_cons_zero, List.set_cons_succ]
  clear hHeld
  refine wpAnyH_done (by kernel_rfl) ?_ _
  have yr2 := r2.cell
  have zr2 := r2.lt
  have yrw := rw.cell
  have zrw := rw.lt
  have ur2 := r2.free
  go_wp2_with fail
  refine bodyPost_ret (v := .tuple #[atV at0, .bool false]) (by simp [results, Tryz.results68, go_sem, yr2, zr2, ur2]) rfl ⟨rfl, ?_⟩
  refine Below.setCell ?_ (by first | exact Nat.le_refl _ | simp | omega) _
  refine Below.setCell ?_ (by first | exact Nat.le_refl _ | simp | omega) _
  refine Below.setCell ?_ (by first | exact Nat.le_refl _ | simp | omega) _
  refine Below.setCell ?_ (by first | exact Nat.le_refl _ | simp | omega) _
  refine Below.setCell ?_ (by first | exact Nat.le_refl _ | simp | omega) _
  exact hc.setCell (by first | exact Nat.le_refl _ | simp | omega) _
theorem parse_fmt (s x0 x1 x2 x3 : ByteArray) (w : World) (hE : EnvP w) (hs : s.size ≤ 100000) (hcut : cutAll 32 s.data.toList = [x0.data.toList, x1.data.toList, x2.data.toList, x3.data.toList]) (n : Int) (hp : Lib.parseIntB 64 x0.data.toList = .ok n) (hn0 : -9223372036854775808 ≤ n) (hn1 : n ≤ 9223372036854775807) (hf : (⟨(Lib.itoa n).toArray⟩ : ByteArray) ≠ x0) :
    Ret 68 #[.string s] w (.tuple #[atV at0, .bool false]) := by
  have HE := Lib.hid hE
  have hc := Below.refl w.heap.size w
  obtain ⟨T, hT⟩ : ∃ T : ByteArray, T = ⟨(Lib.itoa n).toArray⟩ := ⟨_, rfl⟩
  have cf := fun W (hW : EnvP W) => fmt_any n W hW.toEnv hn0 hn1
  rw [← hT] at cf hf
  have hf2 : (T.toList == x0.toList) = false := str_beq_ne hf
  have hf3 : (T.toList != x0.toList) = true := by rw [bne, hf2]; rfl
  have CF := Lib.hid cf
  clear cf hT hf hn0 hn1
  go_enter Tryz.func68, Tryz.ntmps68
  go_upto_region 1 with fail
  have r2 := Row.new (W := w) (cs := #[.int .i64 0, .int .i64 0, .int .i64 0, .int .u32 0, .int .i64 0, .int .i64 0]) (t := 43)
  have hn := below_alloc w (.cells #[.int .i64 0, .int .i64 0, .int .i64 0, .int .u32 0, .int .i64 0, .int .i64 0] 43)
  have wr2 : w.heap.size ≤ w.heap.size := hc.size
  replace hc := chain hc hn
  clear hn
  generalize w.alloc (.cells #[.int .i64 0, .int .i64 0, .int .i64 0, .int .u32 0, .int .i64 0, .int .i64 0] 43) = V1 at r2 hc ⊢
  have CS := Lib.hid (split_spL s V1 (HE.out.on hc).shp (by omega))
  have yr2 := r2.cell
  have zr2 := r2.lt
  go_wp2_with fail
  refine Calls.mono CS.out ?_
  rintro e W1 ⟨xs, g, rfl, hxs, rw, hn⟩
  clear yr2 zr2
  replace r2 := r2.on hn
  replace hc := chain hc hn
  clear hn
  clear CS
  have hx4 : xs = [x0, x1, x2, x3] := by
    rw [hcut] at hxs
    exact (List.map_inj_right (f := fun y : ByteArray => y.data.toList) (fun a b h => str_ext h)).1 (hxs.trans rfl)
  subst hx4
  replace rw : Row W1 g #[.string x0, .string x1, .string x2, .string x3] 9 := rw
  have hx0 : x0.size ≤ 100000 := by
    have h1 := join_cutAll 32 s.data.toList
    rw [hcut] at h1
    have h2 := congrArg List.length h1
    simp [Lib.join, List.intercalate, len_bytes] at h2
    omega
  clear hxs hcut hs
  have nr2_rw : w.heap.size ≠ g := rowP_ne r2 rw (by decide)
  simp only [List.length_cons, List.length_nil, Nat.zero_add, Nat.reduceAdd]
  have CP := Lib.hid (fun W => pint_ok x0 hx0 n hp W)
  clear hp
  have yr2 := r2.cell
  have zr2 := r2.lt
  have yrw := rw.cell
  have zrw := rw.lt
  go_wp2_with fail
  refine Calls.mono (CP.out _) ?_
  rintro e W2 ⟨rfl, hn⟩
  clear yr2 yrw zr2 zrw
  replace r2 := r2.on hn
  replace rw := rw.on hn
  replace hc := chain hc hn
  clear hn
  have yr2 := r2.cell
  have zr2 := r2.lt
  have yrw := rw.cell
  have zrw := rw.lt
  go_upto_region 5 with fail
  clear yr2 yrw zr2 zrw
  refine wp_region_held_drew (S := fun W' => (∀ j, W'.cell? ⟨g, j, none⟩ = (#[.string x0, .string x1, .string x2, .string x3] : Array Value)[j]?)) (by kernel_rfl) rw.cell (fun hHeld => ?_)
  replace r2 := r2.drew
  replace rw := rw.drew
  replace hc := hc.drew
  generalize W2.drew = W9 at *
  refine' wpAnyH_take (i := 0) (oi := _) (v := _) ?_ (by kernel_rfl) (by kernel_rfl) (by kernel_rfl) ?_ (Or.inl ⟨?_, ?_⟩) (by assumption) ?_
  rotate_left 2
  · (simp only [List.getElem?_toArray, List.getElem?_cons_succ, List.getElem?_cons_zero]; rfl)
  · first | exact fun _ _ _ h => h | exact fun _ _ _ h => nomatch h.1
  · rfl
  · (intro W hSW; (try dsimp only at hSW); go_split_ands; first | (go_simp; done) | (go_simp; with_reducible rfl))
  try simp only [Act.put, List.setIfInBounds_toArray, List.set_cons_zero, List.set_cons_succ]
  refine' wpAnyH_take (i := 1) (oi := _) (v := _) ?_ (by kernel_rfl) (by kernel_rfl) (by kernel_rfl) ?_ (Or.inl ⟨?_, ?_⟩) (by assumption) ?_
  rotate_left 2
  · (simp only [List.getElem?_toArray, List.getElem?_cons_succ, List.getElem?_cons_zero]; rfl)
  · first | exact fun _ _ _ h => h | exact fun _ _ _ h => nomatch h.1
  · rfl
  · (intro W hSW; (try dsimp only at hSW); go_split_ands; first | (go_simp; done) | (go_simp; with_reducible rfl))
  try simp only [Act.put, List.setIfInBounds_toArray, List.set_cons_zero, List.set_cons_succ]
  refine' wpAnyH_take (i := 2) (oi := _) (v := _) ?_ (by kernel_rfl) (by kernel_rfl) (by kernel_rfl) ?_ (Or.inl ⟨?_, ?_⟩) (by assumption) ?_
  rotate_left 2
  · (simp only [List.getElem?_toArray, List.getElem?_cons_succ, List.getElem?_cons_zero]; rfl)
  · first | exact fun _ _ _ h => h | exact fun _ _ _ h => nomatch h.1
  · rfl
  · (intro W hSW; (try dsimp only at hSW); go_split_ands; first | (go_simp; done) | (go_simp; with_reducible rfl))
  try simp only [Act.put, List.setIfInBounds_toArray, List.set_cons_zero, List.set_cons_succ]
  refine' wpAnyH_take (i := 3) (oi := _) (v := _) ?_ (by kernel_rfl) (by kernel_rfl) (by kernel_rfl) ?_ (Or.inl ⟨?_, ?_⟩) (by assumption) ?_
  rotate_left 2
  · (simp only [List.getElem?_toArray, List.getElem?_cons_succ, List.getElem?_cons_zero]; rfl)
  · first | exact fun _ _ _ h => h | exact fun _ _ _ h => nomatch h.1
  · rfl
  · (intro W hSW; (try dsimp only at hSW); go_split_ands; first | (go_simp; done) | (go_simp; with_reducible rfl))
  try simp only [Act.put, List.setIfInBounds_toArray, List.set_cons_zero, List.set_cons_succ]
  refine' wpAnyH_take (i := 5) (oi := _) (v := _) ?_ (by kernel_rfl) (by kernel_rfl) (by kernel_rfl) ?_ (Or.inl ⟨?_, ?_⟩) (by assumption) ?_
  rotate_left 2
  · (simp only [List.getElem?_toArray, List.getElem?_cons_succ, List.getElem?_cons_zero]; rfl)
  · first | exact fun _ _ _ h => h | exact fun _ _ _ h => nomatch h.1
  · rfl
  · (intro W hSW; (try dsimp only at hSW); go_split_ands; first | (go_simp; done) | (go_simp; with_reducible rfl))
  try simp only [Act.put, List.setIfInBounds_toArray, List.set_cons_zero, List.set_cons_succ]
  refine' wpAnyH_take (i := 6) (oi := _) (v := _) ?_ (by kernel_rfl) (by kernel_rfl) (by kernel_rfl) ?_ (Or.inl ⟨?_, ?_⟩) (by assumption) ?_
  rotate_left 2
  · (simp only [List.getElem?_toArray, List.getElem?_cons_succ, List.getElem?_cons_zero]; rfl)
  · first | exact fun _ _ _ h => h | exact fun _ _ _ h => nomatch h.1
  · rfl
  · (intro W hSW; (try dsimp only at hSW); go_split_ands; first | (go_simp; done) | (go_simp; with_reducible rfl))
  try simp only [Act.put, List.setIfInBounds_toArray, List.set_cons_zero, List.set_cons_succ]
  refine' wpAnyH_take (i := 7) (oi := _) (v := _) ?_ (by kernel_rfl) (by kernel_rfl) (by kernel_rfl) ?_ (Or.inl ⟨?_, ?_⟩) (by assumption) ?_
  rotate_left 2
  · (simp only [List.getElem?_toArray, List.getElem?_cons_succ, List.getElem?_cons_zero]; rfl)
  · first | exact fun _ _ _ h => h | exact fun _ _ _ h => nomatch h.1
  · rfl
  · (intro W hSW; (try dsimp only at hSW); go_split_ands; first | (go_simp; done) | (go_simp; with_reducible rfl))
  try simp only [Act.put, List.setIfInBounds_toArray, List.set_cons_zero, List.set_cons_succ]
  clear hHeld
  refine wpAnyH_ready (rs := [4]) (by kernel_rfl) (by simp) ?_
  refine' AllReadyH.cons (o := _) ?_ (fun K hK => ?_) AllReadyH.nil
  rotate_left 1
  · (simp only [List.getElem?_toArray, List.getElem?_cons_succ, List.getElem?_cons_zero]; rfl)
  go_simp
  refine Calls.mono (CF.out _ (HE.out.on hc)) ?_
  rintro e W4 ⟨rfl, hn⟩
  replace r2 := r2.on hn
  replace rw := rw.on hn
  replace hc := chain hc hn
  clear hn
  go_simp
  refine hK.out _ _ rw.cell (fun hHeld => ?_)
  clear hK K
  refine' wpAnyH_take (i := 8) (oi := _) (v := _) ?_ (by kernel_rfl) (by kernel_rfl) (by kernel_rfl) ?_ (Or.inl ⟨?_, ?_⟩) (by assumption) ?_
  rotate_left 2
  · (simp only [List.getElem?_toArray, List.getElem?_cons_succ, List.getElem?_cons_zero]; rfl)
  · first | exact fun _ _ _ h => h | exact fun _ _ _ h => nomatch h.1
  · rfl
  · (intro W hSW; (try dsimp only at hSW); go_split_ands; first | (go_simp; done) | (go_simp; with_reducible rfl))
  try simp only [Act.put, List.setIfInBounds_toArray, List.set_cons_zero, List.set_cons_succ]
  refine' wpAnyH_take (i := 9) (oi := _) (v := _) ?_ (by kernel_rfl) (by kernel_rfl) (by kernel_rfl) ?_ (Or.inl ⟨?_, ?_⟩) (by assumption) ?_
  rotate_left 2
  · (simp only [List.getElem?_toArray, List.getElem?_cons_succ, List.getElem?_cons_zero]; rfl)
  · first | exact fun _ _ _ h => h | exact fun _ _ _ h => nomatch h.1
  · rfl
  · (intro W hSW; (try dsimp only at hSW); go_split_ands; first | (go_simp; done) | (go_simp; with_reducible rfl))
  try simp only [Act.put, List.setIfInBounds_toArray, List.set_cons_zero, List.set_cons_succ]
  clear hHeld
  refine wpAnyH_done (by kernel_rfl) ?_ _
  have yr2 := r2.cell
  have zr2 := r2.lt
  have yrw := rw.cell
  have zrw := rw.lt
  have ur2 := r2.free
  go_wp2_with fail
  refine bodyPost_ret (v := .tuple #[atV at0, .bool false]) (by simp [results, Tryz.results68, go_sem, yr2, zr2, ur2]) rfl ⟨rfl, ?_⟩
  refine Below.setCell ?_ (by first | exact Nat.le_refl _ | simp | omega) _
  refine Below.setCell ?_ (by first | exact Nat.le_refl _ | simp | omega) _
  refine Below.setCell ?_ (by first | exact Nat.le_refl _ | simp | omega) _
  refine Below.setCell ?_ (by first | exact Nat.le_refl _ | simp | omega) _
  refine Below.setCell ?_ (by first | exact Nat.le_refl _ | simp | omega) _
  exact hc.setCell (by first | exact Nat.le_refl _ | simp | omega) _
theorem parse_out (s x0 x1 x2 x3 : ByteArray) (w : World) (hE : EnvP w) (hs : s.size ≤ 100000) (hcut : cutAll 32 s.data.toList = [x0.data.toList, x1.data.toList, x2.data.toList, x3.data.toList]) (n : Int) (hp : Lib.parseIntB 64 x0.data.toList = .ok n) (hn0 : -9223372036854775808 ≤ n) (hn1 : n ≤ 9223372036854775807) (hf : (⟨(Lib.itoa n).toArray⟩ : ByteArray) = x0) (k i g0 : Int) (hg : 0 ≤ g0 ∧ g0 ≤ 4294967295) (f : Int) (hf0 : f ≠ 0) (ho : ∀ W, EnvP W → Ret 101 #[.string x1] W (.tuple #[.agg #[.int .i64 k, .int .i64 i, .int .u32 g0], .int .i64 f])) :
    Ret 68 #[.string s] w (.tuple #[atV at0, .bool false]) := by
  have HE := Lib.hid hE
  have hc := Below.refl w.heap.size w
  have cf := fun W (hW : EnvP W) => fmt_any n W hW.toEnv hn0 hn1
  rw [hf] at cf
  have hf2 : (x0.toList == x0.toList) = true := by simp
  have hf3 : (x0.toList != x0.toList) = false := by simp
  have CF := Lib.hid cf
  have CO := Lib.hid ho
  have CY := Lib.hid (fun b W hr => wwhy_c x2 b W hr)
  have CZ := Lib.hid (fun b W hr => wans_c x3 b W hr)
  have CC := Lib.hid (fun W => acheck_c ⟨n, k, i, g0, whyI x2.data.toList, ansI x3.data.toList⟩ hg W)
  obtain ⟨y, hy⟩ : ∃ y, y = whyI x2.data.toList := ⟨_, rfl⟩
  obtain ⟨z, hz⟩ : ∃ z, z = ansI x3.data.toList := ⟨_, rfl⟩
  rw [← hy] at CY CC
  rw [← hz] at CZ CC
  have q0 : (f != (0 : Int)) = true := by rw [bne_iff_ne]; exact hf0
  clear hf0
  clear cf hf hn0 hn1 hg ho hy hz
  go_enter Tryz.func68, Tryz.ntmps68
  go_upto_region 1 with fail
  have r2 := Row.new (W := w) (cs := #[.int .i64 0, .int .i64 0, .int .i64 0, .int .u32 0, .int .i64 0, .int .i64 0]) (t := 43)
  have hn := below_alloc w (.cells #[.int .i64 0, .int .i64 0, .int .i64 0, .int .u32 0, .int .i64 0, .int .i64 0] 43)
  have wr2 : w.heap.size ≤ w.heap.size := hc.size
  replace hc := chain hc hn
  clear hn
  generalize w.alloc (.cells #[.int .i64 0, .int .i64 0, .int .i64 0, .int .u32 0, .int .i64 0, .int .i64 0] 43) = V1 at r2 hc ⊢
  have CS := Lib.hid (split_spL s V1 (HE.out.on hc).shp (by omega))
  have yr2 := r2.cell
  have zr2 := r2.lt
  go_wp2_with fail
  refine Calls.mono CS.out ?_
  rintro e W1 ⟨xs, g, rfl, hxs, rw, hn⟩
  clear yr2 zr2
  replace r2 := r2.on hn
  replace hc := chain hc hn
  clear hn
  clear CS
  have hx4 : xs = [x0, x1, x2, x3] := by
    rw [hcut] at hxs
    exact (List.map_inj_right (f := fun y : ByteArray => y.data.toList) (fun a b h => str_ext h)).1 (hxs.trans rfl)
  subst hx4
  replace rw : Row W1 g #[.string x0, .string x1, .string x2, .string x3] 9 := rw
  have hx0 : x0.size ≤ 100000 := by
    have h1 := join_cutAll 32 s.data.toList
    rw [hcut] at h1
    have h2 := congrArg List.length h1
    simp [Lib.join, List.intercalate, len_bytes] at h2
    omega
  clear hxs hcut hs
  have nr2_rw : w.heap.size ≠ g := rowP_ne r2 rw (by decide)
  simp only [List.length_cons, List.length_nil, Nat.zero_add, Nat.reduceAdd]
  have CP := Lib.hid (fun W => pint_ok x0 hx0 n hp W)
  clear hp
  have yr2 := r2.cell
  have zr2 := r2.lt
  have yrw := rw.cell
  have zrw := rw.lt
  go_wp2_with fail
  refine Calls.mono (CP.out _) ?_
  rintro e W2 ⟨rfl, hn⟩
  clear yr2 yrw zr2 zrw
  replace r2 := r2.on hn
  replace rw := rw.on hn
  replace hc := chain hc hn
  clear hn
  have yr2 := r2.cell
  have zr2 := r2.lt
  have yrw := rw.cell
  have zrw := rw.lt
  go_upto_region 5 with fail
  clear yr2 yrw zr2 zrw
  refine wp_region_held_drew (S := fun W' => (∀ j, W'.cell? ⟨g, j, none⟩ = (#[.string x0, .string x1, .string x2, .string x3] : Array Value)[j]?)) (by kernel_rfl) rw.cell (fun hHeld => ?_)
  replace r2 := r2.drew
  replace rw := rw.drew
  replace hc := hc.drew
  generalize W2.drew = W9 at *
  refine' wpAnyH_take (i := 0) (oi := _) (v := _) ?_ (by kernel_rfl) (by kernel_rfl) (by kernel_rfl) ?_ (Or.inl ⟨?_, ?_⟩) (by assumption) ?_
  rotate_left 2
  · (simp only [List.getElem?_toArray, List.getElem?_cons_succ, List.getElem?_cons_zero]; rfl)
  · first | exact fun _ _ _ h => h | exact fun _ _ _ h => nomatch h.1
  · rfl
  · (intro W hSW; (try dsimp only at hSW); go_split_ands; first | (go_simp; done) | (go_simp; with_reducible rfl))
  try simp only [Act.put, List.setIfInBounds_toArray, List.set_cons_zero, List.set_cons_succ]
  refine' wpAnyH_take (i := 1) (oi := _) (v := _) ?_ (by kernel_rfl) (by kernel_rfl) (by kernel_rfl) ?_ (Or.inl ⟨?_, ?_⟩) (by assumption) ?_
  rotate_left 2
  · (simp only [List.getElem?_toArray, List.getElem?_cons_succ, List.getElem?_cons_zero]; rfl)
  · first | exact fun _ _ _ h => h | exact fun _ _ _ h => nomatch h.1
  · rfl
  · (intro W hSW; (try dsimp only at hSW); go_split_ands; first | (go_simp; done) | (go_simp; with_reducible rfl))
  try simp only [Act.put, List.setIfInBounds_toArray, List.set_cons_zero, List.set_cons_succ]
  refine' wpAnyH_take (i := 2) (oi := _) (v := _) ?_ (by kernel_rfl) (by kernel_rfl) (by kernel_rfl) ?_ (Or.inl ⟨?_, ?_⟩) (by assumption) ?_
  rotate_left 2
  · (simp only [List.getElem?_toArray, List.getElem?_cons_succ, List.getElem?_cons_zero]; rfl)
  · first | exact fun _ _ _ h => h | exact fun _ _ _ h => nomatch h.1
  · rfl
  · (intro W hSW; (try dsimp only at hSW); go_split_ands; first | (go_simp; done) | (go_simp; with_reducible rfl))
  try simp only [Act.put, List.setIfInBounds_toArray, List.set_cons_zero, List.set_cons_succ]
  refine' wpAnyH_take (i := 3) (oi := _) (v := _) ?_ (by kernel_rfl) (by kernel_rfl) (by kernel_rfl) ?_ (Or.inl ⟨?_, ?_⟩) (by assumption) ?_
  rotate_left 2
  · (simp only [List.getElem?_toArray, List.getElem?_cons_succ, List.getElem?_cons_zero]; rfl)
  · first | exact fun _ _ _ h => h | exact fun _ _ _ h => nomatch h.1
  · rfl
  · (intro W hSW; (try dsimp only at hSW); go_split_ands; first | (go_simp; done) | (go_simp; with_reducible rfl))
  try simp only [Act.put, List.setIfInBounds_toArray, List.set_cons_zero, List.set_cons_succ]
  refine' wpAnyH_take (i := 5) (oi := _) (v := _) ?_ (by kernel_rfl) (by kernel_rfl) (by kernel_rfl) ?_ (Or.inl ⟨?_, ?_⟩) (by assumption) ?_
  rotate_left 2
  · (simp only [List.getElem?_toArray, List.getElem?_cons_succ, List.getElem?_cons_zero]; rfl)
  · first | exact fun _ _ _ h => h | exact fun _ _ _ h => nomatch h.1
  · rfl
  · (intro W hSW; (try dsimp only at hSW); go_split_ands; first | (go_simp; done) | (go_simp; with_reducible rfl))
  try simp only [Act.put, List.setIfInBounds_toArray, List.set_cons_zero, List.set_cons_succ]
  refine' wpAnyH_take (i := 6) (oi := _) (v := _) ?_ (by kernel_rfl) (by kernel_rfl) (by kernel_rfl) ?_ (Or.inl ⟨?_, ?_⟩) (by assumption) ?_
  rotate_left 2
  · (simp only [List.getElem?_toArray, List.getElem?_cons_succ, List.getElem?_cons_zero]; rfl)
  · first | exact fun _ _ _ h => h | exact fun _ _ _ h => nomatch h.1
  · rfl
  · (intro W hSW; (try dsimp only at hSW); go_split_ands; first | (go_simp; done) | (go_simp; with_reducible rfl))
  try simp only [Act.put, List.setIfInBounds_toArray, List.set_cons_zero, List.set_cons_succ]
  refine' wpAnyH_take (i := 7) (oi := _) (v := _) ?_ (by kernel_rfl) (by kernel_rfl) (by kernel_rfl) ?_ (Or.inl ⟨?_, ?_⟩) (by assumption) ?_
  rotate_left 2
  · (simp only [List.getElem?_toArray, List.getElem?_cons_succ, List.getElem?_cons_zero]; rfl)
  · first | exact fun _ _ _ h => h | exact fun _ _ _ h => nomatch h.1
  · rfl
  · (intro W hSW; (try dsimp only at hSW); go_split_ands; first | (go_simp; done) | (go_simp; with_reducible rfl))
  try simp only [Act.put, List.setIfInBounds_toArray, List.set_cons_zero, List.set_cons_succ]
  clear hHeld
  refine wpAnyH_ready (rs := [4]) (by kernel_rfl) (by simp) ?_
  refine' AllReadyH.cons (o := _) ?_ (fun K hK => ?_) AllReadyH.nil
  rotate_left 1
  · (simp only [List.getElem?_toArray, List.getElem?_cons_succ, List.getElem?_cons_zero]; rfl)
  go_simp
  refine Calls.mono (CF.out _ (HE.out.on hc)) ?_
  rintro e W4 ⟨rfl, hn⟩
  replace r2 := r2.on hn
  replace rw := rw.on hn
  replace hc := chain hc hn
  clear hn
  go_simp
  refine hK.out _ _ rw.cell (fun hHeld => ?_)
  clear hK K
  refine' wpAnyH_take (i := 8) (oi := _) (v := _) ?_ (by kernel_rfl) (by kernel_rfl) (by kernel_rfl) ?_ (Or.inl ⟨?_, ?_⟩) (by assumption) ?_
  rotate_left 2
  · (simp only [List.getElem?_toArray, List.getElem?_cons_succ, List.getElem?_cons_zero]; rfl)
  · first | exact fun _ _ _ h => h | exact fun _ _ _ h => nomatch h.1
  · rfl
  · (intro W hSW; (try dsimp only at hSW); go_split_ands; first | (go_simp; done) | (go_simp; with_reducible rfl))
  try simp only [Act.put, List.setIfInBounds_toArray, List.set_cons_zero, List.set_cons_succ]
  refine' wpAnyH_take (i := 9) (oi := _) (v := _) ?_ (by kernel_rfl) (by kernel_rfl) (by kernel_rfl) ?_ (Or.inl ⟨?_, ?_⟩) (by assumption) ?_
  rotate_left 2
  · (simp only [List.getElem?_toArray, List.getElem?_cons_succ, List.getElem?_cons_zero]; rfl)
  · first | exact fun _ _ _ h => h | exact fun _ _ _ h => nomatch h.1
  · rfl
  · (intro W hSW; (try dsimp only at hSW); go_split_ands; first | (go_simp; done) | (go_simp; with_reducible rfl))
  try simp only [Act.put, List.setIfInBounds_toArray, List.set_cons_zero, List.set_cons_succ]
  clear hHeld
  refine wpAnyH_done (by kernel_rfl) ?_ _
  have yr2 := r2.cell
  have zr2 := r2.lt
  have yrw := rw.cell
  have zrw := rw.lt
  go_wp2_with fail
  refine Calls.mono (CO.out _ (HE.out.on hc)) ?_
  rintro e W5 ⟨rfl, hn⟩
  clear yr2 yrw zr2 zrw
  replace r2 := r2.on hn
  replace rw := rw.on hn
  replace hc := chain hc hn
  clear hn
  have yr2 := r2.cell
  have zr2 := r2.lt
  have yrw := rw.cell
  have zrw := rw.lt
  go_upto_region 8 with fail
  clear yr2 yrw zr2 zrw
  have r7 := Row.new (W := W5) (cs := #[.int .i64 k, .int .i64 i, .int .u32 g0]) (t := 41)
  have hn := below_alloc W5 (.cells #[.int .i64 k, .int .i64 i, .int .u32 g0] 41)
  have nr2_r7 : w.heap.size ≠ W5.heap.size := Nat.ne_of_lt r2.lt
  have nrw_r7 : g ≠ W5.heap.size := Nat.ne_of_lt rw.lt
  have wr7 : w.heap.size ≤ W5.heap.size := hc.size
  replace r2 := r2.on hn
  replace rw := rw.on hn
  replace hc := chain hc hn
  clear hn
  generalize W5.alloc (.cells #[.int .i64 k, .int .i64 i, .int .u32 g0] 41) = V2 at r2 rw r7 hc ⊢
  generalize W5.heap.size = b7 at *
  go_cut [9] (fun bv wx => ∃ b9, bv = .pointer (some ⟨b9, 0, none⟩) ∧ b9 ≠ w.heap.size ∧ Row wx b9 #[.int .i64 n, .int .i64 k, .int .i64 i, .int .u32 g0, .int .i64 y, .int .i64 z] 43 ∧ Row wx w.heap.size #[.int .i64 0, .int .i64 0, .int .i64 0, .int .u32 0, .int .i64 0, .int .i64 0] 43 ∧ Below w.heap.size w wx)
  case first =>
    refine wp_region_held_drew (S := fun W' => (∀ j, W'.cell? ⟨b7, j, none⟩ = #[.int .i64 k, .int .i64 i, .int .u32 g0][j]?) ∧ (∀ j, W'.cell? ⟨g, j, none⟩ = (#[.string x0, .string x1, .string x2, .string x3] : Array Value)[j]?)) (by kernel_rfl) ⟨r7.cell, rw.cell⟩ (fun hHeld => ?_)
    replace r2 := r2.drew
    replace rw := rw.drew
    replace r7 := r7.drew
    replace hc := hc.drew
    generalize V2.drew = V3 at *
    refine' wpAnyH_take (i := 0) (oi := _) (v := _) ?_ (by kernel_rfl) (by kernel_rfl) (by kernel_rfl) ?_ (Or.inl ⟨?_, ?_⟩) (by assumption) ?_
    rotate_left 2
    · (simp only [List.getElem?_toArray, List.getElem?_cons_succ, List.getElem?_cons_zero]; rfl)
    · first | exact fun _ _ _ h => h | exact fun _ _ _ h => nomatch h.1
    · rfl
    · (intro W hSW; (try dsimp only at hSW); go_split_ands; first | (go_simp; done) | (go_simp; with_reducible rfl))
    try simp only [Act.put, List.setIfInBounds_toArray, List.set_cons_zero, List.set_cons_succ]
    refine' wpAnyH_take (i := 1) (oi := _) (v := _) ?_ (by kernel_rfl) (by kernel_rfl) (by kernel_rfl) ?_ (Or.inl ⟨?_, ?_⟩) (by assumption) ?_
    rotate_left 2
    · (simp only [List.getElem?_toArray, List.getElem?_cons_succ, List.getElem?_cons_zero]; rfl)
    · first | exact fun _ _ _ h => h | exact fun _ _ _ h => nomatch h.1
    · rfl
    · (intro W hSW; (try dsimp only at hSW); go_split_ands; first | (go_simp; done) | (go_simp; with_reducible rfl))
    try simp only [Act.put, List.setIfInBounds_toArray, List.set_cons_zero, List.set_cons_succ]
    refine' wpAnyH_take (i := 2) (oi := _) (v := _) ?_ (by kernel_rfl) (by kernel_rfl) (by kernel_rfl) ?_ (Or.inl ⟨?_, ?_⟩) (by assumption) ?_
    rotate_left 2
    · (simp only [List.getElem?_toArray, List.getElem?_cons_succ, List.getElem?_cons_zero]; rfl)
    · first | exact fun _ _ _ h => h | exact fun _ _ _ h => nomatch h.1
    · rfl
    · (intro W hSW; (try dsimp only at hSW); go_split_ands; first | (go_simp; done) | (go_simp; with_reducible rfl))
    try simp only [Act.put, List.setIfInBounds_toArray, List.set_cons_zero, List.set_cons_succ]
    refine' wpAnyH_take (i := 3) (oi := _) (v := _) ?_ (by kernel_rfl) (by kernel_rfl) (by kernel_rfl) ?_ (Or.inl ⟨?_, ?_⟩) (by assumption) ?_
    rotate_left 2
    · (simp only [List.getElem?_toArray, List.getElem?_cons_succ, List.getElem?_cons_zero]; rfl)
    · first | exact fun _ _ _ h => h | exact fun _ _ _ h => nomatch h.1
    · rfl
    · (intro W hSW; (try dsimp only at hSW); go_split_ands; first | (go_simp; done) | (go_simp; with_reducible rfl))
    try simp only [Act.put, List.setIfInBounds_toArray, List.set_cons_zero, List.set_cons_succ]
    refine' wpAnyH_take (i := 4) (oi := _) (v := _) ?_ (by kernel_rfl) (by kernel_rfl) (by kernel_rfl) ?_ (Or.inl ⟨?_, ?_⟩) (by assumption) ?_
    rotate_left 2
    · (simp only [List.getElem?_toArray, List.getElem?_cons_succ, List.getElem?_cons_zero]; rfl)
    · first | exact fun _ _ _ h => h | exact fun _ _ _ h => nomatch h.1
    · rfl
    · (intro W hSW; (try dsimp only at hSW); go_split_ands; first | (go_simp; done) | (go_simp; with_reducible rfl))
    try simp only [Act.put, List.setIfInBounds_toArray, List.set_cons_zero, List.set_cons_succ]
    refine' wpAnyH_take (i := 7) (oi := _) (v := _) ?_ (by kernel_rfl) (by kernel_rfl) (by kernel_rfl) ?_ (Or.inl ⟨?_, ?_⟩) (by assumption) ?_
    rotate_left 2
    · (simp only [List.getElem?_toArray, List.getElem?_cons_succ, List.getElem?_cons_zero]; rfl)
    · first | exact fun _ _ _ h => h | exact fun _ _ _ h => nomatch h.1
    · rfl
    · (intro W hSW; (try dsimp only at hSW); go_split_ands; first | (go_simp; done) | (go_simp; with_reducible rfl))
    try simp only [Act.put, List.setIfInBounds_toArray, List.set_cons_zero, List.set_cons_succ]
    refine' wpAnyH_take (i := 8) (oi := _) (v := _) ?_ (by kernel_rfl) (by kernel_rfl) (by kernel_rfl) ?_ (Or.inl ⟨?_, ?_⟩) (by assumption) ?_
    rotate_left 2
    · (simp only [List.getElem?_toArray, List.getElem?_cons_succ, List.getElem?_cons_zero]; rfl)
    · first | exact fun _ _ _ h => h | exact fun _ _ _ h => nomatch h.1
    · rfl
    · (intro W hSW; (try dsimp only at hSW); go_split_ands; first | (go_simp; done) | (go_simp; with_reducible rfl))
    try simp only [Act.put, List.setIfInBounds_toArray, List.set_cons_zero, List.set_cons_succ]
    refine' wpAnyH_take (i := 9) (oi := _) (v := _) ?_ (by kernel_rfl) (by kernel_rfl) (by kernel_rfl) ?_ (Or.inl ⟨?_, ?_⟩) (by assumption) ?_
    rotate_left 2
    · (simp only [List.getElem?_toArray, List.getElem?_cons_succ, List.getElem?_cons_zero]; rfl)
    · first | exact fun _ _ _ h => h | exact fun _ _ _ h => nomatch h.1
    · rfl
    · (intro W hSW; (try dsimp only at hSW); go_split_ands; first | (go_simp; done) | (go_simp; with_reducible rfl))
    try simp only [Act.put, List.setIfInBounds_toArray, List.set_cons_zero, List.set_cons_succ]
    clear hHeld
    refine wpAnyH_ready (rs := [5, 13]) (by kernel_rfl) (by simp) ?_
    refine' AllReadyH.cons (o := _) (by simp only [List.getElem?_toArray, List.getElem?_cons_succ, List.getElem?_cons_zero]; rfl) (fun K hK => ?_) (AllReadyH.cons (o := _) (by simp only [List.getElem?_toArray, List.getElem?_cons_succ, List.getElem?_cons_zero]; rfl) (fun K hK => ?_) AllReadyH.nil)
    · go_simp
      refine Calls.mono (whysR_c _) ?_
      rintro e V4 ⟨b5, rfl, r5, hn⟩
      replace r2 := r2.on hn
      replace rw := rw.on hn
      replace r7 := r7.on hn
      replace hc := chain hc hn
      clear hn
      go_simp
      refine hK.out _ _ ⟨r7.cell, rw.cell⟩ (fun hHeld => ?_)
      clear hK K
      clear hHeld
      refine wpAnyH_ready (rs := [6, 13]) (by kernel_rfl) (by simp) ?_
      refine' AllReadyH.cons (o := _) (by simp only [List.getElem?_toArray, List.getElem?_cons_succ, List.getElem?_cons_zero]; rfl) (fun K hK => ?_) (AllReadyH.cons (o := _) (by simp only [List.getElem?_toArray, List.getElem?_cons_succ, List.getElem?_cons_zero]; rfl) (fun K hK => ?_) AllReadyH.nil)
      · go_simp
        refine Calls.mono (CY.out b5 _ r5) ?_
        rintro e V5 ⟨rfl, hn⟩
        clear r5
        replace r2 := r2.on hn
        replace rw := rw.on hn
        replace r7 := r7.on hn
        replace hc := chain hc hn
        clear hn
        go_simp
        refine hK.out _ _ ⟨r7.cell, rw.cell⟩ (fun hHeld => ?_)
        clear hK K
        clear hHeld
        refine wpAnyH_ready (rs := [10, 13]) (by kernel_rfl) (by simp) ?_
        refine' AllReadyH.cons (o := _) (by simp only [List.getElem?_toArray, List.getElem?_cons_succ, List.getElem?_cons_zero]; rfl) (fun K hK => ?_) (AllReadyH.cons (o := _) (by simp only [List.getElem?_toArray, List.getElem?_cons_succ, List.getElem?_cons_zero]; rfl) (fun K hK => ?_) AllReadyH.nil)
        · go_simp
          refine Calls.mono (answersR_c _) ?_
          rintro e V6 ⟨b10, rfl, r10, hn⟩
          replace r2 := r2.on hn
          replace rw := rw.on hn
          replace r7 := r7.on hn
          replace hc := chain hc hn
          clear hn
          go_simp
          refine hK.out _ _ ⟨r7.cell, rw.cell⟩ (fun hHeld => ?_)
          clear hK K
          clear hHeld
          refine wpAnyH_ready (rs := [11, 13]) (by kernel_rfl) (by simp) ?_
          refine' AllReadyH.cons (o := _) (by simp only [List.getElem?_toArray, List.getElem?_cons_succ, List.getElem?_cons_zero]; rfl) (fun K hK => ?_) (AllReadyH.cons (o := _) (by simp only [List.getElem?_toArray, List.getElem?_cons_succ, List.getElem?_cons_zero]; rfl) (fun K hK => ?_) AllReadyH.nil)
          · go_simp
            refine Calls.mono (CZ.out b10 _ r10) ?_
            rintro e V7 ⟨rfl, hn⟩
            clear r10
            replace r2 := r2.on hn
            replace rw := rw.on hn
            replace r7 := r7.on hn
            replace hc := chain hc hn
            clear hn
            go_simp
            refine hK.out _ _ ⟨r7.cell, rw.cell⟩ (fun hHeld => ?_)
            clear hK K
            refine' wpAnyH_take (i := 12) (oi := _) (v := _) ?_ (by kernel_rfl) (by kernel_rfl) (by kernel_rfl) ?_ (Or.inl ⟨?_, ?_⟩) (by assumption) ?_
            rotate_left 2
            · (simp only [List.getElem?_toArray, List.getElem?_cons_succ, List.getElem?_cons_zero]; rfl)
            · first | exact fun _ _ _ h => h | exact fun _ _ _ h => nomatch h.1
            · rfl
            · (intro W hSW; (try dsimp only at hSW); go_split_ands; first | (go_simp; done) | (go_simp; with_reducible rfl))
            try simp only [Act.put, List.setIfInBounds_toArray, List.set_cons_zero, List.set_cons_succ]
            clear hHeld
            refine wpAnyH_ready (rs := [13]) (by kernel_rfl) (by simp) ?_
            refine' AllReadyH.cons (o := _) ?_ (fun K hK => ?_) AllReadyH.nil
            rotate_left 1
            · (simp only [List.getElem?_toArray, List.getElem?_cons_succ, List.getElem?_cons_zero]; rfl)
            go_simp
            have r9 := Row.new (W := V7) (cs := #[.int .i64 0, .int .i64 0, .int .i64 0, .int .u32 0, .int .i64 0, .int .i64 0]) (t := 43)
            have hn := below_alloc V7 (.cells #[.int .i64 0, .int .i64 0, .int .i64 0, .int .u32 0, .int .i64 0, .int .i64 0] 43)
            have nr2_r9 : w.heap.size ≠ V7.heap.size := Nat.ne_of_lt r2.lt
            have nrw_r9 : g ≠ V7.heap.size := Nat.ne_of_lt rw.lt
            have nr7_r9 : b7 ≠ V7.heap.size := Nat.ne_of_lt r7.lt
            have wr9 : w.heap.size ≤ V7.heap.size := hc.size
            replace r2 := r2.on hn
            replace rw := rw.on hn
            replace r7 := r7.on hn
            replace hc := chain hc hn
            clear hn
            generalize V7.alloc (.cells #[.int .i64 0, .int .i64 0, .int .i64 0, .int .u32 0, .int .i64 0, .int .i64 0] 43) = V8 at r2 rw r7 r9 hc ⊢
            generalize V7.heap.size = b9 at *
            refine hK.out _ _ ⟨r7.cell, rw.cell⟩ (fun hHeld => ?_)
            clear hK K
            clear hHeld
            have yr9 := r9.cell
            have zr9 := r9.lt
            have ur9 := r9.free
            refine wpAnyH_ready (rs := [14]) (by kernel_rfl) (by simp) ?_
            refine' AllReadyH.cons (o := _) ?_ (fun K hK => ?_) AllReadyH.nil
            rotate_left 1
            · (simp only [List.getElem?_toArray, List.getElem?_cons_succ, List.getElem?_cons_zero]; rfl)
            go_simp
            clear yr9 zr9 ur9
            replace r2 := ((((((r2.other nr2_r9.symm 0 (.int .i64 n)).other nr2_r9.symm 1 (.int .i64 k)).other nr2_r9.symm 2 (.int .i64 i)).other nr2_r9.symm 3 (.int .u32 g0)).other nr2_r9.symm 4 (.int .i64 y)).other nr2_r9.symm 5 (.int .i64 z))
            replace rw := ((((((rw.other nrw_r9.symm 0 (.int .i64 n)).other nrw_r9.symm 1 (.int .i64 k)).other nrw_r9.symm 2 (.int .i64 i)).other nrw_r9.symm 3 (.int .u32 g0)).other nrw_r9.symm 4 (.int .i64 y)).other nrw_r9.symm 5 (.int .i64 z))
            replace r7 := ((((((r7.other nr7_r9.symm 0 (.int .i64 n)).other nr7_r9.symm 1 (.int .i64 k)).other nr7_r9.symm 2 (.int .i64 i)).other nr7_r9.symm 3 (.int .u32 g0)).other nr7_r9.symm 4 (.int .i64 y)).other nr7_r9.symm 5 (.int .i64 z))
            replace r9 := ((((((r9.set 0 (.int .i64 n)).set 1 (.int .i64 k)).set 2 (.int .i64 i)).set 3 (.int .u32 g0)).set 4 (.int .i64 y)).set 5 (.int .i64 z))
            simp only [List.setIfInBounds_toArray, List.set_cons_zero, List.set_cons_succ] at r9
            replace hc := ((((((hc.setCell (p := ⟨b9, 0, none⟩) wr9 (.int .i64 n)).setCell (p := ⟨b9, 1, none⟩) wr9 (.int .i64 k)).setCell (p := ⟨b9, 2, none⟩) wr9 (.int .i64 i)).setCell (p := ⟨b9, 3, none⟩) wr9 (.int .u32 g0)).setCell (p := ⟨b9, 4, none⟩) wr9 (.int .i64 y)).setCell (p := ⟨b9, 5, none⟩) wr9 (.int .i64 z))
            generalize hW : World.setCell _ _ _ = V9 at *
            clear hW
            refine hK.out _ _ ⟨r7.cell, rw.cell⟩ (fun hHeld => ?_)
            clear hK K
            clear hHeld
            refine wpAnyH_done (by kernel_rfl) ?_ _
            go_wp2_with fail
            go_meet
            exact ⟨_, rfl, nr2_r9.symm, r9, r2, hc⟩
          · go_simp
            have r9 := Row.new (W := V6) (cs := #[.int .i64 0, .int .i64 0, .int .i64 0, .int .u32 0, .int .i64 0, .int .i64 0]) (t := 43)
            have hn := below_alloc V6 (.cells #[.int .i64 0, .int .i64 0, .int .i64 0, .int .u32 0, .int .i64 0, .int .i64 0] 43)
            have nr2_r9 : w.heap.size ≠ V6.heap.size := Nat.ne_of_lt r2.lt
            have nrw_r9 : g ≠ V6.heap.size := Nat.ne_of_lt rw.lt
            have nr7_r9 : b7 ≠ V6.heap.size := Nat.ne_of_lt r7.lt
            have wr9 : w.heap.size ≤ V6.heap.size := hc.size
            replace r2 := r2.on hn
            replace rw := rw.on hn
            replace r7 := r7.on hn
            replace r10 := r10.on hn
            replace hc := chain hc hn
            clear hn
            generalize V6.alloc (.cells #[.int .i64 0, .int .i64 0, .int .i64 0, .int .u32 0, .int .i64 0, .int .i64 0] 43) = V7 at r2 rw r7 r10 r9 hc ⊢
            generalize V6.heap.size = b9 at *
            refine hK.out _ _ ⟨r7.cell, rw.cell⟩ (fun hHeld => ?_)
            clear hK K
            clear hHeld
            refine wpAnyH_ready (rs := [11]) (by kernel_rfl) (by simp) ?_
            refine' AllReadyH.cons (o := _) ?_ (fun K hK => ?_) AllReadyH.nil
            rotate_left 1
            · (simp only [List.getElem?_toArray, List.getElem?_cons_succ, List.getElem?_cons_zero]; rfl)
            go_simp
            refine Calls.mono (CZ.out b10 _ r10) ?_
            rintro e V8 ⟨rfl, hn⟩
            clear r10
            replace r2 := r2.on hn
            replace rw := rw.on hn
            replace r7 := r7.on hn
            replace r9 := r9.on hn
            replace hc := chain hc hn
            clear hn
            go_simp
            refine hK.out _ _ ⟨r7.cell, rw.cell⟩ (fun hHeld => ?_)
            clear hK K
            refine' wpAnyH_take (i := 12) (oi := _) (v := _) ?_ (by kernel_rfl) (by kernel_rfl) (by kernel_rfl) ?_ (Or.inl ⟨?_, ?_⟩) (by assumption) ?_
            rotate_left 2
            · (simp only [List.getElem?_toArray, List.getElem?_cons_succ, List.getElem?_cons_zero]; rfl)
            · first | exact fun _ _ _ h => h | exact fun _ _ _ h => nomatch h.1
            · rfl
            · (intro W hSW; (try dsimp only at hSW); go_split_ands; first | (go_simp; done) | (go_simp; with_reducible rfl))
            try simp only [Act.put, List.setIfInBounds_toArray, List.set_cons_zero, List.set_cons_succ]
            clear hHeld
            have yr9 := r9.cell
            have zr9 := r9.lt
            have ur9 := r9.free
            refine wpAnyH_ready (rs := [14]) (by kernel_rfl) (by simp) ?_
            refine' AllReadyH.cons (o := _) ?_ (fun K hK => ?_) AllReadyH.nil
            rotate_left 1
            · (simp only [List.getElem?_toArray, List.getElem?_cons_succ, List.getElem?_cons_zero]; rfl)
            go_simp
            clear yr9 zr9 ur9
            replace r2 := ((((((r2.other nr2_r9.symm 0 (.int .i64 n)).other nr2_r9.symm 1 (.int .i64 k)).other nr2_r9.symm 2 (.int .i64 i)).other nr2_r9.symm 3 (.int .u32 g0)).other nr2_r9.symm 4 (.int .i64 y)).other nr2_r9.symm 5 (.int .i64 z))
            replace rw := ((((((rw.other nrw_r9.symm 0 (.int .i64 n)).other nrw_r9.symm 1 (.int .i64 k)).other nrw_r9.symm 2 (.int .i64 i)).other nrw_r9.symm 3 (.int .u32 g0)).other nrw_r9.symm 4 (.int .i64 y)).other nrw_r9.symm 5 (.int .i64 z))
            replace r7 := ((((((r7.other nr7_r9.symm 0 (.int .i64 n)).other nr7_r9.symm 1 (.int .i64 k)).other nr7_r9.symm 2 (.int .i64 i)).other nr7_r9.symm 3 (.int .u32 g0)).other nr7_r9.symm 4 (.int .i64 y)).other nr7_r9.symm 5 (.int .i64 z))
            replace r9 := ((((((r9.set 0 (.int .i64 n)).set 1 (.int .i64 k)).set 2 (.int .i64 i)).set 3 (.int .u32 g0)).set 4 (.int .i64 y)).set 5 (.int .i64 z))
            simp only [List.setIfInBounds_toArray, List.set_cons_zero, List.set_cons_succ] at r9
            replace hc := ((((((hc.setCell (p := ⟨b9, 0, none⟩) wr9 (.int .i64 n)).setCell (p := ⟨b9, 1, none⟩) wr9 (.int .i64 k)).setCell (p := ⟨b9, 2, none⟩) wr9 (.int .i64 i)).setCell (p := ⟨b9, 3, none⟩) wr9 (.int .u32 g0)).setCell (p := ⟨b9, 4, none⟩) wr9 (.int .i64 y)).setCell (p := ⟨b9, 5, none⟩) wr9 (.int .i64 z))
            generalize hW : World.setCell _ _ _ = V9 at *
            clear hW
            refine hK.out _ _ ⟨r7.cell, rw.cell⟩ (fun hHeld => ?_)
            clear hK K
            clear hHeld
            refine wpAnyH_done (by kernel_rfl) ?_ _
            go_wp2_with fail
            go_meet
            exact ⟨_, rfl, nr2_r9.symm, r9, r2, hc⟩
        · go_simp
          have r9 := Row.new (W := V5) (cs := #[.int .i64 0, .int .i64 0, .int .i64 0, .int .u32 0, .int .i64 0, .int .i64 0]) (t := 43)
          have hn := below_alloc V5 (.cells #[.int .i64 0, .int .i64 0, .int .i64 0, .int .u32 0, .int .i64 0, .int .i64 0] 43)
          have nr2_r9 : w.heap.size ≠ V5.heap.size := Nat.ne_of_lt r2.lt
          have nrw_r9 : g ≠ V5.heap.size := Nat.ne_of_lt rw.lt
          have nr7_r9 : b7 ≠ V5.heap.size := Nat.ne_of_lt r7.lt
          have wr9 : w.heap.size ≤ V5.heap.size := hc.size
          replace r2 := r2.on hn
          replace rw := rw.on hn
          replace r7 := r7.on hn
          replace hc := chain hc hn
          clear hn
          generalize V5.alloc (.cells #[.int .i64 0, .int .i64 0, .int .i64 0, .int .u32 0, .int .i64 0, .int .i64 0] 43) = V6 at r2 rw r7 r9 hc ⊢
          generalize V5.heap.size = b9 at *
          refine hK.out _ _ ⟨r7.cell, rw.cell⟩ (fun hHeld => ?_)
          clear hK K
          clear hHeld
          refine wpAnyH_ready (rs := [10]) (by kernel_rfl) (by simp) ?_
          refine' AllReadyH.cons (o := _) ?_ (fun K hK => ?_) AllReadyH.nil
          rotate_left 1
          · (simp only [List.getElem?_toArray, List.getElem?_cons_succ, List.getElem?_cons_zero]; rfl)
          go_simp
          refine Calls.mono (answersR_c _) ?_
          rintro e V7 ⟨b10, rfl, r10, hn⟩
          replace r2 := r2.on hn
          replace rw := rw.on hn
          replace r7 := r7.on hn
          replace r9 := r9.on hn
          replace hc := chain hc hn
          clear hn
          go_simp
          refine hK.out _ _ ⟨r7.cell, rw.cell⟩ (fun hHeld => ?_)
          clear hK K
          clear hHeld
          refine wpAnyH_ready (rs := [11]) (by kernel_rfl) (by simp) ?_
          refine' AllReadyH.cons (o := _) ?_ (fun K hK => ?_) AllReadyH.nil
          rotate_left 1
          · (simp only [List.getElem?_toArray, List.getElem?_cons_succ, List.getElem?_cons_zero]; rfl)
          go_simp
          refine Calls.mono (CZ.out b10 _ r10) ?_
          rintro e V8 ⟨rfl, hn⟩
          clear r10
          replace r2 := r2.on hn
          replace rw := rw.on hn
          replace r7 := r7.on hn
          replace r9 := r9.on hn
          replace hc := chain hc hn
          clear hn
          go_simp
          refine hK.out _ _ ⟨r7.cell, rw.cell⟩ (fun hHeld => ?_)
          clear hK K
          refine' wpAnyH_take (i := 12) (oi := _) (v := _) ?_ (by kernel_rfl) (by kernel_rfl) (by kernel_rfl) ?_ (Or.inl ⟨?_, ?_⟩) (by assumption) ?_
          rotate_left 2
          · (simp only [List.getElem?_toArray, List.getElem?_cons_succ, List.getElem?_cons_zero]; rfl)
          · first | exact fun _ _ _ h => h | exact fun _ _ _ h => nomatch h.1
          · rfl
          · (intro W hSW; (try dsimp only at hSW); go_split_ands; first | (go_simp; done) | (go_simp; with_reducible rfl))
          try simp only [Act.put, List.setIfInBounds_toArray, List.set_cons_zero, List.set_cons_succ]
          clear hHeld
          have yr9 := r9.cell
          have zr9 := r9.lt
          have ur9 := r9.free
          refine wpAnyH_ready (rs := [14]) (by kernel_rfl) (by simp) ?_
          refine' AllReadyH.cons (o := _) ?_ (fun K hK => ?_) AllReadyH.nil
          rotate_left 1
          · (simp only [List.getElem?_toArray, List.getElem?_cons_succ, List.getElem?_cons_zero]; rfl)
          go_simp
          clear yr9 zr9 ur9
          replace r2 := ((((((r2.other nr2_r9.symm 0 (.int .i64 n)).other nr2_r9.symm 1 (.int .i64 k)).other nr2_r9.symm 2 (.int .i64 i)).other nr2_r9.symm 3 (.int .u32 g0)).other nr2_r9.symm 4 (.int .i64 y)).other nr2_r9.symm 5 (.int .i64 z))
          replace rw := ((((((rw.other nrw_r9.symm 0 (.int .i64 n)).other nrw_r9.symm 1 (.int .i64 k)).other nrw_r9.symm 2 (.int .i64 i)).other nrw_r9.symm 3 (.int .u32 g0)).other nrw_r9.symm 4 (.int .i64 y)).other nrw_r9.symm 5 (.int .i64 z))
          replace r7 := ((((((r7.other nr7_r9.symm 0 (.int .i64 n)).other nr7_r9.symm 1 (.int .i64 k)).other nr7_r9.symm 2 (.int .i64 i)).other nr7_r9.symm 3 (.int .u32 g0)).other nr7_r9.symm 4 (.int .i64 y)).other nr7_r9.symm 5 (.int .i64 z))
          replace r9 := ((((((r9.set 0 (.int .i64 n)).set 1 (.int .i64 k)).set 2 (.int .i64 i)).set 3 (.int .u32 g0)).set 4 (.int .i64 y)).set 5 (.int .i64 z))
          simp only [List.setIfInBounds_toArray, List.set_cons_zero, List.set_cons_succ] at r9
          replace hc := ((((((hc.setCell (p := ⟨b9, 0, none⟩) wr9 (.int .i64 n)).setCell (p := ⟨b9, 1, none⟩) wr9 (.int .i64 k)).setCell (p := ⟨b9, 2, none⟩) wr9 (.int .i64 i)).setCell (p := ⟨b9, 3, none⟩) wr9 (.int .u32 g0)).setCell (p := ⟨b9, 4, none⟩) wr9 (.int .i64 y)).setCell (p := ⟨b9, 5, none⟩) wr9 (.int .i64 z))
          generalize hW : World.setCell _ _ _ = V9 at *
          clear hW
          refine hK.out _ _ ⟨r7.cell, rw.cell⟩ (fun hHeld => ?_)
          clear hK K
          clear hHeld
          refine wpAnyH_done (by kernel_rfl) ?_ _
          go_wp2_with fail
          go_meet
          exact ⟨_, rfl, nr2_r9.symm, r9, r2, hc⟩
      · go_simp
        have r9 := Row.new (W := V4) (cs := #[.int .i64 0, .int .i64 0, .int .i64 0, .int .u32 0, .int .i64 0, .int .i64 0]) (t := 43)
        have hn := below_alloc V4 (.cells #[.int .i64 0, .int .i64 0, .int .i64 0, .int .u32 0, .int .i64 0, .int .i64 0] 43)
        have nr2_r9 : w.heap.size ≠ V4.heap.size := Nat.ne_of_lt r2.lt
        have nrw_r9 : g ≠ V4.heap.size := Nat.ne_of_lt rw.lt
        have nr7_r9 : b7 ≠ V4.heap.size := Nat.ne_of_lt r7.lt
        have wr9 : w.heap.size ≤ V4.heap.size := hc.size
        replace r2 := r2.on hn
        replace rw := rw.on hn
        replace r7 := r7.on hn
        replace r5 := r5.on hn
        replace hc := chain hc hn
        clear hn
        generalize V4.alloc (.cells #[.int .i64 0, .int .i64 0, .int .i64 0, .int .u32 0, .int .i64 0, .int .i64 0] 43) = V5 at r2 rw r7 r5 r9 hc ⊢
        generalize V4.heap.size = b9 at *
        refine hK.out _ _ ⟨r7.cell, rw.cell⟩ (fun hHeld => ?_)
        clear hK K
        clear hHeld
        refine wpAnyH_ready (rs := [6]) (by kernel_rfl) (by simp) ?_
        refine' AllReadyH.cons (o := _) ?_ (fun K hK => ?_) AllReadyH.nil
        rotate_left 1
        · (simp only [List.getElem?_toArray, List.getElem?_cons_succ, List.getElem?_cons_zero]; rfl)
        go_simp
        refine Calls.mono (CY.out b5 _ r5) ?_
        rintro e V6 ⟨rfl, hn⟩
        clear r5
        replace r2 := r2.on hn
        replace rw := rw.on hn
        replace r7 := r7.on hn
        replace r9 := r9.on hn
        replace hc := chain hc hn
        clear hn
        go_simp
        refine hK.out _ _ ⟨r7.cell, rw.cell⟩ (fun hHeld => ?_)
        clear hK K
        clear hHeld
        refine wpAnyH_ready (rs := [10]) (by kernel_rfl) (by simp) ?_
        refine' AllReadyH.cons (o := _) ?_ (fun K hK => ?_) AllReadyH.nil
        rotate_left 1
        · (simp only [List.getElem?_toArray, List.getElem?_cons_succ, List.getElem?_cons_zero]; rfl)
        go_simp
        refine Calls.mono (answersR_c _) ?_
        rintro e V7 ⟨b10, rfl, r10, hn⟩
        replace r2 := r2.on hn
        replace rw := rw.on hn
        replace r7 := r7.on hn
        replace r9 := r9.on hn
        replace hc := chain hc hn
        clear hn
        go_simp
        refine hK.out _ _ ⟨r7.cell, rw.cell⟩ (fun hHeld => ?_)
        clear hK K
        clear hHeld
        refine wpAnyH_ready (rs := [11]) (by kernel_rfl) (by simp) ?_
        refine' AllReadyH.cons (o := _) ?_ (fun K hK => ?_) AllReadyH.nil
        rotate_left 1
        · (simp only [List.getElem?_toArray, List.getElem?_cons_succ, List.getElem?_cons_zero]; rfl)
        go_simp
        refine Calls.mono (CZ.out b10 _ r10) ?_
        rintro e V8 ⟨rfl, hn⟩
        clear r10
        replace r2 := r2.on hn
        replace rw := rw.on hn
        replace r7 := r7.on hn
        replace r9 := r9.on hn
        replace hc := chain hc hn
        clear hn
        go_simp
        refine hK.out _ _ ⟨r7.cell, rw.cell⟩ (fun hHeld => ?_)
        clear hK K
        refine' wpAnyH_take (i := 12) (oi := _) (v := _) ?_ (by kernel_rfl) (by kernel_rfl) (by kernel_rfl) ?_ (Or.inl ⟨?_, ?_⟩) (by assumption) ?_
        rotate_left 2
        · (simp only [List.getElem?_toArray, List.getElem?_cons_succ, List.getElem?_cons_zero]; rfl)
        · first | exact fun _ _ _ h => h | exact fun _ _ _ h => nomatch h.1
        · rfl
        · (intro W hSW; (try dsimp only at hSW); go_split_ands; first | (go_simp; done) | (go_simp; with_reducible rfl))
        try simp only [Act.put, List.setIfInBounds_toArray, List.set_cons_zero, List.set_cons_succ]
        clear hHeld
        have yr9 := r9.cell
        have zr9 := r9.lt
        have ur9 := r9.free
        refine wpAnyH_ready (rs := [14]) (by kernel_rfl) (by simp) ?_
        refine' AllReadyH.cons (o := _) ?_ (fun K hK => ?_) AllReadyH.nil
        rotate_left 1
        · (simp only [List.getElem?_toArray, List.getElem?_cons_succ, List.getElem?_cons_zero]; rfl)
        go_simp
        clear yr9 zr9 ur9
        replace r2 := ((((((r2.other nr2_r9.symm 0 (.int .i64 n)).other nr2_r9.symm 1 (.int .i64 k)).other nr2_r9.symm 2 (.int .i64 i)).other nr2_r9.symm 3 (.int .u32 g0)).other nr2_r9.symm 4 (.int .i64 y)).other nr2_r9.symm 5 (.int .i64 z))
        replace rw := ((((((rw.other nrw_r9.symm 0 (.int .i64 n)).other nrw_r9.symm 1 (.int .i64 k)).other nrw_r9.symm 2 (.int .i64 i)).other nrw_r9.symm 3 (.int .u32 g0)).other nrw_r9.symm 4 (.int .i64 y)).other nrw_r9.symm 5 (.int .i64 z))
        replace r7 := ((((((r7.other nr7_r9.symm 0 (.int .i64 n)).other nr7_r9.symm 1 (.int .i64 k)).other nr7_r9.symm 2 (.int .i64 i)).other nr7_r9.symm 3 (.int .u32 g0)).other nr7_r9.symm 4 (.int .i64 y)).other nr7_r9.symm 5 (.int .i64 z))
        replace r9 := ((((((r9.set 0 (.int .i64 n)).set 1 (.int .i64 k)).set 2 (.int .i64 i)).set 3 (.int .u32 g0)).set 4 (.int .i64 y)).set 5 (.int .i64 z))
        simp only [List.setIfInBounds_toArray, List.set_cons_zero, List.set_cons_succ] at r9
        replace hc := ((((((hc.setCell (p := ⟨b9, 0, none⟩) wr9 (.int .i64 n)).setCell (p := ⟨b9, 1, none⟩) wr9 (.int .i64 k)).setCell (p := ⟨b9, 2, none⟩) wr9 (.int .i64 i)).setCell (p := ⟨b9, 3, none⟩) wr9 (.int .u32 g0)).setCell (p := ⟨b9, 4, none⟩) wr9 (.int .i64 y)).setCell (p := ⟨b9, 5, none⟩) wr9 (.int .i64 z))
        generalize hW : World.setCell _ _ _ = V9 at *
        clear hW
        refine hK.out _ _ ⟨r7.cell, rw.cell⟩ (fun hHeld => ?_)
        clear hK K
        clear hHeld
        refine wpAnyH_done (by kernel_rfl) ?_ _
        go_wp2_with fail
        go_meet
        exact ⟨_, rfl, nr2_r9.symm, r9, r2, hc⟩
    · go_simp
      have r9 := Row.new (W := V3) (cs := #[.int .i64 0, .int .i64 0, .int .i64 0, .int .u32 0, .int .i64 0, .int .i64 0]) (t := 43)
      have hn := below_alloc V3 (.cells #[.int .i64 0, .int .i64 0, .int .i64 0, .int .u32 0, .int .i64 0, .int .i64 0] 43)
      have nr2_r9 : w.heap.size ≠ V3.heap.size := Nat.ne_of_lt r2.lt
      have nrw_r9 : g ≠ V3.heap.size := Nat.ne_of_lt rw.lt
      have nr7_r9 : b7 ≠ V3.heap.size := Nat.ne_of_lt r7.lt
      have wr9 : w.heap.size ≤ V3.heap.size := hc.size
      replace r2 := r2.on hn
      replace rw := rw.on hn
      replace r7 := r7.on hn
      replace hc := chain hc hn
      clear hn
      generalize V3.alloc (.cells #[.int .i64 0, .int .i64 0, .int .i64 0, .int .u32 0, .int .i64 0, .int .i64 0] 43) = V4 at r2 rw r7 r9 hc ⊢
      generalize V3.heap.size = b9 at *
      refine hK.out _ _ ⟨r7.cell, rw.cell⟩ (fun hHeld => ?_)
      clear hK K
      clear hHeld
      refine wpAnyH_ready (rs := [5]) (by kernel_rfl) (by simp) ?_
      refine' AllReadyH.cons (o := _) ?_ (fun K hK => ?_) AllReadyH.nil
      rotate_left 1
      · (simp only [List.getElem?_toArray, List.getElem?_cons_succ, List.getElem?_cons_zero]; rfl)
      go_simp
      refine Calls.mono (whysR_c _) ?_
      rintro e V5 ⟨b5, rfl, r5, hn⟩
      replace r2 := r2.on hn
      replace rw := rw.on hn
      replace r7 := r7.on hn
      replace r9 := r9.on hn
      replace hc := chain hc hn
      clear hn
      go_simp
      refine hK.out _ _ ⟨r7.cell, rw.cell⟩ (fun hHeld => ?_)
      clear hK K
      clear hHeld
      refine wpAnyH_ready (rs := [6]) (by kernel_rfl) (by simp) ?_
      refine' AllReadyH.cons (o := _) ?_ (fun K hK => ?_) AllReadyH.nil
      rotate_left 1
      · (simp only [List.getElem?_toArray, List.getElem?_cons_succ, List.getElem?_cons_zero]; rfl)
      go_simp
      refine Calls.mono (CY.out b5 _ r5) ?_
      rintro e V6 ⟨rfl, hn⟩
      clear r5
      replace r2 := r2.on hn
      replace rw := rw.on hn
      replace r7 := r7.on hn
      replace r9 := r9.on hn
      replace hc := chain hc hn
      clear hn
      go_simp
      refine hK.out _ _ ⟨r7.cell, rw.cell⟩ (fun hHeld => ?_)
      clear hK K
      clear hHeld
      refine wpAnyH_ready (rs := [10]) (by kernel_rfl) (by simp) ?_
      refine' AllReadyH.cons (o := _) ?_ (fun K hK => ?_) AllReadyH.nil
      rotate_left 1
      · (simp only [List.getElem?_toArray, List.getElem?_cons_succ, List.getElem?_cons_zero]; rfl)
      go_simp
      refine Calls.mono (answersR_c _) ?_
      rintro e V7 ⟨b10, rfl, r10, hn⟩
      replace r2 := r2.on hn
      replace rw := rw.on hn
      replace r7 := r7.on hn
      replace r9 := r9.on hn
      replace hc := chain hc hn
      clear hn
      go_simp
      refine hK.out _ _ ⟨r7.cell, rw.cell⟩ (fun hHeld => ?_)
      clear hK K
      clear hHeld
      refine wpAnyH_ready (rs := [11]) (by kernel_rfl) (by simp) ?_
      refine' AllReadyH.cons (o := _) ?_ (fun K hK => ?_) AllReadyH.nil
      rotate_left 1
      · (simp only [List.getElem?_toArray, List.getElem?_cons_succ, List.getElem?_cons_zero]; rfl)
      go_simp
      refine Calls.mono (CZ.out b10 _ r10) ?_
      rintro e V8 ⟨rfl, hn⟩
      clear r10
      replace r2 := r2.on hn
      replace rw := rw.on hn
      replace r7 := r7.on hn
      replace r9 := r9.on hn
      replace hc := chain hc hn
      clear hn
      go_simp
      refine hK.out _ _ ⟨r7.cell, rw.cell⟩ (fun hHeld => ?_)
      clear hK K
      refine' wpAnyH_take (i := 12) (oi := _) (v := _) ?_ (by kernel_rfl) (by kernel_rfl) (by kernel_rfl) ?_ (Or.inl ⟨?_, ?_⟩) (by assumption) ?_
      rotate_left 2
      · (simp only [List.getElem?_toArray, List.getElem?_cons_succ, List.getElem?_cons_zero]; rfl)
      · first | exact fun _ _ _ h => h | exact fun _ _ _ h => nomatch h.1
      · rfl
      · (intro W hSW; (try dsimp only at hSW); go_split_ands; first | (go_simp; done) | (go_simp; with_reducible rfl))
      try simp only [Act.put, List.setIfInBounds_toArray, List.set_cons_zero, List.set_cons_succ]
      clear hHeld
      have yr9 := r9.cell
      have zr9 := r9.lt
      have ur9 := r9.free
      refine wpAnyH_ready (rs := [14]) (by kernel_rfl) (by simp) ?_
      refine' AllReadyH.cons (o := _) ?_ (fun K hK => ?_) AllReadyH.nil
      rotate_left 1
      · (simp only [List.getElem?_toArray, List.getElem?_cons_succ, List.getElem?_cons_zero]; rfl)
      go_simp
      clear yr9 zr9 ur9
      replace r2 := ((((((r2.other nr2_r9.symm 0 (.int .i64 n)).other nr2_r9.symm 1 (.int .i64 k)).other nr2_r9.symm 2 (.int .i64 i)).other nr2_r9.symm 3 (.int .u32 g0)).other nr2_r9.symm 4 (.int .i64 y)).other nr2_r9.symm 5 (.int .i64 z))
      replace rw := ((((((rw.other nrw_r9.symm 0 (.int .i64 n)).other nrw_r9.symm 1 (.int .i64 k)).other nrw_r9.symm 2 (.int .i64 i)).other nrw_r9.symm 3 (.int .u32 g0)).other nrw_r9.symm 4 (.int .i64 y)).other nrw_r9.symm 5 (.int .i64 z))
      replace r7 := ((((((r7.other nr7_r9.symm 0 (.int .i64 n)).other nr7_r9.symm 1 (.int .i64 k)).other nr7_r9.symm 2 (.int .i64 i)).other nr7_r9.symm 3 (.int .u32 g0)).other nr7_r9.symm 4 (.int .i64 y)).other nr7_r9.symm 5 (.int .i64 z))
      replace r9 := ((((((r9.set 0 (.int .i64 n)).set 1 (.int .i64 k)).set 2 (.int .i64 i)).set 3 (.int .u32 g0)).set 4 (.int .i64 y)).set 5 (.int .i64 z))
      simp only [List.setIfInBounds_toArray, List.set_cons_zero, List.set_cons_succ] at r9
      replace hc := ((((((hc.setCell (p := ⟨b9, 0, none⟩) wr9 (.int .i64 n)).setCell (p := ⟨b9, 1, none⟩) wr9 (.int .i64 k)).setCell (p := ⟨b9, 2, none⟩) wr9 (.int .i64 i)).setCell (p := ⟨b9, 3, none⟩) wr9 (.int .u32 g0)).setCell (p := ⟨b9, 4, none⟩) wr9 (.int .i64 y)).setCell (p := ⟨b9, 5, none⟩) wr9 (.int .i64 z))
      generalize hW : World.setCell _ _ _ = V9 at *
      clear hW
      refine hK.out _ _ ⟨r7.cell, rw.cell⟩ (fun hHeld => ?_)
      clear hK K
      clear hHeld
      refine wpAnyH_done (by kernel_rfl) ?_ _
      go_wp2_with fail
      go_meet
      exact ⟨_, rfl, nr2_r9.symm, r9, r2, hc⟩
  obtain ⟨b9, rfl, hb92, r9, r2, hc⟩ := hcut
  clear nr2_r7 nrw_r7 r7 rw nr2_rw
  have yr2 := r2.cell
  have zr2 := r2.lt
  have yr9 := r9.cell
  have zr9 := r9.lt
  have ur2 := r2.free
  go_wp2_with fail
  refine bodyPost_ret (v := .tuple #[atV at0, .bool false]) (by simp [results, Tryz.results68, go_sem, yr2, zr2, ur2]) rfl ⟨rfl, ?_⟩
  refine Below.setCell ?_ (by first | exact Nat.le_refl _ | simp | omega) _
  refine Below.setCell ?_ (by first | exact Nat.le_refl _ | simp | omega) _
  refine Below.setCell ?_ (by first | exact Nat.le_refl _ | simp | omega) _
  refine Below.setCell ?_ (by first | exact Nat.le_refl _ | simp | omega) _
  refine Below.setCell ?_ (by first | exact Nat.le_refl _ | simp | omega) _
  exact hc.setCell (by first | exact Nat.le_refl _ | simp | omega) _
theorem parse_notok (s x0 x1 x2 x3 : ByteArray) (w : World) (hE : EnvP w) (hs : s.size ≤ 100000) (hcut : cutAll 32 s.data.toList = [x0.data.toList, x1.data.toList, x2.data.toList, x3.data.toList]) (n : Int) (hp : Lib.parseIntB 64 x0.data.toList = .ok n) (hn0 : -9223372036854775808 ≤ n) (hn1 : n ≤ 9223372036854775807) (hf : (⟨(Lib.itoa n).toArray⟩ : ByteArray) = x0) (k i g0 : Int) (hg : 0 ≤ g0 ∧ g0 ≤ 4294967295) (ho : ∀ W, EnvP W → Ret 101 #[.string x1] W (.tuple #[.agg #[.int .i64 k, .int .i64 i, .int .u32 g0], .int .i64 0])) (hok : aOk ⟨n, k, i, g0, whyI x2.data.toList, ansI x3.data.toList⟩ = false) :
    Ret 68 #[.string s] w (.tuple #[atV at0, .bool false]) := by
  have HE := Lib.hid hE
  have hc := Below.refl w.heap.size w
  have cf := fun W (hW : EnvP W) => fmt_any n W hW.toEnv hn0 hn1
  rw [hf] at cf
  have hf2 : (x0.toList == x0.toList) = true := by simp
  have hf3 : (x0.toList != x0.toList) = false := by simp
  have CF := Lib.hid cf
  have CO := Lib.hid ho
  have CY := Lib.hid (fun b W hr => wwhy_c x2 b W hr)
  have CZ := Lib.hid (fun b W hr => wans_c x3 b W hr)
  have CC := Lib.hid (fun W => acheck_c ⟨n, k, i, g0, whyI x2.data.toList, ansI x3.data.toList⟩ hg W)
  obtain ⟨y, hy⟩ : ∃ y, y = whyI x2.data.toList := ⟨_, rfl⟩
  obtain ⟨z, hz⟩ : ∃ z, z = ansI x3.data.toList := ⟨_, rfl⟩
  rw [← hy] at CY CC
  rw [← hz] at CZ CC
  rw [← hy, ← hz] at hok
  rw [aErr_bad hok] at CC
  clear hok
  clear cf hf hn0 hn1 hg ho hy hz
  go_enter Tryz.func68, Tryz.ntmps68
  go_upto_region 1 with fail
  have r2 := Row.new (W := w) (cs := #[.int .i64 0, .int .i64 0, .int .i64 0, .int .u32 0, .int .i64 0, .int .i64 0]) (t := 43)
  have hn := below_alloc w (.cells #[.int .i64 0, .int .i64 0, .int .i64 0, .int .u32 0, .int .i64 0, .int .i64 0] 43)
  have wr2 : w.heap.size ≤ w.heap.size := hc.size
  replace hc := chain hc hn
  clear hn
  generalize w.alloc (.cells #[.int .i64 0, .int .i64 0, .int .i64 0, .int .u32 0, .int .i64 0, .int .i64 0] 43) = V1 at r2 hc ⊢
  have CS := Lib.hid (split_spL s V1 (HE.out.on hc).shp (by omega))
  have yr2 := r2.cell
  have zr2 := r2.lt
  go_wp2_with fail
  refine Calls.mono CS.out ?_
  rintro e W1 ⟨xs, g, rfl, hxs, rw, hn⟩
  clear yr2 zr2
  replace r2 := r2.on hn
  replace hc := chain hc hn
  clear hn
  clear CS
  have hx4 : xs = [x0, x1, x2, x3] := by
    rw [hcut] at hxs
    exact (List.map_inj_right (f := fun y : ByteArray => y.data.toList) (fun a b h => str_ext h)).1 (hxs.trans rfl)
  subst hx4
  replace rw : Row W1 g #[.string x0, .string x1, .string x2, .string x3] 9 := rw
  have hx0 : x0.size ≤ 100000 := by
    have h1 := join_cutAll 32 s.data.toList
    rw [hcut] at h1
    have h2 := congrArg List.length h1
    simp [Lib.join, List.intercalate, len_bytes] at h2
    omega
  clear hxs hcut hs
  have nr2_rw : w.heap.size ≠ g := rowP_ne r2 rw (by decide)
  simp only [List.length_cons, List.length_nil, Nat.zero_add, Nat.reduceAdd]
  have CP := Lib.hid (fun W => pint_ok x0 hx0 n hp W)
  clear hp
  have yr2 := r2.cell
  have zr2 := r2.lt
  have yrw := rw.cell
  have zrw := rw.lt
  go_wp2_with fail
  refine Calls.mono (CP.out _) ?_
  rintro e W2 ⟨rfl, hn⟩
  clear yr2 yrw zr2 zrw
  replace r2 := r2.on hn
  replace rw := rw.on hn
  replace hc := chain hc hn
  clear hn
  have yr2 := r2.cell
  have zr2 := r2.lt
  have yrw := rw.cell
  have zrw := rw.lt
  go_upto_region 5 with fail
  clear yr2 yrw zr2 zrw
  refine wp_region_held_drew (S := fun W' => (∀ j, W'.cell? ⟨g, j, none⟩ = (#[.string x0, .string x1, .string x2, .string x3] : Array Value)[j]?)) (by kernel_rfl) rw.cell (fun hHeld => ?_)
  replace r2 := r2.drew
  replace rw := rw.drew
  replace hc := hc.drew
  generalize W2.drew = W9 at *
  refine' wpAnyH_take (i := 0) (oi := _) (v := _) ?_ (by kernel_rfl) (by kernel_rfl) (by kernel_rfl) ?_ (Or.inl ⟨?_, ?_⟩) (by assumption) ?_
  rotate_left 2
  · (simp only [List.getElem?_toArray, List.getElem?_cons_succ, List.getElem?_cons_zero]; rfl)
  · first | exact fun _ _ _ h => h | exact fun _ _ _ h => nomatch h.1
  · rfl
  · (intro W hSW; (try dsimp only at hSW); go_split_ands; first | (go_simp; done) | (go_simp; with_reducible rfl))
  try simp only [Act.put, List.setIfInBounds_toArray, List.set_cons_zero, List.set_cons_succ]
  refine' wpAnyH_take (i := 1) (oi := _) (v := _) ?_ (by kernel_rfl) (by kernel_rfl) (by kernel_rfl) ?_ (Or.inl ⟨?_, ?_⟩) (by assumption) ?_
  rotate_left 2
  · (simp only [List.getElem?_toArray, List.getElem?_cons_succ, List.getElem?_cons_zero]; rfl)
  · first | exact fun _ _ _ h => h | exact fun _ _ _ h => nomatch h.1
  · rfl
  · (intro W hSW; (try dsimp only at hSW); go_split_ands; first | (go_simp; done) | (go_simp; with_reducible rfl))
  try simp only [Act.put, List.setIfInBounds_toArray, List.set_cons_zero, List.set_cons_succ]
  refine' wpAnyH_take (i := 2) (oi := _) (v := _) ?_ (by kernel_rfl) (by kernel_rfl) (by kernel_rfl) ?_ (Or.inl ⟨?_, ?_⟩) (by assumption) ?_
  rotate_left 2
  · (simp only [List.getElem?_toArray, List.getElem?_cons_succ, List.getElem?_cons_zero]; rfl)
  · first | exact fun _ _ _ h => h | exact fun _ _ _ h => nomatch h.1
  · rfl
  · (intro W hSW; (try dsimp only at hSW); go_split_ands; first | (go_simp; done) | (go_simp; with_reducible rfl))
  try simp only [Act.put, List.setIfInBounds_toArray, List.set_cons_zero, List.set_cons_succ]
  refine' wpAnyH_take (i := 3) (oi := _) (v := _) ?_ (by kernel_rfl) (by kernel_rfl) (by kernel_rfl) ?_ (Or.inl ⟨?_, ?_⟩) (by assumption) ?_
  rotate_left 2
  · (simp only [List.getElem?_toArray, List.getElem?_cons_succ, List.getElem?_cons_zero]; rfl)
  · first | exact fun _ _ _ h => h | exact fun _ _ _ h => nomatch h.1
  · rfl
  · (intro W hSW; (try dsimp only at hSW); go_split_ands; first | (go_simp; done) | (go_simp; with_reducible rfl))
  try simp only [Act.put, List.setIfInBounds_toArray, List.set_cons_zero, List.set_cons_succ]
  refine' wpAnyH_take (i := 5) (oi := _) (v := _) ?_ (by kernel_rfl) (by kernel_rfl) (by kernel_rfl) ?_ (Or.inl ⟨?_, ?_⟩) (by assumption) ?_
  rotate_left 2
  · (simp only [List.getElem?_toArray, List.getElem?_cons_succ, List.getElem?_cons_zero]; rfl)
  · first | exact fun _ _ _ h => h | exact fun _ _ _ h => nomatch h.1
  · rfl
  · (intro W hSW; (try dsimp only at hSW); go_split_ands; first | (go_simp; done) | (go_simp; with_reducible rfl))
  try simp only [Act.put, List.setIfInBounds_toArray, List.set_cons_zero, List.set_cons_succ]
  refine' wpAnyH_take (i := 6) (oi := _) (v := _) ?_ (by kernel_rfl) (by kernel_rfl) (by kernel_rfl) ?_ (Or.inl ⟨?_, ?_⟩) (by assumption) ?_
  rotate_left 2
  · (simp only [List.getElem?_toArray, List.getElem?_cons_succ, List.getElem?_cons_zero]; rfl)
  · first | exact fun _ _ _ h => h | exact fun _ _ _ h => nomatch h.1
  · rfl
  · (intro W hSW; (try dsimp only at hSW); go_split_ands; first | (go_simp; done) | (go_simp; with_reducible rfl))
  try simp only [Act.put, List.setIfInBounds_toArray, List.set_cons_zero, List.set_cons_succ]
  refine' wpAnyH_take (i := 7) (oi := _) (v := _) ?_ (by kernel_rfl) (by kernel_rfl) (by kernel_rfl) ?_ (Or.inl ⟨?_, ?_⟩) (by assumption) ?_
  rotate_left 2
  · (simp only [List.getElem?_toArray, List.getElem?_cons_succ, List.getElem?_cons_zero]; rfl)
  · first | exact fun _ _ _ h => h | exact fun _ _ _ h => nomatch h.1
  · rfl
  · (intro W hSW; (try dsimp only at hSW); go_split_ands; first | (go_simp; done) | (go_simp; with_reducible rfl))
  try simp only [Act.put, List.setIfInBounds_toArray, List.set_cons_zero, List.set_cons_succ]
  clear hHeld
  refine wpAnyH_ready (rs := [4]) (by kernel_rfl) (by simp) ?_
  refine' AllReadyH.cons (o := _) ?_ (fun K hK => ?_) AllReadyH.nil
  rotate_left 1
  · (simp only [List.getElem?_toArray, List.getElem?_cons_succ, List.getElem?_cons_zero]; rfl)
  go_simp
  refine Calls.mono (CF.out _ (HE.out.on hc)) ?_
  rintro e W4 ⟨rfl, hn⟩
  replace r2 := r2.on hn
  replace rw := rw.on hn
  replace hc := chain hc hn
  clear hn
  go_simp
  refine hK.out _ _ rw.cell (fun hHeld => ?_)
  clear hK K
  refine' wpAnyH_take (i := 8) (oi := _) (v := _) ?_ (by kernel_rfl) (by kernel_rfl) (by kernel_rfl) ?_ (Or.inl ⟨?_, ?_⟩) (by assumption) ?_
  rotate_left 2
  · (simp only [List.getElem?_toArray, List.getElem?_cons_succ, List.getElem?_cons_zero]; rfl)
  · first | exact fun _ _ _ h => h | exact fun _ _ _ h => nomatch h.1
  · rfl
  · (intro W hSW; (try dsimp only at hSW); go_split_ands; first | (go_simp; done) | (go_simp; with_reducible rfl))
  try simp only [Act.put, List.setIfInBounds_toArray, List.set_cons_zero, List.set_cons_succ]
  refine' wpAnyH_take (i := 9) (oi := _) (v := _) ?_ (by kernel_rfl) (by kernel_rfl) (by kernel_rfl) ?_ (Or.inl ⟨?_, ?_⟩) (by assumption) ?_
  rotate_left 2
  · (simp only [List.getElem?_toArray, List.getElem?_cons_succ, List.getElem?_cons_zero]; rfl)
  · first | exact fun _ _ _ h => h | exact fun _ _ _ h => nomatch h.1
  · rfl
  · (intro W hSW; (try dsimp only at hSW); go_split_ands; first | (go_simp; done) | (go_simp; with_reducible rfl))
  try simp only [Act.put, List.setIfInBounds_toArray, List.set_cons_zero, List.set_cons_succ]
  clear hHeld
  refine wpAnyH_done (by kernel_rfl) ?_ _
  have yr2 := r2.cell
  have zr2 := r2.lt
  have yrw := rw.cell
  have zrw := rw.lt
  go_wp2_with fail
  refine Calls.mono (CO.out _ (HE.out.on hc)) ?_
  rintro e W5 ⟨rfl, hn⟩
  clear yr2 yrw zr2 zrw
  replace r2 := r2.on hn
  replace rw := rw.on hn
  replace hc := chain hc hn
  clear hn
  have yr2 := r2.cell
  have zr2 := r2.lt
  have yrw := rw.cell
  have zrw := rw.lt
  go_upto_region 8 with fail
  clear yr2 yrw zr2 zrw
  have r7 := Row.new (W := W5) (cs := #[.int .i64 k, .int .i64 i, .int .u32 g0]) (t := 41)
  have hn := below_alloc W5 (.cells #[.int .i64 k, .int .i64 i, .int .u32 g0] 41)
  have nr2_r7 : w.heap.size ≠ W5.heap.size := Nat.ne_of_lt r2.lt
  have nrw_r7 : g ≠ W5.heap.size := Nat.ne_of_lt rw.lt
  have wr7 : w.heap.size ≤ W5.heap.size := hc.size
  replace r2 := r2.on hn
  replace rw := rw.on hn
  replace hc := chain hc hn
  clear hn
  generalize W5.alloc (.cells #[.int .i64 k, .int .i64 i, .int .u32 g0] 41) = V2 at r2 rw r7 hc ⊢
  generalize W5.heap.size = b7 at *
  go_cut [9] (fun bv wx => ∃ b9, bv = .pointer (some ⟨b9, 0, none⟩) ∧ b9 ≠ w.heap.size ∧ Row wx b9 #[.int .i64 n, .int .i64 k, .int .i64 i, .int .u32 g0, .int .i64 y, .int .i64 z] 43 ∧ Row wx w.heap.size #[.int .i64 0, .int .i64 0, .int .i64 0, .int .u32 0, .int .i64 0, .int .i64 0] 43 ∧ Below w.heap.size w wx)
  case first =>
    refine wp_region_held_drew (S := fun W' => (∀ j, W'.cell? ⟨b7, j, none⟩ = #[.int .i64 k, .int .i64 i, .int .u32 g0][j]?) ∧ (∀ j, W'.cell? ⟨g, j, none⟩ = (#[.string x0, .string x1, .string x2, .string x3] : Array Value)[j]?)) (by kernel_rfl) ⟨r7.cell, rw.cell⟩ (fun hHeld => ?_)
    replace r2 := r2.drew
    replace rw := rw.drew
    replace r7 := r7.drew
    replace hc := hc.drew
    generalize V2.drew = V3 at *
    refine' wpAnyH_take (i := 0) (oi := _) (v := _) ?_ (by kernel_rfl) (by kernel_rfl) (by kernel_rfl) ?_ (Or.inl ⟨?_, ?_⟩) (by assumption) ?_
    rotate_left 2
    · (simp only [List.getElem?_toArray, List.getElem?_cons_succ, List.getElem?_cons_zero]; rfl)
    · first | exact fun _ _ _ h => h | exact fun _ _ _ h => nomatch h.1
    · rfl
    · (intro W hSW; (try dsimp only at hSW); go_split_ands; first | (go_simp; done) | (go_simp; with_reducible rfl))
    try simp only [Act.put, List.setIfInBounds_toArray, List.set_cons_zero, List.set_cons_succ]
    refine' wpAnyH_take (i := 1) (oi := _) (v := _) ?_ (by kernel_rfl) (by kernel_rfl) (by kernel_rfl) ?_ (Or.inl ⟨?_, ?_⟩) (by assumption) ?_
    rotate_left 2
    · (simp only [List.getElem?_toArray, List.getElem?_cons_succ, List.getElem?_cons_zero]; rfl)
    · first | exact fun _ _ _ h => h | exact fun _ _ _ h => nomatch h.1
    · rfl
    · (intro W hSW; (try dsimp only at hSW); go_split_ands; first | (go_simp; done) | (go_simp; with_reducible rfl))
    try simp only [Act.put, List.setIfInBounds_toArray, List.set_cons_zero, List.set_cons_succ]
    refine' wpAnyH_take (i := 2) (oi := _) (v := _) ?_ (by kernel_rfl) (by kernel_rfl) (by kernel_rfl) ?_ (Or.inl ⟨?_, ?_⟩) (by assumption) ?_
    rotate_left 2
    · (simp only [List.getElem?_toArray, List.getElem?_cons_succ, List.getElem?_cons_zero]; rfl)
    · first | exact fun _ _ _ h => h | exact fun _ _ _ h => nomatch h.1
    · rfl
    · (intro W hSW; (try dsimp only at hSW); go_split_ands; first | (go_simp; done) | (go_simp; with_reducible rfl))
    try simp only [Act.put, List.setIfInBounds_toArray, List.set_cons_zero, List.set_cons_succ]
    refine' wpAnyH_take (i := 3) (oi := _) (v := _) ?_ (by kernel_rfl) (by kernel_rfl) (by kernel_rfl) ?_ (Or.inl ⟨?_, ?_⟩) (by assumption) ?_
    rotate_left 2
    · (simp only [List.getElem?_toArray, List.getElem?_cons_succ, List.getElem?_cons_zero]; rfl)
    · first | exact fun _ _ _ h => h | exact fun _ _ _ h => nomatch h.1
    · rfl
    · (intro W hSW; (try dsimp only at hSW); go_split_ands; first | (go_simp; done) | (go_simp; with_reducible rfl))
    try simp only [Act.put, List.setIfInBounds_toArray, List.set_cons_zero, List.set_cons_succ]
    refine' wpAnyH_take (i := 4) (oi := _) (v := _) ?_ (by kernel_rfl) (by kernel_rfl) (by kernel_rfl) ?_ (Or.inl ⟨?_, ?_⟩) (by assumption) ?_
    rotate_left 2
    · (simp only [List.getElem?_toArray, List.getElem?_cons_succ, List.getElem?_cons_zero]; rfl)
    · first | exact fun _ _ _ h => h | exact fun _ _ _ h => nomatch h.1
    · rfl
    · (intro W hSW; (try dsimp only at hSW); go_split_ands; first | (go_simp; done) | (go_simp; with_reducible rfl))
    try simp only [Act.put, List.setIfInBounds_toArray, List.set_cons_zero, List.set_cons_succ]
    refine' wpAnyH_take (i := 7) (oi := _) (v := _) ?_ (by kernel_rfl) (by kernel_rfl) (by kernel_rfl) ?_ (Or.inl ⟨?_, ?_⟩) (by assumption) ?_
    rotate_left 2
    · (simp only [List.getElem?_toArray, List.getElem?_cons_succ, List.getElem?_cons_zero]; rfl)
    · first | exact fun _ _ _ h => h | exact fun _ _ _ h => nomatch h.1
    · rfl
    · (intro W hSW; (try dsimp only at hSW); go_split_ands; first | (go_simp; done) | (go_simp; with_reducible rfl))
    try simp only [Act.put, List.setIfInBounds_toArray, List.set_cons_zero, List.set_cons_succ]
    refine' wpAnyH_take (i := 8) (oi := _) (v := _) ?_ (by kernel_rfl) (by kernel_rfl) (by kernel_rfl) ?_ (Or.inl ⟨?_, ?_⟩) (by assumption) ?_
    rotate_left 2
    · (simp only [List.getElem?_toArray, List.getElem?_cons_succ, List.getElem?_cons_zero]; rfl)
    · first | exact fun _ _ _ h => h | exact fun _ _ _ h => nomatch h.1
    · rfl
    · (intro W hSW; (try dsimp only at hSW); go_split_ands; first | (go_simp; done) | (go_simp; with_reducible rfl))
    try simp only [Act.put, List.setIfInBounds_toArray, List.set_cons_zero, List.set_cons_succ]
    refine' wpAnyH_take (i := 9) (oi := _) (v := _) ?_ (by kernel_rfl) (by kernel_rfl) (by kernel_rfl) ?_ (Or.inl ⟨?_, ?_⟩) (by assumption) ?_
    rotate_left 2
    · (simp only [List.getElem?_toArray, List.getElem?_cons_succ, List.getElem?_cons_zero]; rfl)
    · first | exact fun _ _ _ h => h | exact fun _ _ _ h => nomatch h.1
    · rfl
    · (intro W hSW; (try dsimp only at hSW); go_split_ands; first | (go_simp; done) | (go_simp; with_reducible rfl))
    try simp only [Act.put, List.setIfInBounds_toArray, List.set_cons_zero, List.set_cons_succ]
    clear hHeld
    refine wpAnyH_ready (rs := [5, 13]) (by kernel_rfl) (by simp) ?_
    refine' AllReadyH.cons (o := _) (by simp only [List.getElem?_toArray, List.getElem?_cons_succ, List.getElem?_cons_zero]; rfl) (fun K hK => ?_) (AllReadyH.cons (o := _) (by simp only [List.getElem?_toArray, List.getElem?_cons_succ, List.getElem?_cons_zero]; rfl) (fun K hK => ?_) AllReadyH.nil)
    · go_simp
      refine Calls.mono (whysR_c _) ?_
      rintro e V4 ⟨b5, rfl, r5, hn⟩
      replace r2 := r2.on hn
      replace rw := rw.on hn
      replace r7 := r7.on hn
      replace hc := chain hc hn
      clear hn
      go_simp
      refine hK.out _ _ ⟨r7.cell, rw.cell⟩ (fun hHeld => ?_)
      clear hK K
      clear hHeld
      refine wpAnyH_ready (rs := [6, 13]) (by kernel_rfl) (by simp) ?_
      refine' AllReadyH.cons (o := _) (by simp only [List.getElem?_toArray, List.getElem?_cons_succ, List.getElem?_cons_zero]; rfl) (fun K hK => ?_) (AllReadyH.cons (o := _) (by simp only [List.getElem?_toArray, List.getElem?_cons_succ, List.getElem?_cons_zero]; rfl) (fun K hK => ?_) AllReadyH.nil)
      · go_simp
        refine Calls.mono (CY.out b5 _ r5) ?_
        rintro e V5 ⟨rfl, hn⟩
        clear r5
        replace r2 := r2.on hn
        replace rw := rw.on hn
        replace r7 := r7.on hn
        replace hc := chain hc hn
        clear hn
        go_simp
        refine hK.out _ _ ⟨r7.cell, rw.cell⟩ (fun hHeld => ?_)
        clear hK K
        clear hHeld
        refine wpAnyH_ready (rs := [10, 13]) (by kernel_rfl) (by simp) ?_
        refine' AllReadyH.cons (o := _) (by simp only [List.getElem?_toArray, List.getElem?_cons_succ, List.getElem?_cons_zero]; rfl) (fun K hK => ?_) (AllReadyH.cons (o := _) (by simp only [List.getElem?_toArray, List.getElem?_cons_succ, List.getElem?_cons_zero]; rfl) (fun K hK => ?_) AllReadyH.nil)
        · go_simp
          refine Calls.mono (answersR_c _) ?_
          rintro e V6 ⟨b10, rfl, r10, hn⟩
          replace r2 := r2.on hn
          replace rw := rw.on hn
          replace r7 := r7.on hn
          replace hc := chain hc hn
          clear hn
          go_simp
          refine hK.out _ _ ⟨r7.cell, rw.cell⟩ (fun hHeld => ?_)
          clear hK K
          clear hHeld
          refine wpAnyH_ready (rs := [11, 13]) (by kernel_rfl) (by simp) ?_
          refine' AllReadyH.cons (o := _) (by simp only [List.getElem?_toArray, List.getElem?_cons_succ, List.getElem?_cons_zero]; rfl) (fun K hK => ?_) (AllReadyH.cons (o := _) (by simp only [List.getElem?_toArray, List.getElem?_cons_succ, List.getElem?_cons_zero]; rfl) (fun K hK => ?_) AllReadyH.nil)
          · go_simp
            refine Calls.mono (CZ.out b10 _ r10) ?_
            rintro e V7 ⟨rfl, hn⟩
            clear r10
            replace r2 := r2.on hn
            replace rw := rw.on hn
            replace r7 := r7.on hn
            replace hc := chain hc hn
            clear hn
            go_simp
            refine hK.out _ _ ⟨r7.cell, rw.cell⟩ (fun hHeld => ?_)
            clear hK K
            refine' wpAnyH_take (i := 12) (oi := _) (v := _) ?_ (by kernel_rfl) (by kernel_rfl) (by kernel_rfl) ?_ (Or.inl ⟨?_, ?_⟩) (by assumption) ?_
            rotate_left 2
            · (simp only [List.getElem?_toArray, List.getElem?_cons_succ, List.getElem?_cons_zero]; rfl)
            · first | exact fun _ _ _ h => h | exact fun _ _ _ h => nomatch h.1
            · rfl
            · (intro W hSW; (try dsimp only at hSW); go_split_ands; first | (go_simp; done) | (go_simp; with_reducible rfl))
            try simp only [Act.put, List.setIfInBounds_toArray, List.set_cons_zero, List.set_cons_succ]
            clear hHeld
            refine wpAnyH_ready (rs := [13]) (by kernel_rfl) (by simp) ?_
            refine' AllReadyH.cons (o := _) ?_ (fun K hK => ?_) AllReadyH.nil
            rotate_left 1
            · (simp only [List.getElem?_toArray, List.getElem?_cons_succ, List.getElem?_cons_zero]; rfl)
            go_simp
            have r9 := Row.new (W := V7) (cs := #[.int .i64 0, .int .i64 0, .int .i64 0, .int .u32 0, .int .i64 0, .int .i64 0]) (t := 43)
            have hn := below_alloc V7 (.cells #[.int .i64 0, .int .i64 0, .int .i64 0, .int .u32 0, .int .i64 0, .int .i64 0] 43)
            have nr2_r9 : w.heap.size ≠ V7.heap.size := Nat.ne_of_lt r2.lt
            have nrw_r9 : g ≠ V7.heap.size := Nat.ne_of_lt rw.lt
            have nr7_r9 : b7 ≠ V7.heap.size := Nat.ne_of_lt r7.lt
            have wr9 : w.heap.size ≤ V7.heap.size := hc.size
            replace r2 := r2.on hn
            replace rw := rw.on hn
            replace r7 := r7.on hn
            replace hc := chain hc hn
            clear hn
            generalize V7.alloc (.cells #[.int .i64 0, .int .i64 0, .int .i64 0, .int .u32 0, .int .i64 0, .int .i64 0] 43) = V8 at r2 rw r7 r9 hc ⊢
            generalize V7.heap.size = b9 at *
            refine hK.out _ _ ⟨r7.cell, rw.cell⟩ (fun hHeld => ?_)
            clear hK K
            clear hHeld
            have yr9 := r9.cell
            have zr9 := r9.lt
            have ur9 := r9.free
            refine wpAnyH_ready (rs := [14]) (by kernel_rfl) (by simp) ?_
            refine' AllReadyH.cons (o := _) ?_ (fun K hK => ?_) AllReadyH.nil
            rotate_left 1
            · (simp only [List.getElem?_toArray, List.getElem?_cons_succ, List.getElem?_cons_zero]; rfl)
            go_simp
            clear yr9 zr9 ur9
            replace r2 := ((((((r2.other nr2_r9.symm 0 (.int .i64 n)).other nr2_r9.symm 1 (.int .i64 k)).other nr2_r9.symm 2 (.int .i64 i)).other nr2_r9.symm 3 (.int .u32 g0)).other nr2_r9.symm 4 (.int .i64 y)).other nr2_r9.symm 5 (.int .i64 z))
            replace rw := ((((((rw.other nrw_r9.symm 0 (.int .i64 n)).other nrw_r9.symm 1 (.int .i64 k)).other nrw_r9.symm 2 (.int .i64 i)).other nrw_r9.symm 3 (.int .u32 g0)).other nrw_r9.symm 4 (.int .i64 y)).other nrw_r9.symm 5 (.int .i64 z))
            replace r7 := ((((((r7.other nr7_r9.symm 0 (.int .i64 n)).other nr7_r9.symm 1 (.int .i64 k)).other nr7_r9.symm 2 (.int .i64 i)).other nr7_r9.symm 3 (.int .u32 g0)).other nr7_r9.symm 4 (.int .i64 y)).other nr7_r9.symm 5 (.int .i64 z))
            replace r9 := ((((((r9.set 0 (.int .i64 n)).set 1 (.int .i64 k)).set 2 (.int .i64 i)).set 3 (.int .u32 g0)).set 4 (.int .i64 y)).set 5 (.int .i64 z))
            simp only [List.setIfInBounds_toArray, List.set_cons_zero, List.set_cons_succ] at r9
            replace hc := ((((((hc.setCell (p := ⟨b9, 0, none⟩) wr9 (.int .i64 n)).setCell (p := ⟨b9, 1, none⟩) wr9 (.int .i64 k)).setCell (p := ⟨b9, 2, none⟩) wr9 (.int .i64 i)).setCell (p := ⟨b9, 3, none⟩) wr9 (.int .u32 g0)).setCell (p := ⟨b9, 4, none⟩) wr9 (.int .i64 y)).setCell (p := ⟨b9, 5, none⟩) wr9 (.int .i64 z))
            generalize hW : World.setCell _ _ _ = V9 at *
            clear hW
            refine hK.out _ _ ⟨r7.cell, rw.cell⟩ (fun hHeld => ?_)
            clear hK K
            clear hHeld
            refine wpAnyH_done (by kernel_rfl) ?_ _
            go_wp2_with fail
            go_meet
            exact ⟨_, rfl, nr2_r9.symm, r9, r2, hc⟩
          · go_simp
            have r9 := Row.new (W := V6) (cs := #[.int .i64 0, .int .i64 0, .int .i64 0, .int .u32 0, .int .i64 0, .int .i64 0]) (t := 43)
            have hn := below_alloc V6 (.cells #[.int .i64 0, .int .i64 0, .int .i64 0, .int .u32 0, .int .i64 0, .int .i64 0] 43)
            have nr2_r9 : w.heap.size ≠ V6.heap.size := Nat.ne_of_lt r2.lt
            have nrw_r9 : g ≠ V6.heap.size := Nat.ne_of_lt rw.lt
            have nr7_r9 : b7 ≠ V6.heap.size := Nat.ne_of_lt r7.lt
            have wr9 : w.heap.size ≤ V6.heap.size := hc.size
            replace r2 := r2.on hn
            replace rw := rw.on hn
            replace r7 := r7.on hn
            replace r10 := r10.on hn
            replace hc := chain hc hn
            clear hn
            generalize V6.alloc (.cells #[.int .i64 0, .int .i64 0, .int .i64 0, .int .u32 0, .int .i64 0, .int .i64 0] 43) = V7 at r2 rw r7 r10 r9 hc ⊢
            generalize V6.heap.size = b9 at *
            refine hK.out _ _ ⟨r7.cell, rw.cell⟩ (fun hHeld => ?_)
            clear hK K
            clear hHeld
            refine wpAnyH_ready (rs := [11]) (by kernel_rfl) (by simp) ?_
            refine' AllReadyH.cons (o := _) ?_ (fun K hK => ?_) AllReadyH.nil
            rotate_left 1
            · (simp only [List.getElem?_toArray, List.getElem?_cons_succ, List.getElem?_cons_zero]; rfl)
            go_simp
            refine Calls.mono (CZ.out b10 _ r10) ?_
            rintro e V8 ⟨rfl, hn⟩
            clear r10
            replace r2 := r2.on hn
            replace rw := rw.on hn
            replace r7 := r7.on hn
            replace r9 := r9.on hn
            replace hc := chain hc hn
            clear hn
            go_simp
            refine hK.out _ _ ⟨r7.cell, rw.cell⟩ (fun hHeld => ?_)
            clear hK K
            refine' wpAnyH_take (i := 12) (oi := _) (v := _) ?_ (by kernel_rfl) (by kernel_rfl) (by kernel_rfl) ?_ (Or.inl ⟨?_, ?_⟩) (by assumption) ?_
            rotate_left 2
            · (simp only [List.getElem?_toArray, List.getElem?_cons_succ, List.getElem?_cons_zero]; rfl)
            · first | exact fun _ _ _ h => h | exact fun _ _ _ h => nomatch h.1
            · rfl
            · (intro W hSW; (try dsimp only at hSW); go_split_ands; first | (go_simp; done) | (go_simp; with_reducible rfl))
            try simp only [Act.put, List.setIfInBounds_toArray, List.set_cons_zero, List.set_cons_succ]
            clear hHeld
            have yr9 := r9.cell
            have zr9 := r9.lt
            have ur9 := r9.free
            refine wpAnyH_ready (rs := [14]) (by kernel_rfl) (by simp) ?_
            refine' AllReadyH.cons (o := _) ?_ (fun K hK => ?_) AllReadyH.nil
            rotate_left 1
            · (simp only [List.getElem?_toArray, List.getElem?_cons_succ, List.getElem?_cons_zero]; rfl)
            go_simp
            clear yr9 zr9 ur9
            replace r2 := ((((((r2.other nr2_r9.symm 0 (.int .i64 n)).other nr2_r9.symm 1 (.int .i64 k)).other nr2_r9.symm 2 (.int .i64 i)).other nr2_r9.symm 3 (.int .u32 g0)).other nr2_r9.symm 4 (.int .i64 y)).other nr2_r9.symm 5 (.int .i64 z))
            replace rw := ((((((rw.other nrw_r9.symm 0 (.int .i64 n)).other nrw_r9.symm 1 (.int .i64 k)).other nrw_r9.symm 2 (.int .i64 i)).other nrw_r9.symm 3 (.int .u32 g0)).other nrw_r9.symm 4 (.int .i64 y)).other nrw_r9.symm 5 (.int .i64 z))
            replace r7 := ((((((r7.other nr7_r9.symm 0 (.int .i64 n)).other nr7_r9.symm 1 (.int .i64 k)).other nr7_r9.symm 2 (.int .i64 i)).other nr7_r9.symm 3 (.int .u32 g0)).other nr7_r9.symm 4 (.int .i64 y)).other nr7_r9.symm 5 (.int .i64 z))
            replace r9 := ((((((r9.set 0 (.int .i64 n)).set 1 (.int .i64 k)).set 2 (.int .i64 i)).set 3 (.int .u32 g0)).set 4 (.int .i64 y)).set 5 (.int .i64 z))
            simp only [List.setIfInBounds_toArray, List.set_cons_zero, List.set_cons_succ] at r9
            replace hc := ((((((hc.setCell (p := ⟨b9, 0, none⟩) wr9 (.int .i64 n)).setCell (p := ⟨b9, 1, none⟩) wr9 (.int .i64 k)).setCell (p := ⟨b9, 2, none⟩) wr9 (.int .i64 i)).setCell (p := ⟨b9, 3, none⟩) wr9 (.int .u32 g0)).setCell (p := ⟨b9, 4, none⟩) wr9 (.int .i64 y)).setCell (p := ⟨b9, 5, none⟩) wr9 (.int .i64 z))
            generalize hW : World.setCell _ _ _ = V9 at *
            clear hW
            refine hK.out _ _ ⟨r7.cell, rw.cell⟩ (fun hHeld => ?_)
            clear hK K
            clear hHeld
            refine wpAnyH_done (by kernel_rfl) ?_ _
            go_wp2_with fail
            go_meet
            exact ⟨_, rfl, nr2_r9.symm, r9, r2, hc⟩
        · go_simp
          have r9 := Row.new (W := V5) (cs := #[.int .i64 0, .int .i64 0, .int .i64 0, .int .u32 0, .int .i64 0, .int .i64 0]) (t := 43)
          have hn := below_alloc V5 (.cells #[.int .i64 0, .int .i64 0, .int .i64 0, .int .u32 0, .int .i64 0, .int .i64 0] 43)
          have nr2_r9 : w.heap.size ≠ V5.heap.size := Nat.ne_of_lt r2.lt
          have nrw_r9 : g ≠ V5.heap.size := Nat.ne_of_lt rw.lt
          have nr7_r9 : b7 ≠ V5.heap.size := Nat.ne_of_lt r7.lt
          have wr9 : w.heap.size ≤ V5.heap.size := hc.size
          replace r2 := r2.on hn
          replace rw := rw.on hn
          replace r7 := r7.on hn
          replace hc := chain hc hn
          clear hn
          generalize V5.alloc (.cells #[.int .i64 0, .int .i64 0, .int .i64 0, .int .u32 0, .int .i64 0, .int .i64 0] 43) = V6 at r2 rw r7 r9 hc ⊢
          generalize V5.heap.size = b9 at *
          refine hK.out _ _ ⟨r7.cell, rw.cell⟩ (fun hHeld => ?_)
          clear hK K
          clear hHeld
          refine wpAnyH_ready (rs := [10]) (by kernel_rfl) (by simp) ?_
          refine' AllReadyH.cons (o := _) ?_ (fun K hK => ?_) AllReadyH.nil
          rotate_left 1
          · (simp only [List.getElem?_toArray, List.getElem?_cons_succ, List.getElem?_cons_zero]; rfl)
          go_simp
          refine Calls.mono (answersR_c _) ?_
          rintro e V7 ⟨b10, rfl, r10, hn⟩
          replace r2 := r2.on hn
          replace rw := rw.on hn
          replace r7 := r7.on hn
          replace r9 := r9.on hn
          replace hc := chain hc hn
          clear hn
          go_simp
          refine hK.out _ _ ⟨r7.cell, rw.cell⟩ (fun hHeld => ?_)
          clear hK K
          clear hHeld
          refine wpAnyH_ready (rs := [11]) (by kernel_rfl) (by simp) ?_
          refine' AllReadyH.cons (o := _) ?_ (fun K hK => ?_) AllReadyH.nil
          rotate_left 1
          · (simp only [List.getElem?_toArray, List.getElem?_cons_succ, List.getElem?_cons_zero]; rfl)
          go_simp
          refine Calls.mono (CZ.out b10 _ r10) ?_
          rintro e V8 ⟨rfl, hn⟩
          clear r10
          replace r2 := r2.on hn
          replace rw := rw.on hn
          replace r7 := r7.on hn
          replace r9 := r9.on hn
          replace hc := chain hc hn
          clear hn
          go_simp
          refine hK.out _ _ ⟨r7.cell, rw.cell⟩ (fun hHeld => ?_)
          clear hK K
          refine' wpAnyH_take (i := 12) (oi := _) (v := _) ?_ (by kernel_rfl) (by kernel_rfl) (by kernel_rfl) ?_ (Or.inl ⟨?_, ?_⟩) (by assumption) ?_
          rotate_left 2
          · (simp only [List.getElem?_toArray, List.getElem?_cons_succ, List.getElem?_cons_zero]; rfl)
          · first | exact fun _ _ _ h => h | exact fun _ _ _ h => nomatch h.1
          · rfl
          · (intro W hSW; (try dsimp only at hSW); go_split_ands; first | (go_simp; done) | (go_simp; with_reducible rfl))
          try simp only [Act.put, List.setIfInBounds_toArray, List.set_cons_zero, List.set_cons_succ]
          clear hHeld
          have yr9 := r9.cell
          have zr9 := r9.lt
          have ur9 := r9.free
          refine wpAnyH_ready (rs := [14]) (by kernel_rfl) (by simp) ?_
          refine' AllReadyH.cons (o := _) ?_ (fun K hK => ?_) AllReadyH.nil
          rotate_left 1
          · (simp only [List.getElem?_toArray, List.getElem?_cons_succ, List.getElem?_cons_zero]; rfl)
          go_simp
          clear yr9 zr9 ur9
          replace r2 := ((((((r2.other nr2_r9.symm 0 (.int .i64 n)).other nr2_r9.symm 1 (.int .i64 k)).other nr2_r9.symm 2 (.int .i64 i)).other nr2_r9.symm 3 (.int .u32 g0)).other nr2_r9.symm 4 (.int .i64 y)).other nr2_r9.symm 5 (.int .i64 z))
          replace rw := ((((((rw.other nrw_r9.symm 0 (.int .i64 n)).other nrw_r9.symm 1 (.int .i64 k)).other nrw_r9.symm 2 (.int .i64 i)).other nrw_r9.symm 3 (.int .u32 g0)).other nrw_r9.symm 4 (.int .i64 y)).other nrw_r9.symm 5 (.int .i64 z))
          replace r7 := ((((((r7.other nr7_r9.symm 0 (.int .i64 n)).other nr7_r9.symm 1 (.int .i64 k)).other nr7_r9.symm 2 (.int .i64 i)).other nr7_r9.symm 3 (.int .u32 g0)).other nr7_r9.symm 4 (.int .i64 y)).other nr7_r9.symm 5 (.int .i64 z))
          replace r9 := ((((((r9.set 0 (.int .i64 n)).set 1 (.int .i64 k)).set 2 (.int .i64 i)).set 3 (.int .u32 g0)).set 4 (.int .i64 y)).set 5 (.int .i64 z))
          simp only [List.setIfInBounds_toArray, List.set_cons_zero, List.set_cons_succ] at r9
          replace hc := ((((((hc.setCell (p := ⟨b9, 0, none⟩) wr9 (.int .i64 n)).setCell (p := ⟨b9, 1, none⟩) wr9 (.int .i64 k)).setCell (p := ⟨b9, 2, none⟩) wr9 (.int .i64 i)).setCell (p := ⟨b9, 3, none⟩) wr9 (.int .u32 g0)).setCell (p := ⟨b9, 4, none⟩) wr9 (.int .i64 y)).setCell (p := ⟨b9, 5, none⟩) wr9 (.int .i64 z))
          generalize hW : World.setCell _ _ _ = V9 at *
          clear hW
          refine hK.out _ _ ⟨r7.cell, rw.cell⟩ (fun hHeld => ?_)
          clear hK K
          clear hHeld
          refine wpAnyH_done (by kernel_rfl) ?_ _
          go_wp2_with fail
          go_meet
          exact ⟨_, rfl, nr2_r9.symm, r9, r2, hc⟩
      · go_simp
        have r9 := Row.new (W := V4) (cs := #[.int .i64 0, .int .i64 0, .int .i64 0, .int .u32 0, .int .i64 0, .int .i64 0]) (t := 43)
        have hn := below_alloc V4 (.cells #[.int .i64 0, .int .i64 0, .int .i64 0, .int .u32 0, .int .i64 0, .int .i64 0] 43)
        have nr2_r9 : w.heap.size ≠ V4.heap.size := Nat.ne_of_lt r2.lt
        have nrw_r9 : g ≠ V4.heap.size := Nat.ne_of_lt rw.lt
        have nr7_r9 : b7 ≠ V4.heap.size := Nat.ne_of_lt r7.lt
        have wr9 : w.heap.size ≤ V4.heap.size := hc.size
        replace r2 := r2.on hn
        replace rw := rw.on hn
        replace r7 := r7.on hn
        replace r5 := r5.on hn
        replace hc := chain hc hn
        clear hn
        generalize V4.alloc (.cells #[.int .i64 0, .int .i64 0, .int .i64 0, .int .u32 0, .int .i64 0, .int .i64 0] 43) = V5 at r2 rw r7 r5 r9 hc ⊢
        generalize V4.heap.size = b9 at *
        refine hK.out _ _ ⟨r7.cell, rw.cell⟩ (fun hHeld => ?_)
        clear hK K
        clear hHeld
        refine wpAnyH_ready (rs := [6]) (by kernel_rfl) (by simp) ?_
        refine' AllReadyH.cons (o := _) ?_ (fun K hK => ?_) AllReadyH.nil
        rotate_left 1
        · (simp only [List.getElem?_toArray, List.getElem?_cons_succ, List.getElem?_cons_zero]; rfl)
        go_simp
        refine Calls.mono (CY.out b5 _ r5) ?_
        rintro e V6 ⟨rfl, hn⟩
        clear r5
        replace r2 := r2.on hn
        replace rw := rw.on hn
        replace r7 := r7.on hn
        replace r9 := r9.on hn
        replace hc := chain hc hn
        clear hn
        go_simp
        refine hK.out _ _ ⟨r7.cell, rw.cell⟩ (fun hHeld => ?_)
        clear hK K
        clear hHeld
        refine wpAnyH_ready (rs := [10]) (by kernel_rfl) (by simp) ?_
        refine' AllReadyH.cons (o := _) ?_ (fun K hK => ?_) AllReadyH.nil
        rotate_left 1
        · (simp only [List.getElem?_toArray, List.getElem?_cons_succ, List.getElem?_cons_zero]; rfl)
        go_simp
        refine Calls.mono (answersR_c _) ?_
        rintro e V7 ⟨b10, rfl, r10, hn⟩
        replace r2 := r2.on hn
        replace rw := rw.on hn
        replace r7 := r7.on hn
        replace r9 := r9.on hn
        replace hc := chain hc hn
        clear hn
        go_simp
        refine hK.out _ _ ⟨r7.cell, rw.cell⟩ (fun hHeld => ?_)
        clear hK K
        clear hHeld
        refine wpAnyH_ready (rs := [11]) (by kernel_rfl) (by simp) ?_
        refine' AllReadyH.cons (o := _) ?_ (fun K hK => ?_) AllReadyH.nil
        rotate_left 1
        · (simp only [List.getElem?_toArray, List.getElem?_cons_succ, List.getElem?_cons_zero]; rfl)
        go_simp
        refine Calls.mono (CZ.out b10 _ r10) ?_
        rintro e V8 ⟨rfl, hn⟩
        clear r10
        replace r2 := r2.on hn
        replace rw := rw.on hn
        replace r7 := r7.on hn
        replace r9 := r9.on hn
        replace hc := chain hc hn
        clear hn
        go_simp
        refine hK.out _ _ ⟨r7.cell, rw.cell⟩ (fun hHeld => ?_)
        clear hK K
        refine' wpAnyH_take (i := 12) (oi := _) (v := _) ?_ (by kernel_rfl) (by kernel_rfl) (by kernel_rfl) ?_ (Or.inl ⟨?_, ?_⟩) (by assumption) ?_
        rotate_left 2
        · (simp only [List.getElem?_toArray, List.getElem?_cons_succ, List.getElem?_cons_zero]; rfl)
        · first | exact fun _ _ _ h => h | exact fun _ _ _ h => nomatch h.1
        · rfl
        · (intro W hSW; (try dsimp only at hSW); go_split_ands; first | (go_simp; done) | (go_simp; with_reducible rfl))
        try simp only [Act.put, List.setIfInBounds_toArray, List.set_cons_zero, List.set_cons_succ]
        clear hHeld
        have yr9 := r9.cell
        have zr9 := r9.lt
        have ur9 := r9.free
        refine wpAnyH_ready (rs := [14]) (by kernel_rfl) (by simp) ?_
        refine' AllReadyH.cons (o := _) ?_ (fun K hK => ?_) AllReadyH.nil
        rotate_left 1
        · (simp only [List.getElem?_toArray, List.getElem?_cons_succ, List.getElem?_cons_zero]; rfl)
        go_simp
        clear yr9 zr9 ur9
        replace r2 := ((((((r2.other nr2_r9.symm 0 (.int .i64 n)).other nr2_r9.symm 1 (.int .i64 k)).other nr2_r9.symm 2 (.int .i64 i)).other nr2_r9.symm 3 (.int .u32 g0)).other nr2_r9.symm 4 (.int .i64 y)).other nr2_r9.symm 5 (.int .i64 z))
        replace rw := ((((((rw.other nrw_r9.symm 0 (.int .i64 n)).other nrw_r9.symm 1 (.int .i64 k)).other nrw_r9.symm 2 (.int .i64 i)).other nrw_r9.symm 3 (.int .u32 g0)).other nrw_r9.symm 4 (.int .i64 y)).other nrw_r9.symm 5 (.int .i64 z))
        replace r7 := ((((((r7.other nr7_r9.symm 0 (.int .i64 n)).other nr7_r9.symm 1 (.int .i64 k)).other nr7_r9.symm 2 (.int .i64 i)).other nr7_r9.symm 3 (.int .u32 g0)).other nr7_r9.symm 4 (.int .i64 y)).other nr7_r9.symm 5 (.int .i64 z))
        replace r9 := ((((((r9.set 0 (.int .i64 n)).set 1 (.int .i64 k)).set 2 (.int .i64 i)).set 3 (.int .u32 g0)).set 4 (.int .i64 y)).set 5 (.int .i64 z))
        simp only [List.setIfInBounds_toArray, List.set_cons_zero, List.set_cons_succ] at r9
        replace hc := ((((((hc.setCell (p := ⟨b9, 0, none⟩) wr9 (.int .i64 n)).setCell (p := ⟨b9, 1, none⟩) wr9 (.int .i64 k)).setCell (p := ⟨b9, 2, none⟩) wr9 (.int .i64 i)).setCell (p := ⟨b9, 3, none⟩) wr9 (.int .u32 g0)).setCell (p := ⟨b9, 4, none⟩) wr9 (.int .i64 y)).setCell (p := ⟨b9, 5, none⟩) wr9 (.int .i64 z))
        generalize hW : World.setCell _ _ _ = V9 at *
        clear hW
        refine hK.out _ _ ⟨r7.cell, rw.cell⟩ (fun hHeld => ?_)
        clear hK K
        clear hHeld
        refine wpAnyH_done (by kernel_rfl) ?_ _
        go_wp2_with fail
        go_meet
        exact ⟨_, rfl, nr2_r9.symm, r9, r2, hc⟩
    · go_simp
      have r9 := Row.new (W := V3) (cs := #[.int .i64 0, .int .i64 0, .int .i64 0, .int .u32 0, .int .i64 0, .int .i64 0]) (t := 43)
      have hn := below_alloc V3 (.cells #[.int .i64 0, .int .i64 0, .int .i64 0, .int .u32 0, .int .i64 0, .int .i64 0] 43)
      have nr2_r9 : w.heap.size ≠ V3.heap.size := Nat.ne_of_lt r2.lt
      have nrw_r9 : g ≠ V3.heap.size := Nat.ne_of_lt rw.lt
      have nr7_r9 : b7 ≠ V3.heap.size := Nat.ne_of_lt r7.lt
      have wr9 : w.heap.size ≤ V3.heap.size := hc.size
      replace r2 := r2.on hn
      replace rw := rw.on hn
      replace r7 := r7.on hn
      replace hc := chain hc hn
      clear hn
      generalize V3.alloc (.cells #[.int .i64 0, .int .i64 0, .int .i64 0, .int .u32 0, .int .i64 0, .int .i64 0] 43) = V4 at r2 rw r7 r9 hc ⊢
      generalize V3.heap.size = b9 at *
      refine hK.out _ _ ⟨r7.cell, rw.cell⟩ (fun hHeld => ?_)
      clear hK K
      clear hHeld
      refine wpAnyH_ready (rs := [5]) (by kernel_rfl) (by simp) ?_
      refine' AllReadyH.cons (o := _) ?_ (fun K hK => ?_) AllReadyH.nil
      rotate_left 1
      · (simp only [List.getElem?_toArray, List.getElem?_cons_succ, List.getElem?_cons_zero]; rfl)
      go_simp
      refine Calls.mono (whysR_c _) ?_
      rintro e V5 ⟨b5, rfl, r5, hn⟩
      replace r2 := r2.on hn
      replace rw := rw.on hn
      replace r7 := r7.on hn
      replace r9 := r9.on hn
      replace hc := chain hc hn
      clear hn
      go_simp
      refine hK.out _ _ ⟨r7.cell, rw.cell⟩ (fun hHeld => ?_)
      clear hK K
      clear hHeld
      refine wpAnyH_ready (rs := [6]) (by kernel_rfl) (by simp) ?_
      refine' AllReadyH.cons (o := _) ?_ (fun K hK => ?_) AllReadyH.nil
      rotate_left 1
      · (simp only [List.getElem?_toArray, List.getElem?_cons_succ, List.getElem?_cons_zero]; rfl)
      go_simp
      refine Calls.mono (CY.out b5 _ r5) ?_
      rintro e V6 ⟨rfl, hn⟩
      clear r5
      replace r2 := r2.on hn
      replace rw := rw.on hn
      replace r7 := r7.on hn
      replace r9 := r9.on hn
      replace hc := chain hc hn
      clear hn
      go_simp
      refine hK.out _ _ ⟨r7.cell, rw.cell⟩ (fun hHeld => ?_)
      clear hK K
      clear hHeld
      refine wpAnyH_ready (rs := [10]) (by kernel_rfl) (by simp) ?_
      refine' AllReadyH.cons (o := _) ?_ (fun K hK => ?_) AllReadyH.nil
      rotate_left 1
      · (simp only [List.getElem?_toArray, List.getElem?_cons_succ, List.getElem?_cons_zero]; rfl)
      go_simp
      refine Calls.mono (answersR_c _) ?_
      rintro e V7 ⟨b10, rfl, r10, hn⟩
      replace r2 := r2.on hn
      replace rw := rw.on hn
      replace r7 := r7.on hn
      replace r9 := r9.on hn
      replace hc := chain hc hn
      clear hn
      go_simp
      refine hK.out _ _ ⟨r7.cell, rw.cell⟩ (fun hHeld => ?_)
      clear hK K
      clear hHeld
      refine wpAnyH_ready (rs := [11]) (by kernel_rfl) (by simp) ?_
      refine' AllReadyH.cons (o := _) ?_ (fun K hK => ?_) AllReadyH.nil
      rotate_left 1
      · (simp only [List.getElem?_toArray, List.getElem?_cons_succ, List.getElem?_cons_zero]; rfl)
      go_simp
      refine Calls.mono (CZ.out b10 _ r10) ?_
      rintro e V8 ⟨rfl, hn⟩
      clear r10
      replace r2 := r2.on hn
      replace rw := rw.on hn
      replace r7 := r7.on hn
      replace r9 := r9.on hn
      replace hc := chain hc hn
      clear hn
      go_simp
      refine hK.out _ _ ⟨r7.cell, rw.cell⟩ (fun hHeld => ?_)
      clear hK K
      refine' wpAnyH_take (i := 12) (oi := _) (v := _) ?_ (by kernel_rfl) (by kernel_rfl) (by kernel_rfl) ?_ (Or.inl ⟨?_, ?_⟩) (by assumption) ?_
      rotate_left 2
      · (simp only [List.getElem?_toArray, List.getElem?_cons_succ, List.getElem?_cons_zero]; rfl)
      · first | exact fun _ _ _ h => h | exact fun _ _ _ h => nomatch h.1
      · rfl
      · (intro W hSW; (try dsimp only at hSW); go_split_ands; first | (go_simp; done) | (go_simp; with_reducible rfl))
      try simp only [Act.put, List.setIfInBounds_toArray, List.set_cons_zero, List.set_cons_succ]
      clear hHeld
      have yr9 := r9.cell
      have zr9 := r9.lt
      have ur9 := r9.free
      refine wpAnyH_ready (rs := [14]) (by kernel_rfl) (by simp) ?_
      refine' AllReadyH.cons (o := _) ?_ (fun K hK => ?_) AllReadyH.nil
      rotate_left 1
      · (simp only [List.getElem?_toArray, List.getElem?_cons_succ, List.getElem?_cons_zero]; rfl)
      go_simp
      clear yr9 zr9 ur9
      replace r2 := ((((((r2.other nr2_r9.symm 0 (.int .i64 n)).other nr2_r9.symm 1 (.int .i64 k)).other nr2_r9.symm 2 (.int .i64 i)).other nr2_r9.symm 3 (.int .u32 g0)).other nr2_r9.symm 4 (.int .i64 y)).other nr2_r9.symm 5 (.int .i64 z))
      replace rw := ((((((rw.other nrw_r9.symm 0 (.int .i64 n)).other nrw_r9.symm 1 (.int .i64 k)).other nrw_r9.symm 2 (.int .i64 i)).other nrw_r9.symm 3 (.int .u32 g0)).other nrw_r9.symm 4 (.int .i64 y)).other nrw_r9.symm 5 (.int .i64 z))
      replace r7 := ((((((r7.other nr7_r9.symm 0 (.int .i64 n)).other nr7_r9.symm 1 (.int .i64 k)).other nr7_r9.symm 2 (.int .i64 i)).other nr7_r9.symm 3 (.int .u32 g0)).other nr7_r9.symm 4 (.int .i64 y)).other nr7_r9.symm 5 (.int .i64 z))
      replace r9 := ((((((r9.set 0 (.int .i64 n)).set 1 (.int .i64 k)).set 2 (.int .i64 i)).set 3 (.int .u32 g0)).set 4 (.int .i64 y)).set 5 (.int .i64 z))
      simp only [List.setIfInBounds_toArray, List.set_cons_zero, List.set_cons_succ] at r9
      replace hc := ((((((hc.setCell (p := ⟨b9, 0, none⟩) wr9 (.int .i64 n)).setCell (p := ⟨b9, 1, none⟩) wr9 (.int .i64 k)).setCell (p := ⟨b9, 2, none⟩) wr9 (.int .i64 i)).setCell (p := ⟨b9, 3, none⟩) wr9 (.int .u32 g0)).setCell (p := ⟨b9, 4, none⟩) wr9 (.int .i64 y)).setCell (p := ⟨b9, 5, none⟩) wr9 (.int .i64 z))
      generalize hW : World.setCell _ _ _ = V9 at *
      clear hW
      refine hK.out _ _ ⟨r7.cell, rw.cell⟩ (fun hHeld => ?_)
      clear hK K
      clear hHeld
      refine wpAnyH_done (by kernel_rfl) ?_ _
      go_wp2_with fail
      go_meet
      exact ⟨_, rfl, nr2_r9.symm, r9, r2, hc⟩
  obtain ⟨b9, rfl, hb92, r9, r2, hc⟩ := hcut
  clear nr2_r7 nrw_r7 r7 rw nr2_rw
  have yr2 := r2.cell
  have zr2 := r2.lt
  have yr9 := r9.cell
  have zr9 := r9.lt
  go_wp2_with fail
  refine Calls.mono (CC.out _) ?_
  rintro e W7 ⟨rfl, hn⟩
  clear yr2 yr9 zr2 zr9
  replace r2 := r2.on hn
  replace r9 := r9.on hn
  replace hc := chain hc hn
  clear hn
  have yr2 := r2.cell
  have zr2 := r2.lt
  have yr9 := r9.cell
  have zr9 := r9.lt
  have ur2 := r2.free
  go_wp2_with fail
  refine bodyPost_ret (v := .tuple #[atV at0, .bool false]) (by simp [results, Tryz.results68, go_sem, yr2, zr2, ur2]) rfl ⟨rfl, ?_⟩
  refine Below.setCell ?_ (by first | exact Nat.le_refl _ | simp | omega) _
  refine Below.setCell ?_ (by first | exact Nat.le_refl _ | simp | omega) _
  refine Below.setCell ?_ (by first | exact Nat.le_refl _ | simp | omega) _
  refine Below.setCell ?_ (by first | exact Nat.le_refl _ | simp | omega) _
  refine Below.setCell ?_ (by first | exact Nat.le_refl _ | simp | omega) _
  exact hc.setCell (by first | exact Nat.le_refl _ | simp | omega) _
theorem parse_good (s x0 x1 x2 x3 : ByteArray) (w : World) (hE : EnvP w) (hs : s.size ≤ 100000) (hcut : cutAll 32 s.data.toList = [x0.data.toList, x1.data.toList, x2.data.toList, x3.data.toList]) (n : Int) (hp : Lib.parseIntB 64 x0.data.toList = .ok n) (hn0 : -9223372036854775808 ≤ n) (hn1 : n ≤ 9223372036854775807) (hf : (⟨(Lib.itoa n).toArray⟩ : ByteArray) = x0) (k i g0 : Int) (hg : 0 ≤ g0 ∧ g0 ≤ 4294967295) (ho : ∀ W, EnvP W → Ret 101 #[.string x1] W (.tuple #[.agg #[.int .i64 k, .int .i64 i, .int .u32 g0], .int .i64 0])) (hok : aOk ⟨n, k, i, g0, whyI x2.data.toList, ansI x3.data.toList⟩ = true) :
    Ret 68 #[.string s] w (.tuple #[atV ⟨n, k, i, g0, whyI x2.data.toList, ansI x3.data.toList⟩, .bool true]) := by
  have HE := Lib.hid hE
  have hc := Below.refl w.heap.size w
  have cf := fun W (hW : EnvP W) => fmt_any n W hW.toEnv hn0 hn1
  rw [hf] at cf
  have hf2 : (x0.toList == x0.toList) = true := by simp
  have hf3 : (x0.toList != x0.toList) = false := by simp
  have CF := Lib.hid cf
  have CO := Lib.hid ho
  have CY := Lib.hid (fun b W hr => wwhy_c x2 b W hr)
  have CZ := Lib.hid (fun b W hr => wans_c x3 b W hr)
  have CC := Lib.hid (fun W => acheck_c ⟨n, k, i, g0, whyI x2.data.toList, ansI x3.data.toList⟩ hg W)
  obtain ⟨y, hy⟩ : ∃ y, y = whyI x2.data.toList := ⟨_, rfl⟩
  obtain ⟨z, hz⟩ : ∃ z, z = ansI x3.data.toList := ⟨_, rfl⟩
  rw [← hy] at CY CC
  rw [← hz] at CZ CC
  rw [← hy, ← hz] at hok ⊢
  rw [aErr_ok hok] at CC
  clear hok
  clear cf hf hn0 hn1 hg ho hy hz
  go_enter Tryz.func68, Tryz.ntmps68
  go_upto_region 1 with fail
  have r2 := Row.new (W := w) (cs := #[.int .i64 0, .int .i64 0, .int .i64 0, .int .u32 0, .int .i64 0, .int .i64 0]) (t := 43)
  have hn := below_alloc w (.cells #[.int .i64 0, .int .i64 0, .int .i64 0, .int .u32 0, .int .i64 0, .int .i64 0] 43)
  have wr2 : w.heap.size ≤ w.heap.size := hc.size
  replace hc := chain hc hn
  clear hn
  generalize w.alloc (.cells #[.int .i64 0, .int .i64 0, .int .i64 0, .int .u32 0, .int .i64 0, .int .i64 0] 43) = V1 at r2 hc ⊢
  have CS := Lib.hid (split_spL s V1 (HE.out.on hc).shp (by omega))
  have yr2 := r2.cell
  have zr2 := r2.lt
  go_wp2_with fail
  refine Calls.mono CS.out ?_
  rintro e W1 ⟨xs, g, rfl, hxs, rw, hn⟩
  clear yr2 zr2
  replace r2 := r2.on hn
  replace hc := chain hc hn
  clear hn
  clear CS
  have hx4 : xs = [x0, x1, x2, x3] := by
    rw [hcut] at hxs
    exact (List.map_inj_right (f := fun y : ByteArray => y.data.toList) (fun a b h => str_ext h)).1 (hxs.trans rfl)
  subst hx4
  replace rw : Row W1 g #[.string x0, .string x1, .string x2, .string x3] 9 := rw
  have hx0 : x0.size ≤ 100000 := by
    have h1 := join_cutAll 32 s.data.toList
    rw [hcut] at h1
    have h2 := congrArg List.length h1
    simp [Lib.join, List.intercalate, len_bytes] at h2
    omega
  clear hxs hcut hs
  have nr2_rw : w.heap.size ≠ g := rowP_ne r2 rw (by decide)
  simp only [List.length_cons, List.length_nil, Nat.zero_add, Nat.reduceAdd]
  have CP := Lib.hid (fun W => pint_ok x0 hx0 n hp W)
  clear hp
  have yr2 := r2.cell
  have zr2 := r2.lt
  have yrw := rw.cell
  have zrw := rw.lt
  go_wp2_with fail
  refine Calls.mono (CP.out _) ?_
  rintro e W2 ⟨rfl, hn⟩
  clear yr2 yrw zr2 zrw
  replace r2 := r2.on hn
  replace rw := rw.on hn
  replace hc := chain hc hn
  clear hn
  have yr2 := r2.cell
  have zr2 := r2.lt
  have yrw := rw.cell
  have zrw := rw.lt
  go_upto_region 5 with fail
  clear yr2 yrw zr2 zrw
  refine wp_region_held_drew (S := fun W' => (∀ j, W'.cell? ⟨g, j, none⟩ = (#[.string x0, .string x1, .string x2, .string x3] : Array Value)[j]?)) (by kernel_rfl) rw.cell (fun hHeld => ?_)
  replace r2 := r2.drew
  replace rw := rw.drew
  replace hc := hc.drew
  generalize W2.drew = W9 at *
  refine' wpAnyH_take (i := 0) (oi := _) (v := _) ?_ (by kernel_rfl) (by kernel_rfl) (by kernel_rfl) ?_ (Or.inl ⟨?_, ?_⟩) (by assumption) ?_
  rotate_left 2
  · (simp only [List.getElem?_toArray, List.getElem?_cons_succ, List.getElem?_cons_zero]; rfl)
  · first | exact fun _ _ _ h => h | exact fun _ _ _ h => nomatch h.1
  · rfl
  · (intro W hSW; (try dsimp only at hSW); go_split_ands; first | (go_simp; done) | (go_simp; with_reducible rfl))
  try simp only [Act.put, List.setIfInBounds_toArray, List.set_cons_zero, List.set_cons_succ]
  refine' wpAnyH_take (i := 1) (oi := _) (v := _) ?_ (by kernel_rfl) (by kernel_rfl) (by kernel_rfl) ?_ (Or.inl ⟨?_, ?_⟩) (by assumption) ?_
  rotate_left 2
  · (simp only [List.getElem?_toArray, List.getElem?_cons_succ, List.getElem?_cons_zero]; rfl)
  · first | exact fun _ _ _ h => h | exact fun _ _ _ h => nomatch h.1
  · rfl
  · (intro W hSW; (try dsimp only at hSW); go_split_ands; first | (go_simp; done) | (go_simp; with_reducible rfl))
  try simp only [Act.put, List.setIfInBounds_toArray, List.set_cons_zero, List.set_cons_succ]
  refine' wpAnyH_take (i := 2) (oi := _) (v := _) ?_ (by kernel_rfl) (by kernel_rfl) (by kernel_rfl) ?_ (Or.inl ⟨?_, ?_⟩) (by assumption) ?_
  rotate_left 2
  · (simp only [List.getElem?_toArray, List.getElem?_cons_succ, List.getElem?_cons_zero]; rfl)
  · first | exact fun _ _ _ h => h | exact fun _ _ _ h => nomatch h.1
  · rfl
  · (intro W hSW; (try dsimp only at hSW); go_split_ands; first | (go_simp; done) | (go_simp; with_reducible rfl))
  try simp only [Act.put, List.setIfInBounds_toArray, List.set_cons_zero, List.set_cons_succ]
  refine' wpAnyH_take (i := 3) (oi := _) (v := _) ?_ (by kernel_rfl) (by kernel_rfl) (by kernel_rfl) ?_ (Or.inl ⟨?_, ?_⟩) (by assumption) ?_
  rotate_left 2
  · (simp only [List.getElem?_toArray, List.getElem?_cons_succ, List.getElem?_cons_zero]; rfl)
  · first | exact fun _ _ _ h => h | exact fun _ _ _ h => nomatch h.1
  · rfl
  · (intro W hSW; (try dsimp only at hSW); go_split_ands; first | (go_simp; done) | (go_simp; with_reducible rfl))
  try simp only [Act.put, List.setIfInBounds_toArray, List.set_cons_zero, List.set_cons_succ]
  refine' wpAnyH_take (i := 5) (oi := _) (v := _) ?_ (by kernel_rfl) (by kernel_rfl) (by kernel_rfl) ?_ (Or.inl ⟨?_, ?_⟩) (by assumption) ?_
  rotate_left 2
  · (simp only [List.getElem?_toArray, List.getElem?_cons_succ, List.getElem?_cons_zero]; rfl)
  · first | exact fun _ _ _ h => h | exact fun _ _ _ h => nomatch h.1
  · rfl
  · (intro W hSW; (try dsimp only at hSW); go_split_ands; first | (go_simp; done) | (go_simp; with_reducible rfl))
  try simp only [Act.put, List.setIfInBounds_toArray, List.set_cons_zero, List.set_cons_succ]
  refine' wpAnyH_take (i := 6) (oi := _) (v := _) ?_ (by kernel_rfl) (by kernel_rfl) (by kernel_rfl) ?_ (Or.inl ⟨?_, ?_⟩) (by assumption) ?_
  rotate_left 2
  · (simp only [List.getElem?_toArray, List.getElem?_cons_succ, List.getElem?_cons_zero]; rfl)
  · first | exact fun _ _ _ h => h | exact fun _ _ _ h => nomatch h.1
  · rfl
  · (intro W hSW; (try dsimp only at hSW); go_split_ands; first | (go_simp; done) | (go_simp; with_reducible rfl))
  try simp only [Act.put, List.setIfInBounds_toArray, List.set_cons_zero, List.set_cons_succ]
  refine' wpAnyH_take (i := 7) (oi := _) (v := _) ?_ (by kernel_rfl) (by kernel_rfl) (by kernel_rfl) ?_ (Or.inl ⟨?_, ?_⟩) (by assumption) ?_
  rotate_left 2
  · (simp only [List.getElem?_toArray, List.getElem?_cons_succ, List.getElem?_cons_zero]; rfl)
  · first | exact fun _ _ _ h => h | exact fun _ _ _ h => nomatch h.1
  · rfl
  · (intro W hSW; (try dsimp only at hSW); go_split_ands; first | (go_simp; done) | (go_simp; with_reducible rfl))
  try simp only [Act.put, List.setIfInBounds_toArray, List.set_cons_zero, List.set_cons_succ]
  clear hHeld
  refine wpAnyH_ready (rs := [4]) (by kernel_rfl) (by simp) ?_
  refine' AllReadyH.cons (o := _) ?_ (fun K hK => ?_) AllReadyH.nil
  rotate_left 1
  · (simp only [List.getElem?_toArray, List.getElem?_cons_succ, List.getElem?_cons_zero]; rfl)
  go_simp
  refine Calls.mono (CF.out _ (HE.out.on hc)) ?_
  rintro e W4 ⟨rfl, hn⟩
  replace r2 := r2.on hn
  replace rw := rw.on hn
  replace hc := chain hc hn
  clear hn
  go_simp
  refine hK.out _ _ rw.cell (fun hHeld => ?_)
  clear hK K
  refine' wpAnyH_take (i := 8) (oi := _) (v := _) ?_ (by kernel_rfl) (by kernel_rfl) (by kernel_rfl) ?_ (Or.inl ⟨?_, ?_⟩) (by assumption) ?_
  rotate_left 2
  · (simp only [List.getElem?_toArray, List.getElem?_cons_succ, List.getElem?_cons_zero]; rfl)
  · first | exact fun _ _ _ h => h | exact fun _ _ _ h => nomatch h.1
  · rfl
  · (intro W hSW; (try dsimp only at hSW); go_split_ands; first | (go_simp; done) | (go_simp; with_reducible rfl))
  try simp only [Act.put, List.setIfInBounds_toArray, List.set_cons_zero, List.set_cons_succ]
  refine' wpAnyH_take (i := 9) (oi := _) (v := _) ?_ (by kernel_rfl) (by kernel_rfl) (by kernel_rfl) ?_ (Or.inl ⟨?_, ?_⟩) (by assumption) ?_
  rotate_left 2
  · (simp only [List.getElem?_toArray, List.getElem?_cons_succ, List.getElem?_cons_zero]; rfl)
  · first | exact fun _ _ _ h => h | exact fun _ _ _ h => nomatch h.1
  · rfl
  · (intro W hSW; (try dsimp only at hSW); go_split_ands; first | (go_simp; done) | (go_simp; with_reducible rfl))
  try simp only [Act.put, List.setIfInBounds_toArray, List.set_cons_zero, List.set_cons_succ]
  clear hHeld
  refine wpAnyH_done (by kernel_rfl) ?_ _
  have yr2 := r2.cell
  have zr2 := r2.lt
  have yrw := rw.cell
  have zrw := rw.lt
  go_wp2_with fail
  refine Calls.mono (CO.out _ (HE.out.on hc)) ?_
  rintro e W5 ⟨rfl, hn⟩
  clear yr2 yrw zr2 zrw
  replace r2 := r2.on hn
  replace rw := rw.on hn
  replace hc := chain hc hn
  clear hn
  have yr2 := r2.cell
  have zr2 := r2.lt
  have yrw := rw.cell
  have zrw := rw.lt
  go_upto_region 8 with fail
  clear yr2 yrw zr2 zrw
  have r7 := Row.new (W := W5) (cs := #[.int .i64 k, .int .i64 i, .int .u32 g0]) (t := 41)
  have hn := below_alloc W5 (.cells #[.int .i64 k, .int .i64 i, .int .u32 g0] 41)
  have nr2_r7 : w.heap.size ≠ W5.heap.size := Nat.ne_of_lt r2.lt
  have nrw_r7 : g ≠ W5.heap.size := Nat.ne_of_lt rw.lt
  have wr7 : w.heap.size ≤ W5.heap.size := hc.size
  replace r2 := r2.on hn
  replace rw := rw.on hn
  replace hc := chain hc hn
  clear hn
  generalize W5.alloc (.cells #[.int .i64 k, .int .i64 i, .int .u32 g0] 41) = V2 at r2 rw r7 hc ⊢
  generalize W5.heap.size = b7 at *
  go_cut [9] (fun bv wx => ∃ b9, bv = .pointer (some ⟨b9, 0, none⟩) ∧ b9 ≠ w.heap.size ∧ Row wx b9 #[.int .i64 n, .int .i64 k, .int .i64 i, .int .u32 g0, .int .i64 y, .int .i64 z] 43 ∧ Row wx w.heap.size #[.int .i64 0, .int .i64 0, .int .i64 0, .int .u32 0, .int .i64 0, .int .i64 0] 43 ∧ Below w.heap.size w wx)
  case first =>
    refine wp_region_held_drew (S := fun W' => (∀ j, W'.cell? ⟨b7, j, none⟩ = #[.int .i64 k, .int .i64 i, .int .u32 g0][j]?) ∧ (∀ j, W'.cell? ⟨g, j, none⟩ = (#[.string x0, .string x1, .string x2, .string x3] : Array Value)[j]?)) (by kernel_rfl) ⟨r7.cell, rw.cell⟩ (fun hHeld => ?_)
    replace r2 := r2.drew
    replace rw := rw.drew
    replace r7 := r7.drew
    replace hc := hc.drew
    generalize V2.drew = V3 at *
    refine' wpAnyH_take (i := 0) (oi := _) (v := _) ?_ (by kernel_rfl) (by kernel_rfl) (by kernel_rfl) ?_ (Or.inl ⟨?_, ?_⟩) (by assumption) ?_
    rotate_left 2
    · (simp only [List.getElem?_toArray, List.getElem?_cons_succ, List.getElem?_cons_zero]; rfl)
    · first | exact fun _ _ _ h => h | exact fun _ _ _ h => nomatch h.1
    · rfl
    · (intro W hSW; (try dsimp only at hSW); go_split_ands; first | (go_simp; done) | (go_simp; with_reducible rfl))
    try simp only [Act.put, List.setIfInBounds_toArray, List.set_cons_zero, List.set_cons_succ]
    refine' wpAnyH_take (i := 1) (oi := _) (v := _) ?_ (by kernel_rfl) (by kernel_rfl) (by kernel_rfl) ?_ (Or.inl ⟨?_, ?_⟩) (by assumption) ?_
    rotate_left 2
    · (simp only [List.getElem?_toArray, List.getElem?_cons_succ, List.getElem?_cons_zero]; rfl)
    · first | exact fun _ _ _ h => h | exact fun _ _ _ h => nomatch h.1
    · rfl
    · (intro W hSW; (try dsimp only at hSW); go_split_ands; first | (go_simp; done) | (go_simp; with_reducible rfl))
    try simp only [Act.put, List.setIfInBounds_toArray, List.set_cons_zero, List.set_cons_succ]
    refine' wpAnyH_take (i := 2) (oi := _) (v := _) ?_ (by kernel_rfl) (by kernel_rfl) (by kernel_rfl) ?_ (Or.inl ⟨?_, ?_⟩) (by assumption) ?_
    rotate_left 2
    · (simp only [List.getElem?_toArray, List.getElem?_cons_succ, List.getElem?_cons_zero]; rfl)
    · first | exact fun _ _ _ h => h | exact fun _ _ _ h => nomatch h.1
    · rfl
    · (intro W hSW; (try dsimp only at hSW); go_split_ands; first | (go_simp; done) | (go_simp; with_reducible rfl))
    try simp only [Act.put, List.setIfInBounds_toArray, List.set_cons_zero, List.set_cons_succ]
    refine' wpAnyH_take (i := 3) (oi := _) (v := _) ?_ (by kernel_rfl) (by kernel_rfl) (by kernel_rfl) ?_ (Or.inl ⟨?_, ?_⟩) (by assumption) ?_
    rotate_left 2
    · (simp only [List.getElem?_toArray, List.getElem?_cons_succ, List.getElem?_cons_zero]; rfl)
    · first | exact fun _ _ _ h => h | exact fun _ _ _ h => nomatch h.1
    · rfl
    · (intro W hSW; (try dsimp only at hSW); go_split_ands; first | (go_simp; done) | (go_simp; with_reducible rfl))
    try simp only [Act.put, List.setIfInBounds_toArray, List.set_cons_zero, List.set_cons_succ]
    refine' wpAnyH_take (i := 4) (oi := _) (v := _) ?_ (by kernel_rfl) (by kernel_rfl) (by kernel_rfl) ?_ (Or.inl ⟨?_, ?_⟩) (by assumption) ?_
    rotate_left 2
    · (simp only [List.getElem?_toArray, List.getElem?_cons_succ, List.getElem?_cons_zero]; rfl)
    · first | exact fun _ _ _ h => h | exact fun _ _ _ h => nomatch h.1
    · rfl
    · (intro W hSW; (try dsimp only at hSW); go_split_ands; first | (go_simp; done) | (go_simp; with_reducible rfl))
    try simp only [Act.put, List.setIfInBounds_toArray, List.set_cons_zero, List.set_cons_succ]
    refine' wpAnyH_take (i := 7) (oi := _) (v := _) ?_ (by kernel_rfl) (by kernel_rfl) (by kernel_rfl) ?_ (Or.inl ⟨?_, ?_⟩) (by assumption) ?_
    rotate_left 2
    · (simp only [List.getElem?_toArray, List.getElem?_cons_succ, List.getElem?_cons_zero]; rfl)
    · first | exact fun _ _ _ h => h | exact fun _ _ _ h => nomatch h.1
    · rfl
    · (intro W hSW; (try dsimp only at hSW); go_split_ands; first | (go_simp; done) | (go_simp; with_reducible rfl))
    try simp only [Act.put, List.setIfInBounds_toArray, List.set_cons_zero, List.set_cons_succ]
    refine' wpAnyH_take (i := 8) (oi := _) (v := _) ?_ (by kernel_rfl) (by kernel_rfl) (by kernel_rfl) ?_ (Or.inl ⟨?_, ?_⟩) (by assumption) ?_
    rotate_left 2
    · (simp only [List.getElem?_toArray, List.getElem?_cons_succ, List.getElem?_cons_zero]; rfl)
    · first | exact fun _ _ _ h => h | exact fun _ _ _ h => nomatch h.1
    · rfl
    · (intro W hSW; (try dsimp only at hSW); go_split_ands; first | (go_simp; done) | (go_simp; with_reducible rfl))
    try simp only [Act.put, List.setIfInBounds_toArray, List.set_cons_zero, List.set_cons_succ]
    refine' wpAnyH_take (i := 9) (oi := _) (v := _) ?_ (by kernel_rfl) (by kernel_rfl) (by kernel_rfl) ?_ (Or.inl ⟨?_, ?_⟩) (by assumption) ?_
    rotate_left 2
    · (simp only [List.getElem?_toArray, List.getElem?_cons_succ, List.getElem?_cons_zero]; rfl)
    · first | exact fun _ _ _ h => h | exact fun _ _ _ h => nomatch h.1
    · rfl
    · (intro W hSW; (try dsimp only at hSW); go_split_ands; first | (go_simp; done) | (go_simp; with_reducible rfl))
    try simp only [Act.put, List.setIfInBounds_toArray, List.set_cons_zero, List.set_cons_succ]
    clear hHeld
    refine wpAnyH_ready (rs := [5, 13]) (by kernel_rfl) (by simp) ?_
    refine' AllReadyH.cons (o := _) (by simp only [List.getElem?_toArray, List.getElem?_cons_succ, List.getElem?_cons_zero]; rfl) (fun K hK => ?_) (AllReadyH.cons (o := _) (by simp only [List.getElem?_toArray, List.getElem?_cons_succ, List.getElem?_cons_zero]; rfl) (fun K hK => ?_) AllReadyH.nil)
    · go_simp
      refine Calls.mono (whysR_c _) ?_
      rintro e V4 ⟨b5, rfl, r5, hn⟩
      replace r2 := r2.on hn
      replace rw := rw.on hn
      replace r7 := r7.on hn
      replace hc := chain hc hn
      clear hn
      go_simp
      refine hK.out _ _ ⟨r7.cell, rw.cell⟩ (fun hHeld => ?_)
      clear hK K
      clear hHeld
      refine wpAnyH_ready (rs := [6, 13]) (by kernel_rfl) (by simp) ?_
      refine' AllReadyH.cons (o := _) (by simp only [List.getElem?_toArray, List.getElem?_cons_succ, List.getElem?_cons_zero]; rfl) (fun K hK => ?_) (AllReadyH.cons (o := _) (by simp only [List.getElem?_toArray, List.getElem?_cons_succ, List.getElem?_cons_zero]; rfl) (fun K hK => ?_) AllReadyH.nil)
      · go_simp
        refine Calls.mono (CY.out b5 _ r5) ?_
        rintro e V5 ⟨rfl, hn⟩
        clear r5
        replace r2 := r2.on hn
        replace rw := rw.on hn
        replace r7 := r7.on hn
        replace hc := chain hc hn
        clear hn
        go_simp
        refine hK.out _ _ ⟨r7.cell, rw.cell⟩ (fun hHeld => ?_)
        clear hK K
        clear hHeld
        refine wpAnyH_ready (rs := [10, 13]) (by kernel_rfl) (by simp) ?_
        refine' AllReadyH.cons (o := _) (by simp only [List.getElem?_toArray, List.getElem?_cons_succ, List.getElem?_cons_zero]; rfl) (fun K hK => ?_) (AllReadyH.cons (o := _) (by simp only [List.getElem?_toArray, List.getElem?_cons_succ, List.getElem?_cons_zero]; rfl) (fun K hK => ?_) AllReadyH.nil)
        · go_simp
          refine Calls.mono (answersR_c _) ?_
          rintro e V6 ⟨b10, rfl, r10, hn⟩
          replace r2 := r2.on hn
          replace rw := rw.on hn
          replace r7 := r7.on hn
          replace hc := chain hc hn
          clear hn
          go_simp
          refine hK.out _ _ ⟨r7.cell, rw.cell⟩ (fun hHeld => ?_)
          clear hK K
          clear hHeld
          refine wpAnyH_ready (rs := [11, 13]) (by kernel_rfl) (by simp) ?_
          refine' AllReadyH.cons (o := _) (by simp only [List.getElem?_toArray, List.getElem?_cons_succ, List.getElem?_cons_zero]; rfl) (fun K hK => ?_) (AllReadyH.cons (o := _) (by simp only [List.getElem?_toArray, List.getElem?_cons_succ, List.getElem?_cons_zero]; rfl) (fun K hK => ?_) AllReadyH.nil)
          · go_simp
            refine Calls.mono (CZ.out b10 _ r10) ?_
            rintro e V7 ⟨rfl, hn⟩
            clear r10
            replace r2 := r2.on hn
            replace rw := rw.on hn
            replace r7 := r7.on hn
            replace hc := chain hc hn
            clear hn
            go_simp
            refine hK.out _ _ ⟨r7.cell, rw.cell⟩ (fun hHeld => ?_)
            clear hK K
            refine' wpAnyH_take (i := 12) (oi := _) (v := _) ?_ (by kernel_rfl) (by kernel_rfl) (by kernel_rfl) ?_ (Or.inl ⟨?_, ?_⟩) (by assumption) ?_
            rotate_left 2
            · (simp only [List.getElem?_toArray, List.getElem?_cons_succ, List.getElem?_cons_zero]; rfl)
            · first | exact fun _ _ _ h => h | exact fun _ _ _ h => nomatch h.1
            · rfl
            · (intro W hSW; (try dsimp only at hSW); go_split_ands; first | (go_simp; done) | (go_simp; with_reducible rfl))
            try simp only [Act.put, List.setIfInBounds_toArray, List.set_cons_zero, List.set_cons_succ]
            clear hHeld
            refine wpAnyH_ready (rs := [13]) (by kernel_rfl) (by simp) ?_
            refine' AllReadyH.cons (o := _) ?_ (fun K hK => ?_) AllReadyH.nil
            rotate_left 1
            · (simp only [List.getElem?_toArray, List.getElem?_cons_succ, List.getElem?_cons_zero]; rfl)
            go_simp
            have r9 := Row.new (W := V7) (cs := #[.int .i64 0, .int .i64 0, .int .i64 0, .int .u32 0, .int .i64 0, .int .i64 0]) (t := 43)
            have hn := below_alloc V7 (.cells #[.int .i64 0, .int .i64 0, .int .i64 0, .int .u32 0, .int .i64 0, .int .i64 0] 43)
            have nr2_r9 : w.heap.size ≠ V7.heap.size := Nat.ne_of_lt r2.lt
            have nrw_r9 : g ≠ V7.heap.size := Nat.ne_of_lt rw.lt
            have nr7_r9 : b7 ≠ V7.heap.size := Nat.ne_of_lt r7.lt
            have wr9 : w.heap.size ≤ V7.heap.size := hc.size
            replace r2 := r2.on hn
            replace rw := rw.on hn
            replace r7 := r7.on hn
            replace hc := chain hc hn
            clear hn
            generalize V7.alloc (.cells #[.int .i64 0, .int .i64 0, .int .i64 0, .int .u32 0, .int .i64 0, .int .i64 0] 43) = V8 at r2 rw r7 r9 hc ⊢
            generalize V7.heap.size = b9 at *
            refine hK.out _ _ ⟨r7.cell, rw.cell⟩ (fun hHeld => ?_)
            clear hK K
            clear hHeld
            have yr9 := r9.cell
            have zr9 := r9.lt
            have ur9 := r9.free
            refine wpAnyH_ready (rs := [14]) (by kernel_rfl) (by simp) ?_
            refine' AllReadyH.cons (o := _) ?_ (fun K hK => ?_) AllReadyH.nil
            rotate_left 1
            · (simp only [List.getElem?_toArray, List.getElem?_cons_succ, List.getElem?_cons_zero]; rfl)
            go_simp
            clear yr9 zr9 ur9
            replace r2 := ((((((r2.other nr2_r9.symm 0 (.int .i64 n)).other nr2_r9.symm 1 (.int .i64 k)).other nr2_r9.symm 2 (.int .i64 i)).other nr2_r9.symm 3 (.int .u32 g0)).other nr2_r9.symm 4 (.int .i64 y)).other nr2_r9.symm 5 (.int .i64 z))
            replace rw := ((((((rw.other nrw_r9.symm 0 (.int .i64 n)).other nrw_r9.symm 1 (.int .i64 k)).other nrw_r9.symm 2 (.int .i64 i)).other nrw_r9.symm 3 (.int .u32 g0)).other nrw_r9.symm 4 (.int .i64 y)).other nrw_r9.symm 5 (.int .i64 z))
            replace r7 := ((((((r7.other nr7_r9.symm 0 (.int .i64 n)).other nr7_r9.symm 1 (.int .i64 k)).other nr7_r9.symm 2 (.int .i64 i)).other nr7_r9.symm 3 (.int .u32 g0)).other nr7_r9.symm 4 (.int .i64 y)).other nr7_r9.symm 5 (.int .i64 z))
            replace r9 := ((((((r9.set 0 (.int .i64 n)).set 1 (.int .i64 k)).set 2 (.int .i64 i)).set 3 (.int .u32 g0)).set 4 (.int .i64 y)).set 5 (.int .i64 z))
            simp only [List.setIfInBounds_toArray, List.set_cons_zero, List.set_cons_succ] at r9
            replace hc := ((((((hc.setCell (p := ⟨b9, 0, none⟩) wr9 (.int .i64 n)).setCell (p := ⟨b9, 1, none⟩) wr9 (.int .i64 k)).setCell (p := ⟨b9, 2, none⟩) wr9 (.int .i64 i)).setCell (p := ⟨b9, 3, none⟩) wr9 (.int .u32 g0)).setCell (p := ⟨b9, 4, none⟩) wr9 (.int .i64 y)).setCell (p := ⟨b9, 5, none⟩) wr9 (.int .i64 z))
            generalize hW : World.setCell _ _ _ = V9 at *
            clear hW
            refine hK.out _ _ ⟨r7.cell, rw.cell⟩ (fun hHeld => ?_)
            clear hK K
            clear hHeld
            refine wpAnyH_done (by kernel_rfl) ?_ _
            go_wp2_with fail
            go_meet
            exact ⟨_, rfl, nr2_r9.symm, r9, r2, hc⟩
          · go_simp
            have r9 := Row.new (W := V6) (cs := #[.int .i64 0, .int .i64 0, .int .i64 0, .int .u32 0, .int .i64 0, .int .i64 0]) (t := 43)
            have hn := below_alloc V6 (.cells #[.int .i64 0, .int .i64 0, .int .i64 0, .int .u32 0, .int .i64 0, .int .i64 0] 43)
            have nr2_r9 : w.heap.size ≠ V6.heap.size := Nat.ne_of_lt r2.lt
            have nrw_r9 : g ≠ V6.heap.size := Nat.ne_of_lt rw.lt
            have nr7_r9 : b7 ≠ V6.heap.size := Nat.ne_of_lt r7.lt
            have wr9 : w.heap.size ≤ V6.heap.size := hc.size
            replace r2 := r2.on hn
            replace rw := rw.on hn
            replace r7 := r7.on hn
            replace r10 := r10.on hn
            replace hc := chain hc hn
            clear hn
            generalize V6.alloc (.cells #[.int .i64 0, .int .i64 0, .int .i64 0, .int .u32 0, .int .i64 0, .int .i64 0] 43) = V7 at r2 rw r7 r10 r9 hc ⊢
            generalize V6.heap.size = b9 at *
            refine hK.out _ _ ⟨r7.cell, rw.cell⟩ (fun hHeld => ?_)
            clear hK K
            clear hHeld
            refine wpAnyH_ready (rs := [11]) (by kernel_rfl) (by simp) ?_
            refine' AllReadyH.cons (o := _) ?_ (fun K hK => ?_) AllReadyH.nil
            rotate_left 1
            · (simp only [List.getElem?_toArray, List.getElem?_cons_succ, List.getElem?_cons_zero]; rfl)
            go_simp
            refine Calls.mono (CZ.out b10 _ r10) ?_
            rintro e V8 ⟨rfl, hn⟩
            clear r10
            replace r2 := r2.on hn
            replace rw := rw.on hn
            replace r7 := r7.on hn
            replace r9 := r9.on hn
            replace hc := chain hc hn
            clear hn
            go_simp
            refine hK.out _ _ ⟨r7.cell, rw.cell⟩ (fun hHeld => ?_)
            clear hK K
            refine' wpAnyH_take (i := 12) (oi := _) (v := _) ?_ (by kernel_rfl) (by kernel_rfl) (by kernel_rfl) ?_ (Or.inl ⟨?_, ?_⟩) (by assumption) ?_
            rotate_left 2
            · (simp only [List.getElem?_toArray, List.getElem?_cons_succ, List.getElem?_cons_zero]; rfl)
            · first | exact fun _ _ _ h => h | exact fun _ _ _ h => nomatch h.1
            · rfl
            · (intro W hSW; (try dsimp only at hSW); go_split_ands; first | (go_simp; done) | (go_simp; with_reducible rfl))
            try simp only [Act.put, List.setIfInBounds_toArray, List.set_cons_zero, List.set_cons_succ]
            clear hHeld
            have yr9 := r9.cell
            have zr9 := r9.lt
            have ur9 := r9.free
            refine wpAnyH_ready (rs := [14]) (by kernel_rfl) (by simp) ?_
            refine' AllReadyH.cons (o := _) ?_ (fun K hK => ?_) AllReadyH.nil
            rotate_left 1
            · (simp only [List.getElem?_toArray, List.getElem?_cons_succ, List.getElem?_cons_zero]; rfl)
            go_simp
            clear yr9 zr9 ur9
            replace r2 := ((((((r2.other nr2_r9.symm 0 (.int .i64 n)).other nr2_r9.symm 1 (.int .i64 k)).other nr2_r9.symm 2 (.int .i64 i)).other nr2_r9.symm 3 (.int .u32 g0)).other nr2_r9.symm 4 (.int .i64 y)).other nr2_r9.symm 5 (.int .i64 z))
            replace rw := ((((((rw.other nrw_r9.symm 0 (.int .i64 n)).other nrw_r9.symm 1 (.int .i64 k)).other nrw_r9.symm 2 (.int .i64 i)).other nrw_r9.symm 3 (.int .u32 g0)).other nrw_r9.symm 4 (.int .i64 y)).other nrw_r9.symm 5 (.int .i64 z))
            replace r7 := ((((((r7.other nr7_r9.symm 0 (.int .i64 n)).other nr7_r9.symm 1 (.int .i64 k)).other nr7_r9.symm 2 (.int .i64 i)).other nr7_r9.symm 3 (.int .u32 g0)).other nr7_r9.symm 4 (.int .i64 y)).other nr7_r9.symm 5 (.int .i64 z))
            replace r9 := ((((((r9.set 0 (.int .i64 n)).set 1 (.int .i64 k)).set 2 (.int .i64 i)).set 3 (.int .u32 g0)).set 4 (.int .i64 y)).set 5 (.int .i64 z))
            simp only [List.setIfInBounds_toArray, List.set_cons_zero, List.set_cons_succ] at r9
            replace hc := ((((((hc.setCell (p := ⟨b9, 0, none⟩) wr9 (.int .i64 n)).setCell (p := ⟨b9, 1, none⟩) wr9 (.int .i64 k)).setCell (p := ⟨b9, 2, none⟩) wr9 (.int .i64 i)).setCell (p := ⟨b9, 3, none⟩) wr9 (.int .u32 g0)).setCell (p := ⟨b9, 4, none⟩) wr9 (.int .i64 y)).setCell (p := ⟨b9, 5, none⟩) wr9 (.int .i64 z))
            generalize hW : World.setCell _ _ _ = V9 at *
            clear hW
            refine hK.out _ _ ⟨r7.cell, rw.cell⟩ (fun hHeld => ?_)
            clear hK K
            clear hHeld
            refine wpAnyH_done (by kernel_rfl) ?_ _
            go_wp2_with fail
            go_meet
            exact ⟨_, rfl, nr2_r9.symm, r9, r2, hc⟩
        · go_simp
          have r9 := Row.new (W := V5) (cs := #[.int .i64 0, .int .i64 0, .int .i64 0, .int .u32 0, .int .i64 0, .int .i64 0]) (t := 43)
          have hn := below_alloc V5 (.cells #[.int .i64 0, .int .i64 0, .int .i64 0, .int .u32 0, .int .i64 0, .int .i64 0] 43)
          have nr2_r9 : w.heap.size ≠ V5.heap.size := Nat.ne_of_lt r2.lt
          have nrw_r9 : g ≠ V5.heap.size := Nat.ne_of_lt rw.lt
          have nr7_r9 : b7 ≠ V5.heap.size := Nat.ne_of_lt r7.lt
          have wr9 : w.heap.size ≤ V5.heap.size := hc.size
          replace r2 := r2.on hn
          replace rw := rw.on hn
          replace r7 := r7.on hn
          replace hc := chain hc hn
          clear hn
          generalize V5.alloc (.cells #[.int .i64 0, .int .i64 0, .int .i64 0, .int .u32 0, .int .i64 0, .int .i64 0] 43) = V6 at r2 rw r7 r9 hc ⊢
          generalize V5.heap.size = b9 at *
          refine hK.out _ _ ⟨r7.cell, rw.cell⟩ (fun hHeld => ?_)
          clear hK K
          clear hHeld
          refine wpAnyH_ready (rs := [10]) (by kernel_rfl) (by simp) ?_
          refine' AllReadyH.cons (o := _) ?_ (fun K hK => ?_) AllReadyH.nil
          rotate_left 1
          · (simp only [List.getElem?_toArray, List.getElem?_cons_succ, List.getElem?_cons_zero]; rfl)
          go_simp
          refine Calls.mono (answersR_c _) ?_
          rintro e V7 ⟨b10, rfl, r10, hn⟩
          replace r2 := r2.on hn
          replace rw := rw.on hn
          replace r7 := r7.on hn
          replace r9 := r9.on hn
          replace hc := chain hc hn
          clear hn
          go_simp
          refine hK.out _ _ ⟨r7.cell, rw.cell⟩ (fun hHeld => ?_)
          clear hK K
          clear hHeld
          refine wpAnyH_ready (rs := [11]) (by kernel_rfl) (by simp) ?_
          refine' AllReadyH.cons (o := _) ?_ (fun K hK => ?_) AllReadyH.nil
          rotate_left 1
          · (simp only [List.getElem?_toArray, List.getElem?_cons_succ, List.getElem?_cons_zero]; rfl)
          go_simp
          refine Calls.mono (CZ.out b10 _ r10) ?_
          rintro e V8 ⟨rfl, hn⟩
          clear r10
          replace r2 := r2.on hn
          replace rw := rw.on hn
          replace r7 := r7.on hn
          replace r9 := r9.on hn
          replace hc := chain hc hn
          clear hn
          go_simp
          refine hK.out _ _ ⟨r7.cell, rw.cell⟩ (fun hHeld => ?_)
          clear hK K
          refine' wpAnyH_take (i := 12) (oi := _) (v := _) ?_ (by kernel_rfl) (by kernel_rfl) (by kernel_rfl) ?_ (Or.inl ⟨?_, ?_⟩) (by assumption) ?_
          rotate_left 2
          · (simp only [List.getElem?_toArray, List.getElem?_cons_succ, List.getElem?_cons_zero]; rfl)
          · first | exact fun _ _ _ h => h | exact fun _ _ _ h => nomatch h.1
          · rfl
          · (intro W hSW; (try dsimp only at hSW); go_split_ands; first | (go_simp; done) | (go_simp; with_reducible rfl))
          try simp only [Act.put, List.setIfInBounds_toArray, List.set_cons_zero, List.set_cons_succ]
          clear hHeld
          have yr9 := r9.cell
          have zr9 := r9.lt
          have ur9 := r9.free
          refine wpAnyH_ready (rs := [14]) (by kernel_rfl) (by simp) ?_
          refine' AllReadyH.cons (o := _) ?_ (fun K hK => ?_) AllReadyH.nil
          rotate_left 1
          · (simp only [List.getElem?_toArray, List.getElem?_cons_succ, List.getElem?_cons_zero]; rfl)
          go_simp
          clear yr9 zr9 ur9
          replace r2 := ((((((r2.other nr2_r9.symm 0 (.int .i64 n)).other nr2_r9.symm 1 (.int .i64 k)).other nr2_r9.symm 2 (.int .i64 i)).other nr2_r9.symm 3 (.int .u32 g0)).other nr2_r9.symm 4 (.int .i64 y)).other nr2_r9.symm 5 (.int .i64 z))
          replace rw := ((((((rw.other nrw_r9.symm 0 (.int .i64 n)).other nrw_r9.symm 1 (.int .i64 k)).other nrw_r9.symm 2 (.int .i64 i)).other nrw_r9.symm 3 (.int .u32 g0)).other nrw_r9.symm 4 (.int .i64 y)).other nrw_r9.symm 5 (.int .i64 z))
          replace r7 := ((((((r7.other nr7_r9.symm 0 (.int .i64 n)).other nr7_r9.symm 1 (.int .i64 k)).other nr7_r9.symm 2 (.int .i64 i)).other nr7_r9.symm 3 (.int .u32 g0)).other nr7_r9.symm 4 (.int .i64 y)).other nr7_r9.symm 5 (.int .i64 z))
          replace r9 := ((((((r9.set 0 (.int .i64 n)).set 1 (.int .i64 k)).set 2 (.int .i64 i)).set 3 (.int .u32 g0)).set 4 (.int .i64 y)).set 5 (.int .i64 z))
          simp only [List.setIfInBounds_toArray, List.set_cons_zero, List.set_cons_succ] at r9
          replace hc := ((((((hc.setCell (p := ⟨b9, 0, none⟩) wr9 (.int .i64 n)).setCell (p := ⟨b9, 1, none⟩) wr9 (.int .i64 k)).setCell (p := ⟨b9, 2, none⟩) wr9 (.int .i64 i)).setCell (p := ⟨b9, 3, none⟩) wr9 (.int .u32 g0)).setCell (p := ⟨b9, 4, none⟩) wr9 (.int .i64 y)).setCell (p := ⟨b9, 5, none⟩) wr9 (.int .i64 z))
          generalize hW : World.setCell _ _ _ = V9 at *
          clear hW
          refine hK.out _ _ ⟨r7.cell, rw.cell⟩ (fun hHeld => ?_)
          clear hK K
          clear hHeld
          refine wpAnyH_done (by kernel_rfl) ?_ _
          go_wp2_with fail
          go_meet
          exact ⟨_, rfl, nr2_r9.symm, r9, r2, hc⟩
      · go_simp
        have r9 := Row.new (W := V4) (cs := #[.int .i64 0, .int .i64 0, .int .i64 0, .int .u32 0, .int .i64 0, .int .i64 0]) (t := 43)
        have hn := below_alloc V4 (.cells #[.int .i64 0, .int .i64 0, .int .i64 0, .int .u32 0, .int .i64 0, .int .i64 0] 43)
        have nr2_r9 : w.heap.size ≠ V4.heap.size := Nat.ne_of_lt r2.lt
        have nrw_r9 : g ≠ V4.heap.size := Nat.ne_of_lt rw.lt
        have nr7_r9 : b7 ≠ V4.heap.size := Nat.ne_of_lt r7.lt
        have wr9 : w.heap.size ≤ V4.heap.size := hc.size
        replace r2 := r2.on hn
        replace rw := rw.on hn
        replace r7 := r7.on hn
        replace r5 := r5.on hn
        replace hc := chain hc hn
        clear hn
        generalize V4.alloc (.cells #[.int .i64 0, .int .i64 0, .int .i64 0, .int .u32 0, .int .i64 0, .int .i64 0] 43) = V5 at r2 rw r7 r5 r9 hc ⊢
        generalize V4.heap.size = b9 at *
        refine hK.out _ _ ⟨r7.cell, rw.cell⟩ (fun hHeld => ?_)
        clear hK K
        clear hHeld
        refine wpAnyH_ready (rs := [6]) (by kernel_rfl) (by simp) ?_
        refine' AllReadyH.cons (o := _) ?_ (fun K hK => ?_) AllReadyH.nil
        rotate_left 1
        · (simp only [List.getElem?_toArray, List.getElem?_cons_succ, List.getElem?_cons_zero]; rfl)
        go_simp
        refine Calls.mono (CY.out b5 _ r5) ?_
        rintro e V6 ⟨rfl, hn⟩
        clear r5
        replace r2 := r2.on hn
        replace rw := rw.on hn
        replace r7 := r7.on hn
        replace r9 := r9.on hn
        replace hc := chain hc hn
        clear hn
        go_simp
        refine hK.out _ _ ⟨r7.cell, rw.cell⟩ (fun hHeld => ?_)
        clear hK K
        clear hHeld
        refine wpAnyH_ready (rs := [10]) (by kernel_rfl) (by simp) ?_
        refine' AllReadyH.cons (o := _) ?_ (fun K hK => ?_) AllReadyH.nil
        rotate_left 1
        · (simp only [List.getElem?_toArray, List.getElem?_cons_succ, List.getElem?_cons_zero]; rfl)
        go_simp
        refine Calls.mono (answersR_c _) ?_
        rintro e V7 ⟨b10, rfl, r10, hn⟩
        replace r2 := r2.on hn
        replace rw := rw.on hn
        replace r7 := r7.on hn
        replace r9 := r9.on hn
        replace hc := chain hc hn
        clear hn
        go_simp
        refine hK.out _ _ ⟨r7.cell, rw.cell⟩ (fun hHeld => ?_)
        clear hK K
        clear hHeld
        refine wpAnyH_ready (rs := [11]) (by kernel_rfl) (by simp) ?_
        refine' AllReadyH.cons (o := _) ?_ (fun K hK => ?_) AllReadyH.nil
        rotate_left 1
        · (simp only [List.getElem?_toArray, List.getElem?_cons_succ, List.getElem?_cons_zero]; rfl)
        go_simp
        refine Calls.mono (CZ.out b10 _ r10) ?_
        rintro e V8 ⟨rfl, hn⟩
        clear r10
        replace r2 := r2.on hn
        replace rw := rw.on hn
        replace r7 := r7.on hn
        replace r9 := r9.on hn
        replace hc := chain hc hn
        clear hn
        go_simp
        refine hK.out _ _ ⟨r7.cell, rw.cell⟩ (fun hHeld => ?_)
        clear hK K
        refine' wpAnyH_take (i := 12) (oi := _) (v := _) ?_ (by kernel_rfl) (by kernel_rfl) (by kernel_rfl) ?_ (Or.inl ⟨?_, ?_⟩) (by assumption) ?_
        rotate_left 2
        · (simp only [List.getElem?_toArray, List.getElem?_cons_succ, List.getElem?_cons_zero]; rfl)
        · first | exact fun _ _ _ h => h | exact fun _ _ _ h => nomatch h.1
        · rfl
        · (intro W hSW; (try dsimp only at hSW); go_split_ands; first | (go_simp; done) | (go_simp; with_reducible rfl))
        try simp only [Act.put, List.setIfInBounds_toArray, List.set_cons_zero, List.set_cons_succ]
        clear hHeld
        have yr9 := r9.cell
        have zr9 := r9.lt
        have ur9 := r9.free
        refine wpAnyH_ready (rs := [14]) (by kernel_rfl) (by simp) ?_
        refine' AllReadyH.cons (o := _) ?_ (fun K hK => ?_) AllReadyH.nil
        rotate_left 1
        · (simp only [List.getElem?_toArray, List.getElem?_cons_succ, List.getElem?_cons_zero]; rfl)
        go_simp
        clear yr9 zr9 ur9
        replace r2 := ((((((r2.other nr2_r9.symm 0 (.int .i64 n)).other nr2_r9.symm 1 (.int .i64 k)).other nr2_r9.symm 2 (.int .i64 i)).other nr2_r9.symm 3 (.int .u32 g0)).other nr2_r9.symm 4 (.int .i64 y)).other nr2_r9.symm 5 (.int .i64 z))
        replace rw := ((((((rw.other nrw_r9.symm 0 (.int .i64 n)).other nrw_r9.symm 1 (.int .i64 k)).other nrw_r9.symm 2 (.int .i64 i)).other nrw_r9.symm 3 (.int .u32 g0)).other nrw_r9.symm 4 (.int .i64 y)).other nrw_r9.symm 5 (.int .i64 z))
        replace r7 := ((((((r7.other nr7_r9.symm 0 (.int .i64 n)).other nr7_r9.symm 1 (.int .i64 k)).other nr7_r9.symm 2 (.int .i64 i)).other nr7_r9.symm 3 (.int .u32 g0)).other nr7_r9.symm 4 (.int .i64 y)).other nr7_r9.symm 5 (.int .i64 z))
        replace r9 := ((((((r9.set 0 (.int .i64 n)).set 1 (.int .i64 k)).set 2 (.int .i64 i)).set 3 (.int .u32 g0)).set 4 (.int .i64 y)).set 5 (.int .i64 z))
        simp only [List.setIfInBounds_toArray, List.set_cons_zero, List.set_cons_succ] at r9
        replace hc := ((((((hc.setCell (p := ⟨b9, 0, none⟩) wr9 (.int .i64 n)).setCell (p := ⟨b9, 1, none⟩) wr9 (.int .i64 k)).setCell (p := ⟨b9, 2, none⟩) wr9 (.int .i64 i)).setCell (p := ⟨b9, 3, none⟩) wr9 (.int .u32 g0)).setCell (p := ⟨b9, 4, none⟩) wr9 (.int .i64 y)).setCell (p := ⟨b9, 5, none⟩) wr9 (.int .i64 z))
        generalize hW : World.setCell _ _ _ = V9 at *
        clear hW
        refine hK.out _ _ ⟨r7.cell, rw.cell⟩ (fun hHeld => ?_)
        clear hK K
        clear hHeld
        refine wpAnyH_done (by kernel_rfl) ?_ _
        go_wp2_with fail
        go_meet
        exact ⟨_, rfl, nr2_r9.symm, r9, r2, hc⟩
    · go_simp
      have r9 := Row.new (W := V3) (cs := #[.int .i64 0, .int .i64 0, .int .i64 0, .int .u32 0, .int .i64 0, .int .i64 0]) (t := 43)
      have hn := below_alloc V3 (.cells #[.int .i64 0, .int .i64 0, .int .i64 0, .int .u32 0, .int .i64 0, .int .i64 0] 43)
      have nr2_r9 : w.heap.size ≠ V3.heap.size := Nat.ne_of_lt r2.lt
      have nrw_r9 : g ≠ V3.heap.size := Nat.ne_of_lt rw.lt
      have nr7_r9 : b7 ≠ V3.heap.size := Nat.ne_of_lt r7.lt
      have wr9 : w.heap.size ≤ V3.heap.size := hc.size
      replace r2 := r2.on hn
      replace rw := rw.on hn
      replace r7 := r7.on hn
      replace hc := chain hc hn
      clear hn
      generalize V3.alloc (.cells #[.int .i64 0, .int .i64 0, .int .i64 0, .int .u32 0, .int .i64 0, .int .i64 0] 43) = V4 at r2 rw r7 r9 hc ⊢
      generalize V3.heap.size = b9 at *
      refine hK.out _ _ ⟨r7.cell, rw.cell⟩ (fun hHeld => ?_)
      clear hK K
      clear hHeld
      refine wpAnyH_ready (rs := [5]) (by kernel_rfl) (by simp) ?_
      refine' AllReadyH.cons (o := _) ?_ (fun K hK => ?_) AllReadyH.nil
      rotate_left 1
      · (simp only [List.getElem?_toArray, List.getElem?_cons_succ, List.getElem?_cons_zero]; rfl)
      go_simp
      refine Calls.mono (whysR_c _) ?_
      rintro e V5 ⟨b5, rfl, r5, hn⟩
      replace r2 := r2.on hn
      replace rw := rw.on hn
      replace r7 := r7.on hn
      replace r9 := r9.on hn
      replace hc := chain hc hn
      clear hn
      go_simp
      refine hK.out _ _ ⟨r7.cell, rw.cell⟩ (fun hHeld => ?_)
      clear hK K
      clear hHeld
      refine wpAnyH_ready (rs := [6]) (by kernel_rfl) (by simp) ?_
      refine' AllReadyH.cons (o := _) ?_ (fun K hK => ?_) AllReadyH.nil
      rotate_left 1
      · (simp only [List.getElem?_toArray, List.getElem?_cons_succ, List.getElem?_cons_zero]; rfl)
      go_simp
      refine Calls.mono (CY.out b5 _ r5) ?_
      rintro e V6 ⟨rfl, hn⟩
      clear r5
      replace r2 := r2.on hn
      replace rw := rw.on hn
      replace r7 := r7.on hn
      replace r9 := r9.on hn
      replace hc := chain hc hn
      clear hn
      go_simp
      refine hK.out _ _ ⟨r7.cell, rw.cell⟩ (fun hHeld => ?_)
      clear hK K
      clear hHeld
      refine wpAnyH_ready (rs := [10]) (by kernel_rfl) (by simp) ?_
      refine' AllReadyH.cons (o := _) ?_ (fun K hK => ?_) AllReadyH.nil
      rotate_left 1
      · (simp only [List.getElem?_toArray, List.getElem?_cons_succ, List.getElem?_cons_zero]; rfl)
      go_simp
      refine Calls.mono (answersR_c _) ?_
      rintro e V7 ⟨b10, rfl, r10, hn⟩
      replace r2 := r2.on hn
      replace rw := rw.on hn
      replace r7 := r7.on hn
      replace r9 := r9.on hn
      replace hc := chain hc hn
      clear hn
      go_simp
      refine hK.out _ _ ⟨r7.cell, rw.cell⟩ (fun hHeld => ?_)
      clear hK K
      clear hHeld
      refine wpAnyH_ready (rs := [11]) (by kernel_rfl) (by simp) ?_
      refine' AllReadyH.cons (o := _) ?_ (fun K hK => ?_) AllReadyH.nil
      rotate_left 1
      · (simp only [List.getElem?_toArray, List.getElem?_cons_succ, List.getElem?_cons_zero]; rfl)
      go_simp
      refine Calls.mono (CZ.out b10 _ r10) ?_
      rintro e V8 ⟨rfl, hn⟩
      clear r10
      replace r2 := r2.on hn
      replace rw := rw.on hn
      replace r7 := r7.on hn
      replace r9 := r9.on hn
      replace hc := chain hc hn
      clear hn
      go_simp
      refine hK.out _ _ ⟨r7.cell, rw.cell⟩ (fun hHeld => ?_)
      clear hK K
      refine' wpAnyH_take (i := 12) (oi := _) (v := _) ?_ (by kernel_rfl) (by kernel_rfl) (by kernel_rfl) ?_ (Or.inl ⟨?_, ?_⟩) (by assumption) ?_
      rotate_left 2
      · (simp only [List.getElem?_toArray, List.getElem?_cons_succ, List.getElem?_cons_zero]; rfl)
      · first | exact fun _ _ _ h => h | exact fun _ _ _ h => nomatch h.1
      · rfl
      · (intro W hSW; (try dsimp only at hSW); go_split_ands; first | (go_simp; done) | (go_simp; with_reducible rfl))
      try simp only [Act.put, List.setIfInBounds_toArray, List.set_cons_zero, List.set_cons_succ]
      clear hHeld
      have yr9 := r9.cell
      have zr9 := r9.lt
      have ur9 := r9.free
      refine wpAnyH_ready (rs := [14]) (by kernel_rfl) (by simp) ?_
      refine' AllReadyH.cons (o := _) ?_ (fun K hK => ?_) AllReadyH.nil
      rotate_left 1
      · (simp only [List.getElem?_toArray, List.getElem?_cons_succ, List.getElem?_cons_zero]; rfl)
      go_simp
      clear yr9 zr9 ur9
      replace r2 := ((((((r2.other nr2_r9.symm 0 (.int .i64 n)).other nr2_r9.symm 1 (.int .i64 k)).other nr2_r9.symm 2 (.int .i64 i)).other nr2_r9.symm 3 (.int .u32 g0)).other nr2_r9.symm 4 (.int .i64 y)).other nr2_r9.symm 5 (.int .i64 z))
      replace rw := ((((((rw.other nrw_r9.symm 0 (.int .i64 n)).other nrw_r9.symm 1 (.int .i64 k)).other nrw_r9.symm 2 (.int .i64 i)).other nrw_r9.symm 3 (.int .u32 g0)).other nrw_r9.symm 4 (.int .i64 y)).other nrw_r9.symm 5 (.int .i64 z))
      replace r7 := ((((((r7.other nr7_r9.symm 0 (.int .i64 n)).other nr7_r9.symm 1 (.int .i64 k)).other nr7_r9.symm 2 (.int .i64 i)).other nr7_r9.symm 3 (.int .u32 g0)).other nr7_r9.symm 4 (.int .i64 y)).other nr7_r9.symm 5 (.int .i64 z))
      replace r9 := ((((((r9.set 0 (.int .i64 n)).set 1 (.int .i64 k)).set 2 (.int .i64 i)).set 3 (.int .u32 g0)).set 4 (.int .i64 y)).set 5 (.int .i64 z))
      simp only [List.setIfInBounds_toArray, List.set_cons_zero, List.set_cons_succ] at r9
      replace hc := ((((((hc.setCell (p := ⟨b9, 0, none⟩) wr9 (.int .i64 n)).setCell (p := ⟨b9, 1, none⟩) wr9 (.int .i64 k)).setCell (p := ⟨b9, 2, none⟩) wr9 (.int .i64 i)).setCell (p := ⟨b9, 3, none⟩) wr9 (.int .u32 g0)).setCell (p := ⟨b9, 4, none⟩) wr9 (.int .i64 y)).setCell (p := ⟨b9, 5, none⟩) wr9 (.int .i64 z))
      generalize hW : World.setCell _ _ _ = V9 at *
      clear hW
      refine hK.out _ _ ⟨r7.cell, rw.cell⟩ (fun hHeld => ?_)
      clear hK K
      clear hHeld
      refine wpAnyH_done (by kernel_rfl) ?_ _
      go_wp2_with fail
      go_meet
      exact ⟨_, rfl, nr2_r9.symm, r9, r2, hc⟩
  obtain ⟨b9, rfl, hb92, r9, r2, hc⟩ := hcut
  clear nr2_r7 nrw_r7 r7 rw nr2_rw
  have yr2 := r2.cell
  have zr2 := r2.lt
  have yr9 := r9.cell
  have zr9 := r9.lt
  go_wp2_with fail
  refine Calls.mono (CC.out _) ?_
  rintro e W7 ⟨rfl, hn⟩
  clear yr2 yr9 zr2 zr9
  replace r2 := r2.on hn
  replace r9 := r9.on hn
  replace hc := chain hc hn
  clear hn
  have yr2 := r2.cell
  have zr2 := r2.lt
  have yr9 := r9.cell
  have zr9 := r9.lt
  have ur2 := r2.free
  go_wp2_with fail
  refine bodyPost_ret (v := .tuple #[.agg #[.int .i64 n, .int .i64 k, .int .i64 i, .int .u32 g0, .int .i64 y, .int .i64 z], .bool true]) (by simp [results, Tryz.results68, go_sem, yr2, zr2, ur2]) rfl ⟨rfl, ?_⟩
  refine Below.setCell ?_ (by first | exact Nat.le_refl _ | simp | omega) _
  refine Below.setCell ?_ (by first | exact Nat.le_refl _ | simp | omega) _
  refine Below.setCell ?_ (by first | exact Nat.le_refl _ | simp | omega) _
  refine Below.setCell ?_ (by first | exact Nat.le_refl _ | simp | omega) _
  refine Below.setCell ?_ (by first | exact Nat.le_refl _ | simp | omega) _
  exact hc.setCell (by first | exact Nat.le_refl _ | simp | omega) _
theorem itoa_digits {n : Int} (h : 0 ≤ n) : Lib.itoa n = Lib.decDigits n.toNat := by
  unfold Lib.itoa
  rw [if_neg (by omega)]
theorem getD_at0 : (none : Option AtR).getD at0 = at0 := rfl
/-- One line read. -/
theorem lparse1_c (s : ByteArray) (w : World) (hE : EnvP w) (hs : s.size ≤ 100000) : Ret 68 #[.string s] w (.tuple #[atV ((readA s.data.toList).getD at0), .bool (readA s.data.toList).isSome]) := by
  have no : (∀ p, ¬ isA p s.data.toList) → Ret 68 #[.string s] w (.tuple #[atV at0, .bool false]) → Ret 68 #[.string s] w (.tuple #[atV ((readA s.data.toList).getD at0), .bool (readA s.data.toList).isSome]) := fun h1 h2 => by
    rw [readA_none h1]
    exact h2
  by_cases h4 : (cutAll 32 s.data.toList).length = 4
  · obtain ⟨l0, l1, l2, l3, hl⟩ : ∃ l0 l1 l2 l3, cutAll 32 s.data.toList = [l0, l1, l2, l3] := by
      match h : cutAll 32 s.data.toList, h4 with
      | [a, b, c, d], _ => exact ⟨a, b, c, d, rfl⟩
    have hcut : cutAll 32 s.data.toList = [(⟨l0.toArray⟩ : ByteArray).data.toList, (⟨l1.toArray⟩ : ByteArray).data.toList, (⟨l2.toArray⟩ : ByteArray).data.toList, (⟨l3.toArray⟩ : ByteArray).data.toList] := by rw [hl]
    have hx1 : (⟨l1.toArray⟩ : ByteArray).size ≤ 100000 := by
      have h1 := join_cutAll 32 s.data.toList
      rw [hl] at h1
      have h2 := congrArg List.length h1
      simp [Lib.join, List.intercalate, len_bytes] at h2
      show l1.toArray.size ≤ _
      rw [List.size_toArray]
      omega
    have dec_of : ∀ {p : AtR}, isA p s.data.toList → l0 = Lib.decDigits p.at_.toNat ∧ Lib.parseIntB 64 l0 = .ok p.at_ := fun hp => by
      obtain ⟨a1, _, _, _, a5, a6⟩ := isA_parts hl hp
      refine ⟨a1.symm, ?_⟩
      unfold maxT at a6
      rw [← a1, Lib.parseIntB_64, atoi_dec _ (by omega), Int.toNat_of_nonneg a5]
    cases hq : Lib.parseIntB 64 l0 with
    | ok n =>
      have hb := Lib.parseIntB_bounds hq
      have hn0 : -9223372036854775808 ≤ n := by have := hb.1; simp at this; omega
      have hn1 : n ≤ 9223372036854775807 := by have := hb.2; simp at this; omega
      by_cases hf : (⟨(Lib.itoa n).toArray⟩ : ByteArray) = ⟨l0.toArray⟩
      · by_cases ho : ∃ k i g, IsD 58 64 l1 k i g
        · obtain ⟨k, i, g, ho⟩ := ho
          have hg : 0 ≤ g ∧ g ≤ 4294967295 := ⟨ho.g0, ho.gm⟩
          have cop := fun W hW => o_parse_is ⟨l1.toArray⟩ k i g (by simpa using ho) W hW
          by_cases hok : aOk ⟨n, k, i, g, whyI l2, ansI l3⟩ = true
          · have hn : 0 ≤ n := (aOk_iff.1 hok).1.1
            have hdec : Lib.decDigits n.toNat = l0 := by
              have := congrArg (fun b : ByteArray => b.data.toList) hf
              simp only [List.toList_toArray] at this
              rw [← itoa_digits hn]
              exact this
            rw [readA_some (isA_mk hl hdec ho hok)]
            have := parse_good s _ _ _ _ w hE hs hcut n (by simpa using hq) hn0 hn1 hf k i g hg cop (by simpa using hok)
            simpa using this
          · have hok2 : aOk ⟨n, k, i, g, whyI l2, ansI l3⟩ = false := by simpa using hok
            refine no (fun p hp => hok ?_) (parse_notok s _ _ _ _ w hE hs hcut n (by simpa using hq) hn0 hn1 hf k i g hg cop (by simpa using hok2))
            obtain ⟨a1, a2, a3, a4, _, _⟩ := isA_parts hl hp
            obtain ⟨q1, q2, q3⟩ := dTextL_inj (.inr rfl) a2.ok ho.ok a2.g0 ho.g0 (a2.eq.symm.trans ho.eq)
            have e1 := (dec_of hp).2
            rw [hq] at e1
            injection e1 with e1
            have hpo := (isA_iff.1 hp).1
            rw [show (⟨n, k, i, g, whyI l2, ansI l3⟩ : AtR) = p from AtR.ext' (by rw [e1]) (by simp [q1]) (by simp [q2]) (by simp [q3]) a3 a4]
            exact hpo
        · refine no (fun p hp => ho ⟨_, _, _, (isA_parts hl hp).2.1⟩) (parse_out s _ _ _ _ w hE hs hcut n (by simpa using hq) hn0 hn1 hf 0 0 0 (by omega) 9 (by decide) (fun W hW => o_parse_not ⟨l1.toArray⟩ hx1 (fun k i g h => ho ⟨k, i, g, by simpa using h⟩) W hW))
      · refine no (fun p hp => hf ?_) (parse_fmt s _ _ _ _ w hE hs hcut n (by simpa using hq) hn0 hn1 hf)
        obtain ⟨e1, e2⟩ := dec_of hp
        rw [hq] at e2
        injection e2 with e2
        rw [e2, itoa_digits (aOk_iff.1 hp.1).1.1, ← e1]
    | _ =>
      refine no (fun p hp => ?_) (parse_err s _ _ _ _ w hE hs hcut (fun v hv => by simp only [List.toList_toArray] at hv; rw [hq] at hv; cases hv))
      have := (dec_of hp).2
      rw [hq] at this
      cases this
  · exact no (fun p hp => h4 (isA_len hp)) (parse_len s w hE hs h4)
end Go.Proofs.YtinlfheonlpceaaGreatDoor

/- ledger.Parse: its contract (chapter 07). -/
namespace Go.Proofs.YtinlfheonlpceaaGreatDoor
open Go.RowKit
set_option linter.unusedVariables false
set_option linter.unusedSimpArgs false
set_option maxHeartbeats 16000000
set_option maxRecDepth 20000
def strSz : Value → Nat
  | .string s => s.size
  | _ => 0
def ParseP (s : ByteArray) (b : Nat) (e : Ending) (w' : World) : Prop := ∃ v, e = .returned (.tuple #[v, .int .i64 (parseA s.data.toList).2.1, .int .i64 (parseA s.data.toList).2.2]) ∧ OwnsA b w' v (parseA s.data.toList).1
theorem at_src2 (W : World) (a : AtR) : ∀ (j : Nat) (v : Value), (atL a)[j]? = some v → (W.alloc (.cells (atC a) 43)).cell? ((⟨W.heap.size, 0, none⟩ : Addr).add j) = some v := at_src W a
theorem lparse_c (s : ByteArray) (w : World) (hE : EnvP w) (hs : s.size ≤ 100000) : Calls Tryz.prog 21 #[.string s] w fun e w' => ParseP s w.heap.size e w' ∧ Below w.heap.size w w' := by
  have hsl := len_bytes s
  by_cases hbig : (65536 : Int) < s.size
  · have hp : parseA s.data.toList = ([], 0, 10) := by unfold parseA; rw [if_pos (by omega)]
    unfold ParseP
    rw [hp]
    clear hp
    go_enter Tryz.func21, Tryz.ntmps21
    go_wp2_with fail
    go_returns
    exact ⟨⟨_, rfl, OwnsA.nil _ _⟩, Below.refl _ _⟩
  · have hp : parseA s.data.toList = leftR s.data.toList [] := by unfold parseA leftR; rw [if_neg (by omega)]
    unfold ParseP
    rw [hp]
    obtain ⟨i0, hi, hz0, hz1, hz2⟩ := info_parts at_info
    have HI0 := Lib.hid hi
    have HZ0 := Lib.hid hz0
    have HZ1 := Lib.hid hz1
    have HZ2 := Lib.hid hz2
    have HE := Lib.hid hE
    obtain ⟨R, hR⟩ : ∃ R, leftR s.data.toList [] = R := ⟨_, rfl⟩
    rw [hR]
    have HR := Lib.hid hR
    clear hi hz0 hz1 hz2 hp hE hR hsl
    go_enter Tryz.func21, Tryz.ntmps21
    go_wp2_with fail
    go_loopw [0, 5] (fun sv ov wr => ∃ (x : ByteArray) (acc : List AtR), sv = .string x ∧ OwnsA w.heap.size wr ov acc ∧ RowKit.Hid (leftR x.data.toList acc = R) ∧ acc.length + x.size ≤ s.size ∧ Below w.heap.size w wr) (fun sv _ _ => strSz sv)
    case atStart => exact ⟨s, [], rfl, OwnsA.nil _ _, HR, by simp, Below.refl _ _⟩
    case round =>
      obtain ⟨x, acc, rfl, ho, hl, hlen, hB⟩ := hrel
      obtain ⟨pa, ca, rfl⟩ := ho.holds.len
      by_cases hx : x = ⟨#[]⟩
      · subst hx
        have h1 := hl.out
        rw [show (⟨#[]⟩ : ByteArray).data.toList = [] from rfl, leftR_nil] at h1
        have HO := Lib.hid ho
        have H1 := Lib.hid h1
        clear ho hl h1
        go_wp2_with fail
        go_returns
        rw [← H1.out]
        exact ⟨⟨_, rfl, HO.out⟩, hB⟩
      · have f0 : (x.toList == (⟨#[]⟩ : ByteArray).toList) = false := str_beq_ne hx
        have f1 : x.toList.isEmpty = false := by
          cases h : x.toList.isEmpty with
          | false => rfl
          | true =>
            rw [List.isEmpty_iff, ByteArray.toList_eq] at h
            exact absurd (str_ext h) hx
        have hxl : x.data.toList ≠ [] := fun e => hx (str_ext e)
        have cc := fun W (hW : EnvP W) => cut_c x 10 W hW.toEnv (by omega)
        rcases mem_split x.data.toList 10 with h10 | ⟨preL, postL, hn10, hsp⟩
        · rw [cut_no _ _ h10] at cc
          have e1 := leftR_no h10 hxl acc
          rw [hl.out] at e1
          have CC := Lib.hid cc
          have E1 := Lib.hid e1
          have CP := Lib.hid (fun W (hW : EnvP W) => lparse1_c ⟨x.data.toList.toArray⟩ W hW (by show x.data.toList.toArray.size ≤ _; rw [List.size_toArray, len_bytes]; omega))
          have HO := Lib.hid ho
          have x1 : wrap64 ((acc.length : Int) + 1) = (acc.length : Int) + 1 := IntWalk.wrap64_in _ ⟨by omega, by omega⟩
          clear cc h10 hxl hx hl e1 ho
          go_wp2_with fail
          refine Calls.mono (CC.out _ (HE.out.on hB)) ?_
          rintro e W1 ⟨rfl, hn⟩
          replace hB := chain hB hn
          clear hn
          go_wp2_with fail
          refine Calls.mono (CP.out _ (HE.out.on hB)) ?_
          rintro e W2 ⟨rfl, hn⟩
          replace hB := chain hB hn
          clear hn
          go_wp2_with fail
          go_returns
          rw [E1.out]
          exact ⟨⟨_, by simp, OwnsA.nil _ _⟩, by first | exact hB | exact hB.alloc hB.size _⟩
        · rw [hsp, cut_at _ _ _ hn10] at cc
          have hszz : preL.length + postL.length + 1 = x.size := by rw [← len_bytes, hsp]; simp; omega
          have CC := Lib.hid cc
          have cp := fun W (hW : EnvP W) => lparse1_c ⟨preL.toArray⟩ W hW (by show preL.toArray.size ≤ _; rw [List.size_toArray]; omega)
          simp only [List.toList_toArray] at cp
          have HO := Lib.hid ho
          have x1 : wrap64 ((acc.length : Int) + 1) = (acc.length : Int) + 1 := IntWalk.wrap64_in _ ⟨by omega, by omega⟩
          have hxs : (⟨postL.toArray⟩ : ByteArray).size = postL.length := by show postL.toArray.size = _; rw [List.size_toArray]
          clear cc hx hxl ho
          cases hrd : readA preL with
          | none =>
            have e1 : leftR x.data.toList acc = ([], acc.length + 1, 9) := by
              rw [hsp]
              exact leftR_bad hn10 (fun p hp => by rw [readA_some hp] at hrd; cases hrd) acc
            rw [hl.out] at e1
            rw [hrd] at cp
            have CP := Lib.hid cp
            have E1 := Lib.hid e1
            clear cp hrd e1 hl hsp hn10
            generalize (⟨preL.toArray⟩ : ByteArray) = XL at *
            generalize (⟨postL.toArray⟩ : ByteArray) = XR at *
            go_wp2_with fail
            refine Calls.mono (CC.out _ (HE.out.on hB)) ?_
            rintro e W1 ⟨rfl, hn⟩
            replace hB := chain hB hn
            clear hn
            go_wp2_with fail
            refine Calls.mono (CP.out _ (HE.out.on hB)) ?_
            rintro e W2 ⟨rfl, hn⟩
            replace hB := chain hB hn
            clear hn
            go_wp2_with fail
            go_returns
            rw [E1.out]
            exact ⟨⟨_, by simp, OwnsA.nil _ _⟩, by first | exact hB | exact hB.alloc hB.size _⟩
          | some p =>
            have hpi := readA_ok hrd
            have e1 : leftR x.data.toList acc = leftR postL (acc ++ [p]) := by
              rw [hsp]
              exact leftR_ok hn10 hpi acc
            rw [hl.out] at e1
            rw [hrd] at cp
            have cp2 : ∀ W, EnvP W → Ret 68 #[.string ⟨preL.toArray⟩] W (.tuple #[atV p, .bool true]) := cp
            have CP := Lib.hid cp2
            have E1 := Lib.hid e1
            have hxp : (⟨postL.toArray⟩ : ByteArray).data.toList = postL := by simp
            have HXP := Lib.hid hxp
            clear cp cp2 hrd e1 hl hsp hn10 hpi hxp
            generalize (⟨preL.toArray⟩ : ByteArray) = XL at *
            generalize (⟨postL.toArray⟩ : ByteArray) = XR at *
            go_wp2_with fail
            refine Calls.mono (CC.out _ (HE.out.on hB)) ?_
            rintro e W1 ⟨rfl, hn⟩
            replace hB := chain hB hn
            replace HO : RowKit.Hid (OwnsA w.heap.size W1 _ acc) := HO.out.on hn
            clear hn
            go_wp2_with fail
            refine Calls.mono (CP.out _ (HE.out.on hB)) ?_
            rintro e W2 ⟨rfl, hn⟩
            replace hB := chain hB hn
            replace HO : RowKit.Hid (OwnsA w.heap.size W2 _ acc) := HO.out.on hn
            clear hn CC CP
            go_upto_region 7 with fail
            have hn := below_alloc W2 (.cells (atC p) 43)
            have r9 := Row.new (W := W2) (cs := atC p) (t := 43)
            replace hB := chain hB hn
            replace HO : RowKit.Hid (OwnsA w.heap.size (W2.alloc (.cells (atC p) 43)) _ acc) := HO.out.on hn
            clear hn
            generalize W2.alloc (.cells (atC p) 43) = W3 at *
            generalize W2.heap.size = b9 at *
            have y9 := r9.cell
            have z9 := r9.lt
            have hB4 := hB.alloc hB.size (.cells (atC p) 43)
            have HO4 := Lib.hid (HO.out.on (below_alloc W3 (.cells (atC p) 43)))
            have HSRC := Lib.hid (at_src W3 p)
            have hBs := hB.size
            clear HO
            go_wp2_with (at_builtin; refine wpList_append_own _ rfl _ _ 26 rfl w.heap.size 43 i0 (.agg #[.int .i64 0, .int .i64 0, .int .i64 0, .int .u32 0, .int .i64 0, .int .i64 0]) 6 48 Tryz.underlying26 HI0.out HZ0.out HZ1.out HZ2.out rfl (by decide) _ _ _ rfl HO4.out ⟨W3.heap.size, 0, none⟩ 1 1 (atL p) rfl rfl HSRC.out (by intro u hu; simp at hu; rcases hu with rfl | rfl | rfl | rfl | rfl | rfl <;> rfl) (by unfold maxLen; omega) (by omega) (by simp; omega) ?_; intro v' w9 hown' hgrow hnil; have HOWN := Lib.hid hown'; have HGR := Lib.hid hgrow; clear hown' hgrow hnil)
            have hlo := fun k hk => (World.ownsRow.lt HO4.out k hk).1
            have hB6 : Below w.heap.size w w9 := hB4.grown HGR.out (by simp; omega) hlo
            refine ⟨⟨XR, acc ++ [p], rfl, ?_, ?_, ?_, hB6⟩, ?_⟩
            · unfold OwnsA
              rw [cellsA_snoc, List.length_append]
              exact HOWN.out
            · show leftR XR.data.toList (acc ++ [p]) = R
              rw [HXP.out, ← E1.out]
            · rw [List.length_append, List.length_singleton]; omega
            · simp only [strSz]; omega
end Go.Proofs.YtinlfheonlpceaaGreatDoor

/- The references of chapter 05: parts. -/
namespace Go.Proofs.YtinlfheonlpceaaGreatDoor
open Go.RowKit
open Go.Lib (decDigits)

def kI (x : UInt8) : Int := if x = 102 then 1 else if x = 98 then 2 else if x = 108 then 3 else 0
def kU (x : UInt8) (k : Int) : Int := if kI x < k then kI x else 0
theorem kI_bound (x : UInt8) : 0 ≤ kI x ∧ kI x ≤ 3 := by unfold kI; split <;> (try split) <;> (try split) <;> omega
theorem kU_one (x : UInt8) : kU x 1 = 0 := by unfold kU; split <;> (have := kI_bound x; omega)
theorem kU_four (x : UInt8) : kU x 4 = kI x := by unfold kU; rw [if_pos (by have := kI_bound x; omega)]
theorem kI_letter {k : Int} (h1 : 1 ≤ k) (h3 : k ≤ 3) : kI (letterB k) = k := by
  rcases (by omega : k = 1 ∨ k = 2 ∨ k = 3) with rfl | rfl | rfl <;> rfl
theorem letter_kI {x : UInt8} (h : 0 < kI x) : letterB (kI x) = x := by
  unfold kI at h ⊢
  by_cases e1 : x = 102
  · rw [if_pos e1, e1]; rfl
  · by_cases e2 : x = 98
    · rw [if_neg e1, if_pos e2, e2]; rfl
    · by_cases e3 : x = 108
      · rw [if_neg e1, if_neg e2, if_pos e3, e3]; rfl
      · rw [if_neg e1, if_neg e2, if_neg e3] at h; omega
theorem kU_yes {x : UInt8} {k : Int} (h1 : 1 ≤ k) (h3 : k ≤ 3) (e : x = letterB k) : kU x (k + 1) = k := by
  unfold kU
  rw [e, kI_letter h1 h3, if_pos (by omega)]
theorem kU_no {x : UInt8} {k : Int} (h1 : 1 ≤ k) (e : x ≠ letterB k) : kU x (k + 1) = kU x k := by
  unfold kU
  have hb := kI_bound x
  by_cases h : kI x = k
  · exact absurd (by rw [← h]; exact (letter_kI (by omega)).symm) e
  · by_cases h2 : kI x < k
    · rw [if_pos (by omega), if_pos h2]
    · rw [if_neg (by omega), if_neg h2]
theorem at_mem (s : ByteArray) (pre : List UInt8) (c : UInt8) (post : List UInt8) (he : s.data.toList = pre ++ c :: post) (hm : c ∉ pre) (k : Nat) (h : k < pre.length) (hk : k < s.size) : s[k] ≠ c := by
  have e1 : s[k] = s.data.toList[k]'(by simpa using hk) := rfl
  intro e
  apply hm
  have e2 : pre[k] = c := by
    rw [← e, e1]
    have : (pre ++ c :: post)[k]'(by simp; omega) = pre[k] := List.getElem_append_left h
    rw [← this]
    congr 1
    exact he.symm
  rw [← e2]
  exact List.getElem_mem _
theorem at_here (s : ByteArray) (pre : List UInt8) (c : UInt8) (post : List UInt8) (he : s.data.toList = pre ++ c :: post) (hk : pre.length < s.size) : s[pre.length] = c := by
  have e1 : s[pre.length] = s.data.toList[pre.length]'(by simpa using hk) := rfl
  rw [e1]
  have : (pre ++ c :: post)[pre.length]'(by simp) = c := by simp
  rw [← this]
  congr 1
theorem no_mem (s : ByteArray) (c : UInt8) (hm : c ∉ s.data.toList) (k : Nat) (hk : k < s.size) : s[k] ≠ c := by
  have e1 : s[k] = s.data.toList[k]'(by simpa using hk) := rfl
  intro e
  apply hm
  rw [← e, e1]
  exact List.getElem_mem _
theorem byte_ne {a c : UInt8} {m : Int} (hm : (c.toNat : Int) = m) (h : a ≠ c) : ((a.toNat : Int) == m) = false ∧ ((a.toNat : Int) != m) = true := by
  have e : ((a.toNat : Int) == m) = false := by
    rw [beq_eq_false_iff_ne, ← hm]
    intro e
    exact h (UInt8.toNat_inj.1 (by omega))
  exact ⟨e, by rw [bne, e]; rfl⟩
theorem byte_eq {a c : UInt8} {m : Int} (hm : (c.toNat : Int) = m) (h : a = c) : ((a.toNat : Int) == m) = true ∧ ((a.toNat : Int) != m) = false := by
  have e : ((a.toNat : Int) == m) = true := by rw [beq_iff_eq, h, hm]
  exact ⟨e, by rw [bne, e]; rfl⟩

set_option maxHeartbeats 2000000 in
theorem parts_no (s : ByteArray) (hs : s.size ≤ 100000) (c : UInt8) (m : Int) (hm : (c.toNat : Int) = m) (hn : c ∉ s.data.toList) (w : World) :
    Ret 132 #[.string s, .int .u8 m] w (.tuple #[.int .i64 0, .int .u64 0, .int .u64 0, .bool false]) := by
  have hne := fun k hk => byte_ne hm (no_mem s c hn k hk)
  have HN := Lib.hid hne
  clear hne hn hm
  go_enter Tryz.func132, Tryz.ntmps132
  go_wp2_with fail
  go_loop [8] (fun at_ => ∃ k : Nat, k ≤ s.size ∧ at_ = .int .i64 k) (fun at_ => s.size - (intOf at_).toNat)
  case atStart => exact ⟨0, Nat.zero_le _, rfl⟩
  case round =>
    obtain ⟨k, hk, rfl⟩ := hrel
    by_cases hlt : k < s.size
    · obtain ⟨e1, e2⟩ := HN.out k hlt
      go_wp2_with fail
      go_round
      case rel => exact ⟨k + 1, by omega, by go_num⟩
      case measure => simp [intOf]; omega
    · have ek : ((k : Int) == (s.size : Int)) = true := by rw [beq_iff_eq]; omega
      go_wp2_with fail
      go_returns
      exact ⟨rfl, by go_grown⟩
set_option maxHeartbeats 2000000 in
theorem parts_short (s : ByteArray) (hs : s.size ≤ 100000) (c : UInt8) (m : Int) (hm : (c.toNat : Int) = m) (pre post : List UInt8) (he : s.data.toList = pre ++ c :: post) (hc : c ∉ pre) (hp : pre.length < 2) (w : World) :
    Ret 132 #[.string s, .int .u8 m] w (.tuple #[.int .i64 0, .int .u64 0, .int .u64 0, .bool false]) := by
  have hne := fun k h hk => byte_ne hm (at_mem s pre c post he hc k h hk)
  have hl : pre.length < s.size := by rw [← len_bytes, he]; simp
  have heq := byte_eq hm (at_here s pre c post he hl)
  have HN := Lib.hid hne
  have HQ := Lib.hid heq
  generalize pre.length = n at *
  clear hne hc hm he heq
  go_enter Tryz.func132, Tryz.ntmps132
  go_wp2_with fail
  go_loop [8] (fun at_ => ∃ k : Nat, k ≤ n ∧ at_ = .int .i64 k) (fun at_ => n - (intOf at_).toNat)
  case atStart => exact ⟨0, Nat.zero_le _, rfl⟩
  case round =>
    obtain ⟨k, hk, rfl⟩ := hrel
    by_cases hlt : k < n
    · have hls : k < s.size := by omega
      obtain ⟨e1, e2⟩ := HN.out k hlt hls
      go_wp2_with fail
      go_round
      case rel => exact ⟨k + 1, by omega, by go_num⟩
      case measure => simp [intOf]; omega
    · obtain rfl : k = n := by omega
      obtain ⟨e1, e2⟩ := HQ.out
      have ek : ((k : Int) == (s.size : Int)) = false := by rw [beq_eq_false_iff_ne]; omega
      go_wp2_with fail
      go_returns
      exact ⟨rfl, by go_grown⟩
def ptOk (x : UInt8) (r post : List UInt8) : Bool := numB r && (numB post && (decide (0 < kI x) && decide (numV post < 4294967296)))
set_option linter.unusedSimpArgs false in
set_option maxHeartbeats 4000000 in
set_option maxRecDepth 20000 in
theorem parts_at (s : ByteArray) (hs : s.size ≤ 100000) (c x : UInt8) (m : Int) (hm : (c.toNat : Int) = m) (r post : List UInt8) (he : s.data.toList = (x :: r) ++ c :: post) (hc : c ∉ x :: r) (hp : 1 ≤ r.length) (w : World) :
    Ret 132 #[.string s, .int .u8 m] w (.tuple #[.int .i64 (kI x), .int .u64 (numV r), .int .u64 (numV post), .bool (ptOk x r post)]) := by
  have hne := fun k h hk => byte_ne hm (at_mem s (x :: r) c post he hc k h hk)
  have hl : (x :: r).length < s.size := by rw [← len_bytes, he]; simp
  have heq := byte_eq hm (at_here s (x :: r) c post he hl)
  have HN := Lib.hid hne
  have HQ := Lib.hid heq
  have h2 : 2 ≤ (x :: r).length := by rw [List.length_cons]; omega
  have sx : s.extract 0 1 = ⟨#[x]⟩ := by
    apply str_ext
    rw [Lib.extract_data, he]
    simp
  have sr : s.extract 1 (x :: r).length = ⟨r.toArray⟩ := by
    apply str_ext
    rw [Lib.extract_data, he]
    simp
  have sp : s.extract ((x :: r).length + 1) s.size = ⟨post.toArray⟩ := by
    apply str_ext
    rw [Lib.extract_to_end, he]
    simp
  have hnr := ref_Number ⟨r.toArray⟩
  have hnp := ref_Number ⟨post.toArray⟩
  rw [of_list] at hnr hnp
  obtain ⟨a0, a1⟩ := numV_bound r
  obtain ⟨b0, b1⟩ := numV_bound post
  obtain ⟨x0, x1⟩ := kI_bound x
  have hfin : ptOk x r post = (numB r && (numB post && (decide (0 < kI x) && decide (numV post < 4294967296)))) := rfl
  generalize ptOk x r post = ok at hfin ⊢
  generalize numV r = a at *
  generalize numV post = b at *
  generalize numB r = p at *
  generalize numB post = q at *
  have HF := Lib.hid hfin
  have HR := Lib.hid hnr
  have HP := Lib.hid hnp
  clear hne hc hm he heq hnr hnp hfin hp
  generalize (x :: r).length = n at *
  go_enter Tryz.func132, Tryz.ntmps132
  go_wp2_with fail
  go_loop [8] (fun at_ => ∃ k : Nat, k ≤ n ∧ at_ = .int .i64 k) (fun at_ => n - (intOf at_).toNat)
  case atStart => exact ⟨0, Nat.zero_le _, rfl⟩
  case round =>
    obtain ⟨k, hk, rfl⟩ := hrel
    by_cases hlt : k < n
    · have hls : k < s.size := by omega
      obtain ⟨e1, e2⟩ := HN.out k hlt hls
      go_wp2_with fail
      go_round
      case rel => exact ⟨k + 1, by omega, by go_num⟩
      case measure => simp [intOf]; omega
    · obtain rfl : k = n := by omega
      obtain ⟨e1, e2⟩ := HQ.out
      have ek : ((k : Int) == (s.size : Int)) = false := by rw [beq_eq_false_iff_ne]; omega
      go_wp2_with fail
      go_loopw [9, 10] (fun kd t wr => ∃ j : Int, 1 ≤ j ∧ j ≤ 4 ∧ t = .int .i64 j ∧ kd = .int .i64 (kU x j) ∧ Below w.heap.size w wr) (fun _ t _ => 4 - (intOf t).toNat)
      case atStart => exact ⟨1, by omega, by omega, rfl, by rw [kU_one], by go_grown⟩
      case round =>
        obtain ⟨j, j1, j4, rfl, rfl, hbw⟩ := hrel
        by_cases hj : j ≤ 3
        · have hs1 : (1 : Int) ≤ (s.size : Int) := by omega
          by_cases hx : x = letterB j
          · have f1 : (x == letterB j) = true := beq_iff_eq.2 hx
            have hkU := kU_yes j1 hj hx
            have HK := Lib.hid hkU
            clear hx hkU
            go_wp2_with fail
            refine wp_region_held_drew (S := fun _ => True) (by kernel_rfl) trivial (fun hHeld => ?_)
            refine' wpAnyH_take (i := 0) (oi := _) (v := _) ?_ (by kernel_rfl) (by kernel_rfl) (by kernel_rfl) ?_ (Or.inl ⟨?_, ?_⟩) (by assumption) ?_
            rotate_left 2
            · (simp only [List.getElem?_toArray, List.getElem?_cons_succ, List.getElem?_cons_zero]; rfl)
            · first | exact fun _ _ _ h => h | exact fun _ _ _ h => nomatch h.1
            · rfl
            · (intro W hSW; (try dsimp only at hSW); go_split_ands; first | (go_simp; done) | (go_simp; with_reducible rfl))
            try simp only [Act.put, List.setIfInBounds_toArray, List.set_cons_zero, List.set_cons_succ]
            refine' wpAnyH_take (i := 1) (oi := _) (v := _) ?_ (by kernel_rfl) (by kernel_rfl) (by kernel_rfl) ?_ (Or.inl ⟨?_, ?_⟩) (by assumption) ?_
            rotate_left 2
            · (simp only [List.getElem?_toArray, List.getElem?_cons_succ, List.getElem?_cons_zero]; rfl)
            · first | exact fun _ _ _ h => h | exact fun _ _ _ h => nomatch h.1
            · rfl
            · (intro W hSW; (try dsimp only at hSW); go_split_ands; first | (go_simp; done) | (go_simp; with_reducible rfl))
            try simp only [Act.put, List.setIfInBounds_toArray, List.set_cons_zero, List.set_cons_succ]
            refine' wpAnyH_take (i := 2) (oi := _) (v := _) ?_ (by kernel_rfl) (by kernel_rfl) (by kernel_rfl) ?_ (Or.inl ⟨?_, ?_⟩) (by assumption) ?_
            rotate_left 2
            · (simp only [List.getElem?_toArray, List.getElem?_cons_succ, List.getElem?_cons_zero]; rfl)
            · first | exact fun _ _ _ h => h | exact fun _ _ _ h => nomatch h.1
            · rfl
            · (intro W hSW; (try dsimp only at hSW); go_split_ands; first | (go_simp; done) | (go_simp; with_reducible rfl))
            try simp only [Act.put, List.setIfInBounds_toArray, List.set_cons_zero, List.set_cons_succ]
            refine wpAnyH_ready (rs := [3]) (by kernel_rfl) (by simp) ?_
            refine' AllReadyH.cons (o := _) ?_ (fun K hK => ?_) AllReadyH.nil
            rotate_left 1
            · (simp only [List.getElem?_toArray, List.getElem?_cons_succ, List.getElem?_cons_zero]; rfl)
            go_simp
            refine (letter_c j _ j1 hj).mono ?_
            rintro e w1 ⟨rfl, rfl⟩
            go_simp
            refine hK.out _ _ trivial (fun hHeld => ?_)
            clear hK K
            refine' wpAnyH_take (i := 4) (oi := _) (v := _) ?_ (by kernel_rfl) (by kernel_rfl) (by kernel_rfl) ?_ (Or.inl ⟨?_, ?_⟩) (by assumption) ?_
            rotate_left 2
            · (simp only [List.getElem?_toArray, List.getElem?_cons_succ, List.getElem?_cons_zero]; rfl)
            · first | exact fun _ _ _ h => h | exact fun _ _ _ h => nomatch h.1
            · rfl
            · (intro W hSW; (try dsimp only at hSW); go_split_ands; first | (go_simp; done) | (go_simp; with_reducible rfl))
            try simp only [Act.put, List.setIfInBounds_toArray, List.set_cons_zero, List.set_cons_succ]
            refine wpAnyH_done (by kernel_rfl) ?_ _
            go_wp2_with fail
            go_roundw
            case rel => exact ⟨j + 1, by omega, by omega, by go_num, by rw [HK.out], by go_grown⟩
            case measure => simp [intOf]; omega
          · have f1 : (x == letterB j) = false := beq_eq_false_iff_ne.2 hx
            have hkU := kU_no j1 hx
            have HK := Lib.hid hkU
            clear hx hkU
            go_wp2_with fail
            refine wp_region_held_drew (S := fun _ => True) (by kernel_rfl) trivial (fun hHeld => ?_)
            refine' wpAnyH_take (i := 0) (oi := _) (v := _) ?_ (by kernel_rfl) (by kernel_rfl) (by kernel_rfl) ?_ (Or.inl ⟨?_, ?_⟩) (by assumption) ?_
            rotate_left 2
            · (simp only [List.getElem?_toArray, List.getElem?_cons_succ, List.getElem?_cons_zero]; rfl)
            · first | exact fun _ _ _ h => h | exact fun _ _ _ h => nomatch h.1
            · rfl
            · (intro W hSW; (try dsimp only at hSW); go_split_ands; first | (go_simp; done) | (go_simp; with_reducible rfl))
            try simp only [Act.put, List.setIfInBounds_toArray, List.set_cons_zero, List.set_cons_succ]
            refine' wpAnyH_take (i := 1) (oi := _) (v := _) ?_ (by kernel_rfl) (by kernel_rfl) (by kernel_rfl) ?_ (Or.inl ⟨?_, ?_⟩) (by assumption) ?_
            rotate_left 2
            · (simp only [List.getElem?_toArray, List.getElem?_cons_succ, List.getElem?_cons_zero]; rfl)
            · first | exact fun _ _ _ h => h | exact fun _ _ _ h => nomatch h.1
            · rfl
            · (intro W hSW; (try dsimp only at hSW); go_split_ands; first | (go_simp; done) | (go_simp; with_reducible rfl))
            try simp only [Act.put, List.setIfInBounds_toArray, List.set_cons_zero, List.set_cons_succ]
            refine' wpAnyH_take (i := 2) (oi := _) (v := _) ?_ (by kernel_rfl) (by kernel_rfl) (by kernel_rfl) ?_ (Or.inl ⟨?_, ?_⟩) (by assumption) ?_
            rotate_left 2
            · (simp only [List.getElem?_toArray, List.getElem?_cons_succ, List.getElem?_cons_zero]; rfl)
            · first | exact fun _ _ _ h => h | exact fun _ _ _ h => nomatch h.1
            · rfl
            · (intro W hSW; (try dsimp only at hSW); go_split_ands; first | (go_simp; done) | (go_simp; with_reducible rfl))
            try simp only [Act.put, List.setIfInBounds_toArray, List.set_cons_zero, List.set_cons_succ]
            refine wpAnyH_ready (rs := [3]) (by kernel_rfl) (by simp) ?_
            refine' AllReadyH.cons (o := _) ?_ (fun K hK => ?_) AllReadyH.nil
            rotate_left 1
            · (simp only [List.getElem?_toArray, List.getElem?_cons_succ, List.getElem?_cons_zero]; rfl)
            go_simp
            refine (letter_c j _ j1 hj).mono ?_
            rintro e w1 ⟨rfl, rfl⟩
            go_simp
            refine hK.out _ _ trivial (fun hHeld => ?_)
            clear hK K
            refine' wpAnyH_take (i := 4) (oi := _) (v := _) ?_ (by kernel_rfl) (by kernel_rfl) (by kernel_rfl) ?_ (Or.inl ⟨?_, ?_⟩) (by assumption) ?_
            rotate_left 2
            · (simp only [List.getElem?_toArray, List.getElem?_cons_succ, List.getElem?_cons_zero]; rfl)
            · first | exact fun _ _ _ h => h | exact fun _ _ _ h => nomatch h.1
            · rfl
            · (intro W hSW; (try dsimp only at hSW); go_split_ands; first | (go_simp; done) | (go_simp; with_reducible rfl))
            try simp only [Act.put, List.setIfInBounds_toArray, List.set_cons_zero, List.set_cons_succ]
            refine wpAnyH_done (by kernel_rfl) ?_ _
            go_wp2_with fail
            go_roundw
            case rel => exact ⟨j + 1, by omega, by omega, by go_num, by rw [HK.out], by go_grown⟩
            case measure => simp [intOf]; omega
        · obtain rfl : j = 4 := by omega
          rw [kU_four]
          have hn1 : (k : Int) + 1 ≤ (s.size : Int) := by omega
          have hsl : ∀ W, (Instr.slice 9 (.string s) (some (.int .i64 1)) (some (.int .i64 (k : Int))) none).run Tryz.prog W = .ok (.string ⟨r.toArray⟩) W := fun W => by
            have h := run_slice_string (P := Tryz.prog) W 9 s .i64 .i64 1 (k : Int) Tryz.underlying9 (by omega) (by omega) (by omega)
            rw [show (1 : Int).toNat = 1 from rfl, Int.toNat_natCast, sr] at h
            exact h
          go_wp2_with fail
          refine (HR.out _).mono ?_
          rintro e w1 ⟨rfl, hb1⟩
          have b1' := hbw.trans (hb1.mono hbw.size)
          go_wp2_with fail
          refine (HP.out _).mono ?_
          rintro e w2 ⟨rfl, hb2⟩
          have b2' := b1'.trans (hb2.mono b1'.size)
          go_wp2_with fail
          all_goals
            go_returns
            refine ⟨?_, b2'⟩
            rw [HF.out]
            first | rfl | (simp [*]; done) | (simp [*]; omega)
end Go.Proofs.YtinlfheonlpceaaGreatDoor

/- The references of chapter 05: Parse, ParseOuter. -/
namespace Go.Proofs.YtinlfheonlpceaaGreatDoor
open Go.RowKit
set_option linter.unusedVariables false
set_option linter.unusedSimpArgs false
open Go.Lib (decDigits)

theorem numB_dec (n : Nat) (h : n < 10000000000) : numB (decDigits n) = true ∧ numV (decDigits n) = n := by
  have hb : numB (decDigits n) = true := by
    unfold numB
    rw [decide_eq_true_iff, val_decDigits]
    exact ⟨nDigits_le_10 n h, rfl⟩
  refine ⟨hb, ?_⟩
  rw [(numB_val hb).1, val_decDigits]
set_option maxHeartbeats 2000000 in
theorem ro_parse_no (s : ByteArray) (kd a b : Int) (w : World) (k0 : 0 ≤ kd) (k3 : kd ≤ 3) (a0 : 0 ≤ a) (a1 : a ≤ 9999999999) (b0 : 0 ≤ b) (b1 : b ≤ 9999999999)
    (hp : ∀ w, Ret 132 #[.string s, .int .u8 58] w (.tuple #[.int .i64 kd, .int .u64 a, .int .u64 b, .bool false])) :
    Ret 105 #[.string s] w (.tuple #[dV 0 0 0, .int .i64 9]) := by
  have e1 : IntKind.i64.wrap a = a := by rw [IntKind.wrap_i64]; omega
  have HP := Lib.hid hp
  clear hp
  go_enter Tryz.func105, Tryz.ntmps105
  go_wp2_with fail
  refine (HP.out _).mono ?_
  rintro e w1 ⟨rfl, hb1⟩
  have c0 : w1.cell? ⟨w.heap.size, 0, none⟩ = some (.int .i64 0) := by rw [(bcell hb1).1 _ _ (by simp)]; simp
  have c1 : w1.cell? ⟨w.heap.size, 1, none⟩ = some (.int .i64 0) := by rw [(bcell hb1).1 _ _ (by simp)]; simp
  have c2 : w1.cell? ⟨w.heap.size, 2, none⟩ = some (.int .u32 0) := by rw [(bcell hb1).1 _ _ (by simp)]; simp
  have fr : ∀ o, w1.frozen? ⟨w.heap.size, o, none⟩ = false := fun o => by rw [(bcell hb1).2 _ _ (by simp)]; simp
  have z1 : w.heap.size < w1.heap.size := by have := hb1.size; simp at this; omega
  have z2 : w.heap.size < w1.heap.size + 1 := by omega
  have hc1 := under (w := w) hb1
  clear hb1
  go_wp2_with fail
  refine bodyPost_ret (v := .tuple #[dV 0 0 0, .int .i64 9]) (by simp [results, Tryz.results105, go_sem, c0, c1, c2, z1, z2]) rfl ⟨rfl, ?_⟩
  repeat (refine Below.setCell ?_ (by simp) _)
  go_grown
set_option maxHeartbeats 2000000 in
theorem ro_parse_chk (s : ByteArray) (kd a b : Int) (w : World) (k0 : 0 ≤ kd) (k3 : kd ≤ 3) (a0 : 0 ≤ a) (a1 : a ≤ 9999999999) (b0 : 0 ≤ b) (b1 : b ≤ 4294967295) (h : dOk 64 kd a b = false)
    (hp : ∀ w, Ret 132 #[.string s, .int .u8 58] w (.tuple #[.int .i64 kd, .int .u64 a, .int .u64 b, .bool true])) :
    Ret 105 #[.string s] w (.tuple #[dV 0 0 0, .int .i64 9]) := by
  have e1 : IntKind.i64.wrap a = a := by rw [IntKind.wrap_i64]; omega
  have e2 : IntKind.u32.wrap b = b := by rw [IntKind.wrap_u32]; omega
  have hk := fun w => ro_check kd a b w b0
  rw [dErr_bad h] at hk
  have HK := Lib.hid hk
  have HP := Lib.hid hp
  clear hp hk h
  go_enter Tryz.func105, Tryz.ntmps105
  go_wp2_with fail
  refine (HP.out _).mono ?_
  rintro e w1 ⟨rfl, hb1⟩
  have hc1 := under (w := w) hb1
  have c0 : w1.cell? ⟨w.heap.size, 0, none⟩ = some (.int .i64 0) := by rw [(bcell hb1).1 _ _ (by simp)]; simp
  have c1 : w1.cell? ⟨w.heap.size, 1, none⟩ = some (.int .i64 0) := by rw [(bcell hb1).1 _ _ (by simp)]; simp
  have c2 : w1.cell? ⟨w.heap.size, 2, none⟩ = some (.int .u32 0) := by rw [(bcell hb1).1 _ _ (by simp)]; simp
  have fr : ∀ o, w1.frozen? ⟨w.heap.size, o, none⟩ = false := fun o => by rw [(bcell hb1).2 _ _ (by simp)]; simp
  have z1 : w.heap.size < w1.heap.size := by have := hb1.size; simp at this; omega
  have z2 : w.heap.size < w1.heap.size + 1 := by omega
  clear hb1
  go_wp2_with fail
  refine (HK.out _).mono ?_
  rintro e w2 ⟨rfl, hb2⟩
  have hc2 := hc1.trans ((under (w := w1) hb2).mono hc1.size)
  have d0 := keep_cell (b := w.heap.size) (o := 0) hb2 (by simp; omega) (by go_simp; rfl)
  have d1 := keep_cell (b := w.heap.size) (o := 1) hb2 (by simp; omega) (by go_simp; rfl)
  have d2 := keep_cell (b := w.heap.size) (o := 2) hb2 (by simp; omega) (by go_simp; rfl)
  have fr2 : ∀ o, w2.frozen? ⟨w.heap.size, o, none⟩ = false := fun o => by rw [(bcell hb2).2 _ _ (by simp; omega)]; go_simp
  go_wp2_with fail
  refine bodyPost_ret (v := .tuple #[dV 0 0 0, .int .i64 9]) (by simp [results, Tryz.results105, go_sem, d0, d1, d2]) rfl ⟨rfl, ?_⟩
  repeat (refine Below.setCell ?_ (by simp) _)
  exact hc2
set_option maxHeartbeats 2000000 in
theorem ro_parse_ok (s : ByteArray) (kd a b : Int) (w : World) (b1 : b ≤ 4294967295) (b0 : 0 ≤ b) (h : dOk 64 kd a b = true)
    (hp : ∀ w, Ret 132 #[.string s, .int .u8 58] w (.tuple #[.int .i64 kd, .int .u64 a, .int .u64 b, .bool true])) :
    Ret 105 #[.string s] w (.tuple #[dV kd a b, .int .i64 0]) := by
  have hk := fun w => ro_check kd a b w b0
  rw [dErr_ok h] at hk
  rw [dOk_iff] at h
  obtain ⟨k1, k3, a0, a1, _⟩ := h
  have e1 : IntKind.i64.wrap a = a := by rw [IntKind.wrap_i64]; omega
  have e2 : IntKind.u32.wrap b = b := by rw [IntKind.wrap_u32]; omega
  have HK := Lib.hid hk
  have HP := Lib.hid hp
  clear hp hk
  go_enter Tryz.func105, Tryz.ntmps105
  go_wp2_with fail
  refine (HP.out _).mono ?_
  rintro e w1 ⟨rfl, hb1⟩
  have hc1 := under (w := w) hb1
  have c0 : w1.cell? ⟨w.heap.size, 0, none⟩ = some (.int .i64 0) := by rw [(bcell hb1).1 _ _ (by simp)]; simp
  have c1 : w1.cell? ⟨w.heap.size, 1, none⟩ = some (.int .i64 0) := by rw [(bcell hb1).1 _ _ (by simp)]; simp
  have c2 : w1.cell? ⟨w.heap.size, 2, none⟩ = some (.int .u32 0) := by rw [(bcell hb1).1 _ _ (by simp)]; simp
  have fr : ∀ o, w1.frozen? ⟨w.heap.size, o, none⟩ = false := fun o => by rw [(bcell hb1).2 _ _ (by simp)]; simp
  have z1 : w.heap.size < w1.heap.size := by have := hb1.size; simp at this; omega
  have z2 : w.heap.size < w1.heap.size + 1 := by omega
  clear hb1
  go_wp2_with fail
  refine (HK.out _).mono ?_
  rintro e w2 ⟨rfl, hb2⟩
  have hc2 := hc1.trans ((under (w := w1) hb2).mono hc1.size)
  have d0 := keep_cell (b := w.heap.size) (o := 0) hb2 (by simp; omega) (by go_simp; rfl)
  have d1 := keep_cell (b := w.heap.size) (o := 1) hb2 (by simp; omega) (by go_simp; rfl)
  have d2 := keep_cell (b := w.heap.size) (o := 2) hb2 (by simp; omega) (by go_simp; rfl)
  have fr2 : ∀ o, w2.frozen? ⟨w.heap.size, o, none⟩ = false := fun o => by rw [(bcell hb2).2 _ _ (by simp; omega)]; go_simp
  have g0 := keep_cell (b := w1.heap.size) (o := 0) (v := .int .i64 kd) hb2 (by simp) (by go_simp)
  have g1 := keep_cell (b := w1.heap.size) (o := 1) (v := .int .i64 a) hb2 (by simp) (by go_simp)
  have g2 := keep_cell (b := w1.heap.size) (o := 2) (v := .int .u32 b) hb2 (by simp) (by go_simp)
  go_wp2_with fail
  refine bodyPost_ret (v := .tuple #[dV kd a b, .int .i64 0]) (by simp [results, Tryz.results105, go_sem, d0, d1, d2]) rfl ⟨rfl, ?_⟩
  repeat (refine Below.setCell ?_ (by simp) _)
  exact hc2
theorem ro_parse_is (s : ByteArray) (k sl g : Int) (h : IsD 58 64 s.data.toList k sl g) (w : World) : Ret 105 #[.string s] w (.tuple #[dV k sl g, .int .i64 0]) := by
  obtain ⟨hok, gm, g0, he⟩ := h
  obtain ⟨k1, k3, s0, s1, gz⟩ := dOk_iff.1 hok
  have hc : sgn 58 := by simp [sgn]
  have hsz : s.size ≤ 22 := by
    have := (dTextL_len 58 (k := k) (s := sl) (g := g) (by omega) (by omega)).1
    rw [← he, len_bytes] at this
    exact this
  obtain ⟨n1, n2⟩ := numB_dec sl.toNat (by omega)
  obtain ⟨m1, m2⟩ := numB_dec g.toNat (by omega)
  have hp := fun w => parts_at s (by omega) 58 (letterB k) 58 rfl (decDigits sl.toNat) (decDigits g.toNat) (by rw [he]; rfl) (pre_not_mem hc k _) (decDigits_length_pos _) w
  have ho : ptOk (letterB k) (decDigits sl.toNat) (decDigits g.toNat) = true := by
    unfold ptOk
    rw [n1, m1, m2, kI_letter k1 k3]
    simp
    omega
  rw [ho, n2, m2, kI_letter k1 k3, Int.toNat_of_nonneg s0, Int.toNat_of_nonneg g0] at hp
  exact ro_parse_ok s k sl g w gm g0 hok hp
theorem ro_parse_not (s : ByteArray) (hs : s.size ≤ 100000) (h : ∀ k sl g, ¬ IsD 58 64 s.data.toList k sl g) (w : World) : Ret 105 #[.string s] w (.tuple #[dV 0 0 0, .int .i64 9]) := by
  rcases mem_split s.data.toList 58 with hm | ⟨pre, post, hm, he⟩
  · exact ro_parse_no s 0 0 0 w (by omega) (by omega) (by omega) (by omega) (by omega) (by omega) (fun w => parts_no s hs 58 58 rfl hm w)
  · by_cases hl : pre.length < 2
    · exact ro_parse_no s 0 0 0 w (by omega) (by omega) (by omega) (by omega) (by omega) (by omega) (fun w => parts_short s hs 58 58 rfl pre post he hm hl w)
    · cases pre with
      | nil => exact absurd (by simp) hl
      | cons x r =>
        have hp := fun w => parts_at s hs 58 x 58 rfl r post he hm (by simp at hl; omega) w
        obtain ⟨a0, a1⟩ := numV_bound r
        obtain ⟨b0, b1⟩ := numV_bound post
        obtain ⟨x0, x1⟩ := kI_bound x
        cases ho : ptOk x r post with
        | false =>
          rw [ho] at hp
          exact ro_parse_no s _ _ _ w x0 x1 a0 a1 b0 b1 hp
        | true =>
          rw [ho] at hp
          unfold ptOk at ho
          rw [Bool.and_eq_true, Bool.and_eq_true, Bool.and_eq_true, decide_eq_true_iff, decide_eq_true_iff] at ho
          obtain ⟨n1, m1, kp, bp⟩ := ho
          cases hok : dOk 64 (kI x) (numV r) (numV post) with
          | false => exact ro_parse_chk s _ _ _ w x0 x1 a0 a1 b0 (by omega) hok hp
          | true =>
            exfalso
            refine h (kI x) (numV r) (numV post) ⟨hok, by omega, b0, ?_⟩
            obtain ⟨v1, v2⟩ := numB_val n1
            obtain ⟨v3, v4⟩ := numB_val m1
            unfold dTextL
            rw [letter_kI kp, v1, v3, Int.toNat_natCast, Int.toNat_natCast, v2, v4]
            exact he
end Go.Proofs.YtinlfheonlpceaaGreatDoor
