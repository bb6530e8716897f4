/- Package descr: read, Parse, ParseOuter: a text of a descriptor is read as it, any other text is refused. -/
import Derived.Test.YtjonbmocamjhaaaDoorDescr3
import Derived.Test.YtjonbmocamjhaaaDoorDescr5
namespace Go.Proofs.YtjonbmocamjhaaaDoor
open Go.RowKit
open Go.Lib (decDigits)

theorem kIdx_letter {k : Int} (h1 : 1 ≤ k) (h2 : k ≤ 3) : kIdx (letterB k) = k := by
  rcases (by omega : k = 1 ∨ k = 2 ∨ k = 3) with rfl | rfl | rfl <;> rfl
theorem letter_kIdx {x : UInt8} (h : 1 ≤ kIdx x) : letterB (kIdx x) = x := by
  unfold kIdx at h ⊢
  by_cases e1 : x = 102
  · rw [if_pos e1, e1]; rfl
  · by_cases e2 : x = 98
    · rw [if_neg e1, if_pos e2, e2]; rfl
    · by_cases e3 : x = 108
      · rw [if_neg e1, if_neg e2, if_pos e3, e3]; rfl
      · rw [if_neg e1, if_neg e2, if_neg e3] at h; omega
theorem of_list (l : List UInt8) : (ByteArray.mk l.toArray).data.toList = l := by simp
theorem cons_facts (x : UInt8) (r : List UInt8) : (ByteArray.mk (x :: r).toArray).toList.isEmpty = false ∧ (1 : Int) ≤ (ByteArray.mk (x :: r).toArray).size ∧ (ByteArray.mk (x :: r).toArray).extract 1 (ByteArray.mk (x :: r).toArray).size = ⟨r.toArray⟩ ∧ (ByteArray.mk (x :: r).toArray).extract 0 1 = ⟨#[x]⟩ := by
  have hs : (ByteArray.mk (x :: r).toArray).size = r.length + 1 := by rw [← len_bytes]; simp
  refine ⟨by rw [ByteArray.toList_eq]; simp, by omega, ?_, ?_⟩
  · apply str_ext
    rw [Lib.extract_to_end]
    simp
  · apply str_ext
    simp
theorem gParse_bound (l : List UInt8) : 0 ≤ gParse l ∧ gParse l ≤ 4294967295 := by
  cases h : isGen l with
  | true =>
    obtain ⟨n, h1, h2, h3⟩ := (isGen_iff l).1 h
    rw [← h3, (gParse_digits h1 h2).1]
    omega
  | false => rw [(gParse_not h).1]; omega
theorem read_is (c : UInt8) (hc : sgn c) (size : Int) (hsz : size ≤ 256) (s : ByteArray) (k sl g : Int) (h : IsD c size s.data.toList k sl g) (w : World) (hE : EnvP w) :
    Ret 39 #[.string s, .string ⟨#[c]⟩, .int .i64 size] w (.tuple #[nmV k sl g, .int .i64 0]) := by
  obtain ⟨hok, gm, g0, he⟩ := h
  obtain ⟨k1, k3, s0, s1, gz⟩ := dOk_iff.1 hok
  obtain ⟨f1, f2, f3, f4⟩ := cons_facts (letterB k) (decDigits sl.toNat)
  have hsz2 : s.size ≤ 22 := by
    have := (dTextL_len c (k := k) (s := sl) (g := g) (by omega) (by omega)).1
    rw [← he, len_bytes] at this
    exact this
  have es : s = dText c k sl g := str_ext (by rw [he, dText_list])
  have hcut := fun w hE => cut_c s c w hE (by omega)
  rw [he, cut_text hc] at hcut
  have ha : Lib.atoiAll (digits sl.toNat).data.toList = .ok sl := by
    rw [digits_list, atoi_dec _ (by omega)]
    congr 1
    omega
  have hz : (digits sl.toNat).size ≤ 100000 := by have := digits_size_le sl.toNat (by omega); omega
  have hat := fun w => atoi_ok (digits sl.toNat) hz sl ha w
  have hgp := fun w hE => parse_ok g.toNat w hE (by omega) (by omega)
  rw [Int.toNat_of_nonneg g0] at hgp
  have hck := fun w => nm_check_ok size k sl g w hok g0 gm
  have htx := fun w hE => nm_text c k sl g w hE k1 k3 s0 (by omega) g0 gm
  rw [← es] at htx
  have ek := kIdx_letter k1 k3
  have := read_ok c (letterB k) size sl g s _ _ _ true w hE f1 f2 f3 f4 hcut hat hgp g0 gm (by rw [ek]; exact hck) (by rw [ek]; exact htx)
  rw [ek] at this
  exact this
theorem read_not (c : UInt8) (size : Int) (hsz : size ≤ 256) (s : ByteArray) (hs : s.size ≤ 100000) (h : ∀ k sl g, ¬ IsD c size s.data.toList k sl g) (w : World) (hE : EnvP w) :
    Ret 39 #[.string s, .string ⟨#[c]⟩, .int .i64 size] w (.tuple #[nmV 0 0 0, .int .i64 9]) := by
  have hcut := fun w hE => cut_c s c w hE hs
  obtain ⟨fl, yl, fd, e, hfl, hyl, hall⟩ : ∃ fl yl fd, Lib.cut s.data.toList [c] = (fl, yl, fd) ∧ fl.length ≤ s.data.toList.length ∧ yl.length ≤ s.data.toList.length ∧ (s.data.toList = fl ++ c :: yl ∨ yl = []) := by
    rcases mem_split s.data.toList c with hm | ⟨pre, post, hm, he⟩
    · exact ⟨_, _, _, cut_no _ _ hm, Nat.le_refl _, by simp, .inr rfl⟩
    · refine ⟨pre, post, true, by rw [he]; exact cut_at _ _ _ hm, ?_, ?_, .inl he⟩
      · rw [he]; simp
      · rw [he]; simp; omega
  rw [e] at hcut
  rw [len_bytes] at hfl hyl
  have hy : (ByteArray.mk yl.toArray).size ≤ 100000 := by rw [← len_bytes, of_list]; omega
  cases fl with
  | nil => exact read_empty c size s _ _ w hE hcut
  | cons x r =>
    obtain ⟨f1, f2, f3, f4⟩ := cons_facts x r
    have hr : (ByteArray.mk r.toArray).size ≤ 100000 := by rw [← len_bytes, of_list]; simp at hfl; omega
    have hgp := fun w hE => parse_any ⟨yl.toArray⟩ w hE hy
    rw [of_list] at hgp
    obtain ⟨gb0, gb1⟩ := gParse_bound yl
    by_cases ha : ∃ v, Lib.atoiAll (ByteArray.mk r.toArray).data.toList = .ok v
    · obtain ⟨v, ha⟩ := ha
      have hat := fun w => atoi_ok ⟨r.toArray⟩ hr v ha w
      rcases gParseE_cases yl with hg | hg
      · obtain ⟨n, n1, n2, n3, hgv⟩ := gParseE_zero hg
        rw [hg, hgv] at hgp
        cases hok : dOk size (kIdx x) v n with
        | false =>
          have hck := fun w => nm_check_bad size (kIdx x) v n w hok (by omega) (by omega)
          exact read_check c x size v n s _ _ _ fd w hE f1 f2 f3 f4 hcut hat hgp (by omega) (by omega) hck
        | true =>
          obtain ⟨k1, k3, s0, s1, _⟩ := dOk_iff.1 hok
          have hck := fun w => nm_check_ok size (kIdx x) v n w hok (by omega) (by omega)
          have htx := fun w hE => nm_text c (kIdx x) v n w hE k1 k3 s0 (by omega) (by omega) (by omega)
          refine read_text c x size v n s _ _ _ fd w hE f1 f2 f3 f4 hcut hat hgp (by omega) (by omega) hck _ (str_beq_ne fun e' => ?_) htx
          exact h (kIdx x) v n ⟨hok, by omega, by omega, by rw [← e', dText_list]⟩
      · have hg0 : gParse yl = 0 := by
          cases hi : isGen yl with
          | true =>
            obtain ⟨n, n1, n2, n3⟩ := (isGen_iff yl).1 hi
            rw [← n3, (gParse_digits n1 n2).2] at hg
            omega
          | false => exact (gParse_not hi).1
        rw [hg, hg0] at hgp
        exact read_gen c x size v 0 s _ _ _ fd w hE f1 f2 f3 f4 hcut hat hgp (by omega) (by omega)
    · have hat := fun w hE => atoi_bad ⟨r.toArray⟩ hr (fun v hv => ha ⟨v, hv⟩) w hE
      exact read_atoi c x size (gParse yl) (gParseE yl) s _ _ _ fd w hE f1 f2 f3 f4 hcut hat hgp gb0 gb1
set_option maxHeartbeats 2000000 in
theorem d_parse (s : ByteArray) (k sl g e : Int) (w : World) (g0 : 0 ≤ g) (g1 : g ≤ 4294967295)
    (hr : ∀ w, EnvP w → Ret 39 #[.string s, .string ⟨#[46]⟩, .int .i64 256] w (.tuple #[nmV k sl g, .int .i64 e])) (hE : EnvP w) :
    Ret 22 #[.string s] w (.tuple #[dV k sl g, .int .i64 e]) := by
  have hgw : IntKind.u32.wrap g = g := by rw [IntKind.wrap_u32]; omega
  have HR := Lib.hid hr
  clear hr
  go_enter Tryd.func22, Tryd.ntmps22
  go_wp2_with fail
  refine (HR.out _ (hE.alloc _)).mono ?_
  rintro e w1 ⟨rfl, hb1⟩
  have c0 : w1.cell? ⟨w.heap.size, 0, none⟩ = some (.int .i64 0) := by rw [(bcell hb1).1 _ _ (by simp)]; simp
  have c1 : w1.cell? ⟨w.heap.size, 1, none⟩ = some (.int .i64 0) := by rw [(bcell hb1).1 _ _ (by simp)]; simp
  have c2 : w1.cell? ⟨w.heap.size, 2, none⟩ = some (.int .u32 0) := by rw [(bcell hb1).1 _ _ (by simp)]; simp
  have fr : ∀ o, w1.frozen? ⟨w.heap.size, o, none⟩ = false := fun o => by rw [(bcell hb1).2 _ _ (by simp)]; simp
  have z1 : w.heap.size < w1.heap.size := by have := hb1.size; simp at this; omega
  have z2 : w.heap.size < w1.heap.size + 1 := by omega
  have z3 : w.heap.size < w1.heap.size + 1 + 1 := by omega
  have hc1 := under (w := w) hb1
  clear hb1
  go_wp2_with go_in
  refine bodyPost_ret (v := .tuple #[dV k sl g, .int .i64 e]) (by simp [results, Tryd.results22, go_sem, c0, c1, c2, z1, z2, z3]) rfl ⟨rfl, ?_⟩
  repeat (refine Below.setCell ?_ (by simp) _)
  go_grown
theorem d_parse_is (s : ByteArray) (k sl g : Int) (h : IsD 46 256 s.data.toList k sl g) (w : World) (hE : EnvP w) : Ret 22 #[.string s] w (.tuple #[dV k sl g, .int .i64 0]) :=
  d_parse s k sl g 0 w h.g0 h.gm (fun w hE => read_is 46 (by simp [sgn]) 256 (by omega) s k sl g h w hE) hE
theorem d_parse_not (s : ByteArray) (hs : s.size ≤ 100000) (h : ∀ k sl g, ¬ IsD 46 256 s.data.toList k sl g) (w : World) (hE : EnvP w) : Ret 22 #[.string s] w (.tuple #[dV 0 0 0, .int .i64 9]) :=
  d_parse s 0 0 0 9 w (by omega) (by omega) (fun w hE => read_not 46 256 (by omega) s hs h w hE) hE
set_option maxHeartbeats 2000000 in
theorem o_parse (s : ByteArray) (k sl g e : Int) (w : World) (g0 : 0 ≤ g) (g1 : g ≤ 4294967295)
    (hr : ∀ w, EnvP w → Ret 39 #[.string s, .string ⟨#[58]⟩, .int .i64 64] w (.tuple #[nmV k sl g, .int .i64 e])) (hE : EnvP w) :
    Ret 26 #[.string s] w (.tuple #[dV k sl g, .int .i64 e]) := by
  have hgw : IntKind.u32.wrap g = g := by rw [IntKind.wrap_u32]; omega
  have HR := Lib.hid hr
  clear hr
  go_enter Tryd.func26, Tryd.ntmps26
  go_wp2_with fail
  refine (HR.out _ (hE.alloc _)).mono ?_
  rintro e w1 ⟨rfl, hb1⟩
  have c0 : w1.cell? ⟨w.heap.size, 0, none⟩ = some (.int .i64 0) := by rw [(bcell hb1).1 _ _ (by simp)]; simp
  have c1 : w1.cell? ⟨w.heap.size, 1, none⟩ = some (.int .i64 0) := by rw [(bcell hb1).1 _ _ (by simp)]; simp
  have c2 : w1.cell? ⟨w.heap.size, 2, none⟩ = some (.int .u32 0) := by rw [(bcell hb1).1 _ _ (by simp)]; simp
  have fr : ∀ o, w1.frozen? ⟨w.heap.size, o, none⟩ = false := fun o => by rw [(bcell hb1).2 _ _ (by simp)]; simp
  have z1 : w.heap.size < w1.heap.size := by have := hb1.size; simp at this; omega
  have z2 : w.heap.size < w1.heap.size + 1 := by omega
  have z3 : w.heap.size < w1.heap.size + 1 + 1 := by omega
  have hc1 := under (w := w) hb1
  clear hb1
  go_wp2_with go_in
  refine bodyPost_ret (v := .tuple #[dV k sl g, .int .i64 e]) (by simp [results, Tryd.results26, go_sem, c0, c1, c2, z1, z2, z3]) rfl ⟨rfl, ?_⟩
  repeat (refine Below.setCell ?_ (by simp) _)
  go_grown
theorem o_parse_is (s : ByteArray) (k sl g : Int) (h : IsD 58 64 s.data.toList k sl g) (w : World) (hE : EnvP w) : Ret 26 #[.string s] w (.tuple #[dV k sl g, .int .i64 0]) :=
  o_parse s k sl g 0 w h.g0 h.gm (fun w hE => read_is 58 (by simp [sgn]) 64 (by omega) s k sl g h w hE) hE
theorem o_parse_not (s : ByteArray) (hs : s.size ≤ 100000) (h : ∀ k sl g, ¬ IsD 58 64 s.data.toList k sl g) (w : World) (hE : EnvP w) : Ret 26 #[.string s] w (.tuple #[dV 0 0 0, .int .i64 9]) :=
  o_parse s 0 0 0 9 w (by omega) (by omega) (fun w hE => read_not 58 64 (by omega) s hs h w hE) hE
end Go.Proofs.YtjonbmocamjhaaaDoor
