/- fields.Parse: what it reads, and what not; the reference's Parse likewise. -/
import Derived.Test.YtpegkcmomkdoeaaDoorFieldP
import Derived.Test.YtpegkcmomkdoeaaDoorFieldE
namespace Go.Proofs.YtpegkcmomkdoeaaDoor
open Go.RowKit
set_option linter.unusedVariables false
set_option linter.unusedSimpArgs false
set_option maxHeartbeats 8000000 in
set_option maxRecDepth 20000 in
theorem fparse_many (s x0 : ByteArray) (m : Nat) (cs : Array Value) (hm : 6 ≤ m) (hm2 : m ≤ 1000000) (h0 : cs[0]? = some (.string x0)) (w : World) (hE : EnvP w)
    (hS : ∀ w, Env w → Calls Tryd.prog 29 #[.string s, .string ⟨#[32]⟩] w fun e w' => e = .returned (.slice (some ⟨w.heap.size, 0, none⟩) m m) ∧ w' = w.alloc (.cells cs 9)) :
    Ret 25 #[.string s] w (.tuple #[ob0, .int .i64 9]) := by
  have HS := Lib.hid hS
  have g1 : IntKind.i64.wrap ((m : Int) - 1) = (m : Int) - 1 := by rw [IntKind.wrap_i64]; omega
  have g2 : decide (4 < (m : Int) - 1) = true := decide_eq_true (by omega)
  have g3 : (0 : Int) < (m : Int) := by omega
  have g4 : 4 < (m : Int) - 1 := by omega
  have g5 : 0 < m := by omega
  clear hS
  go_enter Tryd.func25, Tryd.ntmps25
  go_wp2_with fail
  refine (HS.out _ (hE.toEnv.on (by go_grown))).mono ?_
  rintro e1 w0 ⟨rfl, rfl⟩
  go_wp2_with fail
  refine bodyPost_ret (v := .tuple #[ob0, .int .i64 9]) (by simp [results, Tryd.results25, go_sem]) rfl ⟨rfl, by go_grown⟩
structure ObjO where
  n : Int
  a : Rf
  b : Rf
  c : Rf
  d : Rf
  h : Bool
def fw (ws : List (List UInt8)) (j : Nat) : Rf := match ws[j]? with
  | some x => fieldV x
  | none => (0, 0)
def readO (ws : List (List UInt8)) : ObjO := ⟨(ws.length : Int) - 1, fw ws 1, fw ws 2, fw ws 3, fw ws 4, decide (ws.head? = some [104, 97, 110, 100, 108, 101])⟩
def ObjO.v (o : ObjO) : Value := obR o.n o.a o.b o.c o.d o.h
def ObjO.ok (o : ObjO) : Bool := oOk o.n o.a o.b o.c o.d o.h
def ObjO.text (o : ObjO) : ByteArray := oText o.n o.a o.b o.c o.d o.h
def parV (ws : List (List UInt8)) (s : ByteArray) : Value :=
  if ws.length ≤ 5 ∧ (readO ws).ok = true ∧ (readO ws).text = s then .tuple #[(readO ws).v, .int .i64 0] else .tuple #[ob0, .int .i64 9]
theorem readO_is {n : Int} {a b c d : Rf} {h : Bool} (ho : oOk n a b c d h = true) : readO (oWords n a b c d h) = ⟨n, a, b, c, d, h⟩ := by
  obtain ⟨⟨n0, n1⟩, -, f0, f1, f2, f3⟩ := oOk_iff.1 ho
  have q0 := fieldV_rL (fOk_fit f0)
  have q1 := fieldV_rL (fOk_fit f1)
  have q2 := fieldV_rL (fOk_fit f2)
  have q3 := fieldV_rL (fOk_fit f3)
  have hk : decide (some (kindL h) = some [104, 97, 110, 100, 108, 101]) = h := by cases h <;> rfl
  unfold readO oWords
  rcases (by omega : n = 0 ∨ n = 1 ∨ n = 2 ∨ n = 3 ∨ n = 4) with rfl | rfl | rfl | rfl | rfl
  · rw [fOk_over f0 (by omega), fOk_over f1 (by omega), fOk_over f2 (by omega), fOk_over f3 (by omega)]
    simp [fw]
    simpa using hk
  · rw [fOk_over f1 (by omega), fOk_over f2 (by omega), fOk_over f3 (by omega)]
    simp [fw, q0]
    simpa using hk
  · rw [fOk_over f2 (by omega), fOk_over f3 (by omega)]
    simp [fw, q0, q1]
    simpa using hk
  · rw [fOk_over f3 (by omega)]
    simp [fw, q0, q1, q2]
    simpa using hk
  · simp [fw, q0, q1, q2, q3]
    simpa using hk
theorem parV_is {s : ByteArray} {n : Int} {a b c d : Rf} {h : Bool} (hi : IsO s.data.toList n a b c d h) : parV (cutAll 32 s.data.toList) s = .tuple #[obR n a b c d h, .int .i64 0] := by
  obtain ⟨⟨n0, n1⟩, -⟩ := oOk_iff.1 hi.ok
  unfold parV
  rw [hi.eq, oL_cut, readO_is hi.ok, if_pos ⟨by rw [oWords_len n0 n1]; omega, hi.ok, str_ext (by rw [hi.eq]; exact oText_list n a b c d h)⟩]
  rfl
theorem parV_not {s : ByteArray} (hi : ∀ n a b c d h, ¬ IsO s.data.toList n a b c d h) : parV (cutAll 32 s.data.toList) s = .tuple #[ob0, .int .i64 9] := by
  unfold parV
  rw [if_neg]
  rintro ⟨h1, h2, h3⟩
  refine hi _ _ _ _ _ _ ⟨h2, ?_⟩
  have h4 := congrArg (fun x : ByteArray => x.data.toList) h3
  simp only [ObjO.text] at h4
  rw [oText_list] at h4
  exact h4.symm
theorem ftext_c (n : Int) (a b c d : Rf) (h : Bool) (w : World) (hE : Env w) : Ret 23 #[obR n a b c d h] w (if oOk n a b c d h then .tuple #[.string (oText n a b c d h), .int .i64 0] else .tuple #[.string ⟨#[]⟩, .int .i64 2]) := by
  cases ho : oOk n a b c d h
  · rw [if_neg (by simp)]
    exact ftext_bad n _ _ _ _ _ _ _ _ h w ho
  · rw [if_pos rfl]
    obtain ⟨⟨n0, n1⟩, -⟩ := oOk_iff.1 ho
    obtain ⟨k, rfl⟩ := Int.eq_ofNat_of_zero_le n0
    cases h with
    | false => exact ftext_obj k _ _ _ _ _ _ _ _ w hE (by omega) ho
    | true => exact ftext_han k _ _ _ _ _ _ _ _ w hE (by omega) ho
theorem cutAll_szs (c : UInt8) (l : List UInt8) : ∀ x ∈ cutAll c l, x.length ≤ l.length := by
  induction l with
  | nil => simp [cutAll]
  | cons b l ih =>
    rw [cutAll_cons]
    split
    · intro x hx
      rcases List.mem_cons.1 hx with rfl | hx
      · simp
      · have := ih x hx; simp; omega
    · cases hc : cutAll c l with
      | nil => exact absurd hc (cutAll_ne c l)
      | cons h t =>
        intro x hx
        rw [hc] at ih
        rcases List.mem_cons.1 hx with rfl | hx
        · have := ih h (by simp); simp; omega
        · have := ih x (by simp [hx]); simp; omega
theorem cutAll_cnt (c : UInt8) (l : List UInt8) : (cutAll c l).length ≤ l.length + 1 := by
  induction l with
  | nil => simp [cutAll]
  | cons b l ih =>
    rw [cutAll_cons]
    split
    · simp; omega
    · cases hc : cutAll c l with
      | nil => simp
      | cons h t => rw [hc] at ih; simp at ih ⊢; omega
theorem fparse_c (s : ByteArray) (hs : s.size ≤ 100000) (w : World) (hE : EnvP w) : Ret 25 #[.string s] w (parV (cutAll 32 s.data.toList) s) := by
  have hS := fun w hE => splitF_c s hs w hE
  have hz := cutAll_szs 32 s.data.toList
  have hcn := cutAll_cnt 32 s.data.toList
  rw [len_bytes] at hz hcn
  have hnil := cutAll_ne 32 s.data.toList
  generalize cutAll 32 s.data.toList = ws at *
  have hfd : ∀ x ∈ ws, ∀ w, EnvP w → Ret 39 #[.string ⟨x.toArray⟩] w (refV (fieldV x).1 (fieldV x).2) := fun x hx w hE => by
    have h1 := hz x hx
    have := field_c ⟨x.toArray⟩ (by show x.toArray.size ≤ _; rw [List.size_toArray]; omega) w hE
    rw [show (⟨x.toArray⟩ : ByteArray).data.toList = x by simp] at this
    exact this
  have hcase : ∀ o : ObjO, (if o.ok then (0 : Int) else 2) = 2 ∨ ((if o.ok then (0 : Int) else 2) = 0 ∧ (if o.ok then o.text else ⟨#[]⟩) ≠ s) ∨ ((if o.ok then (0 : Int) else 2) = 0 ∧ (if o.ok then o.text else ⟨#[]⟩) = s) := fun o => by
    cases ho : o.ok
    · exact .inl rfl
    · by_cases ht : o.text = s
      · exact .inr (.inr ⟨rfl, ht⟩)
      · exact .inr (.inl ⟨rfl, ht⟩)
  have htx : ∀ (o : ObjO) w, Env w → Ret 23 #[obR o.n o.a o.b o.c o.d o.h] w (.tuple #[.string (if o.ok then o.text else ⟨#[]⟩), .int .i64 (if o.ok then (0 : Int) else 2)]) := fun o w hE => by
    have := ftext_c o.n o.a o.b o.c o.d o.h w hE
    unfold ObjO.ok ObjO.text
    cases ho : oOk o.n o.a o.b o.c o.d o.h <;> rw [ho] at this <;> exact this
  have hval : ∀ o : ObjO, o = readO ws → ws.length ≤ 5 → parV ws s = if (if o.ok then (0 : Int) else 2) = 0 ∧ (if o.ok then o.text else ⟨#[]⟩) = s then .tuple #[o.v, .int .i64 0] else .tuple #[ob0, .int .i64 9] := fun o ho hl => by
    subst ho
    unfold parV
    cases hk : (readO ws).ok
    · rw [if_neg (fun h => by cases h.2.1), if_neg (fun h => by simp at h)]
    · by_cases ht : (readO ws).text = s
      · rw [if_pos ⟨hl, rfl, ht⟩, if_pos ⟨rfl, ht⟩]
      · rw [if_neg (fun h => ht h.2.2), if_neg (fun h => ht h.2)]
  have hhb : ∀ x0 : List UInt8, ((⟨x0.toArray⟩ : ByteArray).toList == [104, 97, 110, 100, 108, 101]) = decide (some x0 = some [104, 97, 110, 100, 108, 101]) := fun x0 => by
    rw [ByteArray.toList_eq, Bool.eq_iff_iff]
    simp
  rcases ws with _ | ⟨x0, _ | ⟨x1, _ | ⟨x2, _ | ⟨x3, _ | ⟨x4, _ | ⟨x5, t⟩⟩⟩⟩⟩⟩
  · exact absurd rfl hnil
  · exact fparse_0 s ⟨x0.toArray⟩ _ _ _ w hE hS (hhb x0) (htx (readO [x0])) (hcase (readO [x0])) _ (hval _ rfl (by simp))
  · exact fparse_1 s ⟨x0.toArray⟩ ⟨x1.toArray⟩ _ _ _ _ _ w hE hS (hhb x0) (hfd x1 (by simp)) (htx (readO [x0, x1])) (hcase _) _ (hval _ rfl (by simp))
  · exact fparse_2 s ⟨x0.toArray⟩ ⟨x1.toArray⟩ ⟨x2.toArray⟩ _ _ _ _ _ _ _ w hE hS (hhb x0) (hfd x1 (by simp)) (hfd x2 (by simp)) (htx (readO [x0, x1, x2])) (hcase _) _ (hval _ rfl (by simp))
  · exact fparse_3 s ⟨x0.toArray⟩ ⟨x1.toArray⟩ ⟨x2.toArray⟩ ⟨x3.toArray⟩ _ _ _ _ _ _ _ _ _ w hE hS (hhb x0) (hfd x1 (by simp)) (hfd x2 (by simp)) (hfd x3 (by simp)) (htx (readO [x0, x1, x2, x3])) (hcase _) _ (hval _ rfl (by simp))
  · exact fparse_4 s ⟨x0.toArray⟩ ⟨x1.toArray⟩ ⟨x2.toArray⟩ ⟨x3.toArray⟩ ⟨x4.toArray⟩ _ _ _ _ _ _ _ _ _ _ _ w hE hS (hhb x0) (hfd x1 (by simp)) (hfd x2 (by simp)) (hfd x3 (by simp)) (hfd x4 (by simp)) (htx (readO [x0, x1, x2, x3, x4])) (hcase _) _ (hval _ rfl (by simp))
  · have e : parV (x0 :: x1 :: x2 :: x3 :: x4 :: x5 :: t) s = .tuple #[ob0, .int .i64 9] := by
      unfold parV
      rw [if_neg (fun h => by have := h.1; simp at this)]
    rw [e]
    exact fparse_many s ⟨x0.toArray⟩ _ _ (by simp) (by omega) rfl w hE hS
theorem rpV_is {s : List UInt8} {n : Int} {a b c d : Rf} (hi : IsO (kindL false ++ s) n a b c d false) : rpV (rp 4 s) = .tuple #[obR n a b c d false, .int .i64 0] := by
  rw [isO_rp hi]
  obtain ⟨⟨n0, n1⟩, -, f0, f1, f2, f3⟩ := oOk_iff.1 hi.ok
  rcases (by omega : n = 0 ∨ n = 1 ∨ n = 2 ∨ n = 3 ∨ n = 4) with rfl | rfl | rfl | rfl | rfl
  · rw [fOk_over f0 (by omega), fOk_over f1 (by omega), fOk_over f2 (by omega), fOk_over f3 (by omega)]; rfl
  · rw [fOk_over f1 (by omega), fOk_over f2 (by omega), fOk_over f3 (by omega)]; rfl
  · rw [fOk_over f2 (by omega), fOk_over f3 (by omega)]; rfl
  · rw [fOk_over f3 (by omega)]; rfl
  · rfl
theorem rparse_c (s : ByteArray) (hs : s.size ≤ 100000) (w : World) : Ret 26 #[.string s] w (parV (cutAll 32 s.data.toList) s) := by
  by_cases hh : s.data.toList = [104, 97, 110, 100, 108, 101]
  · obtain rfl : s = ⟨#[104, 97, 110, 100, 108, 101]⟩ := str_ext (by rw [hh])
    have hi : IsO [104, 97, 110, 100, 108, 101] 0 (0, 0) (0, 0) (0, 0) (0, 0) true := ⟨by decide, rfl⟩
    rw [parV_is hi]
    exact rparse_han w
  · have hb : (s.toList == [104, 97, 110, 100, 108, 101]) = false := by rw [ByteArray.toList_eq, beq_eq_false_iff_ne]; exact hh
    have hno : (∀ n a b c d, ¬ IsO s.data.toList n a b c d false) → parV (cutAll 32 s.data.toList) s = .tuple #[ob0, .int .i64 9] := fun h => parV_not (fun n a b c d k hi => by
      cases k with
      | false => exact h n a b c d hi
      | true =>
        obtain ⟨-, hn, -⟩ := oOk_iff.1 hi.ok
        obtain rfl := hn rfl
        exact hh (by rw [hi.eq]; rfl))
    have hpre : ∀ n a b c d, IsO s.data.toList n a b c d false → ∃ t, s.data.toList = [111, 98, 106, 101, 99, 116] ++ t := fun n a b c d hi => ⟨_, by rw [hi.eq, oL_fL]; rfl⟩
    by_cases h6 : s.size < 6
    · rw [hno (fun n a b c d hi => by
        obtain ⟨t, ht⟩ := hpre n a b c d hi
        have := congrArg List.length ht
        rw [len_bytes] at this
        simp at this
        omega)]
      exact rparse_short s w hb h6
    · have hx : (s.extract 0 6).data.toList = s.data.toList.take 6 := by rw [Lib.extract_data]; simp
      by_cases ho : s.data.toList.take 6 = [111, 98, 106, 101, 99, 116]
      · have hr : (s.extract 6 s.size).data.toList = s.data.toList.drop 6 := by rw [Lib.extract_to_end]
        have hsp : s.data.toList = kindL false ++ s.data.toList.drop 6 := by
          show _ = [111, 98, 106, 101, 99, 116] ++ _
          rw [← ho, List.take_append_drop]
        have hv : parV (cutAll 32 s.data.toList) s = rpV (rp 4 (s.extract 6 s.size).data.toList) := by
          rw [hr]
          cases hp : rp 4 (s.data.toList.drop 6) with
          | some l =>
            have h1 := rp_isO hp
            rw [← hsp] at h1
            rw [parV_is h1]
            rfl
          | none =>
            rw [hno (fun n a b c d hi => by
              rw [hsp] at hi
              have := isO_rp hi
              rw [hp] at this
              cases this)]
            rfl
        rw [hv]
        exact rparse_loop s w hs hb (by omega) _ rfl (by rw [ByteArray.toList_eq, hx, beq_iff_eq]; exact ho) _ rfl _ rfl
      · rw [hno (fun n a b c d hi => by
          obtain ⟨t, ht⟩ := hpre n a b c d hi
          apply ho
          rw [ht]
          rfl)]
        exact rparse_other s w hb (by omega) _ rfl (by rw [ByteArray.toList_eq, hx, beq_eq_false_iff_ne]; exact ho)
end Go.Proofs.YtpegkcmomkdoeaaDoor
