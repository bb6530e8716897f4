/- stats.Parse: its contract; the words of a text of counts. -/
import Derived.Test.YtjebicdlbknemaaDoorStParse2
import Derived.Lib.ParseIntBCases
import Derived.Lib.AtoiAllCases
namespace Go.Proofs.YtjebicdlbknemaaDoor
open Go.RowKit
open Go.Lib (decDigits)
set_option linter.unusedVariables false

theorem atoi_dec (n : Nat) (h : n < 9223372036854775808) : Lib.atoiAll (decDigits n) = .ok (n : Int) := by
  have hm : Lib.parseMag (decDigits n) = .ok n := by
    unfold Lib.parseMag
    rw [if_neg (decDigits_ne_nil n), ← Lib.parseUintM_64, parseUintM_val _ (by omega) _ _ (decDigits_all n) (by rw [val_decDigits]; omega), val_decDigits]
  cases hd : decDigits n with
  | nil => exact absurd hd (decDigits_ne_nil n)
  | cons c r =>
    have hall := decDigits_all n
    rw [hd] at hall
    simp only [List.all_cons, Bool.and_eq_true] at hall
    have h2 : 48 ≤ c.toNat ∧ c.toNat ≤ 57 := by simpa [isDig] using hall.1
    rw [Lib.atoiAll_plain c r (by omega) (by omega), ← hd, hm]
    unfold Lib.signless
    simp only
    rw [if_neg (by omega)]
theorem atoi_itoa (v : Int) (h0 : 0 ≤ v) (h1 : v < 9223372036854775808) : Lib.atoiAll (Lib.itoa v) = .ok v := by
  have e : Lib.itoa v = decDigits v.toNat := by unfold Lib.itoa; rw [if_neg (by omega)]
  rw [e, atoi_dec _ (by omega)]
  congr 1
  omega
theorem itoa_no_space (v : Int) (h0 : 0 ≤ v) : (32 : UInt8) ∉ Lib.itoa v := by
  have e : Lib.itoa v = decDigits v.toNat := by unfold Lib.itoa; rw [if_neg (by omega)]
  rw [e]
  intro hm
  have := List.all_eq_true.1 (decDigits_all v.toNat) _ hm
  simp [isDig] at this
/-- A text of counts, and its counts. -/
def IsSt (x : ByteArray) (o l c r q : Int) : Prop := sOk o l c r q = true ∧ sText o l c r q = x
def wordsL (o l c r q : Int) : List (List UInt8) := (sItems o l c r q 5).map (·.data.toList)
theorem wordsL_eq (o l c r q : Int) : wordsL o l c r q = [(sWord 0).data.toList, Lib.itoa o, (sWord 1).data.toList, Lib.itoa l, (sWord 2).data.toList, Lib.itoa c, (sWord 3).data.toList, Lib.itoa r, (sWord 4).data.toList, Lib.itoa q] := by
  simp [wordsL, sItems, sCnt]
theorem sOk_all {o l c r q : Int} (h : sOk o l c r q = true) : 0 ≤ o ∧ o ≤ 10000 ∧ 0 ≤ l ∧ l ≤ 10000 ∧ 0 ≤ c ∧ c ≤ 10000 ∧ 0 ≤ r ∧ r ≤ 10000 ∧ 0 ≤ q ∧ q ≤ 10000 ∧ l + c + r + q = o := by
  unfold sOk at h
  rw [decide_eq_true_iff] at h
  exact h
theorem IsSt.words {x : ByteArray} {o l c r q : Int} (h : IsSt x o l c r q) : cutAll 32 x.data.toList = wordsL o l c r q := by
  obtain ⟨hk, rfl⟩ := h
  have hb := sOk_all hk
  show cutAll 32 (Lib.join (wordsL o l c r q) [32]) = _
  refine cutAll_join 32 _ (by rw [wordsL_eq]; simp) ?_
  rw [wordsL_eq]
  intro y hy
  simp only [List.mem_cons, List.not_mem_nil, or_false] at hy
  rcases hy with rfl | rfl | rfl | rfl | rfl | rfl | rfl | rfl | rfl | rfl
  · decide
  · exact itoa_no_space _ (by omega)
  · decide
  · exact itoa_no_space _ (by omega)
  · decide
  · exact itoa_no_space _ (by omega)
  · decide
  · exact itoa_no_space _ (by omega)
  · decide
  · exact itoa_no_space _ (by omega)
theorem IsSt.av {x : ByteArray} {o l c r q : Int} (h : IsSt x o l c r q) (j : Nat) (hj : j < 5) : Lib.atoiAll ((cutAll 32 x.data.toList).getD (2 * j + 1) []) = .ok (sCnt o l c r q j) := by
  rw [h.words, wordsL_eq]
  have hb := sOk_all h.1
  rcases (by omega : j = 0 ∨ j = 1 ∨ j = 2 ∨ j = 3 ∨ j = 4) with rfl | rfl | rfl | rfl | rfl
  all_goals
    simp only [List.getD_eq_getElem?_getD, sCnt]
    exact atoi_itoa _ (by omega) (by omega)
theorem bytes_beq_true {a b : ByteArray} (h : a = b) : (a.toList == b.toList) = true := by rw [h]; exact beq_self_eq_true _
theorem split10 (x : ByteArray) (hs : x.size ≤ 100000) (hn : (cutAll 32 x.data.toList).length = 10) :
    ∃ row : Array Value, (∀ w, Env w → Calls Tryd.prog 23 #[.string x, .string ⟨#[32]⟩] w fun e w' => e = .returned (.slice (some ⟨w.heap.size, 0, none⟩) 10 10) ∧ w' = w.alloc (.cells row 9)) ∧
      ∀ j, j < 10 → row[j]? = some (.string ⟨((cutAll 32 x.data.toList).getD j []).toArray⟩) := by
  refine ⟨_, fun w hE => by have h := split_c x hs w hE; rw [hn] at h; exact h, fun j hj => ?_⟩
  simp [List.getD_eq_getElem?_getD]
  rw [List.getElem?_eq_getElem (by omega)]
  simp
theorem getD_size (x : ByteArray) (hs : x.size ≤ 100000) (j : Nat) : (ByteArray.mk ((cutAll 32 x.data.toList).getD j []).toArray).size ≤ 100000 := by
  have : ((cutAll 32 x.data.toList).getD j []).length ≤ x.data.toList.length := by
    rw [List.getD_eq_getElem?_getD]
    cases h : (cutAll 32 x.data.toList)[j]? with
    | none => simp
    | some y => exact cutAll_size 32 _ y (List.mem_of_getElem? h)
  rw [len_bytes] at this
  show ((cutAll 32 x.data.toList).getD j []).toArray.size ≤ 100000
  simp only [List.size_toArray]
  omega
/-- What Parse gives: the counts whose text it is, or nothing. -/
theorem st_parse (x : ByteArray) (hs : x.size ≤ 100000) :
    (∃ o l c r q : Int, IsSt x o l c r q ∧ ∀ w, EnvP w → Ret 21 #[.string x] w (.tuple #[stV o l c r q, .int .i64 0])) ∨
    ((∀ o l c r q : Int, ¬ IsSt x o l c r q) ∧ ∀ w, EnvP w → Ret 21 #[.string x] w (.tuple #[stV 0 0 0 0 0, .int .i64 9])) := by
  by_cases hn : (cutAll 32 x.data.toList).length = 10
  case neg => exact .inr ⟨fun o l c r q h => hn (by rw [h.words, wordsL_eq]; rfl), fun w hE => sparse_len x hs w hE hn⟩
  obtain ⟨row, hsp, hrow⟩ := split10 x hs hn
  have ok : ∀ j, good (cutAll 32 x.data.toList) j → ∀ w, Ret 25 #[.string ⟨((cutAll 32 x.data.toList).getD (2 * j + 1) []).toArray⟩] w (.tuple #[.int .i64 (av (cutAll 32 x.data.toList) j), .nilIface]) := fun j hj w =>
    atoi_ok _ (getD_size x hs _) _ (by simpa using av_good hj) w
  have bad : ∀ j, ¬ good (cutAll 32 x.data.toList) j → ∀ w, EnvP w → Calls Tryd.prog 25 #[.string ⟨((cutAll 32 x.data.toList).getD (2 * j + 1) []).toArray⟩] w fun e w' => ∃ (n : Int) (N : Nat), e = .returned (.tuple #[.int .i64 n, .iface 119 (.pointer (some ⟨N, 0, none⟩))]) ∧ Below w.heap.size w w' := fun j hj w hE =>
    atoi_bad _ (getD_size x hs _) (fun v hv => hj ⟨v, by simpa using hv⟩) w hE
  have nb : ∀ j, j < 5 → ¬ good (cutAll 32 x.data.toList) j → ∀ o l c r q : Int, ¬ IsSt x o l c r q := fun j hj hb o l c r q h => hb ⟨_, h.av j hj⟩
  by_cases g0 : good (cutAll 32 x.data.toList) 0
  case neg => exact .inr ⟨nb 0 (by omega) g0, fun w hE => sparse_bad0 x row w hE _ 0 0 0 0 0 hsp (hrow 1 (by omega)) (bad 0 g0)⟩
  by_cases g1 : good (cutAll 32 x.data.toList) 1
  case neg => exact .inr ⟨nb 1 (by omega) g1, fun w hE => sparse_bad1 x row w hE _ _ _ 0 0 0 0 hsp (hrow 1 (by omega)) (hrow 3 (by omega)) (ok 0 g0) (bad 1 g1)⟩
  by_cases g2 : good (cutAll 32 x.data.toList) 2
  case neg => exact .inr ⟨nb 2 (by omega) g2, fun w hE => sparse_bad2 x row w hE _ _ _ _ _ 0 0 0 hsp (hrow 1 (by omega)) (hrow 3 (by omega)) (hrow 5 (by omega)) (ok 0 g0) (ok 1 g1) (bad 2 g2)⟩
  by_cases g3 : good (cutAll 32 x.data.toList) 3
  case neg => exact .inr ⟨nb 3 (by omega) g3, fun w hE => sparse_bad3 x row w hE _ _ _ _ _ _ _ 0 0 hsp (hrow 1 (by omega)) (hrow 3 (by omega)) (hrow 5 (by omega)) (hrow 7 (by omega)) (ok 0 g0) (ok 1 g1) (ok 2 g2) (bad 3 g3)⟩
  by_cases g4 : good (cutAll 32 x.data.toList) 4
  case neg => exact .inr ⟨nb 4 (by omega) g4, fun w hE => sparse_bad4 x row w hE _ _ _ _ _ _ _ _ _ 0 hsp (hrow 1 (by omega)) (hrow 3 (by omega)) (hrow 5 (by omega)) (hrow 7 (by omega)) (hrow 9 (by omega)) (ok 0 g0) (ok 1 g1) (ok 2 g2) (ok 3 g3) (bad 4 g4)⟩
  have val : ∀ o l c r q : Int, IsSt x o l c r q → o = av (cutAll 32 x.data.toList) 0 ∧ l = av (cutAll 32 x.data.toList) 1 ∧ c = av (cutAll 32 x.data.toList) 2 ∧ r = av (cutAll 32 x.data.toList) 3 ∧ q = av (cutAll 32 x.data.toList) 4 := fun o l c r q h => by
    have hv : ∀ j, j < 5 → sCnt o l c r q j = av (cutAll 32 x.data.toList) j := fun j hj => by
      have := h.av j hj
      unfold av
      rw [this]
    exact ⟨hv 0 (by omega), hv 1 (by omega), hv 2 (by omega), hv 3 (by omega), hv 4 (by omega)⟩
  generalize hv0 : av (cutAll 32 x.data.toList) 0 = v0 at *
  generalize hv1 : av (cutAll 32 x.data.toList) 1 = v1 at *
  generalize hv2 : av (cutAll 32 x.data.toList) 2 = v2 at *
  generalize hv3 : av (cutAll 32 x.data.toList) 3 = v3 at *
  generalize hv4 : av (cutAll 32 x.data.toList) 4 = v4 at *
  have a0 := ok 0 g0
  have a1 := ok 1 g1
  have a2 := ok 2 g2
  have a3 := ok 3 g3
  have a4 := ok 4 g4
  rw [hv0] at a0
  rw [hv1] at a1
  rw [hv2] at a2
  rw [hv3] at a3
  rw [hv4] at a4
  cases hk : sOk v0 v1 v2 v3 v4 with
  | false =>
    refine .inr ⟨fun o l c r q h => ?_, fun w hE => sparse_err x row w hE _ _ _ _ _ _ _ _ _ _ hsp (hrow 1 (by omega)) (hrow 3 (by omega)) (hrow 5 (by omega)) (hrow 7 (by omega)) (hrow 9 (by omega)) a0 a1 a2 a3 a4 ⟨#[]⟩ 2 (fun w _ => text_bad _ _ _ _ _ w hk) rfl⟩
    obtain ⟨rfl, rfl, rfl, rfl, rfl⟩ := val o l c r q h
    rw [h.1] at hk
    cases hk
  | true =>
    by_cases hx : sText v0 v1 v2 v3 v4 = x
    · exact .inl ⟨_, _, _, _, _, ⟨hk, hx⟩, fun w hE => sparse_yes x row w hE _ _ _ _ _ _ _ _ _ _ hsp (hrow 1 (by omega)) (hrow 3 (by omega)) (hrow 5 (by omega)) (hrow 7 (by omega)) (hrow 9 (by omega)) a0 a1 a2 a3 a4 _ 0 (fun w hE => text_ok _ _ _ _ _ w hE hk) rfl (bytes_beq_true hx)⟩
    · refine .inr ⟨fun o l c r q h => ?_, fun w hE => sparse_no x row w hE _ _ _ _ _ _ _ _ _ _ hsp (hrow 1 (by omega)) (hrow 3 (by omega)) (hrow 5 (by omega)) (hrow 7 (by omega)) (hrow 9 (by omega)) a0 a1 a2 a3 a4 _ 0 (fun w hE => text_ok _ _ _ _ _ w hE hk) rfl (str_beq_ne hx)⟩
      obtain ⟨rfl, rfl, rfl, rfl, rfl⟩ := val o l c r q h
      exact hx h.2
end Go.Proofs.YtjebicdlbknemaaDoor
