/- The resources of attempts by numbers: what is told of each is together all (plain). -/
import Derived.Test.YtinlfheonlpceaaGreatDoorM61a
namespace Go.Proofs.YtinlfheonlpceaaGreatDoor
open Go.RowKit
set_option linter.unusedVariables false
set_option linter.unusedSimpArgs false
set_option maxHeartbeats 4000000
theorem same_iff {k i g : Int} {a : AtR} : sameO k i g a = true ↔ a.k = k ∧ a.i = i ∧ a.g = g := by
  unfold sameO
  simp [and_assoc]
def resK (r : Nat) : Int := 1 + (r % 3 : Nat)
def resI (r : Nat) : Int := (r / 3 % 2 : Nat)
def resG (r : Nat) : Int := 1 + (r / 6 : Nat)
theorem res_inj {r s : Nat} (hr : r < 12) (hs : s < 12) (h1 : resK r = resK s) (h2 : resI r = resI s) (h3 : resG r = resG s) : r = s := by
  unfold resK resI resG at *
  omega
def sumR (l : List AtR) : Nat → Nat
  | 0 => 0
  | j + 1 => sumR l j + (ofL (resK j) (resI j) (resG j) l).length
theorem sumR_cons (a : AtR) (l : List AtR) {r : Nat} (hr : r < 12) (hk : a.k = resK r) (hi : a.i = resI r) (hg : a.g = resG r) : ∀ j, j ≤ 12 → sumR (a :: l) j = sumR l j + (if r < j then 1 else 0)
  | 0, _ => by simp [sumR]
  | j + 1, hj => by
    have ih := sumR_cons a l hr hk hi hg j (by omega)
    unfold sumR
    rw [ih]
    unfold ofL
    rw [List.filter_cons]
    by_cases he : j = r
    · subst he
      rw [if_pos (same_iff.2 ⟨hk, hi, hg⟩), if_neg (show ¬ j < j by omega), if_pos (show j < j + 1 by omega), List.length_cons]
      omega
    · have hno : ¬ sameO (resK j) (resI j) (resG j) a = true := fun h => by
        have h2 := same_iff.1 h
        exact he (res_inj (by omega) hr (h2.1.symm.trans hk) (h2.2.1.symm.trans hi) (h2.2.2.symm.trans hg))
      rw [if_neg hno]
      by_cases hlt : r < j
      · rw [if_pos hlt, if_pos (show r < j + 1 by omega)]; omega
      · rw [if_neg hlt, if_neg (show ¬ r < j + 1 by omega)]; omega
theorem sumR_le (l : List AtR) : ∀ j, sumR l j ≤ j * l.length
  | 0 => by simp [sumR]
  | j + 1 => by
    have h1 := sumR_le l j
    have h2 : (ofL (resK j) (resI j) (resG j) l).length ≤ l.length := ofL_len _ _ _ _
    unfold sumR
    rw [Nat.add_mul]
    omega
theorem HoldsA.head {W : World} {g o n c : Nat} {x : AtR} {r : List AtR} (h : HoldsA W (.slice (some ⟨g, o, none⟩) n c) (x :: r)) : W.cell? ⟨g, o, none⟩ = some (.int .i64 x.at_) ∧ W.cell? ⟨g, o + 1, none⟩ = some (.int .i64 x.k) ∧ W.cell? ⟨g, o + 2, none⟩ = some (.int .i64 x.i) ∧ W.cell? ⟨g, o + 3, none⟩ = some (.int .u32 x.g) ∧ W.cell? ⟨g, o + 4, none⟩ = some (.int .i64 x.why) ∧ W.cell? ⟨g, o + 5, none⟩ = some (.int .i64 x.ans) := by
  rcases h with ⟨h1, _⟩ | ⟨g', o', c', h1, h2⟩
  · cases h1
  · injection h1 with h3 h4 h5
    injection h3 with h3
    injection h3 with h6 h7
    subst h6 h7
    have q := HoldsA.six (j := 0) (h2 0 x rfl)
    simpa using q
theorem sumR_nil : ∀ j, sumR [] j = 0
  | 0 => rfl
  | j + 1 => by unfold sumR; rw [sumR_nil j]; rfl
theorem sumR_all : ∀ l : List AtR, (∀ a ∈ l, ∃ r, r < 12 ∧ a.k = resK r ∧ a.i = resI r ∧ a.g = resG r) → sumR l 12 = l.length
  | [], _ => sumR_nil 12
  | a :: l, h => by
    obtain ⟨r, h1, h2, h3, h4⟩ := h a (List.mem_cons_self ..)
    rw [sumR_cons a l h1 h2 h3 h4 12 (Nat.le_refl _), sumR_all l (fun b hb => h b (List.mem_cons_of_mem _ hb)), if_pos h1, List.length_cons]
theorem mkA_res (t : Int) (x : EnR) : ∃ r, r < 12 ∧ (mkA t x).k = resK r ∧ (mkA t x).i = resI r ∧ (mkA t x).g = resG r := by
  refine ⟨x.r % 3 + 3 * (x.r / 3 % 2) + 6 * (x.r / 6 % 2), by omega, ?_, ?_, ?_⟩
  · unfold mkA resK; simp only; omega
  · unfold mkA resI; simp only; omega
  · unfold mkA resG; simp only; omega
theorem attsFrom_res : ∀ (l : List EnR) (t : Int), ∀ a ∈ attsFrom t l, ∃ r, r < 12 ∧ a.k = resK r ∧ a.i = resI r ∧ a.g = resG r
  | [], _, a, h => by simp [attsFrom] at h
  | x :: l, t, a, h => by
    rw [attsFrom] at h
    rcases List.mem_cons.1 h with rfl | h
    · exact mkA_res _ x
    · exact attsFrom_res l _ a h
theorem attsL_sum (l : List EnR) : sumR (attsL l) 12 = (attsL l).length := sumR_all _ (attsFrom_res _ _)
theorem ofL_snoc (k i g : Int) (l : List AtR) (a : AtR) : ofL k i g (l ++ [a]) = if a.k = k ∧ a.i = i ∧ a.g = g then ofL k i g l ++ [a] else ofL k i g l := by
  unfold ofL
  rw [List.filter_append, List.filter_cons, List.filter_nil]
  split
  · rename_i h
    rw [if_pos (same_iff.1 h)]
  · rename_i h
    rw [if_neg (fun h2 => h (same_iff.2 h2)), List.append_nil]
end Go.Proofs.YtinlfheonlpceaaGreatDoor
