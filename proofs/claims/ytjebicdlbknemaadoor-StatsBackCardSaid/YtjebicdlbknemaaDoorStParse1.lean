/- stats.Parse: the contract. -/
import Derived.Test.YtjebicdlbknemaaDoorStText2
import Derived.Test.YtjebicdlbknemaaDoorSplit
import Derived.Test.YtjebicdlbknemaaDoorAtoi
import Derived.Test.YtjebicdlbknemaaDoorKeep
import Derived.Test.YtjebicdlbknemaaDoorWorks37
namespace Go.Proofs.YtjebicdlbknemaaDoor
open Go.RowKit
set_option linter.unusedVariables false
set_option linter.unusedSimpArgs false

theorem split_c (x : ByteArray) (hs : x.size ≤ 100000) (w : World) (hE : Env w) :
    Calls Tryd.prog 23 #[.string x, .string ⟨#[32]⟩] w fun e w' => e = .returned (.slice (some ⟨w.heap.size, 0, none⟩) (cutAll 32 x.data.toList).length (cutAll 32 x.data.toList).length) ∧
      w' = w.alloc (.cells ((cutAll 32 x.data.toList).map fun l => Value.string ⟨l.toArray⟩).toArray 9) := by
  have h := Tryd.strings_Split_shaped x ⟨#[32]⟩ w hE.shp (by omega) (by decide)
  obtain ⟨e1, e2⟩ := splitB_cutAll 32 x.size x (Nat.le_refl _)
  rw [e2] at h
  have e3 : (Lib.splitB ⟨#[32]⟩ 0 (Lib.countB x ⟨#[32]⟩) x).map Value.string = (cutAll 32 x.data.toList).map fun l => Value.string ⟨l.toArray⟩ := by
    rw [← e1, List.map_map]
    rfl
  rw [e3] at h
  exact h
/-- The number that stands at place j of the words, and whether there is one. -/
def av (it : List (List UInt8)) (j : Nat) : Int := match Lib.atoiAll (it.getD (2 * j + 1) []) with
  | .ok v => v
  | _ => 0
def good (it : List (List UInt8)) (j : Nat) : Prop := ∃ v, Lib.atoiAll (it.getD (2 * j + 1) []) = .ok v
theorem av_good {it : List (List UInt8)} {j : Nat} (h : good it j) : Lib.atoiAll (it.getD (2 * j + 1) []) = .ok (av it j) := by
  obtain ⟨v, hv⟩ := h
  unfold av
  rw [hv]
theorem cutAll_size (c : UInt8) (l : List UInt8) : ∀ x ∈ cutAll c l, x.length ≤ l.length := by
  induction l with
  | nil => simp [cutAll]
  | cons b l ih =>
    rw [cutAll_cons]
    split
    · intro x hx
      rcases List.mem_cons.1 hx with rfl | hx
      · simp
      · have := ih x hx; simp; omega
    · cases hc : cutAll c l with
      | nil => exact absurd hc (cutAll_ne c l)
      | cons h t =>
        intro x hx
        rw [hc] at ih
        rcases List.mem_cons.1 hx with rfl | hx
        · have := ih h (by simp); simp; omega
        · have := ih x (by simp [hx]); simp; omega
theorem sparse_len (x : ByteArray) (hs : x.size ≤ 100000) (w : World) (hE : EnvP w) (hn : (cutAll 32 x.data.toList).length ≠ 10) :
    Ret 21 #[.string x] w (.tuple #[stV 0 0 0 0 0, .int .i64 9]) := by
  have hsp := fun w hE => split_c x hs w hE
  generalize cutAll 32 x.data.toList = it at hsp hn
  have e : ((it.length : Int) == 10) = false := by rw [beq_eq_false_iff_ne]; omega
  have e' : ((it.length : Int) != 10) = true := by rw [bne, e]; rfl
  have HS := Lib.hid hsp
  clear hsp hn
  go_enter Tryd.func21, Tryd.ntmps21
  go_wp2_with fail
  refine (HS.out _ (hE.toEnv.on (by go_grown))).mono ?_
  rintro e w1 ⟨rfl, rfl⟩
  go_wp2_with fail
  refine bodyPost_ret (v := .tuple #[stV 0 0 0 0 0, .int .i64 9]) (by simp [results, Tryd.results21, go_sem]) rfl ⟨rfl, ?_⟩
  go_grown
end Go.Proofs.YtjebicdlbknemaaDoor
