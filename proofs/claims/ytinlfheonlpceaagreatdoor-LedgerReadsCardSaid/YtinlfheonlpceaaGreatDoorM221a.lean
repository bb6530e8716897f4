/- LedgerReads walked. -/
import Derived.Test.YtinlfheonlpceaaGreatDoorM211a
import Derived.Test.YtinlfheonlpceaaGreatDoorM61a
namespace Go.Proofs.YtinlfheonlpceaaGreatDoor
open Go.RowKit
set_option linter.unusedVariables false
set_option linter.unusedSimpArgs false
set_option maxHeartbeats 40000000
set_option maxRecDepth 20000
theorem linesA_more : ∀ l : List AtR, l.length ≤ (linesA l).length
  | [] => Nat.zero_le _
  | a :: l => by
    have h1 := linesA_more l
    rw [linesA_cons, List.length_append, List.length_cons, List.length_cons]
    omega
theorem parseA_len (s : List UInt8) : (parseA s).1.length ≤ s.length := by
  rcases hp : parseA s with ⟨l, n, e⟩
  show l.length ≤ s.length
  by_cases he : e = 0
  · subst he
    obtain ⟨_, h2, _⟩ := parse_back hp
    rw [← h2]
    exact linesA_more l
  · have h : l = [] := by
      unfold parseA at hp
      split at hp
      · injection hp with h1 _
        exact h1.symm
      · rcases ledR_err _ [] l n e (cutAll_ne 10 s) hp with h | h
        · exact absurd h he
        · exact h.1
    rw [h]
    exact Nat.zero_le _
theorem reads_walk (s : ByteArray) (w : World) (hE : EnvP w) : Ret 4 #[.string s] w (.bool true) := by
  have HE := Lib.hid hE
  have hc := Below.refl w.heap.size w
  by_cases hbig : (3000 : Int) < s.size
  · clear hE
    go_enter Tryz.func4, Tryz.ntmps4
    go_wp2_with fail
    refine Calls.mono (works _ HE.out) ?_
    rintro e V1 ⟨rfl, hn⟩
    go_wp2_with fail
    go_returns
    exact ⟨rfl, hn⟩
  · have hs : s.size ≤ 3000 := by omega
    have hln := parseA_len s.data.toList
    rw [len_bytes] at hln
    have e1 : (((parseA s.data.toList).2.1 : Int) == ((parseA s.data.toList).2.1 : Int)) = true := by simp
    have e2 : ((parseA s.data.toList).2.2 == (parseA s.data.toList).2.2) = true := by simp
    have CP := Lib.hid (fun W (h : EnvP W) => lparse_c s W h (by omega))
    have CR := Lib.hid (fun W => rparse_c s W)
    unfold ParseP at CP CR
    clear hE
    generalize parseA s.data.toList = R at *
    obtain ⟨l, n, e0⟩ := R
    simp only at hln e1 e2
    go_enter Tryz.func4, Tryz.ntmps4
    go_wp2_with fail
    refine Calls.mono (CP.out _ HE.out) ?_
    rintro e V1 ⟨⟨u, rfl, h1⟩, hn⟩
    replace hc := chain hc hn
    clear hn
    go_wp2_with fail
    refine Calls.mono (CR.out _) ?_
    rintro e V2 ⟨⟨u2, rfl, h2⟩, hn⟩
    replace hc := chain hc hn
    replace h1 := OwnsA.on h1 hn
    clear hn
    go_wp2_with fail
    refine Calls.mono (equal_same _ _ l _ (OwnsA.holds h1) (OwnsA.holds h2) (by omega)) ?_
    rintro e V3 ⟨rfl, hn⟩
    replace hc := chain hc hn
    clear hn h1 h2
    go_wp2_with fail
    refine Calls.mono (works _ (HE.out.on hc)) ?_
    rintro e V4 ⟨rfl, hn⟩
    replace hc := chain hc hn
    go_wp2_with fail
    go_returns
    exact ⟨rfl, hc⟩
end Go.Proofs.YtinlfheonlpceaaGreatDoor
