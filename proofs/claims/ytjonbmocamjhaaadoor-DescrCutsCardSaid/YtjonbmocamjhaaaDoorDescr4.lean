/- Package descr: a letter's place; strings.Cut at one byte. -/
import Derived.Test.YtjonbmocamjhaaaDoorDescr1
import Derived.Test.YtjonbmocamjhaaaDoorAtoi
namespace Go.Proofs.YtjonbmocamjhaaaDoor
open Go.RowKit

def kIdx (x : UInt8) : Int := if x = 102 then 1 else if x = 98 then 2 else if x = 108 then 3 else -1
set_option maxHeartbeats 2000000 in
set_option maxRecDepth 20000 in
theorem index_c (x : UInt8) (b : Nat) (w : World) (h0 : w.cell? ⟨b, 0, none⟩ = some (.string ⟨#[]⟩)) (h1 : w.cell? ⟨b, 1, none⟩ = some (.string ⟨#[102]⟩)) (h2 : w.cell? ⟨b, 2, none⟩ = some (.string ⟨#[98]⟩)) (h3 : w.cell? ⟨b, 3, none⟩ = some (.string ⟨#[108]⟩)) :
    Ret 54 #[.slice (some ⟨b, 0, none⟩) 4 4, .string ⟨#[x]⟩] w (.int .i64 (kIdx x)) := by
  unfold kIdx
  by_cases e1 : x = 102
  · subst e1
    go_enter Tryd.func54, Tryd.ntmps54
    go_wp2
    go_rounds 5
    go_returns
    exact ⟨rfl, by go_grown⟩
  · by_cases e2 : x = 98
    · subst e2
      go_enter Tryd.func54, Tryd.ntmps54
      go_wp2
      go_rounds 5
      go_returns
      exact ⟨rfl, by go_grown⟩
    · by_cases e3 : x = 108
      · subst e3
        go_enter Tryd.func54, Tryd.ntmps54
        go_wp2
        go_rounds 5
        go_returns
        exact ⟨rfl, by go_grown⟩
      · rw [if_neg e1, if_neg e2, if_neg e3]
        have f1 := beq_eq_false_iff_ne.2 e1
        have f2 := beq_eq_false_iff_ne.2 e2
        have f3 := beq_eq_false_iff_ne.2 e3
        clear e1 e2 e3
        go_enter Tryd.func54, Tryd.ntmps54
        go_wp2
        go_rounds 5
        go_returns
        exact ⟨rfl, by go_grown⟩
theorem cut_c (s : ByteArray) (c : UInt8) (w : World) (hE : Env w) (hs : s.size ≤ 100000) :
    Ret 51 #[.string s, .string ⟨#[c]⟩] w (.tuple #[.string ⟨(Lib.cut s.data.toList [c]).1.toArray⟩, .string ⟨(Lib.cut s.data.toList [c]).2.1.toArray⟩, .bool (Lib.cut s.data.toList [c]).2.2]) :=
  (Tryd.strings_Cut_shaped s ⟨#[c]⟩ w hE.shp (by omega)).mono fun e w' ⟨he, n, hw⟩ => ⟨he, by rw [hw]; exact below_drewN (Below.refl _ _) n⟩
end Go.Proofs.YtjonbmocamjhaaaDoor
