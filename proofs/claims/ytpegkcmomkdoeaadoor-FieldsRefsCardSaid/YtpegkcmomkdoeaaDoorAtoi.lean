/- strconv.Atoi: a number, or an error. -/
import Derived.Test.YtpegkcmomkdoeaaDoorEnv
import Derived.Lib.Walk
import Derived.Lib.ItoaMem
namespace Go.Proofs.YtpegkcmomkdoeaaDoor
open Go.RowKit

theorem atoi_ok (s : ByteArray) (hs : s.size ≤ 100000) (v : Int) (h : Lib.atoiAll s.data.toList = .ok v) (w : World) :
    Ret 54 #[.string s] w (.tuple #[.int .i64 v, .nilIface]) :=
  (Tryd.strconv_Atoi_ok s (by omega) v h w).mono fun e w' ⟨he, hw⟩ => ⟨he, by
    rcases hw with rfl | ⟨t, rfl⟩
    · exact Below.refl _ _
    · exact Lib.bytesWorld_below _ _ _⟩
theorem atoi_bad (s : ByteArray) (hs : s.size ≤ 100000) (h : ∀ v, Lib.atoiAll s.data.toList ≠ .ok v) (w : World) (hE : EnvP w) :
    Calls Tryd.prog 54 #[.string s] w fun e w' => ∃ (n : Int) (N : Nat), e = .returned (.tuple #[.int .i64 n, .iface 138 (.pointer (some ⟨N, 0, none⟩))]) ∧ Below w.heap.size w w' := by
  obtain ⟨tp, p, _, _, _, hsyn⟩ := hE.syn
  obtain ⟨tq, q, _, _, _, hrng⟩ := hE.rng
  cases hp : Lib.atoiAll s.data.toList with
  | ok u => exact absurd hp (h u)
  | range => exact (Any.strconv_Atoi_range_var Tryd.laysC172 s (by omega) hp tq q w hrng).mono fun e w' ⟨N, he, _, _, hb⟩ => ⟨_, N, he, hb⟩
  | _ => exact (Any.strconv_Atoi_syntax_var Tryd.laysC172 s (by omega) hp tp p w hsyn).mono fun e w' ⟨N, he, _, _, hb⟩ => ⟨_, N, he, hb⟩
end Go.Proofs.YtpegkcmomkdoeaaDoor
