/-
  The statement OpOne of the chapter's package holds: for every input that can be read as data (and in whatever memory), the law returns true and leaves its arguments as they were; the listed variables of the library lie as its own text lays them (the card ties them).
-/
import Derived.Test.YthkngleegefgbaaGreatDoorL0b
import Derived.Test.YthkngleegefgbaaGreatDoorM215a
namespace Go.Proofs.YthkngleegefgbaaGreatDoor.opOne
open Go.ChangeShapes Go.WideShapes Go.ChangeAt Go.RowKit
open Go.ChangeMaps (open_string shut_string)
set_option maxRecDepth 100000

theorem env {W : World} (h : laidMetH Tryz.prog Rows.opOneRow.laid W) (hs : W.ShapedOpen Tryz.prog) : EnvL W := env_0 h hs

theorem contract (H : Type) (enc : TypeId × Value → H) (W : World) (base : Nat) (args : Array Value) (ds gs : List (DataW H)) (before : List MemPlace)
    (hval : ∀ (j : Nat) t v, Tryz.f3.params[j]? = some t → args[j]? = some v → Value.okWide Tryz.prog W .any base t v)
    (hW : DataW.Whole enc Tryz.prog Tryz.f3.params.toList Rows.opOneSpec.vars false W args.toList ds gs before) (hL : laidMetH Tryz.prog Rows.opOneRow.laid W) (hsh : W.ShapedOpen Tryz.prog) :
    Calls Tryz.prog 3 args W fun e W' => ∃ v, e = .returned v ∧ Rows.opOneSpec.post enc Tryz.prog Tryz.f3 false true false false W args v W' := by
  have henv := env hL hsh
  have hW' := hW
  obtain ⟨p, q, hA0, hV, rfl, hfz, hnd⟩ := hW
  have hA : DataW.TrodAll enc Tryz.prog W 0 (fun _ => true) true Tryz.f3.params.toList args.toList ds p := hA0
  rw [Tryz.params3] at hA hval
  obtain ⟨v0, vs0, d0, ds0, p0, q0, hargs, rfl, rfl, h0, r0⟩ := trodAll_cons hA
  obtain ⟨v1, vs1, d1, ds1, p1, q1, rfl, rfl, rfl, h1, r1⟩ := trodAll_cons r0
  obtain ⟨rfl, rfl, rfl⟩ := trodAll_nil r1
  obtain rfl : args = #[v0, v1] := by cases args; simp_all
  obtain ⟨rfl, rfl⟩ := trodVars_none hV
  obtain ⟨l0, rfl, hl0_0⟩ := open_agg (ls := [.int .i64, .int .i64, .int .i64, .int .i64, .int .i64, .str]) 8 Tryz.underlying23 (by kernel_rfl) (hval 0 23 v0 rfl rfl) h0
  obtain ⟨_, l0_0, rfl, ⟨a0_0, rfl, w0_0⟩, hl0_1⟩ := OkL_cons hl0_0
  obtain ⟨bl0_0, bh0_0⟩ := bounds_i64 w0_0
  obtain ⟨_, l0_1, rfl, ⟨a0_1, rfl, w0_1⟩, hl0_2⟩ := OkL_cons hl0_1
  obtain ⟨bl0_1, bh0_1⟩ := bounds_i64 w0_1
  obtain ⟨_, l0_2, rfl, ⟨a0_2, rfl, w0_2⟩, hl0_3⟩ := OkL_cons hl0_2
  obtain ⟨bl0_2, bh0_2⟩ := bounds_i64 w0_2
  obtain ⟨_, l0_3, rfl, ⟨a0_3, rfl, w0_3⟩, hl0_4⟩ := OkL_cons hl0_3
  obtain ⟨bl0_3, bh0_3⟩ := bounds_i64 w0_3
  obtain ⟨_, l0_4, rfl, ⟨a0_4, rfl, w0_4⟩, hl0_5⟩ := OkL_cons hl0_4
  obtain ⟨bl0_4, bh0_4⟩ := bounds_i64 w0_4
  obtain ⟨_, l0_5, rfl, ⟨a0_5, rfl, w0_5⟩, hl0_6⟩ := OkL_cons hl0_5
  obtain rfl := OkL_nil hl0_6
  obtain ⟨a1, rfl, -, -, w1⟩ := open_int Tryz.underlying3 (hval 1 3 v1 rfl rfl) h1
  obtain ⟨bl1, bh1⟩ := bounds_i64 w1
  clear hA0 hA hval
  have hwalk : Ret 3 #[.agg #[.int .i64 a0_0, .int .i64 a0_1, .int .i64 a0_2, .int .i64 a0_3, .int .i64 a0_4, .string a0_5], .int .i64 a1] W (.bool true) := by
    apply one_walk <;> first | exact henv | exact henv.toEnv | assumption | omega
  refine hwalk.mono fun e W' ⟨he, hg⟩ => ?_
  subst he
  refine ⟨_, rfl, _, _, _, [], (p0 ++ (p1 ++ [])), [], hW', ?_, ?_, rfl, hg.frame _, fun h => by cases h⟩
  · exact trodAll_mk1 (shut_bool Tryz.underlying4 _)
  · exact (trodAll_cons_mk (kept_arg laid_out_b slices_full ⟨of_decide_eq_true (by kernel_rfl), of_decide_eq_true (by kernel_rfl)⟩ (by kernel_rfl) h0 hg) (trodAll_cons_mk (kept_arg laid_out_b slices_full ⟨of_decide_eq_true (by kernel_rfl), of_decide_eq_true (by kernel_rfl)⟩ (by kernel_rfl) h1 hg) trodAll_mk0))

theorem laid_met (os : Os) : laidMet Tryz.prog Rows.opOneRow.laid ((laidWorld os).forCall (fun _ _ => 0) ⟨#[], #[.agg #[.int .i64 0, .int .i64 0, .int .i64 0, .int .i64 0, .int .i64 0, .string ⟨#[]⟩], .int .i64 0], []⟩).memory :=
  laidMet_of_run' 8 (by kernel_rfl) (by kernel_rfl)
theorem reads (os : Os) {H : Type} (enc : TypeId × Value → H) : ∃ places, DataW.whole enc Tryz.prog ((laidWorld os).forCall (fun _ _ => 0) ⟨#[], #[.agg #[.int .i64 0, .int .i64 0, .int .i64 0, .int .i64 0, .int .i64 0, .string ⟨#[]⟩], .int .i64 0], []⟩).memory Tryz.f3.params.toList Rows.opOneSpec.vars false (#[.agg #[.int .i64 0, .int .i64 0, .int .i64 0, .int .i64 0, .int .i64 0, .string ⟨#[]⟩], .int .i64 0] : Array Value).toList 8 = some ([.agg [.lit (.int .i64 0), .lit (.int .i64 0), .lit (.int .i64 0), .lit (.int .i64 0), .lit (.int .i64 0), .lit (.string [])], .lit (.int .i64 0)], [], places) :=
  ⟨[], by kernel_rfl⟩
theorem lifted (os : Os) (started : os.Started) (H : Type) (enc : TypeId × Value → H) (F : Stop.Interp) :
    ReturnsInHanded {} Tryz.checked os 3 .any ((OpenSpec.ofChange Rows.opOneSpec).preRow enc Tryz.prog Tryz.f3 Rows.opOneRow.domain false Rows.opOneRow.laid) (((OpenSpec.ofChange Rows.opOneSpec).at F).post enc Tryz.prog Tryz.f3 false true false false) := by
  obtain ⟨places, hx⟩ := reads os enc
  refine returnsInHanded_of_row (C := Tryz.checked) (s := OpenSpec.ofChange Rows.opOneSpec) own started (by kernel_rfl) Tryz.func3
    (witness_row_at (enc := enc) (C := Tryz.checked) false (laidWorld os) #[.agg #[.int .i64 0, .int .i64 0, .int .i64 0, .int .i64 0, .int .i64 0, .string ⟨#[]⟩], .int .i64 0] rfl (by kernel_rfl) (by kernel_rfl) (by kernel_rfl)
      (OpenSpec.preRow_of_cond 8 hx (by kernel_rfl) (fun k hk => by cases hk) (by kernel_rfl) (laid_met os))) ?_
  intro W base args ds gs before hval hW _ _ _ hL hsh _
  exact contract H enc W base args ds gs before hval hW hL hsh
theorem said : Rows.OpOneSaid :=
  OpenClaim.holds_of_cond 3 Tryz.f3 rfl rfl rfl rfl rfl rfl rfl ⟨rfl, rfl, rfl, rfl, rfl⟩ rfl rfl rfl rfl rfl (by kernel_rfl) Tryz.func3 (by kernel_rfl)
    (of_decide_eq_true (by kernel_rfl)) (by unfold Func.isWrapper; first | (rw [if_pos (by decide +kernel)]; kernel_rfl) | (rw [if_neg (by decide +kernel)]; exact ⟨rfl, rfl⟩))
    (fun os started H enc _ F => by rw [OpenClaim.pre_eq_preRow]; exact lifted os started H enc F)
theorem plain (f : FuncId) (fn : Func) (hf : Tryz.pinned.checked.prog.funcNamed "estray/estraylaw39.OpOne" = some f) (hfn : Tryz.pinned.checked.prog.funcs[f]? = some fn) :
    true = Tryz.pinned.checked.prog.looks [] ∧ ∀ (j : Nat) t, fn.params[j]? = some t → Tryz.pinned.checked.prog.wantsStandIn t = false := by
  obtain rfl : f = 3 := Option.some.inj ((show Tryz.prog.funcNamed "estray/estraylaw39.OpOne" = some 3 by kernel_rfl).symm.trans hf) |>.symm
  obtain rfl : fn = Tryz.f3 := (Option.some.inj (Tryz.func3.symm.trans hfn)).symm
  refine ⟨by kernel_rfl, fun j t ht => ?_⟩
  rw [Tryz.params3] at ht
  have hm := Array.mem_of_getElem? ht
  have hall : (([23, 3] : List Nat).all fun t => Tryz.prog.wantsStandIn t == false) = true := by kernel_rfl
  have hm2 : t ∈ ([23, 3] : List Nat) := by simpa using hm
  exact eq_of_beq (List.all_eq_true.1 hall t hm2)
theorem card : Rows.OpOneCardSaid :=
  Claim7.holds_tied_plain_at .later [] _ _ _ _ said (fun _ h => by cases h) (by kernel_rfl) (fun _ h => by cases h) opOne_row_tie rfl ⟨rfl, rfl⟩ (by kernel_rfl) rfl plain (by kernel_rfl)
end Go.Proofs.YthkngleegefgbaaGreatDoor.opOne
