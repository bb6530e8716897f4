/-
  The statement OpBack of the chapter's package holds: for every input that can be read as data (and in whatever memory), the law returns true and leaves its arguments as they were; the listed variables of the library lie as its own text lays them (the card ties them).
-/
import Derived.Test.YtbbleafcflhmiaaDoorL0a
import Derived.Test.YtbbleafcflhmiaaDoorM125a
namespace Go.Proofs.YtbbleafcflhmiaaDoor.opBack
open Go.ChangeShapes Go.WideShapes Go.ChangeAt Go.RowKit
open Go.ChangeMaps (open_string shut_string)
set_option maxRecDepth 100000

theorem env {W : World} (h : laidMetH Tryd.prog Rows.opBackRow.laid W) (hs : W.ShapedOpen Tryd.prog) : EnvL W := env_0 h hs

theorem contract (H : Type) (enc : TypeId × Value → H) (W : World) (base : Nat) (args : Array Value) (ds gs : List (DataW H)) (before : List MemPlace)
    (hval : ∀ (j : Nat) t v, Tryd.f4.params[j]? = some t → args[j]? = some v → Value.okWide Tryd.prog W .any base t v)
    (hW : DataW.Whole enc Tryd.prog Tryd.f4.params.toList Rows.opBackSpec.vars false W args.toList ds gs before) (hL : laidMetH Tryd.prog Rows.opBackRow.laid W) (hsh : W.ShapedOpen Tryd.prog) :
    Calls Tryd.prog 4 args W fun e W' => ∃ v, e = .returned v ∧ Rows.opBackSpec.post enc Tryd.prog Tryd.f4 false true false false W args v W' := by
  have henv := env hL hsh
  have hW' := hW
  obtain ⟨p, q, hA0, hV, rfl, hfz, hnd⟩ := hW
  have hA : DataW.TrodAll enc Tryd.prog W 0 (fun _ => true) true Tryd.f4.params.toList args.toList ds p := hA0
  rw [Tryd.params4] at hA hval
  obtain ⟨v0, vs0, d0, ds0, p0, q0, hargs, rfl, rfl, h0, r0⟩ := trodAll_cons hA
  obtain ⟨v1, vs1, d1, ds1, p1, q1, rfl, rfl, rfl, h1, r1⟩ := trodAll_cons r0
  obtain ⟨v2, vs2, d2, ds2, p2, q2, rfl, rfl, rfl, h2, r2⟩ := trodAll_cons r1
  obtain ⟨rfl, rfl, rfl⟩ := trodAll_nil r2
  obtain rfl : args = #[v0, v1, v2] := by cases args; simp_all
  obtain ⟨rfl, rfl⟩ := trodVars_none hV
  obtain ⟨l0, rfl, hl0_0⟩ := open_agg (ls := [.int .u8, .int .u8, .int .u8, .int .u32, .int .u32, .int .u32]) 8 Tryd.underlying24 (by kernel_rfl) (hval 0 24 v0 rfl rfl) h0
  obtain ⟨_, l0_0, rfl, ⟨a0_0, rfl, w0_0⟩, hl0_1⟩ := OkL_cons hl0_0
  obtain ⟨bl0_0, bh0_0⟩ := bounds_u8 w0_0
  obtain ⟨_, l0_1, rfl, ⟨a0_1, rfl, w0_1⟩, hl0_2⟩ := OkL_cons hl0_1
  obtain ⟨bl0_1, bh0_1⟩ := bounds_u8 w0_1
  obtain ⟨_, l0_2, rfl, ⟨a0_2, rfl, w0_2⟩, hl0_3⟩ := OkL_cons hl0_2
  obtain ⟨bl0_2, bh0_2⟩ := bounds_u8 w0_2
  obtain ⟨_, l0_3, rfl, ⟨a0_3, rfl, w0_3⟩, hl0_4⟩ := OkL_cons hl0_3
  obtain ⟨bl0_3, bh0_3⟩ := bounds_u32 w0_3
  obtain ⟨_, l0_4, rfl, ⟨a0_4, rfl, w0_4⟩, hl0_5⟩ := OkL_cons hl0_4
  obtain ⟨bl0_4, bh0_4⟩ := bounds_u32 w0_4
  obtain ⟨_, l0_5, rfl, ⟨a0_5, rfl, w0_5⟩, hl0_6⟩ := OkL_cons hl0_5
  obtain ⟨bl0_5, bh0_5⟩ := bounds_u32 w0_5
  obtain rfl := OkL_nil hl0_6
  obtain ⟨l1, rfl, hl1_0⟩ := open_agg (ls := [.int .u8, .int .u8, .int .u8, .int .u32, .int .u32, .int .u32]) 8 Tryd.underlying24 (by kernel_rfl) (hval 1 24 v1 rfl rfl) h1
  obtain ⟨_, l1_0, rfl, ⟨a1_0, rfl, w1_0⟩, hl1_1⟩ := OkL_cons hl1_0
  obtain ⟨bl1_0, bh1_0⟩ := bounds_u8 w1_0
  obtain ⟨_, l1_1, rfl, ⟨a1_1, rfl, w1_1⟩, hl1_2⟩ := OkL_cons hl1_1
  obtain ⟨bl1_1, bh1_1⟩ := bounds_u8 w1_1
  obtain ⟨_, l1_2, rfl, ⟨a1_2, rfl, w1_2⟩, hl1_3⟩ := OkL_cons hl1_2
  obtain ⟨bl1_2, bh1_2⟩ := bounds_u8 w1_2
  obtain ⟨_, l1_3, rfl, ⟨a1_3, rfl, w1_3⟩, hl1_4⟩ := OkL_cons hl1_3
  obtain ⟨bl1_3, bh1_3⟩ := bounds_u32 w1_3
  obtain ⟨_, l1_4, rfl, ⟨a1_4, rfl, w1_4⟩, hl1_5⟩ := OkL_cons hl1_4
  obtain ⟨bl1_4, bh1_4⟩ := bounds_u32 w1_4
  obtain ⟨_, l1_5, rfl, ⟨a1_5, rfl, w1_5⟩, hl1_6⟩ := OkL_cons hl1_5
  obtain ⟨bl1_5, bh1_5⟩ := bounds_u32 w1_5
  obtain rfl := OkL_nil hl1_6
  obtain ⟨a2, rfl, -, -, w2⟩ := open_string Tryd.underlying9 (hval 2 9 v2 rfl rfl) h2
  clear hA0 hA hval
  have hwalk : Ret 4 #[.agg #[.int .u8 a0_0, .int .u8 a0_1, .int .u8 a0_2, .int .u32 a0_3, .int .u32 a0_4, .int .u32 a0_5], .agg #[.int .u8 a1_0, .int .u8 a1_1, .int .u8 a1_2, .int .u32 a1_3, .int .u32 a1_4, .int .u32 a1_5], .string a2] W (.bool true) := by
    apply back_walk <;> first | exact henv | exact henv.toEnv | assumption | omega
  refine hwalk.mono fun e W' ⟨he, hg⟩ => ?_
  subst he
  refine ⟨_, rfl, _, _, _, [], (p0 ++ (p1 ++ (p2 ++ []))), [], hW', ?_, ?_, rfl, hg.frame _, fun h => by cases h⟩
  · exact trodAll_mk1 (shut_bool Tryd.underlying4 _)
  · exact (trodAll_cons_mk (kept_arg laid_out_b slices_full ⟨of_decide_eq_true (by kernel_rfl), of_decide_eq_true (by kernel_rfl)⟩ (by kernel_rfl) h0 hg) (trodAll_cons_mk (kept_arg laid_out_b slices_full ⟨of_decide_eq_true (by kernel_rfl), of_decide_eq_true (by kernel_rfl)⟩ (by kernel_rfl) h1 hg) (trodAll_cons_mk (kept_arg laid_out_b slices_full ⟨of_decide_eq_true (by kernel_rfl), of_decide_eq_true (by kernel_rfl)⟩ (by kernel_rfl) h2 hg) trodAll_mk0)))

theorem laid_met (os : Os) : laidMet Tryd.prog Rows.opBackRow.laid ((laidWorld os).forCall (fun _ _ => 0) ⟨#[], #[.agg #[.int .u8 0, .int .u8 0, .int .u8 0, .int .u32 0, .int .u32 0, .int .u32 0], .agg #[.int .u8 0, .int .u8 0, .int .u8 0, .int .u32 0, .int .u32 0, .int .u32 0], .string ⟨#[]⟩], []⟩).memory :=
  laidMet_of_run' 8 (by kernel_rfl) (by kernel_rfl)
theorem reads (os : Os) {H : Type} (enc : TypeId × Value → H) : ∃ places, DataW.whole enc Tryd.prog ((laidWorld os).forCall (fun _ _ => 0) ⟨#[], #[.agg #[.int .u8 0, .int .u8 0, .int .u8 0, .int .u32 0, .int .u32 0, .int .u32 0], .agg #[.int .u8 0, .int .u8 0, .int .u8 0, .int .u32 0, .int .u32 0, .int .u32 0], .string ⟨#[]⟩], []⟩).memory Tryd.f4.params.toList Rows.opBackSpec.vars false (#[.agg #[.int .u8 0, .int .u8 0, .int .u8 0, .int .u32 0, .int .u32 0, .int .u32 0], .agg #[.int .u8 0, .int .u8 0, .int .u8 0, .int .u32 0, .int .u32 0, .int .u32 0], .string ⟨#[]⟩] : Array Value).toList 8 = some ([.agg [.lit (.int .u8 0), .lit (.int .u8 0), .lit (.int .u8 0), .lit (.int .u32 0), .lit (.int .u32 0), .lit (.int .u32 0)], .agg [.lit (.int .u8 0), .lit (.int .u8 0), .lit (.int .u8 0), .lit (.int .u32 0), .lit (.int .u32 0), .lit (.int .u32 0)], .lit (.string [])], [], places) :=
  ⟨[], by kernel_rfl⟩
theorem lifted (os : Os) (started : os.Started) (H : Type) (enc : TypeId × Value → H) (F : Stop.Interp) :
    ReturnsInHanded {} Tryd.checked os 4 .any ((OpenSpec.ofChange Rows.opBackSpec).preRow enc Tryd.prog Tryd.f4 Rows.opBackRow.domain false Rows.opBackRow.laid) (((OpenSpec.ofChange Rows.opBackSpec).at F).post enc Tryd.prog Tryd.f4 false true false false) := by
  obtain ⟨places, hx⟩ := reads os enc
  refine returnsInHanded_of_row (C := Tryd.checked) (s := OpenSpec.ofChange Rows.opBackSpec) own started (by kernel_rfl) Tryd.func4
    (witness_row_at (enc := enc) (C := Tryd.checked) false (laidWorld os) #[.agg #[.int .u8 0, .int .u8 0, .int .u8 0, .int .u32 0, .int .u32 0, .int .u32 0], .agg #[.int .u8 0, .int .u8 0, .int .u8 0, .int .u32 0, .int .u32 0, .int .u32 0], .string ⟨#[]⟩] rfl (by kernel_rfl) (by kernel_rfl) (by kernel_rfl)
      (OpenSpec.preRow_of_cond 8 hx (by kernel_rfl) (fun k hk => by cases hk) (by kernel_rfl) (laid_met os))) ?_
  intro W base args ds gs before hval hW _ _ _ hL hsh _
  exact contract H enc W base args ds gs before hval hW hL hsh
theorem said : Rows.OpBackSaid :=
  OpenClaim.holds_of_cond 4 Tryd.f4 rfl rfl rfl rfl rfl rfl rfl ⟨rfl, rfl, rfl, rfl, rfl⟩ rfl rfl rfl rfl rfl (by kernel_rfl) Tryd.func4 (by kernel_rfl)
    (of_decide_eq_true (by kernel_rfl)) (by unfold Func.isWrapper; first | (rw [if_pos (by decide +kernel)]; kernel_rfl) | (rw [if_neg (by decide +kernel)]; exact ⟨rfl, rfl⟩))
    (fun os started H enc _ F => by rw [OpenClaim.pre_eq_preRow]; exact lifted os started H enc F)
theorem plain (f : FuncId) (fn : Func) (hf : Tryd.pinned.checked.prog.funcNamed "estray/estraylaw39.OpBack" = some f) (hfn : Tryd.pinned.checked.prog.funcs[f]? = some fn) :
    true = Tryd.pinned.checked.prog.looks [] ∧ ∀ (j : Nat) t, fn.params[j]? = some t → Tryd.pinned.checked.prog.wantsStandIn t = false := by
  obtain rfl : f = 4 := Option.some.inj ((show Tryd.prog.funcNamed "estray/estraylaw39.OpBack" = some 4 by kernel_rfl).symm.trans hf) |>.symm
  obtain rfl : fn = Tryd.f4 := (Option.some.inj (Tryd.func4.symm.trans hfn)).symm
  refine ⟨by kernel_rfl, fun j t ht => ?_⟩
  rw [Tryd.params4] at ht
  have hm := Array.mem_of_getElem? ht
  have hall : (([24, 24, 9] : List Nat).all fun t => Tryd.prog.wantsStandIn t == false) = true := by kernel_rfl
  have hm2 : t ∈ ([24, 24, 9] : List Nat) := by simpa using hm
  exact eq_of_beq (List.all_eq_true.1 hall t hm2)
theorem card : Rows.OpBackCardSaid :=
  Claim7.holds_tied_plain_at .later [] _ _ _ _ said (fun _ h => by cases h) (by kernel_rfl) (fun _ h => by cases h) opBack_row_tie rfl ⟨rfl, rfl⟩ (by kernel_rfl) rfl plain (by kernel_rfl)
end Go.Proofs.YtbbleafcflhmiaaDoor.opBack
