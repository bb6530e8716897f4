/-
  The statement FieldsRefs of the chapter's package holds: for every input that can be read as data (and in whatever memory), the law returns true and leaves its arguments as they were; the listed variables of the library lie as its own text lays them (the card ties them).
-/
import Derived.Test.YtpegkcmomkdoeaaDoorLaid
import Derived.Test.YtpegkcmomkdoeaaDoorOpen
import Derived.Test.YtpegkcmomkdoeaaDoorRefs13
namespace Go.Proofs.YtpegkcmomkdoeaaDoor.fieldsRefs
open Go.ChangeShapes Go.WideShapes Go.ChangeAt Go.RowKit
open Go.ChangeMaps (open_string shut_string)
set_option maxRecDepth 100000

theorem env {W : World} (h : laidMetH Tryd.prog Rows.fieldsRefsRow.laid W) (hs : W.ShapedOpen Tryd.prog) : EnvP W := env_0 h hs

theorem contract (H : Type) (enc : TypeId × Value → H) (W : World) (base : Nat) (args : Array Value) (ds gs : List (DataW H)) (before : List MemPlace)
    (hval : ∀ (j : Nat) t v, Tryd.f9.params[j]? = some t → args[j]? = some v → Value.okWide Tryd.prog W .any base t v)
    (hW : DataW.Whole enc Tryd.prog Tryd.f9.params.toList Rows.fieldsRefsSpec.vars false W args.toList ds gs before) (hL : laidMetH Tryd.prog Rows.fieldsRefsRow.laid W) (hsh : W.ShapedOpen Tryd.prog) :
    Calls Tryd.prog 9 args W fun e W' => ∃ v, e = .returned v ∧ Rows.fieldsRefsSpec.post enc Tryd.prog Tryd.f9 false true false false W args v W' := by
  have henv := env hL hsh
  have hW' := hW
  obtain ⟨p, q, hA0, hV, rfl, hfz, hnd⟩ := hW
  have hA : DataW.TrodAll enc Tryd.prog W 0 (fun _ => true) true Tryd.f9.params.toList args.toList ds p := hA0
  rw [Tryd.params9] at hA hval
  obtain ⟨v0, vs0, d0, ds0, p0, q0, hargs, rfl, rfl, h0, r0⟩ := trodAll_cons hA
  obtain ⟨v1, vs1, d1, ds1, p1, q1, rfl, rfl, rfl, h1, r1⟩ := trodAll_cons r0
  obtain ⟨v2, vs2, d2, ds2, p2, q2, rfl, rfl, rfl, h2, r2⟩ := trodAll_cons r1
  obtain ⟨rfl, rfl, rfl⟩ := trodAll_nil r2
  obtain rfl : args = #[v0, v1, v2] := by cases args; simp_all
  obtain ⟨rfl, rfl⟩ := trodVars_none hV
  obtain ⟨a0, rfl, -, -, w0⟩ := open_int Tryd.underlying5 (hval 0 5 v0 rfl rfl) h0
  obtain ⟨bl0, bh0⟩ := bounds_u8 w0
  obtain ⟨l1, rfl, hl1_0⟩ := open_arr (ls := [.int .u8, .int .u8, .int .u8, .int .u8]) 8 Tryd.underlying56 (by kernel_rfl) (hval 1 56 v1 rfl rfl) h1
  obtain ⟨_, l1_0, rfl, ⟨a1_0, rfl, w1_0⟩, hl1_1⟩ := OkL_cons hl1_0
  obtain ⟨bl1_0, bh1_0⟩ := bounds_u8 w1_0
  obtain ⟨_, l1_1, rfl, ⟨a1_1, rfl, w1_1⟩, hl1_2⟩ := OkL_cons hl1_1
  obtain ⟨bl1_1, bh1_1⟩ := bounds_u8 w1_1
  obtain ⟨_, l1_2, rfl, ⟨a1_2, rfl, w1_2⟩, hl1_3⟩ := OkL_cons hl1_2
  obtain ⟨bl1_2, bh1_2⟩ := bounds_u8 w1_2
  obtain ⟨_, l1_3, rfl, ⟨a1_3, rfl, w1_3⟩, hl1_4⟩ := OkL_cons hl1_3
  obtain ⟨bl1_3, bh1_3⟩ := bounds_u8 w1_3
  obtain rfl := OkL_nil hl1_4
  obtain ⟨l2, rfl, hl2_0⟩ := open_arr (ls := [.int .u32, .int .u32, .int .u32, .int .u32]) 8 Tryd.underlying57 (by kernel_rfl) (hval 2 57 v2 rfl rfl) h2
  obtain ⟨_, l2_0, rfl, ⟨a2_0, rfl, w2_0⟩, hl2_1⟩ := OkL_cons hl2_0
  obtain ⟨bl2_0, bh2_0⟩ := bounds_u32 w2_0
  obtain ⟨_, l2_1, rfl, ⟨a2_1, rfl, w2_1⟩, hl2_2⟩ := OkL_cons hl2_1
  obtain ⟨bl2_1, bh2_1⟩ := bounds_u32 w2_1
  obtain ⟨_, l2_2, rfl, ⟨a2_2, rfl, w2_2⟩, hl2_3⟩ := OkL_cons hl2_2
  obtain ⟨bl2_2, bh2_2⟩ := bounds_u32 w2_2
  obtain ⟨_, l2_3, rfl, ⟨a2_3, rfl, w2_3⟩, hl2_4⟩ := OkL_cons hl2_3
  obtain ⟨bl2_3, bh2_3⟩ := bounds_u32 w2_3
  obtain rfl := OkL_nil hl2_4
  clear hA0 hA hval
  have hwalk : Ret 9 #[.int .u8 a0, .agg #[.int .u8 a1_0, .int .u8 a1_1, .int .u8 a1_2, .int .u8 a1_3], .agg #[.int .u32 a2_0, .int .u32 a2_1, .int .u32 a2_2, .int .u32 a2_3]] W (.bool true) := by
    apply refs_walk <;> first | exact henv | exact henv.toEnv | assumption | omega
  refine hwalk.mono fun e W' ⟨he, hg⟩ => ?_
  subst he
  refine ⟨_, rfl, _, _, _, [], (p0 ++ (p1 ++ (p2 ++ []))), [], hW', ?_, ?_, rfl, hg.frame _, fun h => by cases h⟩
  · exact trodAll_mk1 (shut_bool Tryd.underlying4 _)
  · exact (trodAll_cons_mk (kept_arg laid_out_b slices_full ⟨of_decide_eq_true (by kernel_rfl), of_decide_eq_true (by kernel_rfl)⟩ (by kernel_rfl) h0 hg) (trodAll_cons_mk (kept_arg laid_out_b slices_full ⟨of_decide_eq_true (by kernel_rfl), of_decide_eq_true (by kernel_rfl)⟩ (by kernel_rfl) h1 hg) (trodAll_cons_mk (kept_arg laid_out_b slices_full ⟨of_decide_eq_true (by kernel_rfl), of_decide_eq_true (by kernel_rfl)⟩ (by kernel_rfl) h2 hg) trodAll_mk0)))

theorem laid_met (os : Os) : laidMet Tryd.prog Rows.fieldsRefsRow.laid ((laidWorld os).forCall (fun _ _ => 0) ⟨#[], #[.int .u8 0, .agg #[.int .u8 0, .int .u8 0, .int .u8 0, .int .u8 0], .agg #[.int .u32 0, .int .u32 0, .int .u32 0, .int .u32 0]], []⟩).memory :=
  laidMet_of_run' 8 (by kernel_rfl) (by kernel_rfl)
theorem reads (os : Os) {H : Type} (enc : TypeId × Value → H) : ∃ places, DataW.whole enc Tryd.prog ((laidWorld os).forCall (fun _ _ => 0) ⟨#[], #[.int .u8 0, .agg #[.int .u8 0, .int .u8 0, .int .u8 0, .int .u8 0], .agg #[.int .u32 0, .int .u32 0, .int .u32 0, .int .u32 0]], []⟩).memory Tryd.f9.params.toList Rows.fieldsRefsSpec.vars false (#[.int .u8 0, .agg #[.int .u8 0, .int .u8 0, .int .u8 0, .int .u8 0], .agg #[.int .u32 0, .int .u32 0, .int .u32 0, .int .u32 0]] : Array Value).toList 8 = some ([.lit (.int .u8 0), .agg [.lit (.int .u8 0), .lit (.int .u8 0), .lit (.int .u8 0), .lit (.int .u8 0)], .agg [.lit (.int .u32 0), .lit (.int .u32 0), .lit (.int .u32 0), .lit (.int .u32 0)]], [], places) :=
  ⟨[], by kernel_rfl⟩
theorem lifted (os : Os) (started : os.Started) (H : Type) (enc : TypeId × Value → H) (F : Stop.Interp) :
    ReturnsInHanded {} Tryd.checked os 9 .any ((OpenSpec.ofChange Rows.fieldsRefsSpec).preRow enc Tryd.prog Tryd.f9 Rows.fieldsRefsRow.domain false Rows.fieldsRefsRow.laid) (((OpenSpec.ofChange Rows.fieldsRefsSpec).at F).post enc Tryd.prog Tryd.f9 false true false false) := by
  obtain ⟨places, hx⟩ := reads os enc
  refine returnsInHanded_of_row (C := Tryd.checked) (s := OpenSpec.ofChange Rows.fieldsRefsSpec) own started (by kernel_rfl) Tryd.func9
    (witness_row_at (enc := enc) (C := Tryd.checked) false (laidWorld os) #[.int .u8 0, .agg #[.int .u8 0, .int .u8 0, .int .u8 0, .int .u8 0], .agg #[.int .u32 0, .int .u32 0, .int .u32 0, .int .u32 0]] rfl (by kernel_rfl) (by kernel_rfl) (by kernel_rfl)
      (OpenSpec.preRow_of_cond 8 hx (by kernel_rfl) (fun k hk => by cases hk) (by kernel_rfl) (laid_met os))) ?_
  intro W base args ds gs before hval hW _ _ _ hL hsh _
  exact contract H enc W base args ds gs before hval hW hL hsh
theorem said : Rows.FieldsRefsSaid :=
  OpenClaim.holds_of_cond 9 Tryd.f9 rfl rfl rfl rfl rfl rfl rfl ⟨rfl, rfl, rfl, rfl, rfl⟩ rfl rfl rfl rfl rfl (by kernel_rfl) Tryd.func9 (by kernel_rfl)
    (of_decide_eq_true (by kernel_rfl)) (by unfold Func.isWrapper; first | (rw [if_pos (by decide +kernel)]; kernel_rfl) | (rw [if_neg (by decide +kernel)]; exact ⟨rfl, rfl⟩))
    (fun os started H enc _ F => by rw [OpenClaim.pre_eq_preRow]; exact lifted os started H enc F)
theorem plain (f : FuncId) (fn : Func) (hf : Tryd.pinned.checked.prog.funcNamed "estray/estraylaw13.FieldsRefs" = some f) (hfn : Tryd.pinned.checked.prog.funcs[f]? = some fn) :
    true = Tryd.pinned.checked.prog.looks [] ∧ ∀ (j : Nat) t, fn.params[j]? = some t → Tryd.pinned.checked.prog.wantsStandIn t = false := by
  obtain rfl : f = 9 := Option.some.inj ((show Tryd.prog.funcNamed "estray/estraylaw13.FieldsRefs" = some 9 by kernel_rfl).symm.trans hf) |>.symm
  obtain rfl : fn = Tryd.f9 := (Option.some.inj (Tryd.func9.symm.trans hfn)).symm
  refine ⟨by kernel_rfl, fun j t ht => ?_⟩
  rw [Tryd.params9] at ht
  have hm := Array.mem_of_getElem? ht
  have hall : (([5, 56, 57] : List Nat).all fun t => Tryd.prog.wantsStandIn t == false) = true := by kernel_rfl
  have hm2 : t ∈ ([5, 56, 57] : List Nat) := by simpa using hm
  exact eq_of_beq (List.all_eq_true.1 hall t hm2)
theorem card : Rows.FieldsRefsCardSaid :=
  Claim7.holds_tied_plain_at .later [] _ _ _ _ said (fun _ h => by cases h) (by kernel_rfl) (fun _ h => by cases h) fieldsRefs_row_tie rfl ⟨rfl, rfl⟩ (by kernel_rfl) rfl plain (by kernel_rfl)
end Go.Proofs.YtpegkcmomkdoeaaDoor.fieldsRefs
