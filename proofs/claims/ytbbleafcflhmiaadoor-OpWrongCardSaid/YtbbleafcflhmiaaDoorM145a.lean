/- OpWrong walked. -/
import Derived.Test.YtbbleafcflhmiaaDoorM144a
import Derived.Test.YtbbleafcflhmiaaDoorHWorks39
import Derived.Deep.DeepCutAuto
import Derived.Deep.CutBlock
namespace Go.Proofs.YtbbleafcflhmiaaDoor
open Go.RowKit
set_option linter.unusedVariables false
set_option linter.unusedSimpArgs false
set_option maxHeartbeats 40000000
set_option maxRecDepth 20000
/-- A line that is wrong. -/
structure Wr (s : ByteArray) : Prop where
  nl : (10 : UInt8) ∉ s.data.toList
  sk : skipL s.data.toList = false
  rd : readC s.data.toList = none
  sz : s.size ≤ 30
theorem wr_of (l : List UInt8) (h1 : (10 : UInt8) ∉ l) (h2 : skipL l = false) (h3 : readC l = none) (h4 : l.length ≤ 30) : Wr ⟨l.toArray⟩ := by
  refine ⟨by simpa using h1, by simpa using h2, by simpa using h3, ?_⟩
  show l.toArray.size ≤ 30
  simpa using h4
theorem take_holds {b : Nat} {W : World} {a : Option Addr} {n c : Nat} {l : List OpR} (h : OwnsO b W (.slice a n c) l) (K : Nat) (hK : K ≤ l.length) : HoldsO W (.slice a K c) (l.take K) := by
  have h0 := h.holds
  rcases h0 with ⟨h1, h2⟩ | ⟨g, o, c', h1, h2⟩
  · injection h1 with h3 h4 h5
    subst h2 h3 h5
    obtain rfl : K = 0 := by simpa using hK
    exact .inl ⟨rfl, rfl⟩
  · injection h1 with h3 h4 h5
    subst h3 h5
    refine .inr ⟨g, o, c, by rw [List.length_take, Nat.min_eq_left hK], fun j r hj => ?_⟩
    rw [List.getElem?_take] at hj
    split at hj
    · exact h2 j r hj
    · cases hj
theorem cap_of {b : Nat} {W : World} {a : Option Addr} {n c : Nat} {l : List OpR} (h : OwnsO b W (.slice a n c) l) : l.length ≤ c ∧ c ≤ 9223372036854775807 := by
  rcases h.2 with ⟨h1, h2⟩ | ⟨g, cap, cur, h1, h2, h3, h4, h5, h6⟩
  · injection h1 with _ _ h3
    omega
  · injection h1 with h7 h8 h9
    subst h9
    refine ⟨h4, ?_⟩
    unfold maxLen at h5
    omega
theorem all_take {l : List OpR} (h : l.all okR = true) (K : Nat) : (l.take K).all okR = true := by
  rw [List.all_eq_true] at h ⊢
  exact fun x hx => h x (List.mem_of_mem_take hx)
theorem wr_0 : Wr ⟨#[110, 101, 119, 32, 52, 32, 48]⟩ := wr_of [110, 101, 119, 32, 52, 32, 48] (by decide) (by decide) (by decide) (by decide)
theorem wr_1 : Wr ⟨#[110, 101, 119, 32, 48, 32, 53]⟩ := wr_of [110, 101, 119, 32, 48, 32, 53] (by decide) (by decide) (by decide) (by decide)
theorem wr_2 : Wr ⟨#[110, 101, 119, 32, 48, 32, 48, 53]⟩ := wr_of [110, 101, 119, 32, 48, 32, 48, 53] (by decide) (by decide) (by decide) (by decide)
theorem wr_3 : Wr ⟨#[110, 101, 119, 32, 32, 48, 32, 51]⟩ := wr_of [110, 101, 119, 32, 32, 48, 32, 51] (by decide) (by decide) (by decide) (by decide)
theorem wr_4 : Wr ⟨#[110, 101, 119, 32, 48, 32, 51, 32]⟩ := wr_of [110, 101, 119, 32, 48, 32, 51, 32] (by decide) (by decide) (by decide) (by decide)
theorem wr_5 : Wr ⟨#[32, 98, 97, 116, 99, 104]⟩ := wr_of [32, 98, 97, 116, 99, 104] (by decide) (by decide) (by decide) (by decide)
theorem wr_6 : Wr ⟨#[98, 97, 116, 99, 104, 32, 48]⟩ := wr_of [98, 97, 116, 99, 104, 32, 48] (by decide) (by decide) (by decide) (by decide)
theorem wr_7 : Wr ⟨#[97, 110, 115, 119, 101, 114]⟩ := wr_of [97, 110, 115, 119, 101, 114] (by decide) (by decide) (by decide) (by decide)
theorem wr_8 : Wr ⟨#[97, 110, 115, 119, 101, 114, 32, 120]⟩ := wr_of [97, 110, 115, 119, 101, 114, 32, 120] (by decide) (by decide) (by decide) (by decide)
theorem wr_9 : Wr ⟨#[116, 105, 99, 107, 32, 48]⟩ := wr_of [116, 105, 99, 107, 32, 48] (by decide) (by decide) (by decide) (by decide)
theorem wr_10 : Wr ⟨#[109, 97, 114, 107, 32, 49, 48, 48, 48, 49]⟩ := wr_of [109, 97, 114, 107, 32, 49, 48, 48, 48, 49] (by decide) (by decide) (by decide) (by decide)
theorem wr_11 : Wr ⟨#[111, 112, 101, 110, 32, 48, 32, 102, 32, 53, 32, 97]⟩ := wr_of [111, 112, 101, 110, 32, 48, 32, 102, 32, 53, 32, 97] (by decide) (by decide) (by decide) (by decide)
theorem wr_12 : Wr ⟨#[111, 112, 101, 110, 32, 48, 32, 120, 32, 53, 32, 34, 97, 34]⟩ := wr_of [111, 112, 101, 110, 32, 48, 32, 120, 32, 53, 32, 34, 97, 34] (by decide) (by decide) (by decide) (by decide)
theorem wr_13 : Wr ⟨#[111, 112, 101, 110, 32, 48, 32, 102, 32, 53, 32, 34, 34]⟩ := wr_of [111, 112, 101, 110, 32, 48, 32, 102, 32, 53, 32, 34, 34] (by decide) (by decide) (by decide) (by decide)
theorem wr_14 : Wr ⟨#[115, 116, 111, 114, 101, 32, 48, 32, 49, 32, 50, 32, 45, 48]⟩ := wr_of [115, 116, 111, 114, 101, 32, 48, 32, 49, 32, 50, 32, 45, 48] (by decide) (by decide) (by decide) (by decide)
theorem wr_15 : Wr ⟨#[112, 117, 116, 32, 48, 32, 45, 50, 32, 49]⟩ := wr_of [112, 117, 116, 32, 48, 32, 45, 50, 32, 49] (by decide) (by decide) (by decide) (by decide)
theorem wr_16 : Wr ⟨#[103, 101, 116, 32, 48, 32, 56]⟩ := wr_of [103, 101, 116, 32, 48, 32, 56] (by decide) (by decide) (by decide) (by decide)
theorem wr_17 : Wr ⟨#[108, 111, 97, 100, 32, 48, 32, 51, 50, 32, 48]⟩ := wr_of [108, 111, 97, 100, 32, 48, 32, 51, 50, 32, 48] (by decide) (by decide) (by decide) (by decide)
theorem wr_18 : Wr ⟨#[117, 115, 101, 32, 48, 32, 50, 48, 48, 48]⟩ := wr_of [117, 115, 101, 32, 48, 32, 50, 48, 48, 48] (by decide) (by decide) (by decide) (by decide)
theorem wr_19 : Wr ⟨#[114, 101, 110, 101, 119, 32, 48, 32, 52, 32, 48]⟩ := wr_of [114, 101, 110, 101, 119, 32, 48, 32, 52, 32, 48] (by decide) (by decide) (by decide) (by decide)
theorem wr_20 : Wr ⟨#[99, 108, 111, 115, 101, 32, 48]⟩ := wr_of [99, 108, 111, 115, 101, 32, 48] (by decide) (by decide) (by decide) (by decide)
theorem wr_21 : Wr ⟨#[120]⟩ := wr_of [120] (by decide) (by decide) (by decide) (by decide)
theorem wr_22 : Wr ⟨#[66, 97, 116, 99, 104]⟩ := wr_of [66, 97, 116, 99, 104] (by decide) (by decide) (by decide) (by decide)
theorem wr_23 : Wr ⟨#[99, 121, 99, 108, 101, 13]⟩ := wr_of [99, 121, 99, 108, 101, 13] (by decide) (by decide) (by decide) (by decide)
theorem bad_at (J : Nat) (hJ : J < 24) : ∃ bd, Wr bd ∧ (#[.string ⟨#[110, 101, 119, 32, 52, 32, 48]⟩, .string ⟨#[110, 101, 119, 32, 48, 32, 53]⟩, .string ⟨#[110, 101, 119, 32, 48, 32, 48, 53]⟩, .string ⟨#[110, 101, 119, 32, 32, 48, 32, 51]⟩, .string ⟨#[110, 101, 119, 32, 48, 32, 51, 32]⟩, .string ⟨#[32, 98, 97, 116, 99, 104]⟩, .string ⟨#[98, 97, 116, 99, 104, 32, 48]⟩, .string ⟨#[97, 110, 115, 119, 101, 114]⟩, .string ⟨#[97, 110, 115, 119, 101, 114, 32, 120]⟩, .string ⟨#[116, 105, 99, 107, 32, 48]⟩, .string ⟨#[109, 97, 114, 107, 32, 49, 48, 48, 48, 49]⟩, .string ⟨#[111, 112, 101, 110, 32, 48, 32, 102, 32, 53, 32, 97]⟩, .string ⟨#[111, 112, 101, 110, 32, 48, 32, 120, 32, 53, 32, 34, 97, 34]⟩, .string ⟨#[111, 112, 101, 110, 32, 48, 32, 102, 32, 53, 32, 34, 34]⟩, .string ⟨#[115, 116, 111, 114, 101, 32, 48, 32, 49, 32, 50, 32, 45, 48]⟩, .string ⟨#[112, 117, 116, 32, 48, 32, 45, 50, 32, 49]⟩, .string ⟨#[103, 101, 116, 32, 48, 32, 56]⟩, .string ⟨#[108, 111, 97, 100, 32, 48, 32, 51, 50, 32, 48]⟩, .string ⟨#[117, 115, 101, 32, 48, 32, 50, 48, 48, 48]⟩, .string ⟨#[114, 101, 110, 101, 119, 32, 48, 32, 52, 32, 48]⟩, .string ⟨#[99, 108, 111, 115, 101, 32, 48]⟩, .string ⟨#[120]⟩, .string ⟨#[66, 97, 116, 99, 104]⟩, .string ⟨#[99, 121, 99, 108, 101, 13]⟩] : Array Value)[J]? = some (.string bd) := by
  match J, hJ with
  | 0, _ => exact ⟨_, wr_0, rfl⟩
  | 1, _ => exact ⟨_, wr_1, rfl⟩
  | 2, _ => exact ⟨_, wr_2, rfl⟩
  | 3, _ => exact ⟨_, wr_3, rfl⟩
  | 4, _ => exact ⟨_, wr_4, rfl⟩
  | 5, _ => exact ⟨_, wr_5, rfl⟩
  | 6, _ => exact ⟨_, wr_6, rfl⟩
  | 7, _ => exact ⟨_, wr_7, rfl⟩
  | 8, _ => exact ⟨_, wr_8, rfl⟩
  | 9, _ => exact ⟨_, wr_9, rfl⟩
  | 10, _ => exact ⟨_, wr_10, rfl⟩
  | 11, _ => exact ⟨_, wr_11, rfl⟩
  | 12, _ => exact ⟨_, wr_12, rfl⟩
  | 13, _ => exact ⟨_, wr_13, rfl⟩
  | 14, _ => exact ⟨_, wr_14, rfl⟩
  | 15, _ => exact ⟨_, wr_15, rfl⟩
  | 16, _ => exact ⟨_, wr_16, rfl⟩
  | 17, _ => exact ⟨_, wr_17, rfl⟩
  | 18, _ => exact ⟨_, wr_18, rfl⟩
  | 19, _ => exact ⟨_, wr_19, rfl⟩
  | 20, _ => exact ⟨_, wr_20, rfl⟩
  | 21, _ => exact ⟨_, wr_21, rfl⟩
  | 22, _ => exact ⟨_, wr_22, rfl⟩
  | 23, _ => exact ⟨_, wr_23, rfl⟩
  | J + 24, h => exact absurd h (by omega)
theorem wrong_walk (v : Value) (n : Nat) (E : Nat → List Value) (at_ wh : Int) (more : ByteArray) (w : World) (hsl : Sl w v leavesN n E) (hE : EnvL w) (a0 : 0 ≤ at_) (a1 : at_ ≤ 255) (h0 : 0 ≤ wh) (h1 : wh ≤ 255) :
    Ret 5 #[v, .int .u8 at_, .int .u8 wh, .string more] w (.bool true) := by
  have HE := Lib.hid hE
  have SC := Lib.hid (script_c v n E w hsl)
  clear hE hsl
  have hc := Below.refl w.heap.size w
  by_cases hlong : (200 : Int) < more.size
  · go_enter Tryd.func5, Tryd.ntmps5
    go_wp2_with fail
    refine Calls.mono (works _ (HE.out.on hc)) ?_
    rintro e V1 ⟨rfl, hn⟩
    replace hc := chain hc hn
    go_wp2_with fail
    go_returns
    exact ⟨rfl, hc⟩
  have q1 : IntKind.i64.wrap at_ = at_ := IntWalk.i64_in _ ⟨by omega, by omega⟩
  have hms : more.size ≤ 200 := by omega
  go_enter Tryd.func5, Tryd.ntmps5
  go_wp2_with fail
  refine Calls.mono (SC.out) ?_
  rintro e V1 ⟨⟨u, l, rfl, ho, hall, hl⟩, hn⟩
  clear SC
  replace hc := chain hc hn
  clear hn
  obtain ⟨g0, c0, rfl⟩ := ownsRow_len ho
  obtain ⟨hcap, hcap2⟩ := cap_of ho
  have x1 : wrap64 ((l.length : Int) + 1) = (l.length : Int) + 1 := IntWalk.wrap64_in _ ⟨by omega, by omega⟩
  have x2 : (((l.length : Int) + 1) == 0) = false := by rw [beq_eq_false_iff_ne]; omega
  have x3 : ¬ ((l.length : Int) + 1 = 0) := by omega
  obtain ⟨K, hK, hK2⟩ : ∃ K : Nat, K ≤ l.length ∧ at_ % ((l.length : Int) + 1) = K := ⟨(at_ % ((l.length : Int) + 1)).toNat, by have := Int.emod_nonneg at_ (show ((l.length : Int) + 1) ≠ 0 by omega); have := Int.emod_lt_of_pos at_ (show 0 < ((l.length : Int) + 1) by omega); omega, by have := Int.emod_nonneg at_ (show ((l.length : Int) + 1) ≠ 0 by omega); omega⟩
  have hk3 : wrap64 (at_.tmod ((l.length : Int) + 1)) = K := by rw [Int.tmod_eq_emod_of_nonneg a0, hK2]; exact IntWalk.wrap64_in _ ⟨by omega, by omega⟩
  have hk4 : at_.tmod ((l.length : Int) + 1) = K := by rw [Int.tmod_eq_emod_of_nonneg a0, hK2]
  clear hK2
  go_upto_region 5 with fail
  clear hk3 hk4 x1 x2 x3 q1
  have hKc : (K : Int) ≤ c0 := by omega
  have hall2 := all_take hall K
  have hl2 : (l.take K).length = K := by rw [List.length_take]; omega
  have cp := fun W hE hv => printAll_c (.slice g0 K c0) (l.take K) W hE hv (by omega) (fun p hp => by have := tag_sz (show p.2.ok p.1 from List.all_eq_true.1 hall2 p hp); omega)
  rw [print_ops hall2 (by omega)] at cp
  have hth := take_holds ho K hK
  have hsh := opsL_short hall2
  have HO := Lib.hid hth
  have CP := Lib.hid cp
  clear cp hth ho hall hcap2
  generalize l.take K = m at *
  have HL2 := Lib.hid hl2
  have HSH := Lib.hid hsh
  have HALL := Lib.hid hall2
  have hK60 : K ≤ 60 := by omega
  clear hl2 hsh hall2
  go_wp2_with fail
  refine Calls.mono (CP.out _ (HE.out.on hc) HO.out) ?_
  rintro e V2 ⟨rfl, hn⟩
  replace hc := chain hc hn
  clear hn
  go_upto_region 8 with fail
  go_cut [13] (fun bv wx => ∃ bd : ByteArray, bv = .string bd ∧ Wr bd ∧ Below w.heap.size w wx)
  case first =>
    obtain ⟨J, hJ, hJ2⟩ : ∃ J : Nat, J < 24 ∧ wh % 24 = J := ⟨(wh % 24).toNat, by omega, by omega⟩
    have ek : wh.tmod 24 = J := by rw [Int.tmod_eq_emod_of_nonneg h0, hJ2]
    obtain ⟨bd, hbd, hcl⟩ := bad_at J hJ
    have hnw : ∀ t, (World.alloc V2 (.cells #[.string ⟨#[110, 101, 119, 32, 52, 32, 48]⟩, .string ⟨#[110, 101, 119, 32, 48, 32, 53]⟩, .string ⟨#[110, 101, 119, 32, 48, 32, 48, 53]⟩, .string ⟨#[110, 101, 119, 32, 32, 48, 32, 51]⟩, .string ⟨#[110, 101, 119, 32, 48, 32, 51, 32]⟩, .string ⟨#[32, 98, 97, 116, 99, 104]⟩, .string ⟨#[98, 97, 116, 99, 104, 32, 48]⟩, .string ⟨#[97, 110, 115, 119, 101, 114]⟩, .string ⟨#[97, 110, 115, 119, 101, 114, 32, 120]⟩, .string ⟨#[116, 105, 99, 107, 32, 48]⟩, .string ⟨#[109, 97, 114, 107, 32, 49, 48, 48, 48, 49]⟩, .string ⟨#[111, 112, 101, 110, 32, 48, 32, 102, 32, 53, 32, 97]⟩, .string ⟨#[111, 112, 101, 110, 32, 48, 32, 120, 32, 53, 32, 34, 97, 34]⟩, .string ⟨#[111, 112, 101, 110, 32, 48, 32, 102, 32, 53, 32, 34, 34]⟩, .string ⟨#[115, 116, 111, 114, 101, 32, 48, 32, 49, 32, 50, 32, 45, 48]⟩, .string ⟨#[112, 117, 116, 32, 48, 32, 45, 50, 32, 49]⟩, .string ⟨#[103, 101, 116, 32, 48, 32, 56]⟩, .string ⟨#[108, 111, 97, 100, 32, 48, 32, 51, 50, 32, 48]⟩, .string ⟨#[117, 115, 101, 32, 48, 32, 50, 48, 48, 48]⟩, .string ⟨#[114, 101, 110, 101, 119, 32, 48, 32, 52, 32, 48]⟩, .string ⟨#[99, 108, 111, 115, 101, 32, 48]⟩, .string ⟨#[120]⟩, .string ⟨#[66, 97, 116, 99, 104]⟩, .string ⟨#[99, 121, 99, 108, 101, 13]⟩] t)).cell? ⟨V2.heap.size, J, none⟩ = some (.string bd) := fun t => by rw [World.cell?_alloc_new]; exact hcl
    have BD := Lib.hid hbd
    have hJi : (J : Int) < 24 := by omega
    clear hJ2 hbd
    go_wp2_with fail
    go_meet
    exact ⟨_, rfl, BD.out, hc.alloc hc.size _⟩
  obtain ⟨bd, rfl, hbd, hc⟩ := hcut
  have hpw := parse_wrong HALL.out (by have := HL2.out; omega) hbd.nl hbd.sk hbd.rd (more := more.data.toList) (by rw [len_bytes, len_bytes]; have := hbd.sz; omega)
  rw [HL2.out] at hpw
  obtain ⟨S, hS⟩ : ∃ S : ByteArray, S = (⟨(opsL m).toArray⟩ : ByteArray) ++ bd ++ ⟨#[10]⟩ ++ more := ⟨_, rfl⟩
  have hSl : S.data.toList = opsL m ++ (bd.data.toList ++ 10 :: more.data.toList) := by rw [hS]; simp [ByteArray.data_append]
  have hSs : S.size ≤ 100000 := by have h1 := congrArg List.length hSl; rw [len_bytes] at h1; simp [len_bytes] at h1; have := HSH.out; have := HL2.out; have := hbd.sz; omega
  have pa := fun W hE => parseAll_c S W hE hSs
  unfold ParseAllP at pa
  rw [hSl, hpw] at pa
  have ps := fun W hE => parse_not (s := bd) (no_op hbd.rd) (by have := hbd.sz; omega) W hE
  have ez := eq_ops ((0, ⟨0, 0, 0, 0, ⟨#[]⟩⟩) : OpR) ((0, ⟨0, 0, 0, 0, ⟨#[]⟩⟩) : OpR)
  rw [decide_eq_true rfl] at ez
  have x1 : wrap64 ((K : Int) + 1) = (K : Int) + 1 := IntWalk.wrap64_in _ ⟨by omega, by omega⟩
  have PA := Lib.hid pa
  have PS := Lib.hid ps
  have hbz := hbd.sz
  clear pa ps hpw hSl hSs hbd
  obtain ⟨T, hT⟩ : ∃ T : ByteArray, T = ⟨(opsL m).toArray⟩ := ⟨_, rfl⟩
  rw [← hT] at hS
  have hTs : T.size ≤ 61000 := by rw [hT]; show (opsL m).toArray.size ≤ _; rw [List.size_toArray]; have := HSH.out; have := HL2.out; omega
  have a1 := fun W => add_run (a := T) (b := bd) rfl (by omega) W
  have a2 := fun W => add_run (a := T ++ bd) (b := ⟨#[10]⟩) rfl (by rw [ByteArray.size_append]; show _ + 1 ≤ _; omega) W
  have a3 := fun W => add_run (a := T ++ bd ++ ⟨#[10]⟩) (b := more) hS.symm (by rw [ByteArray.size_append, ByteArray.size_append]; show _ + 1 + _ ≤ _; omega) W
  generalize T ++ bd ++ ⟨#[10]⟩ = d2 at *
  generalize T ++ bd = d1 at *
  clear hS
  rw [← hT]
  clear hT
  go_wp2_with fail
  refine Calls.mono (PA.out _ (HE.out.on hc)) ?_
  rintro e W1 ⟨⟨gv, rfl, hgo⟩, hn⟩
  replace hc := chain hc hn
  clear hn
  obtain ⟨g1, c1, rfl⟩ := ownsRow_len hgo
  clear hgo PA
  go_wp2_with fail
  refine Calls.mono (PS.out _ (HE.out.on hc)) ?_
  rintro e V6 ⟨rfl, hn⟩
  replace hc := chain hc hn
  clear hn
  go_upto_region 11 with fail
  have r17 := Row.new (W := V6) (cs := #[.int .i64 0, .int .i64 0, .int .i64 0, .int .i64 0, .int .i64 0, .string ⟨#[]⟩]) (t := 27)
  have hn := below_alloc V6 (.cells #[.int .i64 0, .int .i64 0, .int .i64 0, .int .i64 0, .int .i64 0, .string ⟨#[]⟩] 27)
  have wr17 : w.heap.size ≤ V6.heap.size := hc.size
  replace hc := chain hc hn
  clear hn
  generalize V6.alloc (.cells #[.int .i64 0, .int .i64 0, .int .i64 0, .int .i64 0, .int .i64 0, .string ⟨#[]⟩] 27) = V7 at r17 hc ⊢
  generalize V6.heap.size = b17 at *
  have yr17 := r17.cell
  have zr17 := r17.lt
  go_wp2_with fail
  refine Calls.mono (works _ (HE.out.on hc)) ?_
  rintro e V8 ⟨rfl, hn⟩
  clear yr17 zr17
  replace r17 := r17.on hn
  replace hc := chain hc hn
  clear hn
  have yr17 := r17.cell
  have zr17 := r17.lt
  go_wp2_with fail
  go_returns
  exact ⟨rfl, hc⟩
end Go.Proofs.YtbbleafcflhmiaaDoor
