/- The library contracts, laid at this program by the kit's own tool. -/
import Derived.Shelf.Strings.Builder1
import Derived.Shelf.Strings.Builder2
import Derived.Shelf.Strings.OnBuilder
import Derived.Shelf.Strings.BuilderF
import Derived.Shelf.Strings.BuilderK
import Derived.Shelf.Strings.Builder2Cap
import Derived.Shelf.Strconv.Itoa0
import Derived.Shelf.Strconv.Itoa1
import Derived.Shelf.LaysM
import Derived.Shelf.Strconv.Itoa2
import Derived.Shelf.Strconv.Itoa3
import Derived.Shelf.Strings.Prefix
import Derived.Shelf.Strings.BuilderCap
import Derived.Test.YtkjpdciccablpaaGreatDoorProg
import Derived.WalkKit
import Derived.Handy
import Derived.Lib.LaidTab
import Derived.WalkSmall
import Derived.ChangeAgain
import Derived.Test.YtkjpdciccablpaaGreatDoorCards
import Derived.Test.YtkjpdciccablpaaGreatDoorTie
import Derived.ProofKit
import Derived.OpenShut
import Derived.Deep.DeepHandedRow
import Derived.Stop.LaidErr
import Derived.ReadAgain
import Derived.ChangeBook
import Derived.ChangeOld
import Derived.ChangeReads
import Derived.Below
import Derived.WideShapes
import Derived.Deep.Slices
import Derived.Deep.RegionWith
import Derived.Deep.RegionHeld3
import Derived.Lib.ItoaNum
import Derived.Lib.ParseIntB
import Derived.Deep.AppendLies
import Derived.Laws.AppendOwnNone
import Derived.Deep.DeepCutAuto
import Derived.MapKept
import Derived.WideKeyRuns
import Derived.Lib.AtoiAllCases
import Derived.Lib.IndexMore
import Derived.Lib.IndexBytes
import Derived.Lib.ParseIntBCases
import Derived.Lib.ItoaMem
import Derived.Lib.SplitLaws
import Derived.Lib.CountLaws
import Derived.Lib.Join
import Derived.Lib.MapLaws
import Derived.Lib.DecodeN
import Derived.Lib.Walk
import Derived.Lib.RuneCountTail
import Derived.Lib.OthersKept
import Derived.Laws.RangeAny
import Derived.Deep.DeepMust
import Derived.Laws.BitsAllLaws
import Derived.RangeFuncCalls
import Derived.RangeFuncNested
import Derived.OrdersIn
import Derived.Deep.RegionHeld
import Derived.Laws.OwnMore
import Derived.Maps.AppendAt
import Derived.Lib.FrozenHead2
namespace Go.Proofs
open Go.Shelf
def Tryz.lays169_ren : Go.Shelf.Ren := ⟨fun | 169 => 81 | n => n, fun | 70 => 150 | 9 => 9 | 0 => 0 | 72 => 153 | 37 => 151 | 127 => 176 | 3 => 3 | 5 => 5 | n => n, fun | n => n⟩
theorem Tryz.lays169 : Go.Proofs.Lays.n169 Tryz.prog Tryz.lays169_ren := {
  mixed := by kernel_rfl
  f169 := Tryz.func81.trans (congrArg some (by kernel_rfl))
  t0 := Tryz.underlying0
  a0 := Tryz.isAgg0
  z0 := Tryz.sizeOf0
  v0 := Tryz.zeroValue0
  t3 := Tryz.underlying3
  a3 := Tryz.isAgg3
  z3 := Tryz.sizeOf3
  v3 := Tryz.zeroValue3
  t9 := Tryz.underlying9
  a9 := Tryz.isAgg9
  z9 := Tryz.sizeOf9
  v9 := Tryz.zeroValue9
  t37 := Tryz.underlying151
  a37 := Tryz.isAgg151
  z37 := Tryz.sizeOf151
  v37 := Tryz.zeroValue151
  t70 := Tryz.underlying150
  a70 := Tryz.isAgg150
  z70 := Tryz.sizeOf150
  v70 := Tryz.zeroValue150
  t72 := Tryz.underlying153
  a72 := Tryz.isAgg153
  z72 := Tryz.sizeOf153
  v72 := Tryz.zeroValue153
  t127 := Tryz.underlying176
  a127 := Tryz.isAgg176
  z127 := Tryz.sizeOf176
  v127 := Tryz.zeroValue176 }
theorem Tryz.Builder_Extra_169 : Builder.Extra Tryz.prog Tryz.lays169_ren := {
  sizeBuilder := by kernel_rfl
  liesBuilder := by kernel_rfl
  t5 := Tryz.underlying5
  a5 := Tryz.isAgg5
  z5 := Tryz.sizeOf5
  v5 := Tryz.zeroValue5
  infoByte := by kernel_rfl
  cellsByte := by kernel_rfl
  sizeByte := by kernel_rfl
  neB5 := by decide }
open Go.RowKit in
theorem Tryz.Builder_String (B b : Nat) (l : List UInt8) (w : World) (h : Lib.IsBuilder 153 5 B b (Lib.byteCells l) w) (h0 : l ≠ []) :
    Calls Tryz.prog 81 #[.pointer (some ⟨b, 0, none⟩)] w fun e w' => e = .returned (.string ⟨l.toArray⟩) ∧ Below B w w' := Any.Builder_String Tryz.lays169 Tryz.Builder_Extra_169 B b l w h h0
open Go.RowKit in
theorem Tryz.Builder_String_empty (B b : Nat) (w : World) (h : Lib.IsBuilder 153 5 B b [] w) (hBw : B ≤ w.heap.size) :
    Calls Tryz.prog 81 #[.pointer (some ⟨b, 0, none⟩)] w fun e w' => e = .returned (.string ⟨#[]⟩) ∧ Below B w w' := Any.Builder_String_empty Tryz.lays169 Tryz.Builder_Extra_169 B b w h hBw
open Go.RowKit in
theorem Tryz.Builder_String_any (B b : Nat) (l : List UInt8) (w : World) (h : Lib.IsBuilder 153 5 B b (Lib.byteCells l) w) (hBw : B ≤ w.heap.size) :
    Calls Tryz.prog 81 #[.pointer (some ⟨b, 0, none⟩)] w fun e w' => e = .returned (.string ⟨l.toArray⟩) ∧ Below B w w' := Any.Builder_String_any Tryz.lays169 Tryz.Builder_Extra_169 B b l w h hBw
def Tryz.lays241_ren : Go.Shelf.Ren := ⟨fun | 241 => 100 | 277 => 119 | n => n, fun | 70 => 150 | 3 => 3 | 0 => 0 | 72 => 153 | 37 => 151 | 5 => 5 | n => n, fun | n => n⟩
theorem Tryz.lays241 : Go.Proofs.Lays.n241 Tryz.prog Tryz.lays241_ren := {
  mixed := by kernel_rfl
  f241 := Tryz.func100.trans (congrArg some (by kernel_rfl))
  f277 := Tryz.func119.trans (congrArg some (by kernel_rfl))
  t0 := Tryz.underlying0
  a0 := Tryz.isAgg0
  z0 := Tryz.sizeOf0
  v0 := Tryz.zeroValue0
  t3 := Tryz.underlying3
  a3 := Tryz.isAgg3
  z3 := Tryz.sizeOf3
  v3 := Tryz.zeroValue3
  t37 := Tryz.underlying151
  a37 := Tryz.isAgg151
  z37 := Tryz.sizeOf151
  v37 := Tryz.zeroValue151
  t70 := Tryz.underlying150
  a70 := Tryz.isAgg150
  z70 := Tryz.sizeOf150
  v70 := Tryz.zeroValue150
  t72 := Tryz.underlying153
  a72 := Tryz.isAgg153
  z72 := Tryz.sizeOf153
  v72 := Tryz.zeroValue153 }
theorem Tryz.Builder_Extra_241 : Builder.Extra Tryz.prog Tryz.lays241_ren := {
  sizeBuilder := by kernel_rfl
  liesBuilder := by kernel_rfl
  t5 := Tryz.underlying5
  a5 := Tryz.isAgg5
  z5 := Tryz.sizeOf5
  v5 := Tryz.zeroValue5
  infoByte := by kernel_rfl
  cellsByte := by kernel_rfl
  sizeByte := by kernel_rfl
  neB5 := by decide }
open Go.RowKit in
theorem Tryz.Builder_grow_fresh (B b n : Nat) (w : World) (hB : B ≤ b) (hbk : w.heap[b]? = some (.cells #[.pointer (some ⟨b, 0, none⟩), .slice none 0 0] 153 (0, 0))) (hBw : B ≤ w.heap.size) (hn : n ≤ 281474976710656) :
    Calls Tryz.prog 100 #[.pointer (some ⟨b, 0, none⟩), .int .i64 n] w fun e w' => e = .returned (.tuple #[]) ∧ (Lib.BuilderAt 153 5 B b (.pointer (some ⟨b, 0, none⟩)) [] w' ∧ Below B w w') := Any.Builder_grow_fresh Tryz.lays241 Tryz.Builder_Extra_241 B b n w hB hbk hBw hn
def Tryz.lays165_ren : Go.Shelf.Ren := ⟨fun | 165 => 79 | 240 => 99 | 241 => 100 | 276 => 118 | 277 => 119 | n => n, fun | 70 => 150 | 3 => 3 | 0 => 0 | 4 => 4 | 9 => 9 | 20 => 20 | 72 => 153 | 37 => 151 | 164 => 201 | 5 => 5 | n => n, fun | n => n⟩
theorem Tryz.lays165 : Go.Proofs.Lays.n165 Tryz.prog Tryz.lays165_ren := {
  mixed := by kernel_rfl
  f165 := Tryz.func79.trans (congrArg some (by kernel_rfl))
  f240 := Tryz.func99.trans (congrArg some (by kernel_rfl))
  f241 := Tryz.func100.trans (congrArg some (by kernel_rfl))
  f276 := Tryz.func118.trans (congrArg some (by kernel_rfl))
  f277 := Tryz.func119.trans (congrArg some (by kernel_rfl))
  t0 := Tryz.underlying0
  a0 := Tryz.isAgg0
  z0 := Tryz.sizeOf0
  v0 := Tryz.zeroValue0
  t3 := Tryz.underlying3
  a3 := Tryz.isAgg3
  z3 := Tryz.sizeOf3
  v3 := Tryz.zeroValue3
  t4 := Tryz.underlying4
  a4 := Tryz.isAgg4
  z4 := Tryz.sizeOf4
  v4 := Tryz.zeroValue4
  t9 := Tryz.underlying9
  a9 := Tryz.isAgg9
  z9 := Tryz.sizeOf9
  v9 := Tryz.zeroValue9
  t20 := Tryz.underlying20
  a20 := Tryz.isAgg20
  z20 := Tryz.sizeOf20
  v20 := Tryz.zeroValue20
  t37 := Tryz.underlying151
  a37 := Tryz.isAgg151
  z37 := Tryz.sizeOf151
  v37 := Tryz.zeroValue151
  t70 := Tryz.underlying150
  a70 := Tryz.isAgg150
  z70 := Tryz.sizeOf150
  v70 := Tryz.zeroValue150
  t72 := Tryz.underlying153
  a72 := Tryz.isAgg153
  z72 := Tryz.sizeOf153
  v72 := Tryz.zeroValue153
  t164 := Tryz.underlying201
  a164 := Tryz.isAgg201
  z164 := Tryz.sizeOf201
  v164 := Tryz.zeroValue201 }
theorem Tryz.Builder_Extra_165 : Builder.Extra Tryz.prog Tryz.lays165_ren := {
  sizeBuilder := by kernel_rfl
  liesBuilder := by kernel_rfl
  t5 := Tryz.underlying5
  a5 := Tryz.isAgg5
  z5 := Tryz.sizeOf5
  v5 := Tryz.zeroValue5
  infoByte := by kernel_rfl
  cellsByte := by kernel_rfl
  sizeByte := by kernel_rfl
  neB5 := by decide }
open Go.RowKit in
theorem Tryz.Builder_Grow_fresh (B b n : Nat) (w : World) (hB : B ≤ b) (hbk : w.heap[b]? = some (.cells #[.pointer none, .slice none 0 0] 153 (0, 0))) (hBw : B ≤ w.heap.size) (hn : n ≤ 281474976710656) :
    Calls Tryz.prog 79 #[.pointer (some ⟨b, 0, none⟩), .int .i64 n] w fun e w' => e = .returned (.tuple #[]) ∧ (Lib.BuilderAt 153 5 B b (.pointer (some ⟨b, 0, none⟩)) [] w' ∧ Below B w w') := Any.Builder_Grow_fresh Tryz.lays165 Tryz.Builder_Extra_165 B b n w hB hbk hBw hn
def Tryz.lays156_ren : Go.Shelf.Ren := ⟨fun | 156 => 47 | 165 => 79 | 166 => 80 | 169 => 81 | 240 => 99 | 241 => 100 | 276 => 118 | 277 => 119 | n => n, fun | 31 => 109 | 9 => 9 | 3 => 3 | 4 => 4 | 0 => 0 | 20 => 20 | 72 => 153 | 76 => 157 | 70 => 150 | 37 => 151 | 75 => 156 | 127 => 176 | 164 => 201 | 5 => 5 | 80 => 159 | n => n, fun | n => n⟩
theorem Tryz.lays156 : Go.Proofs.Lays.n156 Tryz.prog Tryz.lays156_ren := {
  mixed := by kernel_rfl
  f156 := Tryz.func47.trans (congrArg some (by kernel_rfl))
  f165 := Tryz.func79.trans (congrArg some (by kernel_rfl))
  f166 := Tryz.func80.trans (congrArg some (by kernel_rfl))
  f169 := Tryz.func81.trans (congrArg some (by kernel_rfl))
  f240 := Tryz.func99.trans (congrArg some (by kernel_rfl))
  f241 := Tryz.func100.trans (congrArg some (by kernel_rfl))
  f276 := Tryz.func118.trans (congrArg some (by kernel_rfl))
  f277 := Tryz.func119.trans (congrArg some (by kernel_rfl))
  t0 := Tryz.underlying0
  a0 := Tryz.isAgg0
  z0 := Tryz.sizeOf0
  v0 := Tryz.zeroValue0
  t3 := Tryz.underlying3
  a3 := Tryz.isAgg3
  z3 := Tryz.sizeOf3
  v3 := Tryz.zeroValue3
  t4 := Tryz.underlying4
  a4 := Tryz.isAgg4
  z4 := Tryz.sizeOf4
  v4 := Tryz.zeroValue4
  t9 := Tryz.underlying9
  a9 := Tryz.isAgg9
  z9 := Tryz.sizeOf9
  v9 := Tryz.zeroValue9
  t20 := Tryz.underlying20
  a20 := Tryz.isAgg20
  z20 := Tryz.sizeOf20
  v20 := Tryz.zeroValue20
  t31 := Tryz.underlying109
  a31 := Tryz.isAgg109
  z31 := Tryz.sizeOf109
  v31 := Tryz.zeroValue109
  t37 := Tryz.underlying151
  a37 := Tryz.isAgg151
  z37 := Tryz.sizeOf151
  v37 := Tryz.zeroValue151
  t70 := Tryz.underlying150
  a70 := Tryz.isAgg150
  z70 := Tryz.sizeOf150
  v70 := Tryz.zeroValue150
  t72 := Tryz.underlying153
  a72 := Tryz.isAgg153
  z72 := Tryz.sizeOf153
  v72 := Tryz.zeroValue153
  t75 := Tryz.underlying156
  a75 := Tryz.isAgg156
  z75 := Tryz.sizeOf156
  v75 := Tryz.zeroValue156
  t76 := Tryz.underlying157
  a76 := Tryz.isAgg157
  z76 := Tryz.sizeOf157
  v76 := Tryz.zeroValue157
  t127 := Tryz.underlying176
  a127 := Tryz.isAgg176
  z127 := Tryz.sizeOf176
  v127 := Tryz.zeroValue176
  t164 := Tryz.underlying201
  a164 := Tryz.isAgg201
  z164 := Tryz.sizeOf201
  v164 := Tryz.zeroValue201 }
theorem Tryz.Builder_Extra_156 : Builder.Extra Tryz.prog Tryz.lays156_ren := {
  sizeBuilder := by kernel_rfl
  liesBuilder := by kernel_rfl
  t5 := Tryz.underlying5
  a5 := Tryz.isAgg5
  z5 := Tryz.sizeOf5
  v5 := Tryz.zeroValue5
  infoByte := by kernel_rfl
  cellsByte := by kernel_rfl
  sizeByte := by kernel_rfl
  neB5 := by decide }
open Go.RowKit in
theorem Tryz.strings_Join_none (a : Option Addr) (c : Nat) (sep : ByteArray) (w : World) :
    Calls Tryz.prog 47 #[.slice a 0 c, .string sep] w fun e w' => e = .returned (.string ⟨#[]⟩) ∧ w' = w := Any.strings_Join_none Tryz.lays156 Tryz.Builder_Extra_156 a c sep w
open Go.RowKit in
theorem Tryz.strings_Join (bk o c : Nat) (xs : List ByteArray) (sep : ByteArray) (w : World) (hcells : ∀ (j : Nat) x, xs[j]? = some x → w.cell? ⟨bk, o + j, none⟩ = some (.string x)) (hbk : bk < w.heap.size) (hN : xs.length ≤ 140737488355328) (hcap : xs.length ≤ c) (hlen : (Lib.join (xs.map (·.data.toList)) sep.data.toList).length ≤ 140737488355328) :
    Calls Tryz.prog 47 #[.slice (some ⟨bk, o, none⟩) xs.length c, .string sep] w fun e w' => e = .returned (.string ⟨(Lib.join (xs.map (·.data.toList)) sep.data.toList).toArray⟩) ∧ Below w.heap.size w w' := Any.strings_Join Tryz.lays156 Tryz.Builder_Extra_156 bk o c xs sep w hcells hbk hN hcap hlen
open Go.RowKit in
theorem Tryz.Builder_String_f (B b : Nat) (l : List UInt8) (w : World) (h : Lib.IsBuilderF 153 5 B b (Lib.byteCells l) w) (h0 : l ≠ []) :
    Calls Tryz.prog 81 #[.pointer (some ⟨b, 0, none⟩)] w fun e w' => e = .returned (.string ⟨l.toArray⟩) ∧ (Lib.IsBuilderF 153 5 B b (Lib.byteCells l) w' ∧ Below B w w') := Any.Builder_String_f Tryz.lays169 Tryz.Builder_Extra_169 B b l w h h0
open Go.RowKit in
theorem Tryz.Builder_String_empty_f (B b : Nat) (w : World) (h : Lib.IsBuilderF 153 5 B b [] w) (hBw : B ≤ w.heap.size) :
    Calls Tryz.prog 81 #[.pointer (some ⟨b, 0, none⟩)] w fun e w' => e = .returned (.string ⟨#[]⟩) ∧ (Lib.IsBuilderF 153 5 B b [] w' ∧ Below B w w') := Any.Builder_String_empty_f Tryz.lays169 Tryz.Builder_Extra_169 B b w h hBw
open Go.RowKit in
theorem Tryz.Builder_String_any_f (B b : Nat) (l : List UInt8) (w : World) (h : Lib.IsBuilderF 153 5 B b (Lib.byteCells l) w) (hBw : B ≤ w.heap.size) :
    Calls Tryz.prog 81 #[.pointer (some ⟨b, 0, none⟩)] w fun e w' => e = .returned (.string ⟨l.toArray⟩) ∧ (Lib.IsBuilderF 153 5 B b (Lib.byteCells l) w' ∧ Below B w w') := Any.Builder_String_any_f Tryz.lays169 Tryz.Builder_Extra_169 B b l w h hBw
open Go.RowKit in
theorem Tryz.Builder_String_k (B b : Nat) (l : List UInt8) (w : World) (h : Lib.IsBuilderF 153 5 B b (Lib.byteCells l) w) (h0 : l ≠ []) :
    Calls Tryz.prog 81 #[.pointer (some ⟨b, 0, none⟩)] w fun e w' => e = .returned (.string ⟨l.toArray⟩) ∧ (Lib.IsBuilderF 153 5 B b (Lib.byteCells l) w' ∧ Below B w w' ∧ Lib.OthersKept 5 (some b) w w') := Any.Builder_String_k Tryz.lays169 Tryz.Builder_Extra_169 B b l w h h0
open Go.RowKit in
theorem Tryz.Builder_String_empty_k (B b : Nat) (w : World) (h : Lib.IsBuilderF 153 5 B b [] w) (hBw : B ≤ w.heap.size) :
    Calls Tryz.prog 81 #[.pointer (some ⟨b, 0, none⟩)] w fun e w' => e = .returned (.string ⟨#[]⟩) ∧ (Lib.IsBuilderF 153 5 B b [] w' ∧ Below B w w' ∧ Lib.OthersKept 5 (some b) w w') := Any.Builder_String_empty_k Tryz.lays169 Tryz.Builder_Extra_169 B b w h hBw
open Go.RowKit in
theorem Tryz.Builder_String_any_k (B b : Nat) (l : List UInt8) (w : World) (h : Lib.IsBuilderF 153 5 B b (Lib.byteCells l) w) (hBw : B ≤ w.heap.size) :
    Calls Tryz.prog 81 #[.pointer (some ⟨b, 0, none⟩)] w fun e w' => e = .returned (.string ⟨l.toArray⟩) ∧ (Lib.IsBuilderF 153 5 B b (Lib.byteCells l) w' ∧ Below B w w' ∧ Lib.OthersKept 5 (some b) w w') := Any.Builder_String_any_k Tryz.lays169 Tryz.Builder_Extra_169 B b l w h hBw
open Go.RowKit in
theorem Tryz.Builder_grow_fresh_cap (B b n : Nat) (w : World) (hB : B ≤ b) (hbk : w.heap[b]? = some (.cells #[.pointer (some ⟨b, 0, none⟩), .slice none 0 0] 153 (0, 0))) (hBw : B ≤ w.heap.size) (hn : n ≤ 281474976710656) :
    Calls Tryz.prog 100 #[.pointer (some ⟨b, 0, none⟩), .int .i64 n] w fun e w' => e = .returned (.tuple #[]) ∧ (Lib.BuilderAt 153 5 B b (.pointer (some ⟨b, 0, none⟩)) [] w' ∧ Below B w w') ∧ ∃ p cap, w'.cell? ⟨b, 1, none⟩ = some (.slice p 0 cap) ∧ n ≤ cap := Any.Builder_grow_fresh_cap Tryz.lays241 Tryz.Builder_Extra_241 B b n w hB hbk hBw hn
open Go.RowKit in
theorem Tryz.Builder_Grow_fresh_cap (B b n : Nat) (w : World) (hB : B ≤ b) (hbk : w.heap[b]? = some (.cells #[.pointer none, .slice none 0 0] 153 (0, 0))) (hBw : B ≤ w.heap.size) (hn : n ≤ 281474976710656) :
    Calls Tryz.prog 79 #[.pointer (some ⟨b, 0, none⟩), .int .i64 n] w fun e w' => e = .returned (.tuple #[]) ∧ (Lib.BuilderAt 153 5 B b (.pointer (some ⟨b, 0, none⟩)) [] w' ∧ Below B w w') ∧ ∃ p cap, w'.cell? ⟨b, 1, none⟩ = some (.slice p 0 cap) ∧ n ≤ cap := Any.Builder_Grow_fresh_cap Tryz.lays165 Tryz.Builder_Extra_165 B b n w hB hbk hBw hn
def Tryz.lays129_ren : Go.Shelf.Ren := ⟨fun | 129 => 126 | n => n, fun | 53 => 196 | 3 => 3 | 4 => 4 | 46 => 213 | 5 => 5 | 9 => 9 | n => n, fun | n => n⟩
theorem Tryz.lays129 : Go.Proofs.Lays.n129 Tryz.prog Tryz.lays129_ren := {
  mixed := by kernel_rfl
  f129 := Tryz.func126.trans (congrArg some (by kernel_rfl))
  t3 := Tryz.underlying3
  a3 := Tryz.isAgg3
  z3 := Tryz.sizeOf3
  v3 := Tryz.zeroValue3
  t4 := Tryz.underlying4
  a4 := Tryz.isAgg4
  z4 := Tryz.sizeOf4
  v4 := Tryz.zeroValue4
  t5 := Tryz.underlying5
  a5 := Tryz.isAgg5
  z5 := Tryz.sizeOf5
  v5 := Tryz.zeroValue5
  t9 := Tryz.underlying9
  a9 := Tryz.isAgg9
  z9 := Tryz.sizeOf9
  v9 := Tryz.zeroValue9
  t46 := Tryz.underlying213
  a46 := Tryz.isAgg213
  z46 := Tryz.sizeOf213
  v46 := Tryz.zeroValue213
  t53 := Tryz.underlying196
  a53 := Tryz.isAgg196
  z53 := Tryz.sizeOf196
  v53 := Tryz.zeroValue196 }
theorem Tryz.bits_Len64 (x : Int) (w : World) (h0 : 0 ≤ x) (h1 : x ≤ 18446744073709551615) :
    Calls Tryz.prog 126 #[.int .u64 x] w fun e w' => e = .returned (.int .i64 (Lib.bitLen x.toNat)) ∧ w' = w := Any.bits_Len64 Tryz.lays129 x w h0 h1
def Tryz.lays317_ren : Go.Shelf.Ren := ⟨fun | 317 => 125 | n => n, fun | 3 => 3 | 46 => 213 | n => n, fun | n => n⟩
theorem Tryz.lays317 : Go.Proofs.Lays.n317 Tryz.prog Tryz.lays317_ren := {
  mixed := by kernel_rfl
  f317 := Tryz.func125.trans (congrArg some (by kernel_rfl))
  t3 := Tryz.underlying3
  a3 := Tryz.isAgg3
  z3 := Tryz.sizeOf3
  v3 := Tryz.zeroValue3
  t46 := Tryz.underlying213
  a46 := Tryz.isAgg213
  z46 := Tryz.sizeOf213
  v46 := Tryz.zeroValue213 }
open Go.Lib in
theorem Tryz.internal_strconv_log10Pow2 (x : Nat) (h : x ≤ 64) (w : World) :
    Calls Tryz.prog 125 #[.int .i64 x] w fun e w' => e = .returned (.int .i64 (Lib.l10 x)) ∧ w' = w := Any.internal_strconv_log10Pow2 Tryz.lays317 x h w
def Tryz.lays318_ren : Go.Shelf.Ren := ⟨fun | 318 => 127 | n => n, fun | 3 => 3 | 4 => 4 | n => n, fun | n => n⟩
theorem Tryz.lays318 : Go.Proofs.Lays.n318 Tryz.prog Tryz.lays318_ren := {
  mixed := by kernel_rfl
  f318 := Tryz.func127.trans (congrArg some (by kernel_rfl))
  t3 := Tryz.underlying3
  a3 := Tryz.isAgg3
  z3 := Tryz.sizeOf3
  v3 := Tryz.zeroValue3
  t4 := Tryz.underlying4
  a4 := Tryz.isAgg4
  z4 := Tryz.sizeOf4
  v4 := Tryz.zeroValue4 }
open Go.Lib in
theorem Tryz.internal_strconv_bool2_int (b : Bool) (w : World) :
    Calls Tryz.prog 127 #[.bool b] w fun e w' => e = .returned (.int .i64 (if b then 1 else 0)) ∧ w' = w := Any.internal_strconv_bool2_int Tryz.lays318 b w
def Tryz.lays283_ren : Go.Shelf.Ren := ⟨fun | 283 => 114 | n => n, fun | 3 => 3 | 9 => 9 | 4 => 4 | n => n, fun | n => n⟩
theorem Tryz.lays283 : Go.Proofs.Lays.n283 Tryz.prog Tryz.lays283_ren := {
  mixed := by kernel_rfl
  f283 := Tryz.func114.trans (congrArg some (by kernel_rfl))
  t3 := Tryz.underlying3
  a3 := Tryz.isAgg3
  z3 := Tryz.sizeOf3
  v3 := Tryz.zeroValue3
  t4 := Tryz.underlying4
  a4 := Tryz.isAgg4
  z4 := Tryz.sizeOf4
  v4 := Tryz.zeroValue4
  t9 := Tryz.underlying9
  a9 := Tryz.isAgg9
  z9 := Tryz.sizeOf9
  v9 := Tryz.zeroValue9 }
open Go.Lib in
theorem Tryz.internal_strconv_small (i : Nat) (h : i < 100) (w : World) :
    Calls Tryz.prog 114 #[.int .i64 i] w fun e w' => e = .returned (.string ⟨(Lib.decDigits i).toArray⟩) ∧ w' = w := Any.internal_strconv_small Tryz.lays283 i h w
def Tryz.laysM284_ren : Go.Shelf.Ren := ⟨fun | 284 => 115 | 129 => 126 | 317 => 125 | 318 => 127 | n => n, fun | 53 => 196 | 3 => 3 | 212 => 211 | 0 => 0 | 4 => 4 | 46 => 213 | 5 => 5 | 9 => 9 | n => n, fun | 17 => 0 | n => n⟩
theorem Tryz.laysM284 : Go.Proofs.LaysM.n284 Tryz.prog Tryz.laysM284_ren := {
  mixed := by kernel_rfl
  f129 := Tryz.func126.trans (congrArg some (by kernel_rfl))
  f284 := Tryz.func115.trans (congrArg some (by kernel_rfl))
  f317 := Tryz.func125.trans (congrArg some (by kernel_rfl))
  f318 := Tryz.func127.trans (congrArg some (by kernel_rfl))
  t0 := Tryz.underlying0
  a0 := Tryz.isAgg0
  z0 := Tryz.sizeOf0
  v0 := Tryz.zeroValue0
  t3 := Tryz.underlying3
  a3 := Tryz.isAgg3
  z3 := Tryz.sizeOf3
  v3 := Tryz.zeroValue3
  t4 := Tryz.underlying4
  a4 := Tryz.isAgg4
  z4 := Tryz.sizeOf4
  v4 := Tryz.zeroValue4
  t5 := Tryz.underlying5
  a5 := Tryz.isAgg5
  z5 := Tryz.sizeOf5
  v5 := Tryz.zeroValue5
  t9 := Tryz.underlying9
  a9 := Tryz.isAgg9
  z9 := Tryz.sizeOf9
  v9 := Tryz.zeroValue9
  t46 := Tryz.underlying213
  a46 := Tryz.isAgg213
  z46 := Tryz.sizeOf213
  v46 := Tryz.zeroValue213
  t53 := Tryz.underlying196
  a53 := Tryz.isAgg196
  z53 := Tryz.sizeOf196
  v53 := Tryz.zeroValue196
  t212 := Tryz.underlying211
  a212 := Tryz.isAgg211
  z212 := Tryz.sizeOf211
  v212 := Tryz.zeroValue211
  g17 := by kernel_rfl
  i0 := by kernel_rfl
  i3 := by kernel_rfl
  i4 := by kernel_rfl
  i5 := by kernel_rfl
  i9 := by kernel_rfl
  i46 := by kernel_rfl
  i53 := by kernel_rfl
  i212 := by kernel_rfl
  m17 := by kernel_rfl }
open Go.Lib in
theorem Tryz.internal_strconv_numDigits (u : Nat) (h1 : 1 ≤ u) (h2 : u < 18446744073709551616) (w : World) (htab : Lib.TabIs Tryz.prog w "internal/strconv.uint64pow10" .u64 Lib.pow10Tab) :
    Calls Tryz.prog 115 #[.int .u64 u] w fun e w' => e = .returned (.int .i64 (Lib.nDigits u)) ∧ w' = w := Any.internal_strconv_numDigits Tryz.laysM284 u h1 h2 w htab
def Tryz.lays285_ren : Go.Shelf.Ren := ⟨fun | 285 => 116 | n => n, fun | 37 => 151 | 53 => 196 | 3 => 3 | 4 => 4 | 51 => 56 | 9 => 9 | 5 => 5 | 0 => 0 | n => n, fun | n => n⟩
theorem Tryz.lays285 : Go.Proofs.Lays.n285 Tryz.prog Tryz.lays285_ren := {
  mixed := by kernel_rfl
  f285 := Tryz.func116.trans (congrArg some (by kernel_rfl))
  t0 := Tryz.underlying0
  a0 := Tryz.isAgg0
  z0 := Tryz.sizeOf0
  v0 := Tryz.zeroValue0
  t3 := Tryz.underlying3
  a3 := Tryz.isAgg3
  z3 := Tryz.sizeOf3
  v3 := Tryz.zeroValue3
  t4 := Tryz.underlying4
  a4 := Tryz.isAgg4
  z4 := Tryz.sizeOf4
  v4 := Tryz.zeroValue4
  t5 := Tryz.underlying5
  a5 := Tryz.isAgg5
  z5 := Tryz.sizeOf5
  v5 := Tryz.zeroValue5
  t9 := Tryz.underlying9
  a9 := Tryz.isAgg9
  z9 := Tryz.sizeOf9
  v9 := Tryz.zeroValue9
  t37 := Tryz.underlying151
  a37 := Tryz.isAgg151
  z37 := Tryz.sizeOf151
  v37 := Tryz.zeroValue151
  t51 := Tryz.underlying56
  a51 := Tryz.isAgg56
  z51 := Tryz.sizeOf56
  v51 := Tryz.zeroValue56
  t53 := Tryz.underlying196
  a53 := Tryz.isAgg196
  z53 := Tryz.sizeOf196
  v53 := Tryz.zeroValue196 }
open Go.RowKit Go.Sort Go.Lib in
theorem Tryz.internal_strconv_formatBase10 (blk off cap : Nat) (u : Nat) (d : Array UInt8) (w : World) (hH : Holds (fun (b : UInt8) => Value.int .u8 (b.toNat : Int)) w blk off d) (hu : u < 10 ^ d.size) (hu64 : u < 18446744073709551616) (hsz : d.size < 4611686018427387904) :
    Calls Tryz.prog 116 #[.slice (some ⟨blk, off, none⟩) d.size cap, .int .u64 u] w fun e w' =>
      e = .returned (.tuple #[]) ∧ ∃ (n v' : Nat) (dk : Array UInt8), w' = (putRow (fun (b : UInt8) => Value.int .u8 (b.toNat : Int)) w blk off dk).drewN n ∧ FmtInv d.size u 0 v' dk := Any.internal_strconv_formatBase10 Tryz.lays285 blk off cap u d w hH hu hu64 hsz
def Tryz.laysM246_ren : Go.Shelf.Ren := ⟨fun | 246 => 98 | 283 => 114 | 284 => 115 | 285 => 116 | 286 => 117 | 129 => 126 | 317 => 125 | 318 => 127 | 319 => 128 | 320 => 129 | 337 => 132 | 338 => 133 | n => n, fun | 2 => 2 | 3 => 3 | 9 => 9 | 4 => 4 | 171 => 195 | 0 => 0 | 53 => 196 | 37 => 151 | 5 => 5 | 173 => 199 | 212 => 211 | 51 => 56 | 20 => 20 | 213 => 212 | 46 => 213 | 232 => 220 | 233 => 221 | n => n, fun | 17 => 0 | 18 => 2 | 19 => 3 | n => n⟩
theorem Tryz.laysM246 : Go.Proofs.LaysM.n246 Tryz.prog Tryz.laysM246_ren := {
  mixed := by kernel_rfl
  f129 := Tryz.func126.trans (congrArg some (by kernel_rfl))
  f246 := Tryz.func98.trans (congrArg some (by kernel_rfl))
  f283 := Tryz.func114.trans (congrArg some (by kernel_rfl))
  f284 := Tryz.func115.trans (congrArg some (by kernel_rfl))
  f285 := Tryz.func116.trans (congrArg some (by kernel_rfl))
  f286 := Tryz.func117.trans (congrArg some (by kernel_rfl))
  f317 := Tryz.func125.trans (congrArg some (by kernel_rfl))
  f318 := Tryz.func127.trans (congrArg some (by kernel_rfl))
  f319 := Tryz.func128.trans (congrArg some (by kernel_rfl))
  f320 := Tryz.func129.trans (congrArg some (by kernel_rfl))
  f337 := Tryz.func132.trans (congrArg some (by kernel_rfl))
  f338 := Tryz.func133.trans (congrArg some (by kernel_rfl))
  t0 := Tryz.underlying0
  a0 := Tryz.isAgg0
  z0 := Tryz.sizeOf0
  v0 := Tryz.zeroValue0
  t2 := Tryz.underlying2
  a2 := Tryz.isAgg2
  z2 := Tryz.sizeOf2
  v2 := Tryz.zeroValue2
  t3 := Tryz.underlying3
  a3 := Tryz.isAgg3
  z3 := Tryz.sizeOf3
  v3 := Tryz.zeroValue3
  t4 := Tryz.underlying4
  a4 := Tryz.isAgg4
  z4 := Tryz.sizeOf4
  v4 := Tryz.zeroValue4
  t5 := Tryz.underlying5
  a5 := Tryz.isAgg5
  z5 := Tryz.sizeOf5
  v5 := Tryz.zeroValue5
  t9 := Tryz.underlying9
  a9 := Tryz.isAgg9
  z9 := Tryz.sizeOf9
  v9 := Tryz.zeroValue9
  t20 := Tryz.underlying20
  a20 := Tryz.isAgg20
  z20 := Tryz.sizeOf20
  v20 := Tryz.zeroValue20
  t37 := Tryz.underlying151
  a37 := Tryz.isAgg151
  z37 := Tryz.sizeOf151
  v37 := Tryz.zeroValue151
  t46 := Tryz.underlying213
  a46 := Tryz.isAgg213
  z46 := Tryz.sizeOf213
  v46 := Tryz.zeroValue213
  t51 := Tryz.underlying56
  a51 := Tryz.isAgg56
  z51 := Tryz.sizeOf56
  v51 := Tryz.zeroValue56
  t53 := Tryz.underlying196
  a53 := Tryz.isAgg196
  z53 := Tryz.sizeOf196
  v53 := Tryz.zeroValue196
  t171 := Tryz.underlying195
  a171 := Tryz.isAgg195
  z171 := Tryz.sizeOf195
  v171 := Tryz.zeroValue195
  t173 := Tryz.underlying199
  a173 := Tryz.isAgg199
  z173 := Tryz.sizeOf199
  v173 := Tryz.zeroValue199
  t212 := Tryz.underlying211
  a212 := Tryz.isAgg211
  z212 := Tryz.sizeOf211
  v212 := Tryz.zeroValue211
  t213 := Tryz.underlying212
  a213 := Tryz.isAgg212
  z213 := Tryz.sizeOf212
  t232 := Tryz.underlying220
  a232 := Tryz.isAgg220
  z232 := Tryz.sizeOf220
  v232 := Tryz.zeroValue220
  t233 := Tryz.underlying221
  a233 := Tryz.isAgg221
  z233 := Tryz.sizeOf221
  v233 := Tryz.zeroValue221
  g17 := by kernel_rfl
  g18 := by kernel_rfl
  g19 := by kernel_rfl
  i0 := by kernel_rfl
  i2 := by kernel_rfl
  i3 := by kernel_rfl
  i4 := by kernel_rfl
  i5 := by kernel_rfl
  i9 := by kernel_rfl
  i20 := by kernel_rfl
  i37 := by kernel_rfl
  i46 := by kernel_rfl
  i51 := by kernel_rfl
  i53 := by kernel_rfl
  i171 := by kernel_rfl
  i173 := by kernel_rfl
  i212 := by kernel_rfl
  i232 := by kernel_rfl
  i233 := by kernel_rfl
  m17 := by kernel_rfl
  m18 := by kernel_rfl
  m19 := by kernel_rfl }
open Go.RowKit Go.Sort Go.Lib in
theorem Tryz.internal_strconv_FormatInt_10 (n : Int) (h0 : -9223372036854775808 ≤ n) (h1 : n ≤ 9223372036854775807) (w : World) (htab : Lib.TabIs Tryz.prog w "internal/strconv.uint64pow10" .u64 Lib.pow10Tab) :
    Calls Tryz.prog 98 #[.int .i64 n, .int .i64 10] w fun e w' => e = .returned (.string ⟨(Lib.itoa n).toArray⟩) ∧ ∃ k os, w' = grow (w.drewN k) os := Any.internal_strconv_FormatInt_10 Tryz.laysM246 n h0 h1 w htab
def Tryz.lays246_ren : Go.Shelf.Ren := ⟨fun | 246 => 98 | 283 => 114 | 284 => 115 | 285 => 116 | 286 => 117 | 129 => 126 | 317 => 125 | 318 => 127 | 319 => 128 | 320 => 129 | 337 => 132 | 338 => 133 | n => n, fun | 2 => 2 | 3 => 3 | 9 => 9 | 4 => 4 | 171 => 195 | 0 => 0 | 53 => 196 | 37 => 151 | 5 => 5 | 173 => 199 | 212 => 211 | 51 => 56 | 20 => 20 | 213 => 212 | 46 => 213 | 232 => 220 | 233 => 221 | n => n, fun | 17 => 0 | 18 => 2 | 19 => 3 | n => n⟩
theorem Tryz.lays246 : Go.Proofs.Lays.n246 Tryz.prog Tryz.lays246_ren := {
  mixed := by kernel_rfl
  f129 := Tryz.func126.trans (congrArg some (by kernel_rfl))
  f246 := Tryz.func98.trans (congrArg some (by kernel_rfl))
  f283 := Tryz.func114.trans (congrArg some (by kernel_rfl))
  f284 := Tryz.func115.trans (congrArg some (by kernel_rfl))
  f285 := Tryz.func116.trans (congrArg some (by kernel_rfl))
  f286 := Tryz.func117.trans (congrArg some (by kernel_rfl))
  f317 := Tryz.func125.trans (congrArg some (by kernel_rfl))
  f318 := Tryz.func127.trans (congrArg some (by kernel_rfl))
  f319 := Tryz.func128.trans (congrArg some (by kernel_rfl))
  f320 := Tryz.func129.trans (congrArg some (by kernel_rfl))
  f337 := Tryz.func132.trans (congrArg some (by kernel_rfl))
  f338 := Tryz.func133.trans (congrArg some (by kernel_rfl))
  t0 := Tryz.underlying0
  a0 := Tryz.isAgg0
  z0 := Tryz.sizeOf0
  v0 := Tryz.zeroValue0
  t2 := Tryz.underlying2
  a2 := Tryz.isAgg2
  z2 := Tryz.sizeOf2
  v2 := Tryz.zeroValue2
  t3 := Tryz.underlying3
  a3 := Tryz.isAgg3
  z3 := Tryz.sizeOf3
  v3 := Tryz.zeroValue3
  t4 := Tryz.underlying4
  a4 := Tryz.isAgg4
  z4 := Tryz.sizeOf4
  v4 := Tryz.zeroValue4
  t5 := Tryz.underlying5
  a5 := Tryz.isAgg5
  z5 := Tryz.sizeOf5
  v5 := Tryz.zeroValue5
  t9 := Tryz.underlying9
  a9 := Tryz.isAgg9
  z9 := Tryz.sizeOf9
  v9 := Tryz.zeroValue9
  t20 := Tryz.underlying20
  a20 := Tryz.isAgg20
  z20 := Tryz.sizeOf20
  v20 := Tryz.zeroValue20
  t37 := Tryz.underlying151
  a37 := Tryz.isAgg151
  z37 := Tryz.sizeOf151
  v37 := Tryz.zeroValue151
  t46 := Tryz.underlying213
  a46 := Tryz.isAgg213
  z46 := Tryz.sizeOf213
  v46 := Tryz.zeroValue213
  t51 := Tryz.underlying56
  a51 := Tryz.isAgg56
  z51 := Tryz.sizeOf56
  v51 := Tryz.zeroValue56
  t53 := Tryz.underlying196
  a53 := Tryz.isAgg196
  z53 := Tryz.sizeOf196
  v53 := Tryz.zeroValue196
  t171 := Tryz.underlying195
  a171 := Tryz.isAgg195
  z171 := Tryz.sizeOf195
  v171 := Tryz.zeroValue195
  t173 := Tryz.underlying199
  a173 := Tryz.isAgg199
  z173 := Tryz.sizeOf199
  v173 := Tryz.zeroValue199
  t212 := Tryz.underlying211
  a212 := Tryz.isAgg211
  z212 := Tryz.sizeOf211
  v212 := Tryz.zeroValue211
  t213 := Tryz.underlying212
  a213 := Tryz.isAgg212
  z213 := Tryz.sizeOf212
  t232 := Tryz.underlying220
  a232 := Tryz.isAgg220
  z232 := Tryz.sizeOf220
  v232 := Tryz.zeroValue220
  t233 := Tryz.underlying221
  a233 := Tryz.isAgg221
  z233 := Tryz.sizeOf221
  v233 := Tryz.zeroValue221
  g17 := by kernel_rfl
  g18 := by kernel_rfl
  g19 := by kernel_rfl }
open Go.RowKit Go.Sort Go.Lib in
theorem Tryz.internal_strconv_FormatInt_10_small (i : Nat) (hi : i < 100) (w : World) :
    Calls Tryz.prog 98 #[.int .i64 i, .int .i64 10] w fun e w' => e = .returned (.string ⟨(Lib.decDigits i).toArray⟩) ∧ w' = w := Any.internal_strconv_FormatInt_10_small Tryz.lays246 i hi w
def Tryz.laysM243_ren : Go.Shelf.Ren := ⟨fun | 243 => 78 | 246 => 98 | 283 => 114 | 284 => 115 | 285 => 116 | 286 => 117 | 129 => 126 | 317 => 125 | 318 => 127 | 319 => 128 | 320 => 129 | 337 => 132 | 338 => 133 | n => n, fun | 3 => 3 | 9 => 9 | 2 => 2 | 4 => 4 | 171 => 195 | 0 => 0 | 53 => 196 | 37 => 151 | 5 => 5 | 173 => 199 | 212 => 211 | 51 => 56 | 20 => 20 | 213 => 212 | 46 => 213 | 232 => 220 | 233 => 221 | n => n, fun | 17 => 0 | 18 => 2 | 19 => 3 | n => n⟩
theorem Tryz.laysM243 : Go.Proofs.LaysM.n243 Tryz.prog Tryz.laysM243_ren := {
  mixed := by kernel_rfl
  f129 := Tryz.func126.trans (congrArg some (by kernel_rfl))
  f243 := Tryz.func78.trans (congrArg some (by kernel_rfl))
  f246 := Tryz.func98.trans (congrArg some (by kernel_rfl))
  f283 := Tryz.func114.trans (congrArg some (by kernel_rfl))
  f284 := Tryz.func115.trans (congrArg some (by kernel_rfl))
  f285 := Tryz.func116.trans (congrArg some (by kernel_rfl))
  f286 := Tryz.func117.trans (congrArg some (by kernel_rfl))
  f317 := Tryz.func125.trans (congrArg some (by kernel_rfl))
  f318 := Tryz.func127.trans (congrArg some (by kernel_rfl))
  f319 := Tryz.func128.trans (congrArg some (by kernel_rfl))
  f320 := Tryz.func129.trans (congrArg some (by kernel_rfl))
  f337 := Tryz.func132.trans (congrArg some (by kernel_rfl))
  f338 := Tryz.func133.trans (congrArg some (by kernel_rfl))
  t0 := Tryz.underlying0
  a0 := Tryz.isAgg0
  z0 := Tryz.sizeOf0
  v0 := Tryz.zeroValue0
  t2 := Tryz.underlying2
  a2 := Tryz.isAgg2
  z2 := Tryz.sizeOf2
  v2 := Tryz.zeroValue2
  t3 := Tryz.underlying3
  a3 := Tryz.isAgg3
  z3 := Tryz.sizeOf3
  v3 := Tryz.zeroValue3
  t4 := Tryz.underlying4
  a4 := Tryz.isAgg4
  z4 := Tryz.sizeOf4
  v4 := Tryz.zeroValue4
  t5 := Tryz.underlying5
  a5 := Tryz.isAgg5
  z5 := Tryz.sizeOf5
  v5 := Tryz.zeroValue5
  t9 := Tryz.underlying9
  a9 := Tryz.isAgg9
  z9 := Tryz.sizeOf9
  v9 := Tryz.zeroValue9
  t20 := Tryz.underlying20
  a20 := Tryz.isAgg20
  z20 := Tryz.sizeOf20
  v20 := Tryz.zeroValue20
  t37 := Tryz.underlying151
  a37 := Tryz.isAgg151
  z37 := Tryz.sizeOf151
  v37 := Tryz.zeroValue151
  t46 := Tryz.underlying213
  a46 := Tryz.isAgg213
  z46 := Tryz.sizeOf213
  v46 := Tryz.zeroValue213
  t51 := Tryz.underlying56
  a51 := Tryz.isAgg56
  z51 := Tryz.sizeOf56
  v51 := Tryz.zeroValue56
  t53 := Tryz.underlying196
  a53 := Tryz.isAgg196
  z53 := Tryz.sizeOf196
  v53 := Tryz.zeroValue196
  t171 := Tryz.underlying195
  a171 := Tryz.isAgg195
  z171 := Tryz.sizeOf195
  v171 := Tryz.zeroValue195
  t173 := Tryz.underlying199
  a173 := Tryz.isAgg199
  z173 := Tryz.sizeOf199
  v173 := Tryz.zeroValue199
  t212 := Tryz.underlying211
  a212 := Tryz.isAgg211
  z212 := Tryz.sizeOf211
  v212 := Tryz.zeroValue211
  t213 := Tryz.underlying212
  a213 := Tryz.isAgg212
  z213 := Tryz.sizeOf212
  t232 := Tryz.underlying220
  a232 := Tryz.isAgg220
  z232 := Tryz.sizeOf220
  v232 := Tryz.zeroValue220
  t233 := Tryz.underlying221
  a233 := Tryz.isAgg221
  z233 := Tryz.sizeOf221
  v233 := Tryz.zeroValue221
  g17 := by kernel_rfl
  g18 := by kernel_rfl
  g19 := by kernel_rfl
  i0 := by kernel_rfl
  i2 := by kernel_rfl
  i3 := by kernel_rfl
  i4 := by kernel_rfl
  i5 := by kernel_rfl
  i9 := by kernel_rfl
  i20 := by kernel_rfl
  i37 := by kernel_rfl
  i46 := by kernel_rfl
  i51 := by kernel_rfl
  i53 := by kernel_rfl
  i171 := by kernel_rfl
  i173 := by kernel_rfl
  i212 := by kernel_rfl
  i232 := by kernel_rfl
  i233 := by kernel_rfl
  m17 := by kernel_rfl
  m18 := by kernel_rfl
  m19 := by kernel_rfl }
open Go.RowKit Go.Sort Go.Lib in
theorem Tryz.internal_strconv_Itoa (n : Int) (h0 : -9223372036854775808 ≤ n) (h1 : n ≤ 9223372036854775807) (w : World) (htab : Lib.TabIs Tryz.prog w "internal/strconv.uint64pow10" .u64 Lib.pow10Tab) :
    Calls Tryz.prog 78 #[.int .i64 n] w fun e w' => e = .returned (.string ⟨(Lib.itoa n).toArray⟩) ∧ ∃ k os, w' = grow (w.drewN k) os := Any.internal_strconv_Itoa Tryz.laysM243 n h0 h1 w htab
def Tryz.lays243_ren : Go.Shelf.Ren := ⟨fun | 243 => 78 | 246 => 98 | 283 => 114 | 284 => 115 | 285 => 116 | 286 => 117 | 129 => 126 | 317 => 125 | 318 => 127 | 319 => 128 | 320 => 129 | 337 => 132 | 338 => 133 | n => n, fun | 3 => 3 | 9 => 9 | 2 => 2 | 4 => 4 | 171 => 195 | 0 => 0 | 53 => 196 | 37 => 151 | 5 => 5 | 173 => 199 | 212 => 211 | 51 => 56 | 20 => 20 | 213 => 212 | 46 => 213 | 232 => 220 | 233 => 221 | n => n, fun | 17 => 0 | 18 => 2 | 19 => 3 | n => n⟩
theorem Tryz.lays243 : Go.Proofs.Lays.n243 Tryz.prog Tryz.lays243_ren := {
  mixed := by kernel_rfl
  f129 := Tryz.func126.trans (congrArg some (by kernel_rfl))
  f243 := Tryz.func78.trans (congrArg some (by kernel_rfl))
  f246 := Tryz.func98.trans (congrArg some (by kernel_rfl))
  f283 := Tryz.func114.trans (congrArg some (by kernel_rfl))
  f284 := Tryz.func115.trans (congrArg some (by kernel_rfl))
  f285 := Tryz.func116.trans (congrArg some (by kernel_rfl))
  f286 := Tryz.func117.trans (congrArg some (by kernel_rfl))
  f317 := Tryz.func125.trans (congrArg some (by kernel_rfl))
  f318 := Tryz.func127.trans (congrArg some (by kernel_rfl))
  f319 := Tryz.func128.trans (congrArg some (by kernel_rfl))
  f320 := Tryz.func129.trans (congrArg some (by kernel_rfl))
  f337 := Tryz.func132.trans (congrArg some (by kernel_rfl))
  f338 := Tryz.func133.trans (congrArg some (by kernel_rfl))
  t0 := Tryz.underlying0
  a0 := Tryz.isAgg0
  z0 := Tryz.sizeOf0
  v0 := Tryz.zeroValue0
  t2 := Tryz.underlying2
  a2 := Tryz.isAgg2
  z2 := Tryz.sizeOf2
  v2 := Tryz.zeroValue2
  t3 := Tryz.underlying3
  a3 := Tryz.isAgg3
  z3 := Tryz.sizeOf3
  v3 := Tryz.zeroValue3
  t4 := Tryz.underlying4
  a4 := Tryz.isAgg4
  z4 := Tryz.sizeOf4
  v4 := Tryz.zeroValue4
  t5 := Tryz.underlying5
  a5 := Tryz.isAgg5
  z5 := Tryz.sizeOf5
  v5 := Tryz.zeroValue5
  t9 := Tryz.underlying9
  a9 := Tryz.isAgg9
  z9 := Tryz.sizeOf9
  v9 := Tryz.zeroValue9
  t20 := Tryz.underlying20
  a20 := Tryz.isAgg20
  z20 := Tryz.sizeOf20
  v20 := Tryz.zeroValue20
  t37 := Tryz.underlying151
  a37 := Tryz.isAgg151
  z37 := Tryz.sizeOf151
  v37 := Tryz.zeroValue151
  t46 := Tryz.underlying213
  a46 := Tryz.isAgg213
  z46 := Tryz.sizeOf213
  v46 := Tryz.zeroValue213
  t51 := Tryz.underlying56
  a51 := Tryz.isAgg56
  z51 := Tryz.sizeOf56
  v51 := Tryz.zeroValue56
  t53 := Tryz.underlying196
  a53 := Tryz.isAgg196
  z53 := Tryz.sizeOf196
  v53 := Tryz.zeroValue196
  t171 := Tryz.underlying195
  a171 := Tryz.isAgg195
  z171 := Tryz.sizeOf195
  v171 := Tryz.zeroValue195
  t173 := Tryz.underlying199
  a173 := Tryz.isAgg199
  z173 := Tryz.sizeOf199
  v173 := Tryz.zeroValue199
  t212 := Tryz.underlying211
  a212 := Tryz.isAgg211
  z212 := Tryz.sizeOf211
  v212 := Tryz.zeroValue211
  t213 := Tryz.underlying212
  a213 := Tryz.isAgg212
  z213 := Tryz.sizeOf212
  t232 := Tryz.underlying220
  a232 := Tryz.isAgg220
  z232 := Tryz.sizeOf220
  v232 := Tryz.zeroValue220
  t233 := Tryz.underlying221
  a233 := Tryz.isAgg221
  z233 := Tryz.sizeOf221
  v233 := Tryz.zeroValue221
  g17 := by kernel_rfl
  g18 := by kernel_rfl
  g19 := by kernel_rfl }
open Go.RowKit Go.Sort Go.Lib in
theorem Tryz.internal_strconv_Itoa_small (i : Nat) (hi : i < 100) (w : World) :
    Calls Tryz.prog 78 #[.int .i64 i] w fun e w' => e = .returned (.string ⟨(Lib.decDigits i).toArray⟩) ∧ w' = w := Any.internal_strconv_Itoa_small Tryz.lays243 i hi w
def Tryz.laysM171_ren : Go.Shelf.Ren := ⟨fun | 171 => 46 | 243 => 78 | 246 => 98 | 283 => 114 | 284 => 115 | 285 => 116 | 286 => 117 | 129 => 126 | 317 => 125 | 318 => 127 | 319 => 128 | 320 => 129 | 337 => 132 | 338 => 133 | n => n, fun | 3 => 3 | 9 => 9 | 2 => 2 | 4 => 4 | 171 => 195 | 0 => 0 | 53 => 196 | 37 => 151 | 5 => 5 | 173 => 199 | 212 => 211 | 51 => 56 | 20 => 20 | 213 => 212 | 46 => 213 | 232 => 220 | 233 => 221 | n => n, fun | 17 => 0 | 18 => 2 | 19 => 3 | n => n⟩
theorem Tryz.laysM171 : Go.Proofs.LaysM.n171 Tryz.prog Tryz.laysM171_ren := {
  mixed := by kernel_rfl
  f129 := Tryz.func126.trans (congrArg some (by kernel_rfl))
  f171 := Tryz.func46.trans (congrArg some (by kernel_rfl))
  f243 := Tryz.func78.trans (congrArg some (by kernel_rfl))
  f246 := Tryz.func98.trans (congrArg some (by kernel_rfl))
  f283 := Tryz.func114.trans (congrArg some (by kernel_rfl))
  f284 := Tryz.func115.trans (congrArg some (by kernel_rfl))
  f285 := Tryz.func116.trans (congrArg some (by kernel_rfl))
  f286 := Tryz.func117.trans (congrArg some (by kernel_rfl))
  f317 := Tryz.func125.trans (congrArg some (by kernel_rfl))
  f318 := Tryz.func127.trans (congrArg some (by kernel_rfl))
  f319 := Tryz.func128.trans (congrArg some (by kernel_rfl))
  f320 := Tryz.func129.trans (congrArg some (by kernel_rfl))
  f337 := Tryz.func132.trans (congrArg some (by kernel_rfl))
  f338 := Tryz.func133.trans (congrArg some (by kernel_rfl))
  t0 := Tryz.underlying0
  a0 := Tryz.isAgg0
  z0 := Tryz.sizeOf0
  v0 := Tryz.zeroValue0
  t2 := Tryz.underlying2
  a2 := Tryz.isAgg2
  z2 := Tryz.sizeOf2
  v2 := Tryz.zeroValue2
  t3 := Tryz.underlying3
  a3 := Tryz.isAgg3
  z3 := Tryz.sizeOf3
  v3 := Tryz.zeroValue3
  t4 := Tryz.underlying4
  a4 := Tryz.isAgg4
  z4 := Tryz.sizeOf4
  v4 := Tryz.zeroValue4
  t5 := Tryz.underlying5
  a5 := Tryz.isAgg5
  z5 := Tryz.sizeOf5
  v5 := Tryz.zeroValue5
  t9 := Tryz.underlying9
  a9 := Tryz.isAgg9
  z9 := Tryz.sizeOf9
  v9 := Tryz.zeroValue9
  t20 := Tryz.underlying20
  a20 := Tryz.isAgg20
  z20 := Tryz.sizeOf20
  v20 := Tryz.zeroValue20
  t37 := Tryz.underlying151
  a37 := Tryz.isAgg151
  z37 := Tryz.sizeOf151
  v37 := Tryz.zeroValue151
  t46 := Tryz.underlying213
  a46 := Tryz.isAgg213
  z46 := Tryz.sizeOf213
  v46 := Tryz.zeroValue213
  t51 := Tryz.underlying56
  a51 := Tryz.isAgg56
  z51 := Tryz.sizeOf56
  v51 := Tryz.zeroValue56
  t53 := Tryz.underlying196
  a53 := Tryz.isAgg196
  z53 := Tryz.sizeOf196
  v53 := Tryz.zeroValue196
  t171 := Tryz.underlying195
  a171 := Tryz.isAgg195
  z171 := Tryz.sizeOf195
  v171 := Tryz.zeroValue195
  t173 := Tryz.underlying199
  a173 := Tryz.isAgg199
  z173 := Tryz.sizeOf199
  v173 := Tryz.zeroValue199
  t212 := Tryz.underlying211
  a212 := Tryz.isAgg211
  z212 := Tryz.sizeOf211
  v212 := Tryz.zeroValue211
  t213 := Tryz.underlying212
  a213 := Tryz.isAgg212
  z213 := Tryz.sizeOf212
  t232 := Tryz.underlying220
  a232 := Tryz.isAgg220
  z232 := Tryz.sizeOf220
  v232 := Tryz.zeroValue220
  t233 := Tryz.underlying221
  a233 := Tryz.isAgg221
  z233 := Tryz.sizeOf221
  v233 := Tryz.zeroValue221
  g17 := by kernel_rfl
  g18 := by kernel_rfl
  g19 := by kernel_rfl
  i0 := by kernel_rfl
  i2 := by kernel_rfl
  i3 := by kernel_rfl
  i4 := by kernel_rfl
  i5 := by kernel_rfl
  i9 := by kernel_rfl
  i20 := by kernel_rfl
  i37 := by kernel_rfl
  i46 := by kernel_rfl
  i51 := by kernel_rfl
  i53 := by kernel_rfl
  i171 := by kernel_rfl
  i173 := by kernel_rfl
  i212 := by kernel_rfl
  i232 := by kernel_rfl
  i233 := by kernel_rfl
  m17 := by kernel_rfl
  m18 := by kernel_rfl
  m19 := by kernel_rfl }
open Go.RowKit Go.Sort Go.Lib in
theorem Tryz.strconv_Itoa (n : Int) (h0 : -9223372036854775808 ≤ n) (h1 : n ≤ 9223372036854775807) (w : World) (htab : Lib.TabIs Tryz.prog w "internal/strconv.uint64pow10" .u64 Lib.pow10Tab) :
    Calls Tryz.prog 46 #[.int .i64 n] w fun e w' => e = .returned (.string ⟨(Lib.itoa n).toArray⟩) ∧ ∃ k os, w' = grow (w.drewN k) os := Any.strconv_Itoa Tryz.laysM171 n h0 h1 w htab
def Tryz.lays171_ren : Go.Shelf.Ren := ⟨fun | 171 => 46 | 243 => 78 | 246 => 98 | 283 => 114 | 284 => 115 | 285 => 116 | 286 => 117 | 129 => 126 | 317 => 125 | 318 => 127 | 319 => 128 | 320 => 129 | 337 => 132 | 338 => 133 | n => n, fun | 3 => 3 | 9 => 9 | 2 => 2 | 4 => 4 | 171 => 195 | 0 => 0 | 53 => 196 | 37 => 151 | 5 => 5 | 173 => 199 | 212 => 211 | 51 => 56 | 20 => 20 | 213 => 212 | 46 => 213 | 232 => 220 | 233 => 221 | n => n, fun | 17 => 0 | 18 => 2 | 19 => 3 | n => n⟩
theorem Tryz.lays171 : Go.Proofs.Lays.n171 Tryz.prog Tryz.lays171_ren := {
  mixed := by kernel_rfl
  f129 := Tryz.func126.trans (congrArg some (by kernel_rfl))
  f171 := Tryz.func46.trans (congrArg some (by kernel_rfl))
  f243 := Tryz.func78.trans (congrArg some (by kernel_rfl))
  f246 := Tryz.func98.trans (congrArg some (by kernel_rfl))
  f283 := Tryz.func114.trans (congrArg some (by kernel_rfl))
  f284 := Tryz.func115.trans (congrArg some (by kernel_rfl))
  f285 := Tryz.func116.trans (congrArg some (by kernel_rfl))
  f286 := Tryz.func117.trans (congrArg some (by kernel_rfl))
  f317 := Tryz.func125.trans (congrArg some (by kernel_rfl))
  f318 := Tryz.func127.trans (congrArg some (by kernel_rfl))
  f319 := Tryz.func128.trans (congrArg some (by kernel_rfl))
  f320 := Tryz.func129.trans (congrArg some (by kernel_rfl))
  f337 := Tryz.func132.trans (congrArg some (by kernel_rfl))
  f338 := Tryz.func133.trans (congrArg some (by kernel_rfl))
  t0 := Tryz.underlying0
  a0 := Tryz.isAgg0
  z0 := Tryz.sizeOf0
  v0 := Tryz.zeroValue0
  t2 := Tryz.underlying2
  a2 := Tryz.isAgg2
  z2 := Tryz.sizeOf2
  v2 := Tryz.zeroValue2
  t3 := Tryz.underlying3
  a3 := Tryz.isAgg3
  z3 := Tryz.sizeOf3
  v3 := Tryz.zeroValue3
  t4 := Tryz.underlying4
  a4 := Tryz.isAgg4
  z4 := Tryz.sizeOf4
  v4 := Tryz.zeroValue4
  t5 := Tryz.underlying5
  a5 := Tryz.isAgg5
  z5 := Tryz.sizeOf5
  v5 := Tryz.zeroValue5
  t9 := Tryz.underlying9
  a9 := Tryz.isAgg9
  z9 := Tryz.sizeOf9
  v9 := Tryz.zeroValue9
  t20 := Tryz.underlying20
  a20 := Tryz.isAgg20
  z20 := Tryz.sizeOf20
  v20 := Tryz.zeroValue20
  t37 := Tryz.underlying151
  a37 := Tryz.isAgg151
  z37 := Tryz.sizeOf151
  v37 := Tryz.zeroValue151
  t46 := Tryz.underlying213
  a46 := Tryz.isAgg213
  z46 := Tryz.sizeOf213
  v46 := Tryz.zeroValue213
  t51 := Tryz.underlying56
  a51 := Tryz.isAgg56
  z51 := Tryz.sizeOf56
  v51 := Tryz.zeroValue56
  t53 := Tryz.underlying196
  a53 := Tryz.isAgg196
  z53 := Tryz.sizeOf196
  v53 := Tryz.zeroValue196
  t171 := Tryz.underlying195
  a171 := Tryz.isAgg195
  z171 := Tryz.sizeOf195
  v171 := Tryz.zeroValue195
  t173 := Tryz.underlying199
  a173 := Tryz.isAgg199
  z173 := Tryz.sizeOf199
  v173 := Tryz.zeroValue199
  t212 := Tryz.underlying211
  a212 := Tryz.isAgg211
  z212 := Tryz.sizeOf211
  v212 := Tryz.zeroValue211
  t213 := Tryz.underlying212
  a213 := Tryz.isAgg212
  z213 := Tryz.sizeOf212
  t232 := Tryz.underlying220
  a232 := Tryz.isAgg220
  z232 := Tryz.sizeOf220
  v232 := Tryz.zeroValue220
  t233 := Tryz.underlying221
  a233 := Tryz.isAgg221
  z233 := Tryz.sizeOf221
  v233 := Tryz.zeroValue221
  g17 := by kernel_rfl
  g18 := by kernel_rfl
  g19 := by kernel_rfl }
open Go.RowKit Go.Sort Go.Lib in
theorem Tryz.strconv_Itoa_small (i : Nat) (hi : i < 100) (w : World) :
    Calls Tryz.prog 46 #[.int .i64 i] w fun e w' => e = .returned (.string ⟨(Lib.decDigits i).toArray⟩) ∧ w' = w := Any.strconv_Itoa_small Tryz.lays171 i hi w
def Tryz.lays206_ren : Go.Shelf.Ren := ⟨fun | 206 => 131 | n => n, fun | 9 => 9 | 4 => 4 | 3 => 3 | n => n, fun | n => n⟩
theorem Tryz.lays206 : Go.Proofs.Lays.n206 Tryz.prog Tryz.lays206_ren := {
  mixed := by kernel_rfl
  f206 := Tryz.func131.trans (congrArg some (by kernel_rfl))
  t3 := Tryz.underlying3
  a3 := Tryz.isAgg3
  z3 := Tryz.sizeOf3
  v3 := Tryz.zeroValue3
  t4 := Tryz.underlying4
  a4 := Tryz.isAgg4
  z4 := Tryz.sizeOf4
  v4 := Tryz.zeroValue4
  t9 := Tryz.underlying9
  a9 := Tryz.isAgg9
  z9 := Tryz.sizeOf9
  v9 := Tryz.zeroValue9 }
open Go.RowKit Go.Lib in
theorem Tryz.stringslite_HasPrefix (s p : ByteArray) (w : World) :
    Calls Tryz.prog 131 #[.string s, .string p] w fun e w' => e = .returned (.bool (Lib.hasPrefix s.data.toList p.data.toList)) ∧ w' = w := Any.stringslite_HasPrefix Tryz.lays206 s p w
def Tryz.lays99_ren : Go.Shelf.Ren := ⟨fun | 99 => 124 | 206 => 131 | n => n, fun | 9 => 9 | 4 => 4 | 3 => 3 | n => n, fun | n => n⟩
theorem Tryz.lays99 : Go.Proofs.Lays.n99 Tryz.prog Tryz.lays99_ren := {
  mixed := by kernel_rfl
  f99 := Tryz.func124.trans (congrArg some (by kernel_rfl))
  f206 := Tryz.func131.trans (congrArg some (by kernel_rfl))
  t3 := Tryz.underlying3
  a3 := Tryz.isAgg3
  z3 := Tryz.sizeOf3
  v3 := Tryz.zeroValue3
  t4 := Tryz.underlying4
  a4 := Tryz.isAgg4
  z4 := Tryz.sizeOf4
  v4 := Tryz.zeroValue4
  t9 := Tryz.underlying9
  a9 := Tryz.isAgg9
  z9 := Tryz.sizeOf9
  v9 := Tryz.zeroValue9 }
open Go.RowKit Go.Lib in
theorem Tryz.strings_HasPrefix (s p : ByteArray) (w : World) :
    Calls Tryz.prog 124 #[.string s, .string p] w fun e w' => e = .returned (.bool (Lib.hasPrefix s.data.toList p.data.toList)) ∧ w' = w := Any.strings_HasPrefix Tryz.lays99 s p w
end Go.Proofs

/- What the listed package-level variables hold, and that it stays so; 'Ret': a call that gives a value and turns no old memory. -/
namespace Go.Proofs.YtkjpdciccablpaaGreatDoor
open Go.RowKit

/-- The call gives v; of what was there before nothing has turned. -/
abbrev Ret (f : FuncId) (args : Array Value) (w : World) (v : Value) : Prop := Calls Tryz.prog f args w fun e w' => e = .returned v ∧ Below w.heap.size w w'

theorem chain {w w1 w2 : World} (h : Below w.heap.size w w1) (k : Below w1.heap.size w1 w2) : Below w.heap.size w w2 := h.trans (k.mono h.size)
theorem off_alloc {w w1 : World} {o : Obj} (k : Below (w.alloc o).heap.size (w.alloc o) w1) : Below w.heap.size w w1 := chain ((Below.refl _ _).alloc (Nat.le_refl _) o) k
theorem off_alloc' {w w1 : World} {o : Obj} (k : Below (w.heap.size + 1) (w.alloc o) w1) : Below w.heap.size w w1 := ((Below.refl _ _).alloc (Nat.le_refl _) o).trans (k.mono (Nat.le_succ _))

theorem off_drew {w w1 : World} (k : Below w.drew.heap.size w.drew w1) : Below w.heap.size w w1 := ⟨k.os, k.tape, k.output, k.size, k.block⟩

/-- The library's table lies as it was laid, and the program's variables have their shapes. -/
structure Env (w : World) : Prop where
  tab : ∃ g, g < w.heap.size ∧ Tryz.prog.globalNamed "internal/strconv.uint64pow10" = some g ∧ Lib.TabIs Tryz.prog w "internal/strconv.uint64pow10" .u64 Lib.pow10Tab
  shp : w.ShapedOpen Tryz.prog
/-- .. and strconv's two sentinels. -/
structure EnvP (w : World) : Prop extends Env w where
  syn : ∃ tp p g, g < w.heap.size ∧ Tryz.prog.globalNamed "strconv.ErrSyntax" = some g ∧ w.var? Tryz.prog "strconv.ErrSyntax" = some #[.iface tp p]
  rng : ∃ tp p g, g < w.heap.size ∧ Tryz.prog.globalNamed "strconv.ErrRange" = some g ∧ w.var? Tryz.prog "strconv.ErrRange" = some #[.iface tp p]
theorem Env.on {w w' : World} (h : Env w) (hb : Below w.heap.size w w') : Env w' := by
  obtain ⟨⟨c, hc, hd, ht⟩, hs⟩ := h
  exact ⟨⟨c, Nat.lt_of_lt_of_le hc hb.size, hd, var?_below hb hd hc ht⟩, hs.keptBut (hb.frame (fun _ => False)) (fun _ hp => hp.elim)⟩
theorem EnvP.on {w w' : World} (h : EnvP w) (hb : Below w.heap.size w w') : EnvP w' := by
  obtain ⟨he, ⟨tp, p, g, hg, hn, hv⟩, ⟨tq, q, k, hk, hm, hu⟩⟩ := h
  exact ⟨he.on hb, ⟨tp, p, g, Nat.lt_of_lt_of_le hg hb.size, hn, var?_below hb hn hg hv⟩, ⟨tq, q, k, Nat.lt_of_lt_of_le hk hb.size, hm, var?_below hb hm hk hu⟩⟩
theorem Env.alloc {w : World} (h : Env w) (o : Obj) : Env (w.alloc o) := h.on ((Below.refl _ _).alloc (Nat.le_refl _) o)
theorem Env.drew {w : World} (h : Env w) : Env w.drew := h.on (Below.refl _ _).drew
theorem EnvP.alloc {w : World} (h : EnvP w) (o : Obj) : EnvP (w.alloc o) := h.on ((Below.refl _ _).alloc (Nat.le_refl _) o)
theorem EnvP.drew {w : World} (h : EnvP w) : EnvP w.drew := h.on (Below.refl _ _).drew
theorem Env.tabIs {w : World} (h : Env w) : Lib.TabIs Tryz.prog w "internal/strconv.uint64pow10" .u64 Lib.pow10Tab := by
  obtain ⟨_, _, _, ht⟩ := h.tab
  exact ht

/-- A block of one cell that the call made keeps it over a call. -/
theorem keep_new {w w' : World} {x : Value} {t : TypeId} (hb : Below (w.alloc (.cells #[x] t)).heap.size (w.alloc (.cells #[x] t)) w') : w'.cell? ⟨w.heap.size, 0, none⟩ = some x := by
  rw [hb.cell (p := ⟨w.heap.size, 0, none⟩) (by simp), World.cell?_alloc_new]; rfl
theorem keep_new_drew {w w' : World} {x : Value} {t : TypeId} (hb : Below ((w.alloc (.cells #[x] t)).drew).heap.size ((w.alloc (.cells #[x] t)).drew) w') : w'.cell? ⟨w.heap.size, 0, none⟩ = some x :=
  keep_new (w' := w') ⟨hb.os, hb.tape, hb.output, hb.size, hb.block⟩
/-- Strings that differ, in the walk's spelling. -/
theorem str_ext {a b : ByteArray} (h : a.data.toList = b.data.toList) : a = b := ByteArray.ext (Array.ext' h)
theorem str_beq_ne {a b : ByteArray} (h : a ≠ b) : (a.toList == b.toList) = false := by
  rw [beq_eq_false_iff_ne, ByteArray.toList_eq, ByteArray.toList_eq]
  exact fun e => h (str_ext e)
theorem str_beq_same (a : ByteArray) : (a.toList == a.toList) = true := by simp
end Go.Proofs.YtkjpdciccablpaaGreatDoor

/- What the rows' lists of package-level variables give; one world for the witness, in which each lies as its initialiser lays it. Written by mkcard.py. -/
namespace Go.Proofs.YtkjpdciccablpaaGreatDoor
open Go.ChangeShapes Go.WideShapes Go.ChangeAt Go.RowKit
set_option maxRecDepth 100000

theorem own : ownKnob Tryz.prog.godebug = none := by kernel_rfl
theorem lt_of_var {W : World} {n : String} {g : Nat} {cs : Array Value} (hg : Tryz.prog.globalNamed n = some g) (hv : W.var? Tryz.prog n = some cs) : g < W.heap.size := by
  unfold World.var? at hv
  simp only [hg, Option.bind_some] at hv
  rcases Nat.lt_or_ge g W.heap.size with h | h
  · exact h
  · rw [Array.getElem?_eq_none h] at hv
    cases hv
theorem g_math_bits_deBruijn32tab : Tryz.prog.globalNamed "math/bits.deBruijn32tab" = some 2 := by kernel_rfl
theorem ty_math_bits_deBruijn32tab : (Tryz.prog.globals[2]?).map (·.type) = some 220 := by kernel_rfl
theorem g_math_bits_deBruijn64tab : Tryz.prog.globalNamed "math/bits.deBruijn64tab" = some 3 := by kernel_rfl
theorem ty_math_bits_deBruijn64tab : (Tryz.prog.globals[3]?).map (·.type) = some 221 := by kernel_rfl
theorem g_internal_strconv_uint64pow10 : Tryz.prog.globalNamed "internal/strconv.uint64pow10" = some 0 := by kernel_rfl
theorem ty_internal_strconv_uint64pow10 : (Tryz.prog.globals[0]?).map (·.type) = some 211 := by kernel_rfl
theorem laid_out_b : laidOutB Tryz.prog = true := by kernel_rfl
theorem slices_full : ((List.range Tryz.prog.types.size).all fun t => match Tryz.prog.underlying t with | some (.slice e) => decide (0 < Tryz.prog.cellsOf e) | _ => true) = true := by kernel_rfl
theorem env_0 {W : World} (h : laidMetH Tryz.prog [("math/bits.deBruijn32tab", Rows.laid_math_bits_deBruijn32tab), ("math/bits.deBruijn64tab", Rows.laid_math_bits_deBruijn64tab), ("internal/strconv.uint64pow10", Rows.laid_internal_strconv_uint64pow10)] W) (hs : W.ShapedOpen Tryz.prog) : Env W := by
  have v_internal_strconv_uint64pow10 : Lib.TabIs Tryz.prog W "internal/strconv.uint64pow10" .u64 Lib.pow10Tab := Lib.tabIs_of_head g_internal_strconv_uint64pow10 ty_internal_strconv_uint64pow10 Tryz.underlying211 Tryz.underlying196 (by kernel_rfl) (by kernel_rfl) h.tail.tail
  exact ⟨⟨_, lt_of_var g_internal_strconv_uint64pow10 v_internal_strconv_uint64pow10, g_internal_strconv_uint64pow10, v_internal_strconv_uint64pow10⟩, hs⟩
noncomputable def low : Nat := (World.holding Tryz.prog default ⟨#[], #[], []⟩).heap.size
noncomputable def laidWorld (os : Os) : World :=
  let w0 := World.holding Tryz.prog os ⟨#[], #[], []⟩
  { w0 with heap := (((w0.heap.modify 2 fun
      | .cells _ t frozen => .cells #[.int .u8 0, .int .u8 1, .int .u8 28, .int .u8 2, .int .u8 29, .int .u8 14, .int .u8 24, .int .u8 3, .int .u8 30, .int .u8 22, .int .u8 20, .int .u8 15, .int .u8 25, .int .u8 17, .int .u8 4, .int .u8 8, .int .u8 31, .int .u8 27, .int .u8 13, .int .u8 23, .int .u8 21, .int .u8 19, .int .u8 16, .int .u8 7, .int .u8 26, .int .u8 12, .int .u8 18, .int .u8 6, .int .u8 11, .int .u8 5, .int .u8 10, .int .u8 9] t frozen
      | o => o).modify 3 fun
      | .cells _ t frozen => .cells #[.int .u8 0, .int .u8 1, .int .u8 56, .int .u8 2, .int .u8 57, .int .u8 49, .int .u8 28, .int .u8 3, .int .u8 61, .int .u8 58, .int .u8 42, .int .u8 50, .int .u8 38, .int .u8 29, .int .u8 17, .int .u8 4, .int .u8 62, .int .u8 47, .int .u8 59, .int .u8 36, .int .u8 45, .int .u8 43, .int .u8 51, .int .u8 22, .int .u8 53, .int .u8 39, .int .u8 33, .int .u8 30, .int .u8 24, .int .u8 18, .int .u8 12, .int .u8 5, .int .u8 63, .int .u8 55, .int .u8 48, .int .u8 27, .int .u8 60, .int .u8 41, .int .u8 37, .int .u8 16, .int .u8 46, .int .u8 35, .int .u8 44, .int .u8 21, .int .u8 52, .int .u8 32, .int .u8 23, .int .u8 11, .int .u8 54, .int .u8 26, .int .u8 40, .int .u8 15, .int .u8 34, .int .u8 20, .int .u8 31, .int .u8 10, .int .u8 25, .int .u8 14, .int .u8 19, .int .u8 9, .int .u8 13, .int .u8 8, .int .u8 7, .int .u8 6] t frozen
      | o => o).modify 0 fun
      | .cells _ t frozen => .cells #[.int .u64 1, .int .u64 10, .int .u64 100, .int .u64 1000, .int .u64 10000, .int .u64 100000, .int .u64 1000000, .int .u64 10000000, .int .u64 100000000, .int .u64 1000000000, .int .u64 10000000000, .int .u64 100000000000, .int .u64 1000000000000, .int .u64 10000000000000, .int .u64 100000000000000, .int .u64 1000000000000000, .int .u64 10000000000000000, .int .u64 100000000000000000, .int .u64 1000000000000000000, .int .u64 10000000000000000000] t frozen
      | o => o) }
end Go.Proofs.YtkjpdciccablpaaGreatDoor

/- Arguments opened, whatever their types: numbers, bools, strings, structs and arrays of these; and every argument's reading kept over a call that turns no old memory. No program in sight. -/
namespace Go.Proofs.YtkjpdciccablpaaGreatDoor
open Go.ChangeShapes Go.WideShapes Go.RowKit

section
variable {H : Type} {enc : TypeId × Value → H} {P : Program}

theorem kept_arg (hl : laidOutB P = true) (hz : ((List.range P.types.size).all fun t => match P.underlying t with | some (.slice e) => decide (0 < P.cellsOf e) | _ => true) = true)
    {t : TypeId} (hT : InBook P t t) (hr : P.readableRec t = true) {w w' : World} {v : Value} {d : DataW H} {p : List MemPlace}
    (h : DataW.Trod enc P w 0 (fun _ => true) true t v d p) (hb : Below w.heap.size w w') : DataW.Trod enc P w' 0 (fun b => decide (b < w.heap.size)) true t v d p := by
  obtain ⟨n, hn⟩ := h
  have hlt := DataW.trod_lt n _ _ _ hn
  have hc := DataW.trod_carry (w' := w') n _ _ _ hn (fun q hq => by
    have hq' := hlt q hq
    cases q with
    | cell b off => exact hb.cell (p := ⟨b, off, none⟩) hq'
    | map b => exact hb.block b hq')
  exact DataW.Trod.respare (T := InBook P t) (kids_book hl hr) (fun a e ha => slices_full_of P hz a e ha.1) hT ⟨n, hc⟩ (fun q hq => by simpa using hlt q hq)

inductive Leaf
  | int (k : IntKind) | bool | str
def Leaf.ok : Leaf → Value → Prop
  | .int k, v => ∃ n, v = .int k n ∧ (Lit.int k n).wf = true
  | .bool, v => ∃ b, v = .bool b
  | .str, v => ∃ s : ByteArray, v = .string s ∧ s.size ≤ maxLen
def OkL : List Leaf → List Value → Prop
  | [], [] => True
  | l :: ls, v :: vs => l.ok v ∧ OkL ls vs
  | _, _ => False
theorem OkL_nil {l : List Value} (h : OkL [] l) : l = [] := by
  cases l with
  | nil => rfl
  | cons a r => exact h.elim
theorem OkL_cons {x : Leaf} {ls : List Leaf} {l : List Value} (h : OkL (x :: ls) l) : ∃ v r, l = v :: r ∧ x.ok v ∧ OkL ls r := by
  cases l with
  | nil => exact h.elim
  | cons v r => exact ⟨v, r, rfl, h.1, h.2⟩
theorem OkL_append : ∀ {a : List Leaf} {xs : List Value} {b : List Leaf} {ys : List Value}, OkL a xs → OkL b ys → OkL (a ++ b) (xs ++ ys)
  | [], [], _, _, _, h => h
  | _ :: _, _ :: _, _, _, h1, h2 => ⟨h1.1, OkL_append h1.2 h2⟩
  | [], _ :: _, _, _, h, _ => h.elim
  | _ :: _, [], _, _, h, _ => h.elim
theorem OkL_length : ∀ {a : List Leaf} {xs : List Value}, OkL a xs → xs.length = a.length
  | [], [], _ => rfl
  | _ :: _, _ :: _, h => by simp [OkL_length h.2]
  | [], _ :: _, h => h.elim
  | _ :: _, [], h => h.elim

def fieldsL (g : TypeId → Option (List Leaf)) (size : TypeId → Nat) (tot : Nat) : Nat → List Field → Option (List Leaf)
  | off, [] => if off = tot then some [] else none
  | off, f :: fs => match g f.type with
    | some ls => if f.offset = off ∧ size f.type = ls.length then (fieldsL g size tot (off + ls.length) fs).map (ls ++ ·) else none
    | none => none
def leaves (P : Program) : Nat → TypeId → Option (List Leaf)
  | 0, _ => none
  | n + 1, t => match P.underlying t with
    | some (.int k) => some [.int k]
    | some .bool => some [.bool]
    | some .string => some [.str]
    | some (.array m e) => match leaves P n e with
      | some ls => if P.cellsOf e = ls.length ∧ P.cellsOf t = m * ls.length then some (List.replicate m ls).flatten else none
      | none => none
    | some (.struct fs) => fieldsL (leaves P n) P.cellsOf (P.cellsOf t) 0 fs.toList
    | _ => none

variable {w : World} {base : Nat} {spare : Nat → Bool} {held : Bool}

theorem fieldsL_ok {g : TypeId → Option (List Leaf)} {size : TypeId → Nat} {tot : Nat} {cs : List Value} (hlen : cs.length = tot) {Tr : TypeId → List Value → Prop} (hg : ∀ t ls cs, g t = some ls → Tr t cs → OkL ls cs) :
    ∀ (fs : List Field) (off : Nat) (ls : List Leaf), fieldsL g size tot off fs = some ls → (∀ f ∈ fs, Tr f.type ((cs.drop f.offset).take (size f.type))) → OkL ls (cs.drop off)
  | [], off, ls, h, _ => by
    simp only [fieldsL] at h
    split at h
    · rename_i e
      injection h with h
      rw [← h, e, ← hlen, List.drop_length]
      trivial
    · cases h
  | f :: fs, off, ls, h, hf => by
    simp only [fieldsL] at h
    split at h
    · rename_i l1 hl1
      split at h
      · rename_i e
        obtain ⟨r, hr, hls⟩ := Option.map_eq_some_iff.1 h
        have h1 := hg _ _ _ hl1 (hf f (List.mem_cons_self ..))
        have h2 := fieldsL_ok hlen hg fs _ _ hr (fun x hx => hf x (List.mem_cons_of_mem _ hx))
        rw [e.1, e.2] at h1
        rw [← hls, ← List.take_append_drop l1.length (cs.drop off), List.drop_drop]
        exact OkL_append h1 h2
      · cases h
    · cases h
theorem array_ok {ls : List Leaf} : ∀ (m : Nat) (cs : List Value), cs.length = m * ls.length → (∀ i, i < m → OkL ls ((cs.drop (i * ls.length)).take ls.length)) → OkL (List.replicate m ls).flatten cs
  | 0, cs, hl, _ => by
    have : cs = [] := List.eq_nil_of_length_eq_zero (by simpa using hl)
    subst this
    trivial
  | m + 1, cs, hl, h => by
    rw [List.replicate_succ, List.flatten_cons, ← List.take_append_drop ls.length cs]
    refine OkL_append (by simpa using h 0 (Nat.succ_pos _)) (array_ok m _ (by rw [List.length_drop, hl, Nat.succ_mul]; omega) (fun i hi => ?_))
    have := h (i + 1) (by omega)
    rw [Nat.succ_mul, Nat.add_comm] at this
    rw [List.drop_drop]
    exact this
theorem leaves_ok : ∀ (n : Nat) (t : TypeId) (ls : List Leaf) (cs : List Value) (fuel : Nat) (x : DataW H × List MemPlace), leaves P n t = some ls → DataW.trod enc P w base spare held fuel t cs = some x → OkL ls cs
  | 0, _, _, _, _, _, h, _ => by simp [leaves] at h
  | n + 1, t, ls, cs, fuel, x, h, hx => by
    simp only [leaves] at h
    split at h
    · rename_i k hu
      injection h with h; subst h
      obtain ⟨m, rfl, _, hw⟩ := DataW.trod_int hu hx
      exact ⟨⟨m, rfl, hw⟩, trivial⟩
    · rename_i hu
      injection h with h; subst h
      obtain ⟨b, rfl, _⟩ := DataW.trod_bool hu hx
      exact ⟨⟨b, rfl⟩, trivial⟩
    · rename_i hu
      injection h with h; subst h
      obtain ⟨s, rfl, _, hs⟩ := DataW.trod_string hu hx
      exact ⟨⟨s, rfl, hs⟩, trivial⟩
    · rename_i m e hu
      split at h
      · rename_i l1 hl1
        split at h
        · rename_i hc
          injection h with h; subst h
          obtain ⟨xs, k, _, _, hlen, hxl, hi⟩ := DataW.trod_array hu hx
          refine array_ok m cs (by rw [hlen, hc.2]) (fun i him => ?_)
          have h1 := hi i him
          rw [List.getElem?_eq_getElem (by omega), hc.1] at h1
          exact leaves_ok n _ _ _ _ _ hl1 h1
        · cases h
      · cases h
    · rename_i fs hu
      obtain ⟨xs, k, _, _, hlen, hxl, hi⟩ := DataW.trod_struct hu hx
      have := fieldsL_ok (Tr := fun t cs => ∃ x, DataW.trod enc P w base spare held k t cs = some x) hlen (fun t l c hl ⟨y, hy⟩ => leaves_ok n _ _ _ _ _ hl hy) fs.toList 0 ls h (fun f hf => by
        obtain ⟨i, hi', hfi⟩ := List.getElem_of_mem hf
        have hil : i < fs.size := by simpa using hi'
        have h1 := hi i f (by rw [Array.getElem?_eq_getElem hil]; exact congrArg some (by simpa using hfi))
        rw [List.getElem?_eq_getElem (by omega)] at h1
        exact ⟨_, h1⟩)
      simpa using this
    · cases h
theorem okWide_array {r : Reach} {b0 : Nat} {t e : TypeId} {n : Nat} {v : Value} (ht : P.underlying t = some (.array n e)) (h : Value.okWide P w r b0 t v) : ∃ cs, v = .agg cs := by
  simp only [Value.okWide, ht] at h
  obtain ⟨cs, h1, _⟩ := h
  exact ⟨cs, h1⟩
theorem open_agg {r : Reach} {b0 : Nat} {t : TypeId} {fs : Array Field} {v : Value} {d : DataW H} {p : List MemPlace} {ls : List Leaf} (n : Nat) (hs : P.underlying t = some (.struct fs)) (hl : leaves P n t = some ls)
    (hv : Value.okWide P w r b0 t v) (h : DataW.Trod enc P w base spare held t v d p) : ∃ l : List Value, v = .agg l.toArray ∧ OkL ls l := by
  obtain ⟨cs, rfl, _⟩ := okWide_struct hs hv
  obtain ⟨fuel, hf⟩ := h
  exact ⟨cs.toList, rfl, leaves_ok n t ls _ fuel _ hl hf⟩
theorem open_arr {r : Reach} {b0 : Nat} {t e : TypeId} {m : Nat} {v : Value} {d : DataW H} {p : List MemPlace} {ls : List Leaf} (n : Nat) (hs : P.underlying t = some (.array m e)) (hl : leaves P n t = some ls)
    (hv : Value.okWide P w r b0 t v) (h : DataW.Trod enc P w base spare held t v d p) : ∃ l : List Value, v = .agg l.toArray ∧ OkL ls l := by
  obtain ⟨cs, rfl⟩ := okWide_array hs hv
  obtain ⟨fuel, hf⟩ := h
  exact ⟨cs.toList, rfl, leaves_ok n t ls _ fuel _ hl hf⟩
end
end Go.Proofs.YtkjpdciccablpaaGreatDoor

/- Slices among the arguments, opened. No program in sight. -/
namespace Go.Proofs.YtkjpdciccablpaaGreatDoor
open Go.ChangeShapes Go.WideShapes Go.RowKit
section
variable {H : Type} {enc : TypeId × Value → H} {P : Program} {w : World} {base : Nat} {spare : Nat → Bool} {held : Bool}
/-- A slice of numbers, bools, strings, or structs and arrays of these. -/
structure Sl (w : World) (v : Value) (ls : List Leaf) (n : Nat) (E : Nat → List Value) : Prop where
  ex : ∃ p cap, v = .slice p n cap ∧ n ≤ cap ∧ cap ≤ maxLen ∧ (n = 0 ∨ ∃ b off, p = some ⟨b, off, none⟩ ∧ b < w.heap.size ∧ ∀ i, i < n → ∀ j, j < ls.length → w.cell? ⟨b, off + i * ls.length + j, none⟩ = (E i)[j]?)
  ok : ∀ i, i < n → OkL ls (E i)
theorem open_sl {t e : TypeId} {v : Value} {d : DataW H} {p : List MemPlace} {ls : List Leaf} (n : Nat) (ht : P.underlying t = some (.slice e)) (hl : leaves P n e = some ls) (hk : P.cellsOf e = ls.length) (h0 : 0 < ls.length) {r : Reach} {b0 : Nat} (hval : Value.okWide P w r b0 t v)
    (h : DataW.Trod enc P w base spare held t v d p) : ∃ m E, Sl w v ls m E := by
  obtain ⟨p0, len0, cap0, rfl⟩ := okWide_slice ht hval
  obtain ⟨fuel, hf⟩ := h
  rcases Go.Deep.open_slice ht hf with ⟨hv, _⟩ | ⟨a, len, cap, m, n', D, Pl, hv, hb, hlc, hcm, hm, _, hx⟩
  · replace hv : Value.slice p0 len0 cap0 = _ := (List.cons.inj hv).1
    exact ⟨0, fun _ => [], ⟨none, 0, hv, Nat.le_refl _, by unfold maxLen; omega, .inl rfl⟩, fun i hi => absurd hi (Nat.not_lt_zero _)⟩
  · replace hv : Value.slice p0 len0 cap0 = _ := (List.cons.inj hv).1
    have hlm : len ≤ m := by rw [hm]; split <;> omega
    have each : ∀ i, i < len → ∃ l : List Value, OkL ls l ∧ ∀ j, j < ls.length → w.cell? ((a.add (i * ls.length)).add j) = l[j]? := fun i hi => by
      obtain ⟨cs', h1, h2⟩ := hx i (by omega)
      rw [hk] at h1
      obtain ⟨_, hlen, hcell⟩ := World.cells?_some h1
      exact ⟨cs', leaves_ok n e ls cs' _ _ hl h2, hcell⟩
    classical
    refine ⟨len, fun i => if hi : i < len then Classical.choose (each i hi) else [], ⟨some a, cap, hv, hlc, hcm, ?_⟩, fun i hi => ?_⟩
    · by_cases hz : len = 0
      · exact .inl hz
      · refine .inr ?_
        have hpos : 0 < len := Nat.pos_of_ne_zero hz
        obtain ⟨l0, ok0, hc0⟩ := each 0 hpos
        have hs0 := hc0 0 h0
        have hlen0 := OkL_length ok0
        have ha : a.spot = none ∧ a.block < w.heap.size := by
          rw [Nat.zero_mul] at hs0
          have e0 : (a.add 0).add 0 = a := by simp [Addr.add]
          rw [e0, List.getElem?_eq_getElem (by omega)] at hs0
          unfold World.cell? at hs0
          split at hs0
          · rename_i c _ _ hblk
            refine ⟨?_, (Array.getElem?_eq_some_iff.1 hblk).1⟩
            cases hsp : a.spot with
            | none => rfl
            | some x => rw [hsp] at hs0; simp at hs0
          · cases hs0
        obtain ⟨b, off, sp⟩ := a
        obtain ⟨rfl, hblk⟩ := ha
        refine ⟨b, off, rfl, hblk, fun i hi j hj => ?_⟩
        have := (Classical.choose_spec (each i hi)).2 j hj
        rw [Go.Deep.add_add] at this
        simp only [dif_pos hi]
        rw [← this]
        unfold Addr.add
        by_cases hij : i * ls.length + j = 0
        · rw [if_pos hij, Nat.add_assoc, hij, Nat.add_zero]
        · rw [if_neg hij, Nat.add_assoc]
    · simp only [dif_pos hi]
      exact (Classical.choose_spec (each i hi)).1
end
end Go.Proofs.YtkjpdciccablpaaGreatDoor

/- What a call keeps of a world. -/
namespace Go.Proofs.YtkjpdciccablpaaGreatDoor
open Go.RowKit
/-- A cell, a bound, Env, Below (the call's own fact first, so that it tells the world). -/
theorem keep_cell {W W' : World} {b o : Nat} {v : Value} (hb : Below W.heap.size W W') (hl : b < W.heap.size) (h : W.cell? ⟨b, o, none⟩ = some v) : W'.cell? ⟨b, o, none⟩ = some v := (hb.cell (p := ⟨b, o, none⟩) hl).trans h
theorem keep_lt {W W' : World} {a : Nat} (hb : Below W.heap.size W W') (h : a < W.heap.size) : a < W'.heap.size := Nat.lt_of_lt_of_le h hb.size
theorem keep_env {W W' : World} (hb : Below W.heap.size W W') (h : Env W) : Env W' := h.on hb
theorem keep_envp {W W' : World} (hb : Below W.heap.size W W') (h : EnvP W) : EnvP W' := h.on hb
theorem keep_below {w W W' : World} (hb : Below W.heap.size W W') (h : Below w.heap.size w W) : Below w.heap.size w W' := chain h hb
/-- A call made behind blocks that were laid since the last one. -/
theorem under {w W w1 : World} (k : Below W.heap.size W w1) (h : Below w.heap.size w W := by go_grown) : Below w.heap.size w w1 := h.trans (k.mono h.size)
theorem bcell {W w1 : World} (hb : Below W.heap.size W w1) : (∀ b o, b < W.heap.size → w1.cell? ⟨b, o, none⟩ = W.cell? ⟨b, o, none⟩) ∧ (∀ b o, b < W.heap.size → w1.frozen? ⟨b, o, none⟩ = W.frozen? ⟨b, o, none⟩) :=
  ⟨fun b o h => hb.cell (p := ⟨b, o, none⟩) h, fun b o h => hb.frozen (p := ⟨b, o, none⟩) h⟩
theorem wp_join {P : Program} {c : Code} {Q : Exit → Act → World → Prop} {a a' : Act} {w w' : World} {x : Exit} (h : Q x a' w' → c.wp P Q a w) (h2 : Q x a' w') : c.wp P Q a w := h h2
end Go.Proofs.YtkjpdciccablpaaGreatDoor

/- What a region holds may be made to say more; blocks that are known whole. -/
namespace Go.Proofs.YtkjpdciccablpaaGreatDoor
open Go.RowKit
/-- What is held may be made to say more behind an operation. -/
theorem wpAnyH_stronger {P : Program} {md : Region.Mode} {ops : Array Oper} {Q : Exit → Act → World → Prop} {S S' : World → Prop} (hS : ∀ w, S' w → S w) :
    ∀ (fuel : Nat) (listed : Array Bool) (a : Act) (w : World), wpAnyH P md ops Q S' fuel listed a w → wpAnyH P md ops Q S fuel listed a w
  | 0, _, _, _, h => h
  | fuel + 1, _, _, _, h => ⟨h.1, fun i hi => wpOp_mono (fun a' w' h' => ⟨hS _ h'.1, wpAnyH_stronger hS fuel _ a' w' h'.2⟩) (h.2 i hi)⟩
theorem wpAnyH_more {P : Program} {md : Region.Mode} {ops : Array Oper} {Q : Exit → Act → World → Prop} {S S' : World → Prop} {fuel : Nat} {listed : Array Bool} {a : Act} {w : World}
    (hS : ∀ w, S' w → S w) (h0 : S' w) (h : S' w → wpAnyH P md ops Q S' fuel listed a w) : wpAnyH P md ops Q S fuel listed a w := wpAnyH_stronger hS _ _ _ _ (h h0)
/-- A block known whole stays behind a call, and behind a new block. -/
structure Row (W : World) (x : Nat) (cs : Array Value) (t : TypeId) : Prop where
  eq : W.heap[x]? = some (.cells cs t (0, 0))
theorem Row.lt {W : World} {x : Nat} {cs : Array Value} {t : TypeId} (h : Row W x cs t) : x < W.heap.size := by
  have h := h.eq
  rcases Nat.lt_or_ge x W.heap.size with h' | h'
  · exact h'
  · simp [Array.getElem?_eq_none h'] at h
theorem Row.on {W W' : World} {x : Nat} {cs : Array Value} {t : TypeId} (h : Row W x cs t) (hb : Below W.heap.size W W') : Row W' x cs t := ⟨(hb.block x (Row.lt h)).trans h.eq⟩
theorem Row.new {W : World} {cs : Array Value} {t : TypeId} : Row (W.alloc (.cells cs t)) W.heap.size cs t := ⟨by show (W.heap.push _)[W.heap.size]? = _; simp⟩
theorem Row.cell {W : World} {x : Nat} {cs : Array Value} {t : TypeId} (h : Row W x cs t) (j : Nat) : W.cell? ⟨x, j, none⟩ = cs[j]? := by simp [World.cell?, h.eq]
theorem Row.free {W : World} {x : Nat} {cs : Array Value} {t : TypeId} (h : Row W x cs t) (j : Nat) : W.frozen? ⟨x, j, none⟩ = false := by simp [World.frozen?, h.eq]
theorem Row.set {W : World} {x : Nat} {cs : Array Value} {t : TypeId} (h : Row W x cs t) (j : Nat) (v : Value) : Row (W.setCell ⟨x, j, none⟩ v) x (cs.setIfInBounds j v) t :=
  ⟨by have hl := h.lt; have h := h.eq; simp [World.setCell, Array.getElem?_modify, h]⟩
theorem Row.other {W : World} {x y : Nat} {cs : Array Value} {t : TypeId} (h : Row W x cs t) (hn : y ≠ x) (j : Nat) (v : Value) : Row (W.setCell ⟨y, j, none⟩ v) x cs t :=
  ⟨by have h := h.eq; simp [World.setCell, Array.getElem?_modify, h, hn]⟩
theorem cell_other {W : World} {x y j k : Nat} {u : Value} (h : W.cell? ⟨x, k, none⟩ = some u) (hn : y ≠ x) (v : Value) : (W.setCell ⟨y, j, none⟩ v).cell? ⟨x, k, none⟩ = some u :=
  (World.cell?_setCell_far W _ _ v hn).trans h
theorem below_alloc (W : World) (O : Obj) : Below W.heap.size W (W.alloc O) := by go_grown
theorem add_run {a b d : ByteArray} (h : a ++ b = d) (hs : a.size + b.size ≤ 1000000) (W : World) : (Op.stringOp .add a b).run Tryz.prog W = .ok (.string d) W := by
  rw [← h]
  exact run_string_add_sum W _ _ (by omega)
/-- The cells of a block, all at once, behind a call. -/
theorem keep_cells {W W' : World} {n : Nat} {cs : Array Value} (hb : Below W.heap.size W W') (hl : n < W.heap.size) (h : ∀ j, W.cell? ⟨n, j, none⟩ = cs[j]?) : ∀ j, W'.cell? ⟨n, j, none⟩ = cs[j]? := fun j => (hb.cell (p := ⟨n, j, none⟩) hl).trans (h j)
end Go.Proofs.YtkjpdciccablpaaGreatDoor

/- Decimal numerals in plain Lean: reading back what was written. No program in sight. -/
namespace Go.Proofs.YtkjpdciccablpaaGreatDoor
open Go.Lib (decDigits nDigits parseUintM parseUintB)

def dstep (acc : Nat) (c : UInt8) : Nat := acc * 10 + (c.toNat - 48)
def valFrom (acc : Nat) (l : List UInt8) : Nat := l.foldl dstep acc
def isDig (c : UInt8) : Bool := decide (48 ≤ c.toNat ∧ c.toNat ≤ 57)

theorem valFrom_cons (acc : Nat) (c : UInt8) (r : List UInt8) : valFrom acc (c :: r) = valFrom (acc * 10 + (c.toNat - 48)) r := by simp only [valFrom, List.foldl_cons, dstep]
theorem valFrom_nil (acc : Nat) : valFrom acc [] = acc := by simp only [valFrom, List.foldl_nil]
theorem valFrom_one (acc : Nat) (c : UInt8) : valFrom acc [c] = acc * 10 + (c.toNat - 48) := by rw [valFrom_cons, valFrom_nil]
theorem valFrom_append (l r : List UInt8) (acc : Nat) : valFrom acc (l ++ r) = valFrom (valFrom acc l) r := by simp only [valFrom, List.foldl_append]
theorem isDig_digit (d : Nat) (h : d < 10) : isDig (UInt8.ofNat (48 + d)) = true := by
  unfold isDig
  have : (UInt8.ofNat (48 + d)).toNat = 48 + d := by
    rw [UInt8.toNat_ofNat']; omega
  rw [this]; simp; omega
theorem digit_toNat (d : Nat) (h : d < 10) : (UInt8.ofNat (48 + d)).toNat - 48 = d := by
  have : (UInt8.ofNat (48 + d)).toNat = 48 + d := by
    rw [UInt8.toNat_ofNat']; omega
  omega
theorem decDigits_step (u : Nat) : decDigits u = if u < 10 then [UInt8.ofNat (48 + u)] else decDigits (u / 10) ++ [UInt8.ofNat (48 + u % 10)] := by
  rw [decDigits]
  by_cases h : u < 10 <;> simp [h]
theorem decDigits_all (u : Nat) : (decDigits u).all isDig = true := by
  induction u using Nat.strongRecOn with
  | ind u ih =>
    rw [decDigits_step]
    by_cases h : u < 10
    · rw [if_pos h, List.all_cons, isDig_digit u h]; rfl
    · rw [if_neg h, List.all_append, ih (u / 10) (by omega)]
      rw [List.all_cons, isDig_digit (u % 10) (by omega)]; rfl
theorem val_decDigits (u : Nat) : valFrom 0 (decDigits u) = u := by
  induction u using Nat.strongRecOn with
  | ind u ih =>
    rw [decDigits_step]
    by_cases h : u < 10
    · rw [if_pos h, valFrom_one, digit_toNat u h, Nat.zero_mul, Nat.zero_add]
    · rw [if_neg h, valFrom_append, ih (u / 10) (by omega)]
      rw [valFrom_one, digit_toNat (u % 10) (by omega)]; omega
theorem decDigits_inj {a b : Nat} (h : decDigits a = decDigits b) : a = b := by
  rw [← val_decDigits a, h, val_decDigits]
theorem decDigits_ne_nil (u : Nat) : decDigits u ≠ [] := by
  rw [decDigits_step]; by_cases h : u < 10 <;> simp [h]
theorem decDigits_length_pos (u : Nat) : 1 ≤ (decDigits u).length := by
  have := decDigits_ne_nil u
  cases h : decDigits u with
  | nil => exact absurd h this
  | cons c r => simp
theorem valFrom_le (l : List UInt8) : ∀ acc, acc ≤ valFrom acc l := by
  induction l with
  | nil => intro acc; rw [valFrom_nil]; exact Nat.le_refl _
  | cons c l ih => intro acc; rw [valFrom_cons]; exact Nat.le_trans (by omega) (ih (acc * 10 + (c.toNat - 48)))
theorem parseUintM_ok (M : Nat) (l : List UInt8) : ∀ acc u, parseUintM M acc l = .ok u → u = valFrom acc l ∧ l.all isDig = true ∧ (acc ≤ M → u ≤ M) := by
  induction l with
  | nil => intro acc u h; simp only [parseUintM, Lib.NumEnd.ok.injEq] at h; subst h; exact ⟨(valFrom_nil acc).symm, rfl, fun h => h⟩
  | cons c r ih =>
    intro acc u h
    simp only [parseUintM] at h
    by_cases h1 : 48 ≤ c.toNat ∧ c.toNat ≤ 57
    · rw [if_pos h1] at h
      by_cases h2 : 1844674407370955162 ≤ acc
      · rw [if_pos h2] at h; cases h
      · rw [if_neg h2] at h
        by_cases h3 : M < acc * 10 + (c.toNat - 48)
        · rw [if_pos h3] at h; cases h
        · rw [if_neg h3] at h
          obtain ⟨a, b, d⟩ := ih _ _ h
          refine ⟨by rw [valFrom_cons]; exact a, ?_, fun _ => d (by omega)⟩
          rw [List.all_cons, b]; simp [isDig, h1]
    · rw [if_neg h1] at h; cases h
theorem parseUintM_val (M : Nat) (hM : M < 18446744073709551616) (l : List UInt8) : ∀ acc, l.all isDig = true → valFrom acc l ≤ M → parseUintM M acc l = .ok (valFrom acc l) := by
  induction l with
  | nil => intro acc _ _; rw [valFrom_nil]; rfl
  | cons c r ih =>
    intro acc h hv
    rw [List.all_cons, Bool.and_eq_true] at h
    have h1 : 48 ≤ c.toNat ∧ c.toNat ≤ 57 := by simpa [isDig] using h.1
    rw [valFrom_cons] at hv
    have hle := valFrom_le r (acc * 10 + (c.toNat - 48))
    simp only [parseUintM]
    rw [if_pos h1, if_neg (by omega), if_neg (by omega), ih _ h.2 hv, valFrom_cons]
theorem parseUintB_decDigits (B u : Nat) (hB : B ≤ 64) (h : u ≤ 2 ^ B - 1) : parseUintB B (decDigits u) = .ok u := by
  have hp : 2 ^ B ≤ 2 ^ 64 := Nat.pow_le_pow_right (by omega) hB
  have h64 : (2 : Nat) ^ 64 = 18446744073709551616 := by decide
  have hpos : 0 < 2 ^ B := Nat.pow_pos (by omega)
  unfold parseUintB
  rw [if_neg (decDigits_ne_nil u), parseUintM_val _ (by omega) _ _ (decDigits_all u) (by rw [val_decDigits]; exact h), val_decDigits]
theorem parseUintB_ok (B u : Nat) (l : List UInt8) (h : parseUintB B l = .ok u) : u = valFrom 0 l ∧ l.all isDig = true ∧ u ≤ 2 ^ B - 1 ∧ l ≠ [] := by
  unfold parseUintB at h
  by_cases hl : l = []
  · rw [if_pos hl] at h; cases h
  · rw [if_neg hl] at h
    obtain ⟨a, b, c⟩ := parseUintM_ok _ _ _ _ h
    exact ⟨a, b, c (Nat.zero_le _), hl⟩
theorem dec_len (k : Nat) : ∀ u, u < 10 ^ (k + 1) → (decDigits u).length ≤ k + 1 := by
  induction k with
  | zero => intro u h; rw [decDigits_step, if_pos (by simpa using h)]; simp
  | succ k ih =>
    intro u h
    rw [decDigits_step]
    by_cases h1 : u < 10
    · rw [if_pos h1]; simp
    · rw [if_neg h1, List.length_append]
      have := ih (u / 10) (by rw [Nat.div_lt_iff_lt_mul (by omega)]; rw [Nat.pow_succ] at h; omega)
      simp; omega
theorem nDigits_le_10 (u : Nat) (h : u < 10000000000) : (decDigits u).length ≤ 10 := dec_len 9 u (by simpa using h)
theorem nDigits_le_20 (u : Nat) (h : u ≤ 18446744073709551615) : (decDigits u).length ≤ 20 := dec_len 19 u (by
  have : (10 : Nat) ^ (19 + 1) = 100000000000000000000 := by decide
  omega)
theorem valFrom_lt (l : List UInt8) : ∀ acc, l.all isDig = true → valFrom acc l < (acc + 1) * 10 ^ l.length := by
  induction l with
  | nil => intro acc _; rw [valFrom_nil]; simp
  | cons c r ih =>
    intro acc h
    rw [List.all_cons, Bool.and_eq_true] at h
    have h1 : 48 ≤ c.toNat ∧ c.toNat ≤ 57 := by simpa [isDig] using h.1
    rw [valFrom_cons, List.length_cons]
    refine Nat.lt_of_lt_of_le (ih (acc * 10 + (c.toNat - 48)) h.2) ?_
    rw [Nat.pow_succ, Nat.mul_comm (10 ^ r.length) 10, ← Nat.mul_assoc]
    exact Nat.mul_le_mul_right _ (by omega)
theorem valFrom_lt_10 (l : List UInt8) (h : l.all isDig = true) (hl : l.length ≤ 10) : valFrom 0 l < 10000000000 := by
  have := valFrom_lt l 0 h
  have h2 : (10 : Nat) ^ l.length ≤ 10 ^ 10 := Nat.pow_le_pow_right (by omega) hl
  omega
theorem len_bytes (s : ByteArray) : s.data.toList.length = s.size := by rw [Array.length_toList]; rfl
end Go.Proofs.YtkjpdciccablpaaGreatDoor

/- Slices of one's own whose elements have k cells; what turns but for some blocks; maps whose keys are ints (chapter 37). -/
namespace Go.Proofs.YtkjpdciccablpaaGreatDoor
open Go.RowKit
open Go.ChangeMaps (setBlock)
open Go.MapKept (Stamped IsKey)
set_option linter.unusedVariables false
set_option linter.unusedSimpArgs false
/-- Nothing that lay there has turned but blocks of F. -/
structure But (F : Nat → Prop) (w w' : World) : Prop where
  os : w'.os = w.os
  tape : w'.tape = w.tape
  output : w'.output = w.output
  size : w.heap.size ≤ w'.heap.size
  block : ∀ k, k < w.heap.size → ¬ F k → w'.heap[k]? = w.heap[k]?
def FreshL (w w' : World) (b : Nat) : Prop := w.heap.size ≤ b ∧ b < w'.heap.size
theorem but_of {w w' : World} (F : Nat → Prop) (h : Below w.heap.size w w') : But F w w' := ⟨h.os, h.tape, h.output, h.size, fun k hk _ => h.block k hk⟩
theorem But.refl (F : Nat → Prop) (w : World) : But F w w := but_of F (Below.refl _ _)
theorem But.trans {F G : Nat → Prop} {a b c : World} (h : But F a b) (k : But G b c) (hG : ∀ i, i < a.heap.size → G i → F i) : But F a c :=
  ⟨k.os.trans h.os, k.tape.trans h.tape, k.output.trans h.output, Nat.le_trans h.size k.size, fun i hi hF => (k.block i (Nat.lt_of_lt_of_le hi h.size) (fun hg => hF (hG i hi hg))).trans (h.block i hi hF)⟩
theorem But.on {F : Nat → Prop} {a b c : World} (h : But F a b) (k : Below b.heap.size b c) : But F a c := h.trans (but_of (fun _ => False) k) (fun _ _ h => h.elim)
theorem But.below {F : Nat → Prop} {w w' : World} {B : Nat} (h : But F w w') (hB : B ≤ w.heap.size) (hF : ∀ i, i < B → ¬ F i) : Below B w w' :=
  ⟨h.os, h.tape, h.output, h.size, fun k hk => h.block k (Nat.lt_of_lt_of_le hk hB) (hF k hk)⟩
theorem But.row {F : Nat → Prop} {W W' : World} {x : Nat} {cs : Array Value} {t : TypeId} (hb : But F W W') (h : Row W x cs t) (hx : ¬ F x) : Row W' x cs t := ⟨(hb.block x h.lt hx).trans h.eq⟩
theorem setBlock_heap {W : World} {b : Nat} {o : Obj} (k : Nat) (hn : k ≠ b) : (setBlock W b o).heap[k]? = W.heap[k]? := by
  show (W.heap.setIfInBounds b o)[k]? = _
  rw [Array.getElem?_setIfInBounds, if_neg (fun e => hn e.symm)]
theorem setBlock_size {W : World} {b : Nat} {o : Obj} : (setBlock W b o).heap.size = W.heap.size := by
  show (W.heap.setIfInBounds b o).size = _
  simp
theorem setBlock_at {W : World} {b : Nat} {o : Obj} (h : b < W.heap.size) : (setBlock W b o).heap[b]? = some o := by
  show (W.heap.setIfInBounds b o)[b]? = _
  rw [Array.getElem?_setIfInBounds, if_pos rfl, if_pos h]
theorem But.grown {F : Nat → Prop} {a b c : World} {row : Option Nat} (h : But F a b) (hg : b.grownBy c row) (hF : ∀ k, row = some k → k < a.heap.size → F k) : But F a c :=
  ⟨hg.os.trans h.os, hg.tape.trans h.tape, hg.output.trans h.output, Nat.le_trans h.size hg.size, fun k hk hn => (hg.block k (Nat.lt_of_lt_of_le hk h.size) (fun e => hn (hF k e.symm hk))).trans (h.block k hk hn)⟩
theorem But.setCell {F : Nat → Prop} {a b : World} {y : Nat} (h : But F a b) (hF : y < a.heap.size → F y) (j : Nat) (u : Value) : But F a (b.setCell ⟨y, j, none⟩ u) :=
  ⟨h.os, h.tape, h.output, by have := h.size; simp [World.setCell]; omega, fun k hk hn => by
    rw [← h.block k hk hn]
    exact Below.heap_setCell b _ u k (fun e => hn (by rw [show k = y from e]; exact hF (by rw [show y = k from e.symm]; exact hk)))⟩
theorem But.setBlock {F : Nat → Prop} {a b : World} {y : Nat} (h : But F a b) (hF : y < a.heap.size → F y) (o : Obj) : But F a (setBlock b y o) :=
  ⟨h.os, h.tape, h.output, by have := h.size; rw [setBlock_size]; omega, fun k hk hn => (setBlock_heap k (fun e => hn (by rw [e]; exact hF (by rw [← e]; exact hk)))).trans (h.block k hk hn)⟩
theorem But.drew {F : Nat → Prop} {a b : World} (h : But F a b) : But F a b.drew := ⟨h.os, h.tape, h.output, h.size, h.block⟩
theorem But.wide {F G : Nat → Prop} {a b : World} (h : But F a b) (hG : ∀ k, F k → G k) : But G a b := ⟨h.os, h.tape, h.output, h.size, fun k hk hn => h.block k hk (fun hf => hn (hG k hf))⟩
theorem row_grown {W W' : World} {row : Option Nat} {x : Nat} {cs : Array Value} {t : TypeId} (h : Row W x cs t) (hg : W.grownBy W' row) (hn : row ≠ some x) : Row W' x cs t := ⟨(hg.block x h.lt (fun e => hn e.symm)).trans h.eq⟩
theorem Row.setBlock {W : World} {x b : Nat} {cs : Array Value} {t : TypeId} {o : Obj} (h : Row W x cs t) (hn : x ≠ b) : Row (setBlock W b o) x cs t := ⟨(setBlock_heap x hn).trans h.eq⟩
theorem row_ne_row {W : World} {x y : Nat} {cs cs' : Array Value} {t t' : TypeId} (r : Row W x cs t) (r' : Row W y cs' t') (ht : t ≠ t') : x ≠ y := fun e => by
  have h1 := r'.eq
  rw [← e, r.eq] at h1
  injection h1 with h1
  injection h1 with _ h1
  exact ht h1
theorem heap_ne {W : World} {a b : Nat} {o o' : Obj} (h : W.heap[a]? = some o) (h' : W.heap[b]? = some o') (hn : o ≠ o') : a ≠ b := fun e => hn (by rw [e, h'] at h; exact (Option.some.inj h).symm)
/-! Elements of k cells. -/
theorem flat_len {k : Nat} : ∀ {L : List (List Value)}, (∀ c ∈ L, c.length = k) → L.flatten.length = L.length * k
  | [], _ => by simp
  | c :: L, h => by
    have h1 := h c (by simp)
    have ih := flat_len (L := L) (fun x hx => h x (by simp [hx]))
    rw [List.flatten_cons, List.length_append, h1, ih, List.length_cons, Nat.succ_mul]
    omega
theorem flat_get {k : Nat} : ∀ {L : List (List Value)} (h : ∀ c ∈ L, c.length = k) {j : Nat} {c : List Value} {t : Nat}, t < k → L[j]? = some c → L.flatten[j * k + t]? = c[t]?
  | [], _, j, c, t, _, hj => by simp at hj
  | d :: L, h, 0, c, t, ht, hj => by
    simp at hj
    subst hj
    have h1 := h d (by simp)
    rw [List.flatten_cons, Nat.zero_mul, Nat.zero_add, List.getElem?_append_left (by omega)]
  | d :: L, h, j + 1, c, t, ht, hj => by
    have h1 := h d (by simp)
    have e : (j + 1) * k + t - d.length = j * k + t := by rw [h1, Nat.succ_mul]; omega
    rw [List.flatten_cons, List.getElem?_append_right (by rw [h1, Nat.succ_mul]; omega), e]
    exact flat_get (fun x hx => h x (by simp [hx])) ht (by simpa using hj)
theorem flat_set {k : Nat} (u : Value) : ∀ {L : List (List Value)} (h : ∀ c ∈ L, c.length = k) {j : Nat} {c : List Value} {t : Nat}, t < k → L[j]? = some c → L.flatten.set (j * k + t) u = (L.set j (c.set t u)).flatten
  | [], _, j, c, t, _, hj => by simp at hj
  | d :: L, h, 0, c, t, ht, hj => by
    simp at hj
    subst hj
    have h1 := h d (by simp)
    rw [List.flatten_cons, Nat.zero_mul, Nat.zero_add, List.set_append, if_pos (by omega)]
    rfl
  | d :: L, h, j + 1, c, t, ht, hj => by
    have h1 := h d (by simp)
    have e : (j + 1) * k + t - d.length = j * k + t := by rw [h1, Nat.succ_mul]; omega
    rw [List.flatten_cons, List.set_append, if_neg (by rw [h1, Nat.succ_mul]; omega), e, flat_set u (fun x hx => h x (by simp [hx])) ht (by simpa using hj)]
    rfl
/-- A slice of one's own: its elements, each by its k cells. -/
def OwnsC (t : TypeId) (k b : Nat) (W : World) (v : Value) (L : List (List Value)) : Prop := (∀ c ∈ L, c.length = k) ∧ W.ownsRow b t k v L.length L.flatten
section
variable {t : TypeId} {k b : Nat} {W W' : World} {v : Value} {L : List (List Value)}
theorem OwnsC.nil (t : TypeId) (k b : Nat) (W : World) : OwnsC t k b W (.slice none 0 0) [] := ⟨by simp, World.ownsRow_nil _ _ _ _⟩
theorem OwnsC.lt (h : OwnsC t k b W v L) : ∀ i, v.ownBlock = some i → b ≤ i ∧ i < W.heap.size := World.ownsRow.lt h.2
theorem OwnsC.base {b' : Nat} (h : OwnsC t k b W v L) (hb : b' ≤ b) : OwnsC t k b' W v L := by
  refine ⟨h.1, h.2.1, ?_⟩
  rcases h.2.2 with h0 | ⟨g, cap, cur, h1, h2, h3⟩
  · exact .inl h0
  · exact .inr ⟨g, cap, cur, h1, Nat.le_trans hb h2, h3⟩
theorem OwnsC.via (h : OwnsC t k b W v L) (hb : ∀ i, v.ownBlock = some i → W'.heap[i]? = W.heap[i]?) : OwnsC t k b W' v L := by
  refine ⟨h.1, h.2.1, ?_⟩
  rcases h.2.2 with h0 | ⟨g, cap, cur, h1, h2, h3, h4⟩
  · exact .inl h0
  · exact .inr ⟨g, cap, cur, h1, h2, (hb g (by rw [h1]; rfl)).trans h3, h4⟩
theorem OwnsC.on (h : OwnsC t k b W v L) (hb : Below W.heap.size W W') : OwnsC t k b W' v L := h.via (fun i hi => hb.block i (h.lt i hi).2)
theorem OwnsC.block (h : OwnsC t k b W v L) {i : Nat} (hi : v.ownBlock = some i) : ∃ cur, W.heap[i]? = some (.cells cur t (0, 0)) := by
  rcases h.2.2 with ⟨h0, h1⟩ | ⟨g, cap, cur, h1, h2, h3, h4⟩
  · rw [h0] at hi; simp [Value.ownBlock] at hi
  · rw [h1] at hi
    cases hi
    exact ⟨cur, h3⟩
theorem OwnsC.ne_row (h : OwnsC t k b W v L) {x : Nat} {cs : Array Value} {t' : TypeId} (r : Row W x cs t') (ht : t' ≠ t) : v.ownBlock ≠ some x := fun e => by
  obtain ⟨cur, h1⟩ := h.block e
  rw [r.eq] at h1
  injection h1 with h1
  injection h1 with _ h1
  exact ht h1
theorem OwnsC.ne_own {t' : TypeId} {k' b' : Nat} {v' : Value} {L' : List (List Value)} (h : OwnsC t k b W v L) (h' : OwnsC t' k' b' W v' L') (ht : t' ≠ t) {i : Nat} (hi : v'.ownBlock = some i) : v.ownBlock ≠ some i := fun e => by
  obtain ⟨cur, h1⟩ := h.block e
  obtain ⟨cur', h2⟩ := h'.block hi
  rw [h1] at h2
  injection h2 with h2
  injection h2 with _ h2
  exact ht h2.symm
theorem OwnsC.ne_map (h : OwnsC t k b W v L) {m : Nat} {es : Array MapEntry} {c : Nat} (hm : W.heap[m]? = some (.map es c)) : v.ownBlock ≠ some m := fun e => by
  obtain ⟨cur, h1⟩ := h.block e
  rw [hm] at h1
  cases h1
theorem OwnsC.len (h : OwnsC t k b W v L) : ∃ a c, v = .slice a L.length c := by
  rcases h.2.2 with ⟨h0, h1⟩ | ⟨g, cap, cur, h1, _⟩
  · rw [h1]; exact ⟨none, 0, h0⟩
  · exact ⟨_, _, h1⟩
theorem OwnsC.cells (h : OwnsC t k b W v L) {j : Nat} {c : List Value} (hj : L[j]? = some c) : ∃ g cap, v = .slice (some ⟨g, 0, none⟩) L.length cap ∧ g < W.heap.size ∧ ∀ q, q < k → W.cell? ⟨g, j * k + q, none⟩ = c[q]? := by
  have hjl := (List.getElem?_eq_some_iff.1 hj).1
  rcases h.2.2 with ⟨h0, h1⟩ | ⟨g, cap, cur, h1, h2, h3, h4, h5, h6, h7⟩
  · omega
  · refine ⟨g, cap, h1, (Array.getElem?_eq_some_iff.1 h3).1, fun q hq => ?_⟩
    have e : W.cell? ⟨g, j * k + q, none⟩ = cur[j * k + q]? := by simp [World.cell?, h3]
    have hlt : j * k + q < L.length * k := by
      have : (j + 1) * k ≤ L.length * k := Nat.mul_le_mul_right k hjl
      rw [Nat.succ_mul] at this
      omega
    rw [e, ← flat_get h.1 hq hj, ← h7, List.getElem?_take, if_pos hlt, Array.getElem?_toList]
theorem OwnsC.free (h : OwnsC t k b W v L) {g n c : Nat} (hv : v = .slice (some ⟨g, 0, none⟩) n c) (j : Nat) : W.frozen? ⟨g, j, none⟩ = false := by
  obtain ⟨cur, h1⟩ := h.block (i := g) (by rw [hv]; rfl)
  exact (Row.free (⟨h1⟩ : Row W g cur t) j)
theorem OwnsC.put (h : OwnsC t k b W v L) {g n c j q : Nat} {e : List Value} (hv : v = .slice (some ⟨g, 0, none⟩) n c) (hj : L[j]? = some e) (hq : q < k) (u : Value) : OwnsC t k b (W.setCell ⟨g, j * k + q, none⟩ u) v (L.set j (e.set q u)) := by
  have hjl := (List.getElem?_eq_some_iff.1 hj).1
  have hlt : j * k + q < L.length * k := by
    have : (j + 1) * k ≤ L.length * k := Nat.mul_le_mul_right k hjl
    rw [Nat.succ_mul] at this
    omega
  have hall : ∀ x ∈ L.set j (e.set q u), x.length = k := fun x hx => by
    rcases List.mem_or_eq_of_mem_set hx with h1 | h1
    · exact h.1 x h1
    · rw [h1, List.length_set]; exact h.1 e (List.mem_of_getElem? hj)
  refine ⟨hall, by rw [flat_len hall], ?_⟩
  rcases h.2.2 with ⟨h0, h1⟩ | ⟨g', cap, cur, h1, h2, h3, h4, h5, h6, h7⟩
  · rw [hv] at h0; cases h0
  · obtain rfl : g = g' := by rw [hv] at h1; injection h1 with h1; injection h1 with h1; injection h1
    refine .inr ⟨g, cap, cur.setIfInBounds (j * k + q) u, by rw [List.length_set]; exact h1, h2, (Row.set (⟨h3⟩ : Row W g cur t) _ u).eq, by rw [List.length_set]; exact h4, h5, by rw [Array.size_setIfInBounds]; exact h6, ?_⟩
    rw [List.length_set, Array.toList_setIfInBounds, List.take_set, h7, flat_set u h.1 hq hj]
theorem OwnsC.other (h : OwnsC t k b W v L) {y : Nat} (hn : v.ownBlock ≠ some y) (j : Nat) (u : Value) : OwnsC t k b (W.setCell ⟨y, j, none⟩ u) v L := h.via fun i hi => Below.heap_setCell W _ u i (fun e => hn (by rw [show y = i from e.symm]; exact hi))
theorem OwnsC.grown {row : Option Nat} (h : OwnsC t k b W v L) (hg : W.grownBy W' row) (hn : ∀ i, v.ownBlock = some i → row ≠ some i) : OwnsC t k b W' v L := h.via fun i hi => hg.block i (h.lt i hi).2 (fun e => hn i hi e.symm)
theorem OwnsC.more {w1 : World} {v1 : Value} {n : Nat} {e : List Value} (h : OwnsC t k b W v L) (he : e.length = k) (hn : n = L.length + 1) (h1 : w1.ownsRow b t k v1 n (L.flatten ++ e)) : OwnsC t k b w1 v1 (L ++ [e]) := by
  refine ⟨fun c hc => ?_, ?_⟩
  · rcases List.mem_append.1 hc with hc | hc
    · exact h.1 c hc
    · rw [List.mem_singleton.1 hc]; exact he
  · rw [List.length_append, List.length_singleton, List.flatten_append, ← hn]
    simpa using h1
end
theorem row_src (W : World) (cs : Array Value) (t : TypeId) : ∀ (j : Nat) (v : Value), cs.toList[j]? = some v → (W.alloc (.cells cs t)).cell? ((⟨W.heap.size, 0, none⟩ : Addr).add j) = some v := by
  intro j v hv
  rw [show (⟨W.heap.size, 0, none⟩ : Addr).add j = ⟨W.heap.size, j, none⟩ by simp [Addr.add]; omega, Row.cell (Row.new (W := W)) j]
  simpa using hv
/-! Maps whose keys are ints. -/
def IMap (W : World) (m : Nat) (f : Int → Option Value) : Prop := ∃ es clock, W.heap[m]? = some (.map es clock) ∧ Stamped es clock ∧ (∀ x ∈ es.toList, IsKey (.int .i64) x.key) ∧ ∀ n v, f n = some v ↔ ∃ x ∈ es.toList, x.key = .int .i64 n ∧ x.val = v
theorem IMap.lt {W : World} {m : Nat} {f : Int → Option Value} (h : IMap W m f) : m < W.heap.size := by
  obtain ⟨es, c, h, _⟩ := h
  exact (Array.getElem?_eq_some_iff.1 h).1
theorem IMap.via {W W' : World} {m : Nat} {f : Int → Option Value} (h : IMap W m f) (hb : W'.heap[m]? = W.heap[m]?) : IMap W' m f := by
  obtain ⟨es, c, h, h2⟩ := h
  exact ⟨es, c, hb.trans h, h2⟩
theorem IMap.on {W W' : World} {m : Nat} {f : Int → Option Value} (h : IMap W m f) (hb : Below W.heap.size W W') : IMap W' m f := h.via (hb.block m h.lt)
theorem IMap.drew {W : World} {m : Nat} {f : Int → Option Value} (h : IMap W m f) : IMap W.drew m f := h
theorem IMap.ne_row {W : World} {m x : Nat} {f : Int → Option Value} {cs : Array Value} {t : TypeId} (h : IMap W m f) (r : Row W x cs t) : m ≠ x := fun e => by
  obtain ⟨es, c, h, h2⟩ := h
  rw [e, r.eq] at h
  cases h
theorem IMap.ne_own {W : World} {m : Nat} {f : Int → Option Value} {t : TypeId} {k b : Nat} {v : Value} {L : List (List Value)} (h : IMap W m f) (r : OwnsC t k b W v L) : v.ownBlock ≠ some m := by
  obtain ⟨es, c, h, h2⟩ := h
  exact r.ne_map h
theorem IMap.other {W : World} {m y : Nat} {f : Int → Option Value} (h : IMap W m f) (hn : m ≠ y) (j : Nat) (u : Value) : IMap (W.setCell ⟨y, j, none⟩ u) m f := h.via (Below.heap_setCell W _ u m (fun e => hn e))
theorem IMap.new (W : World) : IMap (W.alloc (.map #[] 0)) W.heap.size (fun _ => none) :=
  ⟨#[], 0, heap_alloc_new W _, MapKept.stamped_empty 0, by simp, by simp⟩
theorem key_uniq {es : Array MapEntry} {clock : Nat} (hs : Stamped es clock) {x y : MapEntry} (hx : x ∈ es.toList) (hy : y ∈ es.toList) (hk : x.key = y.key) : x = y := by
  have hp := ((MapKept.stamped_iff es clock).1 hs).2.2
  refine Classical.byContradiction fun hne => ?_
  rcases List.append_of_mem hx with ⟨pre, post, h1⟩
  rw [h1] at hp hy
  have hp1 := List.pairwise_append.1 hp
  have hp2 := List.pairwise_cons.1 hp1.2.1
  rcases List.mem_append.1 hy with hq | hq
  · exact hp1.2.2 y hq x (by simp) hk.symm
  · rcases List.mem_cons.1 hq with hq | hq
    · exact hne hq.symm
    · exact hp2.1 y hq hk
/-- A look-up. -/
theorem IMap.lookup {P : Program} {W : World} {m : Nat} {f : Int → Option Value} (h : IMap W m f) {mt kt et : TypeId} {z : Value} (hm : P.underlying mt = some (.map kt et)) (hk : P.underlying kt = some (.int .i64)) (hz : ∀ w, (zeroValue et).run P w = .ok z w) (n : Int) :
    (Instr.lookup mt (.map (some m)) (.int .i64 n) true).run P W = .ok (.tuple #[(f n).getD z, .bool (f n).isSome]) W := by
  obtain ⟨es, clock, hb, hs, hks, hf⟩ := h
  rcases MapKept.findNow_spec (d := .int .i64) (k := .int .i64 n) rfl es.toList 0 hks with ⟨h1, h2⟩ | ⟨j, e, h1, h2, h3⟩
  · have hn : f n = none := by
      cases hfn : f n with
      | none => rfl
      | some v =>
        obtain ⟨x, hx, hx2, _⟩ := (hf n v).1 hfn
        exact absurd hx2 (h2 x hx)
    simp [Instr.lookup, run_underlying hm, MapKept.run_getObj_map hb, MapKept.run_checkKey hk (show IsKey (.int .i64) (.int .i64 n) from rfl), MapKept.run_findKey hk h1, Result.andThen, hz, hn]
  · have hn : f n = some e.val := (hf n e.val).2 ⟨e, List.mem_of_getElem? h2, h3, rfl⟩
    simp [Instr.lookup, run_underlying hm, MapKept.run_getObj_map hb, MapKept.run_checkKey hk (show IsKey (.int .i64) (.int .i64 n) from rfl), MapKept.run_findKey hk h1, Result.andThen, hn]
def putM (f : Int → Option Value) (n : Int) (v : Value) : Int → Option Value := fun i => if i = n then some v else f i
def delM (f : Int → Option Value) (n : Int) : Int → Option Value := fun i => if i = n then none else f i
/-- A store under a new key. -/
theorem IMap.update {P : Program} {W : World} {m : Nat} {f : Int → Option Value} (h : IMap W m f) {mt kt et : TypeId} (hm : P.underlying mt = some (.map kt et)) (hk : P.underlying kt = some (.int .i64)) {n : Int} (hn : f n = none) (v : Value) :
    ∃ o, (Instr.mapUpdate mt (.map (some m)) (.int .i64 n) v).run P W = .ok () (setBlock W m o) ∧ IMap (setBlock W m o) m (putM f n v) := by
  have hlt := h.lt
  obtain ⟨es, clock, hb, hs, hks, hf⟩ := h
  rcases MapKept.findNow_spec (d := .int .i64) (k := .int .i64 n) rfl es.toList 0 hks with ⟨h1, h2⟩ | ⟨j, e, h1, h2, h3⟩
  · refine ⟨_, by simp [Instr.mapUpdate, run_underlying hm, MapKept.run_getObj_map hb, MapKept.run_checkKey hk (show IsKey (.int .i64) (.int .i64 n) from rfl), MapKept.run_findKey hk h1, MapKept.run_setObj_map _ hb, Result.andThen, setBlock], es.push ⟨.int .i64 n, v, clock⟩, clock + 1, setBlock_at hlt, MapKept.stamped_push hs h2, ?_, ?_⟩
    · intro x hx
      simp only [Array.toList_push, List.mem_append, List.mem_singleton] at hx
      rcases hx with hx | rfl
      · exact hks x hx
      · exact rfl
    · intro i u
      simp only [Array.toList_push, List.mem_append, List.mem_singleton]
      unfold putM
      split
      · rename_i hi
        subst hi
        constructor
        · intro hu
          exact ⟨_, .inr rfl, rfl, Option.some.inj hu⟩
        · rintro ⟨x, hx | rfl, hx2, hx3⟩
          · exact absurd hx2 (h2 x hx)
          · exact congrArg some hx3
      · rename_i hi
        rw [hf i u]
        constructor
        · rintro ⟨x, hx, hx2⟩
          exact ⟨x, .inl hx, hx2⟩
        · rintro ⟨x, hx | rfl, hx2, hx3⟩
          · exact ⟨x, hx, hx2, hx3⟩
          · injection hx2 with _ hx2
            exact absurd hx2.symm hi
  · have : f n = some e.val := (hf n e.val).2 ⟨e, List.mem_of_getElem? h2, h3, rfl⟩
    rw [hn] at this
    cases this
/-- A key is taken away. -/
theorem IMap.delete {P : Program} {W : World} {m : Nat} {f : Int → Option Value} (h : IMap W m f) {mt kt et ty : TypeId} (hm : P.underlying mt = some (.map kt et)) (hk : P.underlying kt = some (.int .i64)) {n : Int} {v : Value} (hn : f n = some v) :
    ∃ o, (Builtin.delete_ #[mt, kt] ty #[.map (some m), .int .i64 n]).run P W = .ok (.tuple #[]) (setBlock W m o) ∧ IMap (setBlock W m o) m (delM f n) := by
  have hlt := h.lt
  obtain ⟨es, clock, hb, hs, hks, hf⟩ := h
  rcases MapKept.findNow_spec (d := .int .i64) (k := .int .i64 n) rfl es.toList 0 hks with ⟨h1, h2⟩ | ⟨j, e, h1, h2, h3⟩
  · obtain ⟨x, hx, hx2, _⟩ := (hf n v).1 hn
    exact absurd hx2 (h2 x hx)
  · simp only [Nat.zero_add] at h1
    have hjl : j < es.size := by simpa using (List.getElem?_eq_some_iff.1 h2).1
    have hE : (es.eraseIdxIfInBounds j).toList = es.toList.eraseIdx j := by
      unfold Array.eraseIdxIfInBounds
      rw [dif_pos hjl]
      simp
    have hmem : ∀ x, x ∈ es.toList.eraseIdx j ↔ x ∈ es.toList ∧ x.key ≠ .int .i64 n := by
      intro x
      have hp := ((MapKept.stamped_iff es clock).1 hs).2.2
      have hsp : es.toList = es.toList.take j ++ e :: es.toList.drop (j + 1) := by
        obtain ⟨h5, h6⟩ := List.getElem?_eq_some_iff.1 h2
        rw [← h6, ← List.drop_eq_getElem_cons h5, List.take_append_drop]
      have hE2 : es.toList.eraseIdx j = es.toList.take j ++ es.toList.drop (j + 1) := List.eraseIdx_eq_take_drop_succ ..
      rw [hsp] at hp
      have hp1 := List.pairwise_append.1 hp
      have hp2 := List.pairwise_cons.1 hp1.2.1
      constructor
      · intro hx
        refine ⟨(List.eraseIdx_sublist _ _).subset hx, fun hxk => ?_⟩
        rw [hE2] at hx
        rcases List.mem_append.1 hx with hx | hx
        · exact hp1.2.2 x hx e (by simp) (hxk.trans h3.symm)
        · exact hp2.1 x hx (h3.trans hxk.symm)
      · rintro ⟨hx, hxk⟩
        rw [hE2]
        rw [hsp] at hx
        rcases List.mem_append.1 hx with hx | hx
        · exact List.mem_append.2 (.inl hx)
        · rcases List.mem_cons.1 hx with hx | hx
          · exact absurd (by rw [hx]; exact h3) hxk
          · exact List.mem_append.2 (.inr hx)
    refine ⟨_, by simp [Builtin.delete_, run_underlying hm, MapKept.run_getObj_map hb, MapKept.run_checkKey hk (show IsKey (.int .i64) (.int .i64 n) from rfl), MapKept.run_findKey hk h1, MapKept.run_setObj_map _ hb, Result.andThen, setBlock], es.eraseIdxIfInBounds j, clock, setBlock_at hlt, MapKept.stamped_erase hs j, ?_, ?_⟩
    · intro x hx
      rw [hE] at hx
      exact hks x ((hmem x).1 hx).1
    · intro i u
      rw [hE]
      unfold delM
      split
      · rename_i hi
        subst hi
        constructor
        · intro hu; cases hu
        · rintro ⟨x, hx, hx2, _⟩
          exact absurd hx2 ((hmem x).1 hx).2
      · rename_i hi
        rw [hf i u]
        constructor
        · rintro ⟨x, hx, hx2, hx3⟩
          refine ⟨x, (hmem x).2 ⟨hx, fun h => ?_⟩, hx2, hx3⟩
          rw [hx2] at h
          injection h with _ h
          exact hi h
        · rintro ⟨x, hx, hx2⟩
          exact ⟨x, ((hmem x).1 hx).1, hx2⟩
end Go.Proofs.YtkjpdciccablpaaGreatDoor

/- Generations in plain Lean: what the chapter's functions give. No program in sight. -/
namespace Go.Proofs.YtkjpdciccablpaaGreatDoor
open Go.Lib (decDigits)

def gErr (g : Int) : Int := if g = 0 then 2 else 0
def gLeft (g : Int) : Int := if g = 0 then 0 else 4294967295 - g
def gAfter (g n : Int) : Int := if g = 0 then 0 else if 4294967295 - g < n then 0 else g + n
def gAfterB (g n : Int) : Bool := decide (g ≠ 0 ∧ n ≤ 4294967295 - g)
def gNewer (a b : Int) : Bool := decide (a ≠ 0 ∧ b ≠ 0 ∧ b < a)
def gErr2 (a b : Int) : Int := if a = 0 ∨ b = 0 then 2 else 0
def digits (n : Nat) : ByteArray := ⟨(decDigits n).toArray⟩
def gText (g : Int) : ByteArray := if g = 0 then ⟨#[]⟩ else digits g.toNat
def isGen (l : List UInt8) : Bool := decide (decDigits (valFrom 0 l) = l ∧ 1 ≤ valFrom 0 l ∧ valFrom 0 l ≤ 4294967295)
def gParse (l : List UInt8) : Int := if isGen l then (valFrom 0 l : Int) else 0
def gParseE (l : List UInt8) : Int := if isGen l then 0 else 9

theorem gErr_zero : gErr 0 = 2 := rfl
theorem gErr_pos {g : Int} (h : 1 ≤ g) : gErr g = 0 := by unfold gErr; rw [if_neg (by omega)]
theorem gLeft_zero : gLeft 0 = 0 := rfl
theorem gLeft_pos {g : Int} (h : 1 ≤ g) : gLeft g = 4294967295 - g := by unfold gLeft; rw [if_neg (by omega)]
theorem gAfter_zero (n : Int) : gAfter 0 n = 0 := rfl
theorem gAfter_in {g n : Int} (h : 1 ≤ g) (hn : n ≤ 4294967295 - g) : gAfter g n = g + n := by unfold gAfter; rw [if_neg (by omega), if_neg (by omega)]
theorem gAfter_out {g n : Int} (hn : 4294967295 - g < n) : gAfter g n = 0 := by unfold gAfter; split <;> first | rfl | rw [if_pos hn]
theorem gAfterB_zero (n : Int) : gAfterB 0 n = false := by unfold gAfterB; simp
theorem gAfterB_in {g n : Int} (h : 1 ≤ g) (hn : n ≤ 4294967295 - g) : gAfterB g n = true := by unfold gAfterB; simp; omega
theorem gAfterB_out {g n : Int} (hn : 4294967295 - g < n) : gAfterB g n = false := by unfold gAfterB; simp; omega
theorem gNewer_left (b : Int) : gNewer 0 b = false := by unfold gNewer; simp
theorem gNewer_right (a : Int) : gNewer a 0 = false := by unfold gNewer; simp
theorem gNewer_pos {a b : Int} (ha : 1 ≤ a) (hb : 1 ≤ b) : gNewer a b = decide (b < a) := by
  unfold gNewer
  by_cases h : b < a <;> simp [h] <;> omega
theorem gErr2_left (b : Int) : gErr2 0 b = 2 := by unfold gErr2; simp
theorem gErr2_right (a : Int) : gErr2 a 0 = 2 := by unfold gErr2; simp
theorem gErr2_pos {a b : Int} (ha : 1 ≤ a) (hb : 1 ≤ b) : gErr2 a b = 0 := by unfold gErr2; rw [if_neg (by omega)]
theorem gText_zero : gText 0 = ⟨#[]⟩ := rfl
theorem gText_pos {g : Int} (h : 1 ≤ g) : gText g = digits g.toNat := by unfold gText; rw [if_neg (by omega)]
theorem digits_list (n : Nat) : (digits n).data.toList = decDigits n := by simp [digits]
theorem digits_size (n : Nat) : (digits n).size = (decDigits n).length := by simp [digits, ByteArray.size]
theorem digits_size_le (n : Nat) (h : n ≤ 18446744073709551615) : (digits n).size ≤ 20 := by rw [digits_size]; exact nDigits_le_20 n h
theorem digits_inj {a b : Nat} (h : digits a = digits b) : a = b := by
  apply decDigits_inj
  rw [← digits_list, ← digits_list, h]
theorem isGen_iff (l : List UInt8) : isGen l = true ↔ ∃ n : Nat, 1 ≤ n ∧ n ≤ 4294967295 ∧ decDigits n = l := by
  unfold isGen
  rw [decide_eq_true_iff]
  constructor
  · intro ⟨a, b, c⟩; exact ⟨_, b, c, a⟩
  · intro ⟨n, a, b, c⟩
    subst c
    rw [val_decDigits]
    exact ⟨rfl, a, b⟩
theorem gParse_digits {n : Nat} (h1 : 1 ≤ n) (h2 : n ≤ 4294967295) : gParse (decDigits n) = n ∧ gParseE (decDigits n) = 0 := by
  have h : isGen (decDigits n) = true := (isGen_iff _).2 ⟨n, h1, h2, rfl⟩
  unfold gParse gParseE
  rw [if_pos h, if_pos h, val_decDigits]
  exact ⟨rfl, rfl⟩
theorem gParse_not {l : List UInt8} (h : isGen l = false) : gParse l = 0 ∧ gParseE l = 9 := by
  unfold gParse gParseE
  rw [h]; exact ⟨rfl, rfl⟩
theorem gParseE_cases (l : List UInt8) : gParseE l = 0 ∨ gParseE l = 9 := by unfold gParseE; split <;> simp
theorem gParseE_zero {l : List UInt8} (h : gParseE l = 0) : ∃ n : Nat, 1 ≤ n ∧ n ≤ 4294967295 ∧ decDigits n = l ∧ gParse l = n := by
  have hg : isGen l = true := by
    unfold gParseE at h
    cases hi : isGen l with
    | true => rfl
    | false => rw [hi] at h; simp at h
  obtain ⟨n, a, b, c⟩ := (isGen_iff l).1 hg
  exact ⟨n, a, b, c, by rw [← c]; exact (gParse_digits a b).1⟩
def numB (l : List UInt8) : Bool := decide (l.length ≤ 10 ∧ decDigits (valFrom 0 l) = l)
def numV (l : List UInt8) : Int := if l.length ≤ 10 ∧ l.all isDig = true then (valFrom 0 l : Int) else 0
theorem numV_bound (l : List UInt8) : 0 ≤ numV l ∧ numV l ≤ 9999999999 := by
  unfold numV
  split
  · rename_i h
    have := valFrom_lt_10 l h.2 h.1
    omega
  · omega
theorem numB_val {l : List UInt8} (h : numB l = true) : numV l = (valFrom 0 l : Int) ∧ decDigits (valFrom 0 l) = l := by
  unfold numB at h
  rw [decide_eq_true_iff] at h
  unfold numV
  rw [if_pos ⟨h.1, by rw [← h.2]; exact decDigits_all _⟩]
  exact ⟨rfl, h.2⟩
end Go.Proofs.YtkjpdciccablpaaGreatDoor

/- Descriptors and resources of the outer world in plain Lean: numbers, texts, what texts are read as. No program in sight. -/
namespace Go.Proofs.YtkjpdciccablpaaGreatDoor
open Go.Lib (decDigits)

theorem indexByte_at (pre post : List UInt8) (c : UInt8) (h : c ∉ pre) : Lib.indexByte (pre ++ c :: post) c = pre.length := by
  induction pre with
  | nil => simp [Lib.indexByte]
  | cons b pre ih =>
    simp only [List.mem_cons, not_or] at h
    have hi := ih h.2
    have hb : (b == c) = false := by rw [beq_eq_false_iff_ne]; exact fun e => h.1 e.symm
    have hn : (((pre.length : Int)) == -1) = false := by rw [beq_eq_false_iff_ne]; omega
    simp only [List.cons_append, Lib.indexByte, hi, hb, hn]
    simp
theorem indexByte_no (l : List UInt8) (c : UInt8) (h : c ∉ l) : Lib.indexByte l c = -1 := by
  induction l with
  | nil => rfl
  | cons b l ih =>
    simp only [List.mem_cons, not_or] at h
    have hb : (b == c) = false := by rw [beq_eq_false_iff_ne]; exact fun e => h.1 e.symm
    simp only [Lib.indexByte, ih h.2, hb]
    rfl
theorem cut_at (pre post : List UInt8) (c : UInt8) (h : c ∉ pre) : Lib.cut (pre ++ c :: post) [c] = (pre, post, true) := by
  unfold Lib.cut
  rw [Lib.index_one, indexByte_at pre post c h, if_pos (by omega)]
  simp
theorem cut_no (l : List UInt8) (c : UInt8) (h : c ∉ l) : Lib.cut l [c] = (l, [], false) := by
  unfold Lib.cut
  rw [Lib.index_one, indexByte_no l c h, if_neg (by omega)]
theorem mem_split (l : List UInt8) (c : UInt8) : c ∉ l ∨ ∃ pre post, c ∉ pre ∧ l = pre ++ c :: post := by
  induction l with
  | nil => exact .inl (by simp)
  | cons b l ih =>
    by_cases hb : b = c
    · exact .inr ⟨[], l, by simp, by rw [hb]; rfl⟩
    · rcases ih with h | ⟨pre, post, h, e⟩
      · exact .inl (by simp only [List.mem_cons, not_or]; exact ⟨fun e => hb e.symm, h⟩)
      · exact .inr ⟨b :: pre, post, by simp only [List.mem_cons, not_or]; exact ⟨fun e => hb e.symm, h⟩, by rw [e]; rfl⟩
theorem split_unique {a a' b b' : List UInt8} {c : UInt8} (h : c ∉ a) (h' : c ∉ a') (e : a ++ c :: b = a' ++ c :: b') : a = a' ∧ b = b' := by
  have h1 := cut_at a b c h
  rw [e, cut_at a' b' c h'] at h1
  injection h1 with h2 h3
  injection h3 with h4 _
  exact ⟨h2.symm, h4.symm⟩
theorem not_mem_dec {n : Nat} {c : UInt8} (h : isDig c = false) : c ∉ decDigits n := by
  intro hm
  have := List.all_eq_true.1 (decDigits_all n) c hm
  rw [h] at this; cases this
theorem dec_cons (n : Nat) : ∃ c r, decDigits n = c :: r ∧ isDig c = true := by
  have h := decDigits_all n
  cases hd : decDigits n with
  | nil => exact absurd hd (decDigits_ne_nil n)
  | cons c r =>
    rw [hd, List.all_cons, Bool.and_eq_true] at h
    exact ⟨c, r, rfl, h.1⟩
theorem atoi_dec (n : Nat) (h : n ≤ 9223372036854775807) : Lib.atoiAll (decDigits n) = .ok (n : Int) := by
  obtain ⟨c, r, hd, hc⟩ := dec_cons n
  have hc' : 48 ≤ c.toNat ∧ c.toNat ≤ 57 := by simpa [isDig] using hc
  have hp := parseUintB_decDigits 64 n (by omega) (by omega)
  rw [Lib.parseUintB_64] at hp
  rw [hd, Lib.atoiAll_plain c r (by omega) (by omega), ← hd, hp]
  simp [Lib.signless]; omega

def letterB (k : Int) : UInt8 := if k = 1 then 102 else if k = 2 then 98 else 108
def dOk (size k s g : Int) : Bool := decide (1 ≤ k ∧ k ≤ 3 ∧ 0 ≤ s ∧ s < size ∧ g ≠ 0)
def dErr (size k s g : Int) : Int := if dOk size k s g then 0 else 2
def dNum (k s g : Int) : Int := k * 1099511627776 + s * 4294967296 + g
def dTextL (c : UInt8) (k s g : Int) : List UInt8 := letterB k :: (decDigits s.toNat ++ c :: decDigits g.toNat)
def dText (c : UInt8) (k s g : Int) : ByteArray := ⟨(dTextL c k s g).toArray⟩
def sgn (c : UInt8) : Prop := c = 46 ∨ c = 58
/-- The text l is that of k, s, g. -/
structure IsD (c : UInt8) (size : Int) (l : List UInt8) (k s g : Int) : Prop where
  ok : dOk size k s g = true
  gm : g ≤ 4294967295
  g0 : 0 ≤ g
  eq : l = dTextL c k s g

theorem dOk_iff {size k s g : Int} : dOk size k s g = true ↔ 1 ≤ k ∧ k ≤ 3 ∧ 0 ≤ s ∧ s < size ∧ g ≠ 0 := by unfold dOk; rw [decide_eq_true_iff]
theorem dOk_not {size k s g : Int} (h : dOk size k s g = false) : ¬ (1 ≤ k ∧ k ≤ 3 ∧ 0 ≤ s ∧ s < size ∧ g ≠ 0) := by unfold dOk at h; rwa [decide_eq_false_iff_not] at h
theorem dErr_ok {size k s g : Int} (h : dOk size k s g = true) : dErr size k s g = 0 := by unfold dErr; rw [if_pos h]
theorem dErr_bad {size k s g : Int} (h : dOk size k s g = false) : dErr size k s g = 2 := by unfold dErr; rw [h]; rfl
theorem sgn_dig {c : UInt8} (h : sgn c) : isDig c = false := by rcases h with rfl | rfl <;> rfl
theorem letter_ne {c : UInt8} (h : sgn c) (k : Int) : c ≠ letterB k := by
  unfold letterB
  rcases h with rfl | rfl <;> (split; · decide) <;> (split; · decide) <;> decide
theorem letter_inj {k k' : Int} (h1 : 1 ≤ k) (h2 : k ≤ 3) (h3 : 1 ≤ k') (h4 : k' ≤ 3) (e : letterB k = letterB k') : k = k' := by
  rcases (by omega : k = 1 ∨ k = 2 ∨ k = 3) with rfl | rfl | rfl <;> rcases (by omega : k' = 1 ∨ k' = 2 ∨ k' = 3) with rfl | rfl | rfl <;> first | rfl | (exact absurd e (by decide))
theorem pre_not_mem {c : UInt8} (h : sgn c) (k : Int) (n : Nat) : c ∉ letterB k :: decDigits n := by
  simp only [List.mem_cons, not_or]
  exact ⟨letter_ne h k, not_mem_dec (sgn_dig h)⟩
theorem dTextL_inj {c : UInt8} (hc : sgn c) {size k s g k' s' g' : Int} (h : dOk size k s g = true) (h' : dOk size k' s' g' = true) (g0 : 0 ≤ g) (g0' : 0 ≤ g')
    (e : dTextL c k s g = dTextL c k' s' g') : k = k' ∧ s = s' ∧ g = g' := by
  rw [dOk_iff] at h h'
  unfold dTextL at e
  rw [← List.cons_append, ← List.cons_append] at e
  obtain ⟨e1, e2⟩ := split_unique (pre_not_mem hc k _) (pre_not_mem hc k' _) e
  injection e1 with e3 e4
  have e5 := decDigits_inj e4
  have e6 := decDigits_inj e2
  exact ⟨letter_inj h.1 h.2.1 h'.1 h'.2.1 e3, by omega, by omega⟩
theorem IsD.unique {c : UInt8} (hc : sgn c) {size : Int} {l : List UInt8} {k s g k' s' g' : Int} (h : IsD c size l k s g) (h' : IsD c size l k' s' g') : k = k' ∧ s = s' ∧ g = g' :=
  dTextL_inj hc h.ok h'.ok h.g0 h'.g0 (h.eq.symm.trans h'.eq)
theorem cut_text {c : UInt8} (hc : sgn c) (k s g : Int) : Lib.cut (dTextL c k s g) [c] = (letterB k :: decDigits s.toNat, decDigits g.toNat, true) := by
  unfold dTextL
  rw [← List.cons_append]
  exact cut_at _ _ c (pre_not_mem hc k _)
theorem dText_list (c : UInt8) (k s g : Int) : (dText c k s g).data.toList = dTextL c k s g := by simp [dText]
theorem dTextL_len (c : UInt8) {k s g : Int} (s0 : s < 10000000000) (g0 : g < 10000000000) : (dTextL c k s g).length ≤ 22 ∧ 4 ≤ (dTextL c k s g).length := by
  have h1 := nDigits_le_10 s.toNat (by omega)
  have h2 := nDigits_le_10 g.toNat (by omega)
  have h3 := decDigits_length_pos s.toNat
  have h4 := decDigits_length_pos g.toNat
  unfold dTextL
  simp
  omega
theorem dText_size (c : UInt8) {k s g : Int} (s0 : s < 10000000000) (g0 : g < 10000000000) : (dText c k s g).size ≤ 22 ∧ 4 ≤ (dText c k s g).size := by
  rw [← len_bytes, dText_list]
  exact dTextL_len c s0 g0
theorem dText_inj {c : UInt8} (hc : sgn c) {size k s g k' s' g' : Int} (h : dOk size k s g = true) (h' : dOk size k' s' g' = true) (g0 : 0 ≤ g) (g0' : 0 ≤ g')
    (e : dText c k s g = dText c k' s' g') : k = k' ∧ s = s' ∧ g = g' :=
  dTextL_inj hc h h' g0 g0' (by rw [← dText_list, e, dText_list])
/-- A text of one sign is none of the other. -/
theorem dTextL_other {k s g k' s' g' : Int} : dTextL 46 k s g ≠ dTextL 58 k' s' g' := by
  intro e
  have h : (46 : UInt8) ∈ dTextL 58 k' s' g' := by rw [← e]; unfold dTextL; simp
  unfold dTextL at h
  simp only [List.mem_cons, List.mem_append] at h
  rcases h with h | h | h | h
  · exact letter_ne (.inl rfl) k' h
  · exact not_mem_dec (c := 46) rfl h
  · exact absurd h (by decide)
  · exact not_mem_dec (c := 46) rfl h
/-- The number, and back. -/
theorem dNum_parts {k s g : Int} (s0 : 0 ≤ s) (s1 : s < 256) (g0 : 0 ≤ g) (g1 : g ≤ 4294967295) : dNum k s g / 1099511627776 = k ∧ dNum k s g / 4294967296 % 256 = s ∧ dNum k s g % 4294967296 = g := by
  unfold dNum; omega
theorem dNum_back (n : Int) : dNum (n / 1099511627776) (n / 4294967296 % 256) (n % 4294967296) = n := by
  unfold dNum; omega
end Go.Proofs.YtkjpdciccablpaaGreatDoor

/- A text cut at every place of one byte, in plain Lean; strings.Split gives just that. No program in sight. -/
namespace Go.Proofs.YtkjpdciccablpaaGreatDoor
open Go.Lib (decDigits)
set_option linter.unusedVariables false

def cutAll (c : UInt8) : List UInt8 → List (List UInt8)
  | [] => [[]]
  | b :: l => if b = c then [] :: cutAll c l else match cutAll c l with
    | h :: t => (b :: h) :: t
    | [] => [[b]]
theorem cutAll_cons (c b : UInt8) (l : List UInt8) : cutAll c (b :: l) = if b = c then [] :: cutAll c l else match cutAll c l with
    | h :: t => (b :: h) :: t
    | [] => [[b]] := rfl
theorem cutAll_ne (c : UInt8) (l : List UInt8) : cutAll c l ≠ [] := by
  cases l with
  | nil => simp [cutAll]
  | cons b l =>
    rw [cutAll_cons]
    split
    · simp
    · split <;> simp
theorem cutAll_no (c : UInt8) (l : List UInt8) (h : c ∉ l) : cutAll c l = [l] := by
  induction l with
  | nil => rfl
  | cons b l ih =>
    simp only [List.mem_cons, not_or] at h
    rw [cutAll_cons]
    rw [if_neg (fun e => h.1 e.symm), ih h.2]
theorem cutAll_at (c : UInt8) (pre post : List UInt8) (h : c ∉ pre) : cutAll c (pre ++ c :: post) = pre :: cutAll c post := by
  induction pre with
  | nil => simp [cutAll]
  | cons b pre ih =>
    simp only [List.mem_cons, not_or] at h
    rw [List.cons_append]
    rw [cutAll_cons]
    rw [if_neg (fun e => h.1 e.symm), ih h.2]
theorem cutAll_join (c : UInt8) : ∀ (l : List (List UInt8)), l ≠ [] → (∀ x ∈ l, c ∉ x) → cutAll c (Lib.join l [c]) = l
  | [], h, _ => absurd rfl h
  | [x], _, h => by
    rw [show Lib.join [x] [c] = x by simp [Lib.join, List.intercalate]]
    exact cutAll_no c x (h x (by simp))
  | x :: y :: l, _, h => by
    rw [show Lib.join (x :: y :: l) [c] = x ++ c :: Lib.join (y :: l) [c] by simp [Lib.join, List.intercalate, List.intersperse], cutAll_at c x _ (h x (by simp)), cutAll_join c (y :: l) (by simp) (fun z hz => h z (by simp [hz]))]
theorem join_cutAll (c : UInt8) : ∀ (l : List UInt8), Lib.join (cutAll c l) [c] = l := by
  intro l
  induction l with
  | nil => simp [cutAll, Lib.join, List.intercalate]
  | cons b l ih =>
    rw [cutAll_cons]
    have hne := cutAll_ne c l
    split
    · rename_i e
      subst e
      cases hc : cutAll b l with
      | nil => exact absurd hc hne
      | cons h t =>
        rw [hc] at ih
        rw [show Lib.join ([] :: h :: t) [b] = b :: Lib.join (h :: t) [b] by simp [Lib.join, List.intercalate, List.intersperse], ih]
    · cases hc : cutAll c l with
      | nil => exact absurd hc hne
      | cons h t =>
        rw [hc] at ih
        simp only
        cases t with
        | nil => simp [Lib.join, List.intercalate] at ih ⊢; exact ih
        | cons y t => simp [Lib.join, List.intercalate, List.intersperse] at ih ⊢; exact ih
theorem cutAll_mem (c : UInt8) (l : List UInt8) : ∀ x ∈ cutAll c l, c ∉ x := by
  induction l with
  | nil => simp [cutAll]
  | cons b l ih =>
    rw [cutAll_cons]
    split
    · intro x hx
      rcases List.mem_cons.1 hx with rfl | hx
      · simp
      · exact ih x hx
    · rename_i hb
      cases hc : cutAll c l with
      | nil => exact absurd hc (cutAll_ne c l)
      | cons h t =>
        intro x hx
        rw [hc] at ih
        rcases List.mem_cons.1 hx with rfl | hx
        · simp only [List.mem_cons, not_or]
          exact ⟨fun e => hb e.symm, ih h (by simp)⟩
        · exact ih x (by simp [hx])
theorem splitB_cutAll (c : UInt8) (k : Nat) : ∀ (s : ByteArray), s.size ≤ k →
    (Lib.splitB ⟨#[c]⟩ 0 (Lib.countB s ⟨#[c]⟩) s).map (·.data.toList) = cutAll c s.data.toList ∧ Lib.countB s ⟨#[c]⟩ + 1 = (cutAll c s.data.toList).length := by
  induction k with
  | zero =>
    intro s hs
    have hl : s.data.toList = [] := List.eq_nil_of_length_eq_zero (by rw [len_bytes]; omega)
    have hi : Lib.indexB s ⟨#[c]⟩ = -1 := by unfold Lib.indexB; rw [hl]; rfl
    rw [Lib.countB_miss _ _ hi, Lib.splitB_zero, hl]
    simp [cutAll, hl]
  | succ k ih =>
    intro s hs
    by_cases hm : c ∈ s.data.toList
    · obtain ⟨pre, post, hp, he⟩ : ∃ pre post, c ∉ pre ∧ s.data.toList = pre ++ c :: post := by
        clear ih hs
        generalize s.data.toList = l at hm
        induction l with
        | nil => simp at hm
        | cons b l ih2 =>
          by_cases hb : b = c
          · exact ⟨[], l, by simp, by rw [hb]; rfl⟩
          · obtain ⟨pre, post, h1, h2⟩ := ih2 (by
              rcases List.mem_cons.1 hm with h | h
              · exact absurd h.symm hb
              · exact h)
            exact ⟨b :: pre, post, by simp only [List.mem_cons, not_or]; exact ⟨fun e => hb e.symm, h1⟩, by rw [h2]; rfl⟩
      have hi : Lib.indexB s ⟨#[c]⟩ = (pre.length : Nat) := by
        unfold Lib.indexB
        rw [he, show (ByteArray.mk #[c]).data.toList = [c] from rfl, Lib.index_one]
        clear ih hs hm he
        induction pre with
        | nil => simp [Lib.indexByte]
        | cons b pre ih2 =>
          simp only [List.mem_cons, not_or] at hp
          have h2 := ih2 hp.2
          have hb : (b == c) = false := by rw [beq_eq_false_iff_ne]; exact fun e => hp.1 e.symm
          have hn : (((pre.length : Int)) == -1) = false := by rw [beq_eq_false_iff_ne]; omega
          simp only [List.cons_append, Lib.indexByte, h2, hb, hn]
          simp
      have hsz : s.size = pre.length + 1 + post.length := by rw [← len_bytes, he]; simp; omega
      have hx : (s.extract (pre.length + (ByteArray.mk #[c]).size) s.size).data.toList = post := by
        rw [Lib.extract_to_end, he, show (ByteArray.mk #[c]).size = 1 from rfl]
        simp
      have hx0 : (s.extract 0 (pre.length + 0)).data.toList = pre := by
        rw [Lib.extract_data, he]
        simp
      obtain ⟨i1, i2⟩ := ih (s.extract (pre.length + (ByteArray.mk #[c]).size) s.size) (by rw [← len_bytes, hx]; omega)
      rw [hx] at i1 i2
      rw [Lib.countB_hit s ⟨#[c]⟩ pre.length (Nat.le_refl 1) hi, Nat.add_comm 1, Lib.splitB_hit _ _ _ _ _ hi, he, cutAll_at c pre post hp, List.map_cons, i1, hx0]
      exact ⟨rfl, by rw [List.length_cons, ← i2]⟩
    · have hi : Lib.indexB s ⟨#[c]⟩ = -1 := by
        unfold Lib.indexB
        rw [show (ByteArray.mk #[c]).data.toList = [c] from rfl, Lib.index_one]
        clear ih hs
        generalize s.data.toList = l at hm
        induction l with
        | nil => rfl
        | cons b l ih2 =>
          simp only [List.mem_cons, not_or] at hm
          have hb : (b == c) = false := by rw [beq_eq_false_iff_ne]; exact fun e => hm.1 e.symm
          simp only [Lib.indexByte, ih2 hm.2, hb]
          rfl
      rw [Lib.countB_miss _ _ hi, Lib.splitB_zero, cutAll_no c _ hm]
      simp
end Go.Proofs.YtkjpdciccablpaaGreatDoor

/- Tags (chapter 2): what they are, and their quoted texts, as functions on bytes. -/
namespace Go.Proofs.YtkjpdciccablpaaGreatDoor
set_option linter.unusedVariables false
open Go.Lib

/-- The rune at the head, and how many bytes it has; none: these bytes are no UTF-8. -/
def rnL (l : List UInt8) : Option (Nat × Nat) := if decodeL l = (65533, 1) then none else some (decodeL l)
def runesF : Nat → List UInt8 → Option (List Nat)
  | _, [] => some []
  | 0, _ :: _ => none
  | f + 1, b :: t => match rnL (b :: t) with
    | none => none
    | some (r, n) => (runesF f ((b :: t).drop n)).map (r :: ·)
def runesL (l : List UInt8) : Option (List Nat) := runesF l.length l
def runeOk (r : Nat) : Bool := decide (32 ≤ r) && decide (r ≠ 127)
def tagOf : Option (List Nat) → Bool
  | none => false
  | some rs => decide (1 ≤ rs.length) && decide (rs.length ≤ 24) && rs.all runeOk
def tagOk (l : List UInt8) : Bool := tagOf (runesL l)
/-- ErrTag is 16. -/
def tagErr (l : List UInt8) : Int := if tagOk l then 0 else 16

theorem dec_width (l : List UInt8) (hne : l ≠ []) : 1 ≤ (decodeL l).2 ∧ (decodeL l).2 ≤ 4 ∧ (decodeL l).2 ≤ l.length := by
  refine ⟨?_, ?_, decodeL_le l hne⟩ <;>
    rw [decodeL_N] <;> rcases decodeN_shape l.length (l.getD 0 0).toNat (l.getD 1 0).toNat (l.getD 2 0).toNat (l.getD 3 0).toNat with ⟨c, e⟩ | ⟨c1, c2, c3, cv, e⟩ | ⟨c1, c2, c3, c4, cv, cs, e⟩ | ⟨c1, c2, c3, c4, c5, cv, cw, e⟩ | e <;> rw [e] <;> dsimp only <;> omega
theorem rnL_some {l : List UInt8} {r n : Nat} (h : rnL l = some (r, n)) : decodeL l = (r, n) ∧ ¬ (r = 65533 ∧ n = 1) := by
  unfold rnL at h
  split at h
  · cases h
  · rename_i hn
    injection h with h
    exact ⟨h, fun ⟨a, b⟩ => hn (by rw [h, a, b])⟩
theorem rnL_none {l : List UInt8} (h : rnL l = none) : decodeL l = (65533, 1) := by
  unfold rnL at h
  split at h
  · assumption
  · cases h
theorem rnL_of {l : List UInt8} {r n : Nat} (h : decodeL l = (r, n)) (hn : ¬ (r = 65533 ∧ n = 1)) : rnL l = some (r, n) := by
  unfold rnL
  rw [h, if_neg (fun e => hn (by injection e with a b; exact ⟨a, b⟩))]
theorem rnL_bad {l : List UInt8} (h : decodeL l = (65533, 1)) : rnL l = none := by unfold rnL; rw [if_pos h]
theorem runesF_more : ∀ (f : Nat) (l : List UInt8), l.length ≤ f → runesF f l = runesF l.length l := by
  intro f
  induction f using Nat.strongRecOn with
  | _ f ih =>
    intro l hl
    cases l with
    | nil => cases f <;> rfl
    | cons b t =>
      cases f with
      | zero => simp at hl
      | succ f =>
        show (match rnL (b :: t) with | none => none | some (r, n) => (runesF f ((b :: t).drop n)).map (r :: ·)) = (match rnL (b :: t) with | none => none | some (r, n) => (runesF t.length ((b :: t).drop n)).map (r :: ·))
        cases hr : rnL (b :: t) with
        | none => rfl
        | some p =>
          obtain ⟨r, n⟩ := p
          obtain ⟨h1, _⟩ := rnL_some hr
          have hw := dec_width (b :: t) (by simp)
          rw [h1] at hw
          have hd : ((b :: t).drop n).length ≤ t.length := by rw [List.length_drop]; simp at hw ⊢; omega
          simp only [List.length_cons] at hl
          show (runesF f _).map _ = (runesF t.length _).map _
          rw [ih f (Nat.lt_succ_self f) _ (by omega)]
          rcases Nat.lt_or_ge t.length (f + 1) with hlt | hge
          · rw [ih t.length hlt _ hd]
          · omega
theorem runesL_nil : runesL [] = some [] := rfl
theorem runesL_step {l : List UInt8} (hne : l ≠ []) : runesL l = match rnL l with | none => none | some (r, n) => (runesL (l.drop n)).map (r :: ·) := by
  cases l with
  | nil => exact absurd rfl hne
  | cons b t =>
    show (match rnL (b :: t) with | none => none | some (r, n) => (runesF t.length ((b :: t).drop n)).map (r :: ·)) = _
    cases hr : rnL (b :: t) with
    | none => rfl
    | some p =>
      obtain ⟨r, n⟩ := p
      obtain ⟨h1, _⟩ := rnL_some hr
      have hw := dec_width (b :: t) (by simp)
      rw [h1] at hw
      have hd : ((b :: t).drop n).length ≤ t.length := by rw [List.length_drop]; simp at hw ⊢; omega
      show (runesF t.length _).map _ = (runesL _).map _
      unfold runesL
      rw [runesF_more t.length _ hd]
theorem runes_len : ∀ (k : Nat) (l : List UInt8) (rs : List Nat), l.length ≤ k → runesL l = some rs → l.length ≤ 4 * rs.length ∧ rs.length ≤ l.length := by
  intro k
  induction k with
  | zero =>
    intro l rs hl h
    obtain rfl : l = [] := List.eq_nil_of_length_eq_zero (by omega)
    rw [runesL_nil] at h
    injection h with h
    subst h
    simp
  | succ k ih =>
    intro l rs hl h
    by_cases hne : l = []
    · subst hne
      rw [runesL_nil] at h
      injection h with h
      subst h
      simp
    · rw [runesL_step hne] at h
      cases hr : rnL l with
      | none => rw [hr] at h; cases h
      | some p =>
        obtain ⟨r, n⟩ := p
        rw [hr] at h
        obtain ⟨h1, _⟩ := rnL_some hr
        have hw := dec_width l hne
        rw [h1] at hw
        cases hx : runesL (l.drop n) with
        | none => simp [hx] at h
        | some xs =>
          simp [hx] at h
          subst h
          have hlen : 0 < l.length := List.length_pos_iff.2 hne
          have := ih (l.drop n) xs (by rw [List.length_drop]; simp at hw; omega) hx
          rw [List.length_drop] at this
          simp at hw ⊢
          omega
theorem tagOk_len {l : List UInt8} (h : tagOk l = true) : 1 ≤ l.length ∧ l.length ≤ 96 := by
  unfold tagOk at h
  cases hr : runesL l with
  | none => rw [hr] at h; cases h
  | some rs =>
    rw [hr] at h
    simp only [tagOf, Bool.and_eq_true, decide_eq_true_iff] at h
    have := runes_len l.length l rs (Nat.le_refl _) hr
    omega
/-- The bytes of a valid rune are its encoding. -/
theorem rnL_bytes {l : List UInt8} (hne : l ≠ []) {r n : Nat} (h : rnL l = some (r, n)) : encodeRune (r : Int) = l.take n := by
  obtain ⟨h1, h2⟩ := rnL_some h
  have := encode_decode l hne (by rw [h1]; exact h2)
  rw [h1] at this
  exact this

/-! ### Quoted texts -/
def escB (b : UInt8) : List UInt8 := if b = 34 ∨ b = 92 then [92, b] else [b]
def escL (l : List UInt8) : List UInt8 := l.flatMap escB
def quoteL (l : List UInt8) : List UInt8 := 34 :: (escL l ++ [34])
/-- What is read behind the opening quote: the text, and how many bytes with the closing one. -/
def scanL : List UInt8 → Option (List UInt8 × Nat)
  | [] => none
  | [c] => if c = 34 then some ([], 1) else none
  | c :: d :: t =>
    if c = 34 then some ([], 1)
    else if c = 92 then (if d = 34 ∨ d = 92 then (scanL t).map fun x => (d :: x.1, x.2 + 2) else none)
    else (scanL (d :: t)).map fun x => (c :: x.1, x.2 + 1)
theorem scanL_cons (c : UInt8) (t : List UInt8) (h1 : c ≠ 34) (h2 : c ≠ 92) : scanL (c :: t) = (scanL t).map fun x => (c :: x.1, x.2 + 1) := by
  cases t with
  | nil => simp [scanL, h1]
  | cons d t => simp [scanL, h1, h2]
theorem scanL_quote (t : List UInt8) : scanL (34 :: t) = some ([], 1) := by cases t <;> simp [scanL]
theorem scanL_slash (d : UInt8) (t : List UInt8) : scanL (92 :: d :: t) = if d = 34 ∨ d = 92 then (scanL t).map fun x => (d :: x.1, x.2 + 2) else none := by simp [scanL]
theorem scanL_esc (t : List UInt8) : ∀ x : List UInt8, scanL (escL x ++ 34 :: t) = some (x, (escL x).length + 1)
  | [] => by simp [escL, scanL_quote]
  | b :: x => by
    have ih := scanL_esc t x
    by_cases hb : b = 34 ∨ b = 92
    · rw [show escL (b :: x) = 92 :: b :: escL x by simp [escL, escB, hb]]
      show scanL (92 :: b :: (escL x ++ 34 :: t)) = _
      rw [scanL_slash, if_pos hb, ih]
      simp
    · have h1 : b ≠ 34 := fun e => hb (.inl e)
      have h2 : b ≠ 92 := fun e => hb (.inr e)
      rw [show escL (b :: x) = b :: escL x by simp [escL, escB, h1, h2]]
      show scanL (b :: (escL x ++ 34 :: t)) = _
      rw [scanL_cons b _ h1 h2, ih]
      simp
theorem scanL_some : ∀ (k : Nat) (l : List UInt8) (x : List UInt8) (n : Nat), l.length ≤ k → scanL l = some (x, n) → n = (escL x).length + 1 ∧ ∃ t, l = escL x ++ 34 :: t := by
  intro k
  induction k using Nat.strongRecOn with
  | _ k ih =>
    intro l x n hk h
    match l, hk, h with
    | [], _, h => simp [scanL] at h
    | c :: t, hk, h =>
      by_cases h1 : c = 34
      · subst h1
        rw [scanL_quote] at h
        injection h with h
        injection h with ha hb
        subst ha hb
        exact ⟨rfl, t, rfl⟩
      · by_cases h2 : c = 92
        · subst h2
          cases t with
          | nil => simp [scanL] at h
          | cons d t =>
            rw [scanL_slash] at h
            split at h
            · rename_i hd
              cases hx : scanL t with
              | none => simp [hx] at h
              | some p =>
                obtain ⟨y, m⟩ := p
                simp [hx] at h
                obtain ⟨rfl, rfl⟩ := h
                simp at hk
                obtain ⟨e1, u, e2⟩ := ih (k - 2) (by omega) t y m (by omega) hx
                refine ⟨by simp [escL, escB, hd] at e1 ⊢; omega, u, ?_⟩
                rw [e2]
                simp [escL, escB, hd]
            · cases h
        · rw [scanL_cons c t h1 h2] at h
          cases hx : scanL t with
          | none => simp [hx] at h
          | some p =>
            obtain ⟨y, m⟩ := p
            simp [hx] at h
            obtain ⟨rfl, rfl⟩ := h
            simp at hk
            obtain ⟨e1, u, e2⟩ := ih (k - 1) (by omega) t y m (by omega) hx
            refine ⟨by simp [escL, escB, h1, h2] at e1 ⊢; omega, u, ?_⟩
            rw [e2]
            simp [escL, escB, h1, h2]
/-- What Unquote returns: the tag, how many bytes, the error (ErrForm is 9). -/
def unqL : List UInt8 → List UInt8 × Nat × Int
  | 34 :: t => match scanL t with
    | some (x, n) => if tagOk x then (x, n + 1, 0) else ([], 0, 16)
    | none => ([], 0, 9)
  | _ => ([], 0, 9)
theorem unqL_quote {x : List UInt8} (h : tagOk x = true) (t : List UInt8) : unqL (quoteL x ++ t) = (x, (quoteL x).length, 0) := by
  unfold quoteL unqL
  simp only [List.cons_append, List.append_assoc, List.nil_append]
  rw [scanL_esc]
  simp [h]
theorem unqL_ok {l x : List UInt8} {n : Nat} {e : Int} (h : unqL l = (x, n, e)) (he : e = 0) : tagOk x = true ∧ n = (quoteL x).length ∧ ∃ t, l = quoteL x ++ t := by
  subst he
  unfold unqL at h
  split at h
  · rename_i t
    cases hx : scanL t with
    | none => simp [hx] at h
    | some p =>
      obtain ⟨y, m⟩ := p
      simp only [hx] at h
      split at h
      · rename_i hy
        injection h with ha hb
        injection hb with hb hc
        subst ha hb
        obtain ⟨e1, u, e2⟩ := scanL_some _ t y m (Nat.le_refl _) hx
        exact ⟨hy, by simp [quoteL]; omega, u, by rw [e2]; simp [quoteL]⟩
      · injection h with ha hb
        injection hb with hb hc
        cases hc
  · injection h with ha hb
    injection hb with hb hc
    cases hc
theorem escL_len (x : List UInt8) : x.length ≤ (escL x).length ∧ (escL x).length ≤ 2 * x.length := by
  induction x with
  | nil => simp [escL]
  | cons b x ih =>
    have : (escL (b :: x)).length = (escB b).length + (escL x).length := by simp [escL]
    have hb : (escB b).length = 1 ∨ (escB b).length = 2 := by unfold escB; split <;> simp
    simp only [List.length_cons]
    omega
theorem quoteL_inj {x y : List UInt8} (h : quoteL x = quoteL y) : x = y := by
  have h1 : scanL (escL x ++ 34 :: []) = scanL (escL y ++ 34 :: []) := by
    unfold quoteL at h
    injection h with _ h
    rw [h]
  rw [scanL_esc, scanL_esc] at h1
  injection h1 with h1
  injection h1
end Go.Proofs.YtkjpdciccablpaaGreatDoor

/- Resources (chapter 31): what they are, as functions on their fields. -/
namespace Go.Proofs.YtkjpdciccablpaaGreatDoor
set_option linter.unusedVariables false

abbrev rC (k i g st wy tr nx : Int) (tag : ByteArray) : Array Value := #[.int .i64 k, .int .i64 i, .int .u32 g, .int .i64 st, .int .i64 wy, .int .i64 tr, .int .i64 nx, .string tag]
abbrev rV (k i g st wy tr nx : Int) (tag : ByteArray) : Value := .agg #[.int .i64 k, .int .i64 i, .int .u32 g, .int .i64 st, .int .i64 wy, .int .i64 tr, .int .i64 nx, .string tag]
abbrev r0V : Value := rV 0 0 0 0 0 0 0 ⟨#[]⟩
def isT (n : Int) : Bool := decide (0 ≤ n) && decide (n ≤ 1099511627776)
def inB (n a b : Int) : Bool := decide (a ≤ n) && decide (n ≤ b)
/-- The fields but the tag are possible. -/
def pOk (k i g st wy tr nx : Int) : Bool := dOk 64 k i g && (inB st 1 4 &&
  (if st = 1 then inB wy 0 0 && (inB tr 0 0 && (isT nx && decide (nx = 0)))
   else inB wy 1 3 && (inB tr 0 10000 && (isT nx && (decide (st = 2) || decide (nx = 0))))))
def rErr (k i g st wy tr nx : Int) (tag : ByteArray) : Int := if pOk k i g st wy tr nx then tagErr tag.data.toList else 2
/-- What is refused of a resource in a state, with other arguments that are allowed or not. -/
def chkE (k i g st wy tr nx : Int) (tag : ByteArray) (al : Bool) (want : Int) : Int :=
  if rErr k i g st wy tr nx tag ≠ 0 then rErr k i g st wy tr nx tag else if al = false then 2 else if st ≠ want then 8 else 0
def closeV (k i g st wy tr nx : Int) (tag : ByteArray) (why now : Int) : Value :=
  if chkE k i g st wy tr nx tag (inB why 1 3 && isT now) 1 = 0 then .tuple #[rV k i g 2 why tr now tag, .int .i64 0] else .tuple #[r0V, .int .i64 (chkE k i g st wy tr nx tag (inB why 1 3 && isT now) 1)]
def triedA (answer now wait : Int) : Bool := inB answer 1 3 && (isT now && inB wait 1 1048576)
def triedV (k i g st wy tr nx : Int) (tag : ByteArray) (answer now wait : Int) : Value :=
  if chkE k i g st wy tr nx tag (triedA answer now wait) 2 = 0 then
    (if answer = 1 then .tuple #[rV k i g 3 wy tr 0 tag, .int .i64 0]
     else if answer = 3 then .tuple #[rV k i g 4 wy tr 0 tag, .int .i64 0]
     else if 1099511627776 - wait < now ∨ 10000 ≤ tr then .tuple #[r0V, .int .i64 17]
     else .tuple #[rV k i g 2 wy (tr + 1) (now + wait) tag, .int .i64 0])
  else .tuple #[r0V, .int .i64 (chkE k i g st wy tr nx tag (triedA answer now wait) 2)]
def dueV (k i g st wy tr nx : Int) (tag : ByteArray) (now : Int) : Value :=
  if chkE k i g st wy tr nx tag (isT now) st = 0 then .tuple #[.bool (decide (st = 2) && decide (nx ≤ now)), .int .i64 0] else .tuple #[.bool false, .int .i64 (chkE k i g st wy tr nx tag (isT now) st)]
def overV (k i g st wy tr nx : Int) (tag : ByteArray) : Value :=
  if rErr k i g st wy tr nx tag = 0 then .tuple #[.bool (decide (st = 3) || decide (st = 4)), .int .i64 0] else .tuple #[.bool false, .int .i64 (rErr k i g st wy tr nx tag)]
def newV (k i g : Int) (tag : ByteArray) : Value :=
  if rErr k i g 1 0 0 0 tag = 0 then .tuple #[rV k i g 1 0 0 0 tag, .int .i64 0] else .tuple #[r0V, .int .i64 (rErr k i g 1 0 0 0 tag)]
theorem inB_iff {n a b : Int} : inB n a b = true ↔ a ≤ n ∧ n ≤ b := by simp [inB]
theorem isT_iff {n : Int} : isT n = true ↔ 0 ≤ n ∧ n ≤ 1099511627776 := by simp [isT]
theorem inB_not {n a b : Int} (h : ¬ (a ≤ n ∧ n ≤ b)) : inB n a b = false := by
  cases hx : inB n a b with
  | false => rfl
  | true => exact absurd (inB_iff.1 hx) h
theorem isT_not {n : Int} (h : ¬ (0 ≤ n ∧ n ≤ 1099511627776)) : isT n = false := by
  cases hx : isT n with
  | false => rfl
  | true => exact absurd (isT_iff.1 hx) h
theorem pOk_d {k i g st wy tr nx : Int} (h : dOk 64 k i g = false) : pOk k i g st wy tr nx = false := by unfold pOk; rw [h]; rfl
theorem pOk_st {k i g st wy tr nx : Int} (h : inB st 1 4 = false) : pOk k i g st wy tr nx = false := by unfold pOk; rw [h]; cases dOk 64 k i g <;> rfl
theorem pOk_1 {k i g wy tr nx : Int} (h : dOk 64 k i g = true) : pOk k i g 1 wy tr nx = (inB wy 0 0 && (inB tr 0 0 && (isT nx && decide (nx = 0)))) := by unfold pOk; rw [h]; simp [inB]
theorem pOk_2 {k i g wy tr nx : Int} (h : dOk 64 k i g = true) : pOk k i g 2 wy tr nx = (inB wy 1 3 && (inB tr 0 10000 && isT nx)) := by unfold pOk; rw [h]; simp [inB]
theorem pOk_34 {k i g st wy tr nx : Int} (h : dOk 64 k i g = true) (hs : st = 3 ∨ st = 4) : pOk k i g st wy tr nx = (inB wy 1 3 && (inB tr 0 10000 && (isT nx && decide (nx = 0)))) := by
  unfold pOk
  rw [h]
  rcases hs with rfl | rfl <;> simp [inB]
theorem pOk_out {k i g st wy tr nx : Int} (h : pOk k i g st wy tr nx = true) : dOk 64 k i g = true ∧ (st = 1 ∨ st = 2 ∨ st = 3 ∨ st = 4) := by
  cases hd : dOk 64 k i g with
  | false => rw [pOk_d hd] at h; cases h
  | true =>
    refine ⟨rfl, ?_⟩
    cases hs : inB st 1 4 with
    | false => rw [pOk_st hs] at h; cases h
    | true => have := inB_iff.1 hs; omega
end Go.Proofs.YtkjpdciccablpaaGreatDoor

/- The table of resources of chapter 37's statements, as lists (slots with their owners, the resources' states, their descriptors). Plain Lean; no program in sight. -/
namespace Go.Proofs.YtkjpdciccablpaaGreatDoor
set_option linter.unusedVariables false
set_option linter.unusedSimpArgs false
/-- A slot: the resource that has it (its index), and its generation. -/
structure SlotR where
  own : Option Nat
  gen : Int
/-- A resource's state: Live 1, Closing 2, Released 3, Quarantine 4; its tries; when next. -/
structure RS where
  st : Int
  tr : Int
  nx : Int
structure TabR where
  sl : List SlotR
  rs : List RS
  ds : List (Nat × Int)
def isFree (s : SlotR) : Bool := s.own.isNone
def freeN (l : List SlotR) : Nat := l.countP isFree
def cntS (l : List RS) (s : Int) : Nat := l.countP fun r => decide (r.st = s)
/-- The first free slot; the list's length: none. -/
def firstF (l : List SlotR) : Nat := l.findIdx isFree
theorem firstF_lt {l : List SlotR} (h : 0 < freeN l) : firstF l < l.length := by
  unfold firstF
  rw [List.findIdx_lt_length]
  unfold freeN at h
  obtain ⟨x, hx, hp⟩ := List.countP_pos_iff.1 h
  exact ⟨x, hx, hp⟩
theorem firstF_free {l : List SlotR} (h : firstF l < l.length) : l[firstF l].own = none := by
  have h1 : isFree l[firstF l] = true := List.findIdx_getElem (xs := l) (p := isFree) (w := h)
  unfold isFree at h1
  cases hx : l[firstF l].own with
  | none => rfl
  | some k => rw [hx] at h1; cases h1
theorem firstF_before {l : List SlotR} {i : Nat} (h : i < firstF l) (hi : i < l.length) : l[i].own.isSome = true := by
  have h1 : ¬ isFree l[i] = true := by rw [List.not_of_lt_findIdx (p := isFree) (xs := l) h]; decide
  unfold isFree at h1
  cases hx : l[i].own with
  | none => rw [hx] at h1; exact absurd rfl h1
  | some k => rfl
/-- What a table that the statements make is always like. -/
structure GoodT (B : Nat) (T : TabR) : Prop where
  size : T.sl.length = 64
  len : T.ds.length = T.rs.length
  most : T.rs.length ≤ 60
  count : freeN T.sl + cntS T.rs 1 = 64
  live : ∀ k (h : k < T.rs.length) (h2 : k < T.ds.length), T.rs[k].st = 1 → ∃ h3 : T.ds[k].1 < T.sl.length, T.sl[T.ds[k].1].own = some k ∧ T.sl[T.ds[k].1].gen = T.ds[k].2
  owned : ∀ i (h : i < T.sl.length) k, T.sl[i].own = some k → ∃ (h1 : k < T.rs.length) (h2 : k < T.ds.length), T.rs[k].st = 1 ∧ T.ds[k] = (i, T.sl[i].gen)
  gens : ∀ s ∈ T.sl, 1 ≤ s.gen ∧ s.gen ≤ 1 + B
  states : ∀ r ∈ T.rs, (r.st = 1 ∧ r.tr = 0 ∧ r.nx = 0) ∨ (r.st = 2 ∧ 0 ≤ r.tr ∧ r.tr ≤ B ∧ (r.nx = 1 ∨ r.nx = 2)) ∨ ((r.st = 3 ∨ r.st = 4) ∧ 0 ≤ r.tr ∧ r.tr ≤ B ∧ r.nx = 0)
def emptyT : TabR := ⟨List.replicate 64 ⟨none, 1⟩, [], []⟩
theorem good_empty : GoodT 0 emptyT where
  size := by simp [emptyT]
  len := rfl
  most := by simp [emptyT]
  count := by decide
  live := fun k h => by simp [emptyT] at h
  owned := fun i h k hk => by
    have e : emptyT.sl[i] = ⟨none, 1⟩ := List.eq_of_mem_replicate (List.getElem_mem h)
    rw [e] at hk
    cases hk
  gens := fun s hs => by
    have := List.eq_of_mem_replicate hs
    subst this
    exact ⟨by decide, by decide⟩
  states := fun r hr => by simp [emptyT] at hr
/-- One more resource. -/
def openT (T : TabR) : TabR := ⟨T.sl.set (firstF T.sl) ⟨some T.rs.length, (T.sl[firstF T.sl]?.map (·.gen)).getD 0⟩, T.rs ++ [⟨1, 0, 0⟩], T.ds ++ [(firstF T.sl, (T.sl[firstF T.sl]?.map (·.gen)).getD 0)]⟩
/-- A live resource is closed. -/
def closeT (T : TabR) (k : Nat) : TabR :=
  let i := (T.ds[k]?.map (·.1)).getD 0
  ⟨T.sl.set i ⟨none, (T.sl[i]?.map (·.gen)).getD 0 + 1⟩, T.rs.set k ⟨2, 0, 1⟩, T.ds⟩
/-- A closing one is tried. -/
def triedS (r : RS) (q : Int) : RS := if q = 3 then ⟨3, r.tr, 0⟩ else if q = 4 then ⟨4, r.tr, 0⟩ else ⟨2, r.tr + 1, 2⟩
def triedT (T : TabR) (k : Nat) (q : Int) : TabR := ⟨T.sl, T.rs.set k (triedS ((T.rs[k]?).getD ⟨0, 0, 0⟩) q), T.ds⟩
theorem count_set {α : Type} (p : α → Bool) : ∀ (l : List α) (i : Nat) (h : i < l.length) (x : α), (l.set i x).countP p + (if p l[i] then 1 else 0) = l.countP p + (if p x then 1 else 0)
  | a :: l, 0, h, x => by
    simp only [List.set_cons_zero, List.getElem_cons_zero, List.countP_cons]
    omega
  | a :: l, i + 1, h, x => by
    have ih := count_set p l i (by simpa using h) x
    simp only [List.set_cons_succ, List.getElem_cons_succ, List.countP_cons]
    omega
theorem GoodT.free {B : Nat} {T : TabR} (h : GoodT B T) : 4 ≤ freeN T.sl := by
  have h1 := h.count
  have h2 : cntS T.rs 1 ≤ T.rs.length := List.countP_le_length
  have h3 := h.most
  omega
theorem openT_good {B : Nat} {T : TabR} (h : GoodT B T) (hn : T.rs.length < 60) : GoodT B (openT T) := by
  have hf := firstF_lt (l := T.sl) (by have := h.free; omega)
  have hfr := firstF_free hf
  have hg : (T.sl[firstF T.sl]?.map (·.gen)).getD 0 = T.sl[firstF T.sl].gen := by rw [List.getElem?_eq_getElem hf]; rfl
  unfold openT
  rw [hg]
  have hc := count_set isFree T.sl (firstF T.sl) hf ⟨some T.rs.length, T.sl[firstF T.sl].gen⟩
  rw [if_pos (by unfold isFree; rw [hfr]; rfl), if_neg (by unfold isFree; simp)] at hc
  refine ⟨by simpa using h.size, by simpa using h.len, by simp; omega, ?_, ?_, ?_, ?_, ?_⟩
  · have h1 := h.count
    unfold freeN at *
    simp only [cntS, List.countP_append] at *
    simp
    omega
  · intro k h1 h2 hst
    simp only [List.length_append, List.length_singleton] at h1 h2
    by_cases hk : k < T.rs.length
    · have hk2 : k < T.ds.length := by rw [h.len]; exact hk
      simp only [List.getElem_append_left hk] at hst
      obtain ⟨h3, h4, h5⟩ := h.live k hk hk2 hst
      simp only [List.getElem_append_left hk2]
      have hne : firstF T.sl ≠ T.ds[k].1 := fun e => by
        have := firstF_free hf
        simp only [e] at this
        rw [h4] at this
        cases this
      refine ⟨by simpa using h3, ?_⟩
      rw [List.getElem_set_ne hne]
      exact ⟨h4, h5⟩
    · obtain rfl : k = T.rs.length := by omega
      have hk2 : ¬ T.rs.length < T.ds.length := by rw [h.len]; omega
      have e : (T.ds ++ [(firstF T.sl, T.sl[firstF T.sl].gen)])[T.rs.length] = (firstF T.sl, T.sl[firstF T.sl].gen) := by
        rw [List.getElem_append_right (by rw [h.len]; omega)]
        simp [h.len]
      simp only [e]
      refine ⟨by simpa using hf, ?_⟩
      rw [List.getElem_set_self]
      exact ⟨rfl, rfl⟩
  · intro i hi k hk
    by_cases he : firstF T.sl = i
    · subst he
      rw [List.getElem_set_self] at hk
      obtain rfl := Option.some.inj hk
      refine ⟨by simp, by simp [h.len], ?_, ?_⟩
      · rw [List.getElem_append_right (Nat.le_refl _)]; simp
      · rw [List.getElem_append_right (by rw [h.len]; omega), List.getElem_set_self]; simp [h.len]
    · rw [List.getElem_set_ne he] at hk
      obtain ⟨h1, h2, h3, h4⟩ := h.owned i (by simpa using hi) k hk
      refine ⟨by simp; omega, by simp; omega, ?_, ?_⟩
      · rw [List.getElem_append_left h1]; exact h3
      · rw [List.getElem_append_left h2, List.getElem_set_ne he]; exact h4
  · intro s hs
    rcases List.mem_or_eq_of_mem_set hs with h1 | h1
    · exact h.gens s h1
    · have h2 := h.gens _ (List.getElem_mem hf)
      rw [h1]
      exact h2
  · intro r hr
    rcases List.mem_append.1 hr with h1 | h1
    · exact h.states r h1
    · rw [List.mem_singleton.1 h1]; exact .inl ⟨rfl, rfl, rfl⟩
theorem GoodT.mono {B B' : Nat} {T : TabR} (h : GoodT B T) (hb : B ≤ B') : GoodT B' T :=
  ⟨h.size, h.len, h.most, h.count, h.live, h.owned, fun s hs => by have := h.gens s hs; omega, fun r hr => by have := h.states r hr; omega⟩
theorem live_cell {B : Nat} {T : TabR} (h : GoodT B T) {k : Nat} (hk : k < T.rs.length) (hst : T.rs[k].st = 1) : ∃ i g, T.ds[k]? = some (i, g) ∧ ∃ hi : i < T.sl.length, T.sl[i].own = some k ∧ T.sl[i].gen = g := by
  have hk2 : k < T.ds.length := by rw [h.len]; exact hk
  obtain ⟨h3, h4, h5⟩ := h.live k hk hk2 hst
  exact ⟨T.ds[k].1, T.ds[k].2, List.getElem?_eq_getElem hk2, h3, h4, h5⟩
theorem closeT_good {B : Nat} {T : TabR} (h : GoodT B T) {k : Nat} (hk : k < T.rs.length) (hst : T.rs[k].st = 1) : GoodT (B + 1) (closeT T k) := by
  obtain ⟨i, g, hd, hi, h4, h5⟩ := live_cell h hk hst
  have hk2 : k < T.ds.length := by rw [h.len]; exact hk
  have hdk : T.ds[k] = (i, g) := by rw [List.getElem?_eq_getElem hk2] at hd; exact Option.some.inj hd
  have e : closeT T k = ⟨T.sl.set i ⟨none, g + 1⟩, T.rs.set k ⟨2, 0, 1⟩, T.ds⟩ := by
    unfold closeT
    rw [hd]
    simp only [Option.map_some, Option.getD_some]
    rw [List.getElem?_eq_getElem hi]
    simp only [Option.map_some, Option.getD_some, h5]
  rw [e]
  have c1 := count_set isFree T.sl i hi ⟨none, g + 1⟩
  rw [if_neg (by unfold isFree; rw [h4]; simp), if_pos (by rfl)] at c1
  have c2 := count_set (fun r : RS => decide (r.st = 1)) T.rs k hk ⟨2, 0, 1⟩
  rw [if_pos (by simpa using hst), if_neg (by simp)] at c2
  refine ⟨by simpa using h.size, by simpa using h.len, by simpa using h.most, ?_, ?_, ?_, ?_, ?_⟩
  · have h1 := h.count
    show (T.sl.set i ⟨none, g + 1⟩).countP isFree + (T.rs.set k ⟨2, 0, 1⟩).countP (fun r => decide (r.st = 1)) = 64
    unfold freeN cntS at h1
    omega
  · intro j h1 h2 hj
    by_cases hjk : k = j
    · subst hjk
      rw [List.getElem_set_self] at hj
      exact absurd hj (by decide)
    · rw [List.getElem_set_ne hjk] at hj
      obtain ⟨h6, h7, h8⟩ := h.live j (by simpa using h1) h2 hj
      have hne : i ≠ T.ds[j].1 := fun e => by
        have h9 := h4
        simp only [e] at h9
        rw [h7] at h9
        exact hjk (Option.some.inj h9).symm
      refine ⟨by simpa using h6, ?_⟩
      rw [List.getElem_set_ne hne]
      exact ⟨h7, h8⟩
  · intro j hj m hm
    by_cases hji : i = j
    · subst hji
      rw [List.getElem_set_self] at hm
      cases hm
    · rw [List.getElem_set_ne hji] at hm
      obtain ⟨h6, h7, h8, h9⟩ := h.owned j (by simpa using hj) m hm
      have hne : k ≠ m := fun e => by
        subst e
        rw [hdk] at h9
        exact hji (Prod.mk.inj h9).1
      refine ⟨by simpa using h6, h7, ?_, ?_⟩
      · rw [List.getElem_set_ne hne]; exact h8
      · rw [List.getElem_set_ne hji]; exact h9
  · intro s hs
    rcases List.mem_or_eq_of_mem_set hs with h1 | h1
    · have := h.gens s h1; omega
    · have := h.gens _ (List.getElem_mem hi)
      rw [h1]
      rw [h5] at this
      show 1 ≤ g + 1 ∧ g + 1 ≤ _
      omega
  · intro r hr
    rcases List.mem_or_eq_of_mem_set hr with h1 | h1
    · have := h.states r h1; omega
    · rw [h1]; exact .inr (.inl ⟨rfl, Int.le_refl _, by show (0 : Int) ≤ _; omega, .inl rfl⟩)
theorem triedT_good {B : Nat} {T : TabR} (h : GoodT B T) {k : Nat} (hk : k < T.rs.length) (hst : T.rs[k].st = 2) {q : Int} (ht : 2 ≤ q ∧ q ≤ 4) : GoodT (B + 1) (triedT T k q) := by
  have hs := h.states _ (List.getElem_mem hk)
  have e : triedT T k q = ⟨T.sl, T.rs.set k (triedS T.rs[k] q), T.ds⟩ := by unfold triedT; rw [List.getElem?_eq_getElem hk]; rfl
  rw [e]
  have hst2 : (triedS T.rs[k] q).st = q := by
    unfold triedS
    split
    · rename_i h1; exact h1.symm
    · split
      · rename_i h1; exact h1.symm
      · show (2 : Int) = q; omega
  have c2 := count_set (fun r : RS => decide (r.st = 1)) T.rs k hk (triedS T.rs[k] q)
  rw [if_neg (by rw [hst]; decide), if_neg (by rw [hst2]; simp; omega)] at c2
  refine ⟨h.size, by simpa using h.len, by simpa using h.most, ?_, ?_, ?_, ?_, ?_⟩
  · have h1 := h.count
    show T.sl.countP isFree + (T.rs.set k (triedS T.rs[k] q)).countP (fun r => decide (r.st = 1)) = 64
    unfold freeN cntS at h1
    omega
  · intro j h1 h2 hj
    by_cases hjk : k = j
    · subst hjk
      rw [List.getElem_set_self, hst2] at hj
      omega
    · rw [List.getElem_set_ne hjk] at hj
      exact h.live j (by simpa using h1) h2 hj
  · intro j hj m hm
    obtain ⟨h6, h7, h8, h9⟩ := h.owned j hj m hm
    have hne : k ≠ m := fun e => by subst e; rw [hst] at h8; omega
    exact ⟨by simpa using h6, h7, by rw [List.getElem_set_ne hne]; exact h8, h9⟩
  · intro s hs
    have := h.gens s hs; omega
  · intro r hr
    rcases List.mem_or_eq_of_mem_set hr with h1 | h1
    · have := h.states r h1; omega
    · rw [h1]
      unfold triedS
      split
      · exact .inr (.inr ⟨.inl rfl, by show (0 : Int) ≤ T.rs[k].tr; omega, by show T.rs[k].tr ≤ _; omega, rfl⟩)
      · split
        · exact .inr (.inr ⟨.inr rfl, by show (0 : Int) ≤ T.rs[k].tr; omega, by show T.rs[k].tr ≤ _; omega, rfl⟩)
        · exact .inr (.inl ⟨rfl, by show (0 : Int) ≤ T.rs[k].tr + 1; omega, by show T.rs[k].tr + 1 ≤ _; omega, .inr rfl⟩)
/-- What one deed does: a resource is opened, or one goes on, or nothing. -/
def doT (T : TabR) (kind which : Nat) : TabR × Int × Int :=
  let n := T.rs.length
  let k := which % max n 1
  if n = 0 ∨ (kind % 3 = 0 ∧ n < 60) then (openT T, 0, 1) else
    match T.rs[k]? with
    | none => (T, 0, 0)
    | some r => if r.st = 3 ∨ r.st = 4 then (T, 0, 0) else if r.st = 1 then (closeT T k, 1, 2) else (triedT T k (2 + (kind / 3 % 3 : Nat)), 2, 2 + (kind / 3 % 3 : Nat))
theorem doT_good {B : Nat} {T : TabR} (h : GoodT B T) (kind which : Nat) : GoodT (B + 1) (doT T kind which).1 := by
  unfold doT
  simp only
  split
  · rename_i hc
    exact (openT_good h (by rcases hc with h1 | h1 <;> omega)).mono (by omega)
  · split
    · exact h.mono (by omega)
    · rename_i r hr
      obtain ⟨hk, rfl⟩ := List.getElem?_eq_some_iff.1 hr
      split
      · exact h.mono (by omega)
      · rename_i h34
        split
        · rename_i h1
          exact closeT_good h hk h1
        · rename_i h1
          have hs := h.states _ (List.getElem_mem hk)
          exact triedT_good h hk (by omega) (by omega)
end Go.Proofs.YtkjpdciccablpaaGreatDoor

/- strconv.FormatUint at base 10, for every uint64: the decimal numeral. -/
namespace Go.Proofs.YtkjpdciccablpaaGreatDoor
open Go.RowKit Go.Sort Go.Lib

theorem below_grow_ (w : World) (k : Nat) (os : Array Obj) : Below w.heap.size w (grow (w.drewN k) os) :=
  ⟨rfl, rfl, rfl, by simp [grow, World.drewN], fun i hi => by
    show (w.heap ++ os)[i]? = _
    rw [Array.getElem?_append_left hi]⟩
theorem holds_zero0_ (w : World) (T : TypeId) (nd : Nat) (hs : nd ≤ 24) : Holds (fun (b : UInt8) => Value.int .u8 (b.toNat : Int)) (w.alloc (.cells zeros24 T)) w.heap.size 0 (Array.replicate nd (0 : UInt8)) := fun j hj => by
  have hj' : j < nd := by simpa using hj
  refine ⟨?_, World.frozen?_alloc_new _ _ _ _⟩
  rw [World.cell?_alloc_new, zeros24_at _ (by omega), getElem!_pos _ j hj]
  simp
theorem fin_at_ (w : World) (o : Obj) (dk : Array UInt8) (k off : Nat) : ∃ os, (putRow (fun (b : UInt8) => Value.int .u8 (b.toNat : Int)) (w.alloc o) w.heap.size off dk).drewN k = grow (w.drewN k) os := by
  rw [alloc_eq_grow]
  obtain ⟨os', _, e⟩ := putRow_grow_new (fun (b : UInt8) => Value.int .u8 (b.toNat : Int)) w #[o] w.heap.size off dk (Nat.le_refl _)
  exact ⟨os', by rw [e]; rfl⟩

theorem strconv_Itoa (n : Int) (w : World) (hE : Env w) (h0 : -9223372036854775808 ≤ n) (h1 : n ≤ 9223372036854775807) :
    Ret 46 #[.int .i64 n] w (.string ⟨(Lib.itoa n).toArray⟩) :=
  (Tryz.strconv_Itoa n h0 h1 w hE.tabIs).mono fun e w' ⟨he, k, os, hw⟩ => ⟨he, by rw [hw]; exact below_grow_ w k os⟩
end Go.Proofs.YtkjpdciccablpaaGreatDoor

/- The contracts of package gens: Check, Left, After, Next, Newer, Text, Parse. -/
namespace Go.Proofs.YtkjpdciccablpaaGreatDoor
open Go.RowKit
open Go.Lib (decDigits)

theorem Ret.to {f : FuncId} {args : Array Value} {w : World} {v v' : Value} (h : Ret f args w v) (e : v = v') : Ret f args w v' := by rw [← e]; exact h

theorem check_any (g : Int) (w : World) (h1 : 0 ≤ g) (h2 : g ≤ 4294967295) :
    Calls Tryz.prog 48 #[.int .u32 g] w fun e w' => e = .returned (.int .i64 (gErr g)) ∧ w' = w := by
  by_cases h : 1 ≤ g
  · rw [gErr_pos h]
    go_enter Tryz.func48, Tryz.ntmps48
    go_wp2
    go_ret
    exact ⟨rfl, rfl⟩
  · obtain rfl : g = 0 := by omega
    rw [gErr_zero]
    go_enter Tryz.func48, Tryz.ntmps48
    go_wp2
    go_ret
    exact ⟨rfl, rfl⟩

theorem left_pos (g : Int) (w : World) (h1 : 1 ≤ g) (h2 : g ≤ 4294967295) :
    Ret 130 #[.int .u32 g] w (.tuple #[.int .u32 (4294967295 - g), .int .i64 0]) := by
  go_enter Tryz.func130, Tryz.ntmps130
  go_wp2
  go_rounds 2
  go_returns
  refine ⟨rfl, ?_⟩
  go_grown
theorem left_zero (w : World) :
    Ret 130 #[.int .u32 0] w (.tuple #[.int .u32 0, .int .i64 2]) := by
  go_enter Tryz.func130, Tryz.ntmps130
  go_wp2
  go_rounds 2
  go_returns
  refine ⟨rfl, ?_⟩
  go_grown
theorem left_any (g : Int) (w : World) (h1 : 0 ≤ g) (h2 : g ≤ 4294967295) :
    Ret 130 #[.int .u32 g] w (.tuple #[.int .u32 (gLeft g), .int .i64 (gErr g)]) := by
  by_cases h : 1 ≤ g
  · rw [gErr_pos h, gLeft_pos h]; exact left_pos g w h h2
  · obtain rfl : g = 0 := by omega
    exact left_zero w

theorem after_zero (n : Int) (w : World) (h4 : n ≤ 18446744073709551615) :
    Ret 121 #[.int .u32 0, .int .u64 n] w (.tuple #[.int .u32 0, .bool false, .int .i64 2]) := by
  have H4 := Lib.hid h4
  clear h4
  go_enter Tryz.func121, Tryz.ntmps121
  go_wp2_with (go_at_call 130; refine (left_zero _).mono ?_; rintro e w' ⟨rfl, hb⟩)
  go_returns
  exact ⟨rfl, hb⟩
theorem after_in (g n : Int) (w : World) (h1 : 1 ≤ g) (h2 : g ≤ 4294967295) (_h3 : 0 ≤ n) (h4 : n ≤ 4294967295 - g) :
    Ret 121 #[.int .u32 g, .int .u64 n] w (.tuple #[.int .u32 (g + n), .bool true, .int .i64 0]) := by
  go_enter Tryz.func121, Tryz.ntmps121
  go_wp2_with (go_at_call 130; refine (left_pos _ _ h1 h2).mono ?_; rintro e w' ⟨rfl, hb⟩)
  go_returns
  exact ⟨rfl, hb⟩
theorem after_out (g n : Int) (w : World) (h1 : 1 ≤ g) (h2 : g ≤ 4294967295) (h4 : 4294967295 - g < n) :
    Ret 121 #[.int .u32 g, .int .u64 n] w (.tuple #[.int .u32 0, .bool false, .int .i64 0]) := by
  go_enter Tryz.func121, Tryz.ntmps121
  go_wp2_with (go_at_call 130; refine (left_pos _ _ h1 h2).mono ?_; rintro e w' ⟨rfl, hb⟩)
  go_returns
  exact ⟨rfl, hb⟩
theorem after_any (g n : Int) (w : World) (h1 : 0 ≤ g) (h2 : g ≤ 4294967295) (h3 : 0 ≤ n) (h4 : n ≤ 18446744073709551615) :
    Ret 121 #[.int .u32 g, .int .u64 n] w (.tuple #[.int .u32 (gAfter g n), .bool (gAfterB g n), .int .i64 (gErr g)]) := by
  by_cases h : 1 ≤ g
  · by_cases hn : n ≤ 4294967295 - g
    · rw [gErr_pos h, gAfter_in h hn, gAfterB_in h hn]; exact after_in g n w h h2 h3 hn
    · have hn' : 4294967295 - g < n := by omega
      rw [gErr_pos h, gAfter_out hn', gAfterB_out hn']; exact after_out g n w h h2 hn'
  · obtain rfl : g = 0 := by omega
    rw [gAfter_zero, gAfterB_zero, gErr_zero]; exact after_zero n w h4
theorem next_any (g : Int) (w : World) (h1 : 0 ≤ g) (h2 : g ≤ 4294967295) :
    Ret 107 #[.int .u32 g] w (.tuple #[.int .u32 (gAfter g 1), .bool (gAfterB g 1), .int .i64 (gErr g)]) := by
  go_enter Tryz.func107, Tryz.ntmps107
  go_wp2_with (go_at_call 121; refine (after_any _ _ _ h1 h2 (by omega) (by omega)).mono ?_; rintro e w' ⟨rfl, hb⟩)
  go_returns
  exact ⟨rfl, hb⟩


end Go.Proofs.YtkjpdciccablpaaGreatDoor

/- Runes by their bytes: what the reference reckons is what the decoding gives. -/
namespace Go.Proofs.YtkjpdciccablpaaGreatDoor
set_option linter.unusedVariables false
open Go.Lib
def rnN (n b0 b1 b2 b3 : Nat) : Option (Nat × Nat) := if decodeN n b0 b1 b2 b3 = (65533, 1) then none else some (decodeN n b0 b1 b2 b3)
theorem rnL_N (l : List UInt8) : rnL l = rnN l.length (l.getD 0 0).toNat (l.getD 1 0).toNat (l.getD 2 0).toNat (l.getD 3 0).toNat := by
  unfold rnL rnN
  rw [decodeL_N]
theorem rnN_some {n b0 b1 b2 b3 r k : Nat} (h : decodeN n b0 b1 b2 b3 = (r, k)) (hn : ¬ (r = 65533 ∧ k = 1)) : rnN n b0 b1 b2 b3 = some (r, k) := by
  unfold rnN
  rw [h, if_neg (fun e => hn (by injection e with a b; exact ⟨a, b⟩))]
theorem rnN_none {n b0 b1 b2 b3 : Nat} (h : decodeN n b0 b1 b2 b3 = (65533, 1)) : rnN n b0 b1 b2 b3 = none := by
  unfold rnN
  rw [if_pos h]
section
variable {n b0 b1 b2 b3 : Nat}
theorem rn_1 (h : b0 < 128) : rnN n b0 b1 b2 b3 = some (b0, 1) := rnN_some (by unfold decodeN; rw [if_pos h]) (by omega)
theorem rn_0 (h0 : 128 ≤ b0) (h : b0 < 192 ∨ 248 ≤ b0) (hb : b0 < 256) : rnN n b0 b1 b2 b3 = none := rnN_none (by
  unfold decodeN
  rw [if_neg (by omega), if_neg (by omega), if_neg (by omega), if_neg (by omega)])
theorem rn_2 (h0 : 192 ≤ b0) (h1 : b0 < 224) (hn : 1 < n) (c1 : 128 ≤ b1) (d1 : b1 < 192) (hr : 128 ≤ (b0 - 192) * 64 + (b1 - 128)) : rnN n b0 b1 b2 b3 = some ((b0 - 192) * 64 + (b1 - 128), 2) := rnN_some (by
  unfold decodeN
  rw [if_neg (by omega), if_pos (by omega), if_pos (by omega)]
  exact Prod.ext (by show _ = _; omega) rfl) (by omega)
theorem rn_2n (h0 : 192 ≤ b0) (h1 : b0 < 224) (h : n ≤ 1 ∨ b1 < 128 ∨ 192 ≤ b1 ∨ (128 ≤ b1 ∧ b1 < 192 ∧ (b0 - 192) * 64 + (b1 - 128) < 128)) : rnN n b0 b1 b2 b3 = none := rnN_none (by
  unfold decodeN
  rw [if_neg (by omega)]
  by_cases hc : b0 / 32 = 6 ∧ (1 < n ∧ b1 / 64 = 2)
  · rw [if_pos hc, if_neg (by omega)]
  · rw [if_neg hc, if_neg (by omega), if_neg (by omega)])
theorem rn_3 (h0 : 224 ≤ b0) (h1 : b0 < 240) (hn : 2 < n) (c1 : 128 ≤ b1) (d1 : b1 < 192) (c2 : 128 ≤ b2) (d2 : b2 < 192) {r : Nat} (hr : r = ((b0 - 224) * 64 + (b1 - 128)) * 64 + (b2 - 128)) (h2 : 2048 ≤ r) (h3 : r < 55296 ∨ 57344 ≤ r) : rnN n b0 b1 b2 b3 = some (r, 3) := rnN_some (by
  unfold decodeN
  rw [if_neg (by omega), if_neg (by omega), if_pos (by omega), if_pos (by omega)]
  exact Prod.ext (by show _ = _; omega) rfl) (by omega)
theorem rn_3n (h0 : 224 ≤ b0) (h1 : b0 < 240) (h : n ≤ 2 ∨ b1 < 128 ∨ 192 ≤ b1 ∨ b2 < 128 ∨ 192 ≤ b2 ∨ ((128 ≤ b1 ∧ b1 < 192) ∧ (128 ≤ b2 ∧ b2 < 192) ∧ (((b0 - 224) * 64 + (b1 - 128)) * 64 + (b2 - 128) < 2048 ∨ (55296 ≤ ((b0 - 224) * 64 + (b1 - 128)) * 64 + (b2 - 128) ∧ ((b0 - 224) * 64 + (b1 - 128)) * 64 + (b2 - 128) ≤ 57343)))) : rnN n b0 b1 b2 b3 = none := rnN_none (by
  unfold decodeN
  rw [if_neg (by omega), if_neg (by omega)]
  by_cases hc : b0 / 16 = 14 ∧ (1 < n ∧ b1 / 64 = 2) ∧ (2 < n ∧ b2 / 64 = 2)
  · rw [if_pos hc, if_neg (by omega)]
  · rw [if_neg hc, if_neg (by omega)])
theorem rn_4 (h0 : 240 ≤ b0) (h1 : b0 < 248) (hn : 3 < n) (c1 : 128 ≤ b1) (d1 : b1 < 192) (c2 : 128 ≤ b2) (d2 : b2 < 192) (c3 : 128 ≤ b3) (d3 : b3 < 192) {r : Nat} (hr : r = (((b0 - 240) * 64 + (b1 - 128)) * 64 + (b2 - 128)) * 64 + (b3 - 128)) (h2 : 65536 ≤ r) (h3 : r ≤ 1114111) : rnN n b0 b1 b2 b3 = some (r, 4) := rnN_some (by
  unfold decodeN
  rw [if_neg (by omega), if_neg (by omega), if_neg (by omega), if_pos (by omega), if_pos (by omega)]
  exact Prod.ext (by show _ = _; omega) rfl) (by omega)
theorem rn_4n (h0 : 240 ≤ b0) (h1 : b0 < 248) (h : n ≤ 3 ∨ b1 < 128 ∨ 192 ≤ b1 ∨ b2 < 128 ∨ 192 ≤ b2 ∨ b3 < 128 ∨ 192 ≤ b3 ∨ ((128 ≤ b1 ∧ b1 < 192) ∧ (128 ≤ b2 ∧ b2 < 192) ∧ (128 ≤ b3 ∧ b3 < 192) ∧ ((((b0 - 240) * 64 + (b1 - 128)) * 64 + (b2 - 128)) * 64 + (b3 - 128) < 65536 ∨ 1114111 < (((b0 - 240) * 64 + (b1 - 128)) * 64 + (b2 - 128)) * 64 + (b3 - 128)))) : rnN n b0 b1 b2 b3 = none := rnN_none (by
  unfold decodeN
  rw [if_neg (by omega), if_neg (by omega), if_neg (by omega)]
  by_cases hc : b0 / 8 = 30 ∧ (1 < n ∧ b1 / 64 = 2) ∧ (2 < n ∧ b2 / 64 = 2) ∧ (3 < n ∧ b3 / 64 = 2)
  · rw [if_pos hc, if_neg (by omega)]
  · rw [if_neg hc])
end
theorem decode_drop (s : ByteArray) (i : Nat) : Utf8.decode s i = decodeL (s.data.toList.drop i) := by
  have h := tail_decode s i 0
  rw [Nat.add_zero] at h
  rw [← h]
  unfold decodeL
  congr 1
  apply ByteArray.ext
  apply Array.ext'
  rw [Lib.extract_to_end]
/-- The rune at a place. -/
def rnAt (s : ByteArray) (i : Nat) : Option (Nat × Nat) := rnL (s.data.toList.drop i)
theorem rnAt_decode {s : ByteArray} {i r n : Nat} (h : rnAt s i = some (r, n)) : Utf8.decode s i = (r, n) ∧ ¬ (r = 65533 ∧ n = 1) := by
  rw [decode_drop]
  exact rnL_some h
theorem rnAt_none {s : ByteArray} {i : Nat} (h : rnAt s i = none) : Utf8.decode s i = (65533, 1) := by
  rw [decode_drop]
  exact rnL_none h
theorem rnAt_N (s : ByteArray) (i : Nat) : rnAt s i = rnN (s.size - i) ((s.data.toList.drop i).getD 0 0).toNat ((s.data.toList.drop i).getD 1 0).toNat ((s.data.toList.drop i).getD 2 0).toNat ((s.data.toList.drop i).getD 3 0).toNat := by
  unfold rnAt
  rw [rnL_N, List.length_drop, len_bytes]
theorem at_getD (s : ByteArray) (i k : Nat) (h : i + k < s.size) : (s.data.toList.drop i).getD k 0 = s[i + k] := by
  rw [List.getD_eq_getElem?_getD, List.getElem?_drop]
  have h' : i + k < s.data.toList.length := by rw [len_bytes]; exact h
  rw [List.getElem?_eq_getElem h']
  rfl
end Go.Proofs.YtkjpdciccablpaaGreatDoor

/- tags.Check: its contract. -/
namespace Go.Proofs.YtkjpdciccablpaaGreatDoor
open Go.RowKit
set_option linter.unusedVariables false
set_option linter.unusedSimpArgs false

theorem has_c (r : Nat) (w : World) (hr : r ≤ 2147483647) : Calls Tryz.prog 113 #[.int .i32 r] w fun e w' => e = .returned (.bool (runeOk r)) ∧ w' = w := by
  unfold runeOk
  by_cases h1 : 32 ≤ r
  · have h2 : (32 : Int) ≤ (r : Int) := by omega
    by_cases h3 : r = 127
    · subst h3
      go_enter Tryz.func113, Tryz.ntmps113
      go_wp2_with fail
      go_returns
      exact ⟨rfl, rfl⟩
    · have h4 : ((r : Int) != 127) = true := by rw [bne_iff_ne]; omega
      rw [decide_eq_true h1, decide_eq_true (show r ≠ 127 from h3)]
      go_enter Tryz.func113, Tryz.ntmps113
      go_wp2_with fail
      go_returns
      exact ⟨rfl, rfl⟩
  · have h2 : ¬ (32 : Int) ≤ (r : Int) := by omega
    rw [decide_eq_false h1]
    go_enter Tryz.func113, Tryz.ntmps113
    go_wp2_with fail
    go_returns
    exact ⟨rfl, rfl⟩
/-- What all tells of a text: how many runes, and whether each is as it has to be. -/
def allV (l : List UInt8) : Value := match runesL l with
  | some rs => if rs.all runeOk then .tuple #[.int .i64 (rs.length : Nat), .bool true] else .tuple #[.int .i64 0, .bool false]
  | none => .tuple #[.int .i64 0, .bool false]
theorem allV_some {l : List UInt8} {rs : List Nat} (h : runesL l = some rs) (ha : rs.all runeOk = true) : allV l = .tuple #[.int .i64 (rs.length : Nat), .bool true] := by
  unfold allV
  rw [h]
  simp [ha]
theorem allV_not {l : List UInt8} (h : ∀ rs, runesL l = some rs → rs.all runeOk = false) : allV l = .tuple #[.int .i64 0, .bool false] := by
  unfold allV
  cases hr : runesL l with
  | none => rfl
  | some rs => simp [h rs hr]
theorem drop_ne {s : ByteArray} {pos : Nat} (hp : pos < s.size) : s.data.toList.drop pos ≠ [] := by
  intro e
  have := congrArg List.length e
  rw [List.length_drop, len_bytes] at this
  simp at this
  omega
theorem runes_at {s : ByteArray} {pos r n : Nat} (hp : pos < s.size) (h : rnAt s pos = some (r, n)) : runesL (s.data.toList.drop pos) = (runesL (s.data.toList.drop (pos + n))).map (r :: ·) := by
  rw [runesL_step (drop_ne hp)]
  unfold rnAt at h
  rw [h]
  simp [List.drop_drop]
theorem runes_at_none {s : ByteArray} {pos : Nat} (hp : pos < s.size) (h : rnAt s pos = none) : runesL (s.data.toList.drop pos) = none := by
  rw [runesL_step (drop_ne hp)]
  unfold rnAt at h
  rw [h]
theorem rnAt_width {s : ByteArray} {pos r n : Nat} (hp : pos < s.size) (h : rnAt s pos = some (r, n)) : 1 ≤ n ∧ n ≤ 4 ∧ pos + n ≤ s.size := by
  have := dec_width _ (drop_ne hp)
  rw [(rnL_some h).1, List.length_drop, len_bytes] at this
  dsimp only at this
  omega
theorem rnAt_le {s : ByteArray} {pos r n : Nat} (h : rnAt s pos = some (r, n)) : r ≤ 2147483647 := by
  have := decode_le s pos
  rw [(rnAt_decode h).1] at this
  exact this
/-- The bytes of U+FFFD stand there just where it was written. -/
theorem fffd_yes {s : ByteArray} {pos n : Nat} (hp : pos < s.size) (h : rnAt s pos = some (65533, n)) : Lib.hasPrefix (s.data.toList.drop pos) [239, 191, 189] = true := by
  have h1 := rnL_bytes (drop_ne hp) h
  rw [show Lib.encodeRune ((65533 : Nat) : Int) = [239, 191, 189] by decide] at h1
  unfold Lib.hasPrefix
  rw [List.isPrefixOf_iff_prefix, h1]
  exact List.take_prefix _ _
theorem fffd_no {s : ByteArray} {pos : Nat} (hp : pos < s.size) (h : rnAt s pos = none) : Lib.hasPrefix (s.data.toList.drop pos) [239, 191, 189] = false := by
  cases hx : Lib.hasPrefix (s.data.toList.drop pos) [239, 191, 189] with
  | false => rfl
  | true =>
    exfalso
    unfold Lib.hasPrefix at hx
    rw [List.isPrefixOf_iff_prefix] at hx
    obtain ⟨t, ht⟩ := hx
    unfold rnAt at h
    rw [← ht, rnL_N] at h
    have := rn_3 (n := ([239, 191, 189] ++ t : List UInt8).length) (b0 := 239) (b1 := 191) (b2 := 189) (b3 := (([239, 191, 189] ++ t : List UInt8).getD 3 0).toNat) (by omega) (by omega) (by simp) (by omega) (by omega) (by omega) (by omega) (r := 65533) (by omega) (by omega) (by omega)
    rw [show (([239, 191, 189] ++ t : List UInt8).getD 0 0).toNat = 239 from rfl, show (([239, 191, 189] ++ t : List UInt8).getD 1 0).toNat = 191 from rfl, show (([239, 191, 189] ++ t : List UInt8).getD 2 0).toNat = 189 from rfl, this] at h
    cases h
set_option maxHeartbeats 4000000 in
set_option maxRecDepth 100000 in
theorem all_c (s : ByteArray) (w : World) (hs : s.size ≤ 1000000) : Ret 112 #[.string s, .func (.func 113) #[] #[]] w (allV s.data.toList) := by
  go_enter Tryz.func112, Tryz.ntmps112
  go_wp2_with fail
  go_loopw [6] (fun nv wr => ∃ (pos : Nat) (acc : List Nat), nv = .int .i64 (acc.length : Nat) ∧ wr.heap[w.heap.size]? = some (.stringIter s pos) ∧ Below w.heap.size w wr ∧ acc.all runeOk = true ∧ runesL s.data.toList = (runesL (s.data.toList.drop pos)).map (acc ++ ·) ∧ pos ≤ s.size ∧ acc.length ≤ pos) (fun _ wr => s.size - wr.iterPos w.heap.size)
  case atStart =>
    refine ⟨0, [], rfl, World.iter_heap w s 0, (Below.refl _ w).alloc (Nat.le_refl _) _, rfl, ?_, by omega, by simp⟩
    rw [List.drop_zero]
    cases runesL s.data.toList <;> simp
  case round =>
    obtain ⟨pos, acc, rfl, hit, hB, hall, hrs, hps, hal⟩ := hrel
    have hsz : w.heap.size < wr.heap.size := (Array.getElem?_eq_some_iff.1 hit).1
    by_cases hp : pos < s.size
    · have hnx : ∀ ty, (Instr.next (.pointer (some ⟨w.heap.size, 0, none⟩)) true ty).run Tryz.prog wr = _ := fun ty => Lib.run_next_any_at wr w.heap.size s pos ty hit hp
      have hps2 : (pos : Int) ≤ (s.size : Int) := by omega
      cases hr : rnAt s pos with
      | none =>
        rw [rnAt_none hr] at hnx
        have hpf := Tryz.strings_HasPrefix (s.extract pos s.size) ⟨#[239, 191, 189]⟩
        rw [Lib.extract_to_end, show (⟨#[239, 191, 189]⟩ : ByteArray).data.toList = [239, 191, 189] from rfl, fffd_no hp hr] at hpf
        have HPF := Lib.hid hpf
        clear hpf
        have hv : allV s.data.toList = .tuple #[.int .i64 0, .bool false] := allV_not (fun rs h => by rw [runes_at_none hp hr] at hrs; rw [hrs] at h; cases h)
        go_wp2_with (go_at_call 124; refine (HPF.out _).mono ?_; rintro e w' ⟨rfl, rfl⟩)
        rw [hv]
        go_returns
        exact ⟨rfl, Lib.below_iterAt hB (Nat.le_refl _) s _⟩
      | some p =>
        obtain ⟨r, n⟩ := p
        rw [(rnAt_decode hr).1] at hnx
        have hwd := rnAt_width hp hr
        have hrl := rnAt_le hr
        have hns := runes_at hp hr
        have hit2 := Lib.iterAt_heap wr w.heap.size s pos (pos + n) hit
        have hB2 := Lib.below_iterAt hB (Nat.le_refl w.heap.size) s (pos + n)
        have hhas := fun w => has_c r w hrl
        have HIT2 := Lib.hid hit2
        have HB2 := Lib.hid hB2
        have hwc : IntKind.i64.wrap ((acc.length : Int) + 1) = (acc.length : Int) + 1 := IntWalk.i64_in _ ⟨by omega, by omega⟩
        have hstep : ∀ v, v = (.tuple #[.int .i64 0, .bool false] : Value) → runeOk r = false → v = allV s.data.toList := by
          intro v hv hro
          rw [hv]
          refine (allV_not (fun rs h => ?_)).symm
          rw [hns, Option.map_map] at hrs
          rw [hrs] at h
          cases hx : runesL (s.data.toList.drop (pos + n)) with
          | none => rw [hx] at h; cases h
          | some xs =>
            rw [hx] at h
            simp at h
            subst h
            simp [hro]
        have hnext : runeOk r = true → (∃ (pos' : Nat) (acc' : List Nat), Value.int .i64 ((acc.length : Int) + 1) = .int .i64 (acc'.length : Nat) ∧ (wr.iterAt w.heap.size s (pos + n)).heap[w.heap.size]? = some (.stringIter s pos') ∧ Below w.heap.size w (wr.iterAt w.heap.size s (pos + n)) ∧ acc'.all runeOk = true ∧ runesL s.data.toList = (runesL (s.data.toList.drop pos')).map (acc' ++ ·) ∧ pos' ≤ s.size ∧ acc'.length ≤ pos') ∧ s.size - (wr.iterAt w.heap.size s (pos + n)).iterPos w.heap.size < s.size - wr.iterPos w.heap.size := by
          intro hro
          refine ⟨⟨pos + n, acc ++ [r], by simp, HIT2.out, HB2.out, ?_, ?_, by omega, by simp; omega⟩, ?_⟩
          · rw [List.all_append, hall]; simp [hro]
          · rw [hrs, hns, Option.map_map]
            congr 1
            funext x
            simp
          · simp only [World.iterPos, HIT2.out, hit]
            omega
        have HST := Lib.hid hstep
        have HNX := Lib.hid hnext
        clear hstep hnext hit2 hB2 hns hrs hall hB
        by_cases h5 : r = 65533
        · subst h5
          rw [show runeOk 65533 = true by decide] at hhas
          have HAS := Lib.hid hhas
          clear hhas
          have hpf := Tryz.strings_HasPrefix (s.extract pos s.size) ⟨#[239, 191, 189]⟩
          rw [Lib.extract_to_end, show (⟨#[239, 191, 189]⟩ : ByteArray).data.toList = [239, 191, 189] from rfl, fffd_yes hp hr] at hpf
          have HPF := Lib.hid hpf
          clear hpf
          go_wp2_with (first | (go_at_call 124; refine (HPF.out _).mono ?_; rintro e w' ⟨rfl, rfl⟩) | (go_at_call 113; refine (HAS.out _).mono ?_; rintro e w' ⟨rfl, rfl⟩))
          exact HNX.out rfl
        · have h6 : ((r : Int) == 65533) = false := by rw [beq_eq_false_iff_ne]; omega
          cases hro : runeOk r with
          | true =>
            rw [hro] at hhas
            have HAS := Lib.hid hhas
            clear hhas
            go_wp2_with (go_at_call 113; refine (HAS.out _).mono ?_; rintro e w' ⟨rfl, rfl⟩)
            exact HNX.out hro
          | false =>
            rw [hro] at hhas
            have HAS := Lib.hid hhas
            clear hhas
            go_wp2_with (go_at_call 113; refine (HAS.out _).mono ?_; rintro e w' ⟨rfl, rfl⟩)
            go_returns
            exact ⟨congrArg Ending.returned (HST.out _ rfl hro), HB2.out⟩
    · have hnx : ∀ ty, (Instr.next (.pointer (some ⟨w.heap.size, 0, none⟩)) true ty).run Tryz.prog wr = _ := fun ty => Lib.run_next_end_at wr w.heap.size s pos ty hit hp
      have hv : allV s.data.toList = .tuple #[.int .i64 (acc.length : Nat), .bool true] := by
        refine allV_some (rs := acc) ?_ hall
        rw [hrs, List.drop_of_length_le (by rw [len_bytes]; omega), runesL_nil]
        simp
      have HV := Lib.hid hv
      clear hrs hv
      go_wp2_with fail
      rw [HV.out]
      go_returns
      exact ⟨rfl, hB⟩
/-- tags.Check. -/
theorem tcheck_c (s : ByteArray) (w : World) (hs : s.size ≤ 1000000) : Ret 97 #[.string s] w (.int .i64 (tagErr s.data.toList)) := by
  by_cases hl : 96 < s.size
  · have hl2 : (96 : Int) < (s.size : Int) := by omega
    have hv : tagErr s.data.toList = 16 := by
      unfold tagErr
      rw [if_neg]
      intro h
      have := tagOk_len h
      rw [len_bytes] at this
      omega
    rw [hv]
    go_enter Tryz.func97, Tryz.ntmps97
    go_wp2_with fail
    go_returns
    exact ⟨rfl, Below.refl _ _⟩
  · have hl2 : ¬ (96 : Int) < (s.size : Int) := by omega
    have c := fun w => all_c s w hs
    unfold allV at c
    cases hr : runesL s.data.toList with
    | none =>
      rw [hr] at c
      have C := Lib.hid c
      clear c
      rw [show tagErr s.data.toList = 16 by unfold tagErr tagOk; rw [hr]; rfl]
      go_enter Tryz.func97, Tryz.ntmps97
      go_wp2_with (go_at_call 112; refine (C.out _).mono ?_; rintro e w' ⟨rfl, hb⟩)
      go_returns
      exact ⟨rfl, hb⟩
    | some rs =>
      have hlen := (runes_len _ _ _ (Nat.le_refl _) hr).2
      rw [len_bytes] at hlen
      rw [hr] at c
      cases ha : rs.all runeOk with
      | false =>
        simp only [ha, Bool.false_eq_true, if_false] at c
        have C := Lib.hid c
        clear c
        rw [show tagErr s.data.toList = 16 by unfold tagErr tagOk; rw [hr]; unfold tagOf; simp [ha]]
        go_enter Tryz.func97, Tryz.ntmps97
        go_wp2_with (go_at_call 112; refine (C.out _).mono ?_; rintro e w' ⟨rfl, hb⟩)
        go_returns
        exact ⟨rfl, hb⟩
      | true =>
        simp only [ha, if_true] at c
        have C := Lib.hid c
        clear c
        by_cases h1 : 1 ≤ rs.length
        · by_cases h2 : rs.length ≤ 24
          · rw [show tagErr s.data.toList = 0 by unfold tagErr tagOk; rw [hr]; unfold tagOf; simp [ha, h1, h2]]
            generalize rs.length = n at *
            have h1' : decide ((n : Int) < 1) = false := decide_eq_false (by omega)
            have h2' : decide ((24 : Int) < (n : Int)) = false := decide_eq_false (by omega)
            go_enter Tryz.func97, Tryz.ntmps97
            go_wp2_with (go_at_call 112; refine (C.out _).mono ?_; rintro e w' ⟨rfl, hb⟩)
            go_returns
            exact ⟨rfl, hb⟩
          · rw [show tagErr s.data.toList = 16 by unfold tagErr tagOk; rw [hr]; unfold tagOf; simp [h2]]
            generalize rs.length = n at *
            have h1' : decide ((n : Int) < 1) = false := decide_eq_false (by omega)
            have h2' : decide ((24 : Int) < (n : Int)) = true := decide_eq_true (by omega)
            go_enter Tryz.func97, Tryz.ntmps97
            go_wp2_with (go_at_call 112; refine (C.out _).mono ?_; rintro e w' ⟨rfl, hb⟩)
            go_returns
            exact ⟨rfl, hb⟩
        · rw [show tagErr s.data.toList = 16 by unfold tagErr tagOk; rw [hr]; unfold tagOf; simp [h1]]
          generalize rs.length = n at *
          have h1' : decide ((n : Int) < 1) = true := decide_eq_true (by omega)
          go_enter Tryz.func97, Tryz.ntmps97
          go_wp2_with (go_at_call 112; refine (C.out _).mono ?_; rintro e w' ⟨rfl, hb⟩)
          go_returns
          exact ⟨rfl, hb⟩
end Go.Proofs.YtkjpdciccablpaaGreatDoor

/- Contracts of package descr: letters, check. -/
namespace Go.Proofs.YtkjpdciccablpaaGreatDoor
open Go.RowKit

abbrev nmV (k s g : Int) : Value := .agg #[.int .i64 k, .int .i64 s, .int .i64 g]
abbrev dV (k s g : Int) : Value := .agg #[.int .i64 k, .int .i64 s, .int .u32 g]


set_option maxHeartbeats 2000000 in
theorem nm_check_ok (size k s g : Int) (w : World) (h : dOk size k s g = true) (g0 : 0 ≤ g) (g1 : g ≤ 4294967295) :
    Ret 105 #[nmV k s g, .int .i64 size] w (.int .i64 0) := by
  rw [dOk_iff] at h
  obtain ⟨k1, k3, s0, s1, hg⟩ := h
  have hg1 : 1 ≤ g := by omega
  have e1 : (g == 0) = false := by rw [beq_eq_false_iff_ne]; exact hg
  clear hg
  go_enter Tryz.func105, Tryz.ntmps105
  go_wp2_with (go_at_call 48; refine (check_any _ _ g0 g1).mono ?_; rintro e w' ⟨rfl, rfl⟩)
  rw [gErr_pos hg1]
  go_returns
  exact ⟨rfl, by go_grown⟩
set_option maxHeartbeats 4000000 in
theorem nm_check_bad (size k s g : Int) (w : World) (h : dOk size k s g = false) (g0 : 0 ≤ g) (g1 : g ≤ 4294967295) :
    Ret 105 #[nmV k s g, .int .i64 size] w (.int .i64 2) := by
  have h' := dOk_not h
  have h2 : k < 1 ∨ (1 ≤ k ∧ (3 < k ∨ (k ≤ 3 ∧ (s < 0 ∨ (0 ≤ s ∧ (size ≤ s ∨ (s < size ∧ g = 0))))))) := by omega
  clear h h'
  rcases h2 with h | ⟨h1, h | ⟨h2, h | ⟨h3, h | ⟨h4, rfl⟩⟩⟩⟩
  · go_enter Tryz.func105, Tryz.ntmps105
    go_wp2
    go_returns
    exact ⟨rfl, by go_grown⟩
  · go_enter Tryz.func105, Tryz.ntmps105
    go_wp2
    go_returns
    exact ⟨rfl, by go_grown⟩
  · go_enter Tryz.func105, Tryz.ntmps105
    go_wp2
    go_returns
    exact ⟨rfl, by go_grown⟩
  · go_enter Tryz.func105, Tryz.ntmps105
    go_wp2
    go_returns
    exact ⟨rfl, by go_grown⟩
  · go_enter Tryz.func105, Tryz.ntmps105
    go_wp2_with (go_at_call 48; refine (check_any _ _ (by omega) (by omega)).mono ?_; rintro e w' ⟨rfl, rfl⟩)
    rw [gErr_zero]
    go_returns
    exact ⟨rfl, by go_grown⟩
theorem nm_check (size k s g : Int) (w : World) (g0 : 0 ≤ g) (g1 : g ≤ 4294967295) :
    Ret 105 #[nmV k s g, .int .i64 size] w (.int .i64 (dErr size k s g)) := by
  cases h : dOk size k s g with
  | true => rw [dErr_ok h]; exact nm_check_ok size k s g w h g0 g1
  | false => rw [dErr_bad h]; exact nm_check_bad size k s g w h g0 g1
end Go.Proofs.YtkjpdciccablpaaGreatDoor

/- Contracts of package descr: text. -/
namespace Go.Proofs.YtkjpdciccablpaaGreatDoor
open Go.RowKit
open Go.Lib (decDigits)

theorem itoa_ret (n : Int) (w : World) (hE : Env w) (h0 : 0 ≤ n) (h1 : n ≤ 9223372036854775807) :
    Ret 46 #[.int .i64 n] w (.string (digits n.toNat)) := by
  have h := strconv_Itoa n w hE (by omega) h1
  have e : Lib.itoa n = decDigits n.toNat := by unfold Lib.itoa; rw [if_neg (by omega)]
  rw [e] at h
  exact h
theorem cat_text (c : UInt8) (k s g : Int) : (ByteArray.mk #[letterB k]) ++ digits s.toNat ++ ⟨#[c]⟩ ++ digits g.toNat = dText c k s g := by
  apply str_ext
  simp [dText_list, dTextL, digits]
end Go.Proofs.YtkjpdciccablpaaGreatDoor

/- Contracts of package descr: Check, Pack, Unpack, Text, CheckOuter, OuterText. -/
namespace Go.Proofs.YtkjpdciccablpaaGreatDoor
open Go.RowKit
open Go.Lib (decDigits)

set_option maxHeartbeats 2000000 in
theorem d_check (k s g : Int) (w : World) (g0 : 0 ≤ g) (g1 : g ≤ 4294967295) : Ret 89 #[dV k s g] w (.int .i64 (dErr 256 k s g)) := by
  have hk := fun w => nm_check 256 k s g w g0 g1
  generalize dErr 256 k s g = v at hk
  have HK := Lib.hid hk
  clear hk
  go_enter Tryz.func89, Tryz.ntmps89
  go_wp2_with (first | (go_at_call 105; refine (HK.out _).mono ?_; rintro e w1 ⟨rfl, hb1⟩) | go_in)
  go_returns
  exact ⟨rfl, under hb1⟩
theorem o_check (k s g : Int) (w : World) (g0 : 0 ≤ g) (g1 : g ≤ 4294967295) : Ret 110 #[dV k s g] w (.int .i64 (dErr 64 k s g)) := by
  have hk := fun w => nm_check 64 k s g w g0 g1
  generalize dErr 64 k s g = v at hk
  have HK := Lib.hid hk
  clear hk
  go_enter Tryz.func110, Tryz.ntmps110
  go_wp2_with (first | (go_at_call 105; refine (HK.out _).mono ?_; rintro e w1 ⟨rfl, hb1⟩) | go_in)
  go_returns
  exact ⟨rfl, under hb1⟩
end Go.Proofs.YtkjpdciccablpaaGreatDoor

/- A region that draws its order within a round of a range over a function, held by hand: what is shown of it outside of rounds serves inside. -/
namespace Go.Proofs.YtkjpdciccablpaaGreatDoor
open Go.RowKit
set_option linter.unusedVariables false

def noDefer (o : Oper) : Bool := match o.op with
  | .defer _ => false
  | _ => true
theorem noDefer_spec {o : Oper} (h : noDefer o = true) : ∀ c, o.op ≠ .defer c := by
  intro c e
  unfold noDefer at h
  rw [e] at h
  cases h
theorem oper_round {l n : Nat} {P : Program} {Q : Exit → Act → World → Prop} {o : Oper} {a : Act} {w : World} {K : Act → World → Prop} (hd : noDefer o = true) (h : o.wp P a w K Q) : o.wpIn (Fence.wide.inRound l) n P a w K Q := by
  refine ⟨fun _ _ => trivial, ?_⟩
  rw [show (Fence.wide.inRound l).round = some l from rfl, Oper.semAt_some l _ o (noDefer_spec hd)]
  unfold Oper.wp at h
  generalize (execOp a.eval o).run P w = r at *
  cases r with
  | ok x w' =>
    cases x <;> simp only [Oper.upon, Oper.uponIn] at h ⊢ <;>
      first
        | exact h
        | exact ⟨fun hh => (by cases hh), CallsIn.inRound l (callsIn_wide.2 h)⟩
        | exact ⟨fun hh => (by cases hh), fun c cs _ => let ⟨v, w', r, s⟩ := h c cs; ⟨v, w', r, stepsIn_wide.2 s⟩⟩
  | halt x w' => cases x <;> simp only [Oper.upon, Oper.uponIn] at h ⊢ <;> exact h
theorem wpOp_round {l n : Nat} {P : Program} {ops : Array Oper} {Q : Exit → Act → World → Prop} {i : Nat} {a : Act} {w : World} {K : Act → World → Prop} (hd : ∀ o, ops[i]? = some o → noDefer o = true) (hl : ¬ LetsOut Q) (h : wpOp P ops Q i K a w) : wpOpIn (Fence.wide.inRound l) n P ops Q i K a w := by
  unfold wpOp at h
  unfold wpOpIn
  cases ho : ops[i]? with
  | none => rw [ho] at h; exact h
  | some o =>
    rw [ho] at h
    simp only at h ⊢
    split
    · rename_i hw
      rw [if_pos hw] at h
      exact oper_round (hd o ho) (h.resolve_right fun hh => hl hh.2)
    · rename_i hw
      rw [if_neg hw] at h
      exact ⟨fun _ _ => trivial, h⟩
theorem wpAny_round {l n : Nat} {P : Program} {md : Region.Mode} {ops : Array Oper} {Q : Exit → Act → World → Prop} (hd : ∀ (i : Nat) (o : Oper), ops[i]? = some o → noDefer o = true) (hl : ¬ LetsOut Q) :
    ∀ (fuel : Nat) (listed : Array Bool) (a : Act) (w : World), wpAny P md ops Q fuel listed a w → wpAnyIn (Fence.wide.inRound l) n P md ops Q fuel listed a w
  | 0, _, _, _, h => h
  | fuel + 1, listed, a, w, h => ⟨h.1, fun i hi => wpOpIn_mono (fun a' w' h' => wpAny_round hd hl fuel _ a' w' h') (wpOp_round (hd i) hl (h.2 i hi))⟩
theorem all_noDefer {ops : Array Oper} (h : ops.all noDefer = true) : ∀ (i : Nat) (o : Oper), ops[i]? = some o → noDefer o = true := by
  intro i o ho
  obtain ⟨hi, rfl⟩ := Array.getElem?_eq_some_iff.1 ho
  exact Array.all_eq_true.1 h i hi
/-- A region held by hand that does not panic: nothing is asked of what is behind a panic. -/
theorem wp_region_held_np {P : Program} {id : Nat} {ops : Array Oper} {Q : Exit → Act → World → Prop} {S : World → Prop} {a : Act} {w : World} (hm : P.follows .mixedOrders = true) (hS : S w.drew)
    (h : S w.drew → wpAnyH P .any ops (fun e a w => e = .normal ∧ Q e a w) S ops.size (Array.replicate ops.size false) a w.drew) : (Code.region id ops true).wp P Q a w :=
  Code.wp_mono (fun e a w hh => hh.2) (wp_region_held_drew hm hS h)
/-- The same region in a round. -/
theorem wpIn_region_round {l n : Nat} {P : Program} {id : Nat} {ops : Array Oper} {Q : Exit → Act → World → Prop} {S : World → Prop} {a : Act} {w : World} (hm : P.follows .mixedOrders = true) (hd : ops.all noDefer = true) (hS : S w.drew)
    (h : S w.drew → wpAnyH P .any ops (fun e a w => e ≠ .outgrown ∧ Q e a w) S ops.size (Array.replicate ops.size false) a w.drew) : (Code.region id ops true).wpIn (Fence.wide.inRound l) n P Q a w := by
  have h1 := wpAny_of_held _ _ _ _ (h hS)
  have hl : ¬ LetsOut (fun e a w => e ≠ Exit.outgrown ∧ Q e a w) := by
    rintro ⟨a, w, h1, _⟩
    exact h1 rfl
  have h2 := wpAny_round (l := l) (n := n) (all_noDefer hd) hl _ _ _ _ h1
  exact Code.wpIn_mono (fun e a w hh => hh.2) (wpIn_region_any hm h2)
theorem row_kept {W W' : World} {row : Option Nat} {x : Nat} {cs : Array Value} {t : TypeId} (h : Row W x cs t) (hg : W.grownBy W' row) (hrow : ∀ r, row = some r → ∃ o : Obj, W.heap[r]? = some o ∧ o.isCells = false) : Row W' x cs t :=
  ⟨(hg.block x h.lt (fun e => by
    obtain ⟨o, ho, hc⟩ := hrow x e.symm
    rw [h.eq] at ho
    injection ho with ho
    rw [← ho] at hc
    cases hc)).trans h.eq⟩
end Go.Proofs.YtkjpdciccablpaaGreatDoor

/- The contract of the references' Digits: the decimal numeral. -/
namespace Go.Proofs.YtkjpdciccablpaaGreatDoor
open Go.RowKit
open Go.Lib (decDigits)

theorem digits_small {n : Int} (h0 : 0 ≤ n) (h : n < 10) : digits n.toNat = ⟨#[UInt8.ofNat (48 + n).toNat]⟩ := by
  unfold digits
  rw [decDigits_step, if_pos (by omega), show (48 + n).toNat = 48 + n.toNat by omega]
theorem digits_app {n : Int} (h : 10 ≤ n) : digits n.toNat = digits (n / 10).toNat ++ ⟨#[UInt8.ofNat (48 + n % 10).toNat]⟩ := by
  rw [show (48 + n % 10).toNat = 48 + (n % 10).toNat by omega]
  apply str_ext
  have e1 : (n / 10).toNat = n.toNat / 10 := by omega
  have e2 : (n % 10).toNat = n.toNat % 10 := by omega
  rw [e1, e2, digits_list, decDigits_step, if_neg (by omega)]
  simp [digits]

/-- A slice of one byte, made into a string. -/
theorem conv_one (b : Int) (h0 : 0 ≤ b) (h1 : b ≤ 255) (a : Addr) (W : World) (hc : W.cell? a = some (.int .u8 b)) :
    (convert 151 9 (.slice (some a) 1 1)).run Tryz.prog W = .ok (.string ⟨#[UInt8.ofNat b.toNat]⟩) W := by
  have h := run_convert_bytes_back (P := Tryz.prog) W 151 9 5 a 1 [UInt8.ofNat b.toNat] Tryz.underlying151 Tryz.underlying5 Tryz.underlying9 (fun j hj => by
    have hj0 : j = 0 := by simpa using hj
    subst hj0
    rw [show a.add 0 = a from rfl, hc]
    have e : (UInt8.ofNat b.toNat).toNat = b.toNat := by rw [UInt8.toNat_ofNat']; omega
    simp only [List.getElem_cons_zero, e]
    rw [Int.toNat_of_nonneg h0])
  exact h

end Go.Proofs.YtkjpdciccablpaaGreatDoor

/- The contracts of the references of chapter 01: Number, and (where they stand in the cut) Check, Left, After, Next, Newer, Text, Parse. -/
namespace Go.Proofs.YtkjpdciccablpaaGreatDoor
open Go.RowKit
open Go.Lib (decDigits)

theorem isGen_numB {l : List UInt8} (h : isGen l = true) : numB l = true := by
  obtain ⟨n, h1, h2, h3⟩ := (isGen_iff l).1 h
  unfold numB
  rw [decide_eq_true_iff]
  subst h3
  rw [val_decDigits]
  exact ⟨nDigits_le_10 n (by omega), rfl⟩
theorem take_snoc (s : ByteArray) (k : Nat) (h : k < s.size) : s.data.toList.take (k + 1) = s.data.toList.take k ++ [s[k]] := by
  rw [List.take_succ_eq_append_getElem (by simpa using h)]; rfl

/-- a byte that is no digit, somewhere -/
theorem all_take_snoc (s : ByteArray) (k : Nat) (h : k < s.size) : (s.data.toList.take (k + 1)).all isDig = ((s.data.toList.take k).all isDig && isDig s[k]) := by
  rw [take_snoc s k h, List.all_append]; simp
theorem not_all_of {s : ByteArray} {k : Nat} (h : k < s.size) (hd : isDig s[k] = false) : s.data.toList.all isDig = false := by
  rw [Bool.eq_false_iff]
  intro ha
  rw [List.all_eq_true] at ha
  have := ha s[k] (by
    have e : s[k] = s.data.toList[k]'(by simpa using h) := rfl
    rw [e]; exact List.getElem_mem _)
  rw [hd] at this; cases this
theorem val_snoc (s : ByteArray) (k : Nat) (h : k < s.size) : valFrom 0 (s.data.toList.take (k + 1)) = valFrom 0 (s.data.toList.take k) * 10 + (s[k].toNat - 48) := by
  rw [take_snoc s k h, valFrom_append, valFrom_one]

theorem ref_Check (g : Int) (w : World) (h1 : 0 ≤ g) (h2 : g ≤ 4294967295) : Calls Tryz.prog 49 #[.int .u32 g] w fun e w' => e = .returned (.int .i64 (gErr g)) ∧ w' = w := by
  by_cases h : 1 ≤ g
  · rw [gErr_pos h]
    have h0 : (g == 0) = false := by rw [beq_eq_false_iff_ne]; omega
    go_enter Tryz.func49, Tryz.ntmps49
    go_wp2
    go_ret
    exact ⟨rfl, rfl⟩
  · obtain rfl : g = 0 := by omega
    rw [gErr_zero]
    go_enter Tryz.func49, Tryz.ntmps49
    go_wp2
    go_ret
    exact ⟨rfl, rfl⟩
theorem ref_Next (g : Int) (w : World) (h1 : 0 ≤ g) (h2 : g ≤ 4294967295) :
    Ret 93 #[.int .u32 g] w (.tuple #[.int .u32 (gAfter g 1), .bool (gAfterB g 1), .int .i64 (gErr g)]) := by
  by_cases h : 1 ≤ g
  · have h0 : (g == 0) = false := by rw [beq_eq_false_iff_ne]; omega
    by_cases hn : g ≤ 4294967294
    · rw [gErr_pos h, gAfter_in h (by omega), gAfterB_in h (by omega)]
      have hm : (g == 4294967295) = false := by rw [beq_eq_false_iff_ne]; omega
      go_enter Tryz.func93, Tryz.ntmps93
      go_wp2
      go_returns
      exact ⟨rfl, Below.refl _ _⟩
    · obtain rfl : g = 4294967295 := by omega
      rw [gErr_pos h, gAfter_out (by omega), gAfterB_out (by omega)]
      clear h1 h2 h h0 hn
      go_enter Tryz.func93, Tryz.ntmps93
      go_wp2
      go_returns
      exact ⟨rfl, Below.refl _ _⟩
  · obtain rfl : g = 0 := by omega
    rw [gAfter_zero, gAfterB_zero, gErr_zero]
    go_enter Tryz.func93, Tryz.ntmps93
    go_wp2
    go_returns
    exact ⟨rfl, Below.refl _ _⟩
end Go.Proofs.YtkjpdciccablpaaGreatDoor

/- Package descr: Order; and the reference's. -/
namespace Go.Proofs.YtkjpdciccablpaaGreatDoor
open Go.RowKit

def cmpI (x y : Int) : Int := if x < y then -1 else if y < x then 1 else 0
def orI (a b c : Int) : Int := if a ≠ 0 then a else if b ≠ 0 then b else c
def dOrd (k s g k' s' g' : Int) : Int := orI (cmpI k k') (cmpI s s') (cmpI g g')
theorem cmpI_lt {x y : Int} (h : x < y) : cmpI x y = -1 := if_pos h
theorem cmpI_gt {x y : Int} (h : y < x) : cmpI x y = 1 := by unfold cmpI; rw [if_neg (by omega), if_pos h]
theorem cmpI_eq (x : Int) : cmpI x x = 0 := by unfold cmpI; rw [if_neg (by omega), if_neg (by omega)]
theorem cmpI_cases (x y : Int) : (x < y ∧ cmpI x y = -1) ∨ (y < x ∧ cmpI x y = 1) ∨ (x = y ∧ cmpI x y = 0) := by
  unfold cmpI
  by_cases h : x < y
  · exact .inl ⟨h, if_pos h⟩
  · by_cases h2 : y < x
    · exact .inr (.inl ⟨h2, by rw [if_neg h, if_pos h2]⟩)
    · exact .inr (.inr ⟨by omega, by rw [if_neg h, if_neg h2]⟩)
end Go.Proofs.YtkjpdciccablpaaGreatDoor

/- The references of chapter 05: Check, CheckOuter, letter, Text, OuterText, Pack, Unpack. -/
namespace Go.Proofs.YtkjpdciccablpaaGreatDoor
open Go.RowKit
open Go.Lib (decDigits)

set_option maxHeartbeats 4000000 in
theorem rd_check (k s g : Int) (w : World) (g0 : 0 ≤ g) : Ret 91 #[dV k s g] w (.int .i64 (dErr 256 k s g)) := by
  cases h : dOk 256 k s g with
  | true =>
    rw [dErr_ok h]
    rw [dOk_iff] at h
    obtain ⟨k1, k3, s0, s1, hg⟩ := h
    have e1 : (g == 0) = false := beq_eq_false_iff_ne.2 hg
    clear hg
    go_enter Tryz.func91, Tryz.ntmps91
    go_wp2
    go_returns
    exact ⟨rfl, by go_grown⟩
  | false =>
    rw [dErr_bad h]
    have h' := dOk_not h
    have h2 : k < 1 ∨ (1 ≤ k ∧ (3 < k ∨ (k ≤ 3 ∧ (s < 0 ∨ (0 ≤ s ∧ (256 ≤ s ∨ (s < 256 ∧ g = 0))))))) := by omega
    clear h h' g0
    rcases h2 with h | ⟨h1, h | ⟨h2, h | ⟨h3, h | ⟨h4, rfl⟩⟩⟩⟩
    all_goals
      go_enter Tryz.func91, Tryz.ntmps91
      go_wp2
      go_returns
      exact ⟨rfl, by go_grown⟩
set_option maxHeartbeats 4000000 in
theorem ro_check (k s g : Int) (w : World) (g0 : 0 ≤ g) : Ret 108 #[dV k s g] w (.int .i64 (dErr 64 k s g)) := by
  cases h : dOk 64 k s g with
  | true =>
    rw [dErr_ok h]
    rw [dOk_iff] at h
    obtain ⟨k1, k3, s0, s1, hg⟩ := h
    have e1 : (g == 0) = false := beq_eq_false_iff_ne.2 hg
    clear hg
    go_enter Tryz.func108, Tryz.ntmps108
    go_wp2
    go_returns
    exact ⟨rfl, by go_grown⟩
  | false =>
    rw [dErr_bad h]
    have h' := dOk_not h
    have h2 : k < 1 ∨ (1 ≤ k ∧ (3 < k ∨ (k ≤ 3 ∧ (s < 0 ∨ (0 ≤ s ∧ (64 ≤ s ∨ (s < 64 ∧ g = 0))))))) := by omega
    clear h h' g0
    rcases h2 with h | ⟨h1, h | ⟨h2, h | ⟨h3, h | ⟨h4, rfl⟩⟩⟩⟩
    all_goals
      go_enter Tryz.func108, Tryz.ntmps108
      go_wp2
      go_returns
      exact ⟨rfl, by go_grown⟩
end Go.Proofs.YtkjpdciccablpaaGreatDoor

/- A region that draws its order, whose last operation (all others go ahead of it) overwrites what the region loads: the condition S need not hold behind that one. Plain, no program in sight. -/
namespace Go.Proofs.YtkjpdciccablpaaGreatDoor
set_option linter.unusedVariables false
set_option linter.unusedSimpArgs false
section
variable {P : Program} {ops : Array Oper} {Q : Exit → Act → World → Prop} {md : Region.Mode} {S : World → Prop} {n : Nat}
/-- In whatever order the rest comes up, it ends well; S holds behind each operation but number n. -/
def AnyL (P : Program) (md : Region.Mode) (ops : Array Oper) (Q : Exit → Act → World → Prop) (S : World → Prop) (n : Nat) (fuel : Nat) : Array Bool → Act → World → Prop :=
  Nat.rec (fun l a w => Region.ready md ops l = [] ∧ Q .normal a w)
    (fun _ rest l a w => (Region.ready md ops l = [] → Q .normal a w) ∧ ∀ i ∈ Region.ready md ops l, wpOp P ops Q i (fun a' w' => (i ≠ n → S w') ∧ rest (l.setIfInBounds i true) a' w') a w) fuel
theorem AnyL.plain : ∀ (fuel : Nat) {l : Array Bool} {a : Act} {w : World}, AnyL P md ops Q S n fuel l a w → wpAny P md ops Q fuel l a w
  | 0, _, _, _, h => h
  | f + 1, _, _, _, h => ⟨h.1, fun i hi => wpOp_mono (fun _ _ h2 => AnyL.plain f h2.2) (h.2 i hi)⟩
/-- Number n waits for number i. -/
def waits (md : Region.Mode) (ops : Array Oper) (n i : Nat) : Bool := match ops[n]? with
  | some o => o.after.any fun e => Region.binds md e && e.on == i
  | none => false
theorem not_last {l : Array Bool} {i j : Nat} (hw : waits md ops n i = true) (hi : i ∈ Region.ready md ops l) (hj : j ∈ Region.ready md ops l) : j ≠ n := by
  rintro rfl
  obtain ⟨_, o, ho, hall⟩ := mem_ready.1 hj
  unfold waits at hw
  rw [ho] at hw
  obtain ⟨e, he, h2⟩ := Array.any_eq_true'.1 hw
  simp only [Bool.and_eq_true, beq_iff_eq] at h2
  have h3 := hall e he h2.1
  have h4 := (mem_ready.1 hi).1
  rw [h2.2] at h3
  rcases Nat.lt_or_ge i l.size with h5 | h5
  · simp [h5] at h3 h4
    rw [h4] at h3
    cases h3
  · simp [Array.getElem?_eq_none h5] at h3
theorem anyL_first {i : Nat} {oi : Oper} {v : Value} (hi : ops[i]? = some oi) (hs : Region.noSelect ops = true) (hw : waits md ops n i = true) (hQ : ∀ c a w, Q (.panic c) (a.put oi.dst v) w → Q (.panic c) a w) (fuel : Nat) :
    ∀ (l : Array Bool) (a : Act) (w : World), (∀ j oj, ops[j]? = some oj → j ≠ i → l.getD j true = false → (∀ e ∈ oj.after, Region.binds md e = true → e.on ≠ i) → oi.apart ops oj = true) →
      i ∈ Region.ready md ops l → YieldsIf P ops S oi v a → S w → AnyL P md ops Q S n fuel (l.setIfInBounds i true) (a.put oi.dst v) w → AnyL P md ops Q S n (fuel + 1) l a w := by
  have hsel := Region.noSelect_spec hs
  induction fuel with
  | zero =>
    intro l a w _ hr hy hS H
    refine ⟨fun h0 => absurd hr (by rw [h0]; exact List.not_mem_nil), fun j hj => ?_⟩
    rcases Classical.em (j = i) with rfl | hne
    · exact hy.wpOp hi hS ⟨fun _ => hS, H⟩
    · exact absurd (ready_mono hj hne) (by rw [H.1]; exact List.not_mem_nil)
  | succ f ih =>
    intro l a w hfree hr hy hS H
    refine ⟨fun h0 => absurd hr (by rw [h0]; exact List.not_mem_nil), fun j hj => ?_⟩
    rcases Classical.em (j = i) with rfl | hne
    · exact hy.wpOp hi hS ⟨fun _ => hS, H⟩
    have hjn : j ≠ n := not_last hw hr hj
    obtain ⟨hju, oj, hoj, hall⟩ := mem_ready.1 hj
    have hedge : ∀ e ∈ oj.after, Region.binds md e = true → e.on ≠ i := fun e he hb hei => by
      have h1 := hall e he hb
      have h0 := (mem_ready.1 hr).1
      rw [hei] at h1
      rcases Nat.lt_or_ge i l.size with h5 | h5
      · simp [h5] at h0 h1
        rw [h0] at h1
        cases h1
      · simp [Array.getElem?_eq_none h5] at h1
    have step := wpOp_putIf hoj (hfree j oj hoj hne hju hedge) (fun cs b => hsel i oi cs b hi) (fun cs b => hsel j oj cs b hoj) hQ hy (H.2 j (ready_mono hj hne))
    refine wpOp_mono (fun a' w' h3 => ⟨h3.2.1, ih (l.setIfInBounds j true) a' w' (fun k ok hk hki hun hno => hfree k ok hk hki ?_ hno) (ready_mono hr (Ne.symm hne)) h3.1 (h3.2.1 hjn) ?_⟩) step
    · rcases Classical.em (j = k) with rfl | hjk
      · exact hju
      · rwa [getD_set_ne true hjk] at hun
    · rw [Array.setIfInBounds_comm _ _ hne]
      exact h3.2.2
/-- Number i is taken first. -/
theorem anyL_take {i : Nat} {oi : Oper} {v : Value} {fuel : Nat} {l : Array Bool} {a : Act} {w : World} (hi : ops[i]? = some oi) (hs : Region.noSelect ops = true) (hf : Region.free md ops l i = true) (hr : (Region.ready md ops l).contains i = true) (hw : waits md ops n i = true)
    (hQ : ∀ c a w, Q (.panic c) (a.put oi.dst v) w → Q (.panic c) a w) (hy : YieldsIf P ops S oi v a) (hS : S w) (h : AnyL P md ops Q S n fuel (l.setIfInBounds i true) (a.put oi.dst v) w) : AnyL P md ops Q S n (fuel + 1) l a w :=
  anyL_first hi hs hw hQ fuel l a w (Region.free_spec hi hf) (by simpa using hr) hy hS h
def ReadyL (P : Program) (md : Region.Mode) (ops : Array Oper) (Q : Exit → Act → World → Prop) (S : World → Prop) (n fuel : Nat) (l : Array Bool) (a : Act) (w : World) (rs : List Nat) : Prop :=
  ∀ i ∈ rs, wpOp P ops Q i (fun a' w' => (i ≠ n → S w') ∧ AnyL P md ops Q S n fuel (l.setIfInBounds i true) a' w') a w
theorem ReadyL.nil {fuel : Nat} {l : Array Bool} {a : Act} {w : World} : ReadyL P md ops Q S n fuel l a w [] := fun _ h => absurd h List.not_mem_nil
theorem ReadyL.cons {fuel : Nat} {l : Array Bool} {a : Act} {w : World} {i : Nat} {o : Oper} {rs : List Nat} (ho : ops[i]? = some o)
    (h : ∀ K' : Act → World → Prop, Shut (∀ a w, (i ≠ n → S w) → ((i ≠ n → S w) → AnyL P md ops Q S n fuel (l.setIfInBounds i true) a w) → K' a w) → if Region.wanted o (yielded ops a.tmps) = true then Oper.wp P o a w K' Q else K' (a.put o.dst undef) w)
    (hs : ReadyL P md ops Q S n fuel l a w rs) : ReadyL P md ops Q S n fuel l a w (i :: rs) := fun j hj => by
  rcases List.mem_cons.1 hj with rfl | hj
  · exact wpOp_step ho (fun K' hK => h K' (fun a w h1 h2 => hK a w ⟨h1, h2 h1⟩))
  · exact hs j hj
theorem anyL_ready {rs : List Nat} {fuel : Nat} {l : Array Bool} {a : Act} {w : World} (hr : Region.ready md ops l = rs) (hne : rs ≠ []) (h : ReadyL P md ops Q S n fuel l a w rs) : AnyL P md ops Q S n (fuel + 1) l a w :=
  ⟨fun h0 => absurd (hr ▸ h0) hne, hr ▸ h⟩
theorem anyL_done {l : Array Bool} {a : Act} {w : World} (hr : Region.ready md ops l = []) (h : Q .normal a w) : ∀ fuel, AnyL P md ops Q S n fuel l a w
  | 0 => ⟨hr, h⟩
  | _ + 1 => ⟨fun _ => h, fun i hi => absurd (hr ▸ hi) List.not_mem_nil⟩
theorem region_last {id : Nat} {a : Act} {w : World} (n : Nat) (hm : P.follows .mixedOrders = true) (hS : S w.drew) (h : S w.drew → AnyL P .any ops Q S n ops.size (Array.replicate ops.size false) a w.drew) : (Code.region id ops true).wp P Q a w :=
  wp_region_any hm (AnyL.plain _ (h hS))
end
end Go.Proofs.YtkjpdciccablpaaGreatDoor

/- Appending to a slice of one's own whose elements have k cells: any source, nil too; its parts (chapter 37). Plain, no program in sight. -/
namespace Go.Proofs.YtkjpdciccablpaaGreatDoor
open Go.RowKit
set_option linter.unusedVariables false
set_option linter.unusedSimpArgs false
/-- What is appended: its elements by their k cells; nil, or at an address. -/
structure Src (W : World) (k : Nat) (x : Value) (E : List (List Value)) : Prop where
  len : ∀ c ∈ E, c.length = k
  one : ∀ c ∈ E, ∀ u ∈ c, u.oneCell' = true
  at_ : (x = .slice none 0 0 ∧ E = []) ∨ ∃ ad c, x = .slice (some ad) E.length c ∧ ∀ j u, E.flatten[j]? = some u → W.cell? (ad.add j) = some u
theorem app_any {P : Program} {w : World} {t ty : TypeId} {b : Nat} {e : TypeId} {i : TypeInfo} {z : Value} {k bytes : Nat} (ht : P.underlying t = some (.slice e)) (hi : P.info? e = some i) (hz : i.zero = some z) (hsize : i.size = k) (hby : i.bytes = bytes) (hzs : z.cells.size = k) (hsz : 0 < k)
    {v x : Value} {L E : List (List Value)} (hv : OwnsC e k b w v L) (hx : Src w k x E) (h63 : L.length + E.length ≤ 100000) (hbs : bytes ≤ 1000) (hb : b ≤ w.heap.size) :
    ∃ a c w', (Builtin.append_ #[t, t] ty #[v, x]).run P w = .ok (.slice a (L.length + E.length) c) w' ∧ OwnsC e k b w' (.slice a (L.length + E.length) c) (L ++ E) ∧ w.grownBy w' v.ownBlock := by
  have hall : ∀ c ∈ L ++ E, c.length = k := fun c hc => by
    rcases List.mem_append.1 hc with h | h
    · exact hv.1 c h
    · exact hx.len c h
  rcases hx.at_ with ⟨rfl, rfl⟩ | ⟨ad, c, rfl, hs⟩
  · have hr := run_append_owned_none (P := P) (w := w) b t ty e i k ht hi v _ _ hv.2
    obtain ⟨a, c, rfl⟩ := hv.len
    exact ⟨a, c, w, hr, by rw [List.append_nil]; exact hv, ⟨rfl, rfl, rfl, Nat.le_refl _, fun _ _ _ => rfl⟩⟩
  · have hbb : (L.length + E.length) * bytes ≤ 140737488355328 := by
      have h1 : (L.length + E.length) * bytes ≤ 100000 * 1000 := Nat.mul_le_mul h63 hbs
      omega
    obtain ⟨v', w', hr, h2, h3, _, _⟩ := run_append_own_at (P := P) w b t ty e i z k bytes ht hi hz hsize hby hzs hsz v L.length L.flatten hv.2 ad E.length c E.flatten (flat_len hx.len) hs (fun u hu => by
      obtain ⟨c, hc, hu⟩ := List.mem_flatten.1 hu
      exact hx.one c hc u hu) (by unfold maxLen; omega) hbb hb
    have hO : OwnsC e k b w' v' (L ++ E) := by
      refine ⟨hall, ?_⟩
      rw [List.length_append, List.flatten_append]
      exact h2
    obtain ⟨a, c2, hv'⟩ := hO.len
    rw [List.length_append] at hv'
    subst hv'
    exact ⟨a, c2, w', hr, hO, h3⟩
theorem wpList_app {P : Program} {w : World} {ops : Array Oper} {rest : List Oper} {o : Oper} {a : Act} {Q : Exit → Act → World → Prop} (hgd : o.guard = none) (s x : Operand) (t : TypeId) (ho : o.op = .call { callee := .builtin .append, args := #[s, x], argTypes := #[t, t] })
    {b : Nat} {e : TypeId} {i : TypeInfo} {z : Value} {k bytes : Nat} (ht : P.underlying t = some (.slice e)) (hi : P.info? e = some i) (hz : i.zero = some z) (hsize : i.size = k) (hby : i.bytes = bytes) (hzs : z.cells.size = k) (hsz : 0 < k)
    {v xv : Value} {L E : List (List Value)} (hs : a.eval s = v) (hxv : a.eval x = xv) (hv : OwnsC e k b w v L) (hx : Src w k xv E) (h63 : L.length + E.length ≤ 100000) (hbs : bytes ≤ 1000) (hb : b ≤ w.heap.size)
    (h : ∀ aa c w', OwnsC e k b w' (.slice aa (L.length + E.length) c) (L ++ E) → w.grownBy w' v.ownBlock → wpList P ops Q rest (a.put o.dst (.slice aa (L.length + E.length) c)) w') : wpList P ops Q (o :: rest) a w := by
  refine wpList_plain hgd fun K hK => ?_
  obtain ⟨aa, c, w', hr, h2, h3⟩ := app_any (P := P) (ty := o.type) ht hi hz hsize hby hzs hsz hv hx h63 hbs hb
  unfold Oper.wp
  simp [execOp, ho, resolve, invoke, builtin, hs, hxv, hr, Result.andThen]
  exact hK _ _ (h aa c w' h2 h3)
/-- At a step of a region that draws its order. -/
theorem step_app {P : Program} {w : World} {ops : Array Oper} {o : Oper} {a : Act} {K : Act → World → Prop} {Q : Exit → Act → World → Prop} {X : Prop} (hgd : o.guard = none) (s x : Operand) (t : TypeId) (ho : o.op = .call { callee := .builtin .append, args := #[s, x], argTypes := #[t, t] })
    {b : Nat} {e : TypeId} {i : TypeInfo} {z : Value} {k bytes : Nat} (ht : P.underlying t = some (.slice e)) (hi : P.info? e = some i) (hz : i.zero = some z) (hsize : i.size = k) (hby : i.bytes = bytes) (hzs : z.cells.size = k) (hsz : 0 < k)
    {v xv : Value} {L E : List (List Value)} (hs : a.eval s = v) (hxv : a.eval x = xv) (hv : OwnsC e k b w v L) (hx : Src w k xv E) (h63 : L.length + E.length ≤ 100000) (hbs : bytes ≤ 1000) (hb : b ≤ w.heap.size)
    (h : ∀ aa c w', OwnsC e k b w' (.slice aa (L.length + E.length) c) (L ++ E) → w.grownBy w' v.ownBlock → K (a.put o.dst (.slice aa (L.length + E.length) c)) w') : if Region.wanted o (yielded ops a.tmps) = true then Oper.wp P o a w K Q else X := by
  have hw : Region.wanted o (yielded ops a.tmps) = true := by unfold Region.wanted; rw [hgd]
  rw [if_pos hw]
  obtain ⟨aa, c, w', hr, h2, h3⟩ := app_any (P := P) (ty := o.type) ht hi hz hsize hby hzs hsz hv hx h63 hbs hb
  unfold Oper.wp
  simp [execOp, ho, resolve, invoke, builtin, hs, hxv, hr, Result.andThen]
  exact h aa c w' h2 h3
section
variable {t : TypeId} {k b : Nat} {W W' : World} {v : Value} {L : List (List Value)}
theorem add_offC (g o j : Nat) : (⟨g, o, none⟩ : Addr).add j = ⟨g, o + j, none⟩ := by
  unfold Addr.add
  by_cases h : j = 0
  · subst h; simp
  · simp [h]
theorem Src.keep {x : Value} {E : List (List Value)} (h : Src W k x E) (hb : ∀ g, x.ownBlock = some g → W'.heap[g]? = W.heap[g]?) : Src W' k x E := by
  refine ⟨h.len, h.one, h.at_.imp id ?_⟩
  rintro ⟨ad, c, rfl, h2⟩
  refine ⟨ad, c, rfl, fun j u hj => ?_⟩
  have h3 := h2 j u hj
  rw [← h3]
  refine World.cell?_of_block ?_
  have e : (ad.add j).block = ad.block := by
    unfold Addr.add
    split <;> rfl
  rw [e]
  exact hb _ rfl
theorem src_row (W : World) (cs : Array Value) (hk : cs.size = k) (h1 : ∀ u ∈ cs.toList, u.oneCell' = true) : Src (W.alloc (.cells cs t)) k (.slice (some ⟨W.heap.size, 0, none⟩) 1 1) [cs.toList] := by
  refine ⟨fun c hc => by rw [List.mem_singleton.1 hc]; simpa using hk, fun c hc => by rw [List.mem_singleton.1 hc]; exact h1, .inr ⟨_, 1, rfl, fun j u hj => ?_⟩⟩
  have := row_src W cs t j u (by simpa using hj)
  exact this
theorem OwnsC.made (W : World) : OwnsC t k b (W.alloc (.cells #[] t)) (.slice (some ⟨W.heap.size, 0, none⟩) 0 0) [] ↔ b ≤ W.heap.size := by
  constructor
  · intro h
    exact (h.lt W.heap.size rfl).1
  · intro hb
    exact ⟨by simp, World.ownsRow_made W #[] 0 hb (by unfold maxLen; omega) (by simp)⟩
theorem OwnsC.src_at (h : OwnsC t k b W v L) {g n c : Nat} (hv : v = .slice (some ⟨g, 0, none⟩) n c) (i : Nat) : ∀ j u, (L.drop i).flatten[j]? = some u → W.cell? ⟨g, i * k + j, none⟩ = some u := by
  intro j u hj
  rcases h.2.2 with ⟨h0, h1⟩ | ⟨g', cap, cur, h1, h2, h3, h4, h5, h6, h7⟩
  · rw [hv] at h0; cases h0
  · obtain rfl : g = g' := by rw [hv] at h1; injection h1 with h1; injection h1 with h1; injection h1
    have e : W.cell? ⟨g, i * k + j, none⟩ = cur[i * k + j]? := by simp [World.cell?, h3]
    have hfl : L.flatten = (L.take i).flatten ++ (L.drop i).flatten := by rw [← List.flatten_append, List.take_append_drop]
    by_cases hi : i ≤ L.length
    · have hti : (L.take i).flatten.length = i * k := by rw [flat_len (fun x hx => h.1 x (List.mem_of_mem_take hx)), List.length_take, Nat.min_eq_left hi]
      have hq : L.flatten[i * k + j]? = some u := by rw [hfl, List.getElem?_append_right (by omega), hti, Nat.add_sub_cancel_left]; exact hj
      rw [e, ← Array.getElem?_toList]
      rw [← h7, List.getElem?_take] at hq
      split at hq
      · exact hq
      · cases hq
    · rw [List.drop_eq_nil_of_le (by omega)] at hj
      simp at hj
/-- The whole, as a source. -/
theorem OwnsC.src (h : OwnsC t k b W v L) (h1 : ∀ c ∈ L, ∀ u ∈ c, u.oneCell' = true) : Src W k v L := by
  refine ⟨h.1, h1, ?_⟩
  rcases h.2.2 with ⟨h0, h2⟩ | ⟨g, cap, cur, h2, _⟩
  · exact .inl ⟨h0, List.eq_nil_of_length_eq_zero h2⟩
  · refine .inr ⟨_, cap, h2, fun j u hj => ?_⟩
    have h3 := h.src_at h2 0 j u (by simpa using hj)
    rw [show (⟨g, 0, none⟩ : Addr).add j = ⟨g, 0 * k + j, none⟩ by simp [Addr.add]; omega]
    exact h3
/-- Its beginning. -/
theorem OwnsC.low {P : Program} {ty : TypeId} {i0 : TypeInfo} (h : OwnsC t k b W v L) (h1 : ∀ c ∈ L, ∀ u ∈ c, u.oneCell' = true) (ht : P.underlying ty = some (.slice t)) (hi : P.info? t = some i0) (hs : i0.size = k) {i : Nat} (hl : i ≤ L.length) :
    ∃ a c, (∀ w, (Instr.slice ty v none (some (.int .i64 i)) none).run P w = .ok (.slice a i c) w) ∧ Src W k (.slice a i c) (L.take i) ∧ ∀ g, (Value.slice a i c).ownBlock = some g → v.ownBlock = some g := by
  have h3 : ∀ c ∈ L.take i, c.length = k := fun x hx => h.1 x (List.mem_of_mem_take hx)
  have h4 : ∀ c ∈ L.take i, ∀ u ∈ c, u.oneCell' = true := fun x hx => h1 x (List.mem_of_mem_take hx)
  rcases h.2.2 with ⟨h0, h2⟩ | ⟨g, cap, cur, h2, _, _, hcap, _⟩
  · obtain rfl : i = 0 := by omega
    subst h0
    refine ⟨none, 0, fun w => ?_, ⟨h3, h4, .inl ⟨rfl, by simp⟩⟩, fun g hg => by cases hg⟩
    simp [Instr.slice, Instr.sliceBounds, Instr.sliceBound, asIntOf, run_underlying ht, sizeOf, typeInfo, hi, Result.andThen]
  · subst h2
    have hle : i ≤ cap := Nat.le_trans hl hcap
    refine ⟨some ⟨g, 0, none⟩, cap, fun w => ?_, ⟨h3, h4, .inr ⟨⟨g, 0, none⟩, cap, by rw [List.length_take, Nat.min_eq_left hl], fun j u hj => ?_⟩⟩, fun _ h => h⟩
    · simp [Instr.slice, Instr.sliceBounds, Instr.sliceBound, asIntOf, run_underlying ht, sizeOf, typeInfo, hi, Result.andThen, hle, Addr.add]
    · have hq : L.flatten[j]? = some u := by
        have e : L.flatten = (L.take i).flatten ++ (L.drop i).flatten := by rw [← List.flatten_append, List.take_append_drop]
        have hjl := (List.getElem?_eq_some_iff.1 hj).1
        rw [e, List.getElem?_append_left hjl]
        exact hj
      have h5 := h.src_at rfl 0 j u (by simpa using hq)
      rw [show (⟨g, 0, none⟩ : Addr).add j = ⟨g, 0 * k + j, none⟩ by simp [Addr.add]; omega]
      exact h5
/-- Its end. -/
theorem OwnsC.high {P : Program} {ty : TypeId} {i0 : TypeInfo} (h : OwnsC t k b W v L) (h1 : ∀ c ∈ L, ∀ u ∈ c, u.oneCell' = true) (ht : P.underlying ty = some (.slice t)) (hi : P.info? t = some i0) (hs : i0.size = k) {i : Nat} (hl : i ≤ L.length) :
    ∃ a c, (∀ w, (Instr.slice ty v (some (.int .i64 i)) none none).run P w = .ok (.slice a (L.length - i) c) w) ∧ Src W k (.slice a (L.length - i) c) (L.drop i) ∧ ∀ g, (Value.slice a (L.length - i) c).ownBlock = some g → v.ownBlock = some g := by
  have h3 : ∀ c ∈ L.drop i, c.length = k := fun x hx => h.1 x (List.mem_of_mem_drop hx)
  have h4 : ∀ c ∈ L.drop i, ∀ u ∈ c, u.oneCell' = true := fun x hx => h1 x (List.mem_of_mem_drop hx)
  rcases h.2.2 with ⟨h0, h2⟩ | ⟨g, cap, cur, h2, _, _, hcap, _⟩
  · obtain rfl : i = 0 := by omega
    subst h0
    have hL := List.eq_nil_of_length_eq_zero h2
    subst hL
    refine ⟨none, 0, fun w => ?_, ⟨h3, h4, .inl ⟨rfl, rfl⟩⟩, fun g hg => by cases hg⟩
    simp [Instr.slice, Instr.sliceBounds, Instr.sliceBound, asIntOf, run_underlying ht, sizeOf, typeInfo, hi, Result.andThen]
  · subst h2
    refine ⟨some (if cap = i then ⟨g, 0, none⟩ else (⟨g, 0, none⟩ : Addr).add (i * k)), cap - i, fun w => ?_, ⟨h3, h4, .inr ⟨_, cap - i, by rw [List.length_drop], fun j u hj => ?_⟩⟩, fun g' hg => ?_⟩
    · simp [Instr.slice, Instr.sliceBounds, Instr.sliceBound, asIntOf, run_underlying ht, sizeOf, typeInfo, hi, Result.andThen, hl, hs]
      split <;> rfl
    · have h5 := h.src_at rfl i j u hj
      have hne : ¬ cap = i := fun e => by
        rw [List.drop_eq_nil_of_le (by omega)] at hj
        simp at hj
      rw [if_neg hne, add_offC, add_offC, Nat.zero_add]
      exact h5
    · rw [← hg]
      by_cases hci : cap = i
      · rw [if_pos hci]; rfl
      · rw [if_neg hci, add_offC]; rfl
end
end Go.Proofs.YtkjpdciccablpaaGreatDoor

/- strings.Builder's writers at this program (its copyCheck has a branch that the loader leaves out: the library's contracts do not lay here): their contracts. -/
namespace Go.Proofs.YtkjpdciccablpaaGreatDoor
open Go.RowKit
set_option linter.unusedVariables false
set_option linter.unusedSimpArgs false

abbrev bldT : TypeId := 153
abbrev BF (B b : Nat) (l : List UInt8) (w : World) : Prop := Lib.IsBuilderF 153 5 B b (Lib.byteCells l) w
theorem b_size : (Tryz.prog.info? 153).map (·.size) = some 2 := by kernel_rfl
theorem b_byte : (Tryz.prog.info? 5).map (fun i => (i.zero, i.size, i.bytes)) = some (some (.int .u8 0), 1, 1) := by kernel_rfl
set_option maxHeartbeats 1000000 in
set_option maxRecDepth 100000 in
theorem copy_used (b : Nat) (w : World) (h0 : w.cell? ⟨b, 0, none⟩ = some (.pointer (some ⟨b, 0, none⟩))) :
    Calls Tryz.prog 99 #[.pointer (some ⟨b, 0, none⟩)] w fun e w' => e = .returned (.tuple #[]) ∧ w' = w := by
  obtain ⟨j, hj, _⟩ := Option.map_eq_some_iff.1 b_size
  go_enter Tryz.func99, Tryz.ntmps99
  go_wp2
  rw [Lib.run_neq_ptr_same w _ Tryz.underlying150 hj]
  go_wp2
  go_end0
  exact ⟨rfl, rfl⟩
set_option maxHeartbeats 1000000 in
set_option maxRecDepth 100000 in
theorem copy_fresh (b : Nat) (w : World) (h0 : w.cell? ⟨b, 0, none⟩ = some (.pointer none)) (hsh : w.shape? b = some (153, 2)) (hfz : w.frozen? ⟨b, 0, none⟩ = false) :
    Calls Tryz.prog 99 #[.pointer (some ⟨b, 0, none⟩)] w fun e w' => e = .returned (.tuple #[]) ∧ w' = w.setCell ⟨b, 0, none⟩ (.pointer (some ⟨b, 0, none⟩)) := by
  obtain ⟨j, hj, hjs⟩ := Option.map_eq_some_iff.1 b_size
  go_enter Tryz.func99, Tryz.ntmps99
  go_wp2
  rw [Lib.run_to_unsafe w ⟨b, 0, none⟩ Tryz.underlying150 Tryz.underlying201 hj (by rw [hjs]; decide) hsh (Nat.zero_lt_succ 1)]
  simp only [Result.andThen]
  rw [Oper.upon_value]
  go_wp2
  rw [run_callFunc_extern Tryz.func118 (by kernel_rfl) (by kernel_rfl) (by kernel_rfl) (e := Extern.AbiNoEscape.same) (by kernel_rfl)]
  rw [Lib.run_noEscape]
  simp only [Result.andThen]
  rw [Oper.upon_value]
  go_wp2
  rw [Lib.run_from_unsafe w ⟨b, 0, none⟩ Tryz.underlying201 Tryz.underlying150 hj hsh (by kernel_rfl)]
  simp only [Result.andThen]
  rw [Oper.upon_value]
  go_wp2
  go_end0
  exact ⟨rfl, rfl⟩
theorem copy_c (B b : Nat) (bs : List Value) (w : World) (h : Lib.IsBuilderF 153 5 B b bs w) :
    Calls Tryz.prog 99 #[.pointer (some ⟨b, 0, none⟩)] w fun e w' => e = .returned (.tuple #[]) ∧ (Lib.BuilderAtF 153 5 B b (.pointer (some ⟨b, 0, none⟩)) bs w' ∧ Below B w w' ∧ Lib.OthersKept 5 (some b) w w') := by
  rcases h with h | h
  · refine (copy_fresh b w h.cell0 h.shape h.frozen0).mono ?_
    rintro e w' ⟨rfl, rfl⟩
    exact ⟨rfl, h.used _, (Below.refl B w).setCell (p := ⟨b, 0, none⟩) h.1 _, (Lib.OthersKept.refl _ _ w).setCell ⟨b, 0, none⟩ rfl _⟩
  · refine (copy_used b w h.cell0).mono ?_
    rintro e w' ⟨rfl, rfl⟩
    exact ⟨rfl, h, Below.refl B _, Lib.OthersKept.refl _ _ _⟩
theorem bstr_c (B b : Nat) (l : List UInt8) (w : World) (h : BF B b l w) (hBw : B ≤ w.heap.size) :
    Calls Tryz.prog 81 #[.pointer (some ⟨b, 0, none⟩)] w fun e w' => e = .returned (.string ⟨l.toArray⟩) ∧ BF B b l w' ∧ Below B w w' :=
  (Tryz.Builder_String_any_f B b l w h hBw).mono (fun e w' h => h)
/-- A builder stays one over a call that leaves the old blocks as they were. -/
theorem BF_on {B b : Nat} {l : List UInt8} {w w' : World} (h : BF B b l w) (hb : Below w.heap.size w w') : BF B b l w' := by
  have key : ∀ p, Lib.BuilderAtF 153 5 B b p (Lib.byteCells l) w → Lib.BuilderAtF 153 5 B b p (Lib.byteCells l) w' := by
    intro p h
    obtain ⟨hB, v, hbk, hown, hne⟩ := h
    refine ⟨hB, v, (hb.block b (Array.getElem?_eq_some_iff.1 hbk).1).trans hbk, ⟨hown.1, ?_⟩, hne⟩
    rcases hown.2 with h0 | ⟨g, cap, cur, fz, h1, h2, h3, h4⟩
    · exact .inl h0
    · exact .inr ⟨g, cap, cur, fz, h1, h2, (hb.block g (Array.getElem?_eq_some_iff.1 h3).1).trans h3, h4⟩
  exact h.imp (key _) (key _)
end Go.Proofs.YtkjpdciccablpaaGreatDoor

/- tags.Quote and tags.Unquote: their contracts. -/
namespace Go.Proofs.YtkjpdciccablpaaGreatDoor
open Go.RowKit
set_option linter.unusedVariables false
set_option linter.unusedSimpArgs false

theorem enc_high (r : Nat) (h : 128 ≤ r) (h2 : r ≤ 1114111) : ∀ b ∈ Lib.encodeRune (r : Int), b ≠ 34 ∧ b ≠ 92 := by
  intro b hb
  have key : ∀ z : Int, 128 ≤ z → z ≤ 255 → ∀ b : UInt8, b = z.toNat.toUInt8 → b ≠ 34 ∧ b ≠ 92 := by
    intro z h0 h1 b hb
    have h3 : b.toNat = z.toNat := by rw [hb]; simp [Nat.toUInt8]; omega
    constructor <;> intro e <;> rw [e] at h3 <;> simp at h3 <;> omega
  unfold Lib.encodeRune at hb
  obtain ⟨z, hz, rfl⟩ := List.mem_map.1 hb
  refine key z ?_ ?_ _ rfl
  · unfold Lib.encodeRuneZ at hz
    split at hz
    · omega
    · split at hz
      · simp at hz; omega
      · split at hz
        · simp at hz; omega
        · split at hz <;> simp at hz <;> omega
  · unfold Lib.encodeRuneZ at hz
    split at hz
    · omega
    · split at hz
      · simp at hz; omega
      · split at hz
        · simp at hz; omega
        · split at hz <;> simp at hz <;> omega
theorem escL_same (l : List UInt8) (h : ∀ b ∈ l, b ≠ 34 ∧ b ≠ 92) : escL l = l := by
  induction l with
  | nil => rfl
  | cons b t ih =>
    obtain ⟨h1, h2⟩ := h b (by simp)
    show escB b ++ escL t = _
    rw [ih (fun x hx => h x (by simp [hx]))]
    unfold escB
    rw [if_neg (by rintro (e | e); exact h1 e; exact h2 e)]
    rfl
theorem escL_append (a b : List UInt8) : escL (a ++ b) = escL a ++ escL b := by simp [escL]
theorem rune_le {l : List UInt8} {r n : Nat} (h : rnL l = some (r, n)) : r ≤ 1114111 := by
  obtain ⟨h1, -⟩ := rnL_some h
  rw [Lib.decodeL_N] at h1
  rcases Lib.decodeN_shape l.length (l.getD 0 0).toNat (l.getD 1 0).toNat (l.getD 2 0).toNat (l.getD 3 0).toNat with ⟨c, e⟩ | ⟨c1, c2, c3, cv, e⟩ | ⟨c1, c2, c3, c4, cv, cs, e⟩ | ⟨c1, c2, c3, c4, c5, cv, cw, e⟩ | e
  all_goals
    rw [h1] at e
    injection e with e1 e2
  · omega
  · have := (l.getD 0 0).toNat_lt; omega
  · have := (l.getD 0 0).toNat_lt; omega
  · omega
  · omega
/-- A rune's bytes, escaped. -/
theorem esc_rune {l : List UInt8} (hne : l ≠ []) {r n : Nat} (h : rnL l = some (r, n)) : escL (l.take n) = if r = 34 ∨ r = 92 then 92 :: Lib.encodeRune (r : Int) else Lib.encodeRune (r : Int) := by
  have hle := rune_le h
  rw [← rnL_bytes hne h]
  by_cases h1 : r = 34 ∨ r = 92
  · rw [if_pos h1]
    rcases h1 with rfl | rfl <;> decide
  · rw [if_neg h1]
    apply escL_same
    by_cases h2 : r < 128
    · intro b hb
      unfold Lib.encodeRune at hb
      rw [Lib.encodeRuneZ_one (by omega) (by omega)] at hb
      simp at hb
      have h3 : b.toNat = r := by rw [hb]; simp [Nat.toUInt8]; omega
      constructor <;> intro e <;> rw [e] at h3 <;> simp at h3 <;> omega
    · exact enc_high r (by omega) hle
theorem take_step {s : ByteArray} {pos r n : Nat} (hp : pos < s.size) (h : rnAt s pos = some (r, n)) : escL (s.data.toList.take (pos + n)) = escL (s.data.toList.take pos) ++ (if r = 34 ∨ r = 92 then 92 :: Lib.encodeRune (r : Int) else Lib.encodeRune (r : Int)) := by
  rw [List.take_add, escL_append, esc_rune (drop_ne hp) h]
def quoteV (l : List UInt8) : Value := if tagOk l then .tuple #[.string ⟨(quoteL l).toArray⟩, .int .i64 0] else .tuple #[.string ⟨#[]⟩, .int .i64 16]
end Go.Proofs.YtkjpdciccablpaaGreatDoor

/- tags.Unquote: its contract. -/
namespace Go.Proofs.YtkjpdciccablpaaGreatDoor
open Go.RowKit
set_option linter.unusedVariables false
set_option linter.unusedSimpArgs false

def unqV (l : List UInt8) : Value := .tuple #[.string ⟨(unqL l).1.toArray⟩, .int .i64 ((unqL l).2.1 : Nat), .int .i64 (unqL l).2.2]
abbrev unqBad (e : Int) : Value := .tuple #[.string ⟨#[]⟩, .int .i64 0, .int .i64 e]
theorem unqV_head {l : List UInt8} (h : Lib.hasPrefix l [34] = false) : unqV l = unqBad 9 := by
  unfold unqV
  rw [show unqL l = ([], 0, 9) by
    cases l with
    | nil => rfl
    | cons c t =>
      by_cases hc : c = 34
      · subst hc
        simp [Lib.hasPrefix] at h
      · unfold unqL
        split
        · rename_i e
          injection e with e1 e2
          exact absurd e1 hc
        · rfl]
  rfl
theorem unqV_none {t : List UInt8} (h : scanL t = none) : unqV (34 :: t) = unqBad 9 := by
  unfold unqV
  rw [show unqL (34 :: t) = ([], 0, 9) by unfold unqL; simp only [h]]
  rfl
theorem unqV_some {t x : List UInt8} {n : Nat} (h : scanL t = some (x, n)) : unqV (34 :: t) = if tagOk x then .tuple #[.string ⟨x.toArray⟩, .int .i64 (n + 1 : Nat), .int .i64 0] else unqBad 16 := by
  unfold unqV
  by_cases hx : tagOk x = true
  · rw [show unqL (34 :: t) = (x, n + 1, 0) by unfold unqL; simp only [h]; rw [if_pos hx], if_pos hx]
  · rw [show unqL (34 :: t) = ([], 0, 16) by unfold unqL; simp only [h]; rw [if_neg hx], if_neg hx]
    rfl
theorem drop_cons (s : ByteArray) (i : Nat) (h : i < s.size) : s.data.toList.drop i = s[i] :: s.data.toList.drop (i + 1) := by
  have h' : i < s.data.toList.length := by rw [len_bytes]; exact h
  rw [List.drop_eq_getElem_cons h']
  rfl
/-- What is behind the place i, with the backslash ahead where one is open. -/
def pend (s : ByteArray) (i : Nat) (esc : Bool) : List UInt8 := if esc then 92 :: s.data.toList.drop i else s.data.toList.drop i
/-- The scan so far: acc is read, off bytes are taken. -/
def Sc (t : List UInt8) (acc : List UInt8) (off : Nat) (rest : List UInt8) : Prop := scanL t = (scanL rest).map fun x => (acc ++ x.1, off + x.2)
theorem byt_is {a c : UInt8} (h : a = c) (m : Int) (hm : (c.toNat : Int) = m) : ((a.toNat : Int) != m) = false ∧ ((a.toNat : Int) == m) = true := by
  subst h
  rw [hm]
  simp
theorem byt_not {a c : UInt8} (h : a ≠ c) (m : Int) (hm : (c.toNat : Int) = m) : ((a.toNat : Int) != m) = true ∧ ((a.toNat : Int) == m) = false := by
  have : ¬ (a.toNat : Int) = m := fun e => h (UInt8.toNat_inj.1 (by omega))
  exact ⟨by rw [bne_iff_ne]; exact this, by rw [beq_eq_false_iff_ne]; exact this⟩
end Go.Proofs.YtkjpdciccablpaaGreatDoor

/- Appending to a slice of one's own, and where the new one lies. Plain, no program in sight. -/
namespace Go.Proofs.YtkjpdciccablpaaGreatDoor
open Go.RowKit
set_option linter.unusedVariables false
set_option linter.unusedSimpArgs false
theorem app_any2 {P : Program} {w : World} {t ty : TypeId} {b : Nat} {e : TypeId} {i : TypeInfo} {z : Value} {k bytes : Nat} (ht : P.underlying t = some (.slice e)) (hi : P.info? e = some i) (hz : i.zero = some z) (hsize : i.size = k) (hby : i.bytes = bytes) (hzs : z.cells.size = k) (hsz : 0 < k)
    {v x : Value} {L E : List (List Value)} (hv : OwnsC e k b w v L) (hx : Src w k x E) (h63 : L.length + E.length ≤ 100000) (hbs : bytes ≤ 1000) (hb : b ≤ w.heap.size) :
    ∃ a c w', (Builtin.append_ #[t, t] ty #[v, x]).run P w = .ok (.slice a (L.length + E.length) c) w' ∧ OwnsC e k b w' (.slice a (L.length + E.length) c) (L ++ E) ∧ w.grownBy w' v.ownBlock ∧ ∀ g, (Value.slice a (L.length + E.length) c).ownBlock = some g → v.ownBlock = some g ∨ w.heap.size ≤ g := by
  have hall : ∀ c ∈ L ++ E, c.length = k := fun c hc => by
    rcases List.mem_append.1 hc with h | h
    · exact hv.1 c h
    · exact hx.len c h
  rcases hx.at_ with ⟨rfl, rfl⟩ | ⟨ad, c, rfl, hs⟩
  · have hr := run_append_owned_none (P := P) (w := w) b t ty e i k ht hi v _ _ hv.2
    obtain ⟨a, c, rfl⟩ := hv.len
    exact ⟨a, c, w, hr, by rw [List.append_nil]; exact hv, ⟨rfl, rfl, rfl, Nat.le_refl _, fun _ _ _ => rfl⟩, fun g hg => .inl hg⟩
  · have hbb : (L.length + E.length) * bytes ≤ 140737488355328 := by
      have h1 : (L.length + E.length) * bytes ≤ 100000 * 1000 := Nat.mul_le_mul h63 hbs
      omega
    obtain ⟨v', w', hr, h2, h3, _, h5⟩ := run_append_own_at (P := P) w b t ty e i z k bytes ht hi hz hsize hby hzs hsz v L.length L.flatten hv.2 ad E.length c E.flatten (flat_len hx.len) hs (fun u hu => by
      obtain ⟨c, hc, hu⟩ := List.mem_flatten.1 hu
      exact hx.one c hc u hu) (by unfold maxLen; omega) hbb hb
    have hO : OwnsC e k b w' v' (L ++ E) := by
      refine ⟨hall, ?_⟩
      rw [List.length_append, List.flatten_append]
      exact h2
    obtain ⟨a, c2, hv'⟩ := hO.len
    rw [List.length_append] at hv'
    subst hv'
    refine ⟨a, c2, w', hr, hO, h3, fun g hg => ?_⟩
    rcases h5 with h5 | h5
    · exact .inl (h5.symm.trans hg)
    · rw [hg] at h5
      injection h5 with h5
      exact .inr (by omega)
/-- At a step of a region that draws its order. -/
theorem step_app2 {P : Program} {w : World} {ops : Array Oper} {o : Oper} {a : Act} {K : Act → World → Prop} {Q : Exit → Act → World → Prop} {X : Prop} (hgd : o.guard = none) (s x : Operand) (t : TypeId) (ho : o.op = .call { callee := .builtin .append, args := #[s, x], argTypes := #[t, t] })
    {b : Nat} {e : TypeId} {i : TypeInfo} {z : Value} {k bytes : Nat} (ht : P.underlying t = some (.slice e)) (hi : P.info? e = some i) (hz : i.zero = some z) (hsize : i.size = k) (hby : i.bytes = bytes) (hzs : z.cells.size = k) (hsz : 0 < k)
    {v xv : Value} {L E : List (List Value)} (hs : a.eval s = v) (hxv : a.eval x = xv) (hv : OwnsC e k b w v L) (hx : Src w k xv E) (h63 : L.length + E.length ≤ 100000) (hbs : bytes ≤ 1000) (hb : b ≤ w.heap.size)
    (h : ∀ aa c w', OwnsC e k b w' (.slice aa (L.length + E.length) c) (L ++ E) → w.grownBy w' v.ownBlock → (∀ g, (Value.slice aa (L.length + E.length) c).ownBlock = some g → v.ownBlock = some g ∨ w.heap.size ≤ g) → K (a.put o.dst (.slice aa (L.length + E.length) c)) w') : if Region.wanted o (yielded ops a.tmps) = true then Oper.wp P o a w K Q else X := by
  have hw : Region.wanted o (yielded ops a.tmps) = true := by unfold Region.wanted; rw [hgd]
  rw [if_pos hw]
  obtain ⟨aa, c, w', hr, h2, h3, h4⟩ := app_any2 (P := P) (ty := o.type) ht hi hz hsize hby hzs hsz hv hx h63 hbs hb
  unfold Oper.wp
  simp [execOp, ho, resolve, invoke, builtin, hs, hxv, hr, Result.andThen]
  exact h aa c w' h2 h3 h4
end Go.Proofs.YtkjpdciccablpaaGreatDoor

/- As XLast, where the last operation waits for the others by way of others. Plain, no program in sight. -/
namespace Go.Proofs.YtkjpdciccablpaaGreatDoor
set_option linter.unusedVariables false
set_option linter.unusedSimpArgs false
section
variable {P : Program} {ops : Array Oper} {Q : Exit → Act → World → Prop} {md : Region.Mode} {S : World → Prop} {n : Nat}
/-- In whatever order the rest comes up, it ends well; S holds behind each operation but number n. -/
def AnyM (P : Program) (md : Region.Mode) (ops : Array Oper) (Q : Exit → Act → World → Prop) (S : World → Prop) (n : Nat) (fuel : Nat) : Array Bool → Act → World → Prop :=
  Nat.rec (fun l a w => Region.ready md ops l = [] ∧ Q .normal a w)
    (fun _ rest l a w => (Region.ready md ops l = [] → Q .normal a w) ∧ ∀ i ∈ Region.ready md ops l, wpOp P ops Q i (fun a' w' => (i ≠ n → S w') ∧ rest (l.setIfInBounds i true) a' w') a w) fuel
theorem AnyM.plain : ∀ (fuel : Nat) {l : Array Bool} {a : Act} {w : World}, AnyM P md ops Q S n fuel l a w → wpAny P md ops Q fuel l a w
  | 0, _, _, _, h => h
  | f + 1, _, _, _, h => ⟨h.1, fun i hi => wpOp_mono (fun _ _ h2 => AnyM.plain f h2.2) (h.2 i hi)⟩
/-- Number j waits for number i, by way of others too. -/
def waitsM (md : Region.Mode) (ops : Array Oper) (i : Nat) : Nat → Nat → Bool
  | 0, _ => false
  | f + 1, j => match ops[j]? with
    | some o => o.after.any fun e => Region.binds md e && (e.on == i || waitsM md ops i f e.on)
    | none => false
def ClosedM (md : Region.Mode) (ops : Array Oper) (l : Array Bool) : Prop := ∀ k o, ops[k]? = some o → l.getD k false = true → ∀ e ∈ o.after, Region.binds md e = true → l.getD e.on false = true
def closedB (md : Region.Mode) (ops : Array Oper) (l : Array Bool) : Bool := (List.range ops.size).all fun k => !(l.getD k false) || match ops[k]? with
  | some o => o.after.all fun e => !(Region.binds md e) || l.getD e.on false
  | none => true
theorem closed_of {l : Array Bool} (h : closedB md ops l = true) : ClosedM md ops l := fun k o hk hl e he hb => by
  unfold closedB at h
  have h1 := List.all_eq_true.1 h k (List.mem_range.2 (Array.getElem?_eq_some_iff.1 hk).1)
  rw [hk, hl] at h1
  simp only [Bool.not_true, Bool.false_or] at h1
  have h2 := (Array.all_eq_true'.1 h1) e he
  rw [hb] at h2
  simpa using h2
theorem ClosedM.next {l : Array Bool} (h : ClosedM md ops l) {j : Nat} (hj : j ∈ Region.ready md ops l) : ClosedM md ops (l.setIfInBounds j true) := fun k o hk hl e he hb => by
  rcases Classical.em (j = k) with rfl | hne
  · obtain ⟨_, o', ho, hall⟩ := mem_ready.1 hj
    rw [hk] at ho
    cases ho
    exact getD_set_true (hall e he hb)
  · rw [getD_set_ne false hne] at hl
    exact getD_set_true (h k o hk hl e he hb)
theorem reach_listed {l : Array Bool} (hc : ClosedM md ops l) {i : Nat} : ∀ (f j : Nat), waitsM md ops i f j = true → (∀ o, ops[j]? = some o → ∀ e ∈ o.after, Region.binds md e = true → l.getD e.on false = true) → l.getD i false = true
  | 0, j, h, _ => by cases h
  | f + 1, j, h, hd => by
    unfold waitsM at h
    cases ho : ops[j]? with
    | none => rw [ho] at h; cases h
    | some o =>
      rw [ho] at h
      obtain ⟨e, he, h2⟩ := Array.any_eq_true'.1 h
      simp only [Bool.and_eq_true, Bool.or_eq_true, beq_iff_eq] at h2
      have h3 := hd o ho e he h2.1
      rcases h2.2 with h4 | h4
      · rw [← h4]; exact h3
      · exact reach_listed hc f e.on h4 (fun o' ho' e' he' hb' => hc e.on o' ho' h3 e' he' hb')
theorem not_late {l : Array Bool} {i j : Nat} (hw : waitsM md ops i 30 n = true) (hc : ClosedM md ops l) (hi : i ∈ Region.ready md ops l) (hj : j ∈ Region.ready md ops l) : j ≠ n := by
  rintro rfl
  obtain ⟨_, o, ho, hall⟩ := mem_ready.1 hj
  have h3 := reach_listed hc 30 j hw (fun o' ho' e he hb => by
    rw [ho] at ho'
    cases ho'
    exact hall e he hb)
  have h4 := (mem_ready.1 hi).1
  rcases Nat.lt_or_ge i l.size with h5 | h5
  · simp [h5] at h3 h4
    rw [h4] at h3
    cases h3
  · simp [Array.getElem?_eq_none h5] at h3
theorem anyM_first {i : Nat} {oi : Oper} {v : Value} (hi : ops[i]? = some oi) (hs : Region.noSelect ops = true) (hw : waitsM md ops i 30 n = true) (hQ : ∀ c a w, Q (.panic c) (a.put oi.dst v) w → Q (.panic c) a w) (fuel : Nat) :
    ∀ (l : Array Bool) (a : Act) (w : World), ClosedM md ops l → (∀ j oj, ops[j]? = some oj → j ≠ i → l.getD j true = false → (∀ e ∈ oj.after, Region.binds md e = true → e.on ≠ i) → oi.apart ops oj = true) →
      i ∈ Region.ready md ops l → YieldsIf P ops S oi v a → S w → AnyM P md ops Q S n fuel (l.setIfInBounds i true) (a.put oi.dst v) w → AnyM P md ops Q S n (fuel + 1) l a w := by
  have hsel := Region.noSelect_spec hs
  induction fuel with
  | zero =>
    intro l a w _ _ hr hy hS H
    refine ⟨fun h0 => absurd hr (by rw [h0]; exact List.not_mem_nil), fun j hj => ?_⟩
    rcases Classical.em (j = i) with rfl | hne
    · exact hy.wpOp hi hS ⟨fun _ => hS, H⟩
    · exact absurd (ready_mono hj hne) (by rw [H.1]; exact List.not_mem_nil)
  | succ f ih =>
    intro l a w hcl hfree hr hy hS H
    refine ⟨fun h0 => absurd hr (by rw [h0]; exact List.not_mem_nil), fun j hj => ?_⟩
    rcases Classical.em (j = i) with rfl | hne
    · exact hy.wpOp hi hS ⟨fun _ => hS, H⟩
    have hjn : j ≠ n := not_late hw hcl hr hj
    obtain ⟨hju, oj, hoj, hall⟩ := mem_ready.1 hj
    have hedge : ∀ e ∈ oj.after, Region.binds md e = true → e.on ≠ i := fun e he hb hei => by
      have h1 := hall e he hb
      have h0 := (mem_ready.1 hr).1
      rw [hei] at h1
      rcases Nat.lt_or_ge i l.size with h5 | h5
      · simp [h5] at h0 h1
        rw [h0] at h1
        cases h1
      · simp [Array.getElem?_eq_none h5] at h1
    have step := wpOp_putIf hoj (hfree j oj hoj hne hju hedge) (fun cs b => hsel i oi cs b hi) (fun cs b => hsel j oj cs b hoj) hQ hy (H.2 j (ready_mono hj hne))
    refine wpOp_mono (fun a' w' h3 => ⟨h3.2.1, ih (l.setIfInBounds j true) a' w' (hcl.next hj) (fun k ok hk hki hun hno => hfree k ok hk hki ?_ hno) (ready_mono hr (Ne.symm hne)) h3.1 (h3.2.1 hjn) ?_⟩) step
    · rcases Classical.em (j = k) with rfl | hjk
      · exact hju
      · rwa [getD_set_ne true hjk] at hun
    · rw [Array.setIfInBounds_comm _ _ hne]
      exact h3.2.2
/-- Number i is taken first. -/
theorem anyM_take {i : Nat} {oi : Oper} {v : Value} {fuel : Nat} {l : Array Bool} {a : Act} {w : World} (hi : ops[i]? = some oi) (hs : Region.noSelect ops = true) (hf : Region.free md ops l i = true) (hr : (Region.ready md ops l).contains i = true) (hw : waitsM md ops i 30 n = true) (hcl : closedB md ops l = true)
    (hQ : ∀ c a w, Q (.panic c) (a.put oi.dst v) w → Q (.panic c) a w) (hy : YieldsIf P ops S oi v a) (hS : S w) (h : AnyM P md ops Q S n fuel (l.setIfInBounds i true) (a.put oi.dst v) w) : AnyM P md ops Q S n (fuel + 1) l a w :=
  anyM_first hi hs hw hQ fuel l a w (closed_of hcl) (Region.free_spec hi hf) (by simpa using hr) hy hS h
def ReadyM (P : Program) (md : Region.Mode) (ops : Array Oper) (Q : Exit → Act → World → Prop) (S : World → Prop) (n fuel : Nat) (l : Array Bool) (a : Act) (w : World) (rs : List Nat) : Prop :=
  ∀ i ∈ rs, wpOp P ops Q i (fun a' w' => (i ≠ n → S w') ∧ AnyM P md ops Q S n fuel (l.setIfInBounds i true) a' w') a w
theorem ReadyM.nil {fuel : Nat} {l : Array Bool} {a : Act} {w : World} : ReadyM P md ops Q S n fuel l a w [] := fun _ h => absurd h List.not_mem_nil
theorem ReadyM.cons {fuel : Nat} {l : Array Bool} {a : Act} {w : World} {i : Nat} {o : Oper} {rs : List Nat} (ho : ops[i]? = some o)
    (h : ∀ K' : Act → World → Prop, Shut (∀ a w, (i ≠ n → S w) → ((i ≠ n → S w) → AnyM P md ops Q S n fuel (l.setIfInBounds i true) a w) → K' a w) → if Region.wanted o (yielded ops a.tmps) = true then Oper.wp P o a w K' Q else K' (a.put o.dst undef) w)
    (hs : ReadyM P md ops Q S n fuel l a w rs) : ReadyM P md ops Q S n fuel l a w (i :: rs) := fun j hj => by
  rcases List.mem_cons.1 hj with rfl | hj
  · exact wpOp_step ho (fun K' hK => h K' (fun a w h1 h2 => hK a w ⟨h1, h2 h1⟩))
  · exact hs j hj
theorem anyM_ready {rs : List Nat} {fuel : Nat} {l : Array Bool} {a : Act} {w : World} (hr : Region.ready md ops l = rs) (hne : rs ≠ []) (h : ReadyM P md ops Q S n fuel l a w rs) : AnyM P md ops Q S n (fuel + 1) l a w :=
  ⟨fun h0 => absurd (hr ▸ h0) hne, hr ▸ h⟩
theorem anyM_done {l : Array Bool} {a : Act} {w : World} (hr : Region.ready md ops l = []) (h : Q .normal a w) : ∀ fuel, AnyM P md ops Q S n fuel l a w
  | 0 => ⟨hr, h⟩
  | _ + 1 => ⟨fun _ => h, fun i hi => absurd (hr ▸ hi) List.not_mem_nil⟩
theorem region_late {id : Nat} {a : Act} {w : World} (n : Nat) (hm : P.follows .mixedOrders = true) (hS : S w.drew) (h : S w.drew → AnyM P .any ops Q S n ops.size (Array.replicate ops.size false) a w.drew) : (Code.region id ops true).wp P Q a w :=
  wp_region_any hm (AnyM.plain _ (h hS))
end
end Go.Proofs.YtkjpdciccablpaaGreatDoor
